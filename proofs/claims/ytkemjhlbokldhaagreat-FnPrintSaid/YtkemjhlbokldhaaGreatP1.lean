/- Lemmas of the walks, part 1. -/
import Derived.WalkKit
import Derived.ProofKit
import Derived.OpenShut
import Derived.Deep.Slices
import Derived.WalkSpells
import Derived.WalkLawsBesides
import Derived.Lib.Hide
import Derived.Test.YtkemjhlbokldhaaGreatRows
import Derived.Deep.RegionWith
import Derived.BigQuiet
import Derived.Deep.RegionHeld3
import Derived.Deep.QuietTactic
import Derived.Deep.Draws
import Derived.Lib.Bytealg
import Derived.Laws.AppendOwn
import Derived.Laws.Cells
import Derived.Orders
import Derived.Deep.LoopGhost
import Derived.OwnWalk
import Derived.Laws.StructEq
namespace Go.Proofs.YtkemjhlbokldhaaGreat
open Go.RowKit Go.ChangeShapes Go.WideShapes Go.Deep

theorem O : True := trivial
theorem J {α : Sort _} {a : α} : a = a := rfl
structure Enc (α : Type) where
 size : Nat
 rep : World → List Value → α → List Nat → Prop
 len : ∀ {w cs a bs}, rep w cs a bs → cs.length = size
 keep : ∀ {w w' cs a bs}, rep w cs a bs → (∀ b ∈ bs, w'.heap[b]? = w.heap[b]?) → w.heap.size ≤ w'.heap.size → rep w' cs a bs
 lt : ∀ {w cs a bs}, rep w cs a bs → ∀ b ∈ bs, b < w.heap.size

section
variable {α β : Type} {w w' : World} {cs : List Value} {bs : List Nat}

theorem Enc.below {e : Enc α} {a : α} {B : Nat} (h : e.rep w cs a bs) (hb : Below B w w') (hB : ∀ b ∈ bs, b < B) : e.rep w' cs a bs :=
 e.keep h (fun b hbm => hb.block b (hB b hbm)) hb.size
theorem Enc.up {e : Enc α} {a : α} (h : e.rep w cs a bs) (hb : Below w.heap.size w w') : e.rep w' cs a bs :=
 Enc.below h hb (e.lt h)

def Fresh (lo : Nat) (w : World) (bs : List Nat) : Prop := bs.Nodup ∧ ∀ b ∈ bs, lo ≤ b ∧ ∃ c t, w.heap[b]? = some (.cells c t (0, 0))

theorem Fresh.nil {lo : Nat} : Fresh lo w [] := ⟨List.nodup_nil, fun b h => by cases h⟩
theorem Fresh.lt {lo : Nat} (h : Fresh lo w bs) : ∀ b ∈ bs, b < w.heap.size := by
 intro b hb
 obtain ⟨_, c, t, hc⟩ := h.2 b hb
 exact (Array.getElem?_eq_some_iff.1 hc).1
theorem Fresh.below {lo B : Nat} (h : Fresh lo w bs) (hb : Below B w w') (hB : ∀ b ∈ bs, b < B) : Fresh lo w' bs :=
 ⟨h.1, fun b hm => by
   obtain ⟨h1, c, t, hc⟩ := h.2 b hm
   exact ⟨h1, c, t, (hb.block b (hB b hm)).trans hc⟩⟩
theorem Fresh.up {lo : Nat} (h : Fresh lo w bs) (hb : Below w.heap.size w w') : Fresh lo w' bs := h.below hb h.lt
theorem Fresh.mono {lo lo' : Nat} (h : Fresh lo w bs) (hl : lo' ≤ lo) : Fresh lo' w bs :=
 ⟨h.1, fun b hm => ⟨Nat.le_trans hl (h.2 b hm).1, (h.2 b hm).2⟩⟩
theorem Fresh.app {lo : Nat} {bs' : List Nat} (h : Fresh lo w bs) (h' : Fresh lo w bs') (hd : ∀ b ∈ bs, b ∉ bs') : Fresh lo w (bs ++ bs') :=
 ⟨List.nodup_append.2 ⟨h.1, h'.1, fun a ha b hb e => hd a ha (e ▸ hb)⟩, fun b hm => by
   rcases List.mem_append.1 hm with hm | hm
   · exact h.2 b hm
   · exact h'.2 b hm⟩

def intE (k : IntKind) : Enc Int where
 size := 1
 rep := fun _ cs n bs => cs = [.int k n] ∧ (Lit.int k n).wf = true ∧ bs = []
 len := by rintro w cs a bs ⟨rfl, _⟩; rfl
 keep := fun h _ _ => h
 lt := by rintro w cs a bs ⟨_, _, rfl⟩ b hb; cases hb
def DM : Enc ByteArray where
 size := 1
 rep := fun _ cs s bs => cs = [.string s] ∧ s.size ≤ maxLen ∧ bs = []
 len := by rintro w cs a bs ⟨rfl, _⟩; rfl
 keep := fun h _ _ => h
 lt := by rintro w cs a bs ⟨_, _, rfl⟩ b hb; cases hb
def Gc : Enc Unit where
 size := 0
 rep := fun _ cs _ bs => cs = [] ∧ bs = []
 len := by rintro w cs a bs ⟨rfl, _⟩; rfl
 keep := fun h _ _ => h
 lt := by rintro w cs a bs ⟨_, rfl⟩ b hb; cases hb
def C3 (e : Enc α) (f : Enc β) : Enc (α × β) where
 size := e.size + f.size
 rep := fun w cs x bs => ∃ c1 c2 b1 b2, cs = c1 ++ c2 ∧ bs = b1 ++ b2 ∧ e.rep w c1 x.1 b1 ∧ f.rep w c2 x.2 b2
 len := by rintro w cs a bs ⟨c1, c2, b1, b2, rfl, rfl, h1, h2⟩; simp [e.len h1, f.len h2]
 keep := by
   rintro w w' cs a bs ⟨c1, c2, b1, b2, rfl, rfl, h1, h2⟩ hk hs
   exact ⟨c1, c2, b1, b2, rfl, rfl, e.keep h1 (fun b hb => hk b (List.mem_append_left _ hb)) hs, f.keep h2 (fun b hb => hk b (List.mem_append_right _ hb)) hs⟩
 lt := by
   rintro w cs a bs ⟨c1, c2, b1, b2, rfl, rfl, h1, h2⟩ b hb
   rcases List.mem_append.1 hb with hb | hb
   · exact e.lt h1 b hb
   · exact f.lt h2 b hb
def isoE (e : Enc α) (f : β → α) : Enc β where
 size := e.size
 rep := fun w cs x bs => e.rep w cs (f x) bs
 len := fun h => e.len h
 keep := fun h => e.keep h
 lt := fun h => e.lt h

def Elems (e : Enc α) (w : World) (g off : Nat) (xs : List α) (bss : List (List Nat)) : Prop :=
 bss.length = xs.length ∧ ∀ i x b, xs[i]? = some x → bss[i]? = some b → ∃ cs, e.rep w cs x b ∧ ∀ j u, cs[j]? = some u → w.cell? ⟨g, off + i * e.size + j, none⟩ = some u

theorem Elems.keep {e : Enc α} {g off : Nat} {xs : List α} {bss : List (List Nat)} (h : Elems e w g off xs bss) (hg : w'.heap[g]? = w.heap[g]?)
   (hk : ∀ b ∈ bss.flatten, w'.heap[b]? = w.heap[b]?) (hs : w.heap.size ≤ w'.heap.size) : Elems e w' g off xs bss := by
 refine ⟨h.1, fun i x b hx hb => ?_⟩
 obtain ⟨cs, h1, h2⟩ := h.2 i x b hx hb
 exact ⟨cs, e.keep h1 (fun c hc => hk c (List.mem_flatten.2 ⟨b, List.mem_of_getElem? hb, hc⟩)) hs, fun j u hu => (World.cell?_of_block (w := w) hg).trans (h2 j u hu)⟩

def SliceRep (e : Enc α) (w : World) (a : Option Addr) (n cap : Nat) (xs : List α) (bs : List Nat) : Prop :=
 n = xs.length ∧ n ≤ cap ∧ cap ≤ maxLen ∧ (a = none → cap = 0) ∧ ((xs = [] ∧ bs = []) ∨ ∃ g off bss, xs ≠ [] ∧ a = some ⟨g, off, none⟩ ∧ g < w.heap.size ∧ bs = g :: bss.flatten ∧ Elems e w g off xs bss)

def Fh (e : Enc α) : Enc (List α) where
 size := 1
 rep := fun w cs xs bs => ∃ a n cap, cs = [.slice a n cap] ∧ SliceRep e w a n cap xs bs
 len := by rintro w cs a bs ⟨a, n, cap, rfl, _⟩; rfl
 keep := by
   rintro w w' cs xs bs ⟨a, n, cap, rfl, h1, h2, h3, h4, h5⟩ hk hs
   refine ⟨a, n, cap, rfl, h1, h2, h3, h4, ?_⟩
   rcases h5 with h5 | ⟨g, off, bss, hne, ha, hg, rfl, hE⟩
   · exact .inl h5
   · exact .inr ⟨g, off, bss, hne, ha, by omega, rfl, hE.keep (hk g (List.mem_cons_self ..)) (fun b hb => hk b (List.mem_cons_of_mem _ hb)) hs⟩
 lt := by
   rintro w cs xs bs ⟨a, n, cap, rfl, h1, h2, h3, h4, h5⟩ b hb
   rcases h5 with ⟨_, rfl⟩ | ⟨g, off, bss, hne, ha, hg, rfl, hE⟩
   · cases hb
   · rcases List.mem_cons.1 hb with rfl | hb
     · exact hg
     · obtain ⟨l, hl, hbl⟩ := List.mem_flatten.1 hb
       obtain ⟨i, hi, rfl⟩ := List.getElem_of_mem hl
       have hi' : i < xs.length := by rw [← hE.1]; exact hi
       obtain ⟨cs, h6, _⟩ := hE.2 i xs[i] bss[i] (List.getElem?_eq_getElem hi') (List.getElem?_eq_getElem hi)
       exact e.lt h6 b hbl

theorem sliceE_iff {e : Enc α} {a : Option Addr} {n cap : Nat} {xs : List α} : (Fh e).rep w [.slice a n cap] xs bs ↔ SliceRep e w a n cap xs bs := by
 constructor
 · rintro ⟨a', n', cap', h, h2⟩
   simp only [List.cons.injEq, Value.slice.injEq, and_true] at h
   obtain ⟨rfl, rfl, rfl⟩ := h
   exact h2
 · exact fun h => ⟨_, _, _, rfl, h⟩
section
variable {e : Enc α} {a : Option Addr} {n cap : Nat} {xs : List α}
theorem SliceRep.keep (h : SliceRep e w a n cap xs bs) (hk : ∀ b ∈ bs, w'.heap[b]? = w.heap[b]?) (hs : w.heap.size ≤ w'.heap.size) : SliceRep e w' a n cap xs bs :=
 sliceE_iff.1 ((Fh e).keep (sliceE_iff.2 h) hk hs)
theorem SliceRep.lt (h : SliceRep e w a n cap xs bs) : ∀ b ∈ bs, b < w.heap.size := (Fh e).lt (sliceE_iff.2 h)
theorem SliceRep.up (h : SliceRep e w a n cap xs bs) (hb : Below w.heap.size w w') : SliceRep e w' a n cap xs bs :=
 h.keep (fun b hbm => hb.block b (h.lt b hbm)) hb.size
theorem SliceRep.max (h : SliceRep e w a n cap xs bs) : xs.length ≤ 9223372036854775807 := by
 have h1 := h.1
 have h2 := h.2.1
 have h3 := h.2.2.1
 unfold maxLen at h3
 omega
theorem SliceRep.get (h : SliceRep e w a n cap xs bs) {i : Nat} (hi : i < xs.length) :
   ∃ g off cs b, a = some ⟨g, off, none⟩ ∧ e.rep w cs xs[i] b ∧ (∀ j u, cs[j]? = some u → w.cell? ⟨g, off + i * e.size + j, none⟩ = some u) ∧ (∀ c ∈ b, c ∈ bs) ∧ g ∈ bs := by
 obtain ⟨_, _, _, _, h5⟩ := h
 rcases h5 with ⟨rfl, _⟩ | ⟨g, off, bss, hne, ha, hg, rfl, hE⟩
 · simp at hi
 · have hi' : i < bss.length := by rw [hE.1]; exact hi
   obtain ⟨cs, h6, h7⟩ := hE.2 i xs[i] bss[i] (List.getElem?_eq_getElem hi) (List.getElem?_eq_getElem hi')
   exact ⟨g, off, cs, bss[i], ha, h6, h7, fun c hc => List.mem_cons_of_mem _ (List.mem_flatten.2 ⟨_, List.getElem_mem hi', hc⟩), List.mem_cons_self ..⟩
end
end

def Opens (P : Program) {α : Type} (e : Enc α) (t : TypeId) : Prop :=
 ∀ {H : Type} {enc : TypeId × Value → H} {w : World} {base : Nat} {spare : Nat → Bool} {held : Bool} {fuel : Nat} {cs : List Value} {x : DataW H × List MemPlace},
   DataW.trod enc P w base spare held fuel t cs = some x → ∃ a bs, e.rep w cs a bs

theorem opens_int {P : Program} {t : TypeId} {k : IntKind} (ht : P.underlying t = some (.int k)) : Opens P (intE k) t := by
 intro H enc w base spare held fuel cs x h
 obtain ⟨n, rfl, rfl, hn⟩ := DataW.trod_int ht h
 exact ⟨n, [], rfl, hn, rfl⟩
theorem cells_lt {w : World} {base : Nat} {a : Addr} {n : Nat} {cs : List Value} (h : w.cells? base a n = some cs) (hn : 0 < n) : a.spot = none ∧ a.block < w.heap.size := by
 obtain ⟨_, hl, hc⟩ := World.cells?_some h
 have h0 := hc 0 hn
 have : cs[0]? = some (cs[0]'(by omega)) := List.getElem?_eq_getElem (by omega)
 rw [this] at h0
 refine ⟨World.cell?_spot (by simpa [Addr.add] using h0), ?_⟩
 have h1 : w.cell? a = some (cs[0]'(by omega)) := by simpa [Addr.add] using h0
 unfold World.cell? at h1
 rcases Nat.lt_or_ge a.block w.heap.size with hlt | hge
 · exact hlt
 · rw [Array.getElem?_eq_none hge] at h1; cases h1

theorem opens_slice {P : Program} {t el : TypeId} {α : Type} {e : Enc α} (ht : P.underlying t = some (.slice el)) (hc : P.cellsOf el = e.size) (hpos : 0 < e.size) (h : Opens P e el) : Opens P (Fh e) t := by
 intro H enc w base spare held fuel cs x hx
 rcases Go.Deep.open_slice ht hx with ⟨rfl, _⟩ | ⟨a, len, cap, m, n, D, Pl, rfl, _, hl, hm, hmm, _, hi⟩
 · exact ⟨[], [], none, 0, 0, rfl, rfl, Nat.le_refl _, by unfold maxLen; omega, fun _ => rfl, .inl ⟨rfl, rfl⟩⟩
 · have hlm : len ≤ m := by rw [hmm]; split <;> omega
   have hel : ∀ i : Fin len, ∃ y : α × List Nat × List Value, e.rep w y.2.2 y.1 y.2.1 ∧ (∀ j u, y.2.2[j]? = some u → w.cell? ((a.add (i.1 * e.size)).add j) = some u) ∧ (a.add (i.1 * e.size)).spot = none ∧ (a.add (i.1 * e.size)).block < w.heap.size := by
     intro i
     obtain ⟨cs', h1, h2⟩ := hi i.1 (by omega)
     rw [hc] at h1
     obtain ⟨y, bs, hr⟩ := h h2
     obtain ⟨hs, hb⟩ := cells_lt h1 hpos
     obtain ⟨_, hl, hcl⟩ := World.cells?_some h1
     exact ⟨(y, bs, cs'), hr, fun j u hu => by rw [hcl j (by have h8 : j < cs'.length := (List.getElem?_eq_some_iff.1 hu).1; omega)]; exact hu, hs, hb⟩
   have hF : ∃ F : Fin len → α × List Nat × List Value, ∀ i, e.rep w (F i).2.2 (F i).1 (F i).2.1 ∧ (∀ j u, (F i).2.2[j]? = some u → w.cell? ((a.add (i.1 * e.size)).add j) = some u) ∧ (a.add (i.1 * e.size)).spot = none ∧ (a.add (i.1 * e.size)).block < w.heap.size := ⟨fun i => Classical.choose (hel i), fun i => Classical.choose_spec (hel i)⟩
   obtain ⟨F, hF⟩ := hF
   rcases Nat.eq_zero_or_pos len with h0 | h0
   · subst h0
     exact ⟨[], [], some a, 0, cap, rfl, rfl, Nat.zero_le _, hm, (fun h => by cases h), .inl ⟨rfl, rfl⟩⟩
   · obtain ⟨_, _, hs, hb⟩ := hF ⟨0, h0⟩
     obtain ⟨g, off, spot⟩ := a
     have hs' : spot = none := by simpa [Addr.add] using hs
     subst hs'
     have hb' : g < w.heap.size := by simpa [Addr.add] using hb
     refine ⟨List.ofFn fun i => (F i).1, g :: (List.ofFn fun i => (F i).2.1).flatten, some ⟨g, off, none⟩, len, cap, rfl, by simp, hl, hm, (fun h => by cases h), .inr ⟨g, off, List.ofFn fun i => (F i).2.1, ?_, rfl, hb', rfl, by simp, ?_⟩⟩
     · intro h; have := congrArg List.length h; simp at this; omega
     · intro i x b hx hbb
       rw [List.getElem?_ofFn] at hx hbb
       split at hx
       · rename_i hil
         rw [dif_pos hil] at hbb
         simp only [Option.some.injEq] at hx hbb
         subst hx; subst hbb
         obtain ⟨h1, h2, _, _⟩ := hF ⟨i, hil⟩
         refine ⟨_, h1, fun j u hu => ?_⟩
         have := h2 j u hu
         have ha : ((Addr.add ⟨g, off, none⟩ (i * e.size)).add j) = (⟨g, off + i * e.size + j, none⟩ : Addr) := by
           unfold Addr.add; by_cases h3 : i * e.size = 0 <;> by_cases h4 : j = 0 <;> simp [h3, h4]
         rw [ha] at this
         exact this
       · cases hx

theorem bcell {W w1 : World} {B : Nat} (hb : Below B W w1) : (∀ b o, b < B → w1.cell? ⟨b, o, none⟩ = W.cell? ⟨b, o, none⟩) ∧ (∀ b o, b < B → w1.frozen? ⟨b, o, none⟩ = W.frozen? ⟨b, o, none⟩) :=
 ⟨fun b o h => hb.cell (p := ⟨b, o, none⟩) h, fun b o h => hb.frozen (p := ⟨b, o, none⟩) h⟩
structure Box (w : World) (g : Nat) (cs : Array Value) : Prop where
 cell : ∀ o, w.cell? ⟨g, o, none⟩ = cs[o]?
 free : ∀ o, w.frozen? ⟨g, o, none⟩ = false
 lt : g < w.heap.size
theorem Box.new (w : World) (cs : Array Value) (t : TypeId) : Box (w.alloc (.cells cs t)) w.heap.size cs := by
 have h : (w.alloc (.cells cs t)).heap[w.heap.size]? = some (.cells cs t (0, 0)) := heap_alloc_new w _
 refine ⟨fun o => ?_, fun o => ?_, by simp⟩
 · show (match (w.alloc (.cells cs t)).heap[w.heap.size]? with | some (.cells c _ _) => if (none : Option Nat).isSome then none else c[o]? | _ => none) = _
   rw [h]; rfl
 · show (match (w.alloc (.cells cs t)).heap[w.heap.size]? with | some (.cells _ _ (lo, hi)) => decide (lo ≤ o) && decide (o < hi) | _ => false) = _
   rw [h]; simp
theorem Box.below {w w' : World} {g B : Nat} {cs : Array Value} (h : Box w g cs) (hb : Below B w w') (hg : g < B) : Box w' g cs :=
 ⟨fun o => (hb.cell (p := ⟨g, o, none⟩) hg).trans (h.cell o), fun o => (hb.frozen (p := ⟨g, o, none⟩) hg).trans (h.free o), Nat.lt_of_lt_of_le h.lt hb.size⟩
theorem Box.up {w w' : World} {g : Nat} {cs : Array Value} (h : Box w g cs) (hb : Below w.heap.size w w') : Box w' g cs := h.below hb h.lt
theorem Box.alloc {w : World} {g : Nat} {cs : Array Value} (h : Box w g cs) (o : Obj) : Box (w.alloc o) g cs := h.up ((Below.refl _ _).alloc (Nat.le_refl _) o)
theorem below_up {B : Nat} {a w w' : World} (h : Below B a w) (hb : Below w.heap.size w w') (hB : B ≤ a.heap.size) : Below B a w' :=
 h.trans (hb.mono (Nat.le_trans hB h.size))
structure Held (w : World) (L : List (Nat × Array Value)) (W : World) : Prop where
 below : Below w.heap.size w W
 box : ∀ p ∈ L, Box W p.1 p.2
theorem Held.up {w W w' : World} {L : List (Nat × Array Value)} (hb : Below W.heap.size W w') (h : Held w L W) : Held w L w' :=
 ⟨below_up h.below hb (Nat.le_refl _), fun p hp => (h.box p hp).up hb⟩
theorem Held.alloc {w W : World} {L : List (Nat × Array Value)} (h : Held w L W) (o : Obj) : Held w L (W.alloc o) := h.up ((Below.refl _ _).alloc (Nat.le_refl _) o)
theorem Held.drop {w W : World} {L : List (Nat × Array Value)} (h : Held w L W) : Held w [] W := ⟨h.below, fun p hp => by cases hp⟩
theorem Held.drew {w W : World} {L : List (Nat × Array Value)} (h : Held w L W) : Held w L W.drew :=
 ⟨h.below.drew, fun p hp => ⟨(h.box p hp).cell, (h.box p hp).free, (h.box p hp).lt⟩⟩
theorem Held.s1 {w W : World} {g : Nat} {A : Array Value} (h : Held w [(g, A)] W) : Held w [(g, A)] W ∧ ∀ o, W.cell? ⟨g, o, none⟩ = A[o]? :=
 ⟨h, fun o => (h.box (g, A) (by simp)).cell o⟩
theorem Held.s2 {w W : World} {g g' : Nat} {A A' : Array Value} (h : Held w [(g, A), (g', A')] W) : Held w [(g, A), (g', A')] W ∧ (∀ o, W.cell? ⟨g, o, none⟩ = A[o]?) ∧ ∀ o, W.cell? ⟨g', o, none⟩ = A'[o]? :=
 ⟨h, fun o => (h.box (g, A) (by simp)).cell o, fun o => (h.box (g', A') (by simp)).cell o⟩
theorem Held.s3 {w W : World} {g g' g'' : Nat} {A A' A'' : Array Value} (h : Held w [(g, A), (g', A'), (g'', A'')] W) : Held w [(g, A), (g', A'), (g'', A'')] W ∧ (∀ o, W.cell? ⟨g, o, none⟩ = A[o]?) ∧ (∀ o, W.cell? ⟨g', o, none⟩ = A'[o]?) ∧ ∀ o, W.cell? ⟨g'', o, none⟩ = A''[o]? :=
 ⟨h, fun o => (h.box (g, A) (by simp)).cell o, fun o => (h.box (g', A') (by simp)).cell o, fun o => (h.box (g'', A'') (by simp)).cell o⟩
theorem ret_int {k : IntKind} {a b : Int} (h : a = b) : Ending.returned (.int k a) = .returned (.int k b) := by rw [h]
theorem Cp {a b : Bool} (h : a = b) : Ending.returned (.bool a) = .returned (.bool b) := by rw [h]
theorem E6 {a b : ByteArray} (h : a = b) : Ending.returned (.string a) = .returned (.string b) := by rw [h]
end Go.Proofs.YtkemjhlbokldhaaGreat

namespace Go.Proofs.YtkemjhlbokldhaaGreat
open Go.RowKit

def E2 (s : ByteArray) : Bool := s.toList == [115, 116, 97, 116, 101] || s.toList == [101, 118, 101, 110, 116] || s.toList == [118, 105, 101, 119] || s.toList == [110, 111, 116]

theorem keptS_any (s : ByteArray) (w : World) :
   Calls Tryz.prog 69 #[.string s] w fun e w' => e = .returned (.bool (E2 s)) ∧ w = w' := by
 go_enter Tryz.func69, Tryz.ntmps69
 go_wp2
 all_goals
   go_ret
   exact ⟨by simp [E2, *], rfl⟩
theorem keptI_any (s : ByteArray) (w : World) :
   Calls Tryz.prog 49 #[.string s] w fun e w' => e = .returned (.bool (E2 s)) ∧ w = w' := by
 go_enter Tryz.func49, Tryz.ntmps49
 go_wp2
 all_goals
   go_ret
   exact ⟨by simp [E2, *], rfl⟩

def Ct (c : Int) : Bool := decide (97 ≤ c ∧ c ≤ 122)
def upB (c : Int) : Bool := decide (65 ≤ c ∧ c ≤ 90)
def Cf (c : Int) : Bool := decide (48 ≤ c ∧ c ≤ 57)
def HK (c : Int) : Int := if Ct c then 1 else if upB c then 2 else if Cf c then 3 else 0

theorem Ir (c : Int) (w : World) :
   Calls Tryz.prog 44 #[.int .u8 c] w fun e w' => e = .returned (.bool (Ct c)) ∧ w = w' := by
 go_enter Tryz.func44, Tryz.ntmps44
 go_wp2
 all_goals
   go_ret
   exact ⟨by simp [Ct, *]; try omega, rfl⟩
theorem isUpper_any (c : Int) (w : World) :
   Calls Tryz.prog 45 #[.int .u8 c] w fun e w' => e = .returned (.bool (upB c)) ∧ w = w' := by
 go_enter Tryz.func45, Tryz.ntmps45
 go_wp2
 all_goals
   go_ret
   exact ⟨by simp [upB, *]; try omega, rfl⟩
theorem GU (c : Int) (w : World) :
   Calls Tryz.prog 46 #[.int .u8 c] w fun e w' => e = .returned (.bool (Cf c)) ∧ w = w' := by
 go_enter Tryz.func46, Tryz.ntmps46
 go_wp2
 all_goals
   go_ret
   exact ⟨by simp [Cf, *]; try omega, rfl⟩
theorem IP (c : Int) (w : World) :
   Calls Tryz.prog 98 #[.int .u8 c] w fun e w' => e = .returned (.int .i64 (HK c)) ∧ w = w' := by
 go_enter Tryz.func98, Tryz.ntmps98
 go_wp2
 all_goals
   go_ret
   refine ⟨ret_int ?_, rfl⟩
   simp only [HK, Ct, upB, Cf, decide_eq_true_eq]
   (repeat' split) <;> omega

def B0 (c : Int) : Bool := Ct c || upB c || Cf c
def G7 (c : Int) : Bool := Ct c || Cf c
def allTo (p : Int → Bool) (s : ByteArray) (k : Nat) : Prop := ∀ i (h : i < s.size), i < k → p s[i].toNat = true
theorem G4 {p : Int → Bool} {s : ByteArray} {k : Nat} (h : allTo p s k) (hk : k < s.size) (hp : p s[k].toNat = true) : allTo p s (k + 1) := by
 intro i hi hik
 rcases Nat.lt_or_ge i k with h1 | h1
 · exact h i hi h1
 · obtain rfl : i = k := by omega
   exact hp
def allB (p : Int → Bool) (s : ByteArray) : Bool := s.data.toList.all fun c => p c.toNat
theorem CB (s : ByteArray) (i : Nat) (h : i < s.size) : s.data.toList[i]'(by simpa using h) = s[i] := by
 simp [ByteArray.getElem_eq_getElem_data]
theorem Hu {p : Int → Bool} {s : ByteArray} (h : allTo p s s.size) : allB p s = true := by
 unfold allB
 rw [List.all_eq_true]
 intro c hc
 obtain ⟨i, hi, rfl⟩ := List.getElem_of_mem hc
 have hi' : i < s.size := by simpa using hi
 rw [CB s i hi']
 exact h i hi' hi'
theorem HN {p : Int → Bool} {s : ByteArray} {k : Nat} (hk : k < s.size) (h : p s[k].toNat = false) : allB p s = false := by
 unfold allB
 rw [List.all_eq_false]
 refine ⟨s[k], ?_, by simp [h]⟩
 rw [← CB s k hk]
 exact List.getElem_mem _
def GV (p : Int → Bool) (s : ByteArray) : Bool := match s.data.toList with | [] => false | c :: _ => p c.toNat
theorem ED {p : Int → Bool} {s : ByteArray} (h : 0 < s.size) : GV p s = p s[0].toNat := by
 have h1 := CB s 0 h
 unfold GV
 cases hl : s.data.toList with
 | nil => have : s.data.toList.length = s.size := by simp
          rw [hl] at this; simp at this; omega
 | cons c l => simp [hl] at h1; simp [h1]
def DO (s : ByteArray) : Bool := decide (1 ≤ s.size) && decide (s.size ≤ 12)
def Eu (s : ByteArray) : Bool := allB B0 s && DO s && GV upB s
def C7 (s : ByteArray) : Bool := allB G7 s && DO s && GV Ct s

set_option maxHeartbeats 400000 in
theorem varOkI_any (s : ByteArray) (w : World) (hs : s.size ≤ maxLen) :
   Calls Tryz.prog 108 #[.string s] w fun e w' => e = .returned (.bool (Eu s)) ∧ w = w' := by
 unfold maxLen at hs
 go_enter Tryz.func108, Tryz.ntmps108
 go_wp2
 go_loop [2, 6] (fun r i => ∃ k : Nat, k ≤ s.size ∧ i = .int .i64 k ∧ allTo B0 s k) (fun _ i => s.size - (intOf i).toNat)
 case atStart => exact ⟨0, Nat.zero_le _, rfl, fun i _ h => by omega⟩
 case round =>
   obtain ⟨k, hk, rfl, ha⟩ := hrel
   have HA := Lib.hid ha
   clear ha
   by_cases hlt : k < s.size
   · go_wp2_with (first | (go_at_call 44; refine (Ir _ _).mono ?_; rintro e w' ⟨rfl, rfl⟩) | (go_at_call 45; refine (isUpper_any _ _).mono ?_; rintro e w' ⟨rfl, rfl⟩) | (go_at_call 46; refine (GU _ _).mono ?_; rintro e w' ⟨rfl, rfl⟩))
     all_goals first
       | (go_round
          case rel => exact ⟨k + 1, by omega, by go_num, G4 HA.out hlt (by simp_all [B0])⟩
          case measure => simp [intOf]; omega)
       | (go_ret
          exact ⟨Cp (by simp [Eu, HN (p := B0) hlt (by simp_all [B0])]), rfl⟩)
   · obtain rfl : k = s.size := by omega
     have H1 := Lib.hid (Hu HA.out)
     go_wp2_with (first | (go_at_call 45; refine (isUpper_any _ _).mono ?_; rintro e w' ⟨rfl, rfl⟩))
     all_goals
       go_ret
       refine ⟨Cp ?_, rfl⟩
       have h1 := H1.out
       first
         | (have h2 : 0 < s.size := by omega
            simp only [Eu, h1, DO, ED h2]
            simp; omega)
         | (simp [Eu, DO]; omega)

set_option maxHeartbeats 400000 in
theorem GD (s : ByteArray) (w : World) (hs : s.size ≤ maxLen) :
   Calls Tryz.prog 58 #[.string s] w fun e w' => e = .returned (.bool (C7 s)) ∧ w = w' := by
 unfold maxLen at hs
 go_enter Tryz.func58, Tryz.ntmps58
 go_wp2
 go_loop [2, 6] (fun r i => ∃ k : Nat, k ≤ s.size ∧ i = .int .i64 k ∧ allTo G7 s k) (fun _ i => s.size - (intOf i).toNat)
 case atStart => exact ⟨0, Nat.zero_le _, rfl, fun i _ h => by omega⟩
 case round =>
   obtain ⟨k, hk, rfl, ha⟩ := hrel
   have HA := Lib.hid ha
   clear ha
   by_cases hlt : k < s.size
   · go_wp2_with (first | (go_at_call 44; refine (Ir _ _).mono ?_; rintro e w' ⟨rfl, rfl⟩) | (go_at_call 46; refine (GU _ _).mono ?_; rintro e w' ⟨rfl, rfl⟩))
     all_goals first
       | (go_round
          case rel => exact ⟨k + 1, by omega, by go_num, G4 HA.out hlt (by simp_all [G7])⟩
          case measure => simp [intOf]; omega)
       | (go_ret
          exact ⟨Cp (by simp [C7, HN (p := G7) hlt (by simp_all [G7])]), rfl⟩)
   · obtain rfl : k = s.size := by omega
     have H1 := Lib.hid (Hu HA.out)
     go_wp2_with (first | (go_at_call 44; refine (Ir _ _).mono ?_; rintro e w' ⟨rfl, rfl⟩))
     all_goals
       go_ret
       refine ⟨Cp ?_, rfl⟩
       have h1 := H1.out
       first
         | (have h2 : 0 < s.size := by omega
            simp only [C7, h1, DO, ED h2]
            simp; omega)
         | (simp [C7, DO]; omega)

theorem class_zero (c : Int) : (HK c == 0) = !B0 c := by
 simp only [HK, B0]
 cases Ct c <;> cases upB c <;> cases Cf c <;> rfl
theorem class_two (c : Int) : (HK c != 2) = !(upB c && !Ct c) := by
 simp only [HK]
 cases Ct c <;> cases upB c <;> cases Cf c <;> rfl
theorem up_let {c : Int} (h : upB c = true) : Ct c = false := by
 simp only [upB, Ct, decide_eq_true_eq, decide_eq_false_iff_not] at *; omega

set_option maxHeartbeats 400000 in
theorem varOkS_any (s : ByteArray) (w : World) (hs : s.size ≤ maxLen) :
   Calls Tryz.prog 101 #[.string s] w fun e w' => e = .returned (.bool (Eu s)) ∧ w = w' := by
 unfold maxLen at hs
 by_cases hsh : 1 ≤ s.size ∧ s.size ≤ 12 ∧ GV upB s = true
 · obtain ⟨h1, h2, h3⟩ := hsh
   rw [ED (by omega)] at h3
   have hq : (HK ↑s[0].toNat != 2) = false := by rw [class_two, h3, up_let h3]; rfl
   have H3 := Lib.hid h3
   clear h3
   go_enter Tryz.func101, Tryz.ntmps101
   go_wp2_with (first | (go_at_call 98; refine (IP _ _).mono ?_; rintro e w' ⟨rfl, rfl⟩))
   go_loop [2, 3] (fun r i => ∃ k : Nat, k ≤ s.size ∧ i = .int .i64 k ∧ allTo B0 s k) (fun _ i => s.size - (intOf i).toNat)
   case atStart => exact ⟨0, Nat.zero_le _, rfl, fun i _ h => by omega⟩
   case round =>
     obtain ⟨k, hk, rfl, ha⟩ := hrel
     have HA := Lib.hid ha
     clear ha
     by_cases hlt : k < s.size
     · have hz := class_zero ↑s[k].toNat
       cases hb : B0 ↑s[k].toNat
       · rw [hb] at hz
         have HB := Lib.hid hb
         clear hb
         go_wp2_with (first | (go_at_call 98; refine (IP _ _).mono ?_; rintro e w' ⟨rfl, rfl⟩))
         go_ret
         exact ⟨Cp (by simp [Eu, HN (p := B0) hlt HB.out]), rfl⟩
       · rw [hb] at hz
         have HB := Lib.hid hb
         clear hb
         go_wp2_with (first | (go_at_call 98; refine (IP _ _).mono ?_; rintro e w' ⟨rfl, rfl⟩))
         go_round
         case rel => exact ⟨k + 1, by omega, by go_num, G4 HA.out hlt HB.out⟩
         case measure => simp [intOf]; omega
     · obtain rfl : k = s.size := by omega
       have H1 := Lib.hid (Hu HA.out)
       go_wp2
       go_ret
       refine ⟨Cp ?_, rfl⟩
       have h3 := H3.out
       rw [← ED (p := upB) (by omega : 0 < s.size)] at h3
       simp [Eu, DO, H1.out, h3]; omega
 · by_cases h1 : 1 ≤ s.size ∧ s.size ≤ 12
   · have h3 : GV upB s = false := by
       cases h : GV upB s
       · rfl
       · exact absurd ⟨h1.1, h1.2, h⟩ hsh
     obtain ⟨h1, h2⟩ := h1
     have hv : Eu s = false := by simp [Eu, h3]
     rw [ED (by omega)] at h3
     have hq : (HK ↑s[0].toNat != 2) = true := by rw [class_two, h3]; rfl
     have HV := Lib.hid hv
     clear h3 hsh hv
     go_enter Tryz.func101, Tryz.ntmps101
     go_wp2_with (first | (go_at_call 98; refine (IP _ _).mono ?_; rintro e w' ⟨rfl, rfl⟩))
     go_ret
     exact ⟨Cp HV.out.symm, rfl⟩
   · have hv : Eu s = false := by simp [Eu, DO]; omega
     have HV := Lib.hid hv
     clear hsh hv
     rcases Nat.lt_or_ge s.size 1 with h2 | h2
     · go_enter Tryz.func101, Tryz.ntmps101
       go_wp2
       go_ret
       exact ⟨Cp HV.out.symm, rfl⟩
     · have h4 : 12 < s.size := by omega
       go_enter Tryz.func101, Tryz.ntmps101
       go_wp2
       go_ret
       exact ⟨Cp HV.out.symm, rfl⟩

theorem five (c : Int) : c < 48 ∨ (48 ≤ c ∧ c ≤ 57) ∨ (57 < c ∧ c < 97) ∨ (97 ≤ c ∧ c ≤ 122) ∨ 122 < c := by omega
set_option maxHeartbeats 400000 in
theorem GC (s : ByteArray) (w : World) (hs : s.size ≤ maxLen) :
   Calls Tryz.prog 68 #[.string s] w fun e w' => e = .returned (.bool (C7 s)) ∧ w = w' := by
 unfold maxLen at hs
 by_cases h1 : 1 ≤ s.size ∧ s.size ≤ 12
 · obtain ⟨h1, h2⟩ := h1
   go_enter Tryz.func68, Tryz.ntmps68
   go_wp2
   go_loop [2, 3, 4, 5] (fun r i l d => ∃ k : Nat, k ≤ s.size ∧ i = .int .i64 k ∧ allTo G7 s k ∧ (k ≠ 0 → GV Ct s = true)) (fun _ i _ _ => s.size - (intOf i).toNat)
   case atStart => exact ⟨0, Nat.zero_le _, rfl, (fun i _ h => by omega), fun h => absurd rfl h⟩
   case round =>
     obtain ⟨k, hk, rfl, ha, hd⟩ := hrel
     have HA := Lib.hid ha
     have HD := Lib.hid hd
     clear ha hd
     by_cases hlt : k < s.size
     · by_cases hz : k = 0
       · subst hz
         rcases five ↑s[0].toNat with h5 | ⟨h5, h6⟩ | ⟨h5, h6⟩ | ⟨h5, h6⟩ | h5
         all_goals
           go_wp2
         all_goals first
           | (exfalso; simp only [Bool.not_eq_false', decide_eq_true_eq] at *; omega)
           | (go_round
              case rel => exact ⟨1, by omega, by rfl, G4 HA.out hlt (by simp [G7, Ct, Cf]; omega), fun _ => by rw [ED hlt]; simp [Ct]; omega⟩
              case measure => simp [intOf]; omega)
           | (go_ret
              exact ⟨Cp (by simp [C7, ED hlt, Ct]; omega), rfl⟩)
       · rcases five ↑s[k].toNat with h5 | ⟨h5, h6⟩ | ⟨h5, h6⟩ | ⟨h5, h6⟩ | h5
         all_goals
           go_wp2
         all_goals first
           | (exfalso; simp only [Bool.not_eq_false', decide_eq_true_eq] at *; omega)
           | (go_round
              case rel => exact ⟨k + 1, by omega, by go_num, G4 HA.out hlt (by simp [G7, Ct, Cf]; omega), fun _ => HD.out hz⟩
              case measure => simp [intOf]; omega)
           | (go_ret
              exact ⟨Cp (by simp [C7, HN (p := G7) hlt (by simp [G7, Ct, Cf]; omega)]), rfl⟩)
     · obtain rfl : k = s.size := by omega
       have H1 := Lib.hid (Hu HA.out)
       go_wp2
       go_ret
       refine ⟨Cp ?_, rfl⟩
       have h3 := HD.out (by omega)
       simp [C7, DO, H1.out, h3]; omega
 · have hv : C7 s = false := by simp [C7, DO]; omega
   have HV := Lib.hid hv
   clear hv
   rcases Nat.lt_or_ge s.size 1 with h2 | h2
   · go_enter Tryz.func68, Tryz.ntmps68
     go_wp2
     go_ret
     exact ⟨Cp HV.out.symm, rfl⟩
   · have h4 : 12 < s.size := by omega
     go_enter Tryz.func68, Tryz.ntmps68
     go_wp2
     go_ret
     exact ⟨Cp HV.out.symm, rfl⟩
end Go.Proofs.YtkemjhlbokldhaaGreat

namespace Go.Proofs.YtkemjhlbokldhaaGreat
open Go.RowKit
set_option linter.unusedVariables false

def bytes (l : List UInt8) : ByteArray := ⟨l.toArray⟩
@[simp] theorem bytes_toList (l : List UInt8) : (bytes l).data.toList = l := rfl
theorem bytes_of (s : ByteArray) : bytes s.data.toList = s := by cases s; simp [bytes]
theorem bytes_append (a b : List UInt8) : bytes a ++ bytes b = bytes (a ++ b) := by
 apply ByteArray.ext
 simp [bytes, ByteArray.data_append]
theorem bytes_size (l : List UInt8) : (bytes l).size = l.length := by simp [bytes, ByteArray.size]
def Dx (n : Nat) : List UInt8 := if n < 10 then [UInt8.ofNat (48 + n)] else Dx (n / 10) ++ [UInt8.ofNat (48 + n % 10)]
termination_by n
decreasing_by omega

theorem utf8_dig {d : Int} (h0 : 0 ≤ d) (h1 : d < 10) : Utf8.encode (48 + d) = bytes [UInt8.ofNat (48 + d.toNat)] := by
 have : d = 0 ∨ d = 1 ∨ d = 2 ∨ d = 3 ∨ d = 4 ∨ d = 5 ∨ d = 6 ∨ d = 7 ∨ d = 8 ∨ d = 9 := by omega
 rcases this with rfl | rfl | rfl | rfl | rfl | rfl | rfl | rfl | rfl | rfl <;> decide +kernel

def Hx (c : UInt8) : Bool := decide (48 ≤ c.toNat) && decide (c.toNat ≤ 57)
def FA (l : List UInt8) : Nat := l.foldl (fun n c => 10 * n + (c.toNat - 48)) 0
theorem Jd (l : List UInt8) (c : UInt8) : FA (l ++ [c]) = 10 * FA l + (c.toNat - 48) := by simp [FA]
theorem digVal_lt : ∀ (n : Nat) (l : List UInt8), l.length = n → l.all Hx = true → FA l < 10 ^ n := by
 intro n
 induction n with
 | zero => intro l h _; have := List.eq_nil_of_length_eq_zero h; subst this; simp [FA]
 | succ n ih =>
   intro l h hd
   have hne : l ≠ [] := by intro e; subst e; simp at h
   have hl := (List.dropLast_concat_getLast hne)
   rw [← hl] at hd ⊢
   rw [Jd]
   rw [List.all_append, Bool.and_eq_true] at hd
   have h1 := ih l.dropLast (by simp [h]) hd.1
   have h2 : Hx (l.getLast hne) = true := by simpa using hd.2
   simp only [Hx, Bool.and_eq_true, decide_eq_true_eq] at h2
   rw [Nat.pow_succ]
   omega
theorem toNat_dig {d : Nat} (h : d < 10) : (UInt8.ofNat (48 + d)).toNat = 48 + d := by simp; omega
theorem isDig_dig {d : Nat} (h : d < 10) : Hx (UInt8.ofNat (48 + d)) = true := by
 unfold Hx; rw [toNat_dig h]; simp; omega
theorem E8 {n : Nat} (h : n < 10) : Dx n = [UInt8.ofNat (48 + n)] := by rw [Dx, if_pos h]
theorem Gw {n : Nat} (h : 10 ≤ n) : Dx n = Dx (n / 10) ++ [UInt8.ofNat (48 + n % 10)] := by rw [Dx, if_neg (by omega)]
theorem digVal_numTxt (n : Nat) : FA (Dx n) = n := by
 induction n using Nat.strongRecOn with
 | _ n ih =>
   rcases Nat.lt_or_ge n 10 with h | h
   · rw [E8 h]; simp [FA]; omega
   · rw [Gw h, Jd, ih (n / 10) (by omega), toNat_dig (by omega)]; omega
theorem numTxt_dig (n : Nat) : (Dx n).all Hx = true := by
 induction n using Nat.strongRecOn with
 | _ n ih =>
   rcases Nat.lt_or_ge n 10 with h | h
   · rw [E8 h, List.all_cons, isDig_dig h]; rfl
   · rw [Gw h, List.all_append, ih (n / 10) (by omega)]; rw [List.all_cons, isDig_dig (d := n % 10) (by omega)]; rfl
theorem numTxt_ne (n : Nat) : Dx n ≠ [] := by
 rcases Nat.lt_or_ge n 10 with h | h
 · rw [E8 h]; simp
 · rw [Gw h]; simp
theorem numTxt_len : ∀ (k n : Nat), n < 10 ^ (k + 1) → (Dx n).length ≤ k + 1 := by
 intro k
 induction k with
 | zero => intro n h; rw [E8 (by simpa using h)]; simp
 | succ k ih =>
   intro n h
   rcases Nat.lt_or_ge n 10 with h1 | h1
   · rw [E8 h1]; simp
   · rw [Gw h1, List.length_append]
     have : n / 10 < 10 ^ (k + 1) := by rw [Nat.pow_succ] at h; omega
     have := ih _ this
     simp; omega
theorem numTxt_len15 {n : Nat} (h : n ≤ 281474976710655) : (Dx n).length ≤ 15 := numTxt_len 14 n (by omega)
def Dd (s : ByteArray) : Option Nat :=
 if s.data.toList ≠ [] ∧ s.data.toList.length ≤ 15 ∧ s.data.toList.all Hx = true ∧ FA s.data.toList ≤ 281474976710655 ∧ Dx (FA s.data.toList) = s.data.toList then some (FA s.data.toList) else none
theorem textNum_numTxt {n : Nat} (h : n ≤ 281474976710655) : Dd (bytes (Dx n)) = some n := by
 unfold Dd
 simp only [bytes_toList, digVal_numTxt]
 rw [if_pos ⟨numTxt_ne n, numTxt_len15 h, numTxt_dig n, h, trivial⟩]
theorem textNum_some {s : ByteArray} {n : Nat} (h : Dd s = some n) : n ≤ 281474976710655 ∧ s = bytes (Dx n) := by
 unfold Dd at h
 split at h
 · rename_i hc
   obtain ⟨h1, h2, h3, h4, h5⟩ := hc
   simp only [Option.some.injEq] at h
   subst h
   exact ⟨h4, by rw [h5, bytes_of]⟩
 · cases h
end Go.Proofs.YtkemjhlbokldhaaGreat

namespace Go.Proofs.YtkemjhlbokldhaaGreat
open Go.RowKit
set_option linter.unusedVariables false

def Df (n : Int) : Bool := decide (0 ≤ n ∧ n ≤ 281474976710655)
theorem Eb (n : Int) (w : World) :
   Calls Tryz.prog 34 #[.int .i64 n] w fun e w' => e = .returned (.bool (Df n)) ∧ w = w' := by
 go_enter Tryz.func34, Tryz.ntmps34
 go_wp2
 all_goals
   go_ret
   exact ⟨Cp (by simp [Df, *]; try omega), rfl⟩
theorem D7 (n : Int) (w : World) :
   Calls Tryz.prog 40 #[.int .i64 n] w fun e w' => e = .returned (.bool (Df n)) ∧ w = w' := by
 go_enter Tryz.func40, Tryz.ntmps40
 go_wp2
 all_goals
   go_ret
   exact ⟨Cp (by simp [Df, *]; try omega), rfl⟩


def BR (n : Int) : ByteArray := if Df n then bytes (Dx n.toNat) else ByteArray.empty
theorem FY {n : Int} (h0 : 0 ≤ n) (h1 : n < 10) : BR n = Utf8.encode (48 + n) := by
 have hb : Df n = true := by simp [Df]; omega
 rw [BR, if_pos hb, utf8_dig h0 h1, E8 (by omega)]
theorem numText_big {n : Int} (h0 : 10 ≤ n) (h1 : n ≤ 281474976710655) : BR n = BR (n / 10) ++ Utf8.encode (48 + n % 10) := by
 have hb : Df n = true := by simp [Df]; omega
 have hc : Df (n / 10) = true := by simp [Df]; omega
 rw [BR, BR, if_pos hb, if_pos hc, utf8_dig (by omega) (by omega), bytes_append, Gw (by omega)]
 congr 3
 · congr 1; omega
 · congr 1; congr 1; omega
theorem DZ (n : Int) : (BR n).size ≤ 15 := by
 unfold BR
 cases hb : Df n
 · simp
 · have h : 0 ≤ n ∧ n ≤ 281474976710655 := by simpa [Df] using hb
   simp only [if_true, bytes_size]
   exact numTxt_len15 (by omega)
theorem utf8_size {d : Int} (h0 : 0 ≤ d) (h1 : d < 10) : (Utf8.encode (48 + d)).size = 1 := by rw [utf8_dig h0 h1, bytes_size]; rfl
theorem numText_room (n : Int) (h0 : 10 ≤ n) : ¬ 9223372036854775807 < (BR (n / 10)).size + (Utf8.encode (48 + n % 10)).size := by
 have h1 := DZ (n / 10)
 have h2 := utf8_size (d := n % 10) (by omega) (by omega)
 omega
theorem H7 {n : Int} (h : Df n = false) : BR n = ByteArray.empty := by rw [BR, h]; rfl

set_option maxHeartbeats 400000 in
theorem numTextI_in (k : Nat) : ∀ (n : Int) (w : World), 0 ≤ n → n ≤ 281474976710655 → n.toNat ≤ k →
   Calls Tryz.prog 12 #[.int .i64 n] w fun e w' => e = .returned (.string (BR n)) ∧ w = w' := by
 induction k with
 | zero =>
   intro n w h0 h1 hk
   have hb : Df n = true := by simp [Df]; omega
   have hr := Lib.hid (FY h0 (by omega))
   go_enter Tryz.func12, Tryz.ntmps12
   go_wp2_with (go_at_call 34; refine (Eb _ _).mono ?_; rintro e w' ⟨rfl, rfl⟩)
   go_ret
   exact ⟨E6 hr.out.symm, rfl⟩
 | succ k ih =>
   intro n w h0 h1 hk
   have hb : Df n = true := by simp [Df]; omega
   rcases Int.lt_or_le n 10 with h | h
   · have hr := Lib.hid (FY h0 h)
     go_enter Tryz.func12, Tryz.ntmps12
     go_wp2_with (go_at_call 34; refine (Eb _ _).mono ?_; rintro e w' ⟨rfl, rfl⟩)
     go_ret
     exact ⟨E6 hr.out.symm, rfl⟩
   · have hr := Lib.hid (numText_big h h1)
     have IH0 := ih (n / 10) w (by omega) (by omega) (by omega)
     have IH := Lib.hid IH0
     have hz := numText_room n h
     clear ih IH0
     go_enter Tryz.func12, Tryz.ntmps12
     go_wp2_with (first | (go_at_call 34; refine (Eb _ _).mono ?_; rintro e w' ⟨rfl, rfl⟩) | (go_at_call 12; refine IH.out.mono ?_; rintro e w' ⟨rfl, rfl⟩))
     go_ret
     exact ⟨E6 hr.out.symm, rfl⟩
theorem Gx (n : Int) (w : World) :
   Calls Tryz.prog 12 #[.int .i64 n] w fun e w' => e = .returned (.string (BR n)) ∧ w = w' := by
 cases hb : Df n
 · have hr := Lib.hid (H7 hb)
   go_enter Tryz.func12, Tryz.ntmps12
   go_wp2_with (go_at_call 34; refine (Eb _ _).mono ?_; rintro e w' ⟨rfl, rfl⟩)
   go_ret
   exact ⟨E6 hr.out.symm, rfl⟩
 · have h : 0 ≤ n ∧ n ≤ 281474976710655 := by simpa [Df] using hb
   exact numTextI_in n.toNat n w h.1 h.2 (Nat.le_refl _)


theorem conv_one {d : Int} (h0 : 0 ≤ d) (h1 : d < 10) (D : ByteArray) (hD : D = Utf8.encode (48 + d)) (W : World) (g : Nat) (hc : W.cell? ⟨g, 0, none⟩ = some (.int .u8 (48 + d))) :
   Sem.run Tryz.prog (convert 22 9 (.slice (some ⟨g, 0, none⟩) 1 1)) W = .ok (.string D) W := by
 have h := run_convert_bytes_back (P := Tryz.prog) W 22 9 5 ⟨g, 0, none⟩ 1 [UInt8.ofNat (48 + d.toNat)] Tryz.underlying22 Tryz.underlying5 Tryz.underlying9 (by
   intro j hj
   have : j = 0 := by simpa using hj
   subst this
   have e : (⟨g, 0, none⟩ : Addr).add 0 = ⟨g, 0, none⟩ := rfl
   rw [e, hc]
   simp only [List.getElem_cons_zero]
   rw [toNat_dig (by omega)]
   congr 2; omega)
 rw [hD, utf8_dig h0 h1]
 exact h

set_option maxRecDepth 100000 in
set_option maxHeartbeats 8000000 in
theorem numTextS_in (k : Nat) : ∀ (n : Int) (w : World), 0 ≤ n → n ≤ 281474976710655 → n.toNat ≤ k →
   Calls Tryz.prog 15 #[.int .i64 n] w fun e w' => e = .returned (.string (BR n)) ∧ Below w.heap.size w w' := by
 induction k with
 | zero =>
   intro n w h0 h1 hk
   have hb : Df n = true := by simp [Df]; omega
   have hcv := conv_one h0 (by omega) (BR n) (FY h0 (by omega))
   go_enter Tryz.func15, Tryz.ntmps15
   go_wp2_with (go_at_call 40; refine (D7 _ _).mono ?_; rintro e w' ⟨rfl, rfl⟩)
   go_ret
   exact ⟨rfl, (Below.refl _ _).alloc (Nat.le_refl _) _⟩
 | succ k ih =>
   intro n w h0 h1 hk
   have hb : Df n = true := by simp [Df]; omega
   rcases Int.lt_or_le n 10 with h | h
   · have hcv := conv_one h0 (by omega) (BR n) (FY h0 (by omega))
     go_enter Tryz.func15, Tryz.ntmps15
     go_wp2_with (go_at_call 40; refine (D7 _ _).mono ?_; rintro e w' ⟨rfl, rfl⟩)
     go_ret
     exact ⟨rfl, (Below.refl _ _).alloc (Nat.le_refl _) _⟩
   · have hz := numText_room n h
     have hcv := conv_one (d := n % 10) (by omega) (by omega) _ rfl
     have hr := Lib.hid (numText_big h h1)
     have IH0 := fun W => ih (n / 10) W (by omega) (by omega) (by omega)
     generalize Utf8.encode (48 + n % 10) = D at hz hcv hr
     have IH := Lib.hid IH0
     clear ih IH0
     go_enter Tryz.func15, Tryz.ntmps15
     go_wp2_with (first | (go_at_call 40; refine (D7 _ _).mono ?_; rintro e w' ⟨rfl, rfl⟩))
     have e1 : IntKind.i64.wrap (n.tdiv 10) = n / 10 := by rw [Int.tdiv_eq_ediv_of_nonneg h0]; exact IntWalk.i64_in _ (by omega)
     have e2 : n.tmod 10 = n % 10 := Int.tmod_eq_emod_of_nonneg h0
     have e3 : IntKind.i64.wrap (48 + n % 10) = 48 + n % 10 := IntWalk.i64_in _ (by omega)
     have e4 : IntKind.u8.wrap (48 + n % 10) = 48 + n % 10 := IntWalk.u8_in _ (by omega)
     go_region_with ((go_at_call 15; refine (IH.out _).mono ?_; rintro e w' ⟨rfl, hb1⟩; obtain ⟨hc1, _⟩ := bcell hb1))
     all_goals
       go_wp2
       go_ret
       refine ⟨E6 hr.out.symm, ?_⟩
       first
         | exact ((Below.refl _ _).drew.trans (hb1.mono (Nat.le_refl _))).alloc hb1.size _
         | exact ((Below.refl _ _).alloc (Nat.le_refl _) _).drew.trans (hb1.mono (by simp))
theorem Fo (n : Int) (w : World) :
   Calls Tryz.prog 15 #[.int .i64 n] w fun e w' => e = .returned (.string (BR n)) ∧ Below w.heap.size w w' := by
 cases hb : Df n
 · have hr := Lib.hid (H7 hb)
   go_enter Tryz.func15, Tryz.ntmps15
   go_wp2_with (go_at_call 40; refine (D7 _ _).mono ?_; rintro e w' ⟨rfl, rfl⟩)
   go_ret
   exact ⟨E6 hr.out.symm, Below.refl _ _⟩
 · have h : 0 ≤ n ∧ n ≤ 281474976710655 := by simpa [Df] using hb
   exact numTextS_in n.toNat n w h.1 h.2 (Nat.le_refl _)
def D9 (s : ByteArray) : Int := match Dd s with | some n => n | none => 0
def Ds (s : ByteArray) : Bool := (Dd s).isSome
def Dig (s : ByteArray) (k v : Nat) : Prop := v = FA (s.data.toList.take k) ∧ (s.data.toList.take k).all Hx = true
theorem dig_zero (s : ByteArray) : Dig s 0 0 := ⟨by simp [FA], by simp⟩
theorem take_succ (s : ByteArray) (k : Nat) (hk : k < s.size) : s.data.toList.take (k + 1) = s.data.toList.take k ++ [s[k]] := by
 rw [List.take_succ_eq_append_getElem (by simpa using hk), CB s k hk]
theorem isDig_eq (c : UInt8) : Hx c = Cf c.toNat := by
 simp only [Hx, Cf, Bool.and_eq_decide]
 congr 1
 simp only [decide_eq_true_eq, eq_iff_iff]; omega
theorem Dig.succ {s : ByteArray} {k v : Nat} (h : Dig s k v) (hk : k < s.size) (hd : Cf s[k].toNat = true) : Dig s (k + 1) (10 * v + (s[k].toNat - 48)) := by
 unfold Dig
 rw [take_succ s k hk, Jd, List.all_append, h.2, ← h.1]
 exact ⟨rfl, by simp [isDig_eq, hd]⟩
theorem Dig.lt {s : ByteArray} {k v : Nat} (h : Dig s k v) (hk : k ≤ 15) : v < 1000000000000000 := by
 have h1 := digVal_lt _ _ rfl h.2
 rw [← h.1] at h1
 have h2 : (s.data.toList.take k).length ≤ 15 := by rw [List.length_take]; omega
 have h3 : 10 ^ (s.data.toList.take k).length ≤ 10 ^ 15 := Nat.pow_le_pow_right (by omega) h2
 omega
theorem Gq {s : ByteArray} (h : s.data.toList = [] ∨ 15 < s.size) : Dd s = none := by
 unfold Dd
 rw [if_neg]
 rintro ⟨h1, h2, _⟩
 rcases h with h | h
 · exact h1 h
 · have : s.data.toList.length = s.size := by simp
   omega
theorem textNum_bad {s : ByteArray} {k : Nat} (hk : k < s.size) (hd : Cf s[k].toNat = false) : Dd s = none := by
 unfold Dd
 rw [if_neg]
 rintro ⟨_, _, h3, _⟩
 rw [List.all_eq_true] at h3
 have := h3 s[k] (by rw [← CB s k hk]; exact List.getElem_mem _)
 rw [isDig_eq, hd] at this
 cases this
theorem GH {s : ByteArray} {v : Nat} (h : Dig s s.size v) (h0 : 0 < s.size) (h1 : s.size ≤ 15) : Dd s = if (BR v).toList = s.toList then some v else none := by
 have hl : s.data.toList.length = s.size := by simp
 obtain ⟨hv, hd⟩ := h
 rw [List.take_of_length_le (by omega)] at hv hd
 unfold Dd
 rw [← hv, hd, ByteArray.toList_eq, ByteArray.toList_eq]
 by_cases hn : v ≤ 281474976710655
 · have hb : Df (v : Int) = true := by simp [Df]; omega
   have ht : (BR v).data.toList = Dx v := by rw [BR, if_pos hb]; simp
   rw [ht]
   by_cases he : Dx v = s.data.toList
   · rw [if_pos he, if_pos ⟨by intro e; rw [e] at hl; simp at hl; omega, by omega, rfl, hn, he⟩]
   · rw [if_neg he, if_neg (fun h => he h.2.2.2.2)]
 · have hb : Df (v : Int) = false := by simp [Df]; omega
   rw [H7 hb, if_neg (fun h => hn h.2.2.2.1), if_neg]
   intro e
   rw [← e] at hl
   simp at hl; omega

set_option maxHeartbeats 800000 in
theorem textNumI_any (s : ByteArray) (w : World) (hs : s.size ≤ maxLen) :
   Calls Tryz.prog 74 #[.string s] w fun e w' => e = .returned (.tuple #[.int .i64 (D9 s), .bool (Ds s)]) ∧ w = w' := by
 unfold maxLen at hs
 by_cases h0 : s.toList = []
 · have hr : Dd s = none := Gq (.inl (by rw [← ByteArray.toList_eq]; exact h0))
   have HR := Lib.hid hr
   clear hr
   have hq : s.toList.isEmpty = true := by rw [h0]; rfl
   go_enter Tryz.func74, Tryz.ntmps74
   go_wp2
   go_ret2
   exact ⟨by simp [D9, Ds, HR.out], rfl⟩
 · have hq : s.toList.isEmpty = false := by simpa using h0
   have hpos : 0 < s.size := by
     rcases Nat.eq_zero_or_pos s.size with h | h
     · exact absurd (by rw [ByteArray.toList_eq]; apply List.eq_nil_of_length_eq_zero; simpa using h) h0
     · exact h
   clear h0
   by_cases h15 : 15 < s.size
   · have hr : Dd s = none := Gq (.inr h15)
     have HR := Lib.hid hr
     clear hr
     go_enter Tryz.func74, Tryz.ntmps74
     go_wp2
     go_ret2
     exact ⟨by simp [D9, Ds, HR.out], rfl⟩
   · go_enter Tryz.func74, Tryz.ntmps74
     go_wp2
     go_loop [4, 15] (fun n i => ∃ k v : Nat, k ≤ s.size ∧ i = .int .i64 k ∧ n = .int .i64 v ∧ Dig s k v) (fun _ i => s.size - (intOf i).toNat)
     case atStart => exact ⟨0, 0, Nat.zero_le _, rfl, rfl, dig_zero s⟩
     case round =>
       obtain ⟨k, v, hk, rfl, rfl, hd⟩ := hrel
       have hv := hd.lt (by omega)
       by_cases hlt : k < s.size
       · cases hb : Cf ↑s[k].toNat
         · have HR := Lib.hid (textNum_bad hlt hb)
           clear hd
           go_wp2_with (go_at_call 46; refine (GU _ _).mono ?_; rintro e w' ⟨rfl, rfl⟩)
           go_ret2
           exact ⟨by simp [D9, Ds, HR.out], rfl⟩
         · have HD := Lib.hid (hd.succ hlt hb)
           have hb' : 48 ≤ (s[k].toNat : Int) ∧ (s[k].toNat : Int) ≤ 57 := by simpa [Cf] using hb
           obtain ⟨b1, b2⟩ := hb'
           clear hd
           go_wp2_with (go_at_call 46; refine (GU _ _).mono ?_; rintro e w' ⟨rfl, rfl⟩)
           go_round
           case rel => exact ⟨k + 1, _, by omega, by go_num, by go_num, HD.out⟩
           case measure => simp [intOf]; omega
       · obtain rfl : k = s.size := by omega
         by_cases he : (BR v).toList = s.toList
         · have HR := Lib.hid ((GH hd hpos (by omega)).trans (if_pos he))
           have hbq : ((BR v).toList == s.toList) = true := by simpa using he
           clear hd he
           go_wp2_with (go_at_call 12; refine (Gx _ _).mono ?_; rintro e w' ⟨rfl, rfl⟩)
           go_ret2
           exact ⟨by simp [D9, Ds, HR.out], rfl⟩
         · have HR := Lib.hid ((GH hd hpos (by omega)).trans (if_neg he))
           have hbq : ((BR v).toList == s.toList) = false := by simpa using he
           clear hd he
           go_wp2_with (go_at_call 12; refine (Gx _ _).mono ?_; rintro e w' ⟨rfl, rfl⟩)
           go_ret2
           exact ⟨by simp [D9, Ds, HR.out], rfl⟩

set_option maxHeartbeats 800000 in
theorem textNumS_any (s : ByteArray) (w : World) (hs : s.size ≤ maxLen) :
   Calls Tryz.prog 100 #[.string s] w fun e w' => e = .returned (.tuple #[.int .i64 (D9 s), .bool (Ds s)]) ∧ Below w.heap.size w w' := by
 unfold maxLen at hs
 by_cases h0 : s.size < 1
 · have hr : Dd s = none := Gq (.inl (List.eq_nil_of_length_eq_zero (by have h9 : s.data.toList.length = s.size := (by simp); omega)))
   have HR := Lib.hid hr
   clear hr
   go_enter Tryz.func100, Tryz.ntmps100
   go_wp2
   go_ret2
   exact ⟨by simp [D9, Ds, HR.out], Below.refl _ _⟩
 · by_cases h15 : 15 < s.size
   · have hr : Dd s = none := Gq (.inr h15)
     have HR := Lib.hid hr
     clear hr
     go_enter Tryz.func100, Tryz.ntmps100
     go_wp2
     go_ret2
     exact ⟨by simp [D9, Ds, HR.out], Below.refl _ _⟩
   · go_enter Tryz.func100, Tryz.ntmps100
     go_wp2
     go_loop [4, 5] (fun n i => ∃ k v : Nat, k ≤ s.size ∧ i = .int .i64 k ∧ n = .int .i64 v ∧ Dig s k v) (fun _ i => s.size - (intOf i).toNat)
     case atStart => exact ⟨0, 0, Nat.zero_le _, rfl, rfl, dig_zero s⟩
     case round =>
       obtain ⟨k, v, hk, rfl, rfl, hd⟩ := hrel
       have hv := hd.lt (by omega)
       by_cases hlt : k < s.size
       · cases hb : Cf ↑s[k].toNat
         · have HR := Lib.hid (textNum_bad hlt hb)
           have hb' : (s[k].toNat : Int) < 48 ∨ 48 ≤ (s[k].toNat : Int) ∧ 57 < (s[k].toNat : Int) := by
             have : ¬ (48 ≤ (s[k].toNat : Int) ∧ (s[k].toNat : Int) ≤ 57) := by simpa [Cf] using hb
             omega
           clear hd hb
           rcases hb' with h1 | ⟨h1, h2⟩
           all_goals
             go_wp2
             go_ret2
             exact ⟨by simp [D9, Ds, HR.out], Below.refl _ _⟩
         · have HD := Lib.hid (hd.succ hlt hb)
           have hb' : 48 ≤ (s[k].toNat : Int) ∧ (s[k].toNat : Int) ≤ 57 := by simpa [Cf] using hb
           obtain ⟨b1, b2⟩ := hb'
           clear hd hb
           go_wp2
           go_round
           case rel => exact ⟨k + 1, _, by omega, by go_num, by go_num, HD.out⟩
           case measure => simp [intOf]; omega
       · obtain rfl : k = s.size := by omega
         have hpos : 0 < s.size := by omega
         by_cases he : (BR v).toList = s.toList
         · have HR := Lib.hid ((GH hd hpos (by omega)).trans (if_pos he))
           have hbq : ((BR v).toList == s.toList) = true := by simpa using he
           have hnb : Df v = true := by
             cases hnb : Df v
             · rw [H7 hnb] at he
               have : s.toList.length = s.size := by rw [ByteArray.toList_eq]; simp
               rw [← he] at this
               simp at this; omega
             · rfl
           clear hd he
           go_wp2_with (first | (go_at_call 15; refine (Fo _ _).mono ?_; rintro e w' ⟨rfl, hb1⟩) | (go_at_call 40; refine (D7 _ _).mono ?_; rintro e w' ⟨rfl, rfl⟩))
           go_ret2
           exact ⟨by simp [D9, Ds, HR.out], hb1⟩
         · have HR := Lib.hid ((GH hd hpos (by omega)).trans (if_neg he))
           have hbq : ((BR v).toList == s.toList) = false := by simpa using he
           clear hd he
           cases hnb : Df v
           · go_wp2_with (first | (go_at_call 15; refine (Fo _ _).mono ?_; rintro e w' ⟨rfl, hb1⟩) | (go_at_call 40; refine (D7 _ _).mono ?_; rintro e w' ⟨rfl, rfl⟩))
             go_ret2
             exact ⟨by simp [D9, Ds, HR.out], Below.refl _ _⟩
           · go_wp2_with (first | (go_at_call 15; refine (Fo _ _).mono ?_; rintro e w' ⟨rfl, hb1⟩) | (go_at_call 40; refine (D7 _ _).mono ?_; rintro e w' ⟨rfl, rfl⟩))
             go_ret2
             exact ⟨by simp [D9, Ds, HR.out], hb1⟩
end Go.Proofs.YtkemjhlbokldhaaGreat

namespace Go.Proofs.YtkemjhlbokldhaaGreat
open Go.RowKit
set_option linter.unusedVariables false

structure Val where
 n : Int
 s : ByteArray
def valE : Enc Val := isoE (C3 (intE .i64) (C3 DM Gc)) (fun v => (v.n, v.s, ()))
theorem valE_rep {w : World} {cs : List Value} {v : Val} {bs : List Nat} : valE.rep w cs v bs ↔ cs = [.int .i64 v.n, .string v.s] ∧ (Lit.int .i64 v.n).wf = true ∧ v.s.size ≤ maxLen ∧ bs = [] := by
 constructor
 · rintro ⟨c1, c2, b1, b2, rfl, rfl, ⟨rfl, h2, rfl⟩, c3, c4, b3, b4, rfl, rfl, ⟨rfl, h3, rfl⟩, rfl, rfl⟩
   exact ⟨rfl, h2, h3, rfl⟩
 · rintro ⟨rfl, h2, h3, rfl⟩
   exact ⟨[_], [_], [], [], rfl, rfl, ⟨rfl, h2, rfl⟩, [_], [], [], [], rfl, rfl, ⟨rfl, h3, rfl⟩, rfl, rfl⟩
def CV (v : Val) : Bool := if v.s.toList.isEmpty then Df v.n else v.n == 0 && C7 v.s
theorem valOk_num {v : Val} (h : v.s.toList.isEmpty = true) : CV v = Df v.n := by rw [CV, if_pos h]
theorem H2 {v : Val} (h : v.s.toList.isEmpty = false) : CV v = (v.n == 0 && C7 v.s) := by rw [CV, if_neg (by simp [h])]

set_option maxHeartbeats 400000 in
theorem Gp (n : Int) (s : ByteArray) (w : World) (hs : s.size ≤ maxLen) :
   Calls Tryz.prog 109 #[.agg #[.int .i64 n, .string s]] w fun e w' => e = .returned (.bool (CV ⟨n, s⟩)) ∧ Below w.heap.size w w' := by
 cases hq : s.toList.isEmpty
 · have HR := Lib.hid (H2 (v := ⟨n, s⟩) hq)
   cases hz : (n == 0)
   · go_enter Tryz.func109, Tryz.ntmps109
     go_wp2_with (first | (go_at_call 34; refine (Eb _ _).mono ?_; rintro e w' ⟨rfl, rfl⟩) | (go_at_call 58; refine (GD _ _ hs).mono ?_; rintro e w' ⟨rfl, rfl⟩))
     go_ret
     exact ⟨Cp (by rw [HR.out, hz]; rfl), (Below.refl _ _).alloc (Nat.le_refl _) _⟩
   · go_enter Tryz.func109, Tryz.ntmps109
     go_wp2_with (first | (go_at_call 34; refine (Eb _ _).mono ?_; rintro e w' ⟨rfl, rfl⟩) | (go_at_call 58; refine (GD _ _ hs).mono ?_; rintro e w' ⟨rfl, rfl⟩))
     go_ret
     exact ⟨Cp (by rw [HR.out, hz]; rfl), (Below.refl _ _).alloc (Nat.le_refl _) _⟩
 · have HR := Lib.hid (valOk_num (v := ⟨n, s⟩) hq)
   go_enter Tryz.func109, Tryz.ntmps109
   go_wp2_with (first | (go_at_call 34; refine (Eb _ _).mono ?_; rintro e w' ⟨rfl, rfl⟩) | (go_at_call 58; refine (GD _ _ hs).mono ?_; rintro e w' ⟨rfl, rfl⟩))
   go_ret
   exact ⟨Cp HR.out.symm, (Below.refl _ _).alloc (Nat.le_refl _) _⟩

set_option maxHeartbeats 400000 in
theorem Gn (n : Int) (s : ByteArray) (w : World) (hs : s.size ≤ maxLen) :
   Calls Tryz.prog 112 #[.agg #[.int .i64 n, .string s]] w fun e w' => e = .returned (.bool (CV ⟨n, s⟩)) ∧ Below w.heap.size w w' := by
 cases hq : s.toList.isEmpty
 · have HR := Lib.hid (H2 (v := ⟨n, s⟩) hq)
   cases hz : (n == 0)
   · go_enter Tryz.func112, Tryz.ntmps112
     go_wp2_with (first | (go_at_call 40; refine (D7 _ _).mono ?_; rintro e w' ⟨rfl, rfl⟩) | (go_at_call 68; refine (GC _ _ hs).mono ?_; rintro e w' ⟨rfl, rfl⟩))
     go_ret
     exact ⟨Cp (by rw [HR.out, hz]; rfl), (Below.refl _ _).alloc (Nat.le_refl _) _⟩
   · go_enter Tryz.func112, Tryz.ntmps112
     go_wp2_with (first | (go_at_call 40; refine (D7 _ _).mono ?_; rintro e w' ⟨rfl, rfl⟩) | (go_at_call 68; refine (GC _ _ hs).mono ?_; rintro e w' ⟨rfl, rfl⟩))
     go_ret
     exact ⟨Cp (by rw [HR.out, hz]; rfl), (Below.refl _ _).alloc (Nat.le_refl _) _⟩
 · have HR := Lib.hid (valOk_num (v := ⟨n, s⟩) hq)
   go_enter Tryz.func112, Tryz.ntmps112
   go_wp2_with (first | (go_at_call 40; refine (D7 _ _).mono ?_; rintro e w' ⟨rfl, rfl⟩) | (go_at_call 68; refine (GC _ _ hs).mono ?_; rintro e w' ⟨rfl, rfl⟩))
   go_ret
   exact ⟨Cp HR.out.symm, (Below.refl _ _).alloc (Nat.le_refl _) _⟩

def ER (a b : Val) : Int :=
 if a.s.toList.isEmpty then (if b.s.toList.isEmpty then a.n - b.n else -1) else if b.s.toList.isEmpty then 1 else Lib.compareBytes a.s.data.toList b.s.data.toList
end Go.Proofs.YtkemjhlbokldhaaGreat

namespace Go.Proofs.YtkemjhlbokldhaaGreat
open Go.RowKit
set_option linter.unusedVariables false

def Kept (w : World) (L : List (Addr × Value)) (W : World) : Prop := Below w.heap.size w W ∧ ∀ p ∈ L, W.cell? p.1 = some p.2
theorem Kept.up {w W w' : World} {L : List (Addr × Value)} (hb : Below W.heap.size W w') (h : Kept w L W) : Kept w L w' :=
 ⟨below_up h.1 hb (Nat.le_refl _), fun p hp => (hb.cell (World.block_lt_of_cell? W p.1 (h.2 p hp))).trans (h.2 p hp)⟩
theorem Kept.drew {w W : World} {L : List (Addr × Value)} (h : Kept w L W) : Kept w L W.drew := ⟨h.1.drew, h.2⟩
theorem Kept.alloc {w W : World} {L : List (Addr × Value)} (h : Kept w L W) (o : Obj) : Kept w L (W.alloc o) := h.up ((Below.refl _ _).alloc (Nat.le_refl _) o)
theorem Kept.cons {w W : World} {L : List (Addr × Value)} {a : Addr} {v : Value} (hc : W.cell? a = some v) (h : Kept w L W) : Kept w ((a, v) :: L) W :=
 ⟨h.1, fun p hp => by
   rcases List.mem_cons.1 hp with rfl | hp
   · exact hc
   · exact h.2 p hp⟩
theorem Kept.held {w W : World} {L : List (Addr × Value)} (h : Kept w L W) : Held w [] W := ⟨h.1, fun p hp => by cases hp⟩
theorem Kept.c1 {w W : World} {a0 : Addr} {v0 : Value} (h : Kept w [(a0, v0)] W) : Kept w [(a0, v0)] W ∧ W.cell? a0 = some v0 := ⟨h, h.2 (a0, v0) (by simp)⟩
theorem Kept.c2 {w W : World} {a0 a1 : Addr} {v0 v1 : Value} (h : Kept w [(a0, v0), (a1, v1)] W) : Kept w [(a0, v0), (a1, v1)] W ∧ W.cell? a0 = some v0 ∧ W.cell? a1 = some v1 := ⟨h, h.2 (a0, v0) (by simp), h.2 (a1, v1) (by simp)⟩
theorem Kept.c3 {w W : World} {a0 a1 a2 : Addr} {v0 v1 v2 : Value} (h : Kept w [(a0, v0), (a1, v1), (a2, v2)] W) : Kept w [(a0, v0), (a1, v1), (a2, v2)] W ∧ W.cell? a0 = some v0 ∧ W.cell? a1 = some v1 ∧ W.cell? a2 = some v2 := ⟨h, h.2 (a0, v0) (by simp), h.2 (a1, v1) (by simp), h.2 (a2, v2) (by simp)⟩
theorem Kept.c4 {w W : World} {a0 a1 a2 a3 : Addr} {v0 v1 v2 v3 : Value} (h : Kept w [(a0, v0), (a1, v1), (a2, v2), (a3, v3)] W) : Kept w [(a0, v0), (a1, v1), (a2, v2), (a3, v3)] W ∧ W.cell? a0 = some v0 ∧ W.cell? a1 = some v1 ∧ W.cell? a2 = some v2 ∧ W.cell? a3 = some v3 := ⟨h, h.2 (a0, v0) (by simp), h.2 (a1, v1) (by simp), h.2 (a2, v2) (by simp), h.2 (a3, v3) (by simp)⟩
theorem Kept.c5 {w W : World} {a0 a1 a2 a3 a4 : Addr} {v0 v1 v2 v3 v4 : Value} (h : Kept w [(a0, v0), (a1, v1), (a2, v2), (a3, v3), (a4, v4)] W) : Kept w [(a0, v0), (a1, v1), (a2, v2), (a3, v3), (a4, v4)] W ∧ W.cell? a0 = some v0 ∧ W.cell? a1 = some v1 ∧ W.cell? a2 = some v2 ∧ W.cell? a3 = some v3 ∧ W.cell? a4 = some v4 := ⟨h, h.2 (a0, v0) (by simp), h.2 (a1, v1) (by simp), h.2 (a2, v2) (by simp), h.2 (a3, v3) (by simp), h.2 (a4, v4) (by simp)⟩
theorem Kept.c7 {w W : World} {a0 a1 a2 a3 a4 a5 a6 : Addr} {v0 v1 v2 v3 v4 v5 v6 : Value} (h : Kept w [(a0, v0), (a1, v1), (a2, v2), (a3, v3), (a4, v4), (a5, v5), (a6, v6)] W) : Kept w [(a0, v0), (a1, v1), (a2, v2), (a3, v3), (a4, v4), (a5, v5), (a6, v6)] W ∧ W.cell? a0 = some v0 ∧ W.cell? a1 = some v1 ∧ W.cell? a2 = some v2 ∧ W.cell? a3 = some v3 ∧ W.cell? a4 = some v4 ∧ W.cell? a5 = some v5 ∧ W.cell? a6 = some v6 := ⟨h, h.2 (a0, v0) (by simp), h.2 (a1, v1) (by simp), h.2 (a2, v2) (by simp), h.2 (a3, v3) (by simp), h.2 (a4, v4) (by simp), h.2 (a5, v5) (by simp), h.2 (a6, v6) (by simp)⟩
theorem SliceRep.val {w : World} {a : Option Addr} {n cap : Nat} {xs : List Val} {bs : List Nat} (h : SliceRep valE w a n cap xs bs) {i : Nat} (hi : i < xs.length) :
   ∃ g off, a = some ⟨g, off, none⟩ ∧ w.cell? ⟨g, off + i * 2, none⟩ = some (.int .i64 xs[i].n) ∧ w.cell? ⟨g, off + i * 2 + 1, none⟩ = some (.string xs[i].s) ∧ xs[i].s.size ≤ maxLen ∧ (Lit.int .i64 xs[i].n).wf = true := by
 obtain ⟨g, off, cs, b, ha, hr, hc, _, _⟩ := h.get hi
 obtain ⟨rfl, h1, h2, _⟩ := valE_rep.1 hr
 exact ⟨g, off, ha, hc 0 _ rfl, hc 1 _ rfl, h2, h1⟩

def El {α : Type} (p : α → Bool) (xs : List α) : Int := match xs.findIdx? p with | some i => i | none => -1
theorem firstIdx_at {α : Type} {p : α → Bool} {xs : List α} {k : Nat} (hk : k < xs.length) (h0 : ∀ j (h : j < xs.length), j < k → p xs[j] = false) (h1 : p xs[k] = true) : El p xs = k := by
 have : xs.findIdx? p = some k := by
   rw [List.findIdx?_eq_some_iff_getElem]
   exact ⟨hk, h1, fun j hj => by simp [h0 j (by omega) hj]⟩
 simp [El, this]
theorem firstIdx_none {α : Type} {p : α → Bool} {xs : List α} (h0 : ∀ j (h : j < xs.length), p xs[j] = false) : El p xs = -1 := by
 have : xs.findIdx? p = none := by
   rw [List.findIdx?_eq_none_iff]
   intro x hx
   obtain ⟨i, hi, rfl⟩ := List.getElem_of_mem hx
   exact h0 i hi
 simp [El, this]
def NoneTo {α : Type} (p : α → Bool) (xs : List α) (k : Nat) : Prop := ∀ j (h : j < xs.length), j < k → p xs[j] = false
theorem NoneTo.zero {α : Type} {p : α → Bool} {xs : List α} : NoneTo p xs 0 := fun _ _ h => by omega
theorem NoneTo.succ {α : Type} {p : α → Bool} {xs : List α} {k : Nat} (h : NoneTo p xs k) (hk : k < xs.length) (hp : p xs[k] = false) : NoneTo p xs (k + 1) := fun j hj hjk => by
 rcases Nat.lt_or_ge j k with h1 | h1
 · exact h j hj h1
 · obtain rfl : j = k := by omega
   exact hp
theorem NoneTo.none {α : Type} {p : α → Bool} {xs : List α} (h : NoneTo p xs xs.length) : El p xs = -1 := firstIdx_none fun j hj => h j hj hj
theorem NoneTo.all {α : Type} {p : α → Bool} {xs : List α} (h : NoneTo p xs xs.length) : xs.any p = false := by
 rw [List.any_eq_false]
 intro x hx
 obtain ⟨i, hi, rfl⟩ := List.getElem_of_mem hx
 simp [h i hi hi]
def badVal (v : Val) : Bool := !CV v
def rowOk (r : List Val) : Bool := decide (r.length ≤ 6) && !r.any badVal
end Go.Proofs.YtkemjhlbokldhaaGreat

namespace Go.Proofs.YtkemjhlbokldhaaGreat
open Go.RowKit
set_option linter.unusedVariables false

def EW (w : World) (g : Nat) : Nat → List Value → World
 | _, [] => w
 | o, c :: cs => EW (w.setCell ⟨g, o, none⟩ c) g (o + 1) cs

theorem FW (g : Nat) : ∀ (cs : List Value) (w : World) (o : Nat), (EW w g o cs).heap.size = w.heap.size
 | [], w, o => rfl
 | c :: cs, w, o => by rw [EW, FW g cs]; simp [World.setCell]
theorem Fw {g b : Nat} (hne : b ≠ g) : ∀ (cs : List Value) (w : World) (o : Nat), (EW w g o cs).heap[b]? = w.heap[b]?
 | [], w, o => rfl
 | c :: cs, w, o => by rw [EW, Fw hne cs]; exact Below.heap_setCell w _ _ _ hne
theorem setCells_own {g : Nat} : ∀ (cs : List Value) (w : World) (o : Nat) (c : Array Value) (t : TypeId) (fr : Nat × Nat), w.heap[g]? = some (.cells c t fr) → o + cs.length ≤ c.size →
   ∃ c', (EW w g o cs).heap[g]? = some (.cells c' t fr) ∧ c'.size = c.size ∧ ∀ i, c'[i]? = if o ≤ i ∧ i < o + cs.length then cs[i - o]? else c[i]?
 | [], w, o, c, t, fr, h, _ => ⟨c, h, rfl, fun i => by rw [if_neg (by simp)]⟩
 | v :: cs, w, o, c, t, fr, h, hl => by
   have h1 : (w.setCell ⟨g, o, none⟩ v).heap[g]? = some (.cells (c.setIfInBounds o v) t fr) := by
     simp [World.setCell, Array.getElem?_modify, h]
   obtain ⟨c', h2, h3, h4⟩ := setCells_own cs (w.setCell ⟨g, o, none⟩ v) (o + 1) (c.setIfInBounds o v) t fr h1 (by simp only [List.length_cons] at hl; simp; omega)
   refine ⟨c', h2, by simpa using h3, fun i => ?_⟩
   rw [h4 i]
   simp only [List.length_cons] at hl ⊢
   by_cases hi : i = o
   · subst hi
     rw [if_neg (by omega), if_pos (by omega)]
     simp only [Nat.sub_self, List.getElem?_cons_zero]
     rw [Array.getElem?_setIfInBounds_self_of_lt (by omega)]
   · by_cases hin : o + 1 ≤ i ∧ i < o + 1 + cs.length
     · rw [if_pos hin, if_pos (by omega)]
       obtain ⟨j, rfl⟩ : ∃ j, i = o + 1 + j := ⟨i - (o + 1), by omega⟩
       rw [show o + 1 + j - (o + 1) = j by omega, show o + 1 + j - o = j + 1 by omega, List.getElem?_cons_succ]
     · rw [if_neg hin, if_neg (by omega), Array.getElem?_setIfInBounds_ne (by omega)]

theorem Cu {w : World} {g : Nat} {c : Array Value} {t : TypeId} {fr : Nat × Nat} (h : w.heap[g]? = some (.cells c t fr)) (i : Nat) : w.cell? ⟨g, i, none⟩ = c[i]? := by
 show (match w.heap[g]? with | some (.cells c _ _) => if (none : Option Nat).isSome then none else c[i]? | _ => none) = _
 rw [h]; rfl
theorem D3 {k : Nat} {b' : List Nat} : ∀ (bss : List (List Nat)) (hk : k < bss.length) (x : Nat), x ∈ (bss.set k b').flatten → x ∈ b' ∨ x ∈ bss.flatten
 | b :: bss, hk, x, h => by
   cases k with
   | zero =>
     simp only [List.set_cons_zero, List.flatten_cons, List.mem_append] at h ⊢
     rcases h with h | h
     · exact .inl h
     · exact .inr (.inr h)
   | succ k =>
     simp only [List.set_cons_succ, List.flatten_cons, List.mem_append] at h ⊢
     rcases h with h | h
     · exact .inr (.inl h)
     · rcases D3 bss (by simpa using hk) x h with h | h
       · exact .inl h
       · exact .inr (.inr h)
theorem nodup_set {b' : List Nat} (hb' : b'.Nodup) : ∀ (bss : List (List Nat)) (k : Nat) (hk : k < bss.length), bss.flatten.Nodup → (∀ c ∈ b', c ∈ bss[k] ∨ c ∉ bss.flatten) → (bss.set k b').flatten.Nodup
 | b :: bss, 0, hk, hn, hc => by
   simp only [List.set_cons_zero, List.flatten_cons, List.nodup_append, List.getElem_cons_zero, List.mem_append] at *
   refine ⟨hb', hn.2.1, fun x hx y hy e => ?_⟩
   subst e
   rcases hc x hx with h | h
   · exact hn.2.2 x h x hy rfl
   · exact h (.inr hy)
 | b :: bss, k + 1, hk, hn, hc => by
   simp only [List.set_cons_succ, List.flatten_cons, List.nodup_append, List.getElem_cons_succ, List.mem_append] at *
   have hk' : k < bss.length := by simpa using hk
   refine ⟨hn.1, nodup_set hb' bss k hk' hn.2.1 (fun c h => ?_), fun x hx y hy e => ?_⟩
   · rcases hc c h with h1 | h1
     · exact .inl h1
     · exact .inr fun h2 => h1 (.inr h2)
   · subst e
     rcases D3 bss hk' x hy with h | h
     · rcases hc x h with h1 | h1
       · exact hn.2.2 x hx x (List.mem_flatten.2 ⟨_, List.getElem_mem hk', h1⟩) rfl
       · exact h1 (.inl hx)
     · exact hn.2.2 x hx x h rfl

theorem Elems.upd {α : Type} {e : Enc α} {w w' : World} {g off k : Nat} {xs : List α} {bss : List (List Nat)} (h : Elems e w g off xs bss) {x' : α} {cs : List Value} {b' : List Nat} (hr : e.rep w' cs x' b')
   (hcs : ∀ j u, cs[j]? = some u → w'.cell? ⟨g, off + k * e.size + j, none⟩ = some u)
   (hrest : ∀ i, i < off + k * e.size ∨ off + (k + 1) * e.size ≤ i → w'.cell? ⟨g, i, none⟩ = w.cell? ⟨g, i, none⟩)
   (hother : ∀ i b, i ≠ k → bss[i]? = some b → ∀ c ∈ b, w'.heap[c]? = w.heap[c]?) (hs : w.heap.size ≤ w'.heap.size) :
   Elems e w' g off (xs.set k x') (bss.set k b') := by
 refine ⟨by simp [h.1], fun i x b hx hb => ?_⟩
 by_cases hik : i = k
 · subst hik
   have hlx : i < xs.length := by have := (List.getElem?_eq_some_iff.1 hx).1; simpa using this
   have hlb : i < bss.length := by rw [h.1]; exact hlx
   rw [List.getElem?_set_self hlx] at hx
   rw [List.getElem?_set_self hlb] at hb
   cases hx; cases hb
   exact ⟨cs, hr, hcs⟩
 · rw [List.getElem?_set_ne (Ne.symm hik)] at hx hb
   obtain ⟨cs0, h1, h2⟩ := h.2 i x b hx hb
   refine ⟨cs0, e.keep h1 (hother i b hik hb) hs, fun j u hu => ?_⟩
   have hj : j < e.size := by rw [← e.len h1]; exact (List.getElem?_eq_some_iff.1 hu).1
   rw [hrest, h2 j u hu]
   rcases Nat.lt_or_ge i k with h3 | h3
   · left
     have : (i + 1) * e.size ≤ k * e.size := Nat.mul_le_mul_right _ h3
     rw [Nat.add_mul] at this
     omega
   · right
     have : (k + 1) * e.size ≤ i * e.size := Nat.mul_le_mul_right _ (by omega)
     omega

theorem SliceRep.parts {α : Type} {e : Enc α} {w : World} {a : Option Addr} {n cap : Nat} {xs : List α} {bs : List Nat} (h : SliceRep e w a n cap xs bs) (hne : xs ≠ []) :
   ∃ g off bss, a = some ⟨g, off, none⟩ ∧ g < w.heap.size ∧ bs = g :: bss.flatten ∧ Elems e w g off xs bss := by
 obtain ⟨_, _, _, _, h5⟩ := h
 rcases h5 with ⟨h6, _⟩ | ⟨g, off, bss, _, ha, hg, hb, hE⟩
 · exact absurd h6 hne
 · exact ⟨g, off, bss, ha, hg, hb, hE⟩
theorem SliceRep.mk {α : Type} {e : Enc α} {w : World} {g off n cap : Nat} {xs : List α} {bss : List (List Nat)} (hn : n = xs.length) (hc : n ≤ cap) (hm : cap ≤ maxLen) (hne : xs ≠ []) (hg : g < w.heap.size) (hE : Elems e w g off xs bss) :
   SliceRep e w (some ⟨g, off, none⟩) n cap xs (g :: bss.flatten) := ⟨hn, hc, hm, (fun h => by cases h), .inr ⟨g, off, bss, hne, rfl, hg, rfl, hE⟩⟩

theorem SliceRep.store {α : Type} {e : Enc α} {w : World} {lo g off n cap k : Nat} {xs : List α} {bs : List Nat} (h : SliceRep e w (some ⟨g, off, none⟩) n cap xs bs) (hF : Fresh lo w bs) (hpos : 0 < e.size) (hk : k < xs.length)
   {x' : α} {cs : List Value} {b' : List Nat} (hr : e.rep w cs x' b') (hF' : Fresh lo w b') (hd : ∀ c ∈ b', c ∉ bs) :
   ∃ bs'', SliceRep e (EW w g (off + k * e.size) cs) (some ⟨g, off, none⟩) n cap (xs.set k x') bs'' ∧ Fresh lo (EW w g (off + k * e.size) cs) bs'' ∧ ∀ c ∈ bs'', c ∈ b' ∨ c ∈ bs := by
 have hne : xs ≠ [] := by intro e; subst e; simp at hk
 obtain ⟨g', off', bss, ha, hg, rfl, hE⟩ := h.parts hne
 simp only [Option.some.injEq, Addr.mk.injEq, and_true] at ha
 obtain ⟨rfl, rfl⟩ := ha
 obtain ⟨_, c, t, hblk⟩ := hF.2 g (List.mem_cons_self ..)
 have hkb : k < bss.length := by rw [hE.1]; exact hk
 have hlen : off + k * e.size + cs.length ≤ c.size := by
   obtain ⟨cs0, h1, h2⟩ := hE.2 k xs[k] bss[k] (List.getElem?_eq_getElem hk) (List.getElem?_eq_getElem hkb)
   have hl0 := e.len h1
   have := h2 (e.size - 1) (cs0[e.size - 1]'(by omega)) (List.getElem?_eq_getElem (by omega))
   rw [Cu hblk] at this
   have := (Array.getElem?_eq_some_iff.1 this).1
   rw [e.len hr]
   omega
 obtain ⟨c', hb1, hsz, hci⟩ := setCells_own cs w (off + k * e.size) c t (0, 0) hblk hlen
 have hnd : g ∉ bss.flatten ∧ bss.flatten.Nodup := List.nodup_cons.1 hF.1
 have hE' : Elems e (EW w g (off + k * e.size) cs) g off (xs.set k x') (bss.set k b') := by
   refine hE.upd (e.keep hr (fun b hb => Fw (fun eq => hd b hb (by rw [eq]; exact List.mem_cons_self ..)) _ _ _) (Nat.le_of_eq (FW ..).symm)) (fun j u hu => ?_) (fun i hi => ?_) (fun i b hik hb c hc => ?_) (Nat.le_of_eq (FW ..).symm)
   · rw [Cu hb1, hci]
     have hj := (List.getElem?_eq_some_iff.1 hu).1
     rw [if_pos (by omega), show off + k * e.size + j - (off + k * e.size) = j by omega, hu]
   · rw [Cu hb1, hci, Cu hblk]
     rw [if_neg]
     rw [e.len hr]
     rw [Nat.add_mul] at hi
     omega
   · refine Fw (fun e => ?_) _ _ _
     subst e
     exact hnd.1 (List.mem_flatten.2 ⟨b, List.mem_of_getElem? hb, hc⟩)
 refine ⟨g :: (bss.set k b').flatten, ?_, ?_, ?_⟩
 · exact SliceRep.mk (by simpa using h.1) h.2.1 h.2.2.1 (by intro e; simp at e; exact hne e) (by rw [FW]; exact hg) hE'
 · refine ⟨List.nodup_cons.2 ⟨fun hm => ?_, nodup_set hF'.1 bss k hkb hnd.2 (fun c hc => .inr fun h2 => hd c hc (List.mem_cons_of_mem _ h2))⟩, fun b hb => ?_⟩
   · rcases D3 bss hkb g hm with h | h
     · exact hd g h (List.mem_cons_self ..)
     · exact hnd.1 h
   · rcases List.mem_cons.1 hb with rfl | hb
     · exact ⟨(hF.2 b (List.mem_cons_self ..)).1, c', t, hb1⟩
     · have hbg : b ≠ g := by
         intro eq
         rcases D3 bss hkb b hb with h | h
         · exact hd b h (by rw [eq]; exact List.mem_cons_self ..)
         · exact hnd.1 (eq ▸ h)
       rw [Fw hbg]
       rcases D3 bss hkb b hb with h | h
       · exact hF'.2 b h
       · exact hF.2 b (List.mem_cons_of_mem _ h)
 · intro c hc
   rcases List.mem_cons.1 hc with rfl | hc
   · exact .inr (List.mem_cons_self ..)
   · rcases D3 bss hkb c hc with h | h
     · exact .inl h
     · exact .inr (List.mem_cons_of_mem _ h)

def Filled {α : Type} (xs : List α) (x0 : α) (k : Nat) (ys : List α) : Prop := ys = xs.take k ++ List.replicate (xs.length - k) x0
theorem Filled.zero {α : Type} {xs : List α} {x0 : α} : Filled xs x0 0 (List.replicate xs.length x0) := by simp [Filled]
theorem Filled.len {α : Type} {xs ys : List α} {x0 : α} {k : Nat} (h : Filled xs x0 k ys) (hk : k ≤ xs.length) : ys.length = xs.length := by
 rw [h]; simp; omega
theorem Filled.succ {α : Type} {xs ys : List α} {x0 : α} {k : Nat} (h : Filled xs x0 k ys) (hk : k < xs.length) : Filled xs x0 (k + 1) (ys.set k xs[k]) := by
 unfold Filled at *
 rw [h, List.set_append]
 have h1 : (xs.take k).length = k := by rw [List.length_take]; omega
 rw [if_neg (by omega), h1, Nat.sub_self]
 obtain ⟨m, hm⟩ : ∃ m, xs.length - k = m + 1 := ⟨xs.length - k - 1, by omega⟩
 rw [hm, List.replicate_succ, List.set_cons_zero, show xs.length - (k + 1) = m by omega, List.take_succ_eq_append_getElem (l := xs) hk, List.append_assoc]
 rfl
theorem Filled.done {α : Type} {xs ys : List α} {x0 : α} (h : Filled xs x0 xs.length ys) : ys = xs := by simpa [Filled] using h
end Go.Proofs.YtkemjhlbokldhaaGreat

namespace Go.Proofs.YtkemjhlbokldhaaGreat
open Go.RowKit
set_option linter.unusedVariables false

def CA (v : Val) : ByteArray := if CV v then (if v.s.toList.isEmpty then BR v.n else v.s) else ByteArray.empty

set_option maxHeartbeats 400000 in
theorem valueTextI_any (v : Val) (w : World) (hs : v.s.size ≤ maxLen) :
   Calls Tryz.prog 90 #[.agg #[.int .i64 v.n, .string v.s]] w fun e w' => e = .returned (.string (CA v)) ∧ Below w.heap.size w w' := by
 cases hv : CV v
 · have HR := Lib.hid (show CA v = ByteArray.empty by simp [CA, hv])
   go_enter Tryz.func90, Tryz.ntmps90
   go_wp2_with fail
   refine (Gp _ _ _ hs).mono ?_
   rintro e w1 ⟨rfl, hb1⟩
   go_wp2_with fail
   go_ret
   exact ⟨E6 HR.out.symm, ((Below.refl _ _).alloc (Nat.le_refl _) _).trans (hb1.mono (by simp))⟩
 · cases hq : v.s.toList.isEmpty
   · have HR := Lib.hid (show CA v = v.s by simp [CA, hv, hq])
     go_enter Tryz.func90, Tryz.ntmps90
     go_wp2_with fail
     refine (Gp _ _ _ hs).mono ?_
     rintro e w1 ⟨rfl, hb1⟩
     obtain ⟨hc1, hf1⟩ := bcell hb1
     go_wp2_with fail
     go_ret
     exact ⟨E6 HR.out.symm, ((Below.refl _ _).alloc (Nat.le_refl _) _).trans (hb1.mono (by simp))⟩
   · have HR := Lib.hid (show CA v = BR v.n by simp only [CA, hv, hq, if_true])
     go_enter Tryz.func90, Tryz.ntmps90
     go_wp2_with fail
     refine (Gp _ _ _ hs).mono ?_
     rintro e w1 ⟨rfl, hb1⟩
     obtain ⟨hc1, hf1⟩ := bcell hb1
     go_wp2_with fail
     refine (Gx _ _).mono ?_
     rintro e w2 ⟨rfl, rfl⟩
     go_wp2_with fail
     go_ret
     exact ⟨E6 HR.out.symm, ((Below.refl _ _).alloc (Nat.le_refl _) _).trans (hb1.mono (by simp))⟩

set_option maxHeartbeats 400000 in
theorem valueTextS_any (v : Val) (w : World) (hs : v.s.size ≤ maxLen) :
   Calls Tryz.prog 94 #[.agg #[.int .i64 v.n, .string v.s]] w fun e w' => e = .returned (.string (CA v)) ∧ Below w.heap.size w w' := by
 cases hv : CV v
 · have HR := Lib.hid (show CA v = ByteArray.empty by simp [CA, hv])
   go_enter Tryz.func94, Tryz.ntmps94
   go_wp2_with fail
   refine (Gn _ _ _ hs).mono ?_
   rintro e w1 ⟨rfl, hb1⟩
   go_wp2_with fail
   go_ret
   exact ⟨E6 HR.out.symm, ((Below.refl _ _).alloc (Nat.le_refl _) _).trans (hb1.mono (by simp))⟩
 · cases hq : v.s.toList.isEmpty
   · have HR := Lib.hid (show CA v = v.s by simp [CA, hv, hq])
     go_enter Tryz.func94, Tryz.ntmps94
     go_wp2_with fail
     refine (Gn _ _ _ hs).mono ?_
     rintro e w1 ⟨rfl, hb1⟩
     obtain ⟨hc1, hf1⟩ := bcell hb1
     go_wp2_with fail
     go_ret
     exact ⟨E6 HR.out.symm, ((Below.refl _ _).alloc (Nat.le_refl _) _).trans (hb1.mono (by simp))⟩
   · have HR := Lib.hid (show CA v = BR v.n by simp only [CA, hv, hq, if_true])
     go_enter Tryz.func94, Tryz.ntmps94
     go_wp2_with fail
     refine (Gn _ _ _ hs).mono ?_
     rintro e w1 ⟨rfl, hb1⟩
     obtain ⟨hc1, hf1⟩ := bcell hb1
     have hz1 : w.heap.size < w1.heap.size := by have := hb1.size; simp at this; omega
     go_wp2_with fail
     refine (Fo _ _).mono ?_
     rintro e w2 ⟨rfl, hb2⟩
     go_wp2_with fail
     go_ret
     exact ⟨E6 HR.out.symm, (((Below.refl _ _).alloc (Nat.le_refl _) _).trans (hb1.mono (by simp))).trans (hb2.mono (by omega))⟩

end Go.Proofs.YtkemjhlbokldhaaGreat

namespace Go.Proofs.YtkemjhlbokldhaaGreat
open Go.RowKit

def AllTo {α : Type} (p : α → Prop) (xs : List α) (k : Nat) : Prop := ∀ j (h : j < xs.length), j < k → p xs[j]
theorem AllTo.zero {α : Type} {p : α → Prop} {xs : List α} : AllTo p xs 0 := fun _ _ h => absurd h (by omega)
theorem AllTo.succ {α : Type} {p : α → Prop} {xs : List α} {k : Nat} (h : AllTo p xs k) (hk : k < xs.length) (hp : p xs[k]) : AllTo p xs (k + 1) := fun j hj hjk => by
 rcases Nat.lt_or_ge j k with h1 | h1
 · exact h j hj h1
 · obtain rfl : j = k := by omega
   exact hp
theorem AllTo.done {α : Type} {p : α → Prop} {xs : List α} (h : AllTo p xs xs.length) : ∀ y ∈ xs, p y := fun y hy => by
 obtain ⟨i, hi, rfl⟩ := List.getElem_of_mem hy
 exact h i hi hi
theorem Value_rep {w : World} {cs : List Value} {x : Val} {bs : List Nat} : valE.rep w cs x bs ↔ cs = [.int .i64 x.n, .string x.s] ∧ (Lit.int .i64 x.n).wf = true ∧ x.s.size ≤ maxLen ∧ bs = [] := valE_rep
def Same (lo : Nat) (W W' : World) : Prop := W'.heap.size = W.heap.size ∧ ∀ b, lo ≤ b → W'.heap[b]? = W.heap[b]?
theorem Same.refl (lo : Nat) (W : World) : Same lo W W := ⟨rfl, fun _ _ => rfl⟩
theorem Same.set {lo : Nat} {W W' : World} (h : Same lo W W') {g : Nat} (hg : g < lo) (o : Nat) (v : Value) : Same lo W (W'.setCell ⟨g, o, none⟩ v) :=
 ⟨by rw [← h.1]; simp [World.setCell], fun b hb => (Below.heap_setCell W' _ _ b (by simp; omega)).trans (h.2 b hb)⟩
theorem SliceRep.same {α : Type} {e : Enc α} {lo : Nat} {W W' : World} {a : Option Addr} {n cap : Nat} {xs : List α} {bs : List Nat} (hS : Same lo W W') (hlo : ∀ c ∈ bs, lo ≤ c) (h : SliceRep e W a n cap xs bs) : SliceRep e W' a n cap xs bs :=
 h.keep (fun b hb => hS.2 b (hlo b hb)) (Nat.le_of_eq hS.1.symm)
theorem Fresh.same {lo lo' : Nat} {W W' : World} {bs : List Nat} (hS : Same lo W W') (hlo : ∀ c ∈ bs, lo ≤ c) (h : Fresh lo' W bs) : Fresh lo' W' bs :=
 ⟨h.1, fun b hb => by
   obtain ⟨h1, c, t, h2⟩ := h.2 b hb
   exact ⟨h1, c, t, (hS.2 b (hlo b hb)).trans h2⟩⟩
theorem Box.set {W : World} {g : Nat} {cs : Array Value} (h : Box W g cs) (o : Nat) (v : Value) (ho : o < cs.size) : Box (W.setCell ⟨g, o, none⟩ v) g (cs.setIfInBounds o v) := by
 have hc := h.cell o
 refine ⟨fun o' => ?_, fun o' => ?_, by simpa [World.setCell] using h.lt⟩
 · by_cases he : o' = o
   · subst he
     rw [Array.getElem?_setIfInBounds_self_of_lt ho]
     have h1 : W.cell? ⟨g, o', none⟩ = some cs[o'] := by rw [hc]; simp [ho]
     first | exact World.cell?_setCell_same _ _ _ h1 | exact World.cell?_setCell_same h1
   · rw [Array.getElem?_setIfInBounds_ne (by omega), ← h.cell o']
     exact World.cell?_setCell_other W _ _ v (fun e => he (by injection e with _ e; exact e.symm))
 · rw [← h.free o']
   exact World.frozen?_setCells g [v] o W _
theorem Box.setOther {W : World} {g g' : Nat} {cs : Array Value} (h : Box W g cs) (hne : g ≠ g') (o : Nat) (v : Value) : Box (W.setCell ⟨g', o, none⟩ v) g cs := by
 have hb := Below.heap_setCell W ⟨g', o, none⟩ v g hne
 exact ⟨fun o' => (World.cell?_of_block (w := W) (a := ⟨g, o', none⟩) hb).trans (h.cell o'), fun o' => (World.frozen?_of_block (w := W) (a := ⟨g, o', none⟩) hb).trans (h.free o'), by simpa [World.setCell] using h.lt⟩
structure Three (w : World) (A Z C : Array Value) (W : World) : Prop where
 below : Below w.heap.size w W
 a : Box W w.heap.size A
 z : Box W (w.heap.size + 1) Z
 c : Box W (w.heap.size + 1 + 1) C
theorem Three.up {w W W' : World} {A Z C : Array Value} (hb : Below W.heap.size W W') (h : Three w A Z C W) : Three w A Z C W' :=
 ⟨below_up h.below hb (Nat.le_refl _), h.a.up hb, h.z.up hb, h.c.up hb⟩
theorem Three.set {w W : World} {A Z C C' : Array Value} (h : Three w A Z C W) (o : Nat) (v : Value) (ho : o < C.size) (hC : C.setIfInBounds o v = C') : Three w A Z C' (W.setCell ⟨w.heap.size + 1 + 1, o, none⟩ v) :=
 ⟨h.below.setCell (p := ⟨w.heap.size + 1 + 1, o, none⟩) (by simp; omega) v, h.a.setOther (by omega) o v, h.z.setOther (by omega) o v, hC ▸ h.c.set o v ho⟩
theorem Three.lt {w W : World} {A Z C : Array Value} (h : Three w A Z C W) : w.heap.size + 1 + 1 + 1 ≤ W.heap.size := h.c.lt
theorem Kept.c11 {w W : World} {a0 a1 a2 a3 a4 a5 a6 a7 a8 a9 a10 : Addr} {v0 v1 v2 v3 v4 v5 v6 v7 v8 v9 v10 : Value} (h : Kept w [(a0, v0), (a1, v1), (a2, v2), (a3, v3), (a4, v4), (a5, v5), (a6, v6), (a7, v7), (a8, v8), (a9, v9), (a10, v10)] W) : Kept w [(a0, v0), (a1, v1), (a2, v2), (a3, v3), (a4, v4), (a5, v5), (a6, v6), (a7, v7), (a8, v8), (a9, v9), (a10, v10)] W ∧ W.cell? a0 = some v0 ∧ W.cell? a1 = some v1 ∧ W.cell? a2 = some v2 ∧ W.cell? a3 = some v3 ∧ W.cell? a4 = some v4 ∧ W.cell? a5 = some v5 ∧ W.cell? a6 = some v6 ∧ W.cell? a7 = some v7 ∧ W.cell? a8 = some v8 ∧ W.cell? a9 = some v9 ∧ W.cell? a10 = some v10 := ⟨h, h.2 (a0, v0) (by simp), h.2 (a1, v1) (by simp), h.2 (a2, v2) (by simp), h.2 (a3, v3) (by simp), h.2 (a4, v4) (by simp), h.2 (a5, v5) (by simp), h.2 (a6, v6) (by simp), h.2 (a7, v7) (by simp), h.2 (a8, v8) (by simp), h.2 (a9, v9) (by simp), h.2 (a10, v10) (by simp)⟩
end Go.Proofs.YtkemjhlbokldhaaGreat

namespace Go.Proofs.YtkemjhlbokldhaaGreat
open Go.RowKit
set_option linter.unusedVariables false
set_option maxRecDepth 100000

theorem zeroValue (w : World) : valE.rep w [.int .i64 0, .string ByteArray.empty] ⟨0, ByteArray.empty⟩ [] := by
 exact Value_rep.2 ⟨rfl, by decide, by simp, rfl⟩
end Go.Proofs.YtkemjhlbokldhaaGreat

namespace Go.Proofs.YtkemjhlbokldhaaGreat
open Go.RowKit
set_option linter.unusedVariables false
set_option maxRecDepth 100000

structure Relt where
 arity : Int
 rows : List (List Val)
end Go.Proofs.YtkemjhlbokldhaaGreat

namespace Go.Proofs.YtkemjhlbokldhaaGreat
open Go.RowKit
set_option linter.unusedVariables false

inductive Cell : Type 1
 | c (v : Value)
 | sl {α : Type} (e : Enc α) (xs : List α)
 | own (k : Nat)
 | ptr (k off : Nat)
 | optr (k i off : Nat)
 | ep {α : Type} (e : Enc α) (x : α) (off : Nat)
 | clo (f : FuncId) (caps : List Nat)
 | any
 | sn {α : Type} (e : Enc α) (xs : List α)
 | slo {α : Type} (B : Nat) (e : Enc α) (xs : List α)
 | epo {α : Type} (B : Nat) (e : Enc α) (x : α) (off : Nat)
 | osl (k lo n : Nat)
 | rx {α : Type} (e : Enc α) (x : α) (vs : List Value) (b : List Nat) (j : Nat)
 | en {α : Type} (e : Enc α) (x : α)
 | hd (k : Nat) (V : Value)
inductive AVal : Type 1
 | one (x : Cell)
 | agg (xs : List Cell)
 | tup (xs : List AVal)
inductive Blk : Type 1
 | box (cs : List Cell)
 | arr {α : Type} (T : TypeId) (e : Enc α) (xs : List α) (deep : Bool)

def lk {β : Type 1} : List (Nat × β) → Nat → Option β
 | [], _ => none
 | (k, x) :: r, i => bif Nat.beq k i then some x else lk r i
abbrev DV := List (Nat × AVal)
abbrev Locs := List (Nat × Option Blk)
def lkl (l : Locs) (k : Nat) : Option Blk := match lk l k with | some (some b) => some b | _ => none

theorem Bv {β : Type 1} {r : List (Nat × β)} {k : Nat} {x : β} : lk ((k, x) :: r) k = some x := by
 have : Nat.beq k k = true := by simp
 simp only [lk, this, cond_true]
theorem B6 {β : Type 1} {r : List (Nat × β)} {j k : Nat} {x : β} (h : j ≠ k) : lk ((j, x) :: r) k = lk r k := by
 have : Nat.beq j k = false := by
   cases hb : Nat.beq j k
   · rfl
   · exact absurd (Nat.eq_of_beq_eq_true hb) h
 simp only [lk, this, cond_false]
theorem DF {β : Type 1} (k : Nat) : ∀ (l r : List (Nat × β)), lk (l ++ r) k = (lk l k).or (lk r k)
 | [], r => by simp [lk]
 | (j, x) :: l, r => by
   by_cases h : j = k
   · subst h; rw [List.cons_append, Bv, Bv]; rfl
   · rw [List.cons_append, B6 h, B6 h, DF k l r]
theorem Bb {r : Locs} {k : Nat} {x : Option Blk} : lkl ((k, x) :: r) k = x := by
 unfold lkl; rw [Bv]; cases x <;> rfl
theorem Bs {r : Locs} {j k : Nat} {x : Option Blk} (h : j ≠ k) : lkl ((j, x) :: r) k = lkl r k := by
 unfold lkl; rw [B6 h]

structure Gh where
 I : Nat → Prop
 ρ : Nat → Nat
 hd : Nat → Value
 F : Nat → List Nat

def wfV : Value → Prop
 | .int k n => (Lit.int k n).wf = true
 | .string s => s.size ≤ maxLen
 | .bool _ => True
 | .slice none 0 0 => True
 | _ => False

def All2 {α : Type} {β : Type 1} (R : α → β → Prop) : List α → List β → Prop
 | [], [] => True
 | a :: ars, b :: bs => R a b ∧ All2 R ars bs
 | _, _ => False
theorem All2.len {α : Type} {β : Type 1} {R : α → β → Prop} : ∀ {l : List α} {m : List β}, All2 R l m → l.length = m.length
 | [], [], _ => rfl
 | a :: ars, b :: bs, h => by simp [All2.len h.2]
theorem All2.mono {α : Type} {β : Type 1} {R S : α → β → Prop} : ∀ {l : List α} {m : List β}, All2 R l m → (∀ a b, b ∈ m → R a b → S a b) → All2 S l m
 | [], [], _, _ => trivial
 | a :: ars, b :: bs, h, hm => ⟨hm a b (List.mem_cons_self ..) h.1, All2.mono h.2 fun a b hb => hm a b (List.mem_cons_of_mem _ hb)⟩
theorem All2.get {α : Type} {β : Type 1} {R : α → β → Prop} : ∀ {l : List α} {m : List β}, All2 R l m → ∀ {i : Nat} {x : β}, m[i]? = some x → ∃ v, l[i]? = some v ∧ R v x
 | [], [], _, i, x, h => by simp at h
 | a :: ars, b :: bs, h, 0, x, hx => ⟨a, rfl, by simp at hx; subst hx; exact h.1⟩
 | a :: ars, b :: bs, h, i + 1, x, hx => by simpa using All2.get h.2 (by simpa using hx)
theorem All2.app {α : Type} {β : Type 1} {R : α → β → Prop} : ∀ {l : List α} {m : List β} {l' : List α} {m' : List β}, All2 R l m → All2 R l' m' → All2 R (l ++ l') (m ++ m')
 | [], [], _, _, _, h => h
 | a :: ars, b :: bs, _, _, h, h' => ⟨h.1, All2.app h.2 h'⟩
theorem All2.set {α : Type} {β : Type 1} {R : α → β → Prop} : ∀ {l : List α} {m : List β}, All2 R l m → ∀ {i : Nat} {v : α} {x : β}, R v x → All2 R (l.set i v) (m.set i x)
 | [], [], _, i, v, x, _ => by simp [All2]
 | a :: ars, b :: bs, h, 0, v, x, hx => ⟨hx, h.2⟩
 | a :: ars, b :: bs, h, i + 1, v, x, hx => ⟨h.1, All2.set h.2 hx⟩
theorem All2.split {α : Type} {β : Type 1} {R : α → β → Prop} : ∀ {m : List β} {l : List α} {m' : List β}, All2 R l (m ++ m') → ∃ l1 l2, l = l1 ++ l2 ∧ All2 R l1 m ∧ All2 R l2 m'
 | [], l, m', h => ⟨[], l, rfl, trivial, h⟩
 | b :: bs, [], m', h => by cases h
 | b :: bs, a :: ars, m', h => by
   obtain ⟨l1, l2, rfl, h1, h2⟩ := All2.split (m := bs) h.2
   exact ⟨a :: l1, l2, rfl, ⟨h.1, h1⟩, h2⟩
theorem All2.take {α : Type} {β : Type 1} {R : α → β → Prop} : ∀ {l : List α} {m : List β}, All2 R l m → ∀ n, All2 R (l.take n) (m.take n)
 | [], [], _, n => by simp [All2]
 | a :: ars, b :: bs, h, 0 => trivial
 | a :: ars, b :: bs, h, n + 1 => ⟨h.1, All2.take h.2 n⟩
theorem All2.drop {α : Type} {β : Type 1} {R : α → β → Prop} : ∀ {l : List α} {m : List β}, All2 R l m → ∀ n, All2 R (l.drop n) (m.drop n)
 | [], [], _, n => by simp [All2]
 | a :: ars, b :: bs, h, 0 => h
 | a :: ars, b :: bs, h, n + 1 => All2.drop h.2 n

def CellR (g : Gh) (l : Locs) (w : World) (v : Value) : Cell → Prop
 | .c u => v = u ∧ wfV u
 | .sl e xs => ∃ a n cap bs, v = .slice a n cap ∧ SliceRep e w a n cap xs bs ∧ ∀ b ∈ bs, g.I b
 | .own k => ∀ (α : Type) (T : TypeId) (e : Enc α) (xs : List α) (d : Bool), lkl l k = some (.arr T e xs d) → v = g.hd k
 | .ptr k off => ∀ cs, lkl l k = some (.box cs) → v = .pointer (some ⟨g.ρ k, off, none⟩)
 | .optr k i off => ∀ (α : Type) (T : TypeId) (e : Enc α) (xs : List α) (d : Bool), lkl l k = some (.arr T e xs d) → v = .pointer (some ⟨g.ρ k, i * e.size + off, none⟩)
 | .ep e x off => ∃ gb o cs b, v = .pointer (some ⟨gb, o + off, none⟩) ∧ g.I gb ∧ e.rep w cs x b ∧ (∀ c ∈ b, g.I c) ∧ ∀ j u, cs[j]? = some u → w.cell? ⟨gb, o + j, none⟩ = some u
 | .clo f caps => (∀ k ∈ caps, ∃ cs, lkl l k = some (.box cs)) → v = .func (.func f) #[] (caps.map fun k => Value.pointer (some ⟨g.ρ k, 0, none⟩)).toArray
 | .any => True
 | .sn e xs => ∃ a n cap bs, v = .slice (some a) n cap ∧ SliceRep e w (some a) n cap xs bs ∧ ∀ b ∈ bs, g.I b
 | .slo B e xs => ∃ a n cap bs, v = .slice a n cap ∧ SliceRep e w a n cap xs bs ∧ ∀ b ∈ bs, g.I b ∧ b < B
 | .epo B e x off => ∃ gb o cs b, v = .pointer (some ⟨gb, o + off, none⟩) ∧ (g.I gb ∧ gb < B) ∧ e.rep w cs x b ∧ (∀ c ∈ b, g.I c ∧ c < B) ∧ ∀ j u, cs[j]? = some u → w.cell? ⟨gb, o + j, none⟩ = some u
 | .osl k lo n => ∀ (α : Type) (T : TypeId) (e : Enc α) (xs : List α) (d : Bool), lkl l k = some (.arr T e xs d) → (g.hd k = .slice none 0 0 ∧ v = .slice none 0 0 ∧ lo = 0 ∧ n = 0) ∨
     ∃ len cap off, g.hd k = .slice (some ⟨g.ρ k, 0, none⟩) len cap ∧ v = .slice (some ⟨g.ρ k, off, none⟩) n (cap - lo) ∧ lo + n ≤ len ∧ len ≤ cap ∧ (lo < cap → off = lo * e.size)
 | .rx e x vs b j => (vs[j]? = some v ∧ v.oneCell' = true) ∧ e.rep w vs x b ∧ ∀ i ∈ b, g.I i
 | .en e x => ∃ b, v.oneCell' = true ∧ e.rep w [v] x b ∧ ∀ i ∈ b, g.I i
 | .hd k V => ∀ (α : Type) (T : TypeId) (e : Enc α) (xs : List α) (d : Bool), lkl l k = some (.arr T e xs d) → g.hd k = V
def VR1 (g : Gh) (l : Locs) (w : World) (v : Value) : AVal → Prop
 | .one x => CellR g l w v x
 | .agg xs => ∃ vs : List Value, v = .agg vs.toArray ∧ All2 (CellR g l w) vs xs
 | .tup _ => False
def VR (g : Gh) (l : Locs) (w : World) (v : Value) : AVal → Prop
 | .tup xs => ∃ vs : List Value, v = .tuple vs.toArray ∧ All2 (VR1 g l w) vs xs
 | x => VR1 g l w v x
theorem VR.one {g : Gh} {l : Locs} {w : World} {v : Value} {x : Cell} : VR g l w v (.one x) = CellR g l w v x := rfl
theorem VR1.vr {g : Gh} {l : Locs} {w : World} {v : Value} : ∀ {x : AVal}, VR1 g l w v x → VR g l w v x
 | .one _, h => h
 | .agg _, h => h

def liv (g : Gh) (k : Nat) : Blk → Prop
 | .box _ => True
 | .arr _ _ _ _ => g.hd k ≠ .slice none 0 0

def ArrR (g : Gh) (w : World) (k : Nat) {α : Type} (T : TypeId) (e : Enc α) (xs : List α) (d : Bool) : Prop :=
 (xs = [] ∧ g.hd k = .slice none 0 0 ∧ (d = true → g.F k = [])) ∨
 ∃ cap vs bss, g.hd k = .slice (some ⟨g.ρ k, 0, none⟩) xs.length cap ∧ xs.length ≤ cap ∧ cap ≤ maxLen ∧ w.heap[g.ρ k]? = some (.cells vs T (0, 0)) ∧ vs.size = cap * e.size ∧
   Elems e w (g.ρ k) 0 xs bss ∧ (∀ b ∈ bss.flatten, g.I b) ∧ ¬ g.I (g.ρ k) ∧ (d = true → g.F k = bss.flatten)
def BoxR (g : Gh) (l : Locs) (w : World) (k : Nat) (cs : List Cell) : Prop :=
 ∃ vs t, w.heap[g.ρ k]? = some (.cells vs t (0, 0)) ∧ All2 (CellR g l w) vs.toList cs ∧ ¬ g.I (g.ρ k)

structure MemR (g : Gh) (l : Locs) (w : World) : Prop where
 ilt : ∀ b, g.I b → b < w.heap.size
 box : ∀ k cs, lkl l k = some (.box cs) → BoxR g l w k cs
 arr : ∀ (k : Nat) (α : Type) (T : TypeId) (e : Enc α) (xs : List α) (d : Bool), lkl l k = some (.arr T e xs d) → ArrR g w k T e xs d
 dis : ∀ j k b b', j ≠ k → lkl l j = some b → lkl l k = some b' → liv g j b → liv g k b' → g.ρ j ≠ g.ρ k
 fr : ∀ (k : Nat) (α : Type) (T : TypeId) (e : Enc α) (xs : List α), lkl l k = some (.arr T e xs true) → (g.F k).Nodup ∧ ∀ b ∈ g.F k, g.I b ∧ ∃ c t, w.heap[b]? = some (.cells c t (0, 0))
 fd : ∀ (j k : Nat) (α β : Type) (T U : TypeId) (e : Enc α) (f : Enc β) (xs : List α) (ys : List β), j ≠ k → lkl l j = some (.arr T e xs true) → lkl l k = some (.arr U f ys true) → ∀ b ∈ g.F j, b ∉ g.F k

def OwnB (g : Gh) (l : Locs) (b : Nat) : Prop :=
 ∃ k blk, lkl l k = some blk ∧ ((liv g k blk ∧ b = g.ρ k) ∨ (∃ (α : Type) (T : TypeId) (e : Enc α) (xs : List α), blk = .arr T e xs true ∧ b ∈ g.F k))

def okK (g : Gh) (l : Locs) (g' : Gh) (l' : Locs) (k : Nat) : Prop :=
 (∀ cs', lkl l' k = some (.box cs') → g'.ρ k = g.ρ k ∧ ∃ cs, lkl l k = some (.box cs)) ∧
 (∀ (α : Type) (T : TypeId) (e : Enc α) (xs : List α) (d : Bool), lkl l' k = some (.arr T e xs d) → ∃ (β : Type) (T0 : TypeId) (e0 : Enc β) (xs0 : List β) (d0 : Bool), lkl l k = some (.arr T0 e0 xs0 d0) ∧ g'.hd k = g.hd k ∧ g'.ρ k = g.ρ k ∧ e.size = e0.size)
theorem okK.same {g g' : Gh} {l l' : Locs} {k : Nat} (hl : lkl l' k = lkl l k) (hr : g'.ρ k = g.ρ k) (hh : g'.hd k = g.hd k) : okK g l g' l' k :=
 ⟨fun cs' h => ⟨hr, cs', by rw [← hl]; exact h⟩, fun α T e xs d h => ⟨α, T, e, xs, d, by rw [← hl]; exact h, hh, hr, rfl⟩⟩
theorem okK.gone {g g' : Gh} {l l' : Locs} {k : Nat} (hl : lkl l' k = none) : okK g l g' l' k :=
 ⟨fun cs' h => (by rw [hl] at h; cases h), fun α T e xs d h => (by rw [hl] at h; cases h)⟩

theorem okK.trans {g g1 g2 : Gh} {l l1 l2 : Locs} {k : Nat} (h : okK g l g1 l1 k) (h' : okK g1 l1 g2 l2 k) : okK g l g2 l2 k :=
 ⟨fun cs hc => by
   obtain ⟨e1, cs1, h1⟩ := h'.1 cs hc
   obtain ⟨e2, cs2, h2⟩ := h.1 cs1 h1
   exact ⟨e1.trans e2, cs2, h2⟩, fun α T e xs d hc => by
   obtain ⟨β, T0, e0, xs0, d0, h1, a1, a2, a3⟩ := h'.2 α T e xs d hc
   obtain ⟨γ, T1, e1, xs1, d1, h2, b1, b2, b3⟩ := h.2 β T0 e0 xs0 d0 h1
   exact ⟨γ, T1, e1, xs1, d1, h2, a1.trans b1, a2.trans b2, a3.trans b3⟩⟩

structure Step (K : List Nat) (g : Gh) (l : Locs) (w : World) (g' : Gh) (l' : Locs) (w' : World) : Prop where
 os : w'.os = w.os
 tape : w'.tape = w.tape
 output : w'.output = w.output
 size : w.heap.size ≤ w'.heap.size
 keep : ∀ b, b < w.heap.size → (∀ k blk, lkl l k = some blk → liv g k blk → b ≠ g.ρ k) → w'.heap[b]? = w.heap[b]?
 imm : ∀ b, g.I b → g'.I b
 imm' : ∀ b, g'.I b → g.I b ∨ w.heap.size ≤ b ∨ OwnB g l b
 own : ∀ b, OwnB g' l' b → OwnB g l b ∨ w.heap.size ≤ b
 base : ∀ k ∈ K, lk l k ≠ none → lk l' k ≠ none ∧ okK g l g' l' k ∧ ∀ cs, lkl l k = some (.box cs) → ∃ cs', lkl l' k = some (.box cs')

theorem OwnB.of_live {g : Gh} {l : Locs} {k : Nat} {blk : Blk} (h : lkl l k = some blk) (hl : liv g k blk) : OwnB g l (g.ρ k) := ⟨k, blk, h, .inl ⟨hl, rfl⟩⟩

theorem MemR.notI {g : Gh} {l : Locs} {w : World} (h : MemR g l w) {k : Nat} {blk : Blk} (hk : lkl l k = some blk) (hl : liv g k blk) : ¬ g.I (g.ρ k) := by
 cases blk with
 | box cs => obtain ⟨_, _, _, _, h1⟩ := h.box k cs hk; exact h1
 | arr T e xs d =>
   rcases h.arr k _ T e xs d hk with ⟨_, h1, _⟩ | ⟨_, _, _, _, _, _, _, _, _, _, h1, _⟩
   · exact absurd h1 hl
   · exact h1
theorem MemR.lt {g : Gh} {l : Locs} {w : World} (h : MemR g l w) {k : Nat} {blk : Blk} (hk : lkl l k = some blk) (hl : liv g k blk) : g.ρ k < w.heap.size := by
 cases blk with
 | box cs => obtain ⟨_, _, h1, _, _⟩ := h.box k cs hk; exact (Array.getElem?_eq_some_iff.1 h1).1
 | arr T e xs d =>
   rcases h.arr k _ T e xs d hk with ⟨_, h1, _⟩ | ⟨_, _, _, _, _, _, h1, _⟩
   · exact absurd h1 hl
   · exact (Array.getElem?_eq_some_iff.1 h1).1
theorem MemR.imm_keep {g : Gh} {l : Locs} {w : World} (h : MemR g l w) {K : List Nat} {g' : Gh} {l' : Locs} {w' : World} (hs : Step K g l w g' l' w') {b : Nat} (hb : g.I b) : w'.heap[b]? = w.heap[b]? :=
 hs.keep b (h.ilt b hb) fun k blk hk hl e => h.notI hk hl (e ▸ hb)

theorem Step.refl (K : List Nat) (g : Gh) (l : Locs) (w : World) : Step K g l w g l w :=
 ⟨rfl, rfl, rfl, Nat.le_refl _, fun _ _ _ => rfl, fun _ h => h, fun _ h => .inl h, fun _ h => .inl h, fun k _ h => ⟨h, okK.same rfl rfl rfl, fun cs h => ⟨cs, h⟩⟩⟩
theorem Step.trans {K : List Nat} {g g1 g2 : Gh} {l l1 l2 : Locs} {w w1 w2 : World} (m : MemR g l w) (m1 : MemR g1 l1 w1) (h : Step K g l w g1 l1 w1) (h' : Step K g1 l1 w1 g2 l2 w2) : Step K g l w g2 l2 w2 where
 os := h'.os.trans h.os
 tape := h'.tape.trans h.tape
 output := h'.output.trans h.output
 size := Nat.le_trans h.size h'.size
 keep := fun b hb hn => by
   rw [h'.keep b (Nat.lt_of_lt_of_le hb h.size) ?_, h.keep b hb hn]
   intro k blk hk hl e
   have ho := h.own b (e ▸ OwnB.of_live hk hl)
   rcases ho with ⟨j, bj, hj, ⟨hlj, e2⟩ | ⟨α, T, e2, xs, rfl, hF⟩⟩ | hge
   · exact hn j bj hj hlj e2
   · exact m1.notI hk hl (e ▸ h.imm b ((m.fr j α T e2 xs hj).2 b hF).1)
   · omega
 imm := fun b hb => h'.imm b (h.imm b hb)
 imm' := fun b hb => by
   rcases h'.imm' b hb with h1 | h1 | h1
   · exact h.imm' b h1
   · exact .inr (.inl (Nat.le_trans h.size h1))
   · rcases h.own b h1 with h2 | h2
     · exact .inr (.inr h2)
     · exact .inr (.inl h2)
 own := fun b hb => by
   rcases h'.own b hb with h1 | h1
   · exact h.own b h1
   · exact .inr (Nat.le_trans h.size h1)
 base := fun k hk hn => by
   obtain ⟨n1, o1, b1⟩ := h.base k hk hn
   obtain ⟨n2, o2, b2⟩ := h'.base k hk n1
   exact ⟨n2, o1.trans o2, fun cs hcs => by
     obtain ⟨cs1, h1⟩ := b1 cs hcs
     exact b2 cs1 h1⟩
theorem Step.sub {K K' : List Nat} {g g' : Gh} {l l' : Locs} {w w' : World} (h : Step K g l w g' l' w') (hK : ∀ k ∈ K', k ∈ K) : Step K' g l w g' l' w' :=
 { h with base := fun k hk => h.base k (hK k hk) }

def Cell.ids : Cell → List Nat
 | .own k => [k]
 | .ptr k _ => [k]
 | .optr k _ _ => [k]
 | .clo _ ks => ks
 | .osl k _ _ => [k]
 | .hd k _ => [k]
 | _ => []
theorem CellR.step {g g' : Gh} {l l' : Locs} {w w' : World} {v : Value} {x : Cell} (hi : ∀ b, g.I b → w'.heap[b]? = w.heap[b]?) (hm : ∀ b, g.I b → g'.I b) (hs : w.heap.size ≤ w'.heap.size) (hok : ∀ k ∈ x.ids, okK g l g' l' k) (h : CellR g l w v x) : CellR g' l' w' v x := by
 cases x with
 | c u => exact h
 | sl e xs =>
   obtain ⟨a, n, cap, bs, h1, h2, h3⟩ := h
   exact ⟨a, n, cap, bs, h1, h2.keep (fun b hb => hi b (h3 b hb)) hs, fun b hb => hm b (h3 b hb)⟩
 | own k =>
   intro α T e xs d hl
   obtain ⟨β, T0, e0, xs0, d0, h0, h1, _⟩ := (hok k (by simp [Cell.ids])).2 α T e xs d hl
   rw [h1]; exact h β T0 e0 xs0 d0 h0
 | ptr k off =>
   intro cs hl
   obtain ⟨e1, cs0, h1⟩ := (hok k (by simp [Cell.ids])).1 cs hl
   rw [e1]; exact h cs0 h1
 | optr k i off =>
   intro α T e xs d hl
   obtain ⟨β, T0, e0, xs0, d0, h0, _, h1, h2⟩ := (hok k (by simp [Cell.ids])).2 α T e xs d hl
   rw [h1, h2]; exact h β T0 e0 xs0 d0 h0
 | ep e x off =>
   obtain ⟨gb, o, cs, b, h1, h2, h3, h4, h5⟩ := h
   exact ⟨gb, o, cs, b, h1, hm _ h2, e.keep h3 (fun c hc => hi c (h4 c hc)) hs, fun c hc => hm c (h4 c hc), fun j u hu => (World.cell?_of_block (w := w) (hi gb h2)).trans (h5 j u hu)⟩
 | clo f caps =>
   intro hc
   have h1 : ∀ k ∈ caps, g'.ρ k = g.ρ k ∧ ∃ cs, lkl l k = some (.box cs) := fun k hk => by
     obtain ⟨cs, h0⟩ := hc k hk
     exact (hok k (by simpa [Cell.ids] using hk)).1 cs h0
   rw [h fun k hk => (h1 k hk).2]
   congr 2
   exact List.map_congr_left fun k hk => by rw [(h1 k hk).1]
 | any => trivial
 | sn e xs =>
   obtain ⟨a, n, cap, bs, h1, h2, h3⟩ := h
   exact ⟨a, n, cap, bs, h1, h2.keep (fun b hb => hi b (h3 b hb)) hs, fun b hb => hm b (h3 b hb)⟩
 | slo B e xs =>
   obtain ⟨a, n, cap, bs, h1, h2, h3⟩ := h
   exact ⟨a, n, cap, bs, h1, h2.keep (fun b hb => hi b (h3 b hb).1) hs, fun b hb => ⟨hm b (h3 b hb).1, (h3 b hb).2⟩⟩
 | epo B e x off =>
   obtain ⟨gb, o, cs, b, h1, h2, h3, h4, h5⟩ := h
   exact ⟨gb, o, cs, b, h1, ⟨hm gb h2.1, h2.2⟩, e.keep h3 (fun c hc => hi c (h4 c hc).1) hs, fun c hc => ⟨hm c (h4 c hc).1, (h4 c hc).2⟩, fun j u hu => (World.cell?_of_block (w := w) (hi gb h2.1)).trans (h5 j u hu)⟩
 | osl k lo n =>
   intro α T e xs d hl
   obtain ⟨β, T0, e0, xs0, d0, h0, h1, h2, h3⟩ := (hok k (by simp [Cell.ids])).2 α T e xs d hl
   rw [h1, h2, h3]; exact h β T0 e0 xs0 d0 h0
 | rx e x vs b j =>
   exact ⟨h.1, e.keep h.2.1 (fun i hb => hi i (h.2.2 i hb)) hs, fun i hb => hm i (h.2.2 i hb)⟩
 | en e x =>
   obtain ⟨b, h1, h2, h3⟩ := h
   exact ⟨b, h1, e.keep h2 (fun i hb => hi i (h3 i hb)) hs, fun i hb => hm i (h3 i hb)⟩
 | hd k V =>
   intro α T e xs d hl
   obtain ⟨β, T0, e0, xs0, d0, h0, h1, _⟩ := (hok k (by simp [Cell.ids])).2 α T e xs d hl
   rw [h1]; exact h β T0 e0 xs0 d0 h0

def AVal.ids : AVal → List Nat
 | .one x => x.ids
 | .agg xs => xs.flatMap Cell.ids
 | .tup xs => xs.flatMap fun | .one x => x.ids | .agg ys => ys.flatMap Cell.ids | .tup _ => []
def AVal.ids1 : AVal → List Nat
 | .one x => x.ids
 | .agg ys => ys.flatMap Cell.ids
 | .tup _ => []
theorem VR1.step {g g' : Gh} {l l' : Locs} {w w' : World} {v : Value} {x : AVal} (hi : ∀ b, g.I b → w'.heap[b]? = w.heap[b]?) (hm : ∀ b, g.I b → g'.I b) (hs : w.heap.size ≤ w'.heap.size) (hok : ∀ k ∈ x.ids1, okK g l g' l' k) (h : VR1 g l w v x) : VR1 g' l' w' v x := by
 cases x with
 | one x => exact CellR.step hi hm hs hok h
 | agg xs =>
   obtain ⟨vs, h1, h2⟩ := h
   exact ⟨vs, h1, h2.mono fun a b hb hr => hr.step hi hm hs fun k hk => hok k (List.mem_flatMap.2 ⟨b, hb, hk⟩)⟩
 | tup xs => exact h
theorem VR.step {g g' : Gh} {l l' : Locs} {w w' : World} {v : Value} {x : AVal} (hi : ∀ b, g.I b → w'.heap[b]? = w.heap[b]?) (hm : ∀ b, g.I b → g'.I b) (hs : w.heap.size ≤ w'.heap.size) (hok : ∀ k ∈ x.ids, okK g l g' l' k) (h : VR g l w v x) : VR g' l' w' v x := by
 cases x with
 | one x => exact CellR.step hi hm hs hok h
 | agg xs => exact VR1.step (x := .agg xs) hi hm hs hok h
 | tup xs =>
   obtain ⟨vs, h1, h2⟩ := h
   refine ⟨vs, h1, h2.mono fun a b hb hr => hr.step hi hm hs fun k hk => hok k ?_⟩
   refine List.mem_flatMap.2 ⟨b, hb, ?_⟩
   cases b <;> exact hk

def Untouched (g : Gh) (l : Locs) (w : World) (g' : Gh) (l' : Locs) (w' : World) (j : Nat) : Prop :=
 lkl l' j = lkl l j ∧ g'.ρ j = g.ρ j ∧ g'.hd j = g.hd j ∧ g'.F j = g.F j ∧ ∀ b, lkl l j = some b → liv g j b → w'.heap[g.ρ j]? = w.heap[g.ρ j]? ∧ ¬ g'.I (g.ρ j)
theorem Untouched.ok {g g' : Gh} {l l' : Locs} {w w' : World} {j : Nat} (h : Untouched g l w g' l' w' j) : okK g l g' l' j := okK.same h.1 h.2.1 h.2.2.1
theorem Untouched.liv {g g' : Gh} {l l' : Locs} {w w' : World} {j : Nat} (h : Untouched g l w g' l' w' j) {b : Blk} (hb : liv g' j b) : liv g j b := by
 cases b with
 | box cs => trivial
 | arr T e xs d => exact fun e => hb (by rw [h.2.2.1]; exact e)
def Locs.ids (l : Locs) : List Nat := l.flatMap fun p => match p.2 with | some (.box cs) => cs.flatMap Cell.ids | _ => []

theorem HE {β : Type 1} {k : Nat} {x : β} : ∀ {l : List (Nat × β)}, lk l k = some x → (k, x) ∈ l
 | [], h => by simp [lk] at h
 | (j, y) :: r, h => by
   by_cases e : j = k
   · subst e; rw [Bv] at h; cases h; exact List.mem_cons_self ..
   · rw [B6 e] at h; exact List.mem_cons_of_mem _ (HE h)
theorem lkl_mem {k : Nat} {b : Blk} {l : Locs} (h : lkl l k = some b) : (k, some b) ∈ l := by
 unfold lkl at h
 split at h
 · rename_i b' he; cases h; exact HE he
 · cases h
theorem Locs.ids_mem {l : Locs} {k : Nat} {cs : List Cell} {x : Cell} (h : lkl l k = some (.box cs)) (hx : x ∈ cs) {i : Nat} (hi : i ∈ x.ids) : i ∈ l.ids :=
 List.mem_flatMap.2 ⟨_, lkl_mem h, List.mem_flatMap.2 ⟨x, hx, hi⟩⟩

theorem MemR.set1 {g g' : Gh} {l l' : Locs} {w w' : World} (m : MemR g l w) (k : Nat) (hi : ∀ b, g.I b → w'.heap[b]? = w.heap[b]?) (hm : ∀ b, g.I b → g'.I b) (hs : w.heap.size ≤ w'.heap.size) (hlt : ∀ b, g'.I b → b < w'.heap.size)
   (hu : ∀ j, j ≠ k → lkl l' j = none ∨ Untouched g l w g' l' w' j) (hk : okK g l g' l' k ∨ k ∉ l.ids)
   (hbox : ∀ cs, lkl l' k = some (.box cs) → BoxR g' l' w' k cs)
   (harr : ∀ (α : Type) (T : TypeId) (e : Enc α) (xs : List α) (d : Bool), lkl l' k = some (.arr T e xs d) → ArrR g' w' k T e xs d)
   (hdis : ∀ j b b', j ≠ k → lkl l' j = some b → lkl l j = some b → lkl l' k = some b' → liv g j b → liv g' k b' → g.ρ j ≠ g'.ρ k)
   (hfr : ∀ (α : Type) (T : TypeId) (e : Enc α) (xs : List α), lkl l' k = some (.arr T e xs true) → (g'.F k).Nodup ∧ ∀ b ∈ g'.F k, g'.I b ∧ ∃ c t, w'.heap[b]? = some (.cells c t (0, 0)))
   (hfd : ∀ (j : Nat) (α β : Type) (T U : TypeId) (e : Enc α) (f : Enc β) (xs : List α) (ys : List β), j ≠ k → lkl l' j = some (.arr T e xs true) → lkl l j = some (.arr T e xs true) → lkl l' k = some (.arr U f ys true) → ∀ b ∈ g.F j, b ∉ g'.F k) : MemR g' l' w' := by
 have un : ∀ {j b}, j ≠ k → lkl l' j = some b → Untouched g l w g' l' w' j := fun {j b} hj hb => by
   rcases hu j hj with h | h
   · rw [h] at hb; cases hb
   · exact h
 have okj : ∀ {j : Nat}, j ∈ l.ids → okK g l g' l' j := fun {j} hj => by
   by_cases e : j = k
   · subst e; exact hk.resolve_right (fun h => h hj)
   · rcases hu j e with h | h
     · exact okK.gone h
     · exact h.ok
 refine ⟨hlt, fun j cs hj => ?_, fun j α T e xs d hj => ?_, fun i j b b' hij h1 h2 l1 l2 => ?_, fun j α T e xs hj => ?_, fun i j α β T U e f xs ys hij h1 h2 b hb hb' => ?_⟩
 · by_cases e : j = k
   · subst e; exact hbox cs hj
   · have u := un e hj
     have h0 : lkl l j = some (.box cs) := by rw [← u.1]; exact hj
     obtain ⟨vs, t, h1, h2, h3⟩ := m.box j cs h0
     have u2 := u.2.2.2.2 _ h0 trivial
     refine ⟨vs, t, by rw [u.2.1, u2.1]; exact h1, h2.mono fun a x hx hr => hr.step hi hm hs fun i hi => okj (Locs.ids_mem h0 hx hi), by rw [u.2.1]; exact u2.2⟩
 · by_cases e1 : j = k
   · subst e1; exact harr α T e xs d hj
   · have u := un e1 hj
     have h0 : lkl l j = some (.arr T e xs d) := by rw [← u.1]; exact hj
     rcases m.arr j α T e xs d h0 with ⟨h1, h2, h3⟩ | ⟨cap, vs, bss, h1, h2, h3, h4, h5, h6, h7, h8, h9⟩
     · exact .inl ⟨h1, by rw [u.2.2.1]; exact h2, fun hd => by rw [u.2.2.2.1]; exact h3 hd⟩
     · have u2 := u.2.2.2.2 _ h0 (by show g.hd j ≠ _; rw [h1]; intro e; cases e)
       refine .inr ⟨cap, vs, bss, by rw [u.2.2.1, u.2.1]; exact h1, h2, h3, by rw [u.2.1, u2.1]; exact h4, h5, ?_, fun b hb => hm b (h7 b hb), by rw [u.2.1]; exact u2.2, fun hd => by rw [u.2.2.2.1]; exact h9 hd⟩
       rw [u.2.1]
       exact h6.keep u2.1 (fun b hb => hi b (h7 b hb)) hs
 · by_cases ei : i = k
   · subst ei
     have u := un (Ne.symm hij) h2
     have := hdis j b' b (Ne.symm hij) h2 (by rw [← u.1]; exact h2) h1 (u.liv l2) l1
     rw [u.2.1]; exact Ne.symm this
   · have ui := un ei h1
     by_cases ej : j = k
     · subst ej
       have := hdis i b b' hij h1 (by rw [← ui.1]; exact h1) h2 (ui.liv l1) l2
       rw [ui.2.1]; exact this
     · have uj := un ej h2
       rw [ui.2.1, uj.2.1]
       exact m.dis i j b b' hij (by rw [← ui.1]; exact h1) (by rw [← uj.1]; exact h2) (ui.liv l1) (uj.liv l2)
 · by_cases e1 : j = k
   · subst e1; exact hfr α T e xs hj
   · have u := un e1 hj
     obtain ⟨h1, h2⟩ := m.fr j α T e xs (by rw [← u.1]; exact hj)
     rw [u.2.2.2.1]
     exact ⟨h1, fun b hb => by
       obtain ⟨h3, c, t, h4⟩ := h2 b hb
       exact ⟨hm b h3, c, t, (hi b h3).trans h4⟩⟩
 · by_cases ei : i = k
   · subst ei
     have uj := un (Ne.symm hij) h2
     rw [uj.2.2.2.1] at hb'
     exact hfd j β α U T f e ys xs (Ne.symm hij) h2 (by rw [← uj.1]; exact h2) h1 b hb' hb
   · have ui := un ei h1
     rw [ui.2.2.2.1] at hb
     by_cases ej : j = k
     · subst ej; exact hfd i α β T U e f xs ys hij h1 (by rw [← ui.1]; exact h1) h2 b hb hb'
     · have uj := un ej h2
       rw [uj.2.2.2.1] at hb'
       exact m.fd i j α β T U e f xs ys hij (by rw [← ui.1]; exact h1) (by rw [← uj.1]; exact h2) b hb hb'

theorem Ic {g g' : Gh} {l l' : Locs} {w w' : World} (k : Nat) (hu : ∀ j, j ≠ k → lkl l' j = none ∨ Untouched g l w g' l' w' j)
   (h1 : ∀ b, lkl l' k = some b → liv g' k b → OwnB g l (g'.ρ k) ∨ w.heap.size ≤ g'.ρ k)
   (h2 : ∀ (α : Type) (T : TypeId) (e : Enc α) (xs : List α), lkl l' k = some (.arr T e xs true) → ∀ b ∈ g'.F k, OwnB g l b ∨ w.heap.size ≤ b) : ∀ b, OwnB g' l' b → OwnB g l b ∨ w.heap.size ≤ b := by
 rintro b ⟨j, blk, hj, h⟩
 by_cases e : j = k
 · subst e
   rcases h with ⟨hl, rfl⟩ | ⟨α, T, e, xs, rfl, hb⟩
   · exact h1 blk hj hl
   · exact h2 α T e xs hj b hb
 · rcases hu j e with hn | u
   · rw [hn] at hj; cases hj
   · have h0 : lkl l j = some blk := by rw [← u.1]; exact hj
     left
     rcases h with ⟨hl, rfl⟩ | ⟨α, T, e, xs, rfl, hb⟩
     · exact ⟨j, blk, h0, .inl ⟨u.liv hl, u.2.1⟩⟩
     · exact ⟨j, _, h0, .inr ⟨α, T, e, xs, rfl, by rw [← u.2.2.2.1]; exact hb⟩⟩

structure St where
 t : DV
 l : Locs
def St.ids (s : St) : List Nat := (s.t.flatMap fun p => p.2.ids) ++ s.l.ids

structure Rep (N : Nat) (g : Gh) (s : St) (a : Act) (w : World) : Prop where
 size : a.tmps.size = N
 defers : a.defers = []
 tmp : ∀ k x, lk s.t k = some x → VR g s.l w (a.tmps.getD k undef) x
 mem : MemR g s.l w

structure Cert where
 rt : List (Nat × AVal)
 rl : List (Nat × Blk)
 wt : List (Nat × AVal)
 wl : Locs
 new : List Nat
def Cert.pre (c : Cert) (s : St) : Prop :=
 (∀ p ∈ c.rt, lk s.t p.1 = some p.2) ∧ (∀ p ∈ c.rl, lkl s.l p.1 = some p.2) ∧ ∀ k ∈ c.new, lk s.l k = none ∧ k ∉ s.ids
def Cert.upd (c : Cert) (s : St) : St := ⟨c.wt ++ s.t, c.wl ++ s.l⟩

def OpOK (P : Program) (N : Nat) (o : Oper) (c : Cert) : Prop :=
 ∀ (K : List Nat) (g : Gh) (s : St) (a : Act) (w : World), c.pre s → Rep N g s a w →
   o.wp P a w (fun a' w' => ∃ g', Rep N g' (c.upd s) a' w' ∧ Step K g s.l w g' (c.upd s).l w') (fun _ _ _ => False)

theorem getD_put_self {a : Act} {d : Nat} {v : Value} (h : d < a.tmps.size) : (a.put (some d) v).tmps.getD d undef = v := by
 simp [Act.put, Array.getElem?_setIfInBounds_self_of_lt h]
theorem getD_put_ne {a : Act} {d k : Nat} {v : Value} (h : d ≠ k) : (a.put (some d) v).tmps.getD k undef = a.tmps.getD k undef := by
 simp [Act.put, Array.getElem?_setIfInBounds_ne h]

theorem Rep.next {N : Nat} {g g' : Gh} {s : St} {l' : Locs} {a : Act} {w w' : World} {d : Nat} {v : Value} {x : AVal} (r : Rep N g s a w) (hd : d < N)
   (hi : ∀ b, g.I b → w'.heap[b]? = w.heap[b]?) (hm : ∀ b, g.I b → g'.I b) (hs : w.heap.size ≤ w'.heap.size) (hok : ∀ k, k ∈ s.ids → okK g s.l g' l' k) (hv : VR g' l' w' v x) (m : MemR g' l' w') :
   Rep N g' ⟨(d, x) :: s.t, l'⟩ (a.put (some d) v) w' := by
 refine ⟨by simp [Act.put, r.size], by simp [Act.put, r.defers], fun k y hk => ?_, m⟩
 by_cases e : d = k
 · subst e
   rw [Bv] at hk; cases hk
   rw [getD_put_self (by rw [r.size]; exact hd)]; exact hv
 · rw [B6 e] at hk
   rw [getD_put_ne e]
   exact (r.tmp k y hk).step hi hm hs fun i hi => hok i (List.mem_append_left _ (List.mem_flatMap.2 ⟨_, HE hk, hi⟩))
theorem Rep.next0 {N : Nat} {g g' : Gh} {s : St} {l' : Locs} {a : Act} {w w' : World} (r : Rep N g s a w)
   (hi : ∀ b, g.I b → w'.heap[b]? = w.heap[b]?) (hm : ∀ b, g.I b → g'.I b) (hs : w.heap.size ≤ w'.heap.size) (hok : ∀ k, k ∈ s.ids → okK g s.l g' l' k) (m : MemR g' l' w') : Rep N g' ⟨s.t, l'⟩ a w' :=
 ⟨r.size, r.defers, fun k y hk => (r.tmp k y hk).step hi hm hs fun i hi => hok i (List.mem_append_left _ (List.mem_flatMap.2 ⟨_, HE hk, hi⟩)), m⟩
theorem Rep.put {N : Nat} {g : Gh} {s : St} {a : Act} {w : World} {d : Nat} {v : Value} {x : AVal} (r : Rep N g s a w) (hd : d < N) (hv : VR g s.l w v x) : Rep N g ⟨(d, x) :: s.t, s.l⟩ (a.put (some d) v) w :=
 r.next hd (fun _ _ => rfl) (fun _ h => h) (Nat.le_refl _) (fun k _ => okK.same rfl rfl rfl) hv r.mem

def plainB : Value → Bool
 | .int k n => (Lit.int k n).wf
 | .string s => Nat.ble s.size maxLen
 | .bool _ => true
 | .slice none 0 0 => true
 | _ => false
theorem GG {v : Value} (h : plainB v = true) : wfV v := by
 unfold plainB at h
 split at h
 · exact h
 · exact Nat.le_of_ble_eq_true h
 · trivial
 · trivial
 · cases h
def plainL : List Value → Option (List Cell)
 | [] => some []
 | v :: vs => match plainB v, plainL vs with | true, some cs => some (.c v :: cs) | _, _ => none
def cval : Value → Option AVal
 | .agg vs => match plainL vs.toList with | some cs => some (.agg cs) | none => none
 | v => match plainB v with | true => some (.one (.c v)) | false => none
theorem I7 {g : Gh} {l : Locs} {w : World} : ∀ {vs : List Value} {cs : List Cell}, plainL vs = some cs → All2 (CellR g l w) vs cs
 | [], cs, h => by cases h; trivial
 | v :: vs, cs, h => by
   simp only [plainL] at h
   split at h
   · rename_i hb hc; cases h; exact ⟨⟨rfl, GG hb⟩, I7 hc⟩
   · cases h
theorem cval_ok {g : Gh} {l : Locs} {w : World} {v : Value} {x : AVal} (h : cval v = some x) : VR g l w v x := by
 unfold cval at h
 split at h
 · rename_i vs
   split at h
   · rename_i cs hc; cases h; exact ⟨vs.toList, by simp, I7 hc⟩
   · cases h
 · split at h
   · rename_i hb; cases h; exact ⟨rfl, GG hb⟩
   · cases h
def evo (t : DV) : Operand → Option AVal
 | .tmp k => lk t k
 | .const v => cval v
 | .func f => some (.one (.clo f []))
 | .global _ => none
def rdo (o : Operand) (x : AVal) : List (Nat × AVal) := match o with | .tmp k => [(k, x)] | _ => []
def Evs (o : Operand) (x : AVal) : Prop := match o with | .tmp _ => True | o => evo [] o = some x
theorem BC {t : DV} {o : Operand} {x : AVal} (h : evo t o = some x) : Evs o x := by
 cases o <;> first | exact h | trivial
theorem Cg {t : DV} {o : Operand} {x : AVal} (h : evo t o = some x) : ∀ p ∈ rdo o x, lk t p.1 = some p.2 := by
 cases o <;> intro p hp <;> simp [rdo] at hp
 subst hp; exact h
theorem B4 {N : Nat} {g : Gh} {s : St} {a : Act} {w : World} {o : Operand} {x : AVal} (r : Rep N g s a w) (h : Evs o x) (hr : ∀ p ∈ rdo o x, lk s.t p.1 = some p.2) : VR g s.l w (a.eval o) x := by
 cases o with
 | tmp k => exact r.tmp k x (hr (k, x) (by simp [rdo]))
 | const v => exact cval_ok h
 | global n => cases h
 | func f => cases h; intro _; rfl

theorem OpOK.pure {P : Program} {N : Nat} {o : Oper} {d : Nat} {rt : List (Nat × AVal)} {rl : List (Nat × Blk)} {x : AVal} (hd : o.dst = some d) (hN : d < N)
   (h : ∀ (g : Gh) (s : St) (a : Act) (w : World), (∀ p ∈ rt, lk s.t p.1 = some p.2) → (∀ p ∈ rl, lkl s.l p.1 = some p.2) → Rep N g s a w → ∃ v, (execOp a.eval o).run P w = .ok (.value v) w ∧ VR g s.l w v x) : OpOK P N o ⟨rt, rl, [(d, x)], [], []⟩ := by
 intro K g s a w hp r
 obtain ⟨v, h1, h2⟩ := h g s a w hp.1 hp.2.1 r
 unfold Oper.wp
 rw [h1, Oper.upon_value, hd]
 exact ⟨g, r.put hN h2, Step.refl K g s.l w⟩

def Stp (P : Program) (N : Nat) (o : Oper) (s s' : St) (c : Cert) : Prop := OpOK P N o c ∧ c.pre s ∧ c.upd s = s'

end Go.Proofs.YtkemjhlbokldhaaGreat

namespace Go.Proofs.YtkemjhlbokldhaaGreat
open Go.RowKit
set_option linter.unusedVariables false

theorem Oper.wp_weak {P : Program} {o : Oper} {a : Act} {w : World} {K K' : Act → World → Prop} {Q : Exit → Act → World → Prop} (h : ∀ a w, K a w → K' a w) (hh : o.wp P a w K (fun _ _ _ => False)) : o.wp P a w K' Q := by
 unfold Oper.wp at *
 generalize (execOp a.eval o).run P w = r at *
 cases r with
 | ok n w' =>
   cases n <;> simp only [Oper.upon] at hh ⊢ <;>
     first
       | exact h _ _ hh
       | exact Calls.mono hh (fun e w'' he => by cases e <;> first | exact h _ _ he | exact he.elim | (obtain ⟨_, _, h0⟩ := he; exact h0.elim))
       | exact Rows.mono hh (fun _ _ he => h _ _ he)
 | halt x w' => cases x <;> simp only [Oper.upon] at hh ⊢

def OpG (P : Program) (N : Nat) (ops : Array Oper) (o : Oper) (c : Cert) : Prop :=
 ∀ (K : List Nat) (g : Gh) (s : St) (a : Act) (w : World), c.pre s → Rep N g s a w →
   if Region.wanted o (yielded ops a.tmps) then o.wp P a w (fun a' w' => ∃ g', Rep N g' (c.upd s) a' w' ∧ Step K g s.l w g' (c.upd s).l w') (fun _ _ _ => False)
   else ∃ g', Rep N g' (c.upd s) (a.put o.dst undef) w ∧ Step K g s.l w g' (c.upd s).l w
theorem OpG.plain {P : Program} {N : Nat} {ops : Array Oper} {o : Oper} {c : Cert} (hg : o.guard = none) (h : OpOK P N o c) : OpG P N ops o c := fun K g s a w hp r => by
 rw [if_pos (by simp [Region.wanted, hg])]
 exact h K g s a w hp r
def FP (ops : Array Oper) (j : Nat) : Option Nat := match ops[j]? with | some o => o.dst | none => none
theorem yielded_of {N : Nat} {g : Gh} {s : St} {a : Act} {w : World} {ops : Array Oper} {j t : Nat} {b : Bool} (r : Rep N g s a w) (hj : FP ops j = some t) (h : lk s.t t = some (.one (.c (.bool b)))) : yielded ops a.tmps j = some b := by
 obtain ⟨hv, _⟩ : a.tmps.getD t undef = .bool b ∧ wfV (.bool b) := r.tmp t _ h
 have h1 : (ops[j]?).bind (·.dst) = some t := by
   unfold FP at hj
   split at hj
   · rename_i o ho; rw [ho]; exact hj
   · cases hj
 unfold yielded
 rw [h1]
 by_cases hlt : t < a.tmps.size
 · have : a.tmps[t]? = some (.bool b) := by
     rw [Array.getElem?_eq_getElem hlt]
     simp [hlt] at hv
     rw [hv]
   simp [this]
 · simp [hlt, undef] at hv
theorem OpG.on {P : Program} {N : Nat} {ops : Array Oper} {o : Oper} {c : Cert} {j t : Nat} {b : Bool} (hg : o.guard = some (j, b)) (hj : FP ops j = some t) (h : OpOK P N o c) : OpG P N ops o { c with rt := (t, .one (.c (.bool b))) :: c.rt } := fun K g s a w hp r => by
 have hy := yielded_of r hj (hp.1 _ (List.mem_cons_self ..))
 rw [if_pos (by simp [Region.wanted, hg, hy])]
 exact h K g s a w ⟨fun p hm => hp.1 p (List.mem_cons_of_mem _ hm), hp.2⟩ r
theorem OpG.off {P : Program} {N : Nat} {ops : Array Oper} {o : Oper} {j t d : Nat} {b b' : Bool} (hg : o.guard = some (j, b)) (hj : FP ops j = some t) (hb : b' ≠ b) (hd : o.dst = some d) (hN : d < N) : OpG P N ops o ⟨[(t, .one (.c (.bool b')))], [], [(d, .tup [])], [], []⟩ := fun K g s a w hp r => by
 have hy := yielded_of r hj (hp.1 _ (List.mem_cons_self ..))
 rw [if_neg (by simp [Region.wanted, hg, hy, hb]), hd]
 exact ⟨g, r.put hN ⟨[], rfl, trivial⟩, Step.refl K g s.l w⟩
theorem unyielded_of {N : Nat} {g : Gh} {s : St} {a : Act} {w : World} {ops : Array Oper} {j t : Nat} (r : Rep N g s a w) (hj : FP ops j = some t) (h : lk s.t t = some (.tup [])) : yielded ops a.tmps j = none := by
 obtain ⟨vs, hv, h2⟩ : ∃ vs : List Value, a.tmps.getD t undef = .tuple vs.toArray ∧ All2 (VR1 g s.l w) vs [] := r.tmp t _ h
 have h1 : (ops[j]?).bind (·.dst) = some t := by
   unfold FP at hj
   split at hj
   · rename_i o ho; rw [ho]; exact hj
   · cases hj
 unfold yielded
 rw [h1]
 by_cases hlt : t < a.tmps.size
 · have : a.tmps[t]? = some (.tuple vs.toArray) := by
     rw [Array.getElem?_eq_getElem hlt]
     simp [hlt] at hv
     rw [hv]
   simp [this]
 · simp [hlt]
theorem OpG.un {P : Program} {N : Nat} {ops : Array Oper} {o : Oper} {j t d : Nat} {b : Bool} (hg : o.guard = some (j, b)) (hj : FP ops j = some t) (hd : o.dst = some d) (hN : d < N) : OpG P N ops o ⟨[(t, .tup [])], [], [(d, .tup [])], [], []⟩ := fun K g s a w hp r => by
 have hy := unyielded_of r hj (hp.1 _ (List.mem_cons_self ..))
 rw [if_neg (by simp [Region.wanted, hg, hy]), hd]
 exact ⟨g, r.put hN ⟨[], rfl, trivial⟩, Step.refl K g s.l w⟩
def Bi {β : Type 1} (l : List (Nat × β)) : List Nat := l.map (·.1)
def GB (a b : List Nat) : Bool := a.any fun x => b.any fun y => Nat.beq x y
def Cert.wids (c : Cert) : List Nat := (c.wt.flatMap fun p => p.2.ids) ++ c.wl.ids
def Cert.rlk (c : Cert) : List Nat := Bi c.rl ++ c.new
def Em (c d : Cert) : Bool :=
 GB (Bi c.wt) (Bi d.rt) || GB (Bi c.wt) (Bi d.wt) || GB (Bi c.rt) (Bi d.wt) ||
 GB (Bi c.wl) d.rlk || GB (Bi c.wl) (Bi d.wl) || GB c.rlk (Bi d.wl) || GB c.new d.wids
def F9 (acc : List Nat) : List Edge → Nat
 | [] => 0
 | e :: r => if Region.binds .any e then (2 ^ e.on ||| acc.getD e.on 0) ||| F9 acc r else F9 acc r
def ancL : List Oper → List Nat → List Nat
 | [], acc => acc
 | o :: r, acc => ancL r (acc ++ [F9 acc o.after.toList])
def backOK : List Oper → Nat → Bool
 | [], _ => true
 | o :: r, k => (o.after.toList.all fun e => !Region.binds .any e || Nat.blt e.on k) && backOK r (k + 1)
def Iy (m : Nat) (d : Cert) : List Cert → Nat → Bool
 | [], _ => true
 | c :: r, i => (!Em c d || m.testBit i) && Iy m d r (i + 1)
def Iz (masks : List Nat) (before : List Cert) : List Cert → Nat → Bool
 | [], _ => true
 | d :: r, j => Iy (masks.getD j 0) d before 0 && Iz masks (before ++ [d]) r (j + 1)
def chk (ops : Array Oper) (cs : List Cert) : Bool := backOK ops.toList 0 && Iz (ancL ops.toList []) [] cs 0

theorem hits_of {a b : List Nat} {x : Nat} (h : x ∈ a) (h' : x ∈ b) : GB a b = true :=
 List.any_eq_true.2 ⟨x, h, List.any_eq_true.2 ⟨x, h', by simp⟩⟩
theorem Fs {β : Type 1} {k : Nat} : ∀ {l : List (Nat × β)}, (lk l k).isSome = true → k ∈ Bi l
 | [], h => by simp [lk] at h
 | (j, x) :: r, h => by
   by_cases e : j = k
   · subst e; exact List.mem_cons_self ..
   · rw [B6 e] at h; exact List.mem_cons_of_mem _ (Fs h)
theorem clashOne_spec {m : Nat} {d : Cert} : ∀ {l : List Cert} {k i : Nat} {c : Cert}, Iy m d l k = true → l[i]? = some c → Em c d = true → m.testBit (k + i) = true
 | [], k, i, c, _, h, _ => by simp at h
 | x :: r, k, 0, c, h, hi, hc => by
   simp only [List.getElem?_cons_zero, Option.some.injEq] at hi
   subst hi
   simp [Iy, hc] at h
   exact h.1
 | x :: r, k, i + 1, c, h, hi, hc => by
   simp only [Iy, Bool.and_eq_true] at h
   have := clashOne_spec h.2 (by simpa using hi) hc
   rw [show k + (i + 1) = k + 1 + i by omega]; exact this
theorem clashAll_spec {masks : List Nat} : ∀ {l before : List Cert} {j i k : Nat} {c d : Cert}, Iz masks before l k = true → before.length = k → i < k + j → (before ++ l)[i]? = some c → l[j]? = some d → Em c d = true → (masks.getD (k + j) 0).testBit i = true
 | [], before, j, i, k, c, d, _, _, _, _, h, _ => by simp at h
 | x :: r, before, 0, i, k, c, d, h, hb, hlt, hc, hd, hcl => by
   simp only [List.getElem?_cons_zero, Option.some.injEq] at hd
   subst hd
   simp only [Iz, Bool.and_eq_true] at h
   rw [List.getElem?_append_left (by omega)] at hc
   simpa using clashOne_spec h.1 hc hcl
 | x :: r, before, j + 1, i, k, c, d, h, hb, hlt, hc, hd, hcl => by
   simp only [Iz, Bool.and_eq_true] at h
   have := clashAll_spec (before := before ++ [x]) (k := k + 1) (j := j) (i := i) (c := c) h.2 (by simp [hb]) (by omega) (by rw [List.append_assoc]; exact hc) (by simpa using hd) hcl
   rw [show k + (j + 1) = k + 1 + j by omega]; exact this
theorem Hy {acc : List Nat} {i : Nat} : ∀ {es : List Edge}, (F9 acc es).testBit i = true → ∃ e ∈ es, Region.binds .any e = true ∧ (e.on = i ∨ (acc.getD e.on 0).testBit i = true)
 | [], h => by simp [F9] at h
 | e :: r, h => by
   unfold F9 at h
   split at h
   · rename_i hb
     simp only [Nat.testBit_or, Bool.or_eq_true] at h
     rcases h with (h | h) | h
     · rw [Nat.testBit_two_pow] at h
       exact ⟨e, List.mem_cons_self .., hb, .inl (by simpa using h)⟩
     · exact ⟨e, List.mem_cons_self .., hb, .inr h⟩
     · obtain ⟨e', h1, h2⟩ := Hy h
       exact ⟨e', List.mem_cons_of_mem _ h1, h2⟩
   · obtain ⟨e', h1, h2⟩ := Hy h
     exact ⟨e', List.mem_cons_of_mem _ h1, h2⟩
theorem ancL_spec {S : Nat → Bool} : ∀ {l : List Oper} {acc : List Nat} {k : Nat}, acc.length = k → (∀ j o, l[j]? = some o → S (k + j) = true → ∀ e ∈ o.after, Region.binds .any e = true → S e.on = true) →
   (∀ j i, S j = true → (acc.getD j 0).testBit i = true → S i = true) → ∀ j i, S j = true → ((ancL l acc).getD j 0).testBit i = true → S i = true
 | [], acc, k, _, _, h => h
 | o :: r, acc, k, hk, hc, h => by
   refine ancL_spec (l := r) (acc := acc ++ [F9 acc o.after.toList]) (k := k + 1) (by simp [hk]) (fun j o' hj hS => hc (j + 1) o' (by simpa using hj) (by rw [show k + (j + 1) = k + 1 + j by omega]; exact hS)) (fun j i hS hb => ?_)
   by_cases hj : j < k
   · exact h j i hS (by simpa [List.getD, List.getElem?_append_left (by omega : j < acc.length)] using hb)
   · by_cases hj' : j = k
     · subst hj'
       have hb' : (F9 acc o.after.toList).testBit i = true := by simpa [List.getD, ← hk] using hb
       obtain ⟨e, h1, h2, h3⟩ := Hy hb'
       have hSe := hc 0 o rfl (by simpa using hS) e (by simpa using h1) h2
       rcases h3 with h3 | h3
       · exact h3 ▸ hSe
       · exact h e.on i hSe h3
     · rw [List.getD, List.getElem?_eq_none (by simp; omega)] at hb
       simp at hb

def apL {β : Type 1} : List (List (Nat × β)) → Nat → (Nat → Bool) → List (Nat × β) → List (Nat × β)
 | [], _, _, b => b
 | x :: r, k, S, b => apL r (k + 1) S (if S k then x ++ b else b)
theorem ES {β : Type 1} {κ : Nat} {S S' : Nat → Bool} : ∀ {xs : List (List (Nat × β))} {k : Nat} {b b' : List (Nat × β)}, (∀ i x, xs[i]? = some x → (lk x κ).isSome = true → S (k + i) = S' (k + i)) → lk b κ = lk b' κ → lk (apL xs k S b) κ = lk (apL xs k S' b') κ
 | [], k, b, b', _, h => h
 | x :: r, k, b, b', hS, h => by
   refine ES (xs := r) (fun i y hy hk => by have := hS (i + 1) y (by simpa using hy) hk; rw [show k + 1 + i = k + (i + 1) by omega]; exact this) ?_
   cases hx : lk x κ with
   | some v =>
     have := hS 0 x rfl (by simp [hx])
     simp only [Nat.add_zero] at this
     rw [this]
     split
     · rw [DF, DF, hx]; rfl
     · exact h
   | none =>
     have e1 : lk (if S k then x ++ b else b) κ = lk b κ := by split <;> simp [DF, hx]
     have e2 : lk (if S' k then x ++ b' else b') κ = lk b' κ := by split <;> simp [DF, hx]
     rw [e1, e2, h]
theorem apL_hit {β : Type 1} {κ : Nat} {v : β} : ∀ {xs : List (List (Nat × β))} {k i : Nat} {b x : List (Nat × β)}, xs[i]? = some x → lk x κ = some v → lk (apL xs k (fun j => Nat.ble j (k + i)) b) κ = some v
 | [], k, i, b, x, h, _ => by simp at h
 | y :: r, k, 0, b, x, h, hv => by
   simp only [List.getElem?_cons_zero, Option.some.injEq] at h
   subst h
   have : lk (apL r (k + 1) (fun j => Nat.ble j (k + 0)) (if Nat.ble k (k + 0) then y ++ b else b)) κ = lk (apL r (k + 1) (fun _ => false) (y ++ b)) κ := by
     have hle : Nat.ble k (k + 0) = true := by simp
     rw [hle]
     refine ES (fun i z _ _ => ?_) rfl
     cases hb : Nat.ble (k + 1 + i) (k + 0)
     · rfl
     · exact absurd (Nat.le_of_ble_eq_true hb) (by omega)
   show lk (apL r (k + 1) (fun j => Nat.ble j (k + 0)) (if Nat.ble k (k + 0) then y ++ b else b)) κ = some v
   rw [this]
   have : ∀ (r : List (List (Nat × β))) (k : Nat) (b : List (Nat × β)), apL r k (fun _ => false) b = b := by
     intro r
     induction r with
     | nil => intro k b; rfl
     | cons z r ih => intro k b; simp [apL, ih]
   rw [this, DF, hv]; rfl
 | y :: r, k, i + 1, b, x, h, hv => by
   show lk (apL r (k + 1) (fun j => Nat.ble j (k + (i + 1))) _) κ = some v
   have := apL_hit (xs := r) (k := k + 1) (i := i) (b := if Nat.ble k (k + (i + 1)) then y ++ b else b) (by simpa using h) hv
   rw [show k + (i + 1) = k + 1 + i by omega] at *
   exact this

def apS (cs : List Cert) (S : Nat → Bool) (s : St) : St := ⟨apL (cs.map (·.wt)) 0 S s.t, apL (cs.map (·.wl)) 0 S s.l⟩
structure St.eqv (s s' : St) : Prop where
 t : ∀ k, lk s.t k = lk s'.t k
 l : ∀ k, lk s.l k = lk s'.l k
theorem St.eqv.lkl {s s' : St} (h : s.eqv s') (k : Nat) : lkl s.l k = lkl s'.l k := by unfold Go.Proofs.YtkemjhlbokldhaaGreat.lkl; rw [h.l]
theorem okK.eqv {s s' : St} (h : s.eqv s') (g : Gh) (k : Nat) : okK g s.l g s'.l k := okK.same (h.lkl k).symm rfl rfl
theorem MemR.eqv {s s' : St} (h : s.eqv s') {g : Gh} {w : World} (m : MemR g s.l w) : MemR g s'.l w where
 ilt := m.ilt
 box := fun k cs hk => by
   obtain ⟨vs, t, h1, h2, h3⟩ := m.box k cs (by rw [h.lkl]; exact hk)
   exact ⟨vs, t, h1, h2.mono fun a b _ hr => hr.step (fun _ _ => rfl) (fun _ h => h) (Nat.le_refl _) fun k _ => okK.eqv h g k, h3⟩
 arr := fun k α T e xs d hk => m.arr k α T e xs d (by rw [h.lkl]; exact hk)
 dis := fun j k b b' hjk hj hk => m.dis j k b b' hjk (by rw [h.lkl]; exact hj) (by rw [h.lkl]; exact hk)
 fr := fun k α T e xs hk => m.fr k α T e xs (by rw [h.lkl]; exact hk)
 fd := fun j k α β T U e f xs ys hjk hj hk => m.fd j k α β T U e f xs ys hjk (by rw [h.lkl]; exact hj) (by rw [h.lkl]; exact hk)
theorem Rep.eqv {s s' : St} (h : s.eqv s') {N : Nat} {g : Gh} {a : Act} {w : World} (r : Rep N g s a w) : Rep N g s' a w :=
 ⟨r.size, r.defers, fun k x hk => (r.tmp k x (by rw [h.t]; exact hk)).step (fun _ _ => rfl) (fun _ h => h) (Nat.le_refl _) fun k _ => okK.eqv h g k, r.mem.eqv h⟩
theorem OwnB.eqv {s s' : St} (h : s.eqv s') {g : Gh} {b : Nat} (ho : OwnB g s.l b) : OwnB g s'.l b := by
 obtain ⟨k, blk, h1, h2⟩ := ho
 exact ⟨k, blk, by rw [← h.lkl]; exact h1, h2⟩
theorem St.eqv.symm {s s' : St} (h : s.eqv s') : s'.eqv s := ⟨fun k => (h.t k).symm, fun k => (h.l k).symm⟩
theorem Step.eqv {s s' : St} (h : s.eqv s') {K : List Nat} {g g' : Gh} {l : Locs} {w w' : World} (hs : Step K g l w g' s.l w') : Step K g l w g' s'.l w' :=
 { hs with
   own := fun b hb => hs.own b (hb.eqv h.symm)
   base := fun k hk hn => by
     obtain ⟨h1, h2, h3⟩ := hs.base k hk hn
     exact ⟨by rw [← h.l]; exact h1, h2.trans (okK.eqv h g' k), fun cs hc => by obtain ⟨cs', h4⟩ := h3 cs hc; exact ⟨cs', by rw [← h.lkl]; exact h4⟩⟩ }

def GW : List Cert → Nat → St → St
 | [], _, s => s
 | _ :: _, 0, s => s
 | c :: r, i + 1, s => GW r i (c.upd s)
theorem I3 {β : Type 1} : ∀ (r : List (List (Nat × β))) (k : Nat) (S : Nat → Bool) (b : List (Nat × β)), (∀ i, i < r.length → S (k + i) = false) → apL r k S b = b
 | [], k, S, b, _ => rfl
 | z :: r, k, S, b, h => by
   have h0 : S k = false := by simpa using h 0 (by simp)
   unfold apL
   rw [h0]
   exact I3 r (k + 1) S b fun i hi => by rw [show k + 1 + i = k + (i + 1) by omega]; exact h (i + 1) (by simp; omega)
theorem IR {a b : Nat} (h : b ≤ a) : Nat.blt a b = false := by
 cases hb : Nat.blt a b
 · rfl
 · exact absurd (show a + 1 ≤ b by simpa [Nat.blt] using hb) (by omega)
theorem I2 {a b : Nat} (h : a < b) : Nat.blt a b = true := by simp [Nat.blt]; omega
theorem foldS_t : ∀ (cs : List Cert) (k i : Nat) (s : St), (GW cs i s).t = apL (cs.map (·.wt)) k (fun j => Nat.blt j (k + i)) s.t
 | [], k, i, s => by cases i <;> rfl
 | c :: r, k, 0, s => (I3 _ k (fun j => Nat.blt j (k + 0)) _ fun i _ => IR (by omega)).symm
 | c :: r, k, i + 1, s => by
   show (GW r i (c.upd s)).t = apL (r.map (·.wt)) (k + 1) (fun j => Nat.blt j (k + (i + 1))) (if Nat.blt k (k + (i + 1)) = true then c.wt ++ s.t else s.t)
   rw [if_pos (I2 (by omega)), foldS_t r (k + 1) i (c.upd s), show k + 1 + i = k + (i + 1) by omega]
   rfl
theorem foldS_l : ∀ (cs : List Cert) (k i : Nat) (s : St), (GW cs i s).l = apL (cs.map (·.wl)) k (fun j => Nat.blt j (k + i)) s.l
 | [], k, i, s => by cases i <;> rfl
 | c :: r, k, 0, s => (I3 _ k (fun j => Nat.blt j (k + 0)) _ fun i _ => IR (by omega)).symm
 | c :: r, k, i + 1, s => by
   show (GW r i (c.upd s)).l = apL (r.map (·.wl)) (k + 1) (fun j => Nat.blt j (k + (i + 1))) (if Nat.blt k (k + (i + 1)) = true then c.wl ++ s.l else s.l)
   rw [if_pos (I2 (by omega)), foldS_l r (k + 1) i (c.upd s), show k + 1 + i = k + (i + 1) by omega]
   rfl
theorem foldS_ap (cs : List Cert) (i : Nat) (s : St) : GW cs i s = apS cs (fun j => Nat.blt j i) s := by
 have h1 := foldS_t cs 0 i s
 have h2 := foldS_l cs 0 i s
 simp only [Nat.zero_add] at h1 h2
 cases h : GW cs i s with
 | mk t l => rw [h] at h1 h2; simp only at h1 h2; unfold apS; rw [h1, h2]

def AL (P : Program) (N : Nat) (dr : Bool) (ops : Array Oper) (Kn : St → Prop) : List Oper → St → List Cert → Prop
 | [], s, acc => (dr = true → chk ops acc.reverse = true) ∧ Kn s
 | o :: r, s, acc => ∃ c, OpG P N ops o c ∧ c.pre s ∧ AL P N dr ops Kn r (c.upd s) (c :: acc)

theorem AL.out {P : Program} {N : Nat} {dr : Bool} {ops : Array Oper} {Kn : St → Prop} : ∀ {l : List Oper} {s : St} {acc : List Cert}, AL P N dr ops Kn l s acc →
   ∃ cs : List Cert, cs.length = l.length ∧ (∀ (i : Nat) (o : Oper) (c : Cert), l[i]? = some o → cs[i]? = some c → OpG P N ops o c) ∧ (∀ (i : Nat) (c : Cert), cs[i]? = some c → c.pre (GW cs i s)) ∧ Kn (GW cs l.length s) ∧ (dr = true → chk ops (acc.reverse ++ cs) = true)
 | [], s, acc, h => ⟨[], rfl, fun i o c h => by simp at h, fun i c h => by simp at h, h.2, fun hd => by simpa using h.1 hd⟩
 | o :: r, s, acc, h => by
   obtain ⟨c, h1, h2, h3⟩ := h
   obtain ⟨cs, e1, e2, e3, e4, e5⟩ := AL.out h3
   refine ⟨c :: cs, by simp [e1], fun i o' c' ho hc => ?_, fun i c' hc => ?_, e4, fun hd => by simpa using e5 hd⟩
   · cases i with
     | zero => simp at ho hc; subst ho; subst hc; exact h1
     | succ i => exact e2 i o' c' (by simpa using ho) (by simpa using hc)
   · cases i with
     | zero => simp at hc; subst hc; exact h2
     | succ i => exact e3 i c' (by simpa using hc)

section region
variable {P : Program} {N : Nat} {ops : Array Oper} {Kn : St → Prop}

def Ends (N : Nat) (K : List Nat) (g : Gh) (l : Locs) (w : World) (R : Exit → St → Prop) : Exit → Act → World → Prop :=
 fun e a' w' => ∃ g' s', Rep N g' s' a' w' ∧ Step K g l w g' s'.l w' ∧ R e s'
def NormR (Kn : St → Prop) (Q : Exit → St → Prop) : Exit → St → Prop
 | .normal, s => Kn s
 | e, s => Q e s

theorem AL.list {K : List Nat} {Q : Exit → St → Prop} {g0 : Gh} {l0 : Locs} {w0 : World} (m0 : MemR g0 l0 w0) : ∀ {l : List Oper} {s : St} {acc : List Cert} {dr : Bool}, AL P N dr ops Kn l s acc → ∀ (g : Gh) (a : Act) (w : World), Rep N g s a w → Step K g0 l0 w0 g s.l w →
   wpList P ops (Ends N K g0 l0 w0 (NormR Kn Q)) l a w
 | [], s, acc, dr, h, g, a, w, r, hs => ⟨g, s, r, hs, h.2⟩
 | o :: l, s, acc, dr, h, g, a, w, r, hs => by
   obtain ⟨c, h1, h2, h3⟩ := h
   have h4 := h1 K g s a w h2 r
   unfold wpList
   split
   · rename_i hw
     rw [if_pos hw] at h4
     exact .inl (Oper.wp_weak (fun a' w' ⟨g', r', hs'⟩ => AL.list m0 h3 g' a' w' r' (hs.trans m0 r.mem hs')) h4)
   · rename_i hw
     rw [if_neg hw] at h4
     obtain ⟨g', r', hs'⟩ := h4
     exact AL.list m0 h3 g' _ w r' (hs.trans m0 r.mem hs')

theorem backOK_spec : ∀ {l : List Oper} {k : Nat}, backOK l k = true → ∀ j o, l[j]? = some o → ∀ e ∈ o.after, Region.binds .any e = true → e.on < k + j
 | [], k, _, j, o, h => by simp at h
 | x :: r, k, h, 0, o, ho => by
   simp only [List.getElem?_cons_zero, Option.some.injEq] at ho
   subst ho
   simp only [backOK, Bool.and_eq_true, List.all_eq_true] at h
   intro e he hb
   have := h.1 e (by simpa using he)
   simp [hb, Nat.blt] at this
   omega
 | x :: r, k, h, j + 1, o, ho => by
   simp only [backOK, Bool.and_eq_true] at h
   have := backOK_spec h.2 j o (by simpa using ho)
   rw [show k + (j + 1) = k + 1 + j by omega]; exact this

theorem ids_apL (k : Nat) (S : Nat → Bool) : ∀ (cs : List Cert) (n : Nat) (t : DV), k ∈ (apL (cs.map (·.wt)) n S t).flatMap (fun p => p.2.ids) → k ∈ t.flatMap (fun p => p.2.ids) ∨ ∃ i c, cs[i]? = some c ∧ S (n + i) = true ∧ k ∈ c.wids
 | [], n, t, h => .inl h
 | c :: r, n, t, h => by
   rcases ids_apL k S r (n + 1) _ h with h1 | ⟨i, c', h1, h2, h3⟩
   · split at h1
     · rename_i hS
       simp only [List.flatMap_append, List.mem_append] at h1
       rcases h1 with h1 | h1
       · exact .inr ⟨0, c, rfl, by simpa using hS, List.mem_append_left _ h1⟩
       · exact .inl h1
     · exact .inl h1
   · exact .inr ⟨i + 1, c', by simpa using h1, by rw [show n + (i + 1) = n + 1 + i by omega]; exact h2, h3⟩
theorem ids_apL' (k : Nat) (S : Nat → Bool) : ∀ (cs : List Cert) (n : Nat) (l : Locs), k ∈ Locs.ids (apL (cs.map (·.wl)) n S l) → k ∈ l.ids ∨ ∃ i c, cs[i]? = some c ∧ S (n + i) = true ∧ k ∈ c.wids
 | [], n, t, h => .inl h
 | c :: r, n, t, h => by
   rcases ids_apL' k S r (n + 1) _ h with h1 | ⟨i, c', h1, h2, h3⟩
   · split at h1
     · rename_i hS
       unfold Locs.ids at h1
       simp only [List.flatMap_append, List.mem_append] at h1
       rcases h1 with h1 | h1
       · exact .inr ⟨0, c, rfl, by simpa using hS, List.mem_append_right _ h1⟩
       · exact .inl h1
     · exact .inl h1
   · exact .inr ⟨i + 1, c', by simpa using h1, by rw [show n + (i + 1) = n + 1 + i by omega]; exact h2, h3⟩
theorem ids_apL_of (k : Nat) (S : Nat → Bool) : ∀ (cs : List Cert) (n : Nat) (t : DV), (k ∈ t.flatMap (fun p => p.2.ids) ∨ ∃ i c, cs[i]? = some c ∧ S (n + i) = true ∧ k ∈ c.wt.flatMap fun p => p.2.ids) → k ∈ (apL (cs.map (·.wt)) n S t).flatMap (fun p => p.2.ids)
 | [], n, t, h => by
   rcases h with h | ⟨i, c, h, _⟩
   · exact h
   · simp at h
 | c :: r, n, t, h => by
   refine ids_apL_of k S r (n + 1) _ ?_
   rcases h with h | ⟨i, c', h1, h2, h3⟩
   · left; split
     · simp only [List.flatMap_append, List.mem_append]; exact .inr h
     · exact h
   · cases i with
     | zero =>
       simp only [List.getElem?_cons_zero, Option.some.injEq] at h1
       subst h1
       left; rw [if_pos (by simpa using h2)]
       simp only [List.flatMap_append, List.mem_append]; exact .inl h3
     | succ i => exact .inr ⟨i, c', by simpa using h1, by rw [show n + 1 + i = n + (i + 1) by omega]; exact h2, h3⟩
theorem Jc (k : Nat) (S : Nat → Bool) : ∀ (cs : List Cert) (n : Nat) (l : Locs), (k ∈ l.ids ∨ ∃ i c, cs[i]? = some c ∧ S (n + i) = true ∧ k ∈ c.wl.ids) → k ∈ Locs.ids (apL (cs.map (·.wl)) n S l)
 | [], n, t, h => by
   rcases h with h | ⟨i, c, h, _⟩
   · exact h
   · simp at h
 | c :: r, n, t, h => by
   refine Jc k S r (n + 1) _ ?_
   rcases h with h | ⟨i, c', h1, h2, h3⟩
   · left; split
     · unfold Locs.ids at *; simp only [List.flatMap_append, List.mem_append]; exact .inr h
     · exact h
   · cases i with
     | zero =>
       simp only [List.getElem?_cons_zero, Option.some.injEq] at h1
       subst h1
       left; rw [if_pos (by simpa using h2)]
       unfold Locs.ids at *; simp only [List.flatMap_append, List.mem_append]; exact .inl h3
     | succ i => exact .inr ⟨i, c', by simpa using h1, by rw [show n + 1 + i = n + (i + 1) by omega]; exact h2, h3⟩

def unl (n : Nat) (listed : Array Bool) : List Nat := (List.range n).filter fun i => !listed.getD i true
theorem It {listed : Array Bool} {i : Nat} (h : i < listed.size) : listed.getD i true = listed.getD i false := by simp [h]
theorem getD_set_self {listed : Array Bool} {i : Nat} (d : Bool) (h : i < listed.size) : (listed.setIfInBounds i true).getD i d = true := by simp [h]

structure Drawn (P : Program) (N : Nat) (ops : Array Oper) (cs : List Cert) (s0 : St) (Kn : St → Prop) : Prop where
 len : cs.length = ops.size
 ok : ∀ (i : Nat) (o : Oper) (c : Cert), ops[i]? = some o → cs[i]? = some c → OpG P N ops o c
 pre : ∀ (i : Nat) (c : Cert), cs[i]? = some c → c.pre (GW cs i s0)
 fin : Kn (GW cs ops.size s0)
 chk : chk ops cs = true
def ClosedS (ops : Array Oper) (S : Nat → Bool) : Prop := ∀ (j : Nat) (o : Oper), ops[j]? = some o → S j = true → ∀ e ∈ o.after, Region.binds .any e = true → S e.on = true
theorem Drawn.back {cs : List Cert} {s0 : St} (h : Drawn P N ops cs s0 Kn) {j : Nat} {o : Oper} (hj : ops[j]? = some o) : ∀ e ∈ o.after, Region.binds .any e = true → e.on < j := by
 have h1 := h.chk
 simp only [Go.Proofs.YtkemjhlbokldhaaGreat.chk, Bool.and_eq_true] at h1
 intro e he hb
 simpa using backOK_spec h1.1 j o (by simpa using hj) e he hb
theorem Drawn.dep {cs : List Cert} {s0 : St} (h : Drawn P N ops cs s0 Kn) {S : Nat → Bool} (hS : ClosedS ops S) {i j : Nat} {c d : Cert} (hij : i < j) (hc : cs[i]? = some c) (hd : cs[j]? = some d) (hcl : Em c d = true) (hj : S j = true) : S i = true := by
 have h1 := h.chk
 simp only [Go.Proofs.YtkemjhlbokldhaaGreat.chk, Bool.and_eq_true] at h1
 have h2 := clashAll_spec (before := []) (k := 0) (i := i) (j := j) (c := c) h1.2 rfl (by omega) (by simpa using hc) hd hcl
 rw [Nat.zero_add] at h2
 exact ancL_spec (S := S) (l := ops.toList) (acc := []) (k := 0) rfl (fun a o ha hSa e he hb => hS a o (by simpa using ha) (by simpa using hSa) e he hb) (fun a b _ hb => by simp at hb) j i hj h2

theorem Jk {β : Type 1} {k : Nat} {l : List (Nat × β)} {m : List Nat} (h : (lk l k).isSome = true) (h' : k ∈ m) : GB (Bi l) m = true := hits_of (Fs h) h'
theorem hits_of_lk {β : Type 1} {k : Nat} {l : List (Nat × β)} {m : List Nat} (h : (lk l k).isSome = true) (h' : k ∈ m) : GB m (Bi l) = true := hits_of h' (Fs h)

structure Up (ops : Array Oper) (S : Nat → Bool) (i : Nat) : Prop where
 cl : ClosedS ops S
 no : S i = false
 cl' : ClosedS ops (fun j => S j || Nat.beq j i)
theorem Drawn.lo {cs : List Cert} {s0 : St} (h : Drawn P N ops cs s0 Kn) {S : Nat → Bool} {i j : Nat} (u : Up ops S i) {c d : Cert} (hc : cs[i]? = some c) (hd : cs[j]? = some d) (hji : j < i) (hcl : Em d c = true) : S j = true := by
 have := h.dep u.cl' hji hd hc hcl (by simp)
 simp only [Bool.or_eq_true] at this
 rcases this with h1 | h1
 · exact h1
 · exact absurd (Nat.eq_of_beq_eq_true h1) (by omega)
theorem Drawn.hi {cs : List Cert} {s0 : St} (h : Drawn P N ops cs s0 Kn) {S : Nat → Bool} {i j : Nat} (u : Up ops S i) {c d : Cert} (hc : cs[i]? = some c) (hd : cs[j]? = some d) (hij : i < j) (hcl : Em c d = true) : S j = false := by
 cases hS : S j
 · rfl
 · have := h.dep u.cl hij hc hd hcl hS
   rw [u.no] at this; cases this

theorem clash1 {c d : Cert} (h : GB (Bi c.wt) (Bi d.rt) = true) : Em c d = true := by simp [Em, h]
theorem clash2 {c d : Cert} (h : GB (Bi c.wt) (Bi d.wt) = true) : Em c d = true := by simp [Em, h]
theorem clash3 {c d : Cert} (h : GB (Bi c.rt) (Bi d.wt) = true) : Em c d = true := by simp [Em, h]
theorem clash4 {c d : Cert} (h : GB (Bi c.wl) d.rlk = true) : Em c d = true := by simp [Em, h]
theorem clash5 {c d : Cert} (h : GB (Bi c.wl) (Bi d.wl) = true) : Em c d = true := by simp [Em, h]
theorem clash6 {c d : Cert} (h : GB c.rlk (Bi d.wl) = true) : Em c d = true := by simp [Em, h]
theorem clash7 {c d : Cert} (h : GB c.new d.wids = true) : Em c d = true := by simp [Em, h]

theorem getElem?_map_some {α β : Type _} {f : α → β} {l : List α} {i : Nat} {y : β} (h : (l.map f)[i]? = some y) : ∃ x, l[i]? = some x ∧ f x = y := by
 rw [List.getElem?_map] at h
 cases hx : l[i]? with
 | none => rw [hx] at h; cases h
 | some x => rw [hx] at h; simp at h; exact ⟨x, rfl, h⟩

theorem Drawn.preS {cs : List Cert} {s0 : St} (h : Drawn P N ops cs s0 Kn) {S : Nat → Bool} {i : Nat} (u : Up ops S i) {c : Cert} (hc : cs[i]? = some c) : c.pre (apS cs S s0) := by
 obtain ⟨p1, p2, p3⟩ := h.pre i c hc
 rw [foldS_ap] at p1 p2 p3
 have ag : ∀ j d, cs[j]? = some d → (j < i → Em d c = true) → (i < j → Em c d = true) → S j = Nat.blt j i := fun j d hd h1 h2 => by
   rcases Nat.lt_trichotomy j i with hlt | rfl | hlt
   · rw [h.lo u hc hd hlt (h1 hlt), I2 hlt]
   · rw [u.no, IR (Nat.le_refl _)]
   · rw [h.hi u hc hd hlt (h2 hlt), IR (by omega)]
 have tt : ∀ κ, κ ∈ Bi c.rt → lk (apS cs S s0).t κ = lk (apS cs (fun j => Nat.blt j i) s0).t κ := fun κ hκ => by
   refine ES (fun j x hx hk => ?_) rfl
   obtain ⟨d, hd, rfl⟩ := getElem?_map_some hx
   rw [Nat.zero_add]
   exact ag j d hd (fun _ => clash1 (Jk hk hκ)) (fun _ => clash3 (hits_of_lk hk hκ))
 have ll : ∀ κ, κ ∈ c.rlk → lk (apS cs S s0).l κ = lk (apS cs (fun j => Nat.blt j i) s0).l κ := fun κ hκ => by
   refine ES (fun j x hx hk => ?_) rfl
   obtain ⟨d, hd, rfl⟩ := getElem?_map_some hx
   rw [Nat.zero_add]
   exact ag j d hd (fun _ => clash4 (Jk hk hκ)) (fun _ => clash6 (hits_of_lk hk hκ))
 refine ⟨fun p hp => ?_, fun p hp => ?_, fun κ hκ => ⟨?_, fun hm => ?_⟩⟩
 · rw [tt _ (List.mem_map_of_mem hp)]; exact p1 p hp
 · unfold Go.Proofs.YtkemjhlbokldhaaGreat.lkl
   rw [ll _ (List.mem_append_left _ (List.mem_map_of_mem hp))]; exact p2 p hp
 · rw [ll _ (List.mem_append_right _ hκ)]; exact (p3 κ hκ).1
 · refine (p3 κ hκ).2 ?_
   have late : ∀ j d, cs[j]? = some d → S (0 + j) = true → κ ∈ d.wids → Nat.blt (0 + j) i = true := fun j d hd hS hw => by
     rw [Nat.zero_add] at *
     rcases Nat.lt_trichotomy j i with hlt | rfl | hlt
     · exact I2 hlt
     · rw [u.no] at hS; cases hS
     · rw [h.hi u hc hd hlt (clash7 (hits_of hκ hw))] at hS; cases hS
   have put : (∃ j d, cs[j]? = some d ∧ S (0 + j) = true ∧ κ ∈ d.wids) → κ ∈ (apS cs (fun j => Nat.blt j i) s0).ids := fun ⟨j, d, h1, h2, h3⟩ => by
     have hb := late j d h1 h2 h3
     rcases List.mem_append.1 h3 with h4 | h4
     · exact List.mem_append_left _ (ids_apL_of κ _ cs 0 _ (.inr ⟨j, d, h1, hb, h4⟩))
     · exact List.mem_append_right _ (Jc κ _ cs 0 _ (.inr ⟨j, d, h1, hb, h4⟩))
   rcases List.mem_append.1 hm with hm | hm
   · rcases ids_apL κ S cs 0 s0.t hm with h1 | h1
     · exact List.mem_append_left _ (ids_apL_of κ _ cs 0 _ (.inl h1))
     · exact put h1
   · rcases ids_apL' κ S cs 0 s0.l hm with h1 | h1
     · exact List.mem_append_right _ (Jc κ _ cs 0 _ (.inl h1))
     · exact put h1

theorem apL_next {β : Type 1} {W : Cert → List (Nat × β)} {cs : List Cert} {S S' : Nat → Bool} {i : Nat} {c : Cert} (hc : cs[i]? = some c) (hS' : ∀ j, S' j = (S j || Nat.beq j i)) (hno : S i = false)
   (hlo : ∀ j d, cs[j]? = some d → j < i → GB (Bi (W d)) (Bi (W c)) = true → S j = true) (hhi : ∀ j d, cs[j]? = some d → i < j → GB (Bi (W c)) (Bi (W d)) = true → S j = false) (b : List (Nat × β)) (κ : Nat) :
   lk (W c ++ apL (cs.map W) 0 S b) κ = lk (apL (cs.map W) 0 S' b) κ := by
 have bne : ∀ j, j ≠ i → Nat.beq j i = false := fun j hj => by
   cases hb : Nat.beq j i
   · rfl
   · exact absurd (Nat.eq_of_beq_eq_true hb) hj
 rw [DF]
 cases hk : lk (W c) κ with
 | some v =>
   have h1 : lk (apL (cs.map W) 0 S' b) κ = lk (apL (cs.map W) 0 (fun j => Nat.ble j (0 + i)) b) κ := by
     refine ES (fun j x hx hkx => ?_) rfl
     obtain ⟨d, hd, rfl⟩ := getElem?_map_some hx
     rw [Nat.zero_add, Nat.zero_add, hS']
     have hcκ : (lk (W c) κ).isSome = true := by rw [hk]; rfl
     rcases Nat.lt_trichotomy j i with hlt | rfl | hlt
     · rw [hlo j d hd hlt (hits_of (Fs hkx) (Fs hcκ))]
       have : Nat.ble j i = true := Nat.ble_eq_true_of_le (by omega)
       rw [this]; rfl
     · have : Nat.ble j j = true := Nat.ble_eq_true_of_le (Nat.le_refl _)
       rw [this]; simp
     · rw [hhi j d hd hlt (hits_of (Fs hcκ) (Fs hkx)), bne j (by omega)]
       cases hb : Nat.ble j i
       · rfl
       · exact absurd (Nat.le_of_ble_eq_true hb) (by omega)
   rw [h1, apL_hit (xs := cs.map W) (x := W c) (by rw [List.getElem?_map, hc]; rfl) hk]
   rfl
 | none =>
   show lk (apL (cs.map W) 0 S b) κ = _
   refine ES (fun j x hx hkx => ?_) rfl
   obtain ⟨d, hd, rfl⟩ := getElem?_map_some hx
   rw [Nat.zero_add, hS']
   have hji : j ≠ i := by
     intro e
     subst e
     rw [hc] at hd; cases hd
     rw [hk] at hkx; cases hkx
   rw [bne j hji]; simp
theorem Drawn.next {cs : List Cert} {s0 : St} (h : Drawn P N ops cs s0 Kn) {S S' : Nat → Bool} {i : Nat} (u : Up ops S i) {c : Cert} (hc : cs[i]? = some c) (hS' : ∀ j, S' j = (S j || Nat.beq j i)) : (c.upd (apS cs S s0)).eqv (apS cs S' s0) :=
 ⟨fun κ => apL_next (W := (·.wt)) hc hS' u.no (fun j d hd hlt hh => h.lo u hc hd hlt (clash2 hh)) (fun j d hd hlt hh => h.hi u hc hd hlt (clash2 hh)) _ κ,
  fun κ => apL_next (W := (·.wl)) hc hS' u.no (fun j d hd hlt hh => h.lo u hc hd hlt (clash5 hh)) (fun j d hd hlt hh => h.hi u hc hd hlt (clash5 hh)) _ κ⟩

theorem unl_lt {n i : Nat} {listed : Array Bool} (hi : i ∈ unl n listed) : (unl n (listed.setIfInBounds i true)).length < (unl n listed).length := by
 have h1 : unl n (listed.setIfInBounds i true) = (unl n listed).filter fun j => !Nat.beq j i := by
   unfold unl
   rw [List.filter_filter]
   refine List.filter_congr fun j hj => ?_
   by_cases e : j = i
   · subst e
     have hl : listed.getD j true = false := by simpa [unl] using (List.mem_filter.1 hi).2
     have hlt : j < listed.size := by
       rcases Nat.lt_or_ge j listed.size with h | h
       · exact h
       · simp [Array.getElem?_eq_none h] at hl
     rw [getD_set_self true hlt]; simp
   · rw [getD_set_ne true (Ne.symm e)]
     have : Nat.beq j i = false := by
       cases hb : Nat.beq j i
       · rfl
       · exact absurd (Nat.eq_of_beq_eq_true hb) e
     rw [this]; simp
 rw [h1]
 have : ∀ l : List Nat, i ∈ l → (l.filter fun j => !Nat.beq j i).length < l.length := by
   intro l
   induction l with
   | nil => intro h; cases h
   | cons a l ih =>
     intro h
     by_cases e : a = i
     · subst e
       simp only [List.filter_cons, Nat.beq_refl, Bool.not_true, Bool.false_eq_true, if_false, List.length_cons]
       exact Nat.lt_succ_of_le (List.length_filter_le _ _)
     · have hm : i ∈ l := by rcases List.mem_cons.1 h with rfl | h; exact absurd rfl e; exact h
       have := ih hm
       rw [List.filter_cons]
       split
       · simp only [List.length_cons]; omega
       · simp only [List.length_cons]; omega
 exact this _ hi

theorem draw_main {cs : List Cert} {s0 : St} (h : Drawn P N ops cs s0 Kn) {K : List Nat} {Q : Exit → St → Prop} {g0 : Gh} {l0 : Locs} {w0 : World} (m0 : MemR g0 l0 w0) :
   ∀ (fuel : Nat) (listed : Array Bool) (g : Gh) (a : Act) (w : World), listed.size = ops.size → ClosedS ops (fun j => listed.getD j false) → (unl ops.size listed).length ≤ fuel →
     Rep N g (apS cs (fun j => listed.getD j false) s0) a w → Step K g0 l0 w0 g (apS cs (fun j => listed.getD j false) s0).l w →
     wpAny P .any ops (Ends N K g0 l0 w0 (NormR Kn Q)) fuel listed a w := by
 have done : ∀ (listed : Array Bool) (g : Gh) (a : Act) (w : World), listed.size = ops.size → (∀ i, i < ops.size → listed.getD i true = true) →
     Rep N g (apS cs (fun j => listed.getD j false) s0) a w → Step K g0 l0 w0 g (apS cs (fun j => listed.getD j false) s0).l w → Ends N K g0 l0 w0 (NormR Kn Q) .normal a w := by
   intro listed g a w hsz hall r hs
   have he : (apS cs (fun j => listed.getD j false) s0).eqv (GW cs ops.size s0) := by
     rw [foldS_ap]
     have ag : ∀ j, j < cs.length → listed.getD j false = Nat.blt j ops.size := fun j hj => by
       rw [← It (by rw [hsz, ← h.len]; exact hj), hall j (by rw [← h.len]; exact hj), I2 (by rw [← h.len]; exact hj)]
     exact ⟨fun κ => ES (fun j x hx _ => by rw [Nat.zero_add]; exact ag j (by simpa using (List.getElem?_eq_some_iff.1 hx).1)) rfl, fun κ => ES (fun j x hx _ => by rw [Nat.zero_add]; exact ag j (by simpa using (List.getElem?_eq_some_iff.1 hx).1)) rfl⟩
   exact ⟨g, _, r.eqv he, hs.eqv he, h.fin⟩
 have rdy : ∀ (listed : Array Bool), listed.size = ops.size → Region.ready .any ops listed = [] → ∀ i, i < ops.size → listed.getD i true = true := by
   intro listed hsz hr i
   induction i using Nat.strongRecOn with
   | _ i ih =>
     intro hi
     cases hl : listed.getD i true
     · exfalso
       have ho : ops[i]? = some ops[i] := Array.getElem?_eq_getElem hi
       have hm : i ∈ Region.ready .any ops listed := mem_ready.2 ⟨hl, _, ho, fun e he hb => by
         have hlt := h.back ho e he hb
         rw [← It (by omega)]
         exact ih e.on hlt (by omega)⟩
       rw [hr] at hm; cases hm
     · rfl
 intro fuel
 induction fuel with
 | zero =>
   intro listed g a w hsz hcl hun r hs
   have hnil : unl ops.size listed = [] := List.eq_nil_of_length_eq_zero (by omega)
   have hall : ∀ i, i < ops.size → listed.getD i true = true := fun i hi => by
     cases hl : listed.getD i true
     · have : i ∈ unl ops.size listed := List.mem_filter.2 ⟨List.mem_range.2 hi, by simp only [hl]; rfl⟩
       rw [hnil] at this; cases this
     · rfl
   refine ⟨?_, done listed g a w hsz hall r hs⟩
   refine List.eq_nil_iff_forall_not_mem.2 fun i hi => ?_
   obtain ⟨h1, o, h2, _⟩ := mem_ready.1 hi
   rw [hall i (Array.getElem?_eq_some_iff.1 h2).1] at h1; cases h1
 | succ fuel ih =>
   intro listed g a w hsz hcl hun r hs
   refine ⟨fun hr => done listed g a w hsz (rdy listed hsz hr) r hs, fun i hi => ?_⟩
   obtain ⟨h1, o, ho, h3⟩ := mem_ready.1 hi
   have hilt : i < ops.size := (Array.getElem?_eq_some_iff.1 ho).1
   have hno : listed.getD i false = false := by rw [← It (by omega)]; exact h1
   obtain ⟨c, hc⟩ : ∃ c, cs[i]? = some c := ⟨_, List.getElem?_eq_getElem (by rw [h.len]; exact hilt)⟩
   have hS' : ∀ j, (listed.setIfInBounds i true).getD j false = (listed.getD j false || Nat.beq j i) := fun j => by
     by_cases e : j = i
     · subst e; rw [getD_set_self false (by omega)]; simp
     · rw [getD_set_ne false (Ne.symm e)]
       have : Nat.beq j i = false := by
         cases hb : Nat.beq j i
         · rfl
         · exact absurd (Nat.eq_of_beq_eq_true hb) e
       rw [this]; simp
   have hcl' : ClosedS ops (fun j => listed.getD j false || Nat.beq j i) := fun j o' hj hSj e he hb => by
     simp only [Bool.or_eq_true] at hSj ⊢
     rcases hSj with h4 | h4
     · exact .inl (hcl j o' hj h4 e he hb)
     · have := Nat.eq_of_beq_eq_true h4
       subst this
       rw [ho] at hj; cases hj
       exact .inl (h3 e he hb)
   have u : Up ops (fun j => listed.getD j false) i := ⟨hcl, hno, hcl'⟩
   have hpre := h.preS u hc
   have heq := h.next u hc hS'
   have hop := h.ok i o c ho hc K g _ a w hpre r
   have go : ∀ a' w', (∃ g', Rep N g' (c.upd (apS cs (fun j => listed.getD j false) s0)) a' w' ∧ Step K g (apS cs (fun j => listed.getD j false) s0).l w g' (c.upd (apS cs (fun j => listed.getD j false) s0)).l w') →
       wpAny P .any ops (Ends N K g0 l0 w0 (NormR Kn Q)) fuel (listed.setIfInBounds i true) a' w' := fun a' w' ⟨g', r', hs'⟩ => by
     have := unl_lt (n := ops.size) (i := i) (listed := listed) (List.mem_filter.2 ⟨List.mem_range.2 hilt, by simp only [h1]; rfl⟩)
     refine ih _ g' a' w' (by simp [hsz]) ?_ (by omega) (r'.eqv heq) ((hs.trans m0 r.mem hs').eqv heq)
     intro j o' hj hSj e he hb
     have hSj' : (listed.setIfInBounds i true).getD j false = true := hSj
     show (listed.setIfInBounds i true).getD e.on false = true
     rw [hS'] at hSj' ⊢
     exact hcl' j o' hj hSj' e he hb
   unfold wpOp
   rw [ho]
   simp only
   split
   · rename_i hw
     rw [if_pos hw] at hop
     exact .inl (Oper.wp_weak go hop)
   · rename_i hw
     rw [if_neg hw] at hop
     exact go _ _ hop

theorem Rep.drawn {g : Gh} {s : St} {a : Act} {w : World} (r : Rep N g s a w) : Rep N g s a { w with drawn := w.drawn + 1 } :=
 r.next0 (fun _ _ => rfl) (fun _ h => h) (Nat.le_refl _) (fun _ _ => okK.same rfl rfl rfl)
   (r.mem.set1 0 (fun _ _ => rfl) (fun _ h => h) (Nat.le_refl _) r.mem.ilt (fun j _ => .inr ⟨rfl, rfl, rfl, rfl, fun b hb hl => ⟨rfl, r.mem.notI hb hl⟩⟩) (.inl (okK.same rfl rfl rfl))
     (fun cs h => by
       obtain ⟨vs, t, h1, h2, h3⟩ := r.mem.box 0 cs h
       exact ⟨vs, t, h1, h2.mono fun a b _ hr => CellR.step (w := w) (w' := { w with drawn := w.drawn + 1 }) (g := g) (g' := g) (l := s.l) (l' := s.l) (fun _ _ => rfl) (fun _ h => h) (Nat.le_refl _) (fun _ _ => okK.same rfl rfl rfl) hr, h3⟩)
     (fun α T e xs d h => by
       rcases r.mem.arr 0 α T e xs d h with h1 | ⟨cap, vs, bss, h1, h2, h3, h4, h5, h6, h7⟩
       · exact .inl h1
       · exact .inr ⟨cap, vs, bss, h1, h2, h3, h4, h5, h6.keep rfl (fun _ _ => rfl) (Nat.le_refl _), h7⟩)
     (fun j b b' hj h1 _ h2 l1 l2 => r.mem.dis j 0 b b' hj h1 h2 l1 l2) (fun α T e xs h => r.mem.fr 0 α T e xs h) (fun j α β T U e f xs ys hj h1 _ h2 => r.mem.fd j 0 α β T U e f xs ys hj h1 h2))
theorem Step.drawn (K : List Nat) (g : Gh) (l : Locs) (w : World) : Step K g l w g l { w with drawn := w.drawn + 1 } :=
 ⟨rfl, rfl, rfl, Nat.le_refl _, fun _ _ _ => rfl, fun _ h => h, fun _ h => .inl h, fun _ h => .inl h, fun k _ h => ⟨h, okK.same rfl rfl rfl, fun cs h => ⟨cs, h⟩⟩⟩
end region
end Go.Proofs.YtkemjhlbokldhaaGreat

namespace Go.Proofs.YtkemjhlbokldhaaGreat
open Go.RowKit
set_option linter.unusedVariables false

def AW (P : Program) (N : Nat) (K : List Nat) (c : Code) (Kn : St → Prop) (Q : Exit → St → Prop) (s : St) : Prop :=
 ∀ (g : Gh) (a : Act) (w : World), Rep N g s a w → c.wp P (Ends N K g s.l w (NormR Kn Q)) a w

section rules
variable {P : Program} {N : Nat} {K : List Nat} {Kn : St → Prop} {Q : Exit → St → Prop} {s : St}

theorem Ends.trans {g g1 : Gh} {l l1 : Locs} {w w1 : World} {R : Exit → St → Prop} {e : Exit} {a : Act} {w2 : World} (m : MemR g l w) (m1 : MemR g1 l1 w1) (hs : Step K g l w g1 l1 w1) (h : Ends N K g1 l1 w1 R e a w2) : Ends N K g l w R e a w2 := by
 obtain ⟨g', s', r, hs', hR⟩ := h
 exact ⟨g', s', r, hs.trans m m1 hs', hR⟩
theorem AG {id : Nat} {l : List Oper} (h : AL P N false l.toArray Kn l s []) : AW P N K (.region id l.toArray false) Kn Q s := fun g a w r =>
 wp_region_lit (AL.list r.mem h g a w r (Step.refl ..))
theorem replF (n : Nat) (j : Nat) : (Array.replicate n false).getD j false = false := by
 by_cases h : j < n <;> simp [h]
theorem Bw {id : Nat} {l : List Oper} (hm : P.follows .mixedOrders = true) (h : AL P N true l.toArray Kn l s []) : AW P N K (.region id l.toArray true) Kn Q s := fun g a w r => by
 refine wp_region_any hm ?_
 obtain ⟨cs, h1, h2, h3, h4, h5⟩ := h.out
 have hD : Drawn P N l.toArray cs s Kn := ⟨by simpa using h1, fun i o c ho hc => h2 i o c (by simpa using ho) hc, h3, by simpa using h4, by simpa using h5 rfl⟩
 have e0 : apS cs (fun j => (Array.replicate l.toArray.size false).getD j false) s = s := by
   have hf := replF l.toArray.size
   unfold apS
   rw [I3 _ _ _ _ fun i _ => hf _, I3 _ _ _ _ fun i _ => hf _]
 have hle : (unl l.toArray.size (Array.replicate l.toArray.size false)).length ≤ l.toArray.size := by
   have := List.length_filter_le (fun i => !(Array.replicate l.toArray.size false).getD i true) (List.range l.toArray.size)
   simpa [unl] using this
 refine draw_main hD r.mem l.toArray.size _ g a _ (by simp) ?_ hle (by rw [e0]; exact r.drawn) (by rw [e0]; exact Step.drawn K g s.l w)
 intro j o _ hS
 rw [show (fun j => (Array.replicate l.toArray.size false).getD j false) j = (Array.replicate l.toArray.size false).getD j false from rfl, replF] at hS
 cases hS
theorem A8 {x y : Code} (h : AW P N K x (AW P N K y Kn Q) Q s) : AW P N K (.seq x y) Kn Q s := fun g a w r =>
 wp_seq (Go.wp_mono (h g a w r) fun e a1 w1 h1 => by
   obtain ⟨g1, s1, r1, hs, hR⟩ := h1
   cases e with
   | normal => exact Go.wp_mono (hR g1 a1 w1 r1) fun e a2 w2 h2 => h2.trans r.mem r1.mem hs
   | exit id => exact ⟨g1, s1, r1, hs, hR⟩
   | goto l => exact ⟨g1, s1, r1, hs, hR⟩
   | ret => exact ⟨g1, s1, r1, hs, hR⟩
   | panic ch => exact ⟨g1, s1, r1, hs, hR⟩
   | outgrown => exact ⟨g1, s1, r1, hs, hR⟩)
theorem AP (h : Kn s) : AW P N K .skip Kn Q s := fun g a w r => Go.wp_skip ⟨g, s, r, Step.refl .., h⟩
theorem AW_cond {c : Operand} {x y : Code} {b : Bool} (hc : evo s.t c = some (.one (.c (.bool b)))) (ht : b = true → AW P N K x Kn Q s) (hf : b = false → AW P N K y Kn Q s) : AW P N K (.cond c x y) Kn Q s := fun g a w r => by
 obtain ⟨hv, _⟩ : a.eval c = .bool b ∧ wfV (.bool b) := B4 r (BC hc) (Cg hc)
 exact wp_cond_split hv (fun h => ht h g a w r) (fun h => hf h g a w r)
theorem A5 {c : Operand} {x y : Code} (hc : evo s.t c = some (.one (.c (.bool true)))) (h : AW P N K x Kn Q s) : AW P N K (.cond c x y) Kn Q s := AW_cond hc (fun _ => h) (fun h => by cases h)
theorem Bc {c : Operand} {x y : Code} (hc : evo s.t c = some (.one (.c (.bool false)))) (h : AW P N K y Kn Q s) : AW P N K (.cond c x y) Kn Q s := AW_cond hc (fun h => by cases h) (fun _ => h)
theorem Aa {id : Nat} {l : List Oper} {y : Code} (h : AL P N false l.toArray (AW P N K y Kn Q) l s []) : AW P N K (.seq (.region id l.toArray false) y) Kn Q s := A8 (AG h)
theorem Ab {c : Operand} {x : Code} (hc : evo s.t c = some (.one (.c (.bool false)))) (h : Kn s) : AW P N K (.cond c x .skip) Kn Q s := Bc hc (AP h)
theorem Ac {c : Operand} {x y z : Code} (hc : evo s.t c = some (.one (.c (.bool true)))) (h : AW P N K x (AW P N K y Kn Q) Q s) : AW P N K (.cond c (.seq x y) z) Kn Q s := A5 hc (A8 h)
def BQ (id : Nat) (Kn : St → Prop) (Q : Exit → St → Prop) : Exit → St → Prop
 | .exit j, s => bif Nat.beq j id then Kn s else Q (.exit j) s
 | e, s => Q e s
theorem AZ {id : Nat} {c : Code} (h : AW P N K c Kn (BQ id Kn Q) s) : AW P N K (.block id c) Kn Q s := fun g a w r =>
 wp_block (Go.wp_mono (h g a w r) fun e a1 w1 h1 => by
   obtain ⟨g1, s1, r1, hs, hR⟩ := h1
   cases e with
   | exit j =>
     simp only [Exit.inBlock]
     by_cases e : j = id
     · subst e
       rw [if_pos rfl]
       have h2 : (bif Nat.beq j j then Kn s1 else Q (.exit j) s1) := hR
       rw [show Nat.beq j j = true by simp] at h2
       exact ⟨g1, s1, r1, hs, h2⟩
     · rw [if_neg e]
       have h2 : (bif Nat.beq j id then Kn s1 else Q (.exit j) s1) := hR
       have : Nat.beq j id = false := by
         cases hb : Nat.beq j id
         · rfl
         · exact absurd (Nat.eq_of_beq_eq_true hb) e
       rw [this] at h2
       exact ⟨g1, s1, r1, hs, h2⟩
   | normal => exact ⟨g1, s1, r1, hs, hR⟩
   | goto l => exact ⟨g1, s1, r1, hs, hR⟩
   | ret => exact ⟨g1, s1, r1, hs, hR⟩
   | panic ch => exact ⟨g1, s1, r1, hs, hR⟩
   | outgrown => exact ⟨g1, s1, r1, hs, hR⟩)
theorem Br {j : Nat} (h : Q (.exit j) s) : AW P N K (.exit j) Kn Q s := fun g a w r => wp_exit ⟨g, s, r, Step.refl .., h⟩
theorem B2 {id : Nat} (h : Kn s) : BQ id Kn Q (.exit id) s := by
 show (bif Nat.beq id id then Kn s else Q (.exit id) s)
 rw [show Nat.beq id id = true by simp]; exact h
theorem G5 {id j : Nat} (hn : Nat.beq j id = false) (h : Q (.exit j) s) : BQ id Kn Q (.exit j) s := by
 show (bif Nat.beq j id then Kn s else Q (.exit j) s)
 rw [hn]; exact h
theorem Bk {id : Nat} (h : Q .ret s) : BQ id Kn Q .ret s := h
theorem AU (h : Q .ret s) : AW P N K .ret Kn Q s := fun g a w r => wp_ret ⟨g, s, r, Step.refl .., h⟩
theorem AW_mono {c : Code} {Kn' : St → Prop} {Q' : Exit → St → Prop} (hk : ∀ s, Kn s → Kn' s) (hq : ∀ e s, Q e s → Q' e s) (h : AW P N K c Kn Q s) : AW P N K c Kn' Q' s := fun g a w r =>
 Go.wp_mono (h g a w r) fun e a1 w1 ⟨g1, s1, r1, hs, hR⟩ => ⟨g1, s1, r1, hs, by cases e <;> first | exact hk _ hR | exact hq _ _ hR⟩
end rules

def Cell.ren (r : Nat → Nat) : Cell → Cell
 | .own k => .own (r k)
 | .ptr k off => .ptr (r k) off
 | .optr k i off => .optr (r k) i off
 | .clo f ks => .clo f (ks.map r)
 | .c v => .c v
 | .sl e xs => .sl e xs
 | .ep e x off => .ep e x off
 | .any => .any
 | .sn e xs => .sn e xs
 | .slo B e xs => .slo B e xs
 | .epo B e x off => .epo B e x off
 | .osl k lo n => .osl (r k) lo n
 | .rx e x vs b j => .rx e x vs b j
 | .en e x => .en e x
 | .hd k V => .hd (r k) V
def AVal.ren1 (r : Nat → Nat) : AVal → AVal
 | .one x => .one (x.ren r)
 | .agg xs => .agg (xs.map (Cell.ren r))
 | .tup xs => .tup xs
def AVal.ren (r : Nat → Nat) : AVal → AVal
 | .one x => .one (x.ren r)
 | .agg xs => .agg (xs.map (Cell.ren r))
 | .tup xs => .tup (xs.map (AVal.ren1 r))
def Blk.ren (r : Nat → Nat) : Blk → Blk
 | .box cs => .box (cs.map (Cell.ren r))
 | .arr T e xs d => .arr T e xs d
def CLe (x y : Cell) : Prop := ∀ (g : Gh) (l : Locs) (w : World) (v : Value), CellR g l w v x → CellR g l w v y
def VLe (x y : AVal) : Prop := ∀ (g : Gh) (l : Locs) (w : World) (v : Value), VR g l w v x → VR g l w v y
def V1Le (x y : AVal) : Prop := ∀ (g : Gh) (l : Locs) (w : World) (v : Value), VR1 g l w v x → VR1 g l w v y
def AllC : List Cell → List Cell → Prop
 | [], [] => True
 | x :: xs, y :: ys => CLe x y ∧ AllC xs ys
 | _, _ => False
theorem CLe.rf {x : Cell} : CLe x x := fun _ _ _ _ h => h
theorem CLe.any {x : Cell} : CLe x .any := fun _ _ _ _ _ => trivial
theorem CLe.nil {α : Type} {e : Enc α} : CLe (.c (.slice none 0 0)) (.sl e []) := fun g l w v h => ⟨none, 0, 0, [], h.1, ⟨rfl, Nat.le_refl _, by unfold maxLen; omega, fun _ => rfl, .inl ⟨rfl, rfl⟩⟩, fun _ hb => by cases hb⟩
theorem AllC.rf : ∀ {xs : List Cell}, AllC xs xs
 | [] => trivial
 | _ :: _ => ⟨CLe.rf, AllC.rf⟩
theorem AllC.all2 {g : Gh} {l : Locs} {w : World} : ∀ {vs : List Value} {xs ys : List Cell}, AllC xs ys → All2 (CellR g l w) vs xs → All2 (CellR g l w) vs ys
 | [], [], [], _, _ => trivial
 | v :: vs, x :: xs, y :: ys, h, h' => ⟨h.1 _ _ _ _ h'.1, AllC.all2 h.2 h'.2⟩
theorem VLe.rf {x : AVal} : VLe x x := fun _ _ _ _ h => h
theorem V1Le.rf {x : AVal} : V1Le x x := fun _ _ _ _ h => h
theorem VLe.one {x y : Cell} (h : CLe x y) : VLe (.one x) (.one y) := h
theorem V1Le.one {x y : Cell} (h : CLe x y) : V1Le (.one x) (.one y) := h
theorem V1Le.agg {xs ys : List Cell} (h : AllC xs ys) : V1Le (.agg xs) (.agg ys) := fun _ _ _ _ ⟨vs, h1, h2⟩ => ⟨vs, h1, h.all2 h2⟩
theorem VLe.agg {xs ys : List Cell} (h : AllC xs ys) : VLe (.agg xs) (.agg ys) := fun _ _ _ _ ⟨vs, h1, h2⟩ => ⟨vs, h1, h.all2 h2⟩
def AllV : List AVal → List AVal → Prop
 | [], [] => True
 | x :: xs, y :: ys => V1Le x y ∧ AllV xs ys
 | _, _ => False
theorem AllV.rf : ∀ {xs : List AVal}, AllV xs xs
 | [] => trivial
 | _ :: _ => ⟨V1Le.rf, AllV.rf⟩
theorem AllV.all2 {g : Gh} {l : Locs} {w : World} : ∀ {vs : List Value} {xs ys : List AVal}, AllV xs ys → All2 (VR1 g l w) vs xs → All2 (VR1 g l w) vs ys
 | [], [], [], _, _ => trivial
 | v :: vs, x :: xs, y :: ys, h, h' => ⟨h.1 _ _ _ _ h'.1, AllV.all2 h.2 h'.2⟩
theorem VLe.tup {xs ys : List AVal} (h : AllV xs ys) : VLe (.tup xs) (.tup ys) := fun _ _ _ _ ⟨vs, h1, h2⟩ => ⟨vs, h1, h.all2 h2⟩

def BLe (b b' : Blk) : Prop := b = b' ∨ ∃ cs cs', b = .box cs ∧ b' = .box cs' ∧ AllC cs cs'
theorem BLe.rf {b : Blk} : BLe b b := .inl rfl
theorem BLe.box {cs cs' : List Cell} (h : AllC cs cs') : BLe (.box cs) (.box cs') := .inr ⟨cs, cs', rfl, rfl, h⟩
def LeT (r : Nat → Nat) (t : DV) : DV → Prop
 | [] => True
 | (k, x) :: rest => (∃ y, lk t k = some y ∧ VLe y (x.ren r)) ∧ LeT r t rest
def LeL (r : Nat → Nat) (l : Locs) : Locs → Prop
 | [] => True
 | (k, some b) :: rest => (∃ b', lkl l (r k) = some b' ∧ BLe b' (b.ren r)) ∧ LeL r l rest
 | (_, none) :: rest => LeL r l rest
def LeK (r : Nat → Nat) (l L : Locs) : List Nat → Prop
 | [] => True
 | k :: ks => (r k = k ∧ (lk L k ≠ none ∨ lk l k = none) ∧ ∀ cs, lkl l k = some (.box cs) → ∃ cs', lkl L k = some (.box cs')) ∧ LeK r l L ks
def injL (r : Nat → Nat) : List Nat → Bool
 | [] => true
 | k :: ks => (ks.all fun j => Nat.beq j k || !Nat.beq (r j) (r k)) && injL r ks
structure LeS (K : List Nat) (r : Nat → Nat) (s S : St) : Prop where
 t : LeT r s.t S.t
 l : LeL r s.l S.l
 k : LeK r s.l S.l K
 inj : injL r (Bi S.l) = true
def rn : List (Nat × Nat) → Nat → Nat
 | [], k => k
 | (a, b) :: r, k => bif Nat.beq a k then b else rn r k

theorem LeT.get {r : Nat → Nat} {t : DV} : ∀ {T : DV} {k : Nat} {x : AVal}, LeT r t T → lk T k = some x → ∃ y, lk t k = some y ∧ VLe y (x.ren r)
 | [], k, x, _, h => by simp [lk] at h
 | (j, z) :: rest, k, x, hT, h => by
   by_cases e : j = k
   · subst e; rw [Bv] at h; cases h; exact hT.1
   · rw [B6 e] at h; exact LeT.get hT.2 h
theorem LeL.get {r : Nat → Nat} {l : Locs} : ∀ {L : Locs} {k : Nat} {b : Blk}, LeL r l L → lkl L k = some b → ∃ b', lkl l (r k) = some b' ∧ BLe b' (b.ren r)
 | [], k, b, _, h => by simp [lkl, lk] at h
 | (j, z) :: rest, k, b, hL, h => by
   by_cases e : j = k
   · subst e; rw [Bb] at h; subst h; exact hL.1
   · cases z with
     | none => rw [Bs e] at h; exact LeL.get (L := rest) hL h
     | some z => rw [Bs e] at h; exact LeL.get hL.2 h
theorem LeK.get {r : Nat → Nat} {l L : Locs} : ∀ {K : List Nat} {k : Nat}, LeK r l L K → k ∈ K → r k = k ∧ (lk L k ≠ none ∨ lk l k = none) ∧ ∀ cs, lkl l k = some (.box cs) → ∃ cs', lkl L k = some (.box cs')
 | [], k, _, h => by cases h
 | j :: ks, k, hK, h => by
   rcases List.mem_cons.1 h with rfl | h
   · exact hK.1
   · exact LeK.get hK.2 h
theorem injL.get {r : Nat → Nat} : ∀ {ks : List Nat} {i j : Nat}, injL r ks = true → i ∈ ks → j ∈ ks → i ≠ j → r i ≠ r j
 | [], i, j, _, h, _, _ => by cases h
 | k :: ks, i, j, h, hi, hj, hij => by
   simp only [injL, Bool.and_eq_true, List.all_eq_true] at h
   have one : ∀ x, x ∈ ks → x ≠ k → r x ≠ r k := fun x hx hne he => by
     have := h.1 x hx
     simp only [Bool.or_eq_true, Bool.not_eq_true'] at this
     rcases this with h1 | h1
     · exact hne (Nat.eq_of_beq_eq_true h1)
     · rw [he, Nat.beq_refl] at h1; cases h1
   rcases List.mem_cons.1 hi with rfl | hi
   · rcases List.mem_cons.1 hj with rfl | hj
     · exact absurd rfl hij
     · exact Ne.symm (one j hj (Ne.symm hij))
   · rcases List.mem_cons.1 hj with rfl | hj
     · exact one i (by assumption) hij
     · exact injL.get h.2 hi hj hij
theorem Ey {l : Locs} {k : Nat} {b : Blk} (h : lkl l k = some b) : k ∈ Bi l := List.mem_map_of_mem (lkl_mem h)

def Gh.ren (g : Gh) (r : Nat → Nat) : Gh := ⟨g.I, fun k => g.ρ (r k), fun k => g.hd (r k), fun k => g.F (r k)⟩
theorem Eo {b : Blk} {r : Nat → Nat} {α : Type} {T : TypeId} {e : Enc α} {xs : List α} {d : Bool} {b' : Blk} (hb : b = .arr T e xs d) (h : BLe b' (b.ren r)) : b' = .arr T e xs d := by
 subst hb
 rcases h with h | ⟨cs, cs', _, h2, _⟩
 · exact h
 · cases h2
theorem Ho {b : Blk} {r : Nat → Nat} {cs : List Cell} {b' : Blk} (hb : b = .box cs) (h : BLe b' (b.ren r)) : ∃ cs', b' = .box cs' ∧ AllC cs' (cs.map (Cell.ren r)) := by
 subst hb
 rcases h with h | ⟨cs1, cs2, h1, h2, h3⟩
 · exact ⟨_, h, AllC.rf⟩
 · cases h2; exact ⟨cs1, h1, h3⟩

section le
variable {K : List Nat} {r : Nat → Nat} {l L : Locs} {g : Gh} {w : World}
theorem CellR.unren (hL : LeL r l L) {v : Value} {x : Cell} (h : CellR g l w v (x.ren r)) : CellR (g.ren r) L w v x := by
 cases x with
 | c u => exact h
 | sl e xs => exact h
 | own k =>
   intro α T e xs d hk
   obtain ⟨b', h1, h2⟩ := hL.get hk
   exact h α T e xs d (by rw [h1, Eo rfl h2])
 | ptr k off =>
   intro cs hk
   obtain ⟨b', h1, h2⟩ := hL.get hk
   obtain ⟨cs', rfl, _⟩ := Ho rfl h2
   exact h cs' h1
 | optr k i off =>
   intro α T e xs d hk
   obtain ⟨b', h1, h2⟩ := hL.get hk
   exact h α T e xs d (by rw [h1, Eo rfl h2])
 | ep e x off => exact h
 | clo f ks =>
   intro hk
   have := h (fun k hkm => by
     obtain ⟨j, hj, rfl⟩ := List.mem_map.1 hkm
     obtain ⟨cs, h0⟩ := hk j hj
     obtain ⟨b', h1, h2⟩ := hL.get h0
     obtain ⟨cs', rfl, _⟩ := Ho rfl h2
     exact ⟨cs', h1⟩)
   rw [this]
   simp [Gh.ren, List.map_map, Function.comp_def]
 | any => trivial
 | sn e xs => exact h
 | slo B e xs => exact h
 | epo B e x off => exact h
 | osl k lo n =>
   intro α T e xs d hk
   obtain ⟨b', h1, h2⟩ := hL.get hk
   exact h α T e xs d (by rw [h1, Eo rfl h2])
 | rx e x vs b j => exact h
 | en e x => exact h
 | hd k V =>
   intro α T e xs d hk
   obtain ⟨b', h1, h2⟩ := hL.get hk
   exact h α T e xs d (by rw [h1, Eo rfl h2])
theorem VR1.unren (hL : LeL r l L) {v : Value} {x : AVal} (h : VR1 g l w v (x.ren1 r)) : VR1 (g.ren r) L w v x := by
 cases x with
 | one x => exact CellR.unren hL h
 | agg xs =>
   obtain ⟨vs, h1, h2⟩ := h
   refine ⟨vs, h1, ?_⟩
   clear h1
   induction xs generalizing vs with
   | nil => cases vs <;> exact h2
   | cons x xs ih =>
     cases vs with
     | nil => exact h2
     | cons v vs => exact ⟨CellR.unren hL h2.1, ih vs h2.2⟩
 | tup xs => exact h
theorem VR.unren (hL : LeL r l L) {v : Value} {x : AVal} (h : VR g l w v (x.ren r)) : VR (g.ren r) L w v x := by
 cases x with
 | one x => exact CellR.unren hL h
 | agg xs => exact VR1.unren (x := .agg xs) hL h
 | tup xs =>
   obtain ⟨vs, h1, h2⟩ := h
   refine ⟨vs, h1, ?_⟩
   clear h1
   induction xs generalizing vs with
   | nil => cases vs <;> exact h2
   | cons x xs ih =>
     cases vs with
     | nil => exact h2
     | cons v vs => exact ⟨VR1.unren hL h2.1, ih vs h2.2⟩
theorem MemR.unren (hL : LeL r l L) (hi : injL r (Bi L) = true) (m : MemR g l w) : MemR (g.ren r) L w where
 ilt := m.ilt
 box := fun k cs hk => by
   obtain ⟨b', h1, h2⟩ := hL.get hk
   obtain ⟨cs', rfl, h3⟩ := Ho rfl h2
   obtain ⟨vs, t, h4, h5, h6⟩ := m.box _ cs' h1
   refine ⟨vs, t, h4, ?_, h6⟩
   have h7 := h3.all2 h5
   clear h5 h3 h2 h1 h4 hk
   generalize vs.toList = us at *
   induction cs generalizing us with
   | nil => cases us <;> exact h7
   | cons x xs ih =>
     cases us with
     | nil => exact h7
     | cons v us => exact ⟨CellR.unren hL h7.1, ih us h7.2⟩
 arr := fun k α T e xs d hk => by
   obtain ⟨b', h1, h2⟩ := hL.get hk
   exact m.arr (r k) α T e xs d (by rw [h1, Eo rfl h2])
 dis := fun j k b b' hjk hj hk lj lk => by
   obtain ⟨c, h1, h2⟩ := hL.get hj
   obtain ⟨c', h3, h4⟩ := hL.get hk
   refine m.dis (r j) (r k) c c' (injL.get hi (Ey hj) (Ey hk) hjk) h1 h3 ?_ ?_
   · cases b with
     | box cs => obtain ⟨cs', rfl, _⟩ := Ho rfl h2; trivial
     | arr T e xs d => rw [Eo rfl h2]; exact lj
   · cases b' with
     | box cs => obtain ⟨cs', rfl, _⟩ := Ho rfl h4; trivial
     | arr T e xs d => rw [Eo rfl h4]; exact lk
 fr := fun k α T e xs hk => by
   obtain ⟨b', h1, h2⟩ := hL.get hk
   exact m.fr (r k) α T e xs (by rw [h1, Eo rfl h2])
 fd := fun j k α β T U e f xs ys hjk hj hk => by
   obtain ⟨c, h1, h2⟩ := hL.get hj
   obtain ⟨c', h3, h4⟩ := hL.get hk
   exact m.fd (r j) (r k) α β T U e f xs ys (injL.get hi (Ey hj) (Ey hk) hjk) (by rw [h1, Eo rfl h2]) (by rw [h3, Eo rfl h4])
theorem OwnB.unren (hL : LeL r l L) {b : Nat} (h : OwnB (g.ren r) L b) : OwnB g l b := by
 obtain ⟨k, blk, hk, h⟩ := h
 obtain ⟨c, h1, h2⟩ := hL.get hk
 refine ⟨r k, c, h1, ?_⟩
 rcases h with ⟨hl, rfl⟩ | ⟨α, T, e, xs, rfl, hb⟩
 · left
   refine ⟨?_, rfl⟩
   cases blk with
   | box cs => obtain ⟨cs', rfl, _⟩ := Ho rfl h2; trivial
   | arr T e xs d => rw [Eo rfl h2]; exact hl
 · exact .inr ⟨α, T, e, xs, Eo rfl h2, hb⟩
theorem Step.unren (hL : LeL r l L) (hK : LeK r l L K) : Step K g l w (g.ren r) L w where
 os := rfl
 tape := rfl
 output := rfl
 size := Nat.le_refl _
 keep := fun _ _ _ => rfl
 imm := fun _ h => h
 imm' := fun _ h => .inl h
 own := fun b hb => .inl (hb.unren hL)
 base := fun k hk hn => by
   obtain ⟨h1, h2, h3⟩ := hK.get hk
   refine ⟨h2.resolve_right hn, ⟨fun cs hc => ?_, fun α T e xs d hc => ?_⟩, h3⟩
   · obtain ⟨b', h4, h5⟩ := hL.get hc
     obtain ⟨cs', rfl, _⟩ := Ho rfl h5
     rw [h1] at h4
     exact ⟨by simp [Gh.ren, h1], cs', h4⟩
   · obtain ⟨b', h4, h5⟩ := hL.get hc
     rw [Eo rfl h5, h1] at h4
     exact ⟨α, T, e, xs, d, h4, by simp [Gh.ren, h1], by simp [Gh.ren, h1], rfl⟩
end le
theorem Rep.le {K : List Nat} {N : Nat} {r : Nat → Nat} {s S : St} {g : Gh} {a : Act} {w : World} (h : LeS K r s S) (R : Rep N g s a w) : Rep N (g.ren r) S a w :=
 ⟨R.size, R.defers, fun k x hk => by
   obtain ⟨y, h1, h2⟩ := h.t.get hk
   exact VR.unren h.l (h2 _ _ _ _ (R.tmp k y h1)), R.mem.unren h.l h.inj⟩
theorem AW_le {P : Program} {N : Nat} {K : List Nat} {c : Code} {Kn : St → Prop} {Q : Exit → St → Prop} {s S : St} {r : Nat → Nat} (h : LeS K r s S) (hA : AW P N K c Kn Q S) : AW P N K c Kn Q s := fun g a w R =>
 Go.wp_mono (hA _ a w (R.le h)) fun e a1 w1 h1 => h1.trans R.mem (R.le h).mem (Step.unren h.l h.k)
theorem AW_loop {P : Program} {N : Nat} {K : List Nat} {c : Code} {Kn : St → Prop} {Q : Exit → St → Prop} {s : St} {ι : Type} (S : ι → St) (μ : ι → Nat) (i0 : ι) (r : Nat → Nat) (h0 : LeS K r s (S i0))
   (round : ∀ i, AW P N K c (fun s' => ∃ j r', LeS K r' s' (S j) ∧ μ j < μ i) Q (S i)) : AW P N K (.loop c) Kn Q s := fun g a w R => by
 have R0 := R.le h0
 refine wp_loop_ghost (fun n a1 w1 => ∃ i g1, μ i = n ∧ Rep N g1 (S i) a1 w1 ∧ Step K g s.l w g1 (S i).l w1) (μ i0) ⟨i0, _, rfl, R0, Step.unren h0.l h0.k⟩ ?_
 rintro n a1 w1 ⟨i, g1, hn, R1, hs1⟩
 refine Go.wp_mono (round i g1 a1 w1 R1) ?_
 rintro e a2 w2 ⟨g2, s2, R2, hs2, hR⟩
 have hs12 := hs1.trans R.mem R1.mem hs2
 cases e with
 | normal =>
   obtain ⟨j, r', hle, hlt⟩ := hR
   exact ⟨μ j, hn ▸ hlt, j, _, rfl, R2.le hle, hs12.trans R.mem R2.mem (Step.unren hle.l hle.k)⟩
 | exit id => exact ⟨g2, s2, R2, hs12, hR⟩
 | goto l => exact ⟨g2, s2, R2, hs12, hR⟩
 | ret => exact ⟨g2, s2, R2, hs12, hR⟩
 | panic ch => exact ⟨g2, s2, R2, hs12, hR⟩
 | outgrown => exact ⟨g2, s2, R2, hs12, hR⟩

def Ip (t : DV) : List Nat → DV
 | [] => []
 | k :: ks => match lk t k with | some x => (k, x) :: Ip t ks | none => Ip t ks
def Iq (l : Locs) : List Nat → Locs
 | [] => []
 | k :: ks => match lkl l k with | some x => (k, some x) :: Iq l ks | none => Iq l ks
theorem AH {r : Nat → Nat} {a b : Bool} (h : a = b) : VLe (.one (.c (.bool a))) ((AVal.one (.c (.bool b))).ren r) := by subst h; exact VLe.rf
theorem A7 {r : Nat → Nat} {k : IntKind} {a b : Int} (h : a = b) : VLe (.one (.c (.int k a))) ((AVal.one (.c (.int k b))).ren r) := by subst h; exact VLe.rf
theorem Bu {r : Nat → Nat} {a b : ByteArray} (h : a = b) : VLe (.one (.c (.string a))) ((AVal.one (.c (.string b))).ren r) := by subst h; exact VLe.rf
theorem I4 {r : Nat → Nat} {α : Type} {e : Enc α} {a b : List α} (h : a = b) : VLe (.one (.sl e a)) ((AVal.one (.sl e b)).ren r) := by subst h; exact VLe.rf
theorem B8 {P : Program} {N : Nat} {K : List Nat} {c : Code} {Kn : St → Prop} {Q : Exit → St → Prop} {s : St} {ι : Type} (U : ι → DV) (V : ι → Locs) (ks ls : List Nat) (μ : ι → Nat) (i0 : ι) (r : Nat → Nat) (h0 : LeS K r s ⟨U i0 ++ Ip s.t ks, V i0 ++ Iq s.l ls⟩)
   (round : ∀ i, AW P N K c (fun s' => ∃ j r', LeS K r' s' ⟨U j ++ Ip s.t ks, V j ++ Iq s.l ls⟩ ∧ μ j < μ i) Q ⟨U i ++ Ip s.t ks, V i ++ Iq s.l ls⟩) : AW P N K (.loop c) Kn Q s :=
 AW_loop (fun i => ⟨U i ++ Ip s.t ks, V i ++ Iq s.l ls⟩) μ i0 r h0 round

def lekB (r : Nat → Nat) (l L : Locs) : List Nat → Bool
 | [] => true
 | k :: ks => Nat.beq (r k) k && (match lk L k with | some (some (.box _)) => true | some _ => (match lkl l k with | some (.box _) => false | _ => true) | none => (match lk l k with | none => true | some _ => false)) && lekB r l L ks
theorem Af {r : Nat → Nat} {l L : Locs} : ∀ {ks : List Nat}, lekB r l L ks = true → LeK r l L ks
 | [], _ => trivial
 | k :: ks, h => by
   simp only [lekB, Bool.and_eq_true] at h
   obtain ⟨⟨h1, h2⟩, h3⟩ := h
   refine ⟨⟨Nat.eq_of_beq_eq_true h1, ?_, fun cs hc => ?_⟩, Af h3⟩
   · cases hL : lk L k with
     | some x => exact .inl (by simp)
     | none =>
       rw [hL] at h2
       cases hl : lk l k with
       | none => exact .inr rfl
       | some y => rw [hl] at h2; cases h2
   · cases hL : lk L k with
     | none =>
       rw [hL] at h2
       cases hl : lk l k with
       | none => unfold lkl at hc; rw [hl] at hc; cases hc
       | some y => rw [hl] at h2; cases h2
     | some x =>
       cases x with
       | none => rw [hL, hc] at h2; cases h2
       | some b =>
         cases b with
         | box cs' => exact ⟨cs', by unfold lkl; rw [hL]⟩
         | arr T e xs d => rw [hL, hc] at h2; cases h2
theorem Ag {K : List Nat} {r : Nat → Nat} {s S : St} (t : LeT r s.t S.t) (l : LeL r s.l S.l) (k : lekB r s.l S.l K = true) (i : injL r (Bi S.l) = true) : LeS K r s S := ⟨t, l, Af k, i⟩
theorem Ah {r : Nat → Nat} {t : DV} {k : Nat} {x y : AVal} {rest : DV} (h : lk t k = some y) (v : VLe y (x.ren r)) (n : LeT r t rest) : LeT r t ((k, x) :: rest) := ⟨⟨y, h, v⟩, n⟩
theorem Ai {r : Nat → Nat} {l : Locs} {k : Nat} {b b' : Blk} {rest : Locs} (h : lkl l (r k) = some b') (v : BLe b' (b.ren r)) (n : LeL r l rest) : LeL r l ((k, some b) :: rest) := ⟨⟨b', h, v⟩, n⟩
def He (P : Program) (f : FuncId) : Prop := ∃ fn c, P.funcs[f]? = some fn ∧ fn.body = some c ∧ (fn.name == "runtime.NumGoroutine") = false
structure AC (P : Program) (f : FuncId) (args : List AVal) (L : Locs) (res : AVal) (L' : Locs) : Prop where
 fn : He P f
 run : ∀ (g : Gh) (w : World) (cargs : Array Value), MemR g L w → All2 (VR1 g L w) cargs.toList args →
   Calls P f cargs w fun e w' => ∃ v g', e = .returned v ∧ MemR g' L' w' ∧ VR g' L' w' v res ∧ Step (Bi L) g L w g' L' w'

def Ff : List AVal → Nat → DV
 | [], _ => []
 | x :: r, k => (k, x) :: Ff r (k + 1)
theorem args0_get {g : Gh} {l : Locs} {w : World} : ∀ {xs : List AVal} {vs : List Value} {n k : Nat} {x : AVal}, All2 (VR1 g l w) vs xs → lk (Ff xs n) k = some x → ∃ i v, k = n + i ∧ vs[i]? = some v ∧ VR1 g l w v x
 | [], [], n, k, x, _, h => by simp [Ff, lk] at h
 | y :: ys, v :: vs, n, k, x, h, hk => by
   by_cases e : n = k
   · subst e
     rw [Ff, Bv] at hk
     cases hk
     exact ⟨0, v, rfl, rfl, h.1⟩
   · rw [Ff, B6 e] at hk
     obtain ⟨i, u, h1, h2, h3⟩ := args0_get h.2 hk
     exact ⟨i + 1, u, by omega, by simpa using h2, h3⟩
def RetS (K : List Nat) (T : DV) (L' : Locs) (s : St) : Prop := ∃ r, LeS K r s ⟨T, L'⟩
def RetQ (K : List Nat) (T : DV) (L' : Locs) : Exit → St → Prop
 | .ret, s => RetS K T L' s
 | _, _ => False
def AVal.flat : AVal → Bool
 | .tup _ => false
 | _ => true
theorem VR.vr1 {g : Gh} {l : Locs} {w : World} {v : Value} {x : AVal} (hx : x.flat = true) (h : VR g l w v x) : VR1 g l w v x := by
 cases x with
 | one x => exact h
 | agg xs => exact h
 | tup xs => cases hx
section body
variable {P : Program} {N : Nat} {f : FuncId} {fn : Func} {c : Code} {args : List AVal} {L L' : Locs}
theorem entry_rep {g : Gh} {w : World} {cargs : Array Value} (m : MemR g L w) (ha : All2 (VR1 g L w) cargs.toList args) (hN : args.length ≤ N) : Rep N g ⟨Ff args 0, L⟩ { tmps := cargs ++ Array.replicate (N - cargs.size) undef, defers := [] } w := by
 have hl : cargs.size = args.length := by simpa using ha.len
 refine ⟨by simp; omega, rfl, fun k x hk => ?_, m⟩
 obtain ⟨i, v, h1, h2, h3⟩ := args0_get ha hk
 rw [Nat.zero_add] at h1
 subst h1
 have hi : k < cargs.size := by have := (List.getElem?_eq_some_iff.1 h2).1; simpa using this
 have : (cargs ++ Array.replicate (N - cargs.size) undef).getD k undef = v := by
   have h4 : cargs[k]? = some v := by simpa using h2
   rw [Array.getD_eq_getD_getElem?, Array.getElem?_append_left hi, h4]; rfl
 show VR g L w ((cargs ++ Array.replicate (N - cargs.size) undef).getD k undef) x
 rw [this]; exact h3.vr
theorem AC_of {res : AVal} {T : DV} (hf : P.funcs[f]? = some fn) (hb : fn.body = some c) (hn : (fn.name == "runtime.NumGoroutine") = false) (hN : fn.ntmps = N) (hA : Nat.ble args.length N = true)
   (hr : ∀ (g : Gh) (a : Act) (w : World), Rep N g ⟨T, L'⟩ a w → ∃ v, (results fn a.tmps).run P w = .ok v w ∧ VR g L' w v res)
   (h : AW P N (Bi L) c (RetS (Bi L) T L') (RetQ (Bi L) T L') ⟨Ff args 0, L⟩) : AC P f args L res L' := by
 refine ⟨⟨fn, c, hf, hb, hn⟩, fun g w cargs m ha => ?_⟩
 subst hN
 have R := entry_rep m ha (Nat.le_of_ble_eq_true hA)
 refine calls_of_wp hf hb (Go.wp_mono (h g _ w R) ?_)
 rintro e a1 w1 ⟨g1, s1, R1, hs, hR⟩
 have fin : RetS (Bi L) T L' s1 → a1.defers = [] ∧ ∃ v, (results fn a1.tmps).run P w1 = .ok v w1 ∧ ∃ v' g', Ending.returned v = .returned v' ∧ MemR g' L' w1 ∧ VR g' L' w1 v' res ∧ Step (Bi L) g L w g' L' w1 := by
   rintro ⟨r, hle⟩
   have R2 := R1.le hle
   obtain ⟨v, h1, h2⟩ := hr _ a1 w1 R2
   exact ⟨R1.defers, v, h1, v, _, rfl, R2.mem, h2, hs.trans m R1.mem (Step.unren hle.l hle.k)⟩
 cases e with
 | normal => exact fin hR
 | ret => exact fin hR
 | exit id => exact hR
 | goto l => exact hR
 | panic ch => exact hR.elim
 | outgrown => exact hR.elim
theorem AC_body0 (hf : P.funcs[f]? = some fn) (hb : fn.body = some c) (hn : (fn.name == "runtime.NumGoroutine") = false) (hN : fn.ntmps = N) (hA : Nat.ble args.length N = true) (hr : fn.results = #[])
   (h : AW P N (Bi L) c (RetS (Bi L) [] L') (RetQ (Bi L) [] L') ⟨Ff args 0, L⟩) : AC P f args L (.tup []) L' :=
 AC_of hf hb hn hN hA (fun g a w R => ⟨_, results_none hr _ _ _, ⟨[], rfl, trivial⟩⟩) h
theorem Bn {r : Nat} {x : AVal} (hf : P.funcs[f]? = some fn) (hb : fn.body = some c) (hn : (fn.name == "runtime.NumGoroutine") = false) (hN : fn.ntmps = N) (hA : Nat.ble args.length N = true) (hr : fn.results = #[.tmp r])
   (h : AW P N (Bi L) c (RetS (Bi L) [(r, x)] L') (RetQ (Bi L) [(r, x)] L') ⟨Ff args 0, L⟩) : AC P f args L x L' :=
 AC_of hf hb hn hN hA (fun g a w R => ⟨_, results_tmp hr _ _ _, R.tmp r x Bv⟩) h
theorem AC_body2 {r1 r2 : Nat} {x1 x2 : AVal} (hf : P.funcs[f]? = some fn) (hb : fn.body = some c) (hn : (fn.name == "runtime.NumGoroutine") = false) (hN : fn.ntmps = N) (hA : Nat.ble args.length N = true) (hr : fn.results = #[.tmp r1, .tmp r2])
   (hne : Nat.beq r1 r2 = false) (f1 : x1.flat = true) (f2 : x2.flat = true) (h : AW P N (Bi L) c (RetS (Bi L) [(r1, x1), (r2, x2)] L') (RetQ (Bi L) [(r1, x1), (r2, x2)] L') ⟨Ff args 0, L⟩) : AC P f args L (.tup [x1, x2]) L' :=
 AC_of hf hb hn hN hA (fun g a w R => ⟨_, results_tmp2 hr _ _ _, ⟨[a.tmps.getD r1 undef, a.tmps.getD r2 undef], rfl, (R.tmp r1 x1 Bv).vr1 f1, (R.tmp r2 x2 (by
   rw [B6 (by intro e; subst e; simp at hne)]; exact Bv)).vr1 f2, trivial⟩⟩) h
theorem AC_body3 {r1 r2 r3 : Nat} {x1 x2 x3 : AVal} (hf : P.funcs[f]? = some fn) (hb : fn.body = some c) (hn : (fn.name == "runtime.NumGoroutine") = false) (hN : fn.ntmps = N) (hA : Nat.ble args.length N = true) (hr : fn.results = #[.tmp r1, .tmp r2, .tmp r3])
   (hne : Nat.beq r1 r2 = false) (hne' : Nat.beq r1 r3 = false) (hne'' : Nat.beq r2 r3 = false) (f1 : x1.flat = true) (f2 : x2.flat = true) (f3 : x3.flat = true)
   (h : AW P N (Bi L) c (RetS (Bi L) [(r1, x1), (r2, x2), (r3, x3)] L') (RetQ (Bi L) [(r1, x1), (r2, x2), (r3, x3)] L') ⟨Ff args 0, L⟩) : AC P f args L (.tup [x1, x2, x3]) L' :=
 AC_of hf hb hn hN hA (fun g a w R => ⟨_, results_tmp3 hr _ _ _, ⟨[a.tmps.getD r1 undef, a.tmps.getD r2 undef, a.tmps.getD r3 undef], rfl, (R.tmp r1 x1 Bv).vr1 f1, (R.tmp r2 x2 (by
   rw [B6 (by intro e; subst e; simp at hne)]; exact Bv)).vr1 f2, (R.tmp r3 x3 (by
   rw [B6 (by intro e; subst e; simp at hne'), B6 (by intro e; subst e; simp at hne'')]; exact Bv)).vr1 f3, trivial⟩⟩) h
end body

def evl (t : DV) : List Operand → Option (List AVal)
 | [] => some []
 | o :: r => match evo t o, evl t r with | some x, some xs => some (x :: xs) | _, _ => none
def rdl (t : DV) : List Operand → List (Nat × AVal)
 | [] => []
 | o :: r => (match evo t o with | some x => rdo o x | none => []) ++ rdl t r
theorem EG {N : Nat} {t : DV} : ∀ {os : List Operand} {xs : List AVal}, evl t os = some xs → (∀ p ∈ rdl t os, lk t p.1 = some p.2) ∧
   ∀ {g : Gh} {s : St} {a : Act} {w : World}, Rep N g s a w → (∀ p ∈ rdl t os, lk s.t p.1 = some p.2) → All2 (VR g s.l w) (os.map a.eval) xs
 | [], xs, h => by cases h; exact ⟨fun p hp => (by cases hp), fun _ _ => trivial⟩
 | o :: r, xs, h => by
   simp only [evl] at h
   split at h
   · rename_i x ys h1 h2
     cases h
     obtain ⟨i1, i2⟩ := EG (N := N) h2
     refine ⟨fun p hp => ?_, fun {g s a w} R hp => ?_⟩
     · simp only [rdl, h1] at hp
       rcases List.mem_append.1 hp with hp | hp
       · exact Cg h1 p hp
       · exact i1 p hp
     · simp only [rdl, h1] at hp
       exact ⟨B4 R (BC h1) fun p hm => hp p (List.mem_append_left _ hm), i2 R fun p hm => hp p (List.mem_append_right _ hm)⟩
   · cases h
def DC : List AVal → Bool
 | [] => true
 | x :: xs => x.flat && DC xs
theorem All2.vr1 {g : Gh} {l : Locs} {w : World} : ∀ {vs : List Value} {xs : List AVal}, DC xs = true → All2 (VR g l w) vs xs → All2 (VR1 g l w) vs xs
 | [], [], _, _ => trivial
 | v :: vs, x :: xs, hf, h => by
   simp only [DC, Bool.and_eq_true] at hf
   exact ⟨h.1.vr1 hf.1, All2.vr1 hf.2 h.2⟩
def caps (ks : List Nat) : List AVal := ks.map fun k => .one (.ptr k 0)
def sub (l : Locs) : Locs → Prop
 | [] => True
 | (k, some b) :: r => lkl l k = some b ∧ sub l r
 | (k, none) :: r => sub l r
def Ek (L : Locs) : Locs := L.map fun p => (p.1, none)
def CO (D : List Nat) (ids : List Nat) : Bool := ids.all fun i => D.any fun d => Nat.beq d i
def Fj (L L' : Locs) : List Nat := (Bi L').filter fun k => !(Bi L).any fun j => Nat.beq j k
def rlOf : Locs → List (Nat × Blk)
 | [] => []
 | (k, some b) :: r => (k, b) :: rlOf r
 | (_, none) :: r => rlOf r

theorem sub.get {l : Locs} : ∀ {L : Locs} {k : Nat} {b : Blk}, sub l L → lkl L k = some b → lkl l k = some b
 | [], k, b, _, h => by simp [lkl, lk] at h
 | (j, z) :: r, k, b, hL, h => by
   by_cases e : j = k
   · subst e; rw [Bb] at h; subst h; exact hL.1
   · cases z with
     | none => rw [Bs e] at h; exact sub.get (L := r) hL h
     | some z => rw [Bs e] at h; exact sub.get hL.2 h
theorem rlOf_sub {l : Locs} : ∀ {L : Locs}, (∀ p ∈ rlOf L, lkl l p.1 = some p.2) → sub l L
 | [], _ => trivial
 | (k, some b) :: r, h => ⟨h (k, b) (List.mem_cons_self ..), rlOf_sub fun p hp => h p (List.mem_cons_of_mem _ hp)⟩
 | (k, none) :: r, h => rlOf_sub (L := r) h
theorem sub_rlOf {l : Locs} : ∀ {L : Locs}, sub l L → ∀ p ∈ rlOf L, lkl l p.1 = some p.2
 | [], _, p, hp => by cases hp
 | (k, some b) :: r, h, p, hp => by
   rcases List.mem_cons.1 hp with rfl | hp
   · exact h.1
   · exact sub_rlOf h.2 p hp
 | (k, none) :: r, h, p, hp => sub_rlOf (L := r) h p hp
theorem lk_none_iff {β : Type 1} {k : Nat} : ∀ {l : List (Nat × β)}, lk l k = none ↔ k ∉ Bi l
 | [] => by simp [lk, Bi]
 | (j, x) :: r => by
   by_cases e : j = k
   · subst e; rw [Bv]; simp [Bi]
   · rw [B6 e, lk_none_iff (l := r)]; simp [Bi, Ne.symm e]
theorem lk_gone {L : Locs} {k : Nat} (h : k ∈ Bi L) : lk (Ek L) k = some none := by
 unfold Ek
 induction L with
 | nil => cases h
 | cons p r ih =>
   obtain ⟨j, b⟩ := p
   by_cases e : j = k
   · subst e; exact Bv
   · rw [List.map_cons, B6 e]
     refine ih ?_
     rcases List.mem_cons.1 h with h | h
     · exact absurd h.symm e
     · exact h
theorem keys_gone (L : Locs) : Bi (Ek L) = Bi L := by simp [Bi, Ek, Function.comp_def]
theorem lkl_call {l L L' : Locs} (k : Nat) : lkl (L' ++ (Ek L ++ l)) k = if k ∈ Bi L' then lkl L' k else if k ∈ Bi L then none else lkl l k := by
 unfold lkl
 rw [DF, DF]
 by_cases h1 : k ∈ Bi L'
 · rw [if_pos h1]
   have : lk L' k ≠ none := fun e => lk_none_iff.1 e h1
   cases hh : lk L' k with
   | none => exact absurd hh this
   | some x => rfl
 · rw [if_neg h1, lk_none_iff.2 h1]
   by_cases h2 : k ∈ Bi L
   · rw [if_pos h2, lk_gone h2]; rfl
   · rw [if_neg h2, lk_none_iff.2 (by rw [keys_gone]; exact h2)]; rfl
theorem G1 {D ids : List Nat} (h : CO D ids = true) {i : Nat} (hi : i ∈ ids) : i ∈ D := by
 have := List.all_eq_true.1 h i hi
 obtain ⟨d, h1, h2⟩ := List.any_eq_true.1 this
 rw [← Nat.eq_of_beq_eq_true h2]; exact h1
theorem OwnB.sub {g : Gh} {l L : Locs} (h : sub l L) {b : Nat} (ho : OwnB g L b) : OwnB g l b := by
 obtain ⟨k, blk, h1, h2⟩ := ho
 exact ⟨k, blk, h.get h1, h2⟩
theorem okK.sub {g : Gh} {l L : Locs} (h : sub l L) (k : Nat) : okK g l g L k :=
 ⟨fun cs hc => ⟨rfl, cs, h.get hc⟩, fun α T e xs d hc => ⟨α, T, e, xs, d, h.get hc, rfl, rfl, rfl⟩⟩
theorem MemR.sub {g : Gh} {l L : Locs} {w : World} (h : sub l L) (m : MemR g l w) : MemR g L w where
 ilt := m.ilt
 box := fun k cs hk => by
   obtain ⟨vs, t, h1, h2, h3⟩ := m.box k cs (h.get hk)
   exact ⟨vs, t, h1, h2.mono fun a b _ hr => hr.step (fun _ _ => rfl) (fun _ h => h) (Nat.le_refl _) fun k _ => okK.sub h k, h3⟩
 arr := fun k α T e xs d hk => m.arr k α T e xs d (h.get hk)
 dis := fun j k b b' hjk hj hk => m.dis j k b b' hjk (h.get hj) (h.get hk)
 fr := fun k α T e xs hk => m.fr k α T e xs (h.get hk)
 fd := fun j k α β T U e f xs ys hjk hj hk => m.fd j k α β T U e f xs ys hjk (h.get hj) (h.get hk)

open Classical in
def Gh.mix (g g' : Gh) (D : List Nat) : Gh := ⟨g'.I, fun k => if k ∈ D then g'.ρ k else g.ρ k, fun k => if k ∈ D then g'.hd k else g.hd k, fun k => if k ∈ D then g'.F k else g.F k⟩

theorem ArrR.same {g g' : Gh} {w : World} {k : Nat} {α : Type} {T : TypeId} {e : Enc α} {xs : List α} {d : Bool} (h1 : g'.ρ k = g.ρ k) (h2 : g'.hd k = g.hd k) (h3 : g'.F k = g.F k) (hI : g'.I = g.I) (h : ArrR g w k T e xs d) : ArrR g' w k T e xs d := by
 unfold ArrR at *
 rw [h1, h2, h3, hI]; exact h
theorem ArrR.move {g g' : Gh} {w w' : World} {k : Nat} {α : Type} {T : TypeId} {e : Enc α} {xs : List α} {d : Bool} (h1 : g'.ρ k = g.ρ k) (h2 : g'.hd k = g.hd k) (h3 : g'.F k = g.F k) (hm : ∀ b, g.I b → g'.I b) (hi : ∀ b, g.I b → w'.heap[b]? = w.heap[b]?) (hs : w.heap.size ≤ w'.heap.size)
   (hk : g.hd k ≠ .slice none 0 0 → w'.heap[g.ρ k]? = w.heap[g.ρ k]? ∧ ¬ g'.I (g.ρ k)) (h : ArrR g w k T e xs d) : ArrR g' w' k T e xs d := by
 rcases h with ⟨a1, a2, a3⟩ | ⟨cap, vs, bss, a1, a2, a3, a4, a5, a6, a7, a8, a9⟩
 · exact .inl ⟨a1, by rw [h2]; exact a2, fun hd => by rw [h3]; exact a3 hd⟩
 · obtain ⟨e1, e2⟩ := hk (by rw [a1]; intro e; cases e)
   refine .inr ⟨cap, vs, bss, by rw [h2, h1]; exact a1, a2, a3, by rw [h1, e1]; exact a4, a5, ?_, fun b hb => hm b (a7 b hb), by rw [h1]; exact e2, fun hd => by rw [h3]; exact a9 hd⟩
   rw [h1]
   exact a6.keep e1 (fun b hb => hi b (a7 b hb)) hs

def okL (L : Locs) : Bool := L.all fun p => p.2.isSome
theorem okL_get {L : Locs} (h : okL L = true) {k : Nat} (hk : k ∈ Bi L) : ∃ b, lkl L k = some b := by
 induction L with
 | nil => cases hk
 | cons p r ih =>
   obtain ⟨j, x⟩ := p
   simp only [okL, List.all_cons, Bool.and_eq_true] at h
   by_cases e : j = k
   · subst e
     cases x with
     | none => cases h.1
     | some b => exact ⟨b, Bb⟩
   · rw [Bs e]
     refine ih h.2 ?_
     rcases List.mem_cons.1 hk with h | h
     · exact absurd h.symm e
     · exact h
section call
variable {P : Program} {N : Nat}
theorem call_mem {g g' : Gh} {l L L' : Locs} {w w' : World} (m : MemR g l w) (hsub : sub l L) (m' : MemR g' L' w') (hs : Step (Bi L) g L w g' L' w') (hsc : CO (Bi L') L'.ids = true)
   (hLs : okL L = true) (hnew : ∀ k ∈ Fj L L', lk l k = none ∧ k ∉ l.ids) (K : List Nat) :
   MemR (g.mix g' (Bi L' ++ Bi L)) (L' ++ (Ek L ++ l)) w' ∧ Step K g l w (g.mix g' (Bi L' ++ Bi L)) (L' ++ (Ek L ++ l)) w' ∧
   (∀ b, g.I b → w'.heap[b]? = w.heap[b]?) ∧ (∀ k, k ∉ Fj L L' → okK g l (g.mix g' (Bi L' ++ Bi L)) (L' ++ (Ek L ++ l)) k) ∧
   ∀ k, k ∈ Bi L' → okK g' L' (g.mix g' (Bi L' ++ Bi L)) (L' ++ (Ek L ++ l)) k := by
 have mL := m.sub hsub
 have hi : ∀ b, g.I b → w'.heap[b]? = w.heap[b]? := fun b hb => mL.imm_keep hs hb
 have inD : ∀ {k}, k ∈ Bi L' → (g.mix g' (Bi L' ++ Bi L)).ρ k = g'.ρ k ∧ (g.mix g' (Bi L' ++ Bi L)).hd k = g'.hd k ∧ (g.mix g' (Bi L' ++ Bi L)).F k = g'.F k := fun {k} h => by
   have : k ∈ Bi L' ++ Bi L := List.mem_append_left _ h
   simp only [Gh.mix, if_pos this, and_self]
 have outD : ∀ {k}, k ∉ Bi L' → k ∉ Bi L → (g.mix g' (Bi L' ++ Bi L)).ρ k = g.ρ k ∧ (g.mix g' (Bi L' ++ Bi L)).hd k = g.hd k ∧ (g.mix g' (Bi L' ++ Bi L)).F k = g.F k := fun {k} h1 h2 => by
   have : k ∉ Bi L' ++ Bi L := fun h => by rcases List.mem_append.1 h with h | h; exact h1 h; exact h2 h
   simp only [Gh.mix, if_neg this, and_self]
 have lkIn : ∀ {k}, k ∈ Bi L' → lkl (L' ++ (Ek L ++ l)) k = lkl L' k := fun {k} h => by rw [lkl_call, if_pos h]
 have lkOut : ∀ {k}, k ∉ Bi L' → k ∉ Bi L → lkl (L' ++ (Ek L ++ l)) k = lkl l k := fun {k} h1 h2 => by rw [lkl_call, if_neg h1, if_neg h2]
 have lkGone : ∀ {k}, k ∉ Bi L' → k ∈ Bi L → lkl (L' ++ (Ek L ++ l)) k = none := fun {k} h1 h2 => by rw [lkl_call, if_neg h1, if_pos h2]
 generalize hl2 : L' ++ (Ek L ++ l) = l2 at *
 generalize hG : g.mix g' (Bi L' ++ Bi L) = G at *
 have GI : G.I = g'.I := by rw [← hG]; rfl
 have okIn : ∀ k, k ∈ Bi L' → okK g' L' G l2 k := fun k h => okK.same (lkIn h) (inD h).1 (inD h).2.1
 have okAll : ∀ k, k ∉ Fj L L' → okK g l G l2 k := fun k hk => by
   by_cases h1 : k ∈ Bi L'
   · have h2 : k ∈ Bi L := by
       refine Classical.byContradiction fun h2 => hk (List.mem_filter.2 ⟨h1, ?_⟩)
       have : (Bi L).any (fun j => Nat.beq j k) = false := List.any_eq_false.2 fun j hj hb => h2 (Nat.eq_of_beq_eq_true hb ▸ hj)
       rw [this]; rfl
     exact (okK.sub hsub k).trans ((hs.base k h2 (fun e => lk_none_iff.1 e h2)).2.1.trans (okIn k h1))
   · by_cases h2 : k ∈ Bi L
     · exact okK.gone (lkGone h1 h2)
     · exact okK.same (lkOut h1 h2) (outD h1 h2).1 (outD h1 h2).2.1
 have okIds : ∀ k, k ∈ l.ids → okK g l G l2 k := fun k hk => okAll k fun h => (hnew k h).2 hk
 have out : ∀ {k b}, k ∉ Bi L' → k ∉ Bi L → lkl l k = some b → liv g k b → w'.heap[g.ρ k]? = w.heap[g.ρ k]? ∧ ¬ g'.I (g.ρ k) := fun {k b} h1 h2 hb hl => by
   have hne : ∀ j bj, lkl L j = some bj → liv g j bj → g.ρ k ≠ g.ρ j := fun j bj hj hlj => m.dis k j b bj (fun e => h2 (e ▸ Ey hj)) hb (hsub.get hj) hl hlj
   refine ⟨hs.keep _ (m.lt hb hl) hne, fun hI => ?_⟩
   rcases hs.imm' _ hI with h3 | h3 | ⟨j, bj, hj, ⟨hlj, e⟩ | ⟨α, T, e, xs, rfl, hF⟩⟩
   · exact m.notI hb hl h3
   · exact absurd (m.lt hb hl) (by omega)
   · exact hne j bj hj hlj e
   · exact m.notI hb hl ((mL.fr j α T e xs hj).2 _ hF).1
 have livIn : ∀ {k b}, k ∈ Bi L' → liv G k b → liv g' k b := fun {k b} h hl => by
   cases b with
   | box cs => trivial
   | arr T e xs d => exact fun e => hl (by rw [(inD h).2.1]; exact e)
 have livOut : ∀ {k b}, k ∉ Bi L' → k ∉ Bi L → liv G k b → liv g k b := fun {k b} h1 h2 hl => by
   cases b with
   | box cs => trivial
   | arr T e xs d => exact fun e => hl (by rw [(outD h1 h2).2.1]; exact e)
 have three : ∀ {k b}, lkl l2 k = some b → (k ∈ Bi L' ∧ lkl L' k = some b) ∨ (k ∉ Bi L' ∧ k ∉ Bi L ∧ lkl l k = some b) := fun {k b} h => by
   by_cases h1 : k ∈ Bi L'
   · exact .inl ⟨h1, by rw [← lkIn h1]; exact h⟩
   · by_cases h2 : k ∈ Bi L
     · rw [lkGone h1 h2] at h; cases h
     · exact .inr ⟨h1, h2, by rw [← lkOut h1 h2]; exact h⟩
 have cross : ∀ {j k b b'}, lkl L' j = some b → liv g' j b → k ∉ Bi L → lkl l k = some b' → liv g k b' → g'.ρ j ≠ g.ρ k := fun {j k b b'} hj lj h2 hk lk e => by
   rcases hs.own _ (OwnB.of_live hj lj) with ⟨i, bi, h3, ⟨l3, e3⟩ | ⟨α, T, e', xs, rfl, hF⟩⟩ | h3
   · exact m.dis i k bi b' (fun e => h2 (e ▸ Ey h3)) (hsub.get h3) hk l3 lk (e3.symm.trans e)
   · exact m.notI hk lk (e ▸ ((mL.fr i α T e' xs h3).2 _ hF).1)
   · have := m.lt hk lk; omega
 have crossF : ∀ {j k : Nat} {α β : Type} {T U : TypeId} {e : Enc α} {f : Enc β} {xs : List α} {ys : List β}, lkl L' j = some (.arr T e xs true) → k ∉ Bi L → lkl l k = some (.arr U f ys true) → ∀ b ∈ g'.F j, b ∉ g.F k := fun {j k α β T U e f xs ys} hj h2 hk b hb hb' => by
   have hIb := ((m.fr k β U f ys hk).2 b hb').1
   rcases hs.own b ⟨j, _, hj, .inr ⟨α, T, e, xs, rfl, hb⟩⟩ with ⟨i, bi, h3, ⟨l3, e3⟩ | ⟨γ, V, e', zs, rfl, hF⟩⟩ | h3
   · exact mL.notI h3 l3 (e3 ▸ hIb)
   · exact m.fd i k γ β V U e' f zs ys (fun e => h2 (e ▸ Ey h3)) (hsub.get h3) hk b hF hb'
   · have := m.ilt b hIb; omega
 have hmem : MemR G l2 w' := by
   refine ⟨fun b hb => m'.ilt b (by rw [← GI]; exact hb), fun k cs hk => ?_, fun k α T e xs d hk => ?_, fun i j b b' hij h1 h2 l1 l2' => ?_, fun k α T e xs hk => ?_, fun i j α β T U e f xs ys hij h1 h2 b hb hb' => ?_⟩
   · rcases three hk with ⟨h1, h2⟩ | ⟨h1, h2, h3⟩
     · obtain ⟨vs, t, a1, a2, a3⟩ := m'.box k cs h2
       refine ⟨vs, t, by rw [(inD h1).1]; exact a1, a2.mono fun a x hx hr => hr.step (fun _ _ => rfl) (fun _ h => by rw [GI]; exact h) (Nat.le_refl _) fun i hi => okIn i (G1 hsc (Locs.ids_mem h2 hx hi)), by rw [(inD h1).1, GI]; exact a3⟩
     · obtain ⟨vs, t, a1, a2, a3⟩ := m.box k cs h3
       obtain ⟨u1, u2⟩ := out h1 h2 h3 trivial
       exact ⟨vs, t, by rw [(outD h1 h2).1, u1]; exact a1, a2.mono fun a x hx hr => hr.step hi (fun _ h => by rw [GI]; exact hs.imm _ h) hs.size fun i hi => okIds i (Locs.ids_mem h3 hx hi), by rw [(outD h1 h2).1, GI]; exact u2⟩
   · rcases three hk with ⟨h1, h2⟩ | ⟨h1, h2, h3⟩
     · exact (m'.arr k α T e xs d h2).same (inD h1).1 (inD h1).2.1 (inD h1).2.2 GI
     · exact (m.arr k α T e xs d h3).move (outD h1 h2).1 (outD h1 h2).2.1 (outD h1 h2).2.2 (fun _ h => by rw [GI]; exact hs.imm _ h) hi hs.size (fun hl => by rw [GI]; exact out h1 h2 h3 hl)
   · rcases three h1 with ⟨a1, a2⟩ | ⟨a1, a2, a3⟩
     · rcases three h2 with ⟨c1, c2⟩ | ⟨c1, c2, c3⟩
       · rw [(inD a1).1, (inD c1).1]; exact m'.dis i j b b' hij a2 c2 (livIn a1 l1) (livIn c1 l2')
       · rw [(inD a1).1, (outD c1 c2).1]; exact cross a2 (livIn a1 l1) c2 c3 (livOut c1 c2 l2')
     · rcases three h2 with ⟨c1, c2⟩ | ⟨c1, c2, c3⟩
       · rw [(outD a1 a2).1, (inD c1).1]; exact Ne.symm (cross c2 (livIn c1 l2') a2 a3 (livOut a1 a2 l1))
       · rw [(outD a1 a2).1, (outD c1 c2).1]; exact m.dis i j b b' hij a3 c3 (livOut a1 a2 l1) (livOut c1 c2 l2')
   · rcases three hk with ⟨h1, h2⟩ | ⟨h1, h2, h3⟩
     · rw [(inD h1).2.2, GI]; exact m'.fr k α T e xs h2
     · rw [(outD h1 h2).2.2, GI]
       obtain ⟨a1, a2⟩ := m.fr k α T e xs h3
       exact ⟨a1, fun b hb => by
         obtain ⟨a3, c, t, a4⟩ := a2 b hb
         exact ⟨hs.imm b a3, c, t, (hi b a3).trans a4⟩⟩
   · rcases three h1 with ⟨a1, a2⟩ | ⟨a1, a2, a3⟩
     · rw [(inD a1).2.2] at hb
       rcases three h2 with ⟨c1, c2⟩ | ⟨c1, c2, c3⟩
       · rw [(inD c1).2.2] at hb'; exact m'.fd i j α β T U e f xs ys hij a2 c2 b hb hb'
       · rw [(outD c1 c2).2.2] at hb'; exact crossF a2 c2 c3 b hb hb'
     · rw [(outD a1 a2).2.2] at hb
       rcases three h2 with ⟨c1, c2⟩ | ⟨c1, c2, c3⟩
       · rw [(inD c1).2.2] at hb'; exact crossF c2 a2 a3 b hb' hb
       · rw [(outD c1 c2).2.2] at hb'; exact m.fd i j α β T U e f xs ys hij a3 c3 b hb hb'
 have key2 : ∀ k, lk l k ≠ none → lk l2 k ≠ none := fun k hk => by
   rw [← hl2, DF, DF]
   cases lk L' k with
   | some x => simp
   | none =>
     cases lk (Ek L) k with
     | some x => simp
     | none => simpa using hk
 refine ⟨hmem, ⟨hs.os, hs.tape, hs.output, hs.size, fun b hb hn => hs.keep b hb fun k blk hk hl => hn k blk (hsub.get hk) hl, fun b hb => by rw [GI]; exact hs.imm b hb, fun b hb => ?_, fun b hb => ?_, fun k hkK hkn => ⟨key2 k hkn, okAll k fun h => hkn (hnew k h).1, fun cs hc => ?_⟩⟩, hi, okAll, okIn⟩
 · rw [GI] at hb
   rcases hs.imm' b hb with h | h | h
   · exact .inl h
   · exact .inr (.inl h)
   · exact .inr (.inr (h.sub hsub))
 · obtain ⟨k, blk, hk, h⟩ := hb
   rcases three hk with ⟨h1, h2⟩ | ⟨h1, h2, h3⟩
   · have : OwnB g' L' b := ⟨k, blk, h2, by
       rcases h with ⟨hl, e⟩ | ⟨α, T, e, xs, e1, hF⟩
       · exact .inl ⟨livIn h1 hl, by rw [← (inD h1).1]; exact e⟩
       · exact .inr ⟨α, T, e, xs, e1, by rw [← (inD h1).2.2]; exact hF⟩⟩
     rcases hs.own b this with h3 | h3
     · exact .inl (h3.sub hsub)
     · exact .inr h3
   · left
     refine ⟨k, blk, h3, ?_⟩
     rcases h with ⟨hl, e⟩ | ⟨α, T, e, xs, e1, hF⟩
     · exact .inl ⟨livOut h1 h2 hl, by rw [← (outD h1 h2).1]; exact e⟩
     · exact .inr ⟨α, T, e, xs, e1, by rw [← (outD h1 h2).2.2]; exact hF⟩
 · by_cases h1 : k ∈ Bi L
   · obtain ⟨b, hb⟩ := okL_get hLs h1
     have hbl := hsub.get hb
     rw [hc] at hbl; cases hbl
     obtain ⟨cs', h3⟩ := (hs.base k h1 (fun e => lk_none_iff.1 e h1)).2.2 cs hb
     exact ⟨cs', by rw [lkIn (Ey h3)]; exact h3⟩
   · have h2 : k ∉ Bi L' := fun h => by
       have : k ∈ Fj L L' := List.mem_filter.2 ⟨h, by
         have : (Bi L).any (fun j => Nat.beq j k) = false := List.any_eq_false.2 fun j hj hb => h1 (Nat.eq_of_beq_eq_true hb ▸ hj)
         rw [this]; rfl⟩
       exact hkn (hnew k this).1
     exact ⟨cs, by rw [lkOut h2 h1]; exact hc⟩

theorem run_enter {o : Oper} {a : Act} {w : World} {fo : Operand} {f : FuncId} {cap : Array Value} {ars : Array Operand} {ats : Array TypeId} (hop : o.op = .call { callee := .value fo, args := ars, argTypes := ats }) (hf : He P f) (hv : a.eval fo = .func (.func f) #[] cap) :
   (execOp a.eval o).run P w = .ok (.enter f ((ars.map a.eval) ++ cap)) w := by
 obtain ⟨fn, c, h1, h2, h3⟩ := hf
 have h4 : fn.body.isNone = false := by rw [h2]; rfl
 unfold execOp
 simp only [hop, resolve, hv, Deferred.ofValue, Sem.run_bind, Sem.run_pure, Result.andThen_ok, invoke, callFunc, program, Sem.run, h1, h3, h4, Array.empty_append]
 simp

theorem OpOK.call {o : Oper} {d : Nat} {fo : Operand} {f : FuncId} {ks : List Nat} {ars : Array Operand} {ats : Array TypeId} {t0 : DV} {xs ys : List AVal} {L L' : Locs} {res : AVal} (hop : o.op = .call { callee := .value fo, args := ars, argTypes := ats }) (hd : o.dst = some d) (hN : d < N)
   (hev : evo t0 fo = some (.one (.clo f ks))) (hxs : evl t0 ars.toList = some xs) (hfl : DC xs = true) (hac : AC P f ys L res L') (hle : AllV (xs ++ caps ks) ys) (hks : ∀ k ∈ ks, ∃ cs, (k, some (Blk.box cs)) ∈ L)
   (hLs : okL L = true) (hsc : CO (Bi L') L'.ids = true) (hsr : CO (Bi L') res.ids = true) : OpOK P N o ⟨rdo fo (.one (.clo f ks)) ++ rdl t0 ars.toList, rlOf L, [(d, res)], L' ++ Ek L, Fj L L'⟩ := by
 intro K g s a w hp R
 obtain ⟨p1, p2, p3⟩ := hp
 have hsub : sub s.l L := rlOf_sub p2
 have q1 : ∀ p ∈ rdo fo (.one (.clo f ks)), lk s.t p.1 = some p.2 := fun p hm => p1 p (List.mem_append_left _ hm)
 have q2 : ∀ p ∈ rdl t0 ars.toList, lk s.t p.1 = some p.2 := fun p hm => p1 p (List.mem_append_right _ hm)
 have hfv : VR g s.l w (a.eval fo) (.one (.clo f ks)) := B4 R (BC hev) q1
 have hkl : ∀ k ∈ ks, ∃ cs, lkl s.l k = some (.box cs) := fun k hk => by
   obtain ⟨cs, h1⟩ := hks k hk
   have h2 := p2
   have : ∀ {M : Locs}, (k, some (Blk.box cs)) ∈ M → (k, Blk.box cs) ∈ rlOf M := by
     intro M
     induction M with
     | nil => intro h; cases h
     | cons p r ih =>
       obtain ⟨j, x⟩ := p
       intro h0
       rcases List.mem_cons.1 h0 with h | h
       · cases h; exact List.mem_cons_self ..
       · clear h0
         cases x with
         | none => exact ih h
         | some b => exact List.mem_cons_of_mem _ (ih h)
   exact ⟨cs, p2 _ (this h1)⟩
 have hfe : a.eval fo = .func (.func f) #[] (ks.map fun k => Value.pointer (some ⟨g.ρ k, 0, none⟩)).toArray := hfv hkl
 have hargs : All2 (VR1 g s.l w) ((ars.map a.eval) ++ (ks.map fun k => Value.pointer (some ⟨g.ρ k, 0, none⟩)).toArray).toList ys := by
   refine hle.all2 ?_
   rw [Array.toList_append, Array.toList_map]
   refine (((EG hxs).2 R q2).vr1 hfl).app ?_
   show All2 (VR1 g s.l w) (ks.map _) (caps ks)
   clear hkl hle hks hfv hev q1 p1 p2 p3 hac hfe hop
   induction ks with
   | nil => trivial
   | cons k ks ih => exact ⟨fun cs _ => rfl, ih⟩
 unfold Oper.wp
 rw [run_enter hop hac.fn hfe, Oper.upon_enter]
 have mL := R.mem.sub hsub
 refine (hac.run g w _ mL (hargs.mono fun v x _ hr => VR1.step (fun _ _ => rfl) (fun _ h => h) (Nat.le_refl _) (fun k _ => okK.sub hsub k) hr)).mono ?_
 rintro e w' ⟨v, g', rfl, m', hv, hs⟩
 have hnw : ∀ k ∈ Fj L L', lk s.l k = none ∧ k ∉ s.l.ids := fun k hk => ⟨(p3 k hk).1, fun h => (p3 k hk).2 (List.mem_append_right _ h)⟩
 obtain ⟨c1, c2, c3, c4, c5⟩ := call_mem R.mem hsub m' hs hsc hLs hnw K
 have hmm : ∀ b, g.I b → (g.mix g' (Bi L' ++ Bi L)).I b := fun b hb => hs.imm b hb
 show ∃ g2, Rep N g2 ⟨[(d, res)] ++ s.t, (L' ++ Ek L) ++ s.l⟩ (a.put o.dst v) w' ∧ Step K g s.l w g2 ((L' ++ Ek L) ++ s.l) w'
 rw [List.append_assoc, hd]
 exact ⟨_, R.next hN c3 hmm hs.size (fun k hk => c4 k fun h => (p3 k h).2 hk) (VR.step (g := g') (l := L') (fun _ _ => rfl) (fun b hb => hb) (Nat.le_refl _) (fun k hk => c5 k (G1 hsr hk)) hv) c1, c2⟩
end call
end Go.Proofs.YtkemjhlbokldhaaGreat

namespace Go.Proofs.YtkemjhlbokldhaaGreat
open Go.RowKit
set_option linter.unusedVariables false

def CFR (w : World) (v : Value) : Cell → List Nat → Prop
 | .c u, b => v = u ∧ wfV u ∧ b = []
 | .sl e xs, b => ∃ a n cap, v = .slice a n cap ∧ SliceRep e w a n cap xs b
 | .rx e x vs b j, b' => (vs[j]? = some v ∧ v.oneCell' = true) ∧ e.rep w vs x b ∧ b' = b
 | .en e x, b => v.oneCell' = true ∧ e.rep w [v] x b
 | _, _ => False
def FR (w : World) : List Value → List Cell → List Nat → Prop
 | [], [], b => b = []
 | v :: vs, c :: cs, b => ∃ b1 b2, b = b1 ++ b2 ∧ CFR w v c b1 ∧ FR w vs cs b2
 | _, _, _ => False
class CellsOf {α : Type} (e : Enc α) (f : outParam (α → List Cell)) : Prop where
 iff : ∀ {w : World} {vs : List Value} {x : α} {b : List Nat}, e.rep w vs x b ↔ FR w vs (f x) b
theorem FR.app {w : World} : ∀ {vs : List Value} {cs ds : List Cell} {b : List Nat}, FR w vs (cs ++ ds) b ↔ ∃ v1 v2 b1 b2, vs = v1 ++ v2 ∧ b = b1 ++ b2 ∧ FR w v1 cs b1 ∧ FR w v2 ds b2
 | vs, [], ds, b => by
   constructor
   · exact fun h => ⟨[], vs, [], b, rfl, rfl, rfl, h⟩
   · rintro ⟨v1, v2, b1, b2, h1, h2, h3, h4⟩
     cases v1 with
     | nil => simp only [FR] at h3; subst h3; simp at h1 h2; subst h1; subst h2; exact h4
     | cons _ _ => cases h3
 | [], c :: cs, ds, b => by
   constructor
   · intro h; cases h
   · rintro ⟨v1, v2, b1, b2, h1, h2, h3, h4⟩
     cases v1 with
     | nil => cases h3
     | cons _ _ => cases h1
 | v :: vs, c :: cs, ds, b => by
   constructor
   · rintro ⟨b1, b2, rfl, h1, h2⟩
     obtain ⟨v1, v2, b3, b4, rfl, rfl, h3, h4⟩ := FR.app.1 h2
     exact ⟨v :: v1, v2, b1 ++ b3, b4, rfl, by simp, ⟨b1, b3, rfl, h1, h3⟩, h4⟩
   · rintro ⟨v1, v2, b1, b2, h1, rfl, h3, h4⟩
     cases v1 with
     | nil => cases h3
     | cons u v1 =>
       simp only [List.cons_append, List.cons.injEq] at h1
       obtain ⟨rfl, rfl⟩ := h1
       obtain ⟨b3, b5, rfl, h5, h6⟩ := h3
       exact ⟨b3, b5 ++ b2, by simp, h5, FR.app.2 ⟨v1, v2, b5, b2, rfl, rfl, h6, h4⟩⟩
instance cellsInt {k : IntKind} : CellsOf (intE k) (fun n => [.c (.int k n)]) := ⟨fun {w vs x b} => by
 constructor
 · rintro ⟨rfl, h1, rfl⟩; exact ⟨[], [], rfl, ⟨rfl, h1, rfl⟩, rfl⟩
 · intro h
   match vs, h with
   | [v], ⟨b1, b2, hb, ⟨h1, h2, h3⟩, h4⟩ => simp only [FR] at h4; subst h3; subst h4; subst h1; exact ⟨rfl, h2, hb⟩⟩
instance cellsStr : CellsOf DM (fun s => [.c (.string s)]) := ⟨fun {w vs x b} => by
 constructor
 · rintro ⟨rfl, h1, rfl⟩; exact ⟨[], [], rfl, ⟨rfl, h1, rfl⟩, rfl⟩
 · intro h
   match vs, h with
   | [v], ⟨b1, b2, hb, ⟨h1, h2, h3⟩, h4⟩ => simp only [FR] at h4; subst h3; subst h4; subst h1; exact ⟨rfl, h2, hb⟩⟩
instance cellsUnit : CellsOf Gc (fun _ => []) := ⟨fun {w vs x b} => by
 constructor
 · rintro ⟨rfl, rfl⟩; rfl
 · intro h
   match vs, h with
   | [], h => exact ⟨rfl, h⟩⟩
instance cellsSlice {α : Type} {e : Enc α} : CellsOf (Fh e) (fun xs => [.sl e xs]) := ⟨fun {w vs x b} => by
 constructor
 · rintro ⟨a, n, cap, rfl, h⟩; exact ⟨b, [], by simp, ⟨a, n, cap, rfl, h⟩, rfl⟩
 · intro h
   match vs, h with
   | [v], ⟨b1, b2, hb, ⟨a, n, cap, h1, h2⟩, h4⟩ => simp only [FR] at h4; subst h4; subst h1; simp at hb; subst hb; exact ⟨a, n, cap, rfl, h2⟩⟩
instance cellsPair {α β : Type} {e : Enc α} {f : Enc β} {F : α → List Cell} {G : β → List Cell} [he : CellsOf e F] [hf : CellsOf f G] : CellsOf (C3 e f) (fun x => F x.1 ++ G x.2) := ⟨fun {w vs x b} => by
 rw [FR.app]
 constructor
 · rintro ⟨c1, c2, b1, b2, rfl, rfl, h1, h2⟩; exact ⟨c1, c2, b1, b2, rfl, rfl, he.iff.1 h1, hf.iff.1 h2⟩
 · rintro ⟨c1, c2, b1, b2, rfl, rfl, h1, h2⟩; exact ⟨c1, c2, b1, b2, rfl, rfl, he.iff.2 h1, hf.iff.2 h2⟩⟩
theorem GY {α β : Type} {e : Enc α} {F : α → List Cell} [he : CellsOf e F] (f : β → α) : CellsOf (isoE e f) (fun x => F (f x)) := ⟨fun {w vs x b} => he.iff⟩

theorem FR.all2 {g : Gh} {l : Locs} {w : World} : ∀ {vs : List Value} {cs : List Cell} {b : List Nat}, FR w vs cs b → (∀ i ∈ b, g.I i) → All2 (CellR g l w) vs cs
 | [], [], b, _, _ => trivial
 | v :: vs, c :: cs, b, h, hI => by
   obtain ⟨b1, b2, rfl, h1, h2⟩ := h
   refine ⟨?_, FR.all2 h2 fun i hi => hI i (List.mem_append_right _ hi)⟩
   cases c with
   | c u => exact ⟨h1.1, h1.2.1⟩
   | sl e xs =>
     obtain ⟨a, n, cap, h3, h4⟩ := h1
     exact ⟨a, n, cap, b1, h3, h4, fun i hi => hI i (List.mem_append_left _ hi)⟩
   | rx e x vs b j =>
     obtain ⟨h3, h4, rfl⟩ := h1
     exact ⟨h3, h4, fun i hi => hI i (List.mem_append_left _ hi)⟩
   | en e x => exact ⟨b1, h1.1, h1.2, fun i hi => hI i (List.mem_append_left _ hi)⟩
   | _ => exact h1.elim
def Fk (P : Program) (T : TypeId) : Option (Option Nat) :=
 match P.underlying T, P.info? T with
 | some (.struct _), some i => some (some i.size)
 | some (.array _ _), some i => some (some i.size)
 | some _, some i => if i.size = 1 then some none else none
 | _, _ => none
theorem Fm {P : Program} {T : TypeId} (hk : Fk P T = some none) {w : World} {a : Addr} {v : Value} (hc : w.cell? a = some v) : (loadVar T a).run P w = .ok v w := by
 unfold Fk at hk
 split at hk <;> try cases hk
 rename_i d i h1 h2 n1 n2
 have : (isAgg T).run P w = .ok false w := by
   simp only [isAgg, Sem.run_bind, run_underlying n1, Result.andThen_ok]
   cases d <;> first | rfl | exact absurd rfl (h1 _) | exact absurd rfl (h2 _ _)
 simp only [loadVar, Sem.run_bind, this, Result.andThen_ok, Bool.false_eq_true, if_false]
 simp [load, Sem.run, hc]
theorem Gs {P : Program} {T : TypeId} {n : Nat} (hk : Fk P T = some (some n)) {w : World} {a : Addr} {vs : List Value} (hl : vs.length = n) (hc : ∀ j v, vs[j]? = some v → w.cell? (a.add j) = some v) : (loadVar T a).run P w = .ok (.agg vs.toArray) w := by
 have h0 : (isAgg T).run P w = .ok true w ∧ (sizeOf T).run P w = .ok n w := by
   unfold Fk at hk
   split at hk <;> try (first | cases hk | (split at hk <;> cases hk))
   all_goals
     rename_i i h1 h2
     refine ⟨?_, ?_⟩
     · simp only [isAgg, Sem.run_bind, run_underlying h1, Result.andThen_ok]; rfl
     · simp [sizeOf, typeInfo, h2]
 simp only [loadVar, Sem.run_bind, h0.1, h0.2, Result.andThen_ok, if_true]
 rw [← hl, run_loadCells_list w a vs hc]
 rfl
def Jj : List Cell → Nat → Option Cell
 | [], _ => none
 | c :: _, 0 => some c
 | _ :: r, n + 1 => Jj r n
def drC : Nat → List Cell → Option (List Cell)
 | 0, l => some l
 | _ + 1, [] => none
 | n + 1, _ :: r => drC n r
def tkC : Nat → List Cell → Option (List Cell)
 | 0, _ => some []
 | _ + 1, [] => none
 | n + 1, c :: r => match tkC n r with | some l => some (c :: l) | none => none
theorem E9 : ∀ {l : List Cell} {n : Nat} {x : Cell}, Jj l n = some x → l[n]? = some x
 | [], _, _, h => by cases h
 | c :: _, 0, x, h => h
 | _ :: r, n + 1, x, h => by simpa using E9 (l := r) h
theorem drC_eq : ∀ {n : Nat} {l m : List Cell}, drC n l = some m → m = l.drop n
 | 0, l, m, h => by cases h; rfl
 | n + 1, [], m, h => by cases h
 | n + 1, _ :: r, m, h => by simpa using drC_eq (l := r) h
theorem tkC_eq : ∀ {n : Nat} {l m : List Cell}, tkC n l = some m → m = l.take n ∧ m.length = n
 | 0, l, m, h => by cases h; exact ⟨rfl, rfl⟩
 | n + 1, [], m, h => by cases h
 | n + 1, c :: r, m, h => by
   simp only [tkC] at h
   split at h
   · rename_i l hl
     cases h
     obtain ⟨h1, h2⟩ := tkC_eq hl
     exact ⟨by rw [h1]; rfl, by simp [h2]⟩
   · cases h
theorem Gl {b o j : Nat} : (⟨b, o, none⟩ : Addr).add j = ⟨b, o + j, none⟩ := by
 unfold Addr.add; split <;> simp_all

theorem DJ {a b : Nat} (h : Nat.blt a b = true) : a < b := Nat.le_of_ble_eq_true h
section ops
variable {P : Program} {N : Nat} {s : St} {d : Nat} {ty : TypeId} {pos : String} {after : Array Edge} {gd : Option (Nat × Bool)}

theorem A0 {x : Operand} {X : AVal} (hN : Nat.blt d N = true) (h : evo s.t x = some X) : Stp P N ⟨some d, .move x, ty, pos, after, gd⟩ s ⟨(d, X) :: s.t, s.l⟩ ⟨rdo x X, [], [(d, X)], [], []⟩ :=
 ⟨OpOK.pure rfl (DJ hN) fun g s a w ht hl r => ⟨a.eval x, by simp [execOp], B4 r (BC h) ht⟩, ⟨Cg h, by simp, by simp⟩, rfl⟩
theorem A1 {x : Operand} {X : AVal} (hN : Nat.blt d N = true) (h : evo s.t x = some X) : Stp P N ⟨some d, .assign x, ty, pos, after, gd⟩ s ⟨(d, X) :: s.t, s.l⟩ ⟨rdo x X, [], [(d, X)], [], []⟩ :=
 ⟨OpOK.pure rfl (DJ hN) fun g s a w ht hl r => ⟨a.eval x, by simp [execOp], B4 r (BC h) ht⟩, ⟨Cg h, by simp, by simp⟩, rfl⟩

theorem Stp.pure {o : Oper} {rt : List (Nat × AVal)} {rl : List (Nat × Blk)} {X : AVal} (hd : o.dst = some d) (hN : Nat.blt d N = true) (h1 : ∀ p ∈ rt, lk s.t p.1 = some p.2) (h2 : ∀ p ∈ rl, lkl s.l p.1 = some p.2)
   (h : ∀ (g : Gh) (s' : St) (a : Act) (w : World), (∀ p ∈ rt, lk s'.t p.1 = some p.2) → (∀ p ∈ rl, lkl s'.l p.1 = some p.2) → Rep N g s' a w → ∃ v, (execOp a.eval o).run P w = .ok (.value v) w ∧ VR g s'.l w v X) :
   Stp P N o s ⟨(d, X) :: s.t, s.l⟩ ⟨rt, rl, [(d, X)], [], []⟩ :=
 ⟨OpOK.pure hd (DJ hN) h, ⟨h1, h2, by simp⟩, rfl⟩

theorem box_load {g : Gh} {l : Locs} {w : World} (m : MemR g l w) {k : Nat} {cs : List Cell} (hk : lkl l k = some (.box cs)) {n : Nat} {x : Cell} (hx : cs[n]? = some x) : ∃ v, w.cell? ⟨g.ρ k, n, none⟩ = some v ∧ CellR g l w v x := by
 obtain ⟨vs, t, h1, h2, _⟩ := m.box k cs hk
 obtain ⟨v, h3, h4⟩ := h2.get hx
 exact ⟨v, by rw [Cu h1]; simpa using h3, h4⟩
theorem box_loads {g : Gh} {l : Locs} {w : World} (m : MemR g l w) {k : Nat} {cs : List Cell} (hk : lkl l k = some (.box cs)) {off n : Nat} {xs : List Cell} (hx : xs = (cs.drop off).take n) (hl : xs.length = n) :
   ∃ vs : List Value, vs.length = n ∧ (∀ j v, vs[j]? = some v → w.cell? ((⟨g.ρ k, off, none⟩ : Addr).add j) = some v) ∧ All2 (CellR g l w) vs xs := by
 obtain ⟨us, t, h1, h2, _⟩ := m.box k cs hk
 have h3 := (h2.drop off).take n
 rw [← hx] at h3
 refine ⟨_, by rw [h3.len]; exact hl, fun j v hj => ?_, h3⟩
 rw [Gl, Cu h1]
 rw [List.getElem?_take] at hj
 split at hj
 · simpa using hj
 · cases hj
theorem A4 {T : TypeId} {x : Operand} {k off : Nat} {cs : List Cell} {y : Cell} (hN : Nat.blt d N = true) (h : evo s.t x = some (.one (.ptr k off))) (hl : lkl s.l k = some (.box cs)) (hT : Fk P T = some none) (hy : Jj cs off = some y) :
   Stp P N ⟨some d, .load T x, ty, pos, after, gd⟩ s ⟨(d, .one y) :: s.t, s.l⟩ ⟨rdo x (.one (.ptr k off)), [(k, .box cs)], [(d, .one y)], [], []⟩ :=
 Stp.pure rfl hN (Cg h) (by simpa using hl) fun g s' a w ht hl' r => by
   have hk : lkl s'.l k = some (.box cs) := hl' (k, .box cs) (by simp)
   have hv : a.eval x = .pointer (some ⟨g.ρ k, off, none⟩) := B4 r (BC h) ht cs hk
   obtain ⟨v, h1, h2⟩ := box_load r.mem hk (E9 hy)
   exact ⟨v, by simp only [execOp, Instr.loadAt, hv, Instr.sureAddr, Sem.run_bind, Sem.run_pure, Result.andThen_ok, Fm hT h1], h2⟩
theorem x_loadN {T : TypeId} {x : Operand} {k off n : Nat} {cs cs1 ys : List Cell} (hN : Nat.blt d N = true) (h : evo s.t x = some (.one (.ptr k off))) (hl : lkl s.l k = some (.box cs)) (hT : Fk P T = some (some n)) (hd : drC off cs = some cs1) (hy : tkC n cs1 = some ys) :
   Stp P N ⟨some d, .load T x, ty, pos, after, gd⟩ s ⟨(d, .agg ys) :: s.t, s.l⟩ ⟨rdo x (.one (.ptr k off)), [(k, .box cs)], [(d, .agg ys)], [], []⟩ :=
 Stp.pure rfl hN (Cg h) (by simpa using hl) fun g s' a w ht hl' r => by
   have hk : lkl s'.l k = some (.box cs) := hl' (k, .box cs) (by simp)
   have hv : a.eval x = .pointer (some ⟨g.ρ k, off, none⟩) := B4 r (BC h) ht cs hk
   obtain ⟨vs, h1, h2, h3⟩ := box_loads r.mem hk (by rw [(tkC_eq hy).1, drC_eq hd]) (tkC_eq hy).2
   exact ⟨_, by simp only [execOp, Instr.loadAt, hv, Instr.sureAddr, Sem.run_bind, Sem.run_pure, Result.andThen_ok, Gs hT h1 h2], ⟨vs, rfl, h3⟩⟩

theorem Au {T : TypeId} {x : Operand} {k off : Nat} (n : Nat) {cs cs1 ys : List Cell} (hN : Nat.blt d N = true) (h : evo s.t x = some (.one (.ptr k off))) (hl : lkl s.l k = some (.box cs)) (hT : Fk P T = some (some n)) (hd : drC off cs = some cs1) (hy : tkC n cs1 = some ys) : Stp P N ⟨some d, .load T x, ty, pos, after, gd⟩ s ⟨(d, .agg ys) :: s.t, s.l⟩ ⟨rdo x (.one (.ptr k off)), [(k, .box cs)], [(d, .agg ys)], [], []⟩ := x_loadN (n := n) hN h hl hT hd hy
theorem ep_cells {α : Type} {e : Enc α} {f : α → List Cell} [hc : CellsOf e f] {g : Gh} {l : Locs} {w : World} {x : α} {off : Nat} {v : Value} (h : CellR g l w v (.ep e x off)) :
   ∃ (gb o : Nat) (cs : List Value), v = .pointer (some ⟨gb, o + off, none⟩) ∧ All2 (CellR g l w) cs (f x) ∧ ∀ j u, cs[j]? = some u → w.cell? ⟨gb, o + j, none⟩ = some u := by
 obtain ⟨gb, o, cs, b, h1, h2, h3, h4, h5⟩ := h
 exact ⟨gb, o, cs, h1, (hc.iff.1 h3).all2 h4, h5⟩
theorem BW {α : Type} {e : Enc α} {f : α → List Cell} [hc : CellsOf e f] {T : TypeId} {x : Operand} {z : α} {off : Nat} {y : Cell} (hN : Nat.blt d N = true) (h : evo s.t x = some (.one (.ep e z off))) (hT : Fk P T = some none) (hy : Jj (f z) off = some y) :
   Stp P N ⟨some d, .load T x, ty, pos, after, gd⟩ s ⟨(d, .one y) :: s.t, s.l⟩ ⟨rdo x (.one (.ep e z off)), [], [(d, .one y)], [], []⟩ :=
 Stp.pure rfl hN (Cg h) (by simp) fun g s' a w ht hl' r => by
   obtain ⟨gb, o, cs, h1, h2, h3⟩ := ep_cells (B4 r (BC h) ht)
   obtain ⟨v, h4, h5⟩ := h2.get (E9 hy)
   exact ⟨v, by simp only [execOp, Instr.loadAt, h1, Instr.sureAddr, Sem.run_bind, Sem.run_pure, Result.andThen_ok, Fm hT (h3 off v h4)], h5⟩
theorem Co {α : Type} {e : Enc α} {f : α → List Cell} [hc : CellsOf e f] {T : TypeId} {x : Operand} {z : α} {n : Nat} (hN : Nat.blt d N = true) (h : evo s.t x = some (.one (.ep e z 0))) (hT : Fk P T = some (some n)) (hn : (f z).length = n) :
   Stp P N ⟨some d, .load T x, ty, pos, after, gd⟩ s ⟨(d, .agg (f z)) :: s.t, s.l⟩ ⟨rdo x (.one (.ep e z 0)), [], [(d, .agg (f z))], [], []⟩ :=
 Stp.pure rfl hN (Cg h) (by simp) fun g s' a w ht hl' r => by
   obtain ⟨gb, o, cs, h1, h2, h3⟩ := ep_cells (B4 r (BC h) ht)
   have hrun := Gs hT (w := w) (a := ⟨gb, o + 0, none⟩) (h2.len.trans hn) (fun j v hj => by rw [Gl]; exact h3 j v hj)
   exact ⟨_, by simp only [execOp, Instr.loadAt, h1, Instr.sureAddr, Sem.run_bind, Sem.run_pure, Result.andThen_ok, hrun], ⟨_, rfl, h2⟩⟩

def IJ (P : Program) (S : TypeId) (j : Nat) : Option Nat :=
 match P.underlying S with
 | some (.struct fs) => match fs[j]? with | some f => (match P.info? f.type with | some i => if i.size = 0 then none else some f.offset | none => none) | none => none
 | _ => none
theorem IX {S j off : Nat} (hf : IJ P S j = some off) (w : World) (b o : Nat) : (Instr.fieldAt S (.pointer (some ⟨b, o, none⟩)) j).run P w = .ok (.pointer (some ⟨b, o + off, none⟩)) w := by
 unfold IJ at hf
 split at hf
 · rename_i fs hu
   split at hf
   · rename_i f hj
     split at hf
     · rename_i i hi
       split at hf
       · cases hf
       · rename_i hz
         cases hf
         simp [Instr.fieldAt, run_underlying hu, hj, Instr.sureAddr, fieldPlace, sizeOf, typeInfo, hi, hz, Gl]
     · cases hf
   · cases hf
 · cases hf
theorem x_field {S j off k o o' : Nat} {x : Operand} {cs : List Cell} (hN : Nat.blt d N = true) (h : evo s.t x = some (.one (.ptr k o))) (hl : lkl s.l k = some (.box cs)) (hf : IJ P S j = some off) (ho : Nat.add o off = o') :
   Stp P N ⟨some d, .fieldAddr S x j, ty, pos, after, gd⟩ s ⟨(d, .one (.ptr k o')) :: s.t, s.l⟩ ⟨rdo x (.one (.ptr k o)), [(k, .box cs)], [(d, .one (.ptr k o'))], [], []⟩ :=
 Stp.pure rfl hN (Cg h) (by simpa using hl) fun g s' a w ht hl' r => by
   have hk : lkl s'.l k = some (.box cs) := hl' (k, .box cs) (by simp)
   have hv : a.eval x = .pointer (some ⟨g.ρ k, o, none⟩) := B4 r (BC h) ht cs hk
   obtain rfl : o' = o + off := ho.symm
   have hrun := IX hf w (g.ρ k) o
   exact ⟨_, by simp only [execOp, hv, Sem.run_bind, Sem.run_pure, Result.andThen_ok, hrun], fun _ _ => rfl⟩
theorem Ao {S j k o : Nat} (off : Nat) (o' : Nat) {x : Operand} {cs : List Cell} (hN : Nat.blt d N = true) (h : evo s.t x = some (.one (.ptr k o))) (hl : lkl s.l k = some (.box cs)) (hf : IJ P S j = some off) (ho : Nat.add o off = o') : Stp P N ⟨some d, .fieldAddr S x j, ty, pos, after, gd⟩ s ⟨(d, .one (.ptr k o')) :: s.t, s.l⟩ ⟨rdo x (.one (.ptr k o)), [(k, .box cs)], [(d, .one (.ptr k o'))], [], []⟩ := x_field (off := off) (o' := o') hN h hl hf ho
theorem CM {α : Type} {e : Enc α} {z : α} {S j off o o' : Nat} {x : Operand} (hN : Nat.blt d N = true) (h : evo s.t x = some (.one (.ep e z o))) (hf : IJ P S j = some off) (ho : Nat.add o off = o') :
   Stp P N ⟨some d, .fieldAddr S x j, ty, pos, after, gd⟩ s ⟨(d, .one (.ep e z o')) :: s.t, s.l⟩ ⟨rdo x (.one (.ep e z o)), [], [(d, .one (.ep e z o'))], [], []⟩ :=
 Stp.pure rfl hN (Cg h) (by simp) fun g s' a w ht hl' r => by
   obtain ⟨gb, q, cs, b, h1, h2, h3, h4, h5⟩ : CellR g s'.l w (a.eval x) (.ep e z o) := B4 r (BC h) ht
   obtain rfl : o' = o + off := ho.symm
   have hrun := IX hf w gb (q + o)
   exact ⟨.pointer (some ⟨gb, q + o + off, none⟩), by simp only [execOp, h1, Sem.run_bind, Sem.run_pure, Result.andThen_ok, hrun], gb, q, cs, b, by rw [Nat.add_assoc], h2, h3, h4, h5⟩
theorem x_ofield {S j off k i o o' : Nat} {x : Operand} {α : Type} {T : TypeId} {e : Enc α} {xs : List α} {dp : Bool} (hN : Nat.blt d N = true) (h : evo s.t x = some (.one (.optr k i o))) (hl : lkl s.l k = some (.arr T e xs dp)) (hf : IJ P S j = some off) (ho : Nat.add o off = o') :
   Stp P N ⟨some d, .fieldAddr S x j, ty, pos, after, gd⟩ s ⟨(d, .one (.optr k i o')) :: s.t, s.l⟩ ⟨rdo x (.one (.optr k i o)), [(k, .arr T e xs dp)], [(d, .one (.optr k i o'))], [], []⟩ :=
 Stp.pure rfl hN (Cg h) (by simpa using hl) fun g s' a w ht hl' r => by
   have hk : lkl s'.l k = some (.arr T e xs dp) := hl' (k, .arr T e xs dp) (by simp)
   have hv : a.eval x = .pointer (some ⟨g.ρ k, i * e.size + o, none⟩) := B4 r (BC h) ht _ _ _ _ _ hk
   obtain rfl : o' = o + off := ho.symm
   have hrun := IX hf w (g.ρ k) (i * e.size + o)
   refine ⟨.pointer (some ⟨g.ρ k, i * e.size + o + off, none⟩), by simp only [execOp, hv, Sem.run_bind, Sem.run_pure, Result.andThen_ok, hrun], fun β U f ys dq hq => ?_⟩
   rw [hk] at hq; cases hq
   rw [Nat.add_assoc]
theorem Ay {S j k i o : Nat} (off : Nat) (o' : Nat) {x : Operand} {α : Type} {T : TypeId} {e : Enc α} {xs : List α} {dp : Bool} (hN : Nat.blt d N = true) (h : evo s.t x = some (.one (.optr k i o))) (hl : lkl s.l k = some (.arr T e xs dp)) (hf : IJ P S j = some off) (ho : Nat.add o off = o') : Stp P N ⟨some d, .fieldAddr S x j, ty, pos, after, gd⟩ s ⟨(d, .one (.optr k i o')) :: s.t, s.l⟩ ⟨rdo x (.one (.optr k i o)), [(k, .arr T e xs dp)], [(d, .one (.optr k i o'))], [], []⟩ := x_ofield (off := off) (o' := o') hN h hl hf ho
def FV (P : Program) (T : TypeId) : Option (TypeId × Nat) :=
 match P.underlying T with
 | some (.slice e) => match P.info? e with | some i => some (e, i.size) | none => none
 | _ => none
theorem GL {T E n : Nat} (h : FV P T = some (E, n)) : P.underlying T = some (.slice E) ∧ ∃ i, P.info? E = some i ∧ i.size = n := by
 unfold FV at h
 split at h
 · rename_i e hu
   split at h
   · rename_i i hi; cases h; exact ⟨hu, i, hi, rfl⟩
   · cases h
 · cases h
theorem run_indexAt {T E n : Nat} (hT : FV P T = some (E, n)) (w : World) (b o len cap i : Nat) (ik : IntKind) (hi : i < len) : (Instr.indexAt T (.slice (some ⟨b, o, none⟩) len cap) (.int ik (i : Int))).run P w = .ok (.pointer (some ⟨b, o + i * n, none⟩)) w := by
 obtain ⟨hu, ii, hii, hn⟩ := GL hT
 subst hn
 have h1 : (0 : Int) ≤ (i : Int) ∧ (i : Int) < (len : Int) := by omega
 simp [Instr.indexAt, asIntOf, run_underlying hu, h1, sizeOf, typeInfo, hii, Gl, hi]
theorem x_index {α : Type} {e : Enc α} {xs : List α} {T E n : Nat} {x ix : Operand} {ik : IntKind} {v : Int} {k : Nat} (hN : Nat.blt d N = true) (h : evo s.t x = some (.one (.sl e xs))) (h2 : evo s.t ix = some (.one (.c (.int ik v)))) (hT : FV P T = some (E, n)) (hz : e.size = n) (hv : v = (k : Int)) (hk : k < xs.length) :
   Stp P N ⟨some d, .indexAddr T x ix, ty, pos, after, gd⟩ s ⟨(d, .one (.ep e (xs[k]'hk) 0)) :: s.t, s.l⟩ ⟨rdo x (.one (.sl e xs)) ++ rdo ix (.one (.c (.int ik v))), [], [(d, .one (.ep e (xs[k]'hk) 0))], [], []⟩ :=
 Stp.pure rfl hN (fun p hp => by rcases List.mem_append.1 hp with hp | hp; exact Cg h p hp; exact Cg h2 p hp) (by simp) fun g s' a w ht hl' r => by
   obtain ⟨ad, m, cap, bs, e1, e2, e3⟩ : CellR g s'.l w (a.eval x) (.sl e xs) := B4 r (BC h) fun p hp => ht p (List.mem_append_left _ hp)
   have e4 : a.eval ix = .int ik v := (B4 r (BC h2) fun p hp => ht p (List.mem_append_right _ hp) : CellR g s'.l w _ (.c (.int ik v))).1
   obtain ⟨gb, o, cs, b, rfl, f1, f2, f3, f4⟩ := e2.get hk
   subst hv; subst hz
   have hrun := run_indexAt hT w gb o m cap k ik (by rw [e2.1]; exact hk)
   exact ⟨.pointer (some ⟨gb, o + k * e.size, none⟩), by simp only [execOp, e1, e4, Sem.run_bind, Sem.run_pure, Result.andThen_ok, hrun], gb, o + k * e.size, cs, b, rfl, e3 gb f4, f1, fun c hc => e3 c (f3 c hc), f2⟩
theorem Am {α : Type} {e : Enc α} {xs : List α} {T : Nat} (E : Nat) (n : Nat) {x ix : Operand} {ik : IntKind} {v : Int} (k : Nat) (hN : Nat.blt d N = true) (h : evo s.t x = some (.one (.sl e xs))) (h2 : evo s.t ix = some (.one (.c (.int ik v)))) (hT : FV P T = some (E, n)) (hz : e.size = n) (hv : v = (k : Int)) (hk : k < xs.length) : Stp P N ⟨some d, .indexAddr T x ix, ty, pos, after, gd⟩ s ⟨(d, .one (.ep e (xs[k]'hk) 0)) :: s.t, s.l⟩ ⟨rdo x (.one (.sl e xs)) ++ rdo ix (.one (.c (.int ik v))), [], [(d, .one (.ep e (xs[k]'hk) 0))], [], []⟩ := x_index (E := E) (n := n) (k := k) hN h h2 hT hz hv hk
theorem x_oindex {α : Type} {e : Enc α} {xs : List α} {dp : Bool} {T E n K : Nat} {x ix : Operand} {ik : IntKind} {v : Int} {k : Nat} (hN : Nat.blt d N = true) (h : evo s.t x = some (.one (.own K))) (hl : lkl s.l K = some (.arr E e xs dp)) (h2 : evo s.t ix = some (.one (.c (.int ik v)))) (hT : FV P T = some (E, n)) (hz : e.size = n) (hv : v = (k : Int)) (hk : k < xs.length) :
   Stp P N ⟨some d, .indexAddr T x ix, ty, pos, after, gd⟩ s ⟨(d, .one (.optr K k 0)) :: s.t, s.l⟩ ⟨rdo x (.one (.own K)) ++ rdo ix (.one (.c (.int ik v))), [(K, .arr E e xs dp)], [(d, .one (.optr K k 0))], [], []⟩ :=
 Stp.pure rfl hN (fun p hp => by rcases List.mem_append.1 hp with hp | hp; exact Cg h p hp; exact Cg h2 p hp) (by simpa using hl) fun g s' a w ht hl' r => by
   have hK : lkl s'.l K = some (.arr E e xs dp) := hl' (K, .arr E e xs dp) (by simp)
   have e1 : a.eval x = g.hd K := (B4 r (BC h) fun p hp => ht p (List.mem_append_left _ hp) : CellR g s'.l w _ (.own K)) _ _ _ _ _ hK
   have e4 : a.eval ix = .int ik v := (B4 r (BC h2) fun p hp => ht p (List.mem_append_right _ hp) : CellR g s'.l w _ (.c (.int ik v))).1
   rcases r.mem.arr K α E e xs dp hK with ⟨f1, _, _⟩ | ⟨cap, vs, bss, f1, _⟩
   · subst f1; simp at hk
   · subst hv; subst hz
     have hrun := run_indexAt hT w (g.ρ K) 0 xs.length cap k ik hk
     refine ⟨.pointer (some ⟨g.ρ K, 0 + k * e.size, none⟩), by simp only [execOp, e1, f1, e4, Sem.run_bind, Sem.run_pure, Result.andThen_ok, hrun], fun β U f ys dq hq => ?_⟩
     rw [hK] at hq; cases hq
     simp
theorem Ar {α : Type} {e : Enc α} {xs : List α} {dp : Bool} {T E K : Nat} (n : Nat) {x ix : Operand} {ik : IntKind} {v : Int} (k : Nat) (hN : Nat.blt d N = true) (h : evo s.t x = some (.one (.own K))) (hl : lkl s.l K = some (.arr E e xs dp)) (h2 : evo s.t ix = some (.one (.c (.int ik v)))) (hT : FV P T = some (E, n)) (hz : e.size = n) (hv : v = (k : Int)) (hk : k < xs.length) : Stp P N ⟨some d, .indexAddr T x ix, ty, pos, after, gd⟩ s ⟨(d, .one (.optr K k 0)) :: s.t, s.l⟩ ⟨rdo x (.one (.own K)) ++ rdo ix (.one (.c (.int ik v))), [(K, .arr E e xs dp)], [(d, .one (.optr K k 0))], [], []⟩ := x_oindex (n := n) (k := k) hN h hl h2 hT hz hv hk
theorem GO {o : Oper} {b : Builtin} {ars : Array Operand} {ats : Array TypeId} {a : Act} {w : World} {v : Value} (ho : o.op = .call { callee := .builtin b, args := ars, argTypes := ats })
   (h : (builtin b ats o.type (ars.map fun | .const _ => true | _ => false) (ars.map a.eval)).run P w = .ok (.value v) w) : (execOp a.eval o).run P w = .ok (.value v) w := by
 unfold execOp
 simp only [ho, resolve, invoke, Sem.run_bind, Sem.run_pure, Result.andThen_ok]
 exact h
theorem wf_len {n : Nat} (h : n ≤ maxLen) : (Lit.int .i64 (n : Int)).wf = true := by
 unfold maxLen at h
 refine WalkArith.wf_i64 ?_
 omega
theorem x_len {α : Type} {e : Enc α} {xs : List α} {T E n : Nat} {x : Operand} (hN : Nat.blt d N = true) (h : evo s.t x = some (.one (.sl e xs))) (hT : FV P T = some (E, n)) :
   Stp P N ⟨some d, .call { callee := .builtin .len, args := #[x], argTypes := #[T] }, ty, pos, after, gd⟩ s ⟨(d, .one (.c (.int .i64 (xs.length : Int)))) :: s.t, s.l⟩ ⟨rdo x (.one (.sl e xs)), [], [(d, .one (.c (.int .i64 (xs.length : Int))))], [], []⟩ :=
 Stp.pure rfl hN (Cg h) (by simp) fun g s' a w ht hl' r => by
   obtain ⟨ad, m, cap, bs, e1, e2, e3⟩ : CellR g s'.l w (a.eval x) (.sl e xs) := B4 r (BC h) ht
   refine ⟨_, GO rfl (v := .int .i64 (xs.length : Int)) ?_, rfl, wf_len (by rw [← e2.1]; exact Nat.le_trans e2.2.1 e2.2.2.1)⟩
   simp [builtin, Builtin.len_, run_underlying (GL hT).1, e1, goInt, e2.1]
theorem Ak {α : Type} {e : Enc α} {xs : List α} {T : Nat} (E : Nat) (n : Nat) {x : Operand} (hN : Nat.blt d N = true) (h : evo s.t x = some (.one (.sl e xs))) (hT : FV P T = some (E, n)) : Stp P N ⟨some d, .call { callee := .builtin .len, args := #[x], argTypes := #[T] }, ty, pos, after, gd⟩ s ⟨(d, .one (.c (.int .i64 (xs.length : Int)))) :: s.t, s.l⟩ ⟨rdo x (.one (.sl e xs)), [], [(d, .one (.c (.int .i64 (xs.length : Int))))], [], []⟩ := x_len (E := E) (n := n) hN h hT
theorem x_olen {α : Type} {e : Enc α} {xs : List α} {dp : Bool} {T E n K : Nat} {x : Operand} (hN : Nat.blt d N = true) (h : evo s.t x = some (.one (.own K))) (hl : lkl s.l K = some (.arr E e xs dp)) (hT : FV P T = some (E, n)) :
   Stp P N ⟨some d, .call { callee := .builtin .len, args := #[x], argTypes := #[T] }, ty, pos, after, gd⟩ s ⟨(d, .one (.c (.int .i64 (xs.length : Int)))) :: s.t, s.l⟩ ⟨rdo x (.one (.own K)), [(K, .arr E e xs dp)], [(d, .one (.c (.int .i64 (xs.length : Int))))], [], []⟩ :=
 Stp.pure rfl hN (Cg h) (by simpa using hl) fun g s' a w ht hl' r => by
   have hK : lkl s'.l K = some (.arr E e xs dp) := hl' (K, .arr E e xs dp) (by simp)
   have e1 : a.eval x = g.hd K := (B4 r (BC h) ht : CellR g s'.l w _ (.own K)) _ _ _ _ _ hK
   rcases r.mem.arr K α E e xs dp hK with ⟨f1, f2, _⟩ | ⟨cap, vs, bss, f1, f2, f3, _⟩
   · subst f1
     refine ⟨_, GO rfl (v := .int .i64 0) ?_, rfl, rfl⟩
     simp [builtin, Builtin.len_, run_underlying (GL hT).1, e1, f2, goInt]
   · refine ⟨_, GO rfl (v := .int .i64 (xs.length : Int)) ?_, rfl, wf_len (Nat.le_trans f2 f3)⟩
     simp [builtin, Builtin.len_, run_underlying (GL hT).1, e1, f1, goInt]
theorem Ax {α : Type} {e : Enc α} {xs : List α} {dp : Bool} {T K : Nat} (E : Nat) (n : Nat) {x : Operand} (hN : Nat.blt d N = true) (h : evo s.t x = some (.one (.own K))) (hl : lkl s.l K = some (.arr E e xs dp)) (hT : FV P T = some (E, n)) : Stp P N ⟨some d, .call { callee := .builtin .len, args := #[x], argTypes := #[T] }, ty, pos, after, gd⟩ s ⟨(d, .one (.c (.int .i64 (xs.length : Int)))) :: s.t, s.l⟩ ⟨rdo x (.one (.own K)), [(K, .arr E e xs dp)], [(d, .one (.c (.int .i64 (xs.length : Int))))], [], []⟩ := x_olen (E := E) (n := n) hN h hl hT
theorem D4 {T : Nat} {x : Operand} {b : ByteArray} (hN : Nat.blt d N = true) (h : evo s.t x = some (.one (.c (.string b)))) (hT : P.underlying T = some .string) :
   Stp P N ⟨some d, .call { callee := .builtin .len, args := #[x], argTypes := #[T] }, ty, pos, after, gd⟩ s ⟨(d, .one (.c (.int .i64 (b.size : Int)))) :: s.t, s.l⟩ ⟨rdo x (.one (.c (.string b))), [], [(d, .one (.c (.int .i64 (b.size : Int))))], [], []⟩ :=
 Stp.pure rfl hN (Cg h) (by simp) fun g s' a w ht hl' r => by
   obtain ⟨e1, e2⟩ : a.eval x = .string b ∧ b.size ≤ maxLen := B4 r (BC h) ht
   refine ⟨_, GO rfl (v := .int .i64 (b.size : Int)) ?_, rfl, wf_len e2⟩
   simp [builtin, Builtin.len_, run_underlying hT, e1, goInt]
theorem two_c {g : Gh} {s' : St} {a : Act} {w : World} {x y : Operand} {u v : Value} (r : Rep N g s' a w) (hx : Evs x (.one (.c u))) (hy : Evs y (.one (.c v))) (ht : ∀ p ∈ rdo x (.one (.c u)) ++ rdo y (.one (.c v)), lk s'.t p.1 = some p.2) : (a.eval x = u ∧ wfV u) ∧ a.eval y = v ∧ wfV v :=
 ⟨B4 r hx fun p hp => ht p (List.mem_append_left _ hp), B4 r hy fun p hp => ht p (List.mem_append_right _ hp)⟩
theorem FU {x y : Operand} {X Y : AVal} (h : evo s.t x = some X) (h2 : evo s.t y = some Y) : ∀ p ∈ rdo x X ++ rdo y Y, lk s.t p.1 = some p.2 := fun p hp => by
 rcases List.mem_append.1 hp with hp | hp
 · exact Cg h p hp
 · exact Cg h2 p hp
theorem Gf {o : Oper} {op : BinOp} {T T' : TypeId} {x y : Operand} {a : Act} {w : World} {v : Value} (ho : o.op = .binOp op T x y T') (h : ((do eqGuard op T x y (a.eval x) (a.eval y); binOp op T (a.eval x) (a.eval y)) : Sem Value).run P w = .ok v w) : (execOp a.eval o).run P w = .ok (.value v) w := by
 unfold execOp
 simp only [ho]
 simp only [Sem.run_bind] at h ⊢
 rw [h]; rfl
theorem guard_int {op : BinOp} {T : TypeId} {x y : Operand} {k k' : IntKind} {m n : Int} {w : World} : (eqGuard op T x y (.int k m) (.int k' n)).run P w = .ok () w := by
 cases op <;> rfl
theorem guard_str {op : BinOp} {T : TypeId} {x y : Operand} {m n : ByteArray} {w : World} : (eqGuard op T x y (.string m) (.string n)).run P w = .ok () w := by
 cases op <;> rfl
theorem Fv {op : BinOp} {T T' : TypeId} {x y : Operand} {k : IntKind} {m n : Int} {v : Value} (hN : Nat.blt d N = true) (h : evo s.t x = some (.one (.c (.int k m)))) (h2 : evo s.t y = some (.one (.c (.int k n))))
   (hr : ∀ w, (binOp op T (.int k m) (.int k n)).run P w = .ok v w) (hw : wfV (.int k m) → wfV (.int k n) → wfV v) :
   Stp P N ⟨some d, .binOp op T x y T', ty, pos, after, gd⟩ s ⟨(d, .one (.c v)) :: s.t, s.l⟩ ⟨rdo x (.one (.c (.int k m))) ++ rdo y (.one (.c (.int k n))), [], [(d, .one (.c v))], [], []⟩ :=
 Stp.pure rfl hN (FU h h2) (by simp) fun g s' a w ht hl' r => by
   obtain ⟨⟨e1, w1⟩, e2, w2⟩ := two_c r (BC h) (BC h2) ht
   refine ⟨v, Gf rfl ?_, rfl, hw w1 w2⟩
   rw [e1, e2]
   simp only [Sem.run_bind, guard_int, Result.andThen_ok, hr]
theorem BI {T T' : TypeId} {x y : Operand} {k : IntKind} {m n : Int} (hN : Nat.blt d N = true) (h : evo s.t x = some (.one (.c (.int k m)))) (h2 : evo s.t y = some (.one (.c (.int k n)))) :
   Stp P N ⟨some d, .binOp .lss T x y T', ty, pos, after, gd⟩ s ⟨(d, .one (.c (.bool (decide (m < n))))) :: s.t, s.l⟩ ⟨rdo x (.one (.c (.int k m))) ++ rdo y (.one (.c (.int k n))), [], [(d, .one (.c (.bool (decide (m < n)))))], [], []⟩ :=
 Fv hN h h2 (fun w => by simp [binOp, Op.intCmp]) (fun _ _ => trivial)
theorem E3 {T T' : TypeId} {x y : Operand} {k : IntKind} {m n : Int} (hN : Nat.blt d N = true) (h : evo s.t x = some (.one (.c (.int k m)))) (h2 : evo s.t y = some (.one (.c (.int k n)))) :
   Stp P N ⟨some d, .binOp .leq T x y T', ty, pos, after, gd⟩ s ⟨(d, .one (.c (.bool (decide (m ≤ n))))) :: s.t, s.l⟩ ⟨rdo x (.one (.c (.int k m))) ++ rdo y (.one (.c (.int k n))), [], [(d, .one (.c (.bool (decide (m ≤ n)))))], [], []⟩ :=
 Fv hN h h2 (fun w => by simp [binOp, Op.intCmp]) (fun _ _ => trivial)
theorem CC {T T' : TypeId} {x y : Operand} {k : IntKind} {m n : Int} (hN : Nat.blt d N = true) (h : evo s.t x = some (.one (.c (.int k m)))) (h2 : evo s.t y = some (.one (.c (.int k n)))) :
   Stp P N ⟨some d, .binOp .gtr T x y T', ty, pos, after, gd⟩ s ⟨(d, .one (.c (.bool (decide (m > n))))) :: s.t, s.l⟩ ⟨rdo x (.one (.c (.int k m))) ++ rdo y (.one (.c (.int k n))), [], [(d, .one (.c (.bool (decide (m > n)))))], [], []⟩ :=
 Fv hN h h2 (fun w => by simp [binOp, Op.intCmp]) (fun _ _ => trivial)
theorem Ee {T T' : TypeId} {x y : Operand} {k : IntKind} {m n : Int} (hN : Nat.blt d N = true) (h : evo s.t x = some (.one (.c (.int k m)))) (h2 : evo s.t y = some (.one (.c (.int k n)))) :
   Stp P N ⟨some d, .binOp .geq T x y T', ty, pos, after, gd⟩ s ⟨(d, .one (.c (.bool (decide (m ≥ n))))) :: s.t, s.l⟩ ⟨rdo x (.one (.c (.int k m))) ++ rdo y (.one (.c (.int k n))), [], [(d, .one (.c (.bool (decide (m ≥ n)))))], [], []⟩ :=
 Fv hN h h2 (fun w => by simp [binOp, Op.intCmp]) (fun _ _ => trivial)
theorem AR {T T' : TypeId} {x y : Operand} {k : IntKind} {m n : Int} (hN : Nat.blt d N = true) (h : evo s.t x = some (.one (.c (.int k m)))) (h2 : evo s.t y = some (.one (.c (.int k n)))) :
   Stp P N ⟨some d, .binOp .eql T x y T', ty, pos, after, gd⟩ s ⟨(d, .one (.c (.bool (m == n)))) :: s.t, s.l⟩ ⟨rdo x (.one (.c (.int k m))) ++ rdo y (.one (.c (.int k n))), [], [(d, .one (.c (.bool (m == n))))], [], []⟩ :=
 Fv hN h h2 (fun w => by simp [binOp, Op.intCmp]) (fun _ _ => trivial)
theorem EK {T T' : TypeId} {x y : Operand} {k : IntKind} {m n : Int} (hN : Nat.blt d N = true) (h : evo s.t x = some (.one (.c (.int k m)))) (h2 : evo s.t y = some (.one (.c (.int k n)))) :
   Stp P N ⟨some d, .binOp .neq T x y T', ty, pos, after, gd⟩ s ⟨(d, .one (.c (.bool (m != n)))) :: s.t, s.l⟩ ⟨rdo x (.one (.c (.int k m))) ++ rdo y (.one (.c (.int k n))), [], [(d, .one (.c (.bool (m != n))))], [], []⟩ :=
 Fv hN h h2 (fun w => by simp [binOp, Op.intCmp]) (fun _ _ => trivial)
theorem Bl {T T' : TypeId} {x y : Operand} {k : IntKind} {m n r : Int} (hN : Nat.blt d N = true) (h : evo s.t x = some (.one (.c (.int k m)))) (h2 : evo s.t y = some (.one (.c (.int k n)))) (hr : k.wrap (m + n) = r) :
   Stp P N ⟨some d, .binOp .add T x y T', ty, pos, after, gd⟩ s ⟨(d, .one (.c (.int k r))) :: s.t, s.l⟩ ⟨rdo x (.one (.c (.int k m))) ++ rdo y (.one (.c (.int k n))), [], [(d, .one (.c (.int k r)))], [], []⟩ :=
 Fv hN h h2 (fun w => by rw [← hr]; simp [binOp, Op.intArith]) (fun _ _ => by rw [← hr]; exact wf_wrap k _)
theorem HO {T T' : TypeId} {x y : Operand} {k : IntKind} {m n r : Int} (hN : Nat.blt d N = true) (h : evo s.t x = some (.one (.c (.int k m)))) (h2 : evo s.t y = some (.one (.c (.int k n)))) (hr : k.wrap (m - n) = r) :
   Stp P N ⟨some d, .binOp .sub T x y T', ty, pos, after, gd⟩ s ⟨(d, .one (.c (.int k r))) :: s.t, s.l⟩ ⟨rdo x (.one (.c (.int k m))) ++ rdo y (.one (.c (.int k n))), [], [(d, .one (.c (.int k r)))], [], []⟩ :=
 Fv hN h h2 (fun w => by rw [← hr]; simp [binOp, Op.intArith]) (fun _ _ => by rw [← hr]; exact wf_wrap k _)
theorem x_mul {T T' : TypeId} {x y : Operand} {k : IntKind} {m n r : Int} (hN : Nat.blt d N = true) (h : evo s.t x = some (.one (.c (.int k m)))) (h2 : evo s.t y = some (.one (.c (.int k n)))) (hr : k.wrap (m * n) = r) :
   Stp P N ⟨some d, .binOp .mul T x y T', ty, pos, after, gd⟩ s ⟨(d, .one (.c (.int k r))) :: s.t, s.l⟩ ⟨rdo x (.one (.c (.int k m))) ++ rdo y (.one (.c (.int k n))), [], [(d, .one (.c (.int k r)))], [], []⟩ :=
 Fv hN h h2 (fun w => by rw [← hr]; simp [binOp, Op.intArith]) (fun _ _ => by rw [← hr]; exact wf_wrap k _)
theorem x_rem {T T' : TypeId} {x y : Operand} {k : IntKind} {m n r : Int} (hN : Nat.blt d N = true) (h : evo s.t x = some (.one (.c (.int k m)))) (h2 : evo s.t y = some (.one (.c (.int k n)))) (h0 : n ≠ 0) (hr : m.tmod n = r) (hw : (Lit.int k r).wf = true) :
   Stp P N ⟨some d, .binOp .rem T x y T', ty, pos, after, gd⟩ s ⟨(d, .one (.c (.int k r))) :: s.t, s.l⟩ ⟨rdo x (.one (.c (.int k m))) ++ rdo y (.one (.c (.int k n))), [], [(d, .one (.c (.int k r)))], [], []⟩ :=
 Fv hN h h2 (fun w => by rw [← hr]; simp [binOp, Op.intDiv, h0]) (fun _ _ => hw)
theorem x_str2 {op : BinOp} {T T' : TypeId} {x y : Operand} {m n : ByteArray} {v : Value} (hN : Nat.blt d N = true) (h : evo s.t x = some (.one (.c (.string m)))) (h2 : evo s.t y = some (.one (.c (.string n))))
   (hr : ∀ w, (binOp op T (.string m) (.string n)).run P w = .ok v w) (hw : wfV v) :
   Stp P N ⟨some d, .binOp op T x y T', ty, pos, after, gd⟩ s ⟨(d, .one (.c v)) :: s.t, s.l⟩ ⟨rdo x (.one (.c (.string m))) ++ rdo y (.one (.c (.string n))), [], [(d, .one (.c v))], [], []⟩ :=
 Stp.pure rfl hN (FU h h2) (by simp) fun g s' a w ht hl' r => by
   obtain ⟨⟨e1, w1⟩, e2, w2⟩ := two_c r (BC h) (BC h2) ht
   refine ⟨v, Gf rfl ?_, rfl, hw⟩
   rw [e1, e2]
   simp only [Sem.run_bind, guard_str, Result.andThen_ok, hr]
theorem DH {T T' : TypeId} {x y : Operand} {m n : ByteArray} (hN : Nat.blt d N = true) (h : evo s.t x = some (.one (.c (.string m)))) (h2 : evo s.t y = some (.one (.c (.string n)))) :
   Stp P N ⟨some d, .binOp .eql T x y T', ty, pos, after, gd⟩ s ⟨(d, .one (.c (.bool (m == n)))) :: s.t, s.l⟩ ⟨rdo x (.one (.c (.string m))) ++ rdo y (.one (.c (.string n))), [], [(d, .one (.c (.bool (m == n))))], [], []⟩ :=
 x_str2 hN h h2 (fun w => by rw [beq_toListBytes]; simp [binOp, Op.stringOp]) trivial
theorem x_sneq {T T' : TypeId} {x y : Operand} {m n : ByteArray} (hN : Nat.blt d N = true) (h : evo s.t x = some (.one (.c (.string m)))) (h2 : evo s.t y = some (.one (.c (.string n)))) :
   Stp P N ⟨some d, .binOp .neq T x y T', ty, pos, after, gd⟩ s ⟨(d, .one (.c (.bool (!(m == n))))) :: s.t, s.l⟩ ⟨rdo x (.one (.c (.string m))) ++ rdo y (.one (.c (.string n))), [], [(d, .one (.c (.bool (!(m == n)))))], [], []⟩ :=
 x_str2 hN h h2 (fun w => by rw [beq_toListBytes]; simp [binOp, Op.stringOp]) trivial
theorem BM {T T' : TypeId} {x y : Operand} {m n : ByteArray} (hN : Nat.blt d N = true) (h : evo s.t x = some (.one (.c (.string m)))) (h2 : evo s.t y = some (.one (.c (.string n)))) (hs : m.size + n.size ≤ 1000000000) :
   Stp P N ⟨some d, .binOp .add T x y T', ty, pos, after, gd⟩ s ⟨(d, .one (.c (.string (m ++ n)))) :: s.t, s.l⟩ ⟨rdo x (.one (.c (.string m))) ++ rdo y (.one (.c (.string n))), [], [(d, .one (.c (.string (m ++ n))))], [], []⟩ :=
 x_str2 hN h h2 (fun w => by
   have : ¬ ((m.size + n.size : Nat) : Int) > IntKind.i64.max := by simp [IntKind.max, IntKind.signed, IntKind.bits]; omega
   simp only [binOp, Op.stringOp, this, if_false]; rfl) (by show (m ++ n).size ≤ maxLen; rw [ByteArray.size_append]; unfold maxLen; omega)
theorem Cn {T : TypeId} {x : Operand} {b : Bool} (hN : Nat.blt d N = true) (h : evo s.t x = some (.one (.c (.bool b)))) :
   Stp P N ⟨some d, .unOp .not T x, ty, pos, after, gd⟩ s ⟨(d, .one (.c (.bool (!b)))) :: s.t, s.l⟩ ⟨rdo x (.one (.c (.bool b))), [], [(d, .one (.c (.bool (!b))))], [], []⟩ :=
 Stp.pure rfl hN (Cg h) (by simp) fun g s' a w ht hl' r => by
   obtain ⟨e1, _⟩ : a.eval x = .bool b ∧ wfV (.bool b) := B4 r (BC h) ht
   exact ⟨.bool (!b), by simp [execOp, e1, Op.unary], rfl, trivial⟩
theorem AJ {c x y : Operand} {X : AVal} (hN : Nat.blt d N = true) (h : evo s.t c = some (.one (.c (.bool true)))) (h2 : evo s.t x = some X) :
   Stp P N ⟨some d, .pick c x y, ty, pos, after, gd⟩ s ⟨(d, X) :: s.t, s.l⟩ ⟨rdo c (.one (.c (.bool true))) ++ rdo x X, [], [(d, X)], [], []⟩ :=
 Stp.pure rfl hN (FU h h2) (by simp) fun g s' a w ht hl' r => by
   obtain ⟨e1, _⟩ : a.eval c = .bool true ∧ wfV (.bool true) := B4 r (BC h) fun p hp => ht p (List.mem_append_left _ hp)
   exact ⟨a.eval x, by simp [execOp, e1, asBool], B4 r (BC h2) fun p hp => ht p (List.mem_append_right _ hp)⟩
theorem AD {c x y : Operand} {X : AVal} (hN : Nat.blt d N = true) (h : evo s.t c = some (.one (.c (.bool false)))) (h2 : evo s.t y = some X) :
   Stp P N ⟨some d, .pick c x y, ty, pos, after, gd⟩ s ⟨(d, X) :: s.t, s.l⟩ ⟨rdo c (.one (.c (.bool false))) ++ rdo y X, [], [(d, X)], [], []⟩ :=
 Stp.pure rfl hN (FU h h2) (by simp) fun g s' a w ht hl' r => by
   obtain ⟨e1, _⟩ : a.eval c = .bool false ∧ wfV (.bool false) := B4 r (BC h) fun p hp => ht p (List.mem_append_left _ hp)
   exact ⟨a.eval y, by simp [execOp, e1, asBool], B4 r (BC h2) fun p hp => ht p (List.mem_append_right _ hp)⟩
def nthV : List AVal → Nat → Option AVal
 | [], _ => none
 | c :: _, 0 => some c
 | _ :: r, n + 1 => nthV r n
theorem nthV_get : ∀ {l : List AVal} {n : Nat} {x : AVal}, nthV l n = some x → l[n]? = some x
 | [], _, _, h => by cases h
 | c :: _, 0, x, h => h
 | _ :: r, n + 1, x, h => by simpa using nthV_get (l := r) h
theorem B1 {x : Operand} {xs : List AVal} {i : Nat} {X : AVal} (hN : Nat.blt d N = true) (h : evo s.t x = some (.tup xs)) (hx : nthV xs i = some X) :
   Stp P N ⟨some d, .extract x i, ty, pos, after, gd⟩ s ⟨(d, X) :: s.t, s.l⟩ ⟨rdo x (.tup xs), [], [(d, X)], [], []⟩ :=
 Stp.pure rfl hN (Cg h) (by simp) fun g s' a w ht hl' r => by
   obtain ⟨vs, e1, e2⟩ : VR g s'.l w (a.eval x) (.tup xs) := B4 r (BC h) ht
   obtain ⟨v, e3, e4⟩ := e2.get (nthV_get hx)
   exact ⟨v, by simp [execOp, e1, Instr.extract, e3], e4.vr⟩
end ops
end Go.Proofs.YtkemjhlbokldhaaGreat
