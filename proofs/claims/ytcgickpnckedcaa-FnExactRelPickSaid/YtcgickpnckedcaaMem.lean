/- Slices that the call itself owns: making them, writing an element, what stays. Over any program. -/
import Derived.Test.YtcgickpnckedcaaBase
namespace Go.Proofs.Ytcgickpnckedcaa
open Go.RowKit
set_option linter.unusedVariables false

/-- What a call hands back as a slice: new blocks, none shared. -/
def RetSlice {α : Type} (e : Enc α) (w : World) (xs : List α) (r : Ending) (w' : World) : Prop :=
  ∃ a n cap bs, r = .returned (.slice a n cap) ∧ SliceRep e w' a n cap xs bs ∧ Fresh w.heap.size w' bs ∧ Below w.heap.size w w'
/-- What a call hands back as a struct. -/
def RetAgg {α : Type} (e : Enc α) (w : World) (x : α) (r : Ending) (w' : World) : Prop :=
  ∃ cs bs, r = .returned (.agg cs) ∧ e.rep w' cs.toList x bs ∧ Fresh w.heap.size w' bs ∧ Below w.heap.size w w'

def setCells (w : World) (g : Nat) : Nat → List Value → World
  | _, [] => w
  | o, c :: cs => setCells (w.setCell ⟨g, o, none⟩ c) g (o + 1) cs

theorem setCells_size (g : Nat) : ∀ (cs : List Value) (w : World) (o : Nat), (setCells w g o cs).heap.size = w.heap.size
  | [], w, o => rfl
  | c :: cs, w, o => by rw [setCells, setCells_size g cs]; simp [World.setCell]
theorem setCells_block {g b : Nat} (hne : b ≠ g) : ∀ (cs : List Value) (w : World) (o : Nat), (setCells w g o cs).heap[b]? = w.heap[b]?
  | [], w, o => rfl
  | c :: cs, w, o => by rw [setCells, setCells_block hne cs]; exact Below.heap_setCell w _ _ _ hne
theorem setCells_below {B : Nat} {a : World} {g : Nat} (hB : B ≤ g) : ∀ (cs : List Value) (w : World) (o : Nat), Below B a w → Below B a (setCells w g o cs)
  | [], w, o, h => h
  | c :: cs, w, o, h => setCells_below hB cs _ _ (h.setCell (p := ⟨g, o, none⟩) hB c)
theorem setCells_own {g : Nat} : ∀ (cs : List Value) (w : World) (o : Nat) (c : Array Value) (t : TypeId) (fr : Nat × Nat), w.heap[g]? = some (.cells c t fr) → o + cs.length ≤ c.size →
    ∃ c', (setCells w g o cs).heap[g]? = some (.cells c' t fr) ∧ c'.size = c.size ∧ ∀ i, c'[i]? = if o ≤ i ∧ i < o + cs.length then cs[i - o]? else c[i]?
  | [], w, o, c, t, fr, h, _ => ⟨c, h, rfl, fun i => by rw [if_neg (by simp)]⟩
  | v :: cs, w, o, c, t, fr, h, hl => by
    have h1 : (w.setCell ⟨g, o, none⟩ v).heap[g]? = some (.cells (c.setIfInBounds o v) t fr) := by
      simp [World.setCell, Array.getElem?_modify, h]
    obtain ⟨c', h2, h3, h4⟩ := setCells_own cs (w.setCell ⟨g, o, none⟩ v) (o + 1) (c.setIfInBounds o v) t fr h1 (by simp only [List.length_cons] at hl; simp; omega)
    refine ⟨c', h2, by simpa using h3, fun i => ?_⟩
    rw [h4 i]
    simp only [List.length_cons] at hl ⊢
    by_cases hi : i = o
    · subst hi
      rw [if_neg (by omega), if_pos (by omega)]
      simp only [Nat.sub_self, List.getElem?_cons_zero]
      rw [Array.getElem?_setIfInBounds_self_of_lt (by omega)]
    · by_cases hin : o + 1 ≤ i ∧ i < o + 1 + cs.length
      · rw [if_pos hin, if_pos (by omega)]
        obtain ⟨j, rfl⟩ : ∃ j, i = o + 1 + j := ⟨i - (o + 1), by omega⟩
        rw [show o + 1 + j - (o + 1) = j by omega, show o + 1 + j - o = j + 1 by omega, List.getElem?_cons_succ]
      · rw [if_neg hin, if_neg (by omega), Array.getElem?_setIfInBounds_ne (by omega)]

theorem cell_of_heap {w : World} {g : Nat} {c : Array Value} {t : TypeId} {fr : Nat × Nat} (h : w.heap[g]? = some (.cells c t fr)) (i : Nat) : w.cell? ⟨g, i, none⟩ = c[i]? := by
  show (match w.heap[g]? with | some (.cells c _ _) => if (none : Option Nat).isSome then none else c[i]? | _ => none) = _
  rw [h]; rfl
theorem free_of_heap {w : World} {g : Nat} {c : Array Value} {t : TypeId} (h : w.heap[g]? = some (.cells c t (0, 0))) (i : Nat) : w.frozen? ⟨g, i, none⟩ = false := by
  show (match w.heap[g]? with | some (.cells _ _ (lo, hi)) => decide (lo ≤ i) && decide (i < hi) | _ => false) = _
  rw [h]; simp

theorem flatten_set {k : Nat} {b' : List Nat} : ∀ (bss : List (List Nat)) (hk : k < bss.length) (x : Nat), x ∈ (bss.set k b').flatten → x ∈ b' ∨ x ∈ bss.flatten
  | b :: bss, hk, x, h => by
    cases k with
    | zero =>
      simp only [List.set_cons_zero, List.flatten_cons, List.mem_append] at h ⊢
      rcases h with h | h
      · exact .inl h
      · exact .inr (.inr h)
    | succ k =>
      simp only [List.set_cons_succ, List.flatten_cons, List.mem_append] at h ⊢
      rcases h with h | h
      · exact .inr (.inl h)
      · rcases flatten_set bss (by simpa using hk) x h with h | h
        · exact .inl h
        · exact .inr (.inr h)
theorem nodup_set {b' : List Nat} (hb' : b'.Nodup) : ∀ (bss : List (List Nat)) (k : Nat) (hk : k < bss.length), bss.flatten.Nodup → (∀ c ∈ b', c ∈ bss[k] ∨ c ∉ bss.flatten) → (bss.set k b').flatten.Nodup
  | b :: bss, 0, hk, hn, hc => by
    simp only [List.set_cons_zero, List.flatten_cons, List.nodup_append, List.getElem_cons_zero, List.mem_append] at *
    refine ⟨hb', hn.2.1, fun x hx y hy e => ?_⟩
    subst e
    rcases hc x hx with h | h
    · exact hn.2.2 x h x hy rfl
    · exact h (.inr hy)
  | b :: bss, k + 1, hk, hn, hc => by
    simp only [List.set_cons_succ, List.flatten_cons, List.nodup_append, List.getElem_cons_succ, List.mem_append] at *
    have hk' : k < bss.length := by simpa using hk
    refine ⟨hn.1, nodup_set hb' bss k hk' hn.2.1 (fun c h => ?_), fun x hx y hy e => ?_⟩
    · rcases hc c h with h1 | h1
      · exact .inl h1
      · exact .inr fun h2 => h1 (.inr h2)
    · subst e
      rcases flatten_set bss hk' x hy with h | h
      · rcases hc x h with h1 | h1
        · exact hn.2.2 x hx x (List.mem_flatten.2 ⟨_, List.getElem_mem hk', h1⟩) rfl
        · exact h1 (.inl hx)
      · exact hn.2.2 x hx x h rfl

/-- THE LAW OF AN UPDATE: element k has become x', its cells cs, its blocks b'; the other elements and their blocks are as they were. -/
theorem Elems.upd {α : Type} {e : Enc α} {w w' : World} {g off k : Nat} {xs : List α} {bss : List (List Nat)} (h : Elems e w g off xs bss) {x' : α} {cs : List Value} {b' : List Nat} (hr : e.rep w' cs x' b')
    (hcs : ∀ j u, cs[j]? = some u → w'.cell? ⟨g, off + k * e.size + j, none⟩ = some u)
    (hrest : ∀ i, i < off + k * e.size ∨ off + (k + 1) * e.size ≤ i → w'.cell? ⟨g, i, none⟩ = w.cell? ⟨g, i, none⟩)
    (hother : ∀ i b, i ≠ k → bss[i]? = some b → ∀ c ∈ b, w'.heap[c]? = w.heap[c]?) (hs : w.heap.size ≤ w'.heap.size) :
    Elems e w' g off (xs.set k x') (bss.set k b') := by
  refine ⟨by simp [h.1], fun i x b hx hb => ?_⟩
  by_cases hik : i = k
  · subst hik
    have hlx : i < xs.length := by have := (List.getElem?_eq_some_iff.1 hx).1; simpa using this
    have hlb : i < bss.length := by rw [h.1]; exact hlx
    rw [List.getElem?_set_self hlx] at hx
    rw [List.getElem?_set_self hlb] at hb
    cases hx; cases hb
    exact ⟨cs, hr, hcs⟩
  · rw [List.getElem?_set_ne (Ne.symm hik)] at hx hb
    obtain ⟨cs0, h1, h2⟩ := h.2 i x b hx hb
    refine ⟨cs0, e.keep h1 (hother i b hik hb) hs, fun j u hu => ?_⟩
    have hj : j < e.size := by rw [← e.len h1]; exact (List.getElem?_eq_some_iff.1 hu).1
    rw [hrest, h2 j u hu]
    rcases Nat.lt_or_ge i k with h3 | h3
    · left
      have : (i + 1) * e.size ≤ k * e.size := Nat.mul_le_mul_right _ h3
      rw [Nat.add_mul] at this
      omega
    · right
      have : (k + 1) * e.size ≤ i * e.size := Nat.mul_le_mul_right _ (by omega)
      omega

/-- An own slice, not empty, taken apart. -/
theorem SliceRep.parts {α : Type} {e : Enc α} {w : World} {a : Option Addr} {n cap : Nat} {xs : List α} {bs : List Nat} (h : SliceRep e w a n cap xs bs) (hne : xs ≠ []) :
    ∃ g off bss, a = some ⟨g, off, none⟩ ∧ g < w.heap.size ∧ bs = g :: bss.flatten ∧ Elems e w g off xs bss := by
  obtain ⟨_, _, _, _, h5⟩ := h
  rcases h5 with ⟨h6, _⟩ | ⟨g, off, bss, _, ha, hg, hb, hE⟩
  · exact absurd h6 hne
  · exact ⟨g, off, bss, ha, hg, hb, hE⟩
theorem SliceRep.mk {α : Type} {e : Enc α} {w : World} {g off n cap : Nat} {xs : List α} {bss : List (List Nat)} (hn : n = xs.length) (hc : n ≤ cap) (hm : cap ≤ maxLen) (hne : xs ≠ []) (hg : g < w.heap.size) (hE : Elems e w g off xs bss) :
    SliceRep e w (some ⟨g, off, none⟩) n cap xs (g :: bss.flatten) := ⟨hn, hc, hm, (fun h => by cases h), .inr ⟨g, off, bss, hne, rfl, hg, rfl, hE⟩⟩

/-- Writing element k of an own slice. -/
theorem SliceRep.store {α : Type} {e : Enc α} {w : World} {lo g off n cap k : Nat} {xs : List α} {bs : List Nat} (h : SliceRep e w (some ⟨g, off, none⟩) n cap xs bs) (hF : Fresh lo w bs) (hpos : 0 < e.size) (hk : k < xs.length)
    {x' : α} {cs : List Value} {b' : List Nat} (hr : e.rep w cs x' b') (hF' : Fresh lo w b') (hd : ∀ c ∈ b', c ∉ bs) :
    ∃ bs'', SliceRep e (setCells w g (off + k * e.size) cs) (some ⟨g, off, none⟩) n cap (xs.set k x') bs'' ∧ Fresh lo (setCells w g (off + k * e.size) cs) bs'' ∧ ∀ c ∈ bs'', c ∈ b' ∨ c ∈ bs := by
  have hne : xs ≠ [] := by intro e; subst e; simp at hk
  obtain ⟨g', off', bss, ha, hg, rfl, hE⟩ := h.parts hne
  simp only [Option.some.injEq, Addr.mk.injEq, and_true] at ha
  obtain ⟨rfl, rfl⟩ := ha
  obtain ⟨_, c, t, hblk⟩ := hF.2 g (List.mem_cons_self ..)
  have hkb : k < bss.length := by rw [hE.1]; exact hk
  have hlen : off + k * e.size + cs.length ≤ c.size := by
    obtain ⟨cs0, h1, h2⟩ := hE.2 k xs[k] bss[k] (List.getElem?_eq_getElem hk) (List.getElem?_eq_getElem hkb)
    have hl0 := e.len h1
    have := h2 (e.size - 1) (cs0[e.size - 1]'(by omega)) (List.getElem?_eq_getElem (by omega))
    rw [cell_of_heap hblk] at this
    have := (Array.getElem?_eq_some_iff.1 this).1
    rw [e.len hr]
    omega
  obtain ⟨c', hb1, hsz, hci⟩ := setCells_own cs w (off + k * e.size) c t (0, 0) hblk hlen
  have hnd : g ∉ bss.flatten ∧ bss.flatten.Nodup := List.nodup_cons.1 hF.1
  have hE' : Elems e (setCells w g (off + k * e.size) cs) g off (xs.set k x') (bss.set k b') := by
    refine hE.upd (e.keep hr (fun b hb => setCells_block (fun eq => hd b hb (by rw [eq]; exact List.mem_cons_self ..)) _ _ _) (Nat.le_of_eq (setCells_size ..).symm)) (fun j u hu => ?_) (fun i hi => ?_) (fun i b hik hb c hc => ?_) (Nat.le_of_eq (setCells_size ..).symm)
    · rw [cell_of_heap hb1, hci]
      have hj := (List.getElem?_eq_some_iff.1 hu).1
      rw [if_pos (by omega), show off + k * e.size + j - (off + k * e.size) = j by omega, hu]
    · rw [cell_of_heap hb1, hci, cell_of_heap hblk]
      rw [if_neg]
      rw [e.len hr]
      rw [Nat.add_mul] at hi
      omega
    · refine setCells_block (fun e => ?_) _ _ _
      subst e
      exact hnd.1 (List.mem_flatten.2 ⟨b, List.mem_of_getElem? hb, hc⟩)
  refine ⟨g :: (bss.set k b').flatten, ?_, ?_, ?_⟩
  · exact SliceRep.mk (by simpa using h.1) h.2.1 h.2.2.1 (by intro e; simp at e; exact hne e) (by rw [setCells_size]; exact hg) hE'
  · refine ⟨List.nodup_cons.2 ⟨fun hm => ?_, nodup_set hF'.1 bss k hkb hnd.2 (fun c hc => .inr fun h2 => hd c hc (List.mem_cons_of_mem _ h2))⟩, fun b hb => ?_⟩
    · rcases flatten_set bss hkb g hm with h | h
      · exact hd g h (List.mem_cons_self ..)
      · exact hnd.1 h
    · rcases List.mem_cons.1 hb with rfl | hb
      · exact ⟨(hF.2 b (List.mem_cons_self ..)).1, c', t, hb1⟩
      · have hbg : b ≠ g := by
          intro eq
          rcases flatten_set bss hkb b hb with h | h
          · exact hd b h (by rw [eq]; exact List.mem_cons_self ..)
          · exact hnd.1 (eq ▸ h)
        rw [setCells_block hbg]
        rcases flatten_set bss hkb b hb with h | h
        · exact hF'.2 b h
        · exact hF.2 b (List.mem_cons_of_mem _ h)
  · intro c hc
    rcases List.mem_cons.1 hc with rfl | hc
    · exact .inr (List.mem_cons_self ..)
    · rcases flatten_set bss hkb c hc with h | h
      · exact .inl h
      · exact .inr (List.mem_cons_of_mem _ h)

theorem madeCells_get {z : Array Value} {n i j : Nat} (hi : i < n) (hj : j < z.size) : (madeCells z (n * z.size))[i * z.size + j]? = some (z[j]'hj) := by
  have hlt : i * z.size + j < n * z.size := by
    have : (i + 1) * z.size ≤ n * z.size := Nat.mul_le_mul_right _ hi
    rw [Nat.add_mul] at this
    omega
  have hm : (i * z.size + j) % z.size = j := by rw [Nat.mul_comm, Nat.mul_add_mod, Nat.mod_eq_of_lt hj]
  unfold madeCells
  rw [Array.getElem?_map, Array.getElem?_range, if_pos hlt, Option.map_some, hm, getElem!_pos z j hj]

/-- A slice that 'make' has just laid: zero values. -/
theorem SliceRep.made {α : Type} {e : Enc α} {z : Array Value} {x0 : α} (hz : ∀ w, e.rep w z.toList x0 []) (hpos : 0 < e.size) (n : Nat) (hn : n ≤ maxLen) (w : World) (t : TypeId) :
    ∃ bs, SliceRep e (w.alloc (.cells (madeCells z (n * e.size)) t)) (some ⟨w.heap.size, 0, none⟩) n n (List.replicate n x0) bs ∧ Fresh w.heap.size (w.alloc (.cells (madeCells z (n * e.size)) t)) bs := by
  rcases Nat.eq_zero_or_pos n with h0 | h0
  · subst h0
    exact ⟨[], ⟨rfl, Nat.le_refl _, hn, (fun h => by cases h), .inl ⟨rfl, rfl⟩⟩, Fresh.nil⟩
  · have hblk : (w.alloc (.cells (madeCells z (n * e.size)) t)).heap[w.heap.size]? = some (.cells (madeCells z (n * e.size)) t (0, 0)) := heap_alloc_new w _
    have hzl : z.size = e.size := by simpa using e.len (hz w)
    refine ⟨w.heap.size :: (List.replicate n ([] : List Nat)).flatten, SliceRep.mk (by simp) (Nat.le_refl _) hn (by intro e; have := congrArg List.length e; simp at this; omega) (by simp) ⟨by simp, fun i x b hx hb => ?_⟩, ?_⟩
    · have hi : i < n := by have := (List.getElem?_eq_some_iff.1 hx).1; simpa using this
      rw [List.getElem?_replicate, if_pos hi] at hx hb
      cases hx; cases hb
      refine ⟨z.toList, hz _, fun j u hu => ?_⟩
      have hj : j < z.size := by have := (List.getElem?_eq_some_iff.1 hu).1; simpa using this
      rw [cell_of_heap hblk, Nat.zero_add]
      have := madeCells_get (z := z) hi hj
      rw [hzl] at this
      rw [this]
      simpa [List.getElem?_eq_getElem (l := z.toList) (by simpa using hj)] using hu
    · have : (List.replicate n ([] : List Nat)).flatten = [] := by simp
      rw [this]
      refine ⟨by simp, fun b hb => ?_⟩
      simp only [List.mem_singleton] at hb
      subst hb
      exact ⟨Nat.le_refl _, _, t, hblk⟩
/-- The cells of element k may be written. -/
theorem SliceRep.slot {α : Type} {e : Enc α} {w : World} {lo g off n cap k : Nat} {xs : List α} {bs : List Nat} (h : SliceRep e w (some ⟨g, off, none⟩) n cap xs bs) (hF : Fresh lo w bs) (hk : k < xs.length) :
    ∃ cs b, e.rep w cs xs[k] b ∧ (∀ c ∈ b, c ∈ bs) ∧ ∀ j u, cs[j]? = some u → w.cell? ⟨g, off + k * e.size + j, none⟩ = some u ∧ w.frozen? ⟨g, off + k * e.size + j, none⟩ = false := by
  obtain ⟨g', off', cs, b, ha, hr, hc, hb, hg⟩ := h.get hk
  simp only [Option.some.injEq, Addr.mk.injEq, and_true] at ha
  obtain ⟨rfl, rfl⟩ := ha
  obtain ⟨_, c, t, hblk⟩ := hF.2 g hg
  exact ⟨cs, b, hr, hb, fun j u hu => ⟨hc j u hu, free_of_heap hblk _⟩⟩
theorem run_make_rowN {P : Program} (t e : TypeId) (i : TypeInfo) (z : Value) (ht : P.underlying t = some (.slice e)) (hi : P.info? e = some i) (hz : i.zero = some z)
    (kl kc : IntKind) (n c : Nat) (hnc : n ≤ c) (hbytes : i.bytes * c ≤ 281474976710656) (h63 : c ≤ 9223372036854775807) (w : World) :
    (Instr.makeSlice t (.int kl (n : Int)) (.int kc (c : Int))).run P w = .ok (.slice (some ⟨w.heap.size, 0, none⟩) n c) (w.alloc (.cells (madeCells z.cells (c * i.size)) e)) := by
  have hb : (i.bytes : Int) * (c : Int) ≤ 281474976710656 := by
    have h : ((i.bytes * c : Nat) : Int) ≤ 281474976710656 := by omega
    rwa [Int.natCast_mul] at h
  have hr := run_make (P := P) w t e i z ht hi hz kl kc n c (by omega) (by omega) hb (by omega)
  simp only [Int.toNat_natCast] at hr
  exact hr
/-- The first k elements are those of xs, the others are x0. -/
def Filled {α : Type} (xs : List α) (x0 : α) (k : Nat) (ys : List α) : Prop := ys = xs.take k ++ List.replicate (xs.length - k) x0
theorem Filled.zero {α : Type} {xs : List α} {x0 : α} : Filled xs x0 0 (List.replicate xs.length x0) := by simp [Filled]
theorem Filled.len {α : Type} {xs ys : List α} {x0 : α} {k : Nat} (h : Filled xs x0 k ys) (hk : k ≤ xs.length) : ys.length = xs.length := by
  rw [h]; simp; omega
theorem Filled.succ {α : Type} {xs ys : List α} {x0 : α} {k : Nat} (h : Filled xs x0 k ys) (hk : k < xs.length) : Filled xs x0 (k + 1) (ys.set k xs[k]) := by
  unfold Filled at *
  rw [h, List.set_append]
  have h1 : (xs.take k).length = k := by rw [List.length_take]; omega
  rw [if_neg (by omega), h1, Nat.sub_self]
  obtain ⟨m, hm⟩ : ∃ m, xs.length - k = m + 1 := ⟨xs.length - k - 1, by omega⟩
  rw [hm, List.replicate_succ, List.set_cons_zero, show xs.length - (k + 1) = m by omega, List.take_succ_eq_append_getElem (l := xs) hk, List.append_assoc]
  rfl
theorem Filled.done {α : Type} {xs ys : List α} {x0 : α} (h : Filled xs x0 xs.length ys) : ys = xs := by simpa [Filled] using h
end Go.Proofs.Ytcgickpnckedcaa
