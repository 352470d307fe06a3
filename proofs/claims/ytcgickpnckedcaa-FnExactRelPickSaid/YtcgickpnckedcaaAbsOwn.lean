/- The abstract walk: arrays of one's own that are made, filled and grown; what is put into them becomes theirs. -/
import Derived.Test.YtcgickpnckedcaaAbsMem
import Derived.Great.FillDense
import Derived.Great.BuildSlice
import Derived.Deep.Upon
namespace Go.Proofs.Ytcgickpnckedcaa
open Go.RowKit
set_option linter.unusedVariables false

/-! ### Elements as one row of cells -/
theorem FR.keep {w w' : World} : ∀ {vs : List Value} {cs : List Cell} {b : List Nat}, FR w vs cs b → (∀ i ∈ b, w'.heap[i]? = w.heap[i]?) → w.heap.size ≤ w'.heap.size → FR w' vs cs b
  | [], [], b, h, _, _ => h
  | v :: vs, c :: cs, b, h, hk, hs => by
    obtain ⟨b1, b2, rfl, h1, h2⟩ := h
    refine ⟨b1, b2, rfl, ?_, FR.keep h2 (fun i hi => hk i (List.mem_append_right _ hi)) hs⟩
    cases c with
    | c u => exact h1
    | sl e xs =>
      obtain ⟨a, n, cap, h3, h4⟩ := h1
      exact ⟨a, n, cap, h3, h4.keep (fun i hi => hk i (List.mem_append_left _ hi)) hs⟩
    | _ => exact h1.elim
theorem FR.one {w : World} : ∀ {vs : List Value} {cs : List Cell} {b : List Nat}, FR w vs cs b → ∀ u ∈ vs, u.oneCell' = true
  | [], [], b, _, u, hu => by cases hu
  | v :: vs, c :: cs, b, h, u, hu => by
    obtain ⟨b1, b2, rfl, h1, h2⟩ := h
    rcases List.mem_cons.1 hu with rfl | hu
    · cases c with
      | c u => rw [h1.1]; exact one_of_wf h1.2.1
      | sl e xs => obtain ⟨a, n, cap, rfl, _⟩ := h1; rfl
      | _ => exact h1.elim
    · exact FR.one h2 u hu
theorem FR.length {w : World} : ∀ {vs : List Value} {cs : List Cell} {b : List Nat}, FR w vs cs b → vs.length = cs.length
  | [], [], b, _ => rfl
  | v :: vs, c :: cs, b, h => by
    obtain ⟨b1, b2, rfl, h1, h2⟩ := h
    simp [FR.length h2]

section
variable {α : Type} {e : Enc α} {f : α → List Cell} [hc : CellsOf e f] {w : World} {g : Nat}
theorem Elems.flat : ∀ {xs : List α} {bss : List (List Nat)} {off : Nat}, Elems e w g off xs bss →
    ∃ vs, FR w vs (xs.flatMap f) bss.flatten ∧ vs.length = xs.length * e.size ∧ ∀ j u, vs[j]? = some u → w.cell? ⟨g, off + j, none⟩ = some u
  | [], bss, off, h => by
    have : bss = [] := List.eq_nil_of_length_eq_zero h.1
    subst this
    exact ⟨[], rfl, by simp, fun j u hu => by simp at hu⟩
  | x :: xs, [], off, h => by have := h.1; simp at this
  | x :: xs, b :: bss, off, h => by
    obtain ⟨cs, h1, h2⟩ := h.2 0 x b rfl rfl
    have ht : Elems e w g (off + e.size) xs bss := ⟨by simpa using h.1, fun i y c hy hcc => by
      obtain ⟨ds, h3, h4⟩ := h.2 (i + 1) y c (by simpa using hy) (by simpa using hcc)
      exact ⟨ds, h3, fun j u hu => by rw [show off + e.size + i * e.size + j = off + (i + 1) * e.size + j by rw [Nat.add_mul]; omega]; exact h4 j u hu⟩⟩
    obtain ⟨vs, h5, h6, h7⟩ := Elems.flat ht
    have hl := e.len h1
    refine ⟨cs ++ vs, ?_, by rw [List.length_append, hl, h6, List.length_cons, Nat.add_mul]; omega, fun j u hu => ?_⟩
    · rw [List.flatMap_cons, List.flatten_cons]
      exact FR.app.2 ⟨cs, vs, b, bss.flatten, rfl, rfl, hc.iff.1 h1, h5⟩
    · rcases Nat.lt_or_ge j cs.length with hj | hj
      · rw [List.getElem?_append_left hj] at hu
        have := h2 j u hu
        simpa using this
      · rw [List.getElem?_append_right hj] at hu
        have := h7 _ u hu
        rw [hl] at this
        rw [show off + j = off + e.size + (j - e.size) by omega]
        exact this
theorem Elems.ofFlat : ∀ {xs : List α} {vs : List Value} {bs : List Nat} {off : Nat}, FR w vs (xs.flatMap f) bs → (∀ j u, vs[j]? = some u → w.cell? ⟨g, off + j, none⟩ = some u) →
    ∃ bss, bss.flatten = bs ∧ Elems e w g off xs bss
  | [], vs, bs, off, h, _ => by
    cases vs with
    | nil =>
      have : bs = [] := h
      subst this
      exact ⟨[], rfl, rfl, fun i x b hx => by simp at hx⟩
    | cons v vs => exact h.elim
  | x :: xs, vs, bs, off, h, hv => by
    rw [List.flatMap_cons] at h
    obtain ⟨v1, v2, b1, b2, rfl, rfl, h1, h2⟩ := FR.app.1 h
    have hr := hc.iff.2 h1
    have hl := e.len hr
    obtain ⟨bss, rfl, hE⟩ := Elems.ofFlat (off := off + e.size) h2 (fun j u hu => by
      rw [show off + e.size + j = off + (v1.length + j) by omega]
      exact hv _ u (by rw [List.getElem?_append_right (by omega)]; simpa using hu))
    refine ⟨b1 :: bss, by simp, by simp [hE.1], fun i y b hy hb => ?_⟩
    cases i with
    | zero =>
      simp at hy hb
      subst hy; subst hb
      exact ⟨v1, hr, fun j u hu => by
        have hj := (List.getElem?_eq_some_iff.1 hu).1
        have := hv j u (by rw [List.getElem?_append_left hj]; exact hu)
        simpa using this⟩
    | succ i =>
      obtain ⟨ds, h3, h4⟩ := hE.2 i y b (by simpa using hy) (by simpa using hb)
      exact ⟨ds, h3, fun j u hu => by rw [show off + (i + 1) * e.size + j = off + e.size + i * e.size + j by rw [Nat.add_mul]; omega]; exact h4 j u hu⟩
end

/-! ### What an own array holds -/
section
variable {α : Type} {e : Enc α} {g : Gh} {l : Locs} {w : World} {k : Nat} {T : TypeId} {xs : List α} {d : Bool}
theorem ArrR.row {f : α → List Cell} [hc : CellsOf e f] (h : ArrR g w k T e xs d) : ∃ cells bs, w.ownsRow 0 T e.size (g.hd k) xs.length cells ∧ FR w cells (xs.flatMap f) bs ∧ (∀ b ∈ bs, g.I b) ∧ (d = true → g.F k = bs) ∧
    (∀ b, (g.hd k).ownBlock = some b → b = g.ρ k) := by
  rcases h with ⟨rfl, h1, h2⟩ | ⟨cap, vs, bss, h1, h2, h3, h4, h5, h6, h7, h8, h9⟩
  · exact ⟨[], [], ⟨by simp, .inl ⟨h1, rfl⟩⟩, rfl, fun _ hb => (by cases hb), h2, fun b hb => by rw [h1] at hb; simp [Value.ownBlock] at hb⟩
  · obtain ⟨us, f1, f2, f3⟩ := h6.flat
    refine ⟨us, bss.flatten, ⟨f2, .inr ⟨g.ρ k, cap, vs, h1, Nat.zero_le _, h4, h2, h3, h5, ?_⟩⟩, f1, h7, h9, fun b hb => by rw [h1] at hb; simp [Value.ownBlock] at hb; exact hb.symm⟩
    have hle : xs.length * e.size ≤ vs.size := by rw [h5]; exact Nat.mul_le_mul_right _ h2
    refine List.ext_getElem? fun j => ?_
    rw [List.getElem?_take]
    split
    · rename_i hj
      have hj' : j < us.length := by rw [f2]; exact hj
      have := f3 j us[j] (List.getElem?_eq_getElem hj')
      rw [cell_of_heap h4, Nat.zero_add] at this
      rw [List.getElem?_eq_getElem hj', ← this]
      simp
    · rename_i hj
      rw [List.getElem?_eq_none (by omega)]
theorem ArrR.ofRow {f : α → List Cell} [hc : CellsOf e f] {cells : List Value} {bs : List Nat} (h : w.ownsRow 0 T e.size (g.hd k) xs.length cells) (hf : FR w cells (xs.flatMap f) bs) (hI : ∀ b ∈ bs, g.I b) (hF : d = true → g.F k = bs)
    (hb : ∀ b, (g.hd k).ownBlock = some b → b = g.ρ k ∧ ¬ g.I b) : ArrR g w k T e xs d := by
  rcases h.2 with ⟨h1, h2⟩ | ⟨b, cap, cur, h1, _, h3, h4, h5, h6, h7⟩
  · have hx : xs = [] := List.eq_nil_of_length_eq_zero h2
    subst hx
    refine .inl ⟨rfl, h1, fun hd => ?_⟩
    rw [hF hd]
    have hcl : cells = [] := List.eq_nil_of_length_eq_zero (by simpa using h.1)
    subst hcl
    exact hf
  · obtain ⟨rfl, hI'⟩ := hb b (by rw [h1]; rfl)
    obtain ⟨bss, rfl, hE⟩ := Elems.ofFlat (e := e) (g := g.ρ k) (off := 0) hf (fun j u hu => by
      rw [cell_of_heap h3, Nat.zero_add]
      rw [← h7, List.getElem?_take] at hu
      split at hu
      · simpa using hu
      · cases hu)
    exact .inr ⟨cap, cur, bss, h1, h4, h5, h3, h6, hE, hI, hI', hF⟩
/-- An own array, read as a slice. -/
theorem ArrR.slice (h : ArrR g w k T e xs d) : ∃ a n cap bs, g.hd k = .slice a n cap ∧ SliceRep e w a n cap xs bs ∧ (∀ b ∈ bs, g.I b ∨ (g.hd k ≠ .slice none 0 0 ∧ b = g.ρ k)) ∧
    (d = true → bs = [] ∨ (g.hd k ≠ .slice none 0 0 ∧ bs = g.ρ k :: g.F k)) := by
  rcases h with ⟨rfl, h1, h2⟩ | ⟨cap, vs, bss, h1, h2, h3, h4, h5, h6, h7, h8, h9⟩
  · exact ⟨none, 0, 0, [], h1, ⟨rfl, Nat.le_refl _, by unfold maxLen; omega, fun _ => rfl, .inl ⟨rfl, rfl⟩⟩, fun _ hb => (by cases hb), fun _ => .inl rfl⟩
  · have hne : g.hd k ≠ .slice none 0 0 := by rw [h1]; intro e; cases e
    by_cases hx : xs = []
    · subst hx
      exact ⟨_, _, cap, [], h1, ⟨rfl, h2, h3, (fun h => by cases h), .inl ⟨rfl, rfl⟩⟩, fun _ hb => (by cases hb), fun _ => .inl rfl⟩
    · refine ⟨_, _, cap, g.ρ k :: bss.flatten, h1, SliceRep.mk rfl h2 h3 hx (Array.getElem?_eq_some_iff.1 h4).1 h6, fun b hb => ?_, fun hd => .inr ⟨hne, by rw [h9 hd]⟩⟩
      rcases List.mem_cons.1 hb with rfl | hb
      · exact .inr ⟨hne, rfl⟩
      · exact .inl (h7 b hb)
end

/-! ### What is moved -/
/-- Block b is of number j alone. -/
def Via (g : Gh) (l : Locs) (j b : Nat) : Prop :=
  ∃ (α : Type) (T : TypeId) (e : Enc α) (xs : List α), lkl l j = some (.arr T e xs true) ∧ ((g.hd j ≠ .slice none 0 0 ∧ b = g.ρ j) ∨ b ∈ g.F j)
theorem Via.disj {g : Gh} {l : Locs} {w : World} (m : MemR g l w) {i j b : Nat} (hi : Via g l i b) (hj : Via g l j b) : i = j := by
  by_cases hij : i = j
  · exact hij
  · exfalso
    obtain ⟨α, T, e, xs, h1, h2⟩ := hi
    obtain ⟨β, U, e', ys, h3, h4⟩ := hj
    rcases h2 with ⟨h5, rfl⟩ | h5
    · rcases h4 with ⟨h6, h7⟩ | h6
      · exact m.dis i j _ _ hij h1 h3 h5 h6 h7
      · exact m.notI h1 h5 ((m.fr j β U e' ys h3).2 _ h6).1
    · rcases h4 with ⟨h6, rfl⟩ | h6
      · exact m.notI h3 h6 ((m.fr i α T e xs h1).2 _ h5).1
      · exact m.fd i j α β T U e e' xs ys hij h1 h3 b h5 h6
theorem Via.own {g : Gh} {l : Locs} {j b : Nat} (h : Via g l j b) : OwnB g l b := by
  obtain ⟨α, T, e, xs, h1, h2⟩ := h
  rcases h2 with ⟨h3, rfl⟩ | h3
  · exact ⟨j, _, h1, .inl ⟨h3, rfl⟩⟩
  · exact ⟨j, _, h1, .inr ⟨α, T, e, xs, rfl, h3⟩⟩
theorem Via.cells {g : Gh} {l : Locs} {w : World} (m : MemR g l w) {j b : Nat} (h : Via g l j b) : ∃ c t, w.heap[b]? = some (.cells c t (0, 0)) := by
  obtain ⟨α, T, e, xs, h1, h2⟩ := h
  rcases h2 with ⟨h3, rfl⟩ | h3
  · rcases m.arr j _ _ _ _ _ h1 with ⟨_, h4, _⟩ | ⟨_, vs, _, _, _, _, h4, _⟩
    · exact absurd h4 h3
    · exact ⟨_, _, h4⟩
  · exact ((m.fr j α T e xs h1).2 b h3).2
/-- The cells of an element, as data; the arrays that go into it; whether all that it leads to is its own. -/
def mvC (l : Locs) : List Cell → Option (List Cell × List Nat × Bool)
  | [] => some ([], [], true)
  | c :: cs => match mvC l cs with
    | none => none
    | some (ds, js, d) => match c with
      | .c v => some (.c v :: ds, js, d)
      | .sl e xs => some (.sl e xs :: ds, js, false)
      | .own j => match lkl l j with
        | some (.arr _ e xs q) => some (.sl e xs :: ds, j :: js, d && q)
        | _ => none
      | _ => none
def liveA (g : Gh) (js : List Nat) (b : Nat) : Prop := ∃ j ∈ js, g.hd j ≠ .slice none 0 0 ∧ b = g.ρ j
theorem mvC_ok {g : Gh} {l : Locs} {w : World} (m : MemR g l w) : ∀ {vs : List Value} {cs ds : List Cell} {js : List Nat} {d : Bool}, All2 (CellR g l w) vs cs → mvC l cs = some (ds, js, d) → js.Nodup →
    ∃ bs, FR w vs ds bs ∧ (∀ b ∈ bs, g.I b ∨ liveA g js b) ∧ (d = true → bs.Nodup ∧ ∀ b ∈ bs, ∃ j ∈ js, Via g l j b)
  | [], [], ds, js, d, _, h, _ => by
    simp only [mvC, Option.some.injEq, Prod.mk.injEq] at h
    obtain ⟨rfl, rfl, rfl⟩ := h
    exact ⟨[], rfl, fun _ hb => (by cases hb), fun _ => ⟨List.nodup_nil, fun _ hb => by cases hb⟩⟩
  | v :: vs, c :: cs, ds, js, d, hA, h, hn => by
    simp only [mvC] at h
    split at h
    · cases h
    · rename_i ds1 js1 d1 h1
      cases c with
      | c u =>
        simp only [Option.some.injEq, Prod.mk.injEq] at h
        obtain ⟨rfl, rfl, rfl⟩ := h
        obtain ⟨bs, f1, f2, f3⟩ := mvC_ok m hA.2 h1 hn
        exact ⟨bs, ⟨[], bs, rfl, ⟨hA.1.1, hA.1.2, rfl⟩, f1⟩, f2, f3⟩
      | sl e xs =>
        simp only [Option.some.injEq, Prod.mk.injEq] at h
        obtain ⟨rfl, rfl, rfl⟩ := h
        obtain ⟨bs, f1, f2, f3⟩ := mvC_ok m hA.2 h1 hn
        obtain ⟨a, n, cap, b1, g1, g2, g3⟩ := hA.1
        refine ⟨b1 ++ bs, ⟨b1, bs, rfl, ⟨a, n, cap, g1, g2⟩, f1⟩, fun b hb => ?_, fun hd => by cases hd⟩
        rcases List.mem_append.1 hb with hb | hb
        · exact .inl (g3 b hb)
        · exact f2 b hb
      | own j =>
        simp only at h
        split at h
        · rename_i T e xs q hj
          simp only [Option.some.injEq, Prod.mk.injEq] at h
          obtain ⟨rfl, rfl, rfl⟩ := h
          have hn' := List.nodup_cons.1 hn
          obtain ⟨bs, f1, f2, f3⟩ := mvC_ok m hA.2 h1 hn'.2
          have hv : v = g.hd j := hA.1 _ _ _ _ _ hj
          obtain ⟨a, n, cap, b1, g1, g2, g3, g4⟩ := (m.arr j _ _ _ _ _ hj).slice
          refine ⟨b1 ++ bs, ⟨b1, bs, rfl, ⟨a, n, cap, hv.trans g1, g2⟩, f1⟩, fun b hb => ?_, fun hd => ?_⟩
          · rcases List.mem_append.1 hb with hb | hb
            · rcases g3 b hb with h | ⟨h, h'⟩
              · exact .inl h
              · exact .inr ⟨j, List.mem_cons_self .., h, h'⟩
            · rcases f2 b hb with h | ⟨i, h, h'⟩
              · exact .inl h
              · exact .inr ⟨i, List.mem_cons_of_mem _ h, h'⟩
          · simp only [Bool.and_eq_true] at hd
            obtain ⟨rfl, rfl⟩ := hd
            obtain ⟨n1, n2⟩ := f3 rfl
            have hvia : ∀ b ∈ b1, Via g l j b := fun b hb => by
              rcases g4 rfl with rfl | ⟨g5, rfl⟩
              · cases hb
              · rcases List.mem_cons.1 hb with rfl | hb
                · exact ⟨_, T, e, xs, hj, .inl ⟨g5, rfl⟩⟩
                · exact ⟨_, T, e, xs, hj, .inr hb⟩
            have hnd : b1.Nodup := by
              rcases g4 rfl with rfl | ⟨g5, rfl⟩
              · exact List.nodup_nil
              · refine List.nodup_cons.2 ⟨fun hm => m.notI hj g5 ((m.fr j _ T e xs hj).2 _ hm).1, (m.fr j _ T e xs hj).1⟩
            refine ⟨List.nodup_append.2 ⟨hnd, n1, fun x hx y hy exy => ?_⟩, fun b hb => ?_⟩
            · subst exy
              obtain ⟨i, hi, hvi⟩ := n2 x hy
              exact hn'.1 ((hvia x hx).disj m hvi ▸ hi)
            · rcases List.mem_append.1 hb with hb | hb
              · exact ⟨j, List.mem_cons_self .., hvia b hb⟩
              · obtain ⟨i, hi, hvi⟩ := n2 b hb
                exact ⟨i, List.mem_cons_of_mem _ hi, hvi⟩
        · cases h
      | _ => cases h
end Go.Proofs.Ytcgickpnckedcaa
