/- Lemmas of the walks, part 3. -/
import Derived.Test.YtibhoanjglfaoaaM2
import Derived.Deep.RegionHeld3
/- Marks: own data written anew in place, cell by cell. -/
namespace Go.Proofs.Ytibhoanjglfaoaa
open Go.RowKit
set_option linter.unusedVariables false

/-- Of the blocks that stood, only those named may have turned; they may still be written. -/
structure Only (bs : List Nat) (w w' : World) : Prop where
  os : w'.os = w.os
  tape : w'.tape = w.tape
  output : w'.output = w.output
  size : w.heap.size ≤ w'.heap.size
  keep : ∀ b, b < w.heap.size → b ∉ bs → w'.heap[b]? = w.heap[b]?
  shape : ∀ b ∈ bs, ∀ c t, w.heap[b]? = some (.cells c t (0, 0)) → ∃ c', w'.heap[b]? = some (.cells c' t (0, 0))
theorem Only.refl (bs : List Nat) (w : World) : Only bs w w := ⟨rfl, rfl, rfl, Nat.le_refl _, fun _ _ _ => rfl, fun _ _ c t h => ⟨c, h⟩⟩
theorem Only.trans {bs : List Nat} {w w1 w2 : World} (h : Only bs w w1) (h' : Only bs w1 w2) : Only bs w w2 :=
  ⟨h'.os.trans h.os, h'.tape.trans h.tape, h'.output.trans h.output, Nat.le_trans h.size h'.size, fun b hb hn => (h'.keep b (Nat.lt_of_lt_of_le hb h.size) hn).trans (h.keep b hb hn), fun b hb c t hc => by
    obtain ⟨c1, h1⟩ := h.shape b hb c t hc
    exact h'.shape b hb c1 t h1⟩
theorem Only.below {bs : List Nat} {w w' : World} (h : Below w.heap.size w w') : Only bs w w' :=
  ⟨h.os, h.tape, h.output, h.size, fun b hb _ => h.block b hb, fun b hb c t hc => ⟨c, (h.block b (Array.getElem?_eq_some_iff.1 hc).1).trans hc⟩⟩
theorem Only.mono {bs bs' : List Nat} {w w' : World} (h : Only bs' w w') (hs : ∀ b ∈ bs', b ∈ bs) : Only bs w w' :=
  ⟨h.os, h.tape, h.output, h.size, fun b hb hn => h.keep b hb fun hm => hn (hs b hm), fun b hb c t hc => by
    by_cases hm : b ∈ bs'
    · exact h.shape b hm c t hc
    · exact ⟨c, (h.keep b (Array.getElem?_eq_some_iff.1 hc).1 hm).trans hc⟩⟩
theorem Fresh.only {lo : Nat} {bs bs' : List Nat} {w w' : World} (h : Fresh lo w bs) (o : Only bs' w w') : Fresh lo w' bs :=
  ⟨h.1, fun b hb => by
    obtain ⟨h1, c, t, hc⟩ := h.2 b hb
    by_cases hm : b ∈ bs'
    · obtain ⟨c', h2⟩ := o.shape b hm c t hc
      exact ⟨h1, c', t, h2⟩
    · exact ⟨h1, c, t, (o.keep b (Array.getElem?_eq_some_iff.1 hc).1 hm).trans hc⟩⟩
theorem Enc.only {α : Type} {e : Enc α} {cs : List Value} {x : α} {b bs : List Nat} {w w' : World} (h : e.rep w cs x b) (o : Only bs w w') (hd : ∀ c ∈ b, c ∉ bs) : e.rep w' cs x b :=
  e.keep h (fun c hc => o.keep c (e.lt h c hc) (hd c hc)) o.size
theorem Below.only {lo : Nat} {bs : List Nat} {w0 w w' : World} (h : Below lo w0 w) (o : Only bs w w') (hl : ∀ b ∈ bs, lo ≤ b) (hlo : lo ≤ w.heap.size) : Below lo w0 w' :=
  ⟨o.os.trans h.os, o.tape.trans h.tape, o.output.trans h.output, Nat.le_trans h.size o.size, fun b hb => (o.keep b (by omega) fun hm => by have := hl b hm; omega).trans (h.block b hb)⟩
theorem Only.setCell {bs : List Nat} {w : World} {g : Nat} (hg : g ∈ bs) (o : Nat) (v : Value) : Only bs w (w.setCell ⟨g, o, none⟩ v) :=
  ⟨rfl, rfl, rfl, by simp [World.setCell], fun b hb hn => Below.heap_setCell w _ _ b (fun e => hn (by rw [e]; exact hg)), fun b hb c t hc => by
    by_cases e : b = g
    · subst e
      exact ⟨c.setIfInBounds o v, by simp [World.setCell, Array.getElem?_modify, hc]⟩
    · exact ⟨c, (Below.heap_setCell w ⟨g, o, none⟩ v b e).trans hc⟩⟩

theorem FR.keepM {w w' : World} : ∀ {vs : List Value} {cs : List Cell} {b : List Nat}, FR w vs cs b → (∀ x ∈ b, w'.heap[x]? = w.heap[x]?) → w.heap.size ≤ w'.heap.size → FR w' vs cs b
  | [], [], b, h, _, _ => h
  | v :: vs, c :: cs, b, h, hk, hs => by
    obtain ⟨b1, b2, rfl, h1, h2⟩ := h
    refine ⟨b1, b2, rfl, ?_, FR.keepM h2 (fun x hx => hk x (List.mem_append_right _ hx)) hs⟩
    cases c with
    | c u => exact h1
    | sl e xs =>
      obtain ⟨a, n, cap, h3, h4⟩ := h1
      exact ⟨a, n, cap, h3, h4.keep (fun x hx => hk x (List.mem_append_left _ hx)) hs⟩
    | _ => exact h1.elim
theorem FR.get_c {w : World} : ∀ {vs : List Value} {cs : List Cell} {b : List Nat} {i : Nat} {u : Value}, FR w vs cs b → cs[i]? = some (.c u) → vs[i]? = some u
  | [], [], b, i, u, _, h => by simp at h
  | v :: vs, c :: cs, b, 0, u, h, hi => by
    obtain ⟨b1, b2, rfl, h1, h2⟩ := h
    simp only [List.getElem?_cons_zero, Option.some.injEq] at hi
    subst hi
    simp [h1.1]
  | v :: vs, c :: cs, b, i + 1, u, h, hi => by
    obtain ⟨b1, b2, rfl, h1, h2⟩ := h
    simpa using FR.get_c h2 (by simpa using hi)
theorem FR.set_c {w : World} : ∀ {vs : List Value} {cs : List Cell} {b : List Nat} {i : Nat} {u v : Value}, FR w vs cs b → cs[i]? = some (.c u) → wfV v → FR w (vs.set i v) (cs.set i (.c v)) b
  | [], [], b, i, u, v, _, h, _ => by simp at h
  | y :: vs, c :: cs, b, 0, u, v, h, hi, hv => by
    obtain ⟨b1, b2, rfl, h1, h2⟩ := h
    simp only [List.getElem?_cons_zero, Option.some.injEq] at hi
    subst hi
    obtain rfl := h1.2.2
    exact ⟨[], b2, rfl, ⟨rfl, hv, rfl⟩, h2⟩
  | y :: vs, c :: cs, b, i + 1, u, v, h, hi, hv => by
    obtain ⟨b1, b2, rfl, h1, h2⟩ := h
    exact ⟨b1, b2, rfl, h1, FR.set_c h2 (by simpa using hi) hv⟩
theorem FR.get_sl {w : World} {α : Type} {e : Enc α} {ys : List α} : ∀ {vs : List Value} {cs : List Cell} {b : List Nat} {i : Nat}, FR w vs cs b → cs[i]? = some (.sl e ys) →
    ∃ b1 b2 b3 a n cap, b = b1 ++ (b2 ++ b3) ∧ vs[i]? = some (.slice a n cap) ∧ SliceRep e w a n cap ys b2 ∧
      ∀ (w' : World) (ys' : List α), SliceRep e w' a n cap ys' b2 → (∀ x ∈ b1, w'.heap[x]? = w.heap[x]?) → (∀ x ∈ b3, w'.heap[x]? = w.heap[x]?) → w.heap.size ≤ w'.heap.size → FR w' vs (cs.set i (.sl e ys')) b
  | [], [], b, i, _, h => by simp at h
  | y :: vs, c :: cs, b, 0, h, hi => by
    obtain ⟨b1, b2, rfl, h1, h2⟩ := h
    simp only [List.getElem?_cons_zero, Option.some.injEq] at hi
    subst hi
    obtain ⟨a, n, cap, rfl, h3⟩ := h1
    exact ⟨[], b1, b2, a, n, cap, rfl, rfl, h3, fun w' ys' hr _ hk hs => ⟨b1, b2, rfl, ⟨a, n, cap, rfl, hr⟩, h2.keepM hk hs⟩⟩
  | y :: vs, c :: cs, b, i + 1, h, hi => by
    obtain ⟨b1, b2, rfl, h1, h2⟩ := h
    obtain ⟨c1, c2, c3, a, n, cap, rfl, h3, h4, h5⟩ := FR.get_sl h2 (by simpa using hi)
    refine ⟨b1 ++ c1, c2, c3, a, n, cap, by simp, by simpa using h3, h4, fun w' ys' hr k1 k2 hs => ⟨b1, c1 ++ (c2 ++ c3), rfl, ?_, h5 w' ys' hr (fun x hx => k1 x (List.mem_append_right _ hx)) k2 hs⟩⟩
    have k1' : ∀ x ∈ b1, w'.heap[x]? = w.heap[x]? := fun x hx => k1 x (List.mem_append_left _ hx)
    cases c with
    | c u => exact h1
    | sl e xs =>
      obtain ⟨a, n, cap, h3, h4⟩ := h1
      exact ⟨a, n, cap, h3, h4.keep k1' hs⟩
    | _ => exact h1.elim

theorem flatten_apart : ∀ {bss : List (List Nat)} {i j : Nat} {b b' : List Nat} {x : Nat}, bss.flatten.Nodup → i ≠ j → bss[i]? = some b → bss[j]? = some b' → x ∈ b → x ∉ b'
  | [], i, j, b, b', x, _, _, h, _, _ => by simp at h
  | c :: bss, 0, 0, b, b', x, _, hij, _, _, _ => absurd rfl hij
  | c :: bss, 0, j + 1, b, b', x, hn, _, hi, hj, hx => fun hx' => by
    simp only [List.getElem?_cons_zero, Option.some.injEq] at hi
    subst hi
    rw [List.flatten_cons, List.nodup_append] at hn
    exact hn.2.2 x hx x (List.mem_flatten.2 ⟨b', List.mem_of_getElem? (by simpa using hj), hx'⟩) rfl
  | c :: bss, i + 1, 0, b, b', x, hn, _, hi, hj, hx => fun hx' => by
    simp only [List.getElem?_cons_zero, Option.some.injEq] at hj
    subst hj
    rw [List.flatten_cons, List.nodup_append] at hn
    exact hn.2.2 x hx' x (List.mem_flatten.2 ⟨b, List.mem_of_getElem? (by simpa using hi), hx⟩) rfl
  | c :: bss, i + 1, j + 1, b, b', x, hn, hij, hi, hj, hx => by
    rw [List.flatten_cons, List.nodup_append] at hn
    exact flatten_apart (bss := bss) (i := i) (j := j) hn.2.1 (by omega) (by simpa using hi) (by simpa using hj) hx

section
variable {α : Type} {e : Enc α} {f : α → List Cell} [he : CellsOf e f] {w : World} {lo g off n cap k : Nat} {xs : List α} {bs : List Nat}
/-- A plain cell of element k. -/
theorem SliceRep.cellAt (h : SliceRep e w (some ⟨g, off, none⟩) n cap xs bs) (hF : Fresh lo w bs) {x0 : α} (hx0 : xs[k]? = some x0) {c : Nat} {u : Value} (h0 : (f x0)[c]? = some (.c u)) :
    w.cell? ⟨g, off + k * e.size + c, none⟩ = some u ∧ w.frozen? ⟨g, off + k * e.size + c, none⟩ = false := by
  obtain ⟨hk, rfl⟩ := List.getElem?_eq_some_iff.1 hx0
  obtain ⟨cs, b, hr, _, hs⟩ := h.slot hF hk
  exact hs c u (FR.get_c (he.iff.1 hr) h0)
/-- A plain cell of element k written anew. -/
theorem SliceRep.put (h : SliceRep e w (some ⟨g, off, none⟩) n cap xs bs) (hF : Fresh lo w bs) {x0 : α} (hx0 : xs[k]? = some x0) (c : Nat) {u : Value} (v : Value) (x' : α) (h0 : (f x0)[c]? = some (.c u)) (hv : wfV v) (hx : f x' = (f x0).set c (.c v)) :
    SliceRep e (w.setCell ⟨g, off + k * e.size + c, none⟩ v) (some ⟨g, off, none⟩) n cap (xs.set k x') bs ∧ Only bs w (w.setCell ⟨g, off + k * e.size + c, none⟩ v) := by
  obtain ⟨hk, rfl⟩ := List.getElem?_eq_some_iff.1 hx0
  have hne : xs ≠ [] := by intro e; subst e; simp at hk
  obtain ⟨g', off', bss, ha, hg, rfl, hE⟩ := h.parts hne
  simp only [Option.some.injEq, Addr.mk.injEq, and_true] at ha
  obtain ⟨rfl, rfl⟩ := ha
  have hkb : k < bss.length := by rw [hE.1]; exact hk
  have hnd : g ∉ bss.flatten ∧ bss.flatten.Nodup := List.nodup_cons.1 hF.1
  obtain ⟨_, ca, t, hblk⟩ := hF.2 g (List.mem_cons_self ..)
  obtain ⟨cs, hr, hcs⟩ := hE.2 k xs[k] bss[k] (List.getElem?_eq_getElem hk) (List.getElem?_eq_getElem hkb)
  have hfr := he.iff.1 hr
  have hcu := FR.get_c hfr h0
  have hc : c < e.size := by rw [← e.len hr]; exact (List.getElem?_eq_some_iff.1 hcu).1
  have hin := hcs c u hcu
  have hO : Only (g :: bss.flatten) w (w.setCell ⟨g, off + k * e.size + c, none⟩ v) := Only.setCell (List.mem_cons_self ..) _ _
  have hfl : ∀ x ∈ bss.flatten, (w.setCell ⟨g, off + k * e.size + c, none⟩ v).heap[x]? = w.heap[x]? := fun x hx => Below.heap_setCell w _ _ x (fun e => hnd.1 (by rw [← show x = g from e]; exact hx))
  have hbk : ∀ x ∈ bss[k], (w.setCell ⟨g, off + k * e.size + c, none⟩ v).heap[x]? = w.heap[x]? := fun x hx => hfl x (List.mem_flatten.2 ⟨_, List.getElem_mem hkb, hx⟩)
  have hr' : e.rep (w.setCell ⟨g, off + k * e.size + c, none⟩ v) (cs.set c v) x' bss[k] := he.iff.2 (by rw [hx]; exact (hfr.set_c h0 hv).keepM hbk hO.size)
  have hE' := hE.upd (k := k) (x' := x') hr' (fun j u' hu => ?_) (fun i hi => ?_) (fun i b hik hb x hx => hfl x (List.mem_flatten.2 ⟨b, List.mem_of_getElem? hb, hx⟩)) hO.size
  · rw [List.set_getElem_self] at hE'
    exact ⟨SliceRep.mk (by simpa using h.1) h.2.1 h.2.2.1 (by intro e; simp at e; exact hne e) (Nat.lt_of_lt_of_le hg hO.size) hE', hO⟩
  · by_cases ej : j = c
    · subst ej
      rw [List.getElem?_set_self (by rw [e.len hr]; exact hc)] at hu
      cases hu
      exact World.cell?_setCell_same _ _ _ hin
    · rw [List.getElem?_set_ne (Ne.symm ej)] at hu
      rw [World.cell?_setCell_other w _ _ v (fun e => ej (by injection e with _ e; omega))]
      exact hcs j u' hu
  · exact World.cell?_setCell_other w _ _ v (fun e => by injection e with _ e; rw [Nat.add_mul] at hi; omega)
/-- A list in element k, for a call that writes it anew. -/
theorem SliceRep.nest (h : SliceRep e w (some ⟨g, off, none⟩) n cap xs bs) (hF : Fresh lo w bs) {x0 : α} (hx0 : xs[k]? = some x0) {c : Nat} {β : Type} {e' : Enc β} {ys : List β} (h0 : (f x0)[c]? = some (.sl e' ys)) :
    ∃ a' n' cap' b', w.cell? ⟨g, off + k * e.size + c, none⟩ = some (.slice a' n' cap') ∧ SliceRep e' w a' n' cap' ys b' ∧ Fresh lo w b' ∧
      ∀ (w' : World) (ys' : List β) (x' : α), SliceRep e' w' a' n' cap' ys' b' → Only b' w w' → f x' = (f x0).set c (.sl e' ys') → SliceRep e w' (some ⟨g, off, none⟩) n cap (xs.set k x') bs ∧ Only bs w w' := by
  obtain ⟨hk, rfl⟩ := List.getElem?_eq_some_iff.1 hx0
  have hne : xs ≠ [] := by intro e; subst e; simp at hk
  have hlt := h.lt
  obtain ⟨g', off', bss, ha, hg, rfl, hE⟩ := h.parts hne
  simp only [Option.some.injEq, Addr.mk.injEq, and_true] at ha
  obtain ⟨rfl, rfl⟩ := ha
  have hkb : k < bss.length := by rw [hE.1]; exact hk
  have hnd : g ∉ bss.flatten ∧ bss.flatten.Nodup := List.nodup_cons.1 hF.1
  obtain ⟨cs, hr, hcs⟩ := hE.2 k xs[k] bss[k] (List.getElem?_eq_getElem hk) (List.getElem?_eq_getElem hkb)
  obtain ⟨b1, b2, b3, a, n', cap', hb, h3, h4, h5⟩ := FR.get_sl (he.iff.1 hr) h0
  have inF : ∀ x ∈ bss[k], x ∈ bss.flatten := fun x hx => List.mem_flatten.2 ⟨_, List.getElem_mem hkb, hx⟩
  have in2 : ∀ x ∈ b2, x ∈ bss[k] := fun x hx => by rw [hb]; exact List.mem_append_right _ (List.mem_append_left _ hx)
  have hbn : bss[k].Nodup := List.Sublist.nodup (List.sublist_flatten_of_mem (List.getElem_mem hkb)) hnd.2
  rw [hb, List.nodup_append, List.nodup_append] at hbn
  refine ⟨a, n', cap', b2, hcs c _ h3, h4, ⟨hbn.2.1.1, fun x hx => hF.2 x (List.mem_cons_of_mem _ (inF x (in2 x hx)))⟩, fun w' ys' x' hr' hO hx => ?_⟩
  have ltF : ∀ x ∈ bss.flatten, x < w.heap.size := fun x hx => hlt x (List.mem_cons_of_mem _ hx)
  have keep : ∀ x, x < w.heap.size → x ∉ b2 → w'.heap[x]? = w.heap[x]? := hO.keep
  have hg2 : w'.heap[g]? = w.heap[g]? := keep g hg fun hm => hnd.1 (inF g (in2 g hm))
  have hr2 : e.rep w' cs x' bss[k] := he.iff.2 (by
    rw [hx]
    refine h5 w' ys' hr' (fun x hx1 => keep x (ltF x (inF x (by rw [hb]; exact List.mem_append_left _ hx1))) fun hx2 => hbn.2.2 x hx1 x (List.mem_append_left _ hx2) rfl) (fun x hx3 => keep x (ltF x (inF x (by rw [hb]; exact List.mem_append_right _ (List.mem_append_right _ hx3)))) fun hx2 => hbn.2.1.2.2 x hx2 x hx3 rfl) hO.size)
  have hE' := hE.upd (k := k) (x' := x') hr2 (fun j u' hu => (World.cell?_of_block (w := w) hg2).trans (hcs j u' hu)) (fun i hi => World.cell?_of_block (w := w) hg2) (fun i b hik hbi x hx => keep x (ltF x (List.mem_flatten.2 ⟨b, List.mem_of_getElem? hbi, hx⟩)) fun hx2 => flatten_apart hnd.2 hik hbi (List.getElem?_eq_getElem hkb) hx (in2 x hx2)) hO.size
  rw [List.set_getElem_self] at hE'
  exact ⟨SliceRep.mk (by simpa using h.1) h.2.1 h.2.2.1 (by intro e; simp at e; exact hne e) (Nat.lt_of_lt_of_le hg hO.size) hE', hO.mono fun x hx => List.mem_cons_of_mem _ (inF x (in2 x hx))⟩
end

/-! ### The same, element k named -/
section
variable {α : Type} {e : Enc α} {f : α → List Cell} [he : CellsOf e f] {w : World} {lo g off n cap k : Nat} {ys : List α} {bs : List Nat}
theorem set_at {x : α} (hk : k < ys.length) : (ys.set k x)[k]? = some x := List.getElem?_set_self hk
theorem set_same {x : α} (h : ys[k]? = some x) : ys.set k x = ys := by
  obtain ⟨hk, rfl⟩ := List.getElem?_eq_some_iff.1 h
  exact List.set_getElem_self hk
theorem SliceRep.cellAt2 {x0 : α} (h : SliceRep e w (some ⟨g, off, none⟩) n cap (ys.set k x0) bs) (hF : Fresh lo w bs) (hk : k < ys.length) {c : Nat} {u : Value} (h0 : (f x0)[c]? = some (.c u)) :
    w.cell? ⟨g, off + k * e.size + c, none⟩ = some u ∧ w.frozen? ⟨g, off + k * e.size + c, none⟩ = false := h.cellAt hF (set_at hk) h0
theorem SliceRep.put2 {x0 : α} (h : SliceRep e w (some ⟨g, off, none⟩) n cap (ys.set k x0) bs) (hF : Fresh lo w bs) (hk : k < ys.length) (c : Nat) {u : Value} (v : Value) (x' : α) (h0 : (f x0)[c]? = some (.c u)) (hv : wfV v) (hx : f x' = (f x0).set c (.c v)) :
    SliceRep e (w.setCell ⟨g, off + k * e.size + c, none⟩ v) (some ⟨g, off, none⟩) n cap (ys.set k x') bs ∧ Only bs w (w.setCell ⟨g, off + k * e.size + c, none⟩ v) := by
  have := h.put hF (set_at hk) c v x' h0 hv hx
  rwa [List.set_set] at this
theorem SliceRep.nest2 {x0 : α} (h : SliceRep e w (some ⟨g, off, none⟩) n cap (ys.set k x0) bs) (hF : Fresh lo w bs) (hk : k < ys.length) {c : Nat} {β : Type} {e' : Enc β} {zs : List β} (h0 : (f x0)[c]? = some (.sl e' zs)) :
    ∃ a' n' cap' b', w.cell? ⟨g, off + k * e.size + c, none⟩ = some (.slice a' n' cap') ∧ SliceRep e' w a' n' cap' zs b' ∧ Fresh lo w b' ∧
      ∀ (w' : World) (zs' : List β) (x' : α), SliceRep e' w' a' n' cap' zs' b' → Only b' w w' → f x' = (f x0).set c (.sl e' zs') → SliceRep e w' (some ⟨g, off, none⟩) n cap (ys.set k x') bs ∧ Only bs w w' := by
  obtain ⟨a', n', cap', b', h1, h2, h3, h4⟩ := h.nest hF (set_at hk) h0
  refine ⟨a', n', cap', b', h1, h2, h3, fun w' zs' x' r o hx => ?_⟩
  have := h4 w' zs' x' r o hx
  rwa [List.set_set] at this
/-- A list in a datum, for a call that writes it anew. -/
theorem Enc.nest {cs : List Value} {x : α} (h : e.rep w cs x bs) (hF : Fresh lo w bs) {c : Nat} {β : Type} {e' : Enc β} {zs : List β} (h0 : (f x)[c]? = some (.sl e' zs)) :
    ∃ a' n' cap' b', cs[c]? = some (.slice a' n' cap') ∧ SliceRep e' w a' n' cap' zs b' ∧ Fresh lo w b' ∧
      ∀ (w' : World) (zs' : List β) (x' : α), SliceRep e' w' a' n' cap' zs' b' → Only b' w w' → f x' = (f x).set c (.sl e' zs') → e.rep w' cs x' bs ∧ Only bs w w' := by
  have hlt := e.lt h
  obtain ⟨b1, b2, b3, a, n', cap', rfl, h3, h4, h5⟩ := FR.get_sl (he.iff.1 h) h0
  have hn := hF.1
  rw [List.nodup_append, List.nodup_append] at hn
  refine ⟨a, n', cap', b2, h3, h4, ⟨hn.2.1.1, fun x hx => hF.2 x (List.mem_append_right _ (List.mem_append_left _ hx))⟩, fun w' zs' x' hr hO hx => ⟨he.iff.2 ?_, hO.mono fun x hx => List.mem_append_right _ (List.mem_append_left _ hx)⟩⟩
  rw [hx]
  exact h5 w' zs' hr (fun y hy => hO.keep y (hlt y (List.mem_append_left _ hy)) fun hy2 => hn.2.2 y hy y (List.mem_append_left _ hy2) rfl) (fun y hy => hO.keep y (hlt y (List.mem_append_right _ (List.mem_append_right _ hy))) fun hy2 => hn.2.1.2.2 y hy2 y hy rfl) hO.size
end
theorem wf64 {q : Int} (h0 : -9223372036854775808 ≤ q) (h1 : q ≤ 9223372036854775807) : wfV (.int .i64 q) := by
  show (Lit.int .i64 q).wf = true
  have h2 : IntKind.i64.min = -9223372036854775808 := by decide
  have h3 : IntKind.i64.max = 9223372036854775807 := by decide
  simp only [Lit.wf, h2, h3, Bool.and_eq_true, decide_eq_true_eq]; omega

/-! ### Lists -/
section
variable {α : Type} (f : α → Int → α × Int)
def markL : List α → Int → List α × Int
  | [], k => ([], k)
  | x :: xs, k => ((f x k).1 :: (markL xs (f x k).2).1, (markL xs (f x k).2).2)
def cntL (c : α → Nat) : List α → Nat
  | [] => 0
  | x :: xs => c x + cntL c xs
theorem markL_len : ∀ (xs : List α) (k : Int), (markL f xs k).1.length = xs.length
  | [], k => rfl
  | x :: xs, k => by simp [markL, markL_len xs]
theorem markL_cnt {c : α → Nat} (hc : ∀ x k, (f x k).2 = k + c x) : ∀ (xs : List α) (k : Int), (markL f xs k).2 = k + cntL c xs
  | [], k => by simp [markL, cntL]
  | x :: xs, k => by simp only [markL, cntL]; rw [markL_cnt hc xs, hc]; omega
theorem cntL_take {α : Type} {c : α → Nat} : ∀ {xs : List α} {j : Nat} (hj : j < xs.length), cntL c (xs.take j) + c xs[j] ≤ cntL c xs
  | [], j, h => by simp at h
  | x :: xs, 0, h => by simp [cntL]
  | x :: xs, j + 1, h => by
    have := cntL_take (c := c) (xs := xs) (j := j) (by simpa using h)
    simp only [List.take_succ_cons, cntL, List.getElem_cons_succ]; omega
theorem markL_app : ∀ (xs : List α) (y : α) (k : Int), markL f (xs ++ [y]) k = ((markL f xs k).1 ++ [(f y (markL f xs k).2).1], (f y (markL f xs k).2).2)
  | [], y, k => rfl
  | x :: xs, y, k => by simp [markL, markL_app xs]
/-- Marked up to j. -/
def markTo (xs : List α) (k : Int) (j : Nat) : List α := (markL f (xs.take j) k).1 ++ xs.drop j
def markK (xs : List α) (k : Int) (j : Nat) : Int := (markL f (xs.take j) k).2
theorem markTo_zero (xs : List α) (k : Int) : markTo f xs k 0 = xs := by simp [markTo, markL]
theorem markK_zero (xs : List α) (k : Int) : markK f xs k 0 = k := by simp [markK, markL]
theorem markTo_len (xs : List α) (k : Int) (j : Nat) : (markTo f xs k j).length = xs.length := by
  simp [markTo, markL_len]; omega
theorem markTo_at {xs : List α} {k : Int} {j : Nat} (hj : j < xs.length) : (markTo f xs k j)[j]? = some xs[j] := by
  rw [List.getElem?_eq_getElem (by rw [markTo_len]; exact hj)]
  simp only [markTo]
  congr 1
  rw [List.getElem_append_right (by rw [markL_len]; simp; omega)]
  simp only [markL_len, List.length_take, List.getElem_drop]
  congr 1; omega
theorem markTo_succ {xs : List α} {k : Int} {j : Nat} (hj : j < xs.length) : (markTo f xs k j).set j (f xs[j] (markK f xs k j)).1 = markTo f xs k (j + 1) := by
  simp only [markTo, markK]
  rw [List.set_append_right _ _ (by rw [markL_len]; simp; omega), markL_len]
  have h1 : j - (List.take j xs).length = 0 := by simp; omega
  rw [h1, List.drop_eq_getElem_cons hj, List.set_cons_zero, List.take_succ_eq_append_getElem (l := xs) hj, markL_app, List.append_assoc]
  rfl
theorem markK_succ {xs : List α} {k : Int} {j : Nat} (hj : j < xs.length) : markK f xs k (j + 1) = (f xs[j] (markK f xs k j)).2 := by
  simp only [markK]
  rw [List.take_succ_eq_append_getElem (l := xs) hj, markL_app]
theorem markTo_done (xs : List α) (k : Int) : markTo f xs k xs.length = (markL f xs k).1 := by simp [markTo]
theorem markK_done (xs : List α) (k : Int) : markK f xs k xs.length = (markL f xs k).2 := by simp [markK]
theorem markL_at : ∀ {xs : List α} {k : Int} {j : Nat} (hj : j < xs.length), (markL f xs k).1[j]'(by rw [markL_len]; exact hj) = (f xs[j] (markK f xs k j)).1
  | [], k, j, h => by simp at h
  | x :: xs, k, 0, h => by simp [markL, markK]
  | x :: xs, k, j + 1, h => by
    have := markL_at (xs := xs) (k := (f x k).2) (j := j) (by simpa using h)
    simp only [markL, List.getElem_cons_succ, this, markK, List.take_succ_cons]
theorem markL_at' {xs ys : List α} {k : Int} (h : (markL f xs k).1 = ys) {j : Nat} (hj : j < xs.length) : ys[j]'(by rw [← h, markL_len]; exact hj) = (f (xs[j]'hj) (markK f xs k j)).1 := by
  subst h; exact markL_at f hj
theorem markK_bound {c : α → Nat} (hc : ∀ x k, (f x k).2 = k + c x) {xs : List α} {k M : Int} (h0 : 0 ≤ k) (h1 : k + cntL c xs ≤ M) {j : Nat} (hj : j < xs.length) : 0 ≤ markK f xs k j ∧ markK f xs k j + c xs[j] ≤ M := by
  have := cntL_take (c := c) hj
  simp only [markK, markL_cnt f hc]
  omega
end
theorem cntL_le {α : Type} {c : α → Nat} {M : Nat} : ∀ {xs : List α}, (∀ x ∈ xs, c x ≤ M) → cntL c xs ≤ M * xs.length
  | [], _ => by simp [cntL]
  | x :: xs, h => by
    have h1 := h x (List.mem_cons_self ..)
    have h2 := cntL_le (c := c) (M := M) (xs := xs) fun y hy => h y (List.mem_cons_of_mem _ hy)
    simp only [cntL, List.length_cons, Nat.mul_add, Nat.mul_one]; omega
end Go.Proofs.Ytibhoanjglfaoaa

/- Sizes of data (printed by mktot.py) -/
namespace Go.Proofs.Ytibhoanjglfaoaa
open Go.RowKit
set_option linter.unusedVariables false

def totL {α : Type} (c : α → Nat) (xs : List α) : Nat := xs.length + cntL c xs
def szR (n : Nat) (left : Int) : Int := if (n : Int) ≤ left then left - n else -1
theorem szR_le {n : Nat} {l : Int} (h : (n : Int) ≤ l) : szR n l = l - n := if_pos h
theorem szR_gt {n : Nat} {l : Int} (h : l < (n : Int)) : szR n l = -1 := if_neg (by omega)
theorem szR_neg {n : Nat} {l : Int} (h : szR n l < 0) : l < (n : Int) := by
  unfold szR at h; split at h <;> omega
theorem szR_nonneg {n : Nat} {l : Int} (h : 0 ≤ szR n l) : (n : Int) ≤ l ∧ szR n l = l - n := by
  unfold szR at *; split at h
  · rename_i h1; exact ⟨h1, if_pos h1⟩
  · omega
theorem cntL_snoc {α : Type} {c : α → Nat} {xs : List α} {k : Nat} (hk : k < xs.length) : cntL c (xs.take (k + 1)) = cntL c (xs.take k) + c xs[k] := by
  rw [List.take_succ_eq_append_getElem hk]
  generalize xs.take k = ys
  generalize xs[k] = y
  induction ys with
  | nil => simp [cntL]
  | cons z zs ih => simp only [List.cons_append, cntL, ih]; omega
theorem cntL_all {α : Type} {c : α → Nat} {xs : List α} {k : Nat} (hk : xs.length ≤ k) : cntL c (xs.take k) = cntL c xs := by rw [List.take_of_length_le hk]
theorem cntL_mem {α : Type} {c : α → Nat} : ∀ {xs : List α} {x : α}, x ∈ xs → c x ≤ cntL c xs
  | y :: ys, x, h => by
    rcases List.mem_cons.1 h with rfl | h
    · simp only [cntL]; omega
    · have := cntL_mem (c := c) h; simp only [cntL]; omega

def totString (x : ByteArray) : Nat := x.size
def totValue (x : Val) : Nat := x.s.size
def totRow (x : List Val) : Nat := totL totValue x
def totRel (x : Relt) : Nat := totL totRow x.rows
end Go.Proofs.Ytibhoanjglfaoaa

/- The laws' own functions: GenC (printed by gen.py) -/
namespace Go.Proofs.Ytibhoanjglfaoaa
open Go.RowKit
set_option linter.unusedVariables false
set_option maxRecDepth 100000

structure Namedt where
  name : ByteArray
  rel : Relt
def namedE : Enc Namedt := isoE (pairE strE (pairE relE unitE)) (fun x => (x.name, x.rel, ()))
theorem Named_rep {w : World} {cs : List Value} {x : Namedt} {bs : List Nat} : namedE.rep w cs x bs ↔ ∃ (sa0 : Option Addr) (sn0 sc0 : Nat) (sb0 : List Nat), cs = [.string x.name, .int .i64 x.rel.arity, .slice sa0 sn0 sc0] ∧ x.name.size ≤ maxLen ∧ (Lit.int .i64 x.rel.arity).wf = true ∧ SliceRep rowE w sa0 sn0 sc0 x.rel.rows sb0 ∧ bs = sb0 := by
  constructor
  · rintro ⟨c0, r0, d0, q0, rfl, rfl, h0, c1, r1, d1, q1, rfl, rfl, h1, rfl, rfl⟩
    obtain ⟨rfl, f0, rfl⟩ := h0
    obtain ⟨va0, vn0, vc0, vb0, rfl, f1_0, f1_1, hbs⟩ := Rel_rep.1 h1
    obtain rfl := hbs.symm
    exact ⟨_, _, _, _, by simp, f0, f1_0, f1_1, by simp⟩
  · rintro ⟨sa0, sn0, sc0, sb0, rfl, f0, f1, f2, hbs⟩
    obtain rfl := hbs.symm
    exact ⟨[.string x.name], [.int .i64 x.rel.arity, .slice sa0 sn0 sc0], [], (sb0), rfl, by simp, ⟨rfl, f0, rfl⟩, ⟨[.int .i64 x.rel.arity, .slice sa0 sn0 sc0], [], (sb0), [], rfl, by simp, Rel_rep.2 ⟨sa0, sn0, sc0, sb0, rfl, f1, f2, rfl⟩, ⟨rfl, rfl⟩⟩⟩
theorem opens_lNamed : Opens Try.prog namedE 121 :=
  opens_iso (fun x => ⟨x.1, x.2.1⟩) (fun _ => rfl) (opens_struct Try.underlying121 (by kernel_rfl) (opensF_cons rfl (by kernel_rfl) (opens_string Try.underlying9) (opensF_cons rfl (by kernel_rfl) opens_lRel opensF_nil)))
def smallNamed (x : Namedt) : Prop := x.name.size ≤ 1048576 ∧ smallRel x.rel

set_option maxHeartbeats 800000 in
theorem szNamed_any (cs : List Value) (x : Namedt) (bs : List Nat) (left : Int) (w : World) (h : namedE.rep w cs x bs) (l0 : 0 ≤ left) (l1 : left ≤ 1048576) :
    Calls Try.prog 93 #[.agg cs.toArray, .int .i64 left] w (RetSz (smallNamed x) left w) := by
  obtain ⟨sa0, sn0, sc0, sb0, rfl, f0, f1, f2, hbs⟩ := Named_rep.1 h
  obtain rfl := hbs.symm
  unfold maxLen at *
  have H := ((Held.start w).box_ #[.string x.name, .int .i64 x.rel.arity, .slice sa0 sn0 sc0] 121).s1
  go_enter Try.func93, Try.ntmps93
  by_cases n0 : left - (x.name.size : Int) < 0
  · go_wp2_with fail
    go_ret
    exact ⟨-1, rfl, by omega, by omega, fun h => absurd h (by omega), H.1.below⟩
  · have m0 : 0 ≤ left - (x.name.size : Int) := by omega
    go_wp2_with fail
    refine (szRel_any _ x.rel _ _ _ (Rel_rep.2 ⟨sa0, sn0, sc0, sb0, rfl, f1, f2.up H.1.below, rfl⟩) (by omega) (by omega)).mono ?_
    rintro e w1 ⟨r1, rfl, g1, k1, s1, hb⟩
    replace H := (H.1.up hb).s1
    clear hb
    by_cases n1 : r1 < 0
    · go_wp2_with fail
      go_ret
      exact ⟨-1, rfl, by omega, by omega, fun h => absurd h (by omega), H.1.below⟩
    · have m1 : 0 ≤ r1 := by omega
      go_wp2_with fail
      go_ret
      exact ⟨r1, rfl, by omega, by omega, fun _ => by unfold smallNamed; exact ⟨(show x.name.size ≤ 1048576 by omega), s1 m1⟩, H.1.below⟩

set_option maxHeartbeats 800000 in
theorem eqNamed_any (cs ds : List Value) (x : Namedt) (bs bs' : List Nat) (w : World) (h : namedE.rep w cs x bs) (h' : namedE.rep w ds x bs') :
    Calls Try.prog 98 #[.agg cs.toArray, .agg ds.toArray] w fun e w' => e = .returned (.bool true) ∧ Below w.heap.size w w' := by
  obtain ⟨sa0, sn0, sc0, sb0, rfl, f0, f1, f2, hbs⟩ := Named_rep.1 h
  obtain rfl := hbs.symm
  obtain ⟨say0, sny0, scy0, sby0, rfl, g0, g1, g2, hbs⟩ := Named_rep.1 h'
  obtain rfl := hbs.symm
  have H := ((Held.start w).box_ #[.string x.name, .int .i64 x.rel.arity, .slice sa0 sn0 sc0] 89).box_ #[.string x.name, .int .i64 x.rel.arity, .slice say0 sny0 scy0] 89
  rw [show (w.alloc (.cells #[.string x.name, .int .i64 x.rel.arity, .slice sa0 sn0 sc0] 89)).heap.size = w.heap.size + 1 by simp] at H
  replace H := H.s2
  go_enter Try.func98, Try.ntmps98
  go_wp2_with fail
  refine (eqRel_any _ _ x.rel _ _ _ (Rel_rep.2 ⟨sa0, sn0, sc0, sb0, rfl, f1, f2.up H.1.below, rfl⟩) (Rel_rep.2 ⟨say0, sny0, scy0, sby0, rfl, g1, g2.up H.1.below, rfl⟩)).mono ?_
  rintro e w1 ⟨rfl, hb⟩
  replace H := (H.1.up hb).s2
  clear hb
  go_wp2_with fail
  go_ret
  exact ⟨rfl, H.1.below⟩

set_option maxHeartbeats 1600000 in
theorem toNamed_any (cs : List Value) (x : Namedt) (bs : List Nat) (w : World) (h : namedE.rep w cs x bs) (hsm : smallNamed x) :
    Calls Try.prog 95 #[.agg cs.toArray] w (RetAgg namedE w x) := by
  obtain ⟨sa0, sn0, sc0, sb0, rfl, f0, f1, f2, hbs⟩ := Named_rep.1 h
  obtain rfl := hbs.symm
  have HSM := Lib.hid hsm
  clear hsm h
  have H := Three.start w #[.string x.name, .int .i64 x.rel.arity, .slice sa0 sn0 sc0] #[.string ⟨#[]⟩, .int .i64 0, .slice none 0 0] #[.string x.name, .int .i64 0, .slice none 0 0] 121 89 89
  go_enter Try.func95, Try.ntmps95
  go_wp2_with fail
  generalize ((w.alloc (.cells #[.string x.name, .int .i64 x.rel.arity, .slice sa0 sn0 sc0] 121)).alloc (.cells #[.string ⟨#[]⟩, .int .i64 0, .slice none 0 0] 89)).alloc (.cells #[.string x.name, .int .i64 0, .slice none 0 0] 89) = w0 at *
  have hz0 := H.lt
  have ca0 := H.a.cell
  refine (toRel_any _ x.rel _ _ (Rel_rep.2 ⟨sa0, sn0, sc0, sb0, rfl, f1, f2.up H.below, rfl⟩) HSM.out.2).mono ?_
  rintro e w1 ⟨cz0, bz0, rfl, hrz0, F0, hb⟩
  obtain ⟨sar0_0, snr0_0, scr0_0, sbr0_0, hcz, _, q0_0, hbz⟩ := Rel_rep.1 hrz0
  obtain rfl : cz0 = #[.int .i64 x.rel.arity, .slice sar0_0 snr0_0 scr0_0] := by cases cz0; simpa using hcz
  obtain rfl := hbz.symm
  clear hcz hrz0
  replace H := H.up hb
  clear hb ca0
  have hcz0 := H.c.cell
  have hfz0 := H.c.free
  have H0_0 : Three w #[.string x.name, .int .i64 x.rel.arity, .slice sa0 sn0 sc0] #[.string ⟨#[]⟩, .int .i64 0, .slice none 0 0] #[.string x.name, .int .i64 x.rel.arity, .slice none 0 0] _ := H.set 1 (.int .i64 x.rel.arity) (by simp) rfl
  have H0_1 : Three w #[.string x.name, .int .i64 x.rel.arity, .slice sa0 sn0 sc0] #[.string ⟨#[]⟩, .int .i64 0, .slice none 0 0] #[.string x.name, .int .i64 x.rel.arity, .slice sar0_0 snr0_0 scr0_0] _ := H0_0.set 2 (.slice sar0_0 snr0_0 scr0_0) (by simp) rfl
  have hS0 := (((Same.refl (w.heap.size + 1 + 1 + 1) w1).set (g := w.heap.size + 1 + 1) (by omega) 1 (.int .i64 x.rel.arity)).set (g := w.heap.size + 1 + 1) (by omega) 2 (.slice sar0_0 snr0_0 scr0_0))
  have hge0 : ∀ c ∈ sbr0_0, w.heap.size + 1 + 1 + 1 ≤ c := fun c hc => Nat.le_trans hz0 (F0.ge c hc)
  replace q0_0 := q0_0.same hS0 hge0
  replace F0 := F0.same hS0 hge0
  replace H := H0_1
  have dz := H.z.cell
  have ez := H.z.free
  have hcc := H.c.cell
  go_wp2_with fail
  refine bodyPost_ret (v := .agg #[.string x.name, .int .i64 x.rel.arity, .slice sar0_0 snr0_0 scr0_0]) (by simp [results, Try.results95, go_sem, dz]; try rfl) rfl ?_
  have hSf := ((((Same.refl (w.heap.size + 1 + 1 + 1) ((w1.setCell ⟨w.heap.size + 1 + 1, 1, none⟩ (.int .i64 x.rel.arity)).setCell ⟨w.heap.size + 1 + 1, 2, none⟩ (.slice sar0_0 snr0_0 scr0_0))).set (g := w.heap.size + 1) (by omega) 0 (.string x.name)).set (g := w.heap.size + 1) (by omega) 1 (.int .i64 x.rel.arity)).set (g := w.heap.size + 1) (by omega) 2 (.slice sar0_0 snr0_0 scr0_0))
  refine ⟨#[.string x.name, .int .i64 x.rel.arity, .slice sar0_0 snr0_0 scr0_0], _, rfl, Named_rep.2 ⟨sar0_0, snr0_0, scr0_0, _, rfl, f0, f1, q0_0.same hSf hge0, rfl⟩, ?_, (((H.below.setCell (p := ⟨w.heap.size + 1, 0, none⟩) (by simp) (.string x.name)).setCell (p := ⟨w.heap.size + 1, 1, none⟩) (by simp) (.int .i64 x.rel.arity)).setCell (p := ⟨w.heap.size + 1, 2, none⟩) (by simp) (.slice sar0_0 snr0_0 scr0_0))⟩
  exact ((F0.same hSf hge0).mono (by omega))

set_option maxHeartbeats 800000 in
theorem szNamedS_any (a : Option Addr) (n cap : Nat) (xs : List (Namedt)) (bs : List Nat) (left : Int) (w : World) (h : SliceRep namedE w a n cap xs bs) (l0 : 0 ≤ left) (l1 : left ≤ 1048576) :
    Calls Try.prog 44 #[.slice a n cap, .int .i64 left] w (RetSz (xs.length ≤ 1048576 ∧ ∀ y ∈ xs, smallNamed y) left w) := by
  have hmax := h.max
  obtain rfl := h.1
  by_cases n0 : left - (xs.length : Int) < 0
  · go_enter Try.func44, Try.ntmps44
    go_wp2_with fail
    go_ret
    exact ⟨-1, rfl, by omega, by omega, fun h => absurd h (by omega), Below.refl _ _⟩
  · have m0 : 0 ≤ left - (xs.length : Int) := by omega
    go_enter Try.func44, Try.ntmps44
    go_wp2_with fail
    go_loopw [1, 5] (fun l i W => ∃ (k : Nat) (r : Int), k ≤ xs.length ∧ i = .int .i64 k ∧ l = .int .i64 r ∧ 0 ≤ r ∧ r ≤ left ∧ AllTo smallNamed xs k ∧ Below w.heap.size w W) (fun _ i _ => xs.length - (intOf i).toNat)
    case atStart => exact ⟨0, _, Nat.zero_le _, rfl, rfl, m0, by omega, .zero, Below.refl _ _⟩
    case round =>
      obtain ⟨k, r, hk, rfl, rfl, r0, r1, hall, hB⟩ := hrel
      by_cases hlt : k < xs.length
      · obtain ⟨g, off, cs, bk, rfl, hr, hc, hbk, _⟩ := (h.up hB).get hlt
        obtain ⟨sa0, sn0, sc0, sb0, rfl, f0, f1, f2, hbs⟩ := Named_rep.1 hr
        obtain rfl := hbs.symm
        have c0 : wr.cell? ⟨g, off + k * 3, none⟩ = some (.string xs[k].name) := hc 0 _ rfl
        have c1 : wr.cell? ⟨g, off + k * 3 + 1, none⟩ = some (.int .i64 xs[k].rel.arity) := hc 1 _ rfl
        have c2 : wr.cell? ⟨g, off + k * 3 + 2, none⟩ = some (.slice sa0 sn0 sc0) := hc 2 _ rfl
        clear hc
        go_wp2_with fail
        refine (szNamed_any _ xs[k] _ _ _ hr r0 (by omega)).mono ?_
        rintro e w1 ⟨r', rfl, g0, g1, hs, hb⟩
        have hB1 := below_up hB hb (Nat.le_refl _)
        clear hb
        by_cases n1 : r' < 0
        · go_wp2_with fail
          go_ret
          exact ⟨-1, rfl, by omega, by omega, fun h => absurd h (by omega), hB1⟩
        · have m1 : 0 ≤ r' := by omega
          have hall1 := hall.succ hlt (hs m1)
          go_wp2_with fail
          go_roundw
          case rel => exact ⟨k + 1, r', by omega, by go_num, rfl, m1, by omega, hall1, hB1⟩
          case measure => simp [intOf]; omega
      · obtain rfl : k = xs.length := by omega
        have hall1 := hall.done
        clear hall
        go_wp2_with fail
        go_ret
        exact ⟨r, rfl, by omega, by omega, fun _ => ⟨by omega, hall1⟩, hB⟩

set_option maxHeartbeats 1600000 in
theorem eqNamedS_any (a : Option Addr) (n cap : Nat) (a' : Option Addr) (n' cap' : Nat) (xs : List (Namedt)) (bs bs' : List Nat) (w : World) (h : SliceRep namedE w a n cap xs bs) (h' : SliceRep namedE w a' n' cap' xs bs') :
    Calls Try.prog 53 #[.slice a n cap, .slice a' n' cap'] w fun e w' => e = .returned (.bool true) ∧ Below w.heap.size w w' := by
  have hmax := h.max
  obtain rfl := h.1
  obtain rfl := h'.1
  go_enter Try.func53, Try.ntmps53
  go_wp2_with fail
  go_loopw [5] (fun i W => ∃ (k : Nat), k ≤ xs.length ∧ i = .int .i64 k ∧ Below w.heap.size w W) (fun i _ => xs.length - (intOf i).toNat)
  case atStart => exact ⟨0, Nat.zero_le _, rfl, Below.refl _ _⟩
  case round =>
    obtain ⟨k, hk, rfl, hB⟩ := hrel
    by_cases hlt : k < xs.length
    · obtain ⟨g, off, cs, bk, rfl, hr, hc, hbk, _⟩ := (h.up hB).get hlt
      obtain ⟨sa0, sn0, sc0, sb0, rfl, f0, f1, f2, hbs⟩ := Named_rep.1 hr
      obtain rfl := hbs.symm
      have c0 : wr.cell? ⟨g, off + k * 3, none⟩ = some (.string xs[k].name) := hc 0 _ rfl
      have c1 : wr.cell? ⟨g, off + k * 3 + 1, none⟩ = some (.int .i64 xs[k].rel.arity) := hc 1 _ rfl
      have c2 : wr.cell? ⟨g, off + k * 3 + 2, none⟩ = some (.slice sa0 sn0 sc0) := hc 2 _ rfl
      clear hc
      have hlty := hlt
      obtain ⟨g', off', csy, bky, rfl, hry, hcy, hbky, _⟩ := (h'.up hB).get hlty
      obtain ⟨say0, sny0, scy0, sby0, rfl, p0, p1, p2, hbs⟩ := Named_rep.1 hry
      obtain rfl := hbs.symm
      have d0 : wr.cell? ⟨g', off' + k * 3, none⟩ = some (.string xs[k].name) := hcy 0 _ rfl
      have d1 : wr.cell? ⟨g', off' + k * 3 + 1, none⟩ = some (.int .i64 xs[k].rel.arity) := hcy 1 _ rfl
      have d2 : wr.cell? ⟨g', off' + k * 3 + 2, none⟩ = some (.slice say0 sny0 scy0) := hcy 2 _ rfl
      clear hcy
      have i0 : (0 : Int) ≤ (k : Int) := by omega
      have i1 : (k : Int) < (xs.length : Int) := by omega
      have K : Kept w [(⟨g, off + k * 3, none⟩, .string xs[k].name), (⟨g, off + k * 3 + 1, none⟩, .int .i64 xs[k].rel.arity), (⟨g, off + k * 3 + 2, none⟩, .slice sa0 sn0 sc0), (⟨g', off' + k * 3, none⟩, .string xs[k].name), (⟨g', off' + k * 3 + 1, none⟩, .int .i64 xs[k].rel.arity), (⟨g', off' + k * 3 + 2, none⟩, .slice say0 sny0 scy0)] wr := (((((((Kept.at_ hB).cons d2).cons d1).cons d0).cons c2).cons c1).cons c0)
      go_wp2_with fail
      go_region_held3 (fun W => Kept w [(⟨g, off + k * 3, none⟩, .string xs[k].name), (⟨g, off + k * 3 + 1, none⟩, .int .i64 xs[k].rel.arity), (⟨g, off + k * 3 + 2, none⟩, .slice sa0 sn0 sc0), (⟨g', off' + k * 3, none⟩, .string xs[k].name), (⟨g', off' + k * 3 + 1, none⟩, .int .i64 xs[k].rel.arity), (⟨g', off' + k * 3 + 2, none⟩, .slice say0 sny0 scy0)] W ∧ W.cell? ⟨g, off + k * 3, none⟩ = some (.string xs[k].name) ∧ W.cell? ⟨g, off + k * 3 + 1, none⟩ = some (.int .i64 xs[k].rel.arity) ∧ W.cell? ⟨g, off + k * 3 + 2, none⟩ = some (.slice sa0 sn0 sc0) ∧ W.cell? ⟨g', off' + k * 3, none⟩ = some (.string xs[k].name) ∧ W.cell? ⟨g', off' + k * 3 + 1, none⟩ = some (.int .i64 xs[k].rel.arity) ∧ W.cell? ⟨g', off' + k * 3 + 2, none⟩ = some (.slice say0 sny0 scy0))
        (first | exact Kept.c6 (Kept.up (by assumption) (And.left (by assumption))) | exact K.drew.c6)
        ((go_at_call 98; refine (eqNamed_any _ _ xs[k] _ _ _ (namedE.up hr (by first | exact (Below.refl _ _).drew | exact (Below.refl _ _))) (namedE.up hry (by first | exact (Below.refl _ _).drew | exact (Below.refl _ _)))).mono ?_; rintro e w3 ⟨rfl, hb3⟩))
      rename_i hh
      have hB1 := hh.1.1
      clear hh K c0 c1 c2 d0 d1 d2
      go_wp2_with fail
      go_roundw
      case rel => exact ⟨k + 1, by omega, by go_num, hB1⟩
      case measure => simp [intOf]; omega
    · obtain rfl : k = xs.length := by omega
      go_wp2_with fail
      go_ret
      exact ⟨rfl, hB⟩

theorem zeroNamed (w : World) : namedE.rep w [.string ⟨#[]⟩, .int .i64 0, .slice none 0 0] ⟨ByteArray.empty, ⟨0, []⟩⟩ [] := by
  exact Named_rep.2 ⟨none, 0, 0, [], rfl, by simp, by decide, ⟨rfl, Nat.le_refl _, Nat.zero_le _, (fun _ => rfl), .inl ⟨rfl, rfl⟩⟩, rfl⟩
theorem infoNamed : (Try.prog.info? 89).map (fun i => (i.zero, i.size, i.bytes)) = some (some (.agg #[.string ⟨#[]⟩, .int .i64 0, .slice none 0 0]), 3, 48) := by kernel_rfl
set_option maxHeartbeats 1600000 in
theorem toNamedS_any (a : Option Addr) (n cap : Nat) (xs : List (Namedt)) (bs : List Nat) (w : World) (h : SliceRep namedE w a n cap xs bs) (hsm : xs.length ≤ 1048576 ∧ ∀ y ∈ xs, smallNamed y) :
    Calls Try.prog 48 #[.slice a n cap] w (RetSlice namedE w xs) := by
  have hmax := h.max
  have hsm0 := hsm.1
  have HSM := Lib.hid hsm.2
  clear hsm
  obtain rfl := h.1
  obtain ⟨i0, hi, hz0, hz1, hz2⟩ := info_parts infoNamed
  have hmk := fun W => run_make_rowN (P := Try.prog) 31 89 i0 _ Try.underlying31 hi hz0 .i64 .i64 xs.length xs.length (Nat.le_refl _) (by rw [hz2]; omega) hmax W
  rw [hz1] at hmk
  clear hi hz0 hz1 hz2
  go_enter Try.func48, Try.ntmps48
  go_wp2_with fail
  obtain ⟨bs0, hS0, hF0⟩ := SliceRep.made (e := namedE) (z := #[.string ⟨#[]⟩, .int .i64 0, .slice none 0 0]) (x0 := ⟨ByteArray.empty, ⟨0, []⟩⟩) (fun w => zeroNamed w) (by decide) xs.length (by unfold maxLen; omega) w 89
  have hb0 := (Below.refl w.heap.size w).alloc (Nat.le_refl _) (.cells (madeCells #[.string ⟨#[]⟩, .int .i64 0, .slice none 0 0] (xs.length * namedE.size)) 89)
  have hg0 : w.heap.size < (w.alloc (.cells (madeCells #[.string ⟨#[]⟩, .int .i64 0, .slice none 0 0] (xs.length * namedE.size)) 89)).heap.size := by simp
  rw [show namedE.size = 3 from rfl] at hS0 hF0 hb0 hg0
  generalize w.alloc (.cells (madeCells #[.string ⟨#[]⟩, .int .i64 0, .slice none 0 0] (xs.length * 3)) 89) = w0 at *
  clear hmk
  go_loopw [4] (fun i W => ∃ (k : Nat) (ys : List (Namedt)) (bs' : List Nat), k ≤ xs.length ∧ i = .int .i64 k ∧ Filled xs ⟨ByteArray.empty, ⟨0, []⟩⟩ k ys ∧ SliceRep namedE W (some ⟨w.heap.size, 0, none⟩) xs.length xs.length ys bs' ∧ Fresh w.heap.size W bs' ∧ Below w.heap.size w W ∧ w.heap.size < W.heap.size) (fun i _ => xs.length - (intOf i).toNat)
  case atStart => exact ⟨0, _, bs0, Nat.zero_le _, rfl, .zero, hS0, hF0, hb0, hg0⟩
  case round =>
    clear hS0 hF0 hb0 hg0
    obtain ⟨k, ys, bs', hk, rfl, hfill, hS, hF, hB, hG⟩ := hrel
    by_cases hlt : k < xs.length
    · obtain ⟨g, off, cs, bk, rfl, hr, hc, hbk, _⟩ := (h.up hB).get hlt
      obtain ⟨sa0, sn0, sc0, sb0, rfl, f0, f1, f2, hbs⟩ := Named_rep.1 hr
      obtain rfl := hbs.symm
      have c0 : wr.cell? ⟨g, off + k * 3, none⟩ = some (.string xs[k].name) := hc 0 _ rfl
      have c1 : wr.cell? ⟨g, off + k * 3 + 1, none⟩ = some (.int .i64 xs[k].rel.arity) := hc 1 _ rfl
      have c2 : wr.cell? ⟨g, off + k * 3 + 2, none⟩ = some (.slice sa0 sn0 sc0) := hc 2 _ rfl
      clear hc
      go_wp2_with fail
      refine (toNamed_any _ xs[k] _ _ hr (HSM.out _ (List.getElem_mem hlt))).mono ?_
      rintro e w1 ⟨cz, bz, rfl, hrz, hFz, hb1⟩
      have hcz := Named_rep.1 hrz
      obtain ⟨saz0, snz0, scz0, sbz0, hcz, q0, q1, q2, hbz⟩ := hcz
      obtain rfl : cz = #[.string xs[k].name, .int .i64 xs[k].rel.arity, .slice saz0 snz0 scz0] := by cases cz; simpa using hcz
      clear hcz
      have hS1 := hS.up hb1
      have hF1 := hF.up hb1
      have hB1 := below_up hB hb1 (Nat.le_refl _)
      have hly := hfill.len hk
      have hdis : ∀ c ∈ bz, c ∉ bs' := fun c hc hc' => by have h1 := (hFz.2 c hc).1; have h2 := hF.lt c hc'; omega
      have hFz1 : Fresh w.heap.size w1 bz := hFz.mono (Nat.le_of_lt hG)
      obtain ⟨cs1, bo, hr1, _, hsl⟩ := hS1.slot hF1 (k := k) (by omega)
      obtain ⟨sao0, sno0, sco0, sbo0, rfl, _, _, _, hbo⟩ := Named_rep.1 hr1
      have s0 := hsl 0 _ rfl
      have s1 := hsl 1 _ rfl
      have s2 := hsl 2 _ rfl
      rw [Nat.zero_add, show namedE.size = 3 from rfl] at s0 s1 s2
      simp only [Nat.add_zero] at s0
      clear hsl
      obtain ⟨bs2, hS2, hF2, _⟩ := hS1.store hF1 (by decide) (k := k) (by omega) hrz hFz1 hdis
      have hB2 := setCells_below (Nat.le_refl w.heap.size) [.string xs[k].name, .int .i64 xs[k].rel.arity, .slice saz0 snz0 scz0] w1 (0 + k * namedE.size) hB1
      have hG2 : w.heap.size < (setCells w1 w.heap.size (0 + k * namedE.size) [.string xs[k].name, .int .i64 xs[k].rel.arity, .slice saz0 snz0 scz0]).heap.size := by rw [setCells_size]; have := hb1.size; omega
      rw [Nat.zero_add, show namedE.size = 3 from rfl] at hS2 hF2 hB2 hG2
      have hf2 := hfill.succ hlt
      clear hfill hS hF hS1 hF1 hdis c0 c1 c2 
      go_wp2_with fail
      go_roundw
      case rel => exact ⟨k + 1, _, bs2, by omega, by go_num, hf2, hS2, hF2, hB2, hG2⟩
      case measure => simp [intOf]; omega
    · obtain rfl : k = xs.length := by omega
      obtain rfl := hfill.done
      go_wp2_with fail
      go_ret
      exact ⟨_, _, _, _, rfl, hS, hF, hB⟩

structure Storet where
  rels : List (Namedt)
def storeE : Enc Storet := isoE (pairE (sliceE namedE) unitE) (fun x => (x.rels, ()))
theorem Store_rep {w : World} {cs : List Value} {x : Storet} {bs : List Nat} : storeE.rep w cs x bs ↔ ∃ (sa0 : Option Addr) (sn0 sc0 : Nat) (sb0 : List Nat), cs = [.slice sa0 sn0 sc0] ∧ SliceRep namedE w sa0 sn0 sc0 x.rels sb0 ∧ bs = sb0 := by
  constructor
  · rintro ⟨c0, r0, d0, q0, rfl, rfl, h0, rfl, rfl⟩
    obtain ⟨va0, vn0, vc0, rfl, f0⟩ := h0
    exact ⟨va0, vn0, vc0, _, by simp, f0, by simp⟩
  · rintro ⟨sa0, sn0, sc0, sb0, rfl, f0, hbs⟩
    obtain rfl := hbs.symm
    exact ⟨[.slice sa0 sn0 sc0], [], sb0, [], rfl, by simp, ⟨sa0, sn0, sc0, rfl, f0⟩, ⟨rfl, rfl⟩⟩
theorem opens_lStore : Opens Try.prog storeE 24 :=
  opens_iso (fun x => ⟨x.1⟩) (fun _ => rfl) (opens_struct Try.underlying24 (by kernel_rfl) (opensF_cons rfl (by kernel_rfl) (opens_slice Try.underlying22 (by kernel_rfl) (by decide) opens_lNamed) opensF_nil))
def smallStore (x : Storet) : Prop := (x.rels.length ≤ 1048576 ∧ ∀ y ∈ x.rels, smallNamed y)

set_option maxHeartbeats 800000 in
theorem szStore_any (cs : List Value) (x : Storet) (bs : List Nat) (left : Int) (w : World) (h : storeE.rep w cs x bs) (l0 : 0 ≤ left) (l1 : left ≤ 1048576) :
    Calls Try.prog 10 #[.agg cs.toArray, .int .i64 left] w (RetSz (smallStore x) left w) := by
  obtain ⟨sa0, sn0, sc0, sb0, rfl, f0, hbs⟩ := Store_rep.1 h
  obtain rfl := hbs.symm
  have H := ((Held.start w).box_ #[.slice sa0 sn0 sc0] 24).s1
  go_enter Try.func10, Try.ntmps10
  go_wp2_with fail
  refine (szNamedS_any sa0 sn0 sc0 x.rels sb0 _ _ (f0.up H.1.below) (by omega) (by omega)).mono ?_
  rintro e w0 ⟨r0, rfl, g0, k0, s0, hb⟩
  replace H := (H.1.up hb).s1
  clear hb
  by_cases n0 : r0 < 0
  · go_wp2_with fail
    go_ret
    exact ⟨-1, rfl, by omega, by omega, fun h => absurd h (by omega), H.1.below⟩
  · have m0 : 0 ≤ r0 := by omega
    go_wp2_with fail
    go_ret
    exact ⟨r0, rfl, by omega, by omega, fun _ => by unfold smallStore; exact s0 m0, H.1.below⟩

set_option maxHeartbeats 800000 in
theorem eqStore_any (cs ds : List Value) (x : Storet) (bs bs' : List Nat) (w : World) (h : storeE.rep w cs x bs) (h' : storeE.rep w ds x bs') :
    Calls Try.prog 15 #[.agg cs.toArray, .agg ds.toArray] w fun e w' => e = .returned (.bool true) ∧ Below w.heap.size w w' := by
  obtain ⟨sa0, sn0, sc0, sb0, rfl, f0, hbs⟩ := Store_rep.1 h
  obtain rfl := hbs.symm
  obtain ⟨say0, sny0, scy0, sby0, rfl, g0, hbs⟩ := Store_rep.1 h'
  obtain rfl := hbs.symm
  have H := ((Held.start w).box_ #[.slice sa0 sn0 sc0] 33).box_ #[.slice say0 sny0 scy0] 33
  rw [show (w.alloc (.cells #[.slice sa0 sn0 sc0] 33)).heap.size = w.heap.size + 1 by simp] at H
  replace H := H.s2
  go_enter Try.func15, Try.ntmps15
  go_wp2_with fail
  refine (eqNamedS_any _ _ _ _ _ _ x.rels _ _ _ (f0.up H.1.below) (g0.up H.1.below)).mono ?_
  rintro e w0 ⟨rfl, hb⟩
  replace H := (H.1.up hb).s2
  clear hb
  go_wp2_with fail
  go_ret
  exact ⟨rfl, H.1.below⟩

set_option maxHeartbeats 1600000 in
theorem toStore_any (cs : List Value) (x : Storet) (bs : List Nat) (w : World) (h : storeE.rep w cs x bs) (hsm : smallStore x) :
    Calls Try.prog 12 #[.agg cs.toArray] w (RetAgg storeE w x) := by
  obtain ⟨sa0, sn0, sc0, sb0, rfl, f0, hbs⟩ := Store_rep.1 h
  obtain rfl := hbs.symm
  have HSM := Lib.hid hsm
  clear hsm h
  have H := Three.start w #[.slice sa0 sn0 sc0] #[.slice none 0 0] #[.slice none 0 0] 24 33 33
  go_enter Try.func12, Try.ntmps12
  go_wp2_with fail
  generalize ((w.alloc (.cells #[.slice sa0 sn0 sc0] 24)).alloc (.cells #[.slice none 0 0] 33)).alloc (.cells #[.slice none 0 0] 33) = w0 at *
  have hz0 := H.lt
  have ca0 := H.a.cell
  refine (toNamedS_any _ _ _ x.rels _ _ (f0.up H.below) HSM.out).mono ?_
  rintro e w1 ⟨ra0, rn0, rc0, rb0, rfl, q0_0, F0, hb⟩
  replace H := H.up hb
  clear hb ca0
  have hcz0 := H.c.cell
  have hfz0 := H.c.free
  have H0_0 : Three w #[.slice sa0 sn0 sc0] #[.slice none 0 0] #[.slice ra0 rn0 rc0] _ := H.set 0 (.slice ra0 rn0 rc0) (by simp) rfl
  have hS0 := ((Same.refl (w.heap.size + 1 + 1 + 1) w1).set (g := w.heap.size + 1 + 1) (by omega) 0 (.slice ra0 rn0 rc0))
  have hge0 : ∀ c ∈ rb0, w.heap.size + 1 + 1 + 1 ≤ c := fun c hc => Nat.le_trans hz0 (F0.ge c hc)
  replace q0_0 := q0_0.same hS0 hge0
  replace F0 := F0.same hS0 hge0
  replace H := H0_0
  have dz := H.z.cell
  have ez := H.z.free
  have hcc := H.c.cell
  go_wp2_with fail
  refine bodyPost_ret (v := .agg #[.slice ra0 rn0 rc0]) (by simp [results, Try.results12, go_sem, dz]; try rfl) rfl ?_
  have hSf := ((Same.refl (w.heap.size + 1 + 1 + 1) (w1.setCell ⟨w.heap.size + 1 + 1, 0, none⟩ (.slice ra0 rn0 rc0))).set (g := w.heap.size + 1) (by omega) 0 (.slice ra0 rn0 rc0))
  refine ⟨#[.slice ra0 rn0 rc0], _, rfl, Store_rep.2 ⟨ra0, rn0, rc0, _, rfl, q0_0.same hSf hge0, rfl⟩, ?_, (H.below.setCell (p := ⟨w.heap.size + 1, 0, none⟩) (by simp) (.slice ra0 rn0 rc0))⟩
  exact ((F0.same hSf hge0).mono (by omega))

end Go.Proofs.Ytibhoanjglfaoaa

/- The order of values and rows ars plain laws: equal, transitive; a binary search's answer. -/
namespace Go.Proofs.Ytibhoanjglfaoaa
open Go.RowKit
set_option linter.unusedVariables false

def hasRow (rows : List (List Val)) (row : List Val) : Bool := decide (row ∈ rows)
theorem hasRow_at {rows : List (List Val)} {row : List Val} {k : Nat} (hk : k < rows.length) (h : sameRow rows[k] row = true) : hasRow rows row = true := by
  rw [sameRow, decide_eq_true_iff] at h
  rw [hasRow, decide_eq_true_iff, ← h]
  exact List.getElem_mem hk
theorem hasRow_none {rows : List (List Val)} {row : List Val} {k : Nat} (h : NoneTo (fun r => sameRow r row) rows k) (hk : rows.length ≤ k) : hasRow rows row = false := by
  rw [hasRow, decide_eq_false_iff_not]
  intro hm
  obtain ⟨j, hj, e⟩ := List.getElem_of_mem hm
  have := h j hj (by omega)
  simp only [e, sameRow_eq rfl] at this
  cases this

theorem compareBytes_eq : ∀ {a b : List UInt8}, Lib.compareBytes a b = 0 → a = b
  | [], [], _ => rfl
  | [], _ :: _, h => by simp [Lib.compareBytes] at h
  | _ :: _, [], h => by simp [Lib.compareBytes] at h
  | x :: a, y :: b, h => by
    unfold Lib.compareBytes at h
    by_cases h1 : x < y
    · simp [h1] at h
    · by_cases h2 : y < x
      · simp [h1, h2] at h
      · simp only [h1, h2, if_false] at h
        have e : x = y := UInt8.le_antisymm (UInt8.not_lt.1 h2) (UInt8.not_lt.1 h1)
        rw [e, compareBytes_eq h]
theorem compareBytes_self : ∀ (a : List UInt8), Lib.compareBytes a a = 0
  | [] => by simp [Lib.compareBytes]
  | x :: a => by
    have := compareBytes_self a
    unfold Lib.compareBytes
    simp [UInt8.lt_irrefl, this]
theorem compareBytes_trans : ∀ {a b c : List UInt8}, Lib.compareBytes a b < 0 → Lib.compareBytes b c < 0 → Lib.compareBytes a c < 0
  | [], [], _, h, _ => by simp [Lib.compareBytes] at h
  | [], _ :: _, [], _, h => by simp [Lib.compareBytes] at h
  | [], _ :: _, _ :: _, _, _ => by simp [Lib.compareBytes]
  | _ :: _, [], _, h, _ => by simp [Lib.compareBytes] at h
  | _ :: _, _ :: _, [], _, h => by simp [Lib.compareBytes] at h
  | x :: a, y :: b, z :: c, h, h' => by
    unfold Lib.compareBytes at h h' ⊢
    by_cases h1 : x < y
    · by_cases h3 : y < z
      · simp [UInt8.lt_trans h1 h3]
      · by_cases h4 : z < y
        · simp [h3, h4] at h'
        · have e : y = z := UInt8.le_antisymm (UInt8.not_lt.1 h4) (UInt8.not_lt.1 h3)
          subst e; simp [h1]
    · by_cases h2 : y < x
      · simp [h1, h2] at h
      · have e : x = y := UInt8.le_antisymm (UInt8.not_lt.1 h2) (UInt8.not_lt.1 h1)
        subst e
        simp only [h1, if_false] at h
        by_cases h3 : x < z
        · simp [h3]
        · by_cases h4 : z < x
          · simp [h3, h4] at h'
          · simp only [h3, h4, if_false] at h' ⊢
            exact compareBytes_trans h h'

theorem valOk_zero {v : Val} (h : valOk v = true) (hs : v.s.toList.isEmpty = false) : v.n = 0 := by
  rw [valOk_word hs] at h
  simp only [Bool.and_eq_true, beq_iff_eq] at h
  exact h.1
theorem bytes_ext {a b : ByteArray} (h : a.data.toList = b.data.toList) : a = b := by
  obtain ⟨⟨a⟩⟩ := a
  obtain ⟨⟨b⟩⟩ := b
  simp at h; rw [h]
theorem bytes_empty {a : ByteArray} (h : a.toList.isEmpty = true) : a.data.toList = [] := by
  rw [ByteArray.toList_eq] at h
  simpa using h
theorem cmpVal_eq {a b : Val} (ha : valOk a = true) (hb : valOk b = true) (h : cmpVal a b = 0) : a = b := by
  obtain ⟨n, s⟩ := a
  obtain ⟨m, r⟩ := b
  unfold cmpVal at h
  cases h1 : s.toList.isEmpty <;> cases h2 : r.toList.isEmpty
  · simp only [h1, h2] at h
    have hn := valOk_zero ha h1
    have hm := valOk_zero hb h2
    have := bytes_ext (compareBytes_eq h)
    simp_all
  · simp [h1, h2] at h
  · simp [h1, h2] at h
  · simp only [h1, h2, if_true] at h
    have e : s = r := bytes_ext (by rw [bytes_empty h1, bytes_empty h2])
    have : n = m := by omega
    rw [e, this]
theorem cmpVal_self (a : Val) : cmpVal a a = 0 := by
  unfold cmpVal
  split
  · omega
  · exact compareBytes_self _
theorem cmpVal_trans {a b c : Val} (h : cmpVal a b < 0) (h' : cmpVal b c < 0) : cmpVal a c < 0 := by
  unfold cmpVal at *
  cases h1 : a.s.toList.isEmpty <;> cases h2 : b.s.toList.isEmpty <;> cases h3 : c.s.toList.isEmpty <;> simp only [h1, h2, h3, if_true, Bool.false_eq_true, if_false] at h h' ⊢ <;> first | omega | exact compareBytes_trans h h'

theorem cmpRow_self : ∀ a : List Val, cmpRow a a = 0
  | [] => rfl
  | x :: a => by unfold cmpRow; rw [if_pos (cmpVal_self x)]; exact cmpRow_self a
theorem cmpRow_eq : ∀ {a b : List Val}, (∀ v ∈ a, valOk v = true) → (∀ v ∈ b, valOk v = true) → cmpRow a b = 0 → a = b
  | [], [], _, _, _ => rfl
  | [], _ :: _, _, _, h => by simp [cmpRow] at h
  | _ :: _, [], _, _, h => by simp [cmpRow] at h
  | x :: a, y :: b, ha, hb, h => by
    unfold cmpRow at h
    by_cases hc : cmpVal x y = 0
    · rw [if_pos hc] at h
      rw [cmpVal_eq (ha x (by simp)) (hb y (by simp)) hc, cmpRow_eq (fun v hv => ha v (by simp [hv])) (fun v hv => hb v (by simp [hv])) h]
    · rw [if_neg hc] at h; exact absurd h hc
theorem cmpRow_trans : ∀ {a b c : List Val}, (∀ v ∈ a, valOk v = true) → (∀ v ∈ b, valOk v = true) → (∀ v ∈ c, valOk v = true) → cmpRow a b < 0 → cmpRow b c < 0 → cmpRow a c < 0
  | [], [], _, _, _, _, h, _ => by simp [cmpRow] at h
  | [], _ :: _, [], _, _, _, _, h => by simp [cmpRow] at h
  | [], _ :: _, _ :: _, _, _, _, _, _ => by simp [cmpRow]
  | _ :: _, [], _, _, _, _, h, _ => by simp [cmpRow] at h
  | _ :: _, _ :: _, [], _, _, _, _, h => by simp [cmpRow] at h
  | x :: a, y :: b, z :: c, ha, hb, hc, h, h' => by
    unfold cmpRow at h h' ⊢
    by_cases h1 : cmpVal x y = 0
    · have e := cmpVal_eq (ha x (by simp)) (hb y (by simp)) h1
      subst e
      rw [if_pos h1] at h
      by_cases h2 : cmpVal x z = 0
      · rw [if_pos h2] at h' ⊢
        exact cmpRow_trans (fun v hv => ha v (by simp [hv])) (fun v hv => hb v (by simp [hv])) (fun v hv => hc v (by simp [hv])) h h'
      · rw [if_neg h2] at h' ⊢; exact h'
    · rw [if_neg h1] at h
      by_cases h2 : cmpVal y z = 0
      · have e := cmpVal_eq (hb y (by simp)) (hc z (by simp)) h2
        subst e
        rw [if_neg h1]; exact h
      · rw [if_neg h2] at h'
        have h3 := cmpVal_trans h h'
        rw [if_neg (by omega)]; exact h3

/-- Rows of right values, each before the next. -/
def Sorted (rows : List (List Val)) : Prop := (∀ j (h : j < rows.length), ∀ v ∈ rows[j], valOk v = true) ∧ ∀ i j (hi : i < rows.length) (hj : j < rows.length), i < j → cmpRow rows[i] rows[j] < 0
theorem relOk_sorted {x : Relt} (h : relOk x = true) : Sorted x.rows := by
  have hr : relRows x.rows x.arity = true := by simp only [relOk, Bool.and_eq_true] at h; exact h.1
  have hg := relRows_good hr
  have hok : ∀ j (h : j < x.rows.length), ∀ v ∈ x.rows[j], valOk v = true := fun j hj => rowOk_vals (hg.row hj hj)
  refine ⟨hok, ?_⟩
  intro i j hi hj hij
  induction j with
  | zero => omega
  | succ j ih =>
    have hs : cmpRow x.rows[j] x.rows[j + 1] < 0 := by
      have := hg (j + 1) hj hj
      simp only [rowAt, Bool.and_eq_true, decide_eq_true_eq] at this
      exact this.2
    rcases Nat.lt_or_ge i j with h1 | h1
    · exact cmpRow_trans (hok i hi) (hok j (by omega)) (hok (j + 1) hj) (ih (by omega) h1) hs
    · obtain rfl : i = j := by omega
      exact hs

/-- Everything ahead of i stands before the row; nothing from j on does. -/
def Between (rows : List (List Val)) (row : List Val) (i j : Nat) : Prop :=
  (∀ t (h : t < rows.length), t < i → cmpRow rows[t] row < 0) ∧ ∀ t (h : t < rows.length), j ≤ t → ¬ cmpRow rows[t] row < 0
theorem Between.start {rows : List (List Val)} {row : List Val} : Between rows row 0 rows.length := ⟨fun _ _ h => absurd h (by omega), fun _ h h' => absurd h (by omega)⟩
theorem Between.right {rows : List (List Val)} {row : List Val} {i j h : Nat} (hs : Sorted rows) (hr : ∀ v ∈ row, valOk v = true) (H : Between rows row i j) (hh : h < rows.length) (hc : cmpRow rows[h] row < 0) : Between rows row (h + 1) j :=
  ⟨fun t ht hth => by
    rcases Nat.lt_or_ge t h with h1 | h1
    · exact cmpRow_trans (hs.1 t ht) (hs.1 h hh) hr (hs.2 t h ht hh h1) hc
    · obtain rfl : t = h := by omega
      exact hc, H.2⟩
theorem Between.left {rows : List (List Val)} {row : List Val} {i j h : Nat} (hs : Sorted rows) (hr : ∀ v ∈ row, valOk v = true) (H : Between rows row i j) (hh : h < rows.length) (hc : ¬ cmpRow rows[h] row < 0) : Between rows row i h :=
  ⟨H.1, fun t ht hth hlt => by
    rcases Nat.lt_or_ge h t with h1 | h1
    · exact hc (cmpRow_trans (hs.1 h hh) (hs.1 t ht) hr (hs.2 h t hh ht h1) hlt)
    · obtain rfl : t = h := by omega
      exact hc hlt⟩
/-- The place of a row in a right relation, or where it would be. -/
def pos (rows : List (List Val)) (row : List Val) : Nat := rows.findIdx fun r => !decide (cmpRow r row < 0)
theorem Between.pos {rows : List (List Val)} {row : List Val} {i : Nat} (hi : i ≤ rows.length) (H : Between rows row i i) : pos rows row = i := by
  unfold Proofs.Ytibhoanjglfaoaa.pos
  rcases Nat.lt_or_ge i rows.length with h1 | h1
  · rw [List.findIdx_eq h1]
    exact ⟨by simpa using H.2 i h1 (Nat.le_refl _), fun j hj => by simpa using H.1 j (by omega) hj⟩
  · obtain rfl : i = rows.length := by omega
    rw [List.findIdx_eq_length]
    intro r hr
    obtain ⟨j, hj, rfl⟩ := List.getElem_of_mem hr
    simpa using H.1 j hj hj
theorem Between.has {rows : List (List Val)} {row : List Val} {i : Nat} (hs : Sorted rows) (hr : ∀ v ∈ row, valOk v = true) (hi : i < rows.length) (H : Between rows row i i) : hasRow rows row = (cmpRow rows[i] row == 0) := by
  rw [hasRow]
  by_cases hc : cmpRow rows[i] row = 0
  · have e := cmpRow_eq (hs.1 i hi) hr hc
    have : row ∈ rows := by rw [← e]; exact List.getElem_mem hi
    simp [hc, this]
  · have : row ∉ rows := by
      intro hm
      obtain ⟨j, hj, e⟩ := List.getElem_of_mem hm
      have h0 : cmpRow rows[j] row = 0 := by rw [e]; exact cmpRow_self _
      have h1 : i ≤ j := by
        rcases Nat.lt_or_ge j i with h | h
        · have := H.1 j hj h; omega
        · exact h
      rcases Nat.lt_or_ge i j with h2 | h2
      · have := hs.2 i j hi hj h2
        rw [e] at this
        exact H.2 i hi (Nat.le_refl _) this
      · obtain rfl : i = j := by omega
        exact hc h0
    simp [hc, this]
theorem Between.hasNot {rows : List (List Val)} {row : List Val} (H : Between rows row rows.length rows.length) : hasRow rows row = false := by
  rw [hasRow, decide_eq_false_iff_not]
  intro hm
  obtain ⟨j, hj, e⟩ := List.getElem_of_mem hm
  have := H.1 j hj hj
  rw [e, cmpRow_self] at this
  omega
theorem hasRow_bad {rows : List (List Val)} {row : List Val} (hs : ∀ j (h : j < rows.length), rowOk rows[j] = true) (hr : rowOk row = false) : hasRow rows row = false := by
  rw [hasRow, decide_eq_false_iff_not]
  intro hm
  obtain ⟨j, hj, e⟩ := List.getElem_of_mem hm
  have := hs j hj
  rw [e, hr] at this; cases this
theorem relOk_rows {x : Relt} (h : relOk x = true) : ∀ j (h : j < x.rows.length), rowOk x.rows[j] = true := by
  have hr : relRows x.rows x.arity = true := by simp only [relOk, Bool.and_eq_true] at h; exact h.1
  exact fun j hj => (relRows_good hr).row hj hj
def relHas (x : Relt) (row : List Val) : Bool := relOk x && hasRow x.rows row
theorem relHas_bad {x : Relt} {row : List Val} (h : relOk x = false) : relHas x row = false := by rw [relHas, h]; rfl
theorem relHas_row {x : Relt} {row : List Val} (h : relOk x = true) (hr : rowOk row = false) : relHas x row = false := by rw [relHas, hasRow_bad (relOk_rows h) hr]; simp
theorem relHas_ok {x : Relt} {row : List Val} (h : relOk x = true) : relHas x row = hasRow x.rows row := by rw [relHas, h]; simp
theorem relOk_len {x : Relt} (h : relOk x = true) : x.rows.length ≤ 1048576 := by
  simp only [relOk, Bool.and_eq_true, decide_eq_true_eq] at h
  omega
end Go.Proofs.Ytibhoanjglfaoaa

/- Like relations, in plain words. -/
namespace Go.Proofs.Ytibhoanjglfaoaa
open Go.RowKit
set_option linter.unusedVariables false

def LikeTo {α : Type} (xs ys : List α) (k : Nat) : Prop := ∀ j (h : j < xs.length) (h' : j < ys.length), j < k → xs[j] = ys[j]
theorem LikeTo.zero {α : Type} {xs ys : List α} : LikeTo xs ys 0 := fun _ _ _ h => absurd h (by omega)
theorem LikeTo.succ {α : Type} {xs ys : List α} {k : Nat} (h : LikeTo xs ys k) (hk : k < xs.length) (hk' : k < ys.length) (hs : xs[k] = ys[k]) : LikeTo xs ys (k + 1) := fun j hj hj' hjk => by
  rcases Nat.lt_or_ge j k with h1 | h1
  · exact h j hj hj' h1
  · obtain rfl : j = k := by omega
    exact hs
theorem LikeTo.eq {α : Type} {xs ys : List α} {k : Nat} (hl : xs.length = ys.length) (hk : xs.length ≤ k) (h : LikeTo xs ys k) : xs = ys :=
  List.ext_getElem hl fun j h1 h2 => h j h1 h2 (by omega)
theorem sameRow_iff {a b : List Val} : sameRow a b = true ↔ a = b := by simp [sameRow]
theorem sameRow_ne {a b : List Val} (h : sameRow a b = false) : a ≠ b := by simpa [sameRow] using h
def sameRows (a b : List (List Val)) : Bool := decide (a = b)
theorem sameRows_len {a b : List (List Val)} (h : ¬ a.length = b.length) : sameRows a b = false := decide_eq_false fun e => h (by rw [e])
theorem sameRows_at {a b : List (List Val)} {k : Nat} (hk : k < a.length) (hk' : k < b.length) (hs : sameRow a[k] b[k] = false) : sameRows a b = false := decide_eq_false fun e => by subst e; exact sameRow_ne hs rfl
theorem sameRows_eq {a b : List (List Val)} (h : a = b) : sameRows a b = true := decide_eq_true h
/-- Two right relations of one arity. -/
def two (a b : Relt) : Bool := relOk a && (relOk b && (a.arity == b.arity))
theorem two_a {a b : Relt} (h : relOk a = false) : two a b = false := by simp [two, h]
theorem two_b {a b : Relt} (h : relOk b = false) : two a b = false := by simp [two, h]
theorem two_ok {a b : Relt} (h : relOk a = true) (h' : relOk b = true) : two a b = (a.arity == b.arity) := by simp [two, h, h']
theorem two_left {a b : Relt} (h : two a b = true) : relOk a = true := by simp only [two, Bool.and_eq_true] at h; exact h.1
theorem two_right {a b : Relt} (h : two a b = true) : relOk b = true := by simp only [two, Bool.and_eq_true] at h; exact h.2.1
theorem two_arity {a b : Relt} (h : two a b = true) : a.arity = b.arity := by simp only [two, Bool.and_eq_true, beq_iff_eq] at h; exact h.2.2
def likeRel (a b : Relt) : Bool := a.arity == b.arity && sameRows a.rows b.rows
def sameRel (a b : Relt) : Bool := two a b && sameRows a.rows b.rows
theorem sameRel_two {a b : Relt} (h : two a b = false) : sameRel a b = false := by simp [sameRel, h]
theorem sameRel_rows {a b : Relt} (h : sameRows a.rows b.rows = false) : sameRel a b = false := by simp [sameRel, h]
theorem sameRel_yes {a b : Relt} (h : two a b = true) (h' : sameRows a.rows b.rows = true) : sameRel a b = true := by simp [sameRel, h, h']
theorem sameRel_like {a b : Relt} (h : relOk a = true) (h' : relOk b = true) : sameRel a b = likeRel a b := by simp [sameRel, two_ok h h', likeRel]
theorem likeRel_ar {a b : Relt} (h : (a.arity == b.arity) = false) : likeRel a b = false := by simp [likeRel, h]
theorem likeRel_ok {a b : Relt} (h : (a.arity == b.arity) = true) : likeRel a b = sameRows a.rows b.rows := by simp [likeRel, h]
/-- What two relations have in common, and what the first has alone. -/
def relBoth (a b : Relt) : Relt × Bool := if two a b = true then (⟨a.arity, a.rows.filter (fun row => hasRow b.rows row)⟩, true) else (⟨0, []⟩, false)
def relMinus (a b : Relt) : Relt × Bool := if two a b = true then (⟨a.arity, a.rows.filter (fun row => !hasRow b.rows row)⟩, true) else (⟨0, []⟩, false)
theorem relBoth_ok {a b : Relt} (h : two a b = true) : relBoth a b = (⟨a.arity, a.rows.filter (fun row => hasRow b.rows row)⟩, true) := if_pos h
theorem relBoth_no {a b : Relt} (h : two a b = false) : relBoth a b = (⟨0, []⟩, false) := if_neg (by simp [h])
theorem relMinus_ok {a b : Relt} (h : two a b = true) : relMinus a b = (⟨a.arity, a.rows.filter (fun row => !hasRow b.rows row)⟩, true) := if_pos h
theorem relMinus_no {a b : Relt} (h : two a b = false) : relMinus a b = (⟨0, []⟩, false) := if_neg (by simp [h])
theorem two_vals {a b : Relt} (h : two a b = true) : ∀ r ∈ a.rows, ∀ v ∈ r, valOk v = true := fun r hr v hv => by
  obtain ⟨j, hj, rfl⟩ := List.getElem_of_mem hr
  exact (relOk_sorted (two_left h)).1 j hj v hv
end Go.Proofs.Ytibhoanjglfaoaa

/- Right stores and like stores, in plain words. -/
namespace Go.Proofs.Ytibhoanjglfaoaa
open Go.RowKit
set_option linter.unusedVariables false

/-! A test at each place of a list. -/
def AllAt {n : Nat} (p : (k : Nat) → k < n → Bool) (k : Nat) : Prop := ∀ j (h : j < n), j < k → p j h = true
theorem AllAt.zero {n : Nat} {p : (k : Nat) → k < n → Bool} : AllAt p 0 := fun _ _ h => absurd h (by omega)
theorem AllAt.succ {n : Nat} {p : (k : Nat) → k < n → Bool} {k : Nat} (h : AllAt p k) (hk : k < n) (hp : p k hk = true) : AllAt p (k + 1) := fun j hj hjk => by
  rcases Nat.lt_or_ge j k with h1 | h1
  · exact h j hj h1
  · obtain rfl : j = k := by omega
    exact hp
def everyB {n : Nat} (p : (k : Nat) → k < n → Bool) : Bool := (List.range n).all fun k => if h : k < n then p k h else true
theorem everyB_get {n : Nat} {p : (k : Nat) → k < n → Bool} (h : everyB p = true) {j : Nat} (hj : j < n) : p j hj = true := by
  unfold everyB at h
  rw [List.all_eq_true] at h
  have := h j (by simpa using hj)
  rwa [dif_pos hj] at this
theorem AllAt.all {n : Nat} {p : (k : Nat) → k < n → Bool} {k : Nat} (h : AllAt p k) (hk : n ≤ k) : everyB p = true := by
  unfold everyB
  rw [List.all_eq_true]
  intro j hj
  have hj' : j < n := by simpa using hj
  rw [dif_pos hj']
  exact h j hj' (by omega)
theorem everyB_bad {n : Nat} {p : (k : Nat) → k < n → Bool} {k : Nat} (hk : k < n) (hp : p k hk = false) : everyB p = false := by
  cases h : everyB p
  · rfl
  · have := everyB_get h hk
    rw [hp] at this; cases this

def namedC (x : Namedt) : List Cell := [.c (.string x.name), .c (.int .i64 x.rel.arity), .sl rowE x.rel.rows]
instance : CellsOf namedE namedC := cellsIso (e := pairE strE (pairE relE unitE)) (fun x : Namedt => (x.name, x.rel, ()))
def storeC (s : Storet) : List Cell := [.sl namedE s.rels]
instance : CellsOf storeE storeC := cellsIso (e := pairE (sliceE namedE) unitE) (fun x : Storet => (x.rels, ()))
theorem inv_str {g : Gh} {l : Locs} {w : World} {v : Value} {s : ByteArray} (h : VR1 g l w v (.one (.c (.string s)))) : v = .string s ∧ s.size ≤ maxLen := h
theorem wordOkI_c (s : ByteArray) : AC Try.prog 63 [.one (.c (.string s))] [] (.one (.c (.bool (wordB s)))) [] :=
  AC.pure ⟨_, _, Try.func63, rfl, rfl⟩ trivial fun w g cargs h => by
    obtain ⟨x, rfl, h1⟩ := inv1 h
    obtain ⟨rfl, hs⟩ := inv_str h1
    exact (wordOkI_any s w hs).mono fun e w' ⟨h1, h2⟩ => ⟨h1, below_eq h2⟩
theorem wordOkS_c (s : ByteArray) : AC Try.prog 59 [.one (.c (.string s))] [] (.one (.c (.bool (wordB s)))) [] :=
  AC.pure ⟨_, _, Try.func59, rfl, rfl⟩ trivial fun w g cargs h => by
    obtain ⟨x, rfl, h1⟩ := inv1 h
    obtain ⟨rfl, hs⟩ := inv_str h1
    exact (wordOkS_any s w hs).mono fun e w' ⟨h1, h2⟩ => ⟨h1, below_eq h2⟩

def bless (a b : ByteArray) : Bool := Op.bytesLess a.toList b.toList
def namedAt (l : List Namedt) (k : Nat) (h : k < l.length) : Bool := wordB l[k].name && (relOk l[k].rel && (decide (k = 0) || bless (l[k - 1]'(by omega)).name l[k].name))
def storeOk (s : Storet) : Bool := everyB (namedAt s.rels) && decide (s.rels.length ≤ 24)
theorem storeOk_len {s : Storet} (h : 24 < s.rels.length) : storeOk s = false := by
  have : decide (s.rels.length ≤ 24) = false := decide_eq_false (by omega)
  unfold storeOk; rw [this]; simp
theorem storeOk_bad {s : Storet} {k : Nat} (hk : k < s.rels.length) (h : namedAt s.rels k hk = false) : storeOk s = false := by
  unfold storeOk; rw [everyB_bad hk h]; rfl
theorem storeOk_good {s : Storet} {k : Nat} (h : AllAt (namedAt s.rels) k) (hk : s.rels.length ≤ k) (hl : s.rels.length ≤ 24) : storeOk s = true := by
  unfold storeOk; rw [h.all hk, decide_eq_true hl]; rfl
theorem storeOk_rel {s : Storet} (h : storeOk s = true) {k : Nat} (hk : k < s.rels.length) : relOk s.rels[k].rel = true := by
  simp only [storeOk, Bool.and_eq_true] at h
  have := everyB_get h.1 hk
  simp only [namedAt, Bool.and_eq_true] at this
  exact this.2.1
theorem storeOk_max {s : Storet} (h : storeOk s = true) : s.rels.length ≤ 24 := by
  simp only [storeOk, Bool.and_eq_true, decide_eq_true_eq] at h
  exact h.2
theorem namedAt_word {l : List Namedt} {k : Nat} (hk : k < l.length) (h : wordB l[k].name = false) : namedAt l k hk = false := by simp [namedAt, h]
theorem namedAt_rel {l : List Namedt} {k : Nat} (hk : k < l.length) (h : relOk l[k].rel = false) : namedAt l k hk = false := by simp [namedAt, h]
theorem namedAt_order {l : List Namedt} {k : Nat} (hk : k < l.length) (h0 : 0 < k) (h : Op.bytesLess (l[k - 1]'(by omega)).name.toList l[k].name.toList = false) : namedAt l k hk = false := by
  have : decide (k = 0) = false := decide_eq_false (by omega)
  simp [namedAt, this, bless, h]
theorem namedAt_first {l : List Namedt} {k : Nat} (hk : k < l.length) (h0 : k = 0) (h1 : wordB l[k].name = true) (h2 : relOk l[k].rel = true) : namedAt l k hk = true := by
  have : decide (k = 0) = true := decide_eq_true h0
  simp only [namedAt, this, h1, h2, Bool.true_or, Bool.and_self]
theorem namedAt_next {l : List Namedt} {k : Nat} (hk : k < l.length) (h1 : wordB l[k].name = true) (h2 : relOk l[k].rel = true) (h : Op.bytesLess (l[k - 1]'(by omega)).name.toList l[k].name.toList = true) : namedAt l k hk = true := by
  simp [namedAt, bless, h, h1, h2]

def likeNamed (x y : Namedt) : Bool := x.name == y.name && likeRel x.rel y.rel
theorem likeNamed_name {x y : Namedt} (h : (x.name == y.name) = false) : likeNamed x y = false := by simp [likeNamed, h]
theorem likeNamed_ok {x y : Namedt} (h : (x.name == y.name) = true) : likeNamed x y = likeRel x.rel y.rel := by simp [likeNamed, h]
def likeNames (a b : List Namedt) : Bool := if h : a.length = b.length then everyB (n := a.length) (fun k hk => likeNamed a[k] (b[k]'(by omega))) else false
theorem likeNames_len {a b : List Namedt} (h : ¬ a.length = b.length) : likeNames a b = false := by simp [likeNames, h]
theorem likeNames_at {a b : List Namedt} {k : Nat} (hk : k < a.length) (hk' : k < b.length) (hp : likeNamed a[k] b[k] = false) : likeNames a b = false := by
  unfold likeNames
  split
  · exact everyB_bad hk hp
  · rfl
def LikeN (a b : List Namedt) (k : Nat) : Prop := ∀ j (h : j < a.length) (h' : j < b.length), j < k → likeNamed a[j] b[j] = true
theorem LikeN.zero {a b : List Namedt} : LikeN a b 0 := fun _ _ _ h => absurd h (by omega)
theorem LikeN.succ {a b : List Namedt} {k : Nat} (h : LikeN a b k) (hk : k < a.length) (hk' : k < b.length) (hs : likeNamed a[k] b[k] = true) : LikeN a b (k + 1) := fun j hj hj' hjk => by
  rcases Nat.lt_or_ge j k with h1 | h1
  · exact h j hj hj' h1
  · obtain rfl : j = k := by omega
    exact hs
theorem likeNames_eq {a b : List Namedt} {k : Nat} (hl : a.length = b.length) (h : LikeN a b k) (hk : a.length ≤ k) : likeNames a b = true := by
  unfold likeNames
  rw [dif_pos hl]
  exact AllAt.all (k := k) (fun j hj hjk => h j hj (by omega) hjk) hk
def sameStore (a b : Storet) : Bool := storeOk a && (storeOk b && likeNames a.rels b.rels)
theorem sameStore_a {a b : Storet} (h : storeOk a = false) : sameStore a b = false := by simp [sameStore, h]
theorem sameStore_b {a b : Storet} (h : storeOk b = false) : sameStore a b = false := by simp [sameStore, h]
theorem sameStore_ok {a b : Storet} (h : storeOk a = true) (h' : storeOk b = true) : sameStore a b = likeNames a.rels b.rels := by simp [sameStore, h, h']
theorem sameStore_len {a b : Storet} (h : ¬ a.rels.length = b.rels.length) : sameStore a b = false := by simp [sameStore, likeNames_len h]
theorem sameStore_at {a b : Storet} {k : Nat} (hk : k < a.rels.length) (hk' : k < b.rels.length) (h : likeNamed a.rels[k] b.rels[k] = false) : sameStore a b = false := by simp [sameStore, likeNames_at hk hk' h]
theorem likeNamed_rel {x y : Namedt} (h1 : relOk x.rel = true) (h2 : relOk y.rel = true) (h : sameRel x.rel y.rel = false) : likeNamed x y = false := by
  rw [sameRel_like h1 h2] at h
  simp [likeNamed, h]
theorem likeNamed_yes {x y : Namedt} (h1 : relOk x.rel = true) (h2 : relOk y.rel = true) (hn : (x.name == y.name) = true) (h : sameRel x.rel y.rel = true) : likeNamed x y = true := by
  rw [sameRel_like h1 h2] at h
  simp [likeNamed, h, hn]
end Go.Proofs.Ytibhoanjglfaoaa

/- Sizes of data (printed by mktot.py) -/
namespace Go.Proofs.Ytibhoanjglfaoaa
open Go.RowKit
set_option linter.unusedVariables false

def totNamed (x : Namedt) : Nat := x.name.size + totRel x.rel
def totStore (x : Storet) : Nat := totL totNamed x.rels
end Go.Proofs.Ytibhoanjglfaoaa

/- The laws' own functions: GenD (printed by gen.py) -/
namespace Go.Proofs.Ytibhoanjglfaoaa
open Go.RowKit
set_option linter.unusedVariables false
set_option maxRecDepth 100000

structure Changet where
  name : ByteArray
  plus : Relt
  minus : Relt
def changeE : Enc Changet := isoE (pairE strE (pairE relE (pairE relE unitE))) (fun x => (x.name, x.plus, x.minus, ()))
theorem Change_rep {w : World} {cs : List Value} {x : Changet} {bs : List Nat} : changeE.rep w cs x bs ↔ ∃ (sa0 : Option Addr) (sn0 sc0 : Nat) (sb0 : List Nat) (sa1 : Option Addr) (sn1 sc1 : Nat) (sb1 : List Nat), cs = [.string x.name, .int .i64 x.plus.arity, .slice sa0 sn0 sc0, .int .i64 x.minus.arity, .slice sa1 sn1 sc1] ∧ x.name.size ≤ maxLen ∧ (Lit.int .i64 x.plus.arity).wf = true ∧ SliceRep rowE w sa0 sn0 sc0 x.plus.rows sb0 ∧ (Lit.int .i64 x.minus.arity).wf = true ∧ SliceRep rowE w sa1 sn1 sc1 x.minus.rows sb1 ∧ bs = sb0 ++ sb1 := by
  constructor
  · rintro ⟨c0, r0, d0, q0, rfl, rfl, h0, c1, r1, d1, q1, rfl, rfl, h1, c2, r2, d2, q2, rfl, rfl, h2, rfl, rfl⟩
    obtain ⟨rfl, f0, rfl⟩ := h0
    obtain ⟨va0, vn0, vc0, vb0, rfl, f1_0, f1_1, hbs⟩ := Rel_rep.1 h1
    obtain rfl := hbs.symm
    obtain ⟨va1, vn1, vc1, vb1, rfl, f2_0, f2_1, hbs⟩ := Rel_rep.1 h2
    obtain rfl := hbs.symm
    exact ⟨_, _, _, _, _, _, _, _, by simp, f0, f1_0, f1_1, f2_0, f2_1, by simp⟩
  · rintro ⟨sa0, sn0, sc0, sb0, sa1, sn1, sc1, sb1, rfl, f0, f1, f2, f3, f4, hbs⟩
    obtain rfl := hbs.symm
    exact ⟨[.string x.name], [.int .i64 x.plus.arity, .slice sa0 sn0 sc0, .int .i64 x.minus.arity, .slice sa1 sn1 sc1], [], (sb0) ++ (sb1), rfl, by simp, ⟨rfl, f0, rfl⟩, ⟨[.int .i64 x.plus.arity, .slice sa0 sn0 sc0], [.int .i64 x.minus.arity, .slice sa1 sn1 sc1], (sb0), (sb1), rfl, by simp, Rel_rep.2 ⟨sa0, sn0, sc0, sb0, rfl, f1, f2, rfl⟩, ⟨[.int .i64 x.minus.arity, .slice sa1 sn1 sc1], [], (sb1), [], rfl, by simp, Rel_rep.2 ⟨sa1, sn1, sc1, sb1, rfl, f3, f4, rfl⟩, ⟨rfl, rfl⟩⟩⟩⟩
theorem opens_lChange : Opens Try.prog changeE 150 :=
  opens_iso (fun x => ⟨x.1, x.2.1, x.2.2.1⟩) (fun _ => rfl) (opens_struct Try.underlying150 (by kernel_rfl) (opensF_cons rfl (by kernel_rfl) (opens_string Try.underlying9) (opensF_cons rfl (by kernel_rfl) opens_lRel (opensF_cons rfl (by kernel_rfl) opens_lRel opensF_nil))))
def smallChange (x : Changet) : Prop := x.name.size ≤ 1048576 ∧ smallRel x.plus ∧ smallRel x.minus

set_option maxHeartbeats 800000 in
theorem szChange_any (cs : List Value) (x : Changet) (bs : List Nat) (left : Int) (w : World) (h : changeE.rep w cs x bs) (l0 : 0 ≤ left) (l1 : left ≤ 1048576) :
    Calls Try.prog 127 #[.agg cs.toArray, .int .i64 left] w (RetSz (smallChange x) left w) := by
  obtain ⟨sa0, sn0, sc0, sb0, sa1, sn1, sc1, sb1, rfl, f0, f1, f2, f3, f4, hbs⟩ := Change_rep.1 h
  obtain rfl := hbs.symm
  unfold maxLen at *
  have H := ((Held.start w).box_ #[.string x.name, .int .i64 x.plus.arity, .slice sa0 sn0 sc0, .int .i64 x.minus.arity, .slice sa1 sn1 sc1] 150).s1
  go_enter Try.func127, Try.ntmps127
  by_cases n0 : left - (x.name.size : Int) < 0
  · go_wp2_with fail
    go_ret
    exact ⟨-1, rfl, by omega, by omega, fun h => absurd h (by omega), H.1.below⟩
  · have m0 : 0 ≤ left - (x.name.size : Int) := by omega
    go_wp2_with fail
    refine (szRel_any _ x.plus _ _ _ (Rel_rep.2 ⟨sa0, sn0, sc0, sb0, rfl, f1, f2.up H.1.below, rfl⟩) (by omega) (by omega)).mono ?_
    rintro e w1 ⟨r1, rfl, g1, k1, s1, hb⟩
    replace H := (H.1.up hb).s1
    clear hb
    by_cases n1 : r1 < 0
    · go_wp2_with fail
      go_ret
      exact ⟨-1, rfl, by omega, by omega, fun h => absurd h (by omega), H.1.below⟩
    · have m1 : 0 ≤ r1 := by omega
      go_wp2_with fail
      refine (szRel_any _ x.minus _ _ _ (Rel_rep.2 ⟨sa1, sn1, sc1, sb1, rfl, f3, f4.up H.1.below, rfl⟩) (by omega) (by omega)).mono ?_
      rintro e w2 ⟨r2, rfl, g2, k2, s2, hb⟩
      replace H := (H.1.up hb).s1
      clear hb
      by_cases n2 : r2 < 0
      · go_wp2_with fail
        go_ret
        exact ⟨-1, rfl, by omega, by omega, fun h => absurd h (by omega), H.1.below⟩
      · have m2 : 0 ≤ r2 := by omega
        go_wp2_with fail
        go_ret
        exact ⟨r2, rfl, by omega, by omega, fun _ => by unfold smallChange; exact ⟨(show x.name.size ≤ 1048576 by omega), s1 m1, s2 m2⟩, H.1.below⟩

set_option maxHeartbeats 800000 in
theorem eqChange_any (cs ds : List Value) (x : Changet) (bs bs' : List Nat) (w : World) (h : changeE.rep w cs x bs) (h' : changeE.rep w ds x bs') :
    Calls Try.prog 132 #[.agg cs.toArray, .agg ds.toArray] w fun e w' => e = .returned (.bool true) ∧ Below w.heap.size w w' := by
  obtain ⟨sa0, sn0, sc0, sb0, sa1, sn1, sc1, sb1, rfl, f0, f1, f2, f3, f4, hbs⟩ := Change_rep.1 h
  obtain rfl := hbs.symm
  obtain ⟨say0, sny0, scy0, sby0, say1, sny1, scy1, sby1, rfl, g0, g1, g2, g3, g4, hbs⟩ := Change_rep.1 h'
  obtain rfl := hbs.symm
  have H := ((Held.start w).box_ #[.string x.name, .int .i64 x.plus.arity, .slice sa0 sn0 sc0, .int .i64 x.minus.arity, .slice sa1 sn1 sc1] 113).box_ #[.string x.name, .int .i64 x.plus.arity, .slice say0 sny0 scy0, .int .i64 x.minus.arity, .slice say1 sny1 scy1] 113
  rw [show (w.alloc (.cells #[.string x.name, .int .i64 x.plus.arity, .slice sa0 sn0 sc0, .int .i64 x.minus.arity, .slice sa1 sn1 sc1] 113)).heap.size = w.heap.size + 1 by simp] at H
  replace H := H.s2
  go_enter Try.func132, Try.ntmps132
  go_wp2_with fail
  refine (eqRel_any _ _ x.plus _ _ _ (Rel_rep.2 ⟨sa0, sn0, sc0, sb0, rfl, f1, f2.up H.1.below, rfl⟩) (Rel_rep.2 ⟨say0, sny0, scy0, sby0, rfl, g1, g2.up H.1.below, rfl⟩)).mono ?_
  rintro e w1 ⟨rfl, hb⟩
  replace H := (H.1.up hb).s2
  clear hb
  go_wp2_with fail
  refine (eqRel_any _ _ x.minus _ _ _ (Rel_rep.2 ⟨sa1, sn1, sc1, sb1, rfl, f3, f4.up H.1.below, rfl⟩) (Rel_rep.2 ⟨say1, sny1, scy1, sby1, rfl, g3, g4.up H.1.below, rfl⟩)).mono ?_
  rintro e w2 ⟨rfl, hb⟩
  replace H := (H.1.up hb).s2
  clear hb
  go_wp2_with fail
  go_ret
  exact ⟨rfl, H.1.below⟩

set_option maxHeartbeats 1600000 in
theorem toChange_any (cs : List Value) (x : Changet) (bs : List Nat) (w : World) (h : changeE.rep w cs x bs) (hsm : smallChange x) :
    Calls Try.prog 129 #[.agg cs.toArray] w (RetAgg changeE w x) := by
  obtain ⟨sa0, sn0, sc0, sb0, sa1, sn1, sc1, sb1, rfl, f0, f1, f2, f3, f4, hbs⟩ := Change_rep.1 h
  obtain rfl := hbs.symm
  have HSM := Lib.hid hsm
  clear hsm h
  have H := Three.start w #[.string x.name, .int .i64 x.plus.arity, .slice sa0 sn0 sc0, .int .i64 x.minus.arity, .slice sa1 sn1 sc1] #[.string ⟨#[]⟩, .int .i64 0, .slice none 0 0, .int .i64 0, .slice none 0 0] #[.string x.name, .int .i64 0, .slice none 0 0, .int .i64 0, .slice none 0 0] 150 113 113
  go_enter Try.func129, Try.ntmps129
  go_wp2_with fail
  generalize ((w.alloc (.cells #[.string x.name, .int .i64 x.plus.arity, .slice sa0 sn0 sc0, .int .i64 x.minus.arity, .slice sa1 sn1 sc1] 150)).alloc (.cells #[.string ⟨#[]⟩, .int .i64 0, .slice none 0 0, .int .i64 0, .slice none 0 0] 113)).alloc (.cells #[.string x.name, .int .i64 0, .slice none 0 0, .int .i64 0, .slice none 0 0] 113) = w0 at *
  have hz0 := H.lt
  have ca0 := H.a.cell
  refine (toRel_any _ x.plus _ _ (Rel_rep.2 ⟨sa0, sn0, sc0, sb0, rfl, f1, f2.up H.below, rfl⟩) HSM.out.2.1).mono ?_
  rintro e w1 ⟨cz0, bz0, rfl, hrz0, F0, hb⟩
  obtain ⟨sar0_0, snr0_0, scr0_0, sbr0_0, hcz, _, q0_0, hbz⟩ := Rel_rep.1 hrz0
  obtain rfl : cz0 = #[.int .i64 x.plus.arity, .slice sar0_0 snr0_0 scr0_0] := by cases cz0; simpa using hcz
  obtain rfl := hbz.symm
  clear hcz hrz0
  replace H := H.up hb
  clear hb ca0
  have hcz0 := H.c.cell
  have hfz0 := H.c.free
  have H0_0 : Three w #[.string x.name, .int .i64 x.plus.arity, .slice sa0 sn0 sc0, .int .i64 x.minus.arity, .slice sa1 sn1 sc1] #[.string ⟨#[]⟩, .int .i64 0, .slice none 0 0, .int .i64 0, .slice none 0 0] #[.string x.name, .int .i64 x.plus.arity, .slice none 0 0, .int .i64 0, .slice none 0 0] _ := H.set 1 (.int .i64 x.plus.arity) (by simp) rfl
  have H0_1 : Three w #[.string x.name, .int .i64 x.plus.arity, .slice sa0 sn0 sc0, .int .i64 x.minus.arity, .slice sa1 sn1 sc1] #[.string ⟨#[]⟩, .int .i64 0, .slice none 0 0, .int .i64 0, .slice none 0 0] #[.string x.name, .int .i64 x.plus.arity, .slice sar0_0 snr0_0 scr0_0, .int .i64 0, .slice none 0 0] _ := H0_0.set 2 (.slice sar0_0 snr0_0 scr0_0) (by simp) rfl
  have hS0 := (((Same.refl (w.heap.size + 1 + 1 + 1) w1).set (g := w.heap.size + 1 + 1) (by omega) 1 (.int .i64 x.plus.arity)).set (g := w.heap.size + 1 + 1) (by omega) 2 (.slice sar0_0 snr0_0 scr0_0))
  have hge0 : ∀ c ∈ sbr0_0, w.heap.size + 1 + 1 + 1 ≤ c := fun c hc => Nat.le_trans hz0 (F0.ge c hc)
  replace q0_0 := q0_0.same hS0 hge0
  replace F0 := F0.same hS0 hge0
  have cb0 := H0_1.a.cell
  go_wp2_with fail
  clear cb0
  replace H := H0_1
  clear hS0 H0_0 H0_1  hcz0 hfz0
  generalize ((w1.setCell ⟨w.heap.size + 1 + 1, 1, none⟩ (.int .i64 x.plus.arity)).setCell ⟨w.heap.size + 1 + 1, 2, none⟩ (.slice sar0_0 snr0_0 scr0_0)) = W1 at *
  have hz1 := H.lt
  have hltF0_1 := F0.lt
  have ca1 := H.a.cell
  refine (toRel_any _ x.minus _ _ (Rel_rep.2 ⟨sa1, sn1, sc1, sb1, rfl, f3, f4.up H.below, rfl⟩) HSM.out.2.2).mono ?_
  rintro e w2 ⟨cz1, bz1, rfl, hrz1, F1, hb⟩
  obtain ⟨sar1_0, snr1_0, scr1_0, sbr1_0, hcz, _, q1_0, hbz⟩ := Rel_rep.1 hrz1
  obtain rfl : cz1 = #[.int .i64 x.minus.arity, .slice sar1_0 snr1_0 scr1_0] := by cases cz1; simpa using hcz
  obtain rfl := hbz.symm
  clear hcz hrz1
  replace H := H.up hb
  replace q0_0 := q0_0.up hb
  have hltF0 := F0.lt
  replace F0 := F0.up hb
  clear hb ca1
  have hcz1 := H.c.cell
  have hfz1 := H.c.free
  have H1_0 : Three w #[.string x.name, .int .i64 x.plus.arity, .slice sa0 sn0 sc0, .int .i64 x.minus.arity, .slice sa1 sn1 sc1] #[.string ⟨#[]⟩, .int .i64 0, .slice none 0 0, .int .i64 0, .slice none 0 0] #[.string x.name, .int .i64 x.plus.arity, .slice sar0_0 snr0_0 scr0_0, .int .i64 x.minus.arity, .slice none 0 0] _ := H.set 3 (.int .i64 x.minus.arity) (by simp) rfl
  have H1_1 : Three w #[.string x.name, .int .i64 x.plus.arity, .slice sa0 sn0 sc0, .int .i64 x.minus.arity, .slice sa1 sn1 sc1] #[.string ⟨#[]⟩, .int .i64 0, .slice none 0 0, .int .i64 0, .slice none 0 0] #[.string x.name, .int .i64 x.plus.arity, .slice sar0_0 snr0_0 scr0_0, .int .i64 x.minus.arity, .slice sar1_0 snr1_0 scr1_0] _ := H1_0.set 4 (.slice sar1_0 snr1_0 scr1_0) (by simp) rfl
  have hS1 := (((Same.refl (w.heap.size + 1 + 1 + 1) w2).set (g := w.heap.size + 1 + 1) (by omega) 3 (.int .i64 x.minus.arity)).set (g := w.heap.size + 1 + 1) (by omega) 4 (.slice sar1_0 snr1_0 scr1_0))
  have hge1 : ∀ c ∈ sbr1_0, w.heap.size + 1 + 1 + 1 ≤ c := fun c hc => Nat.le_trans hz1 (F1.ge c hc)
  replace q0_0 := q0_0.same hS1 hge0
  replace F0 := F0.same hS1 hge0
  replace q1_0 := q1_0.same hS1 hge1
  replace F1 := F1.same hS1 hge1
  replace H := H1_1
  have dz := H.z.cell
  have ez := H.z.free
  have hcc := H.c.cell
  go_wp2_with fail
  refine bodyPost_ret (v := .agg #[.string x.name, .int .i64 x.plus.arity, .slice sar0_0 snr0_0 scr0_0, .int .i64 x.minus.arity, .slice sar1_0 snr1_0 scr1_0]) (by simp [results, Try.results129, go_sem, dz]; try rfl) rfl ?_
  have hSf := ((((((Same.refl (w.heap.size + 1 + 1 + 1) ((w2.setCell ⟨w.heap.size + 1 + 1, 3, none⟩ (.int .i64 x.minus.arity)).setCell ⟨w.heap.size + 1 + 1, 4, none⟩ (.slice sar1_0 snr1_0 scr1_0))).set (g := w.heap.size + 1) (by omega) 0 (.string x.name)).set (g := w.heap.size + 1) (by omega) 1 (.int .i64 x.plus.arity)).set (g := w.heap.size + 1) (by omega) 2 (.slice sar0_0 snr0_0 scr0_0)).set (g := w.heap.size + 1) (by omega) 3 (.int .i64 x.minus.arity)).set (g := w.heap.size + 1) (by omega) 4 (.slice sar1_0 snr1_0 scr1_0))
  refine ⟨#[.string x.name, .int .i64 x.plus.arity, .slice sar0_0 snr0_0 scr0_0, .int .i64 x.minus.arity, .slice sar1_0 snr1_0 scr1_0], _, rfl, Change_rep.2 ⟨sar0_0, snr0_0, scr0_0, _, sar1_0, snr1_0, scr1_0, _, rfl, f0, f1, q0_0.same hSf hge0, f3, q1_0.same hSf hge1, rfl⟩, ?_, (((((H.below.setCell (p := ⟨w.heap.size + 1, 0, none⟩) (by simp) (.string x.name)).setCell (p := ⟨w.heap.size + 1, 1, none⟩) (by simp) (.int .i64 x.plus.arity)).setCell (p := ⟨w.heap.size + 1, 2, none⟩) (by simp) (.slice sar0_0 snr0_0 scr0_0)).setCell (p := ⟨w.heap.size + 1, 3, none⟩) (by simp) (.int .i64 x.minus.arity)).setCell (p := ⟨w.heap.size + 1, 4, none⟩) (by simp) (.slice sar1_0 snr1_0 scr1_0))⟩
  exact (Fresh.app ((F0.same hSf hge0).mono (by omega)) ((F1.same hSf hge1).mono (by omega)) (fun c hc hc' => by have h1 := F1.ge c hc'; first | (have h2 := hltF0_1 c hc; omega)))

set_option maxHeartbeats 800000 in
theorem szChangeS_any (a : Option Addr) (n cap : Nat) (xs : List (Changet)) (bs : List Nat) (left : Int) (w : World) (h : SliceRep changeE w a n cap xs bs) (l0 : 0 ≤ left) (l1 : left ≤ 1048576) :
    Calls Try.prog 84 #[.slice a n cap, .int .i64 left] w (RetSz (xs.length ≤ 1048576 ∧ ∀ y ∈ xs, smallChange y) left w) := by
  have hmax := h.max
  obtain rfl := h.1
  by_cases n0 : left - (xs.length : Int) < 0
  · go_enter Try.func84, Try.ntmps84
    go_wp2_with fail
    go_ret
    exact ⟨-1, rfl, by omega, by omega, fun h => absurd h (by omega), Below.refl _ _⟩
  · have m0 : 0 ≤ left - (xs.length : Int) := by omega
    go_enter Try.func84, Try.ntmps84
    go_wp2_with fail
    go_loopw [1, 5] (fun l i W => ∃ (k : Nat) (r : Int), k ≤ xs.length ∧ i = .int .i64 k ∧ l = .int .i64 r ∧ 0 ≤ r ∧ r ≤ left ∧ AllTo smallChange xs k ∧ Below w.heap.size w W) (fun _ i _ => xs.length - (intOf i).toNat)
    case atStart => exact ⟨0, _, Nat.zero_le _, rfl, rfl, m0, by omega, .zero, Below.refl _ _⟩
    case round =>
      obtain ⟨k, r, hk, rfl, rfl, r0, r1, hall, hB⟩ := hrel
      by_cases hlt : k < xs.length
      · obtain ⟨g, off, cs, bk, rfl, hr, hc, hbk, _⟩ := (h.up hB).get hlt
        obtain ⟨sa0, sn0, sc0, sb0, sa1, sn1, sc1, sb1, rfl, f0, f1, f2, f3, f4, hbs⟩ := Change_rep.1 hr
        obtain rfl := hbs.symm
        have c0 : wr.cell? ⟨g, off + k * 5, none⟩ = some (.string xs[k].name) := hc 0 _ rfl
        have c1 : wr.cell? ⟨g, off + k * 5 + 1, none⟩ = some (.int .i64 xs[k].plus.arity) := hc 1 _ rfl
        have c2 : wr.cell? ⟨g, off + k * 5 + 2, none⟩ = some (.slice sa0 sn0 sc0) := hc 2 _ rfl
        have c3 : wr.cell? ⟨g, off + k * 5 + 3, none⟩ = some (.int .i64 xs[k].minus.arity) := hc 3 _ rfl
        have c4 : wr.cell? ⟨g, off + k * 5 + 4, none⟩ = some (.slice sa1 sn1 sc1) := hc 4 _ rfl
        clear hc
        go_wp2_with fail
        refine (szChange_any _ xs[k] _ _ _ hr r0 (by omega)).mono ?_
        rintro e w1 ⟨r', rfl, g0, g1, hs, hb⟩
        have hB1 := below_up hB hb (Nat.le_refl _)
        clear hb
        by_cases n1 : r' < 0
        · go_wp2_with fail
          go_ret
          exact ⟨-1, rfl, by omega, by omega, fun h => absurd h (by omega), hB1⟩
        · have m1 : 0 ≤ r' := by omega
          have hall1 := hall.succ hlt (hs m1)
          go_wp2_with fail
          go_roundw
          case rel => exact ⟨k + 1, r', by omega, by go_num, rfl, m1, by omega, hall1, hB1⟩
          case measure => simp [intOf]; omega
      · obtain rfl : k = xs.length := by omega
        have hall1 := hall.done
        clear hall
        go_wp2_with fail
        go_ret
        exact ⟨r, rfl, by omega, by omega, fun _ => ⟨by omega, hall1⟩, hB⟩

set_option maxHeartbeats 1600000 in
theorem eqChangeS_any (a : Option Addr) (n cap : Nat) (a' : Option Addr) (n' cap' : Nat) (xs : List (Changet)) (bs bs' : List Nat) (w : World) (h : SliceRep changeE w a n cap xs bs) (h' : SliceRep changeE w a' n' cap' xs bs') :
    Calls Try.prog 88 #[.slice a n cap, .slice a' n' cap'] w fun e w' => e = .returned (.bool true) ∧ Below w.heap.size w w' := by
  have hmax := h.max
  obtain rfl := h.1
  obtain rfl := h'.1
  go_enter Try.func88, Try.ntmps88
  go_wp2_with fail
  go_loopw [5] (fun i W => ∃ (k : Nat), k ≤ xs.length ∧ i = .int .i64 k ∧ Below w.heap.size w W) (fun i _ => xs.length - (intOf i).toNat)
  case atStart => exact ⟨0, Nat.zero_le _, rfl, Below.refl _ _⟩
  case round =>
    obtain ⟨k, hk, rfl, hB⟩ := hrel
    by_cases hlt : k < xs.length
    · obtain ⟨g, off, cs, bk, rfl, hr, hc, hbk, _⟩ := (h.up hB).get hlt
      obtain ⟨sa0, sn0, sc0, sb0, sa1, sn1, sc1, sb1, rfl, f0, f1, f2, f3, f4, hbs⟩ := Change_rep.1 hr
      obtain rfl := hbs.symm
      have c0 : wr.cell? ⟨g, off + k * 5, none⟩ = some (.string xs[k].name) := hc 0 _ rfl
      have c1 : wr.cell? ⟨g, off + k * 5 + 1, none⟩ = some (.int .i64 xs[k].plus.arity) := hc 1 _ rfl
      have c2 : wr.cell? ⟨g, off + k * 5 + 2, none⟩ = some (.slice sa0 sn0 sc0) := hc 2 _ rfl
      have c3 : wr.cell? ⟨g, off + k * 5 + 3, none⟩ = some (.int .i64 xs[k].minus.arity) := hc 3 _ rfl
      have c4 : wr.cell? ⟨g, off + k * 5 + 4, none⟩ = some (.slice sa1 sn1 sc1) := hc 4 _ rfl
      clear hc
      have hlty := hlt
      obtain ⟨g', off', csy, bky, rfl, hry, hcy, hbky, _⟩ := (h'.up hB).get hlty
      obtain ⟨say0, sny0, scy0, sby0, say1, sny1, scy1, sby1, rfl, p0, p1, p2, p3, p4, hbs⟩ := Change_rep.1 hry
      obtain rfl := hbs.symm
      have d0 : wr.cell? ⟨g', off' + k * 5, none⟩ = some (.string xs[k].name) := hcy 0 _ rfl
      have d1 : wr.cell? ⟨g', off' + k * 5 + 1, none⟩ = some (.int .i64 xs[k].plus.arity) := hcy 1 _ rfl
      have d2 : wr.cell? ⟨g', off' + k * 5 + 2, none⟩ = some (.slice say0 sny0 scy0) := hcy 2 _ rfl
      have d3 : wr.cell? ⟨g', off' + k * 5 + 3, none⟩ = some (.int .i64 xs[k].minus.arity) := hcy 3 _ rfl
      have d4 : wr.cell? ⟨g', off' + k * 5 + 4, none⟩ = some (.slice say1 sny1 scy1) := hcy 4 _ rfl
      clear hcy
      have i0 : (0 : Int) ≤ (k : Int) := by omega
      have i1 : (k : Int) < (xs.length : Int) := by omega
      have K : Kept w [(⟨g, off + k * 5, none⟩, .string xs[k].name), (⟨g, off + k * 5 + 1, none⟩, .int .i64 xs[k].plus.arity), (⟨g, off + k * 5 + 2, none⟩, .slice sa0 sn0 sc0), (⟨g, off + k * 5 + 3, none⟩, .int .i64 xs[k].minus.arity), (⟨g, off + k * 5 + 4, none⟩, .slice sa1 sn1 sc1), (⟨g', off' + k * 5, none⟩, .string xs[k].name), (⟨g', off' + k * 5 + 1, none⟩, .int .i64 xs[k].plus.arity), (⟨g', off' + k * 5 + 2, none⟩, .slice say0 sny0 scy0), (⟨g', off' + k * 5 + 3, none⟩, .int .i64 xs[k].minus.arity), (⟨g', off' + k * 5 + 4, none⟩, .slice say1 sny1 scy1)] wr := (((((((((((Kept.at_ hB).cons d4).cons d3).cons d2).cons d1).cons d0).cons c4).cons c3).cons c2).cons c1).cons c0)
      go_wp2_with fail
      go_region_held3 (fun W => Kept w [(⟨g, off + k * 5, none⟩, .string xs[k].name), (⟨g, off + k * 5 + 1, none⟩, .int .i64 xs[k].plus.arity), (⟨g, off + k * 5 + 2, none⟩, .slice sa0 sn0 sc0), (⟨g, off + k * 5 + 3, none⟩, .int .i64 xs[k].minus.arity), (⟨g, off + k * 5 + 4, none⟩, .slice sa1 sn1 sc1), (⟨g', off' + k * 5, none⟩, .string xs[k].name), (⟨g', off' + k * 5 + 1, none⟩, .int .i64 xs[k].plus.arity), (⟨g', off' + k * 5 + 2, none⟩, .slice say0 sny0 scy0), (⟨g', off' + k * 5 + 3, none⟩, .int .i64 xs[k].minus.arity), (⟨g', off' + k * 5 + 4, none⟩, .slice say1 sny1 scy1)] W ∧ W.cell? ⟨g, off + k * 5, none⟩ = some (.string xs[k].name) ∧ W.cell? ⟨g, off + k * 5 + 1, none⟩ = some (.int .i64 xs[k].plus.arity) ∧ W.cell? ⟨g, off + k * 5 + 2, none⟩ = some (.slice sa0 sn0 sc0) ∧ W.cell? ⟨g, off + k * 5 + 3, none⟩ = some (.int .i64 xs[k].minus.arity) ∧ W.cell? ⟨g, off + k * 5 + 4, none⟩ = some (.slice sa1 sn1 sc1) ∧ W.cell? ⟨g', off' + k * 5, none⟩ = some (.string xs[k].name) ∧ W.cell? ⟨g', off' + k * 5 + 1, none⟩ = some (.int .i64 xs[k].plus.arity) ∧ W.cell? ⟨g', off' + k * 5 + 2, none⟩ = some (.slice say0 sny0 scy0) ∧ W.cell? ⟨g', off' + k * 5 + 3, none⟩ = some (.int .i64 xs[k].minus.arity) ∧ W.cell? ⟨g', off' + k * 5 + 4, none⟩ = some (.slice say1 sny1 scy1))
        (first | exact Kept.c10 (Kept.up (by assumption) (And.left (by assumption))) | exact K.drew.c10)
        ((go_at_call 132; refine (eqChange_any _ _ xs[k] _ _ _ (changeE.up hr (by first | exact (Below.refl _ _).drew | exact (Below.refl _ _))) (changeE.up hry (by first | exact (Below.refl _ _).drew | exact (Below.refl _ _)))).mono ?_; rintro e w3 ⟨rfl, hb3⟩))
      rename_i hh
      have hB1 := hh.1.1
      clear hh K c0 c1 c2 c3 c4 d0 d1 d2 d3 d4
      go_wp2_with fail
      go_roundw
      case rel => exact ⟨k + 1, by omega, by go_num, hB1⟩
      case measure => simp [intOf]; omega
    · obtain rfl : k = xs.length := by omega
      go_wp2_with fail
      go_ret
      exact ⟨rfl, hB⟩

theorem zeroChange (w : World) : changeE.rep w [.string ⟨#[]⟩, .int .i64 0, .slice none 0 0, .int .i64 0, .slice none 0 0] ⟨ByteArray.empty, ⟨0, []⟩, ⟨0, []⟩⟩ [] := by
  exact Change_rep.2 ⟨none, 0, 0, [], none, 0, 0, [], rfl, by simp, by decide, ⟨rfl, Nat.le_refl _, Nat.zero_le _, (fun _ => rfl), .inl ⟨rfl, rfl⟩⟩, by decide, ⟨rfl, Nat.le_refl _, Nat.zero_le _, (fun _ => rfl), .inl ⟨rfl, rfl⟩⟩, rfl⟩
theorem infoChange : (Try.prog.info? 113).map (fun i => (i.zero, i.size, i.bytes)) = some (some (.agg #[.string ⟨#[]⟩, .int .i64 0, .slice none 0 0, .int .i64 0, .slice none 0 0]), 5, 80) := by kernel_rfl
set_option maxHeartbeats 1600000 in
theorem toChangeS_any (a : Option Addr) (n cap : Nat) (xs : List (Changet)) (bs : List Nat) (w : World) (h : SliceRep changeE w a n cap xs bs) (hsm : xs.length ≤ 1048576 ∧ ∀ y ∈ xs, smallChange y) :
    Calls Try.prog 86 #[.slice a n cap] w (RetSlice changeE w xs) := by
  have hmax := h.max
  have hsm0 := hsm.1
  have HSM := Lib.hid hsm.2
  clear hsm
  obtain rfl := h.1
  obtain ⟨i0, hi, hz0, hz1, hz2⟩ := info_parts infoChange
  have hmk := fun W => run_make_rowN (P := Try.prog) 63 113 i0 _ Try.underlying63 hi hz0 .i64 .i64 xs.length xs.length (Nat.le_refl _) (by rw [hz2]; omega) hmax W
  rw [hz1] at hmk
  clear hi hz0 hz1 hz2
  go_enter Try.func86, Try.ntmps86
  go_wp2_with fail
  obtain ⟨bs0, hS0, hF0⟩ := SliceRep.made (e := changeE) (z := #[.string ⟨#[]⟩, .int .i64 0, .slice none 0 0, .int .i64 0, .slice none 0 0]) (x0 := ⟨ByteArray.empty, ⟨0, []⟩, ⟨0, []⟩⟩) (fun w => zeroChange w) (by decide) xs.length (by unfold maxLen; omega) w 113
  have hb0 := (Below.refl w.heap.size w).alloc (Nat.le_refl _) (.cells (madeCells #[.string ⟨#[]⟩, .int .i64 0, .slice none 0 0, .int .i64 0, .slice none 0 0] (xs.length * changeE.size)) 113)
  have hg0 : w.heap.size < (w.alloc (.cells (madeCells #[.string ⟨#[]⟩, .int .i64 0, .slice none 0 0, .int .i64 0, .slice none 0 0] (xs.length * changeE.size)) 113)).heap.size := by simp
  rw [show changeE.size = 5 from rfl] at hS0 hF0 hb0 hg0
  generalize w.alloc (.cells (madeCells #[.string ⟨#[]⟩, .int .i64 0, .slice none 0 0, .int .i64 0, .slice none 0 0] (xs.length * 5)) 113) = w0 at *
  clear hmk
  go_loopw [4] (fun i W => ∃ (k : Nat) (ys : List (Changet)) (bs' : List Nat), k ≤ xs.length ∧ i = .int .i64 k ∧ Filled xs ⟨ByteArray.empty, ⟨0, []⟩, ⟨0, []⟩⟩ k ys ∧ SliceRep changeE W (some ⟨w.heap.size, 0, none⟩) xs.length xs.length ys bs' ∧ Fresh w.heap.size W bs' ∧ Below w.heap.size w W ∧ w.heap.size < W.heap.size) (fun i _ => xs.length - (intOf i).toNat)
  case atStart => exact ⟨0, _, bs0, Nat.zero_le _, rfl, .zero, hS0, hF0, hb0, hg0⟩
  case round =>
    clear hS0 hF0 hb0 hg0
    obtain ⟨k, ys, bs', hk, rfl, hfill, hS, hF, hB, hG⟩ := hrel
    by_cases hlt : k < xs.length
    · obtain ⟨g, off, cs, bk, rfl, hr, hc, hbk, _⟩ := (h.up hB).get hlt
      obtain ⟨sa0, sn0, sc0, sb0, sa1, sn1, sc1, sb1, rfl, f0, f1, f2, f3, f4, hbs⟩ := Change_rep.1 hr
      obtain rfl := hbs.symm
      have c0 : wr.cell? ⟨g, off + k * 5, none⟩ = some (.string xs[k].name) := hc 0 _ rfl
      have c1 : wr.cell? ⟨g, off + k * 5 + 1, none⟩ = some (.int .i64 xs[k].plus.arity) := hc 1 _ rfl
      have c2 : wr.cell? ⟨g, off + k * 5 + 2, none⟩ = some (.slice sa0 sn0 sc0) := hc 2 _ rfl
      have c3 : wr.cell? ⟨g, off + k * 5 + 3, none⟩ = some (.int .i64 xs[k].minus.arity) := hc 3 _ rfl
      have c4 : wr.cell? ⟨g, off + k * 5 + 4, none⟩ = some (.slice sa1 sn1 sc1) := hc 4 _ rfl
      clear hc
      go_wp2_with fail
      refine (toChange_any _ xs[k] _ _ hr (HSM.out _ (List.getElem_mem hlt))).mono ?_
      rintro e w1 ⟨cz, bz, rfl, hrz, hFz, hb1⟩
      have hcz := Change_rep.1 hrz
      obtain ⟨saz0, snz0, scz0, sbz0, saz1, snz1, scz1, sbz1, hcz, q0, q1, q2, q3, q4, hbz⟩ := hcz
      obtain rfl : cz = #[.string xs[k].name, .int .i64 xs[k].plus.arity, .slice saz0 snz0 scz0, .int .i64 xs[k].minus.arity, .slice saz1 snz1 scz1] := by cases cz; simpa using hcz
      clear hcz
      have hS1 := hS.up hb1
      have hF1 := hF.up hb1
      have hB1 := below_up hB hb1 (Nat.le_refl _)
      have hly := hfill.len hk
      have hdis : ∀ c ∈ bz, c ∉ bs' := fun c hc hc' => by have h1 := (hFz.2 c hc).1; have h2 := hF.lt c hc'; omega
      have hFz1 : Fresh w.heap.size w1 bz := hFz.mono (Nat.le_of_lt hG)
      obtain ⟨cs1, bo, hr1, _, hsl⟩ := hS1.slot hF1 (k := k) (by omega)
      obtain ⟨sao0, sno0, sco0, sbo0, sao1, sno1, sco1, sbo1, rfl, _, _, _, _, _, hbo⟩ := Change_rep.1 hr1
      have s0 := hsl 0 _ rfl
      have s1 := hsl 1 _ rfl
      have s2 := hsl 2 _ rfl
      have s3 := hsl 3 _ rfl
      have s4 := hsl 4 _ rfl
      rw [Nat.zero_add, show changeE.size = 5 from rfl] at s0 s1 s2 s3 s4
      simp only [Nat.add_zero] at s0
      clear hsl
      obtain ⟨bs2, hS2, hF2, _⟩ := hS1.store hF1 (by decide) (k := k) (by omega) hrz hFz1 hdis
      have hB2 := setCells_below (Nat.le_refl w.heap.size) [.string xs[k].name, .int .i64 xs[k].plus.arity, .slice saz0 snz0 scz0, .int .i64 xs[k].minus.arity, .slice saz1 snz1 scz1] w1 (0 + k * changeE.size) hB1
      have hG2 : w.heap.size < (setCells w1 w.heap.size (0 + k * changeE.size) [.string xs[k].name, .int .i64 xs[k].plus.arity, .slice saz0 snz0 scz0, .int .i64 xs[k].minus.arity, .slice saz1 snz1 scz1]).heap.size := by rw [setCells_size]; have := hb1.size; omega
      rw [Nat.zero_add, show changeE.size = 5 from rfl] at hS2 hF2 hB2 hG2
      have hf2 := hfill.succ hlt
      clear hfill hS hF hS1 hF1 hdis c0 c1 c2 c3 c4 
      go_wp2_with fail
      go_roundw
      case rel => exact ⟨k + 1, _, bs2, by omega, by go_num, hf2, hS2, hF2, hB2, hG2⟩
      case measure => simp [intOf]; omega
    · obtain rfl : k = xs.length := by omega
      obtain rfl := hfill.done
      go_wp2_with fail
      go_ret
      exact ⟨_, _, _, _, rfl, hS, hF, hB⟩

structure Deltat where
  changes : List (Changet)
def deltaE : Enc Deltat := isoE (pairE (sliceE changeE) unitE) (fun x => (x.changes, ()))
theorem Delta_rep {w : World} {cs : List Value} {x : Deltat} {bs : List Nat} : deltaE.rep w cs x bs ↔ ∃ (sa0 : Option Addr) (sn0 sc0 : Nat) (sb0 : List Nat), cs = [.slice sa0 sn0 sc0] ∧ SliceRep changeE w sa0 sn0 sc0 x.changes sb0 ∧ bs = sb0 := by
  constructor
  · rintro ⟨c0, r0, d0, q0, rfl, rfl, h0, rfl, rfl⟩
    obtain ⟨va0, vn0, vc0, rfl, f0⟩ := h0
    exact ⟨va0, vn0, vc0, _, by simp, f0, by simp⟩
  · rintro ⟨sa0, sn0, sc0, sb0, rfl, f0, hbs⟩
    obtain rfl := hbs.symm
    exact ⟨[.slice sa0 sn0 sc0], [], sb0, [], rfl, by simp, ⟨sa0, sn0, sc0, rfl, f0⟩, ⟨rfl, rfl⟩⟩
theorem opens_lDelta : Opens Try.prog deltaE 61 :=
  opens_iso (fun x => ⟨x.1⟩) (fun _ => rfl) (opens_struct Try.underlying61 (by kernel_rfl) (opensF_cons rfl (by kernel_rfl) (opens_slice Try.underlying59 (by kernel_rfl) (by decide) opens_lChange) opensF_nil))
def smallDelta (x : Deltat) : Prop := (x.changes.length ≤ 1048576 ∧ ∀ y ∈ x.changes, smallChange y)

set_option maxHeartbeats 800000 in
theorem szDelta_any (cs : List Value) (x : Deltat) (bs : List Nat) (left : Int) (w : World) (h : deltaE.rep w cs x bs) (l0 : 0 ≤ left) (l1 : left ≤ 1048576) :
    Calls Try.prog 35 #[.agg cs.toArray, .int .i64 left] w (RetSz (smallDelta x) left w) := by
  obtain ⟨sa0, sn0, sc0, sb0, rfl, f0, hbs⟩ := Delta_rep.1 h
  obtain rfl := hbs.symm
  have H := ((Held.start w).box_ #[.slice sa0 sn0 sc0] 61).s1
  go_enter Try.func35, Try.ntmps35
  go_wp2_with fail
  refine (szChangeS_any sa0 sn0 sc0 x.changes sb0 _ _ (f0.up H.1.below) (by omega) (by omega)).mono ?_
  rintro e w0 ⟨r0, rfl, g0, k0, s0, hb⟩
  replace H := (H.1.up hb).s1
  clear hb
  by_cases n0 : r0 < 0
  · go_wp2_with fail
    go_ret
    exact ⟨-1, rfl, by omega, by omega, fun h => absurd h (by omega), H.1.below⟩
  · have m0 : 0 ≤ r0 := by omega
    go_wp2_with fail
    go_ret
    exact ⟨r0, rfl, by omega, by omega, fun _ => by unfold smallDelta; exact s0 m0, H.1.below⟩

set_option maxHeartbeats 800000 in
theorem eqDelta_any (cs ds : List Value) (x : Deltat) (bs bs' : List Nat) (w : World) (h : deltaE.rep w cs x bs) (h' : deltaE.rep w ds x bs') :
    Calls Try.prog 39 #[.agg cs.toArray, .agg ds.toArray] w fun e w' => e = .returned (.bool true) ∧ Below w.heap.size w w' := by
  obtain ⟨sa0, sn0, sc0, sb0, rfl, f0, hbs⟩ := Delta_rep.1 h
  obtain rfl := hbs.symm
  obtain ⟨say0, sny0, scy0, sby0, rfl, g0, hbs⟩ := Delta_rep.1 h'
  obtain rfl := hbs.symm
  have H := ((Held.start w).box_ #[.slice sa0 sn0 sc0] 65).box_ #[.slice say0 sny0 scy0] 65
  rw [show (w.alloc (.cells #[.slice sa0 sn0 sc0] 65)).heap.size = w.heap.size + 1 by simp] at H
  replace H := H.s2
  go_enter Try.func39, Try.ntmps39
  go_wp2_with fail
  refine (eqChangeS_any _ _ _ _ _ _ x.changes _ _ _ (f0.up H.1.below) (g0.up H.1.below)).mono ?_
  rintro e w0 ⟨rfl, hb⟩
  replace H := (H.1.up hb).s2
  clear hb
  go_wp2_with fail
  go_ret
  exact ⟨rfl, H.1.below⟩

set_option maxHeartbeats 1600000 in
theorem toDelta_any (cs : List Value) (x : Deltat) (bs : List Nat) (w : World) (h : deltaE.rep w cs x bs) (hsm : smallDelta x) :
    Calls Try.prog 37 #[.agg cs.toArray] w (RetAgg deltaE w x) := by
  obtain ⟨sa0, sn0, sc0, sb0, rfl, f0, hbs⟩ := Delta_rep.1 h
  obtain rfl := hbs.symm
  have HSM := Lib.hid hsm
  clear hsm h
  have H := Three.start w #[.slice sa0 sn0 sc0] #[.slice none 0 0] #[.slice none 0 0] 61 65 65
  go_enter Try.func37, Try.ntmps37
  go_wp2_with fail
  generalize ((w.alloc (.cells #[.slice sa0 sn0 sc0] 61)).alloc (.cells #[.slice none 0 0] 65)).alloc (.cells #[.slice none 0 0] 65) = w0 at *
  have hz0 := H.lt
  have ca0 := H.a.cell
  refine (toChangeS_any _ _ _ x.changes _ _ (f0.up H.below) HSM.out).mono ?_
  rintro e w1 ⟨ra0, rn0, rc0, rb0, rfl, q0_0, F0, hb⟩
  replace H := H.up hb
  clear hb ca0
  have hcz0 := H.c.cell
  have hfz0 := H.c.free
  have H0_0 : Three w #[.slice sa0 sn0 sc0] #[.slice none 0 0] #[.slice ra0 rn0 rc0] _ := H.set 0 (.slice ra0 rn0 rc0) (by simp) rfl
  have hS0 := ((Same.refl (w.heap.size + 1 + 1 + 1) w1).set (g := w.heap.size + 1 + 1) (by omega) 0 (.slice ra0 rn0 rc0))
  have hge0 : ∀ c ∈ rb0, w.heap.size + 1 + 1 + 1 ≤ c := fun c hc => Nat.le_trans hz0 (F0.ge c hc)
  replace q0_0 := q0_0.same hS0 hge0
  replace F0 := F0.same hS0 hge0
  replace H := H0_0
  have dz := H.z.cell
  have ez := H.z.free
  have hcc := H.c.cell
  go_wp2_with fail
  refine bodyPost_ret (v := .agg #[.slice ra0 rn0 rc0]) (by simp [results, Try.results37, go_sem, dz]; try rfl) rfl ?_
  have hSf := ((Same.refl (w.heap.size + 1 + 1 + 1) (w1.setCell ⟨w.heap.size + 1 + 1, 0, none⟩ (.slice ra0 rn0 rc0))).set (g := w.heap.size + 1) (by omega) 0 (.slice ra0 rn0 rc0))
  refine ⟨#[.slice ra0 rn0 rc0], _, rfl, Delta_rep.2 ⟨ra0, rn0, rc0, _, rfl, q0_0.same hSf hge0, rfl⟩, ?_, (H.below.setCell (p := ⟨w.heap.size + 1, 0, none⟩) (by simp) (.slice ra0 rn0 rc0))⟩
  exact ((F0.same hSf hge0).mono (by omega))

end Go.Proofs.Ytibhoanjglfaoaa

/- Right deltas, in plain words; fields of struct values. -/
namespace Go.Proofs.Ytibhoanjglfaoaa
open Go.RowKit
set_option linter.unusedVariables false

def changeC (x : Changet) : List Cell := [.c (.string x.name), .c (.int .i64 x.plus.arity), .sl rowE x.plus.rows, .c (.int .i64 x.minus.arity), .sl rowE x.minus.rows]
instance : CellsOf changeE changeC := cellsIso (e := pairE strE (pairE relE (pairE relE unitE))) (fun x : Changet => (x.name, x.plus, x.minus, ()))
def deltaC (s : Deltat) : List Cell := [.sl changeE s.changes]
instance : CellsOf deltaE deltaC := cellsIso (e := pairE (sliceE changeE) unitE) (fun x : Deltat => (x.changes, ()))
/-- The first has no row of the second. -/
def apart (a b : Relt) : Bool := (a.rows.filter fun row => hasRow b.rows row).length == 0
def changeAt (l : List Changet) (k : Nat) (h : k < l.length) : Bool :=
  wordB l[k].name && ((decide (k = 0) || bless (l[k - 1]'(by omega)).name l[k].name) && (two l[k].plus l[k].minus && (!(l[k].plus.rows.length + l[k].minus.rows.length == 0) && apart l[k].plus l[k].minus)))
def deltaOk (s : Deltat) : Bool := everyB (changeAt s.changes) && decide (s.changes.length ≤ 24)
theorem deltaOk_len {s : Deltat} (h : 24 < s.changes.length) : deltaOk s = false := by
  have : decide (s.changes.length ≤ 24) = false := decide_eq_false (by omega)
  unfold deltaOk; rw [this]; simp
theorem deltaOk_bad {s : Deltat} {k : Nat} (hk : k < s.changes.length) (h : changeAt s.changes k hk = false) : deltaOk s = false := by
  unfold deltaOk; rw [everyB_bad hk h]; rfl
theorem deltaOk_good {s : Deltat} {k : Nat} (h : AllAt (changeAt s.changes) k) (hk : s.changes.length ≤ k) (hl : s.changes.length ≤ 24) : deltaOk s = true := by
  unfold deltaOk; rw [h.all hk, decide_eq_true hl]; rfl
theorem changeAt_word {l : List Changet} {k : Nat} (hk : k < l.length) (h : wordB l[k].name = false) : changeAt l k hk = false := by simp [changeAt, h]
theorem changeAt_order {l : List Changet} {k : Nat} (hk : k < l.length) (h0 : 0 < k) (h : Op.bytesLess (l[k - 1]'(by omega)).name.toList l[k].name.toList = false) : changeAt l k hk = false := by
  have : decide (k = 0) = false := decide_eq_false (by omega)
  simp [changeAt, this, bless, h]
theorem changeAt_two {l : List Changet} {k : Nat} (hk : k < l.length) (h : two l[k].plus l[k].minus = false) : changeAt l k hk = false := by simp [changeAt, h]
theorem changeAt_none {l : List Changet} {k : Nat} (hk : k < l.length) (h : (l[k].plus.rows.length : Int) + l[k].minus.rows.length = 0) : changeAt l k hk = false := by
  have : l[k].plus.rows.length + l[k].minus.rows.length = 0 := by omega
  simp [changeAt, this]
theorem changeAt_apart {l : List Changet} {k : Nat} (hk : k < l.length) (h : apart l[k].plus l[k].minus = false) : changeAt l k hk = false := by simp [changeAt, h]
theorem changeAt_good {l : List Changet} {k : Nat} (hk : k < l.length) (h1 : wordB l[k].name = true) (h2 : (h0 : ¬ k = 0) → Op.bytesLess (l[k - 1]'(by omega)).name.toList l[k].name.toList = true) (h3 : two l[k].plus l[k].minus = true) (h4 : ¬ (l[k].plus.rows.length : Int) + l[k].minus.rows.length = 0)
    (h5 : apart l[k].plus l[k].minus = true) : changeAt l k hk = true := by
  have e4 : (l[k].plus.rows.length + l[k].minus.rows.length == 0) = false := by
    rw [beq_eq_false_iff_ne]; omega
  have e2 : (decide (k = 0) || bless (l[k - 1]'(by omega)).name l[k].name) = true := by
    by_cases h0 : k = 0
    · simp [h0]
    · simp [bless, h2 h0]
  unfold changeAt
  rw [h1, e2, h3, e4, h5]; rfl
theorem apart_iff {a b : Relt} : apart a b = true ↔ (a.rows.filter fun row => hasRow b.rows row).length = 0 := by simp [apart]
theorem apart_not {a b : Relt} (h : 0 < (a.rows.filter fun row => hasRow b.rows row).length) : apart a b = false := by
  cases h' : apart a b
  · rfl
  · rw [apart_iff] at h'; omega
section ops
variable {P : Program} {N : Nat} {s : St} {d : Nat} {ty : TypeId} {pos : String} {after : Array Edge} {gd : Option (Nat × Bool)}
def fldOne (P : Program) (S : TypeId) (j : Nat) : Option Nat :=
  match P.underlying S with
  | some (.struct fs) => match fs[j]? with
    | some f => match P.underlying f.type with
      | some (.slice _) => some f.offset
      | some (.int _) => some f.offset
      | some .string => some f.offset
      | _ => none
    | none => none
  | _ => none
theorem run_field1 {S j off : Nat} (h : fldOne P S j = some off) {vs : Array Value} {v : Value} (hv : vs[off]? = some v) (w : World) : (Instr.field S (.agg vs) j).run P w = .ok v w := by
  unfold fldOne at h
  split at h
  · rename_i fs hu
    split at h
    · rename_i f hj
      split at h <;> first | (rename_i hf; cases h; simp [Instr.field, run_underlying hu, hj, asAgg, part, isAgg, run_underlying hf, hv]; done) | (cases h; done)
    · cases h
  · cases h
theorem x_fldv {S j off : Nat} {x : Operand} {cs : List Cell} {c : Cell} (hN : Nat.blt d N = true) (h : evo s.t x = some (.agg cs)) (hf : fldOne P S j = some off) (hc : nthC cs off = some c) :
    Stp P N ⟨some d, .field S x j, ty, pos, after, gd⟩ s ⟨(d, .one c) :: s.t, s.l⟩ ⟨rdo x (.agg cs), [], [(d, .one c)], [], []⟩ :=
  Stp.pure rfl hN (rdo_of h) (by simp) fun g s' a w ht hl' r => by
    obtain ⟨vs, e1, e2⟩ : VR g s'.l w (a.eval x) (.agg cs) := eval_ok r (evs_of h) ht
    obtain ⟨v, h3, h4⟩ := e2.get (nthC_get hc)
    have hrun := run_field1 (P := P) hf (vs := vs.toArray) (v := v) (by simpa using h3) w
    exact ⟨v, by simp only [execOp, e1, Sem.run_bind, hrun, Result.andThen_ok]; rfl, h4⟩
end ops
end Go.Proofs.Ytibhoanjglfaoaa

/- Sizes of data (printed by mktot.py) -/
namespace Go.Proofs.Ytibhoanjglfaoaa
open Go.RowKit
set_option linter.unusedVariables false

def totChange (x : Changet) : Nat := x.name.size + totRel x.plus + totRel x.minus
def totDelta (x : Deltat) : Nat := totL totChange x.changes
end Go.Proofs.Ytibhoanjglfaoaa

/- The laws' own functions (printed by walk.py) -/
namespace Go.Proofs.Ytibhoanjglfaoaa
open Go.RowKit
set_option linter.unusedVariables false
set_option linter.unusedSimpArgs false
set_option maxRecDepth 100000

set_option maxHeartbeats 4000000 in
theorem szValue_c (x : Val) (left : Int) (l0 : 0 ≤ left) (l1 : left ≤ 1048576) : AC Try.prog 162 [.agg (valC x), .one (.c (.int .i64 left))] [] (.one (.c (.int .i64 (szR (totValue x) left)))) [] := by
  refine AC_body1 Try.func162 rfl rfl Try.ntmps162 rfl Try.results162 ?_
  refine AW_aggsmax 0 1 rfl rfl (fun hs0_1 => ?_)
  refine AW_seq ?_
  refine AW_region ?_
  refine AL_p (x_box 100 rfl rfl rfl rfl rfl rfl rfl) ?_
  refine AL_p (x_assign rfl rfl) ?_
  refine AL_nil ?_
  refine AW_seq ?_
  refine AW_region ?_
  refine AL_p (x_move rfl rfl) ?_
  refine AL_p (x_field (off := 1) (o' := 1) rfl rfl rfl (by kernel_rfl) rfl) ?_
  refine AL_p (x_load1 rfl rfl rfl (by kernel_rfl) rfl) ?_
  refine AL_p (x_lens rfl rfl (by kernel_rfl)) ?_
  refine AL_p (x_sub rfl rfl rfl (IntWalk.i64_in _ (by omega))) ?_
  refine AL_p (x_assign rfl rfl) ?_
  refine AL_nil ?_
  refine AW_seq ?_
  refine AW_seq ?_
  refine AW_region ?_
  refine AL_p (x_move rfl rfl) ?_
  refine AL_b (x_lss rfl rfl rfl) (fun b11 h11 => ?_)
  refine AL_nil ?_
  cases b11
  rotate_left
  · try simp only [decide_eq_true_eq, decide_eq_false_iff_not, Bool.not_eq_true, Bool.not_eq_false, Bool.not_eq_true', Bool.not_eq_false', beq_iff_eq, bne_iff_ne, beq_eq_false_iff_ne, bne_eq_false_iff_eq, Int.not_lt, Int.not_le, ge_iff_le, gt_iff_lt] at h11
    refine AW_condT rfl ?_
    refine AW_seq ?_
    refine AW_region ?_
    refine AL_p (x_assign rfl rfl) ?_
    refine AL_nil ?_
    refine AW_ret ?_
    exact ⟨rn [], ⟨⟨⟨_, rfl, vle_int (by first | (simp only [totValue]; unfold szR; omega) | (simp only [totValue]; done))⟩, trivial⟩, trivial, trivial, rfl⟩⟩
  · try simp only [decide_eq_true_eq, decide_eq_false_iff_not, Bool.not_eq_true, Bool.not_eq_false, Bool.not_eq_true', Bool.not_eq_false', beq_iff_eq, bne_iff_ne, beq_eq_false_iff_ne, bne_eq_false_iff_eq, Int.not_lt, Int.not_le, ge_iff_le, gt_iff_lt] at h11
    refine AW_condF rfl ?_
    refine AW_skip ?_
    refine AW_seq ?_
    refine AW_region ?_
    refine AL_p (x_move rfl rfl) ?_
    refine AL_p (x_assign rfl rfl) ?_
    refine AL_nil ?_
    refine AW_ret ?_
    exact ⟨rn [], ⟨⟨⟨_, rfl, vle_int (by first | (simp only [totValue]; unfold szR; omega) | (simp only [totValue]; done))⟩, trivial⟩, trivial, trivial, rfl⟩⟩

set_option maxHeartbeats 4000000 in
theorem eqValue_c (x : Val) : AC Try.prog 161 [.agg (valC x), .agg (valC x)] [] (.one (.c (.bool true))) [] := by
  refine AC_body1 Try.func161 rfl rfl Try.ntmps161 rfl Try.results161 ?_
  refine AW_seq ?_
  refine AW_region ?_
  refine AL_p (x_box 100 rfl rfl rfl rfl rfl rfl rfl) ?_
  refine AL_p (x_box 101 rfl rfl rfl rfl rfl rfl rfl) ?_
  refine AL_p (x_assign rfl rfl) ?_
  refine AL_nil ?_
  refine AW_seq ?_
  refine AW_seq ?_
  refine AW_region ?_
  refine AL_p (x_field (off := 0) (o' := 0) rfl rfl rfl (by kernel_rfl) rfl) ?_
  refine AL_p (x_load1 rfl rfl rfl (by kernel_rfl) rfl) ?_
  refine AL_p (x_field (off := 0) (o' := 0) rfl rfl rfl (by kernel_rfl) rfl) ?_
  refine AL_p (x_load1 rfl rfl rfl (by kernel_rfl) rfl) ?_
  refine AL_b (x_neq rfl rfl rfl) (fun b9 h9 => ?_)
  refine AL_nil ?_
  cases b9
  rotate_left
  · exfalso; simp [ba_beq_self] at h9
  · try simp only [decide_eq_true_eq, decide_eq_false_iff_not, Bool.not_eq_true, Bool.not_eq_false, Bool.not_eq_true', Bool.not_eq_false', beq_iff_eq, bne_iff_ne, beq_eq_false_iff_ne, bne_eq_false_iff_eq, Int.not_lt, Int.not_le, ge_iff_le, gt_iff_lt] at h9
    refine AW_condF rfl ?_
    refine AW_skip ?_
    refine AW_seq ?_
    refine AW_seq ?_
    refine AW_region ?_
    refine AL_p (x_field (off := 1) (o' := 1) rfl rfl rfl (by kernel_rfl) rfl) ?_
    refine AL_p (x_load1 rfl rfl rfl (by kernel_rfl) rfl) ?_
    refine AL_p (x_field (off := 1) (o' := 1) rfl rfl rfl (by kernel_rfl) rfl) ?_
    refine AL_p (x_load1 rfl rfl rfl (by kernel_rfl) rfl) ?_
    refine AL_b (x_sneq rfl rfl rfl) (fun b14 h14 => ?_)
    refine AL_nil ?_
    cases b14
    rotate_left
    · exfalso; simp [ba_beq_self] at h14
    · try simp only [decide_eq_true_eq, decide_eq_false_iff_not, Bool.not_eq_true, Bool.not_eq_false, Bool.not_eq_true', Bool.not_eq_false', beq_iff_eq, bne_iff_ne, beq_eq_false_iff_ne, bne_eq_false_iff_eq, Int.not_lt, Int.not_le, ge_iff_le, gt_iff_lt] at h14
      refine AW_condF rfl ?_
      refine AW_skip ?_
      refine AW_seq ?_
      refine AW_region ?_
      refine AL_p (x_assign rfl rfl) ?_
      refine AL_nil ?_
      refine AW_ret ?_
      exact ⟨rn [], ⟨⟨⟨_, rfl, vle_bool (rfl)⟩, trivial⟩, trivial, trivial, rfl⟩⟩

set_option maxHeartbeats 4000000 in
theorem toValue_c (x : Val) : AC Try.prog 164 [.agg (valC x)] [] (.agg (valC x)) [] := by
  refine AC_bodyC (n := 2) (k := 9) (T := [(2, .one (.ptr 9 0))]) (Lf := ((9, some (.box (valC x))) :: [])) Try.func164 rfl rfl Try.ntmps164 rfl Try.results164 rfl rfl (by kernel_rfl) rfl rfl ⟨trivial, (by repeat (first | exact trivial | refine ⟨⟨_, rfl, BLe.rf⟩, ?_⟩)), (by repeat (first | exact trivial | refine ⟨⟨rfl, by first | (left; intro h; cases h) | (right; rfl), fun _ h => ⟨_, h⟩⟩, ?_⟩)), rfl⟩ ?_
  refine AW_seq ?_
  refine AW_region ?_
  refine AL_p (x_box 100 rfl rfl rfl rfl rfl rfl rfl) ?_
  refine AL_p (x_alloc (z := .agg #[.int .i64 0, .string ⟨#[]⟩]) 101 rfl (by kernel_rfl) rfl rfl rfl rfl) ?_
  refine AL_nil ?_
  refine AW_seq ?_
  refine AW_region ?_
  refine AL_p (x_alloc (z := .agg #[.int .i64 0, .string ⟨#[]⟩]) 102 rfl (by kernel_rfl) rfl rfl rfl rfl) ?_
  refine AL_nil ?_
  refine AW_seq ?_
  refine AW_region ?_
  refine AL_p (x_field (off := 0) (o' := 0) rfl rfl rfl (by kernel_rfl) rfl) ?_
  refine AL_p (x_load1 rfl rfl rfl (by kernel_rfl) rfl) ?_
  refine AL_p (x_field (off := 0) (o' := 0) rfl rfl rfl (by kernel_rfl) rfl) ?_
  refine AL_p (x_store (n := 1) rfl rfl rfl rfl (by kernel_rfl) rfl rfl rfl) ?_
  refine AL_nil ?_
  refine AW_seq ?_
  refine AW_region ?_
  refine AL_p (x_field (off := 1) (o' := 1) rfl rfl rfl (by kernel_rfl) rfl) ?_
  refine AL_p (x_load1 rfl rfl rfl (by kernel_rfl) rfl) ?_
  refine AL_p (x_field (off := 1) (o' := 1) rfl rfl rfl (by kernel_rfl) rfl) ?_
  refine AL_p (x_store (n := 1) rfl rfl rfl rfl (by kernel_rfl) rfl rfl rfl) ?_
  refine AL_nil ?_
  refine AW_seq ?_
  refine AW_region ?_
  refine AL_p (x_loadN (n := 2) rfl rfl rfl (by kernel_rfl) rfl rfl) ?_
  refine AL_p (x_store (n := 2) rfl rfl rfl rfl (by kernel_rfl) rfl rfl rfl) ?_
  refine AL_nil ?_
  refine AW_ret ?_
  exact ⟨rn [(9, 101)], ⟨⟨⟨_, rfl, VLe.rf⟩, trivial⟩, ⟨⟨_, rfl, BLe.rf⟩, trivial⟩, trivial, rfl⟩⟩

set_option maxHeartbeats 4000000 in
theorem szValueS_c (xs : List (Val)) (left : Int) (l0 : 0 ≤ left) (l1 : left ≤ 1048576) : AC Try.prog 139 [.one (.sl valE xs), .one (.c (.int .i64 left))] [] (.one (.c (.int .i64 (szR (totL totValue xs) left)))) [] := by
  refine AC_body1 Try.func139 rfl rfl Try.ntmps139 rfl Try.results139 ?_
  refine AW_slmax 0 rfl (fun hm0 => ?_)
  refine AW_seq ?_
  refine AW_region ?_
  refine AL_p (x_assign rfl rfl) ?_
  refine AL_nil ?_
  refine AW_seq ?_
  refine AW_region ?_
  refine AL_p (x_move rfl rfl) ?_
  refine AL_p (x_move rfl rfl) ?_
  refine AL_p (x_len (E := 176) (n := 2) rfl rfl (by kernel_rfl)) ?_
  refine AL_p (x_sub rfl rfl rfl (IntWalk.i64_in _ (by omega))) ?_
  refine AL_p (x_assign rfl rfl) ?_
  refine AL_nil ?_
  refine AW_seq ?_
  refine AW_seq ?_
  refine AW_region ?_
  refine AL_p (x_move rfl rfl) ?_
  refine AL_b (x_lss rfl rfl rfl) (fun b11 h11 => ?_)
  refine AL_nil ?_
  cases b11
  rotate_left
  · try simp only [decide_eq_true_eq, decide_eq_false_iff_not, Bool.not_eq_true, Bool.not_eq_false, Bool.not_eq_true', Bool.not_eq_false', beq_iff_eq, bne_iff_ne, beq_eq_false_iff_ne, bne_eq_false_iff_eq, Int.not_lt, Int.not_le, ge_iff_le, gt_iff_lt] at h11
    refine AW_condT rfl ?_
    refine AW_seq ?_
    refine AW_region ?_
    refine AL_p (x_assign rfl rfl) ?_
    refine AL_nil ?_
    refine AW_ret ?_
    exact ⟨rn [], ⟨⟨⟨_, rfl, vle_int (by first | (simp only [totL]; unfold szR; omega) | (simp only [totL]; done))⟩, trivial⟩, trivial, trivial, rfl⟩⟩
  · try simp only [decide_eq_true_eq, decide_eq_false_iff_not, Bool.not_eq_true, Bool.not_eq_false, Bool.not_eq_true', Bool.not_eq_false', beq_iff_eq, bne_iff_ne, beq_eq_false_iff_ne, bne_eq_false_iff_eq, Int.not_lt, Int.not_le, ge_iff_le, gt_iff_lt] at h11
    refine AW_condF rfl ?_
    refine AW_skip ?_
    refine AW_seq ?_
    refine AW_seq ?_
    refine AW_region ?_
    refine AL_p (x_assign rfl rfl) ?_
    refine AL_nil ?_
    refine AW_block ?_
    refine AW_loop2 (ι := {q : Nat // q ≤ xs.length ∧ ((cntL totValue (xs.take q) : Nat) : Int) ≤ left - (xs.length : Int)}) (fun p => [(1, .one (.c (.int .i64 (left - (xs.length : Int) - ((cntL totValue (xs.take (p.1)) : Nat) : Int))))), (5, .one (.c (.int .i64 ((p.1) : Int))))]) (fun p => []) [0] [] (fun p => xs.length - (p.1)) ⟨0, ⟨by omega, by first | (simp [cntL]; done) | (simp [cntL]; try omega)⟩⟩ (rn []) ?_ ?_
    exact ⟨by (repeat refine ⟨⟨_, rfl, by first | exact VLe.rf | exact vle_int (by dsimp only; omega) | exact vle_int (by first | (simp [cntL]; done) | (simp [cntL]; try omega))⟩, ?_⟩); exact trivial, by (repeat refine ⟨⟨_, rfl, by first | exact BLe.rf | exact BLe.box AllC.rf | exact BLe.arr (by exact rfl)⟩, ?_⟩); exact trivial, by repeat (first | exact trivial | refine ⟨⟨rfl, by first | (left; intro h; cases h) | (right; rfl), fun _ h => ⟨_, h⟩⟩, ?_⟩), rfl⟩
    rintro ⟨k, hinv⟩
    dsimp only
    obtain ⟨hk, hc⟩ := hinv
    refine AW_seq ?_
    refine AW_seq ?_
    refine AW_region ?_
    refine AL_p (x_move rfl rfl) ?_
    refine AL_p (x_move rfl rfl) ?_
    refine AL_p (x_len (E := 176) (n := 2) rfl rfl (by kernel_rfl)) ?_
    refine AL_b (x_lss rfl rfl rfl) (fun b15 h15 => ?_)
    refine AL_nil ?_
    cases b15
    rotate_left
    · try simp only [decide_eq_true_eq, decide_eq_false_iff_not, Bool.not_eq_true, Bool.not_eq_false, Bool.not_eq_true', Bool.not_eq_false', beq_iff_eq, bne_iff_ne, beq_eq_false_iff_ne, bne_eq_false_iff_eq, Int.not_lt, Int.not_le, ge_iff_le, gt_iff_lt] at h15
      have hlt : k < xs.length := by omega
      have hs := cntL_snoc (c := totValue) hlt
      have ht := cntL_take (c := totValue) hlt
      refine AW_condT rfl ?_
      refine AW_skip ?_
      refine AW_seq ?_
      refine AW_block ?_
      refine AW_seq ?_
      refine AW_region ?_
      refine AL_p (x_move rfl rfl) ?_
      refine AL_p (x_move rfl rfl) ?_
      refine AL_p (x_index (E := 176) (n := 2) rfl rfl rfl (by kernel_rfl) rfl (k := k) (by omega) (by omega)) ?_
      refine AL_p (x_eloadW (n := 2) rfl rfl (by kernel_rfl) rfl) ?_
      refine AL_p (x_move rfl rfl) ?_
      refine AL_p (x_call0 rfl rfl rfl (szValue_c _ _ (by omega) (by omega)) rfl rfl) ?_
      refine AL_p (x_assign rfl rfl) ?_
      refine AL_nil ?_
      refine AW_seq ?_
      refine AW_region ?_
      refine AL_p (x_move rfl rfl) ?_
      refine AL_b (x_lss rfl rfl rfl) (fun b25 h25 => ?_)
      refine AL_nil ?_
      cases b25
      rotate_left
      · try simp only [decide_eq_true_eq, decide_eq_false_iff_not, Bool.not_eq_true, Bool.not_eq_false, Bool.not_eq_true', Bool.not_eq_false', beq_iff_eq, bne_iff_ne, beq_eq_false_iff_ne, bne_eq_false_iff_eq, Int.not_lt, Int.not_le, ge_iff_le, gt_iff_lt] at h25
        have g25 := szR_neg h25
        refine AW_condT rfl ?_
        refine AW_seq ?_
        refine AW_region ?_
        refine AL_p (x_assign rfl rfl) ?_
        refine AL_nil ?_
        refine AW_ret (BQ_ret (BQ_ret ?_))
        exact ⟨rn [], ⟨⟨⟨_, rfl, vle_int (by first | (simp only [totL]; unfold szR; omega) | (simp only [totL]; done))⟩, trivial⟩, trivial, trivial, rfl⟩⟩
      · try simp only [decide_eq_true_eq, decide_eq_false_iff_not, Bool.not_eq_true, Bool.not_eq_false, Bool.not_eq_true', Bool.not_eq_false', beq_iff_eq, bne_iff_ne, beq_eq_false_iff_ne, bne_eq_false_iff_eq, Int.not_lt, Int.not_le, ge_iff_le, gt_iff_lt] at h25
        have f25 := (szR_nonneg h25).1
        have e25 := (szR_nonneg h25).2
        refine AW_condF rfl ?_
        refine AW_skip ?_
        refine AW_region ?_
        refine AL_p (x_move rfl rfl) ?_
        refine AL_p (x_add rfl rfl rfl (IntWalk.i64_in _ (by omega))) ?_
        refine AL_p (x_assign rfl rfl) ?_
        refine AL_nil ?_
        refine ⟨⟨k + 1, ⟨by omega, by omega⟩⟩, rn [], ?_, by dsimp only; omega⟩
        exact ⟨by (repeat refine ⟨⟨_, rfl, by first | exact VLe.rf | exact vle_int (by dsimp only; omega) | exact vle_int (by first | (simp [cntL]; done) | (simp [cntL]; try omega))⟩, ?_⟩); exact trivial, by (repeat refine ⟨⟨_, rfl, by first | exact BLe.rf | exact BLe.box AllC.rf | exact BLe.arr (by exact rfl)⟩, ?_⟩); exact trivial, by repeat (first | exact trivial | refine ⟨⟨rfl, by first | (left; intro h; cases h) | (right; rfl), fun _ h => ⟨_, h⟩⟩, ?_⟩), rfl⟩
    · try simp only [decide_eq_true_eq, decide_eq_false_iff_not, Bool.not_eq_true, Bool.not_eq_false, Bool.not_eq_true', Bool.not_eq_false', beq_iff_eq, bne_iff_ne, beq_eq_false_iff_ne, bne_eq_false_iff_eq, Int.not_lt, Int.not_le, ge_iff_le, gt_iff_lt] at h15
      have ha := cntL_all (c := totValue) (xs := xs) (k := k) (by omega)
      refine AW_condF rfl ?_
      refine AW_exit (BQ_hit ?_)
      refine AW_seq ?_
      refine AW_region ?_
      refine AL_p (x_move rfl rfl) ?_
      refine AL_p (x_assign rfl rfl) ?_
      refine AL_nil ?_
      refine AW_ret ?_
      exact ⟨rn [], ⟨⟨⟨_, rfl, vle_int (by first | (simp only [totL]; unfold szR; omega) | (simp only [totL]; done))⟩, trivial⟩, trivial, trivial, rfl⟩⟩

set_option maxHeartbeats 4000000 in
theorem eqValueS_c (xs : List (Val)) : AC Try.prog 138 [.one (.sl valE xs), .one (.sl valE xs)] [] (.one (.c (.bool true))) [] := by
  refine AC_body1 Try.func138 rfl rfl Try.ntmps138 rfl Try.results138 ?_
  refine AW_slmax 0 rfl (fun hm0 => ?_)
  refine AW_seq ?_
  refine AW_region ?_
  refine AL_p (x_assign rfl rfl) ?_
  refine AL_nil ?_
  refine AW_seq ?_
  refine AW_seq ?_
  refine AW_region ?_
  refine AL_p (x_move rfl rfl) ?_
  refine AL_p (x_len (E := 94) (n := 2) rfl rfl (by kernel_rfl)) ?_
  refine AL_p (x_move rfl rfl) ?_
  refine AL_p (x_len (E := 94) (n := 2) rfl rfl (by kernel_rfl)) ?_
  refine AL_b (x_neq rfl rfl rfl) (fun b10 h10 => ?_)
  refine AL_nil ?_
  cases b10
  rotate_left
  · exfalso; simp [ba_beq_self] at h10
  · try simp only [decide_eq_true_eq, decide_eq_false_iff_not, Bool.not_eq_true, Bool.not_eq_false, Bool.not_eq_true', Bool.not_eq_false', beq_iff_eq, bne_iff_ne, beq_eq_false_iff_ne, bne_eq_false_iff_eq, Int.not_lt, Int.not_le, ge_iff_le, gt_iff_lt] at h10
    refine AW_condF rfl ?_
    refine AW_skip ?_
    refine AW_seq ?_
    refine AW_seq ?_
    refine AW_region ?_
    refine AL_p (x_assign rfl rfl) ?_
    refine AL_nil ?_
    refine AW_block ?_
    refine AW_loop2 (ι := {q : Nat // q ≤ xs.length}) (fun p => [(5, .one (.c (.int .i64 ((p.1) : Int))))]) (fun p => []) [0, 1] [] (fun p => xs.length - (p.1)) ⟨0, by omega⟩ (rn []) ?_ ?_
    exact ⟨by (repeat refine ⟨⟨_, rfl, by first | exact VLe.rf | exact vle_int (by dsimp only; omega)⟩, ?_⟩); exact trivial, by (repeat refine ⟨⟨_, rfl, by first | exact BLe.rf | exact BLe.box AllC.rf | exact BLe.arr (by exact rfl)⟩, ?_⟩); exact trivial, by repeat (first | exact trivial | refine ⟨⟨rfl, by first | (left; intro h; cases h) | (right; rfl), fun _ h => ⟨_, h⟩⟩, ?_⟩), rfl⟩
    rintro ⟨k, hinv⟩
    dsimp only
    refine AW_seq ?_
    refine AW_seq ?_
    refine AW_region ?_
    refine AL_p (x_move rfl rfl) ?_
    refine AL_p (x_move rfl rfl) ?_
    refine AL_p (x_len (E := 94) (n := 2) rfl rfl (by kernel_rfl)) ?_
    refine AL_b (x_lss rfl rfl rfl) (fun b14 h14 => ?_)
    refine AL_nil ?_
    cases b14
    rotate_left
    · try simp only [decide_eq_true_eq, decide_eq_false_iff_not, Bool.not_eq_true, Bool.not_eq_false, Bool.not_eq_true', Bool.not_eq_false', beq_iff_eq, bne_iff_ne, beq_eq_false_iff_ne, bne_eq_false_iff_eq, Int.not_lt, Int.not_le, ge_iff_le, gt_iff_lt] at h14
      refine AW_condT rfl ?_
      refine AW_skip ?_
      refine AW_seq ?_
      refine AW_block ?_
      refine AW_seq ?_
      refine AW_draw rfl ?_
      refine AL_p (x_move rfl rfl) ?_
      refine AL_p (x_move rfl rfl) ?_
      refine AL_p (x_index (E := 94) (n := 2) rfl rfl rfl (by kernel_rfl) rfl (k := k) (by omega) (by omega)) ?_
      refine AL_p (x_eloadW (n := 2) rfl rfl (by kernel_rfl) rfl) ?_
      refine AL_p (x_move rfl rfl) ?_
      refine AL_p (x_move rfl rfl) ?_
      refine AL_p (x_index (E := 94) (n := 2) rfl rfl rfl (by kernel_rfl) rfl (k := k) (by omega) (by omega)) ?_
      refine AL_p (x_eloadW (n := 2) rfl rfl (by kernel_rfl) rfl) ?_
      refine AL_p (x_call0 rfl rfl rfl (eqValue_c _) rfl rfl) ?_
      refine AL_p (x_not rfl rfl) ?_
      refine AL_nild (by kernel_rfl) ?_
      refine AW_condF rfl ?_
      refine AW_skip ?_
      refine AW_region ?_
      refine AL_p (x_move rfl rfl) ?_
      refine AL_p (x_add rfl rfl rfl (IntWalk.i64_in _ (by omega))) ?_
      refine AL_p (x_assign rfl rfl) ?_
      refine AL_nil ?_
      refine ⟨⟨k + 1, by omega⟩, rn [], ?_, by dsimp only; omega⟩
      exact ⟨by (repeat refine ⟨⟨_, rfl, by first | exact VLe.rf | exact vle_int (by dsimp only; omega)⟩, ?_⟩); exact trivial, by (repeat refine ⟨⟨_, rfl, by first | exact BLe.rf | exact BLe.box AllC.rf | exact BLe.arr (by exact rfl)⟩, ?_⟩); exact trivial, by repeat (first | exact trivial | refine ⟨⟨rfl, by first | (left; intro h; cases h) | (right; rfl), fun _ h => ⟨_, h⟩⟩, ?_⟩), rfl⟩
    · try simp only [decide_eq_true_eq, decide_eq_false_iff_not, Bool.not_eq_true, Bool.not_eq_false, Bool.not_eq_true', Bool.not_eq_false', beq_iff_eq, bne_iff_ne, beq_eq_false_iff_ne, bne_eq_false_iff_eq, Int.not_lt, Int.not_le, ge_iff_le, gt_iff_lt] at h14
      refine AW_condF rfl ?_
      refine AW_exit (BQ_hit ?_)
      refine AW_seq ?_
      refine AW_region ?_
      refine AL_p (x_assign rfl rfl) ?_
      refine AL_nil ?_
      refine AW_ret ?_
      exact ⟨rn [], ⟨⟨⟨_, rfl, vle_bool (rfl)⟩, trivial⟩, trivial, trivial, rfl⟩⟩

set_option maxHeartbeats 4000000 in
theorem toValueS_c0 (xs : List (Val)) (hs : xs.length ≤ 1048576) : AC Try.prog 142 [.one (.sl valE xs)] [] (.one (.own 0)) [(0, some (.arr 94 valE xs true))] := by
  refine AC_body1 Try.func142 rfl rfl Try.ntmps142 rfl Try.results142 ?_
  refine AW_seq ?_
  refine AW_region ?_
  refine AL_p (x_assign rfl rfl) ?_
  refine AL_nil ?_
  refine AW_seq ?_
  refine AW_region ?_
  refine AL_p (x_move rfl rfl) ?_
  refine AL_p (x_len (E := 176) (n := 2) rfl rfl (by kernel_rfl)) ?_
  refine AL_p (x_make (T := 90) (E := 94) (e := valE) ((⟨0, ⟨#[]⟩⟩ : Val)) (z := .agg #[.int .i64 0, .string ⟨#[]⟩]) 100 rfl rfl rfl (by kernel_rfl) rfl FitL.rf rfl rfl (by kernel_rfl) (by have := hs; omega)) ?_
  refine AL_p (x_assign rfl rfl) ?_
  refine AL_nil ?_
  refine AW_seq ?_
  refine AW_seq ?_
  refine AW_region ?_
  refine AL_p (x_assign rfl rfl) ?_
  refine AL_nil ?_
  refine AW_block ?_
  refine AW_loop2 (ι := {q : Nat // q ≤ xs.length}) (fun p => [(4, .one (.c (.int .i64 ((p.1) : Int))))]) (fun p => [(100, some (.arr 94 valE (filledTo xs ((⟨0, ⟨#[]⟩⟩ : Val)) (p.1)) true))]) [0, 3] [] (fun p => xs.length - (p.1)) ⟨0, by omega⟩ (rn []) ?_ ?_
  exact ⟨by (repeat refine ⟨⟨_, rfl, by first | exact VLe.rf | exact vle_int (by dsimp only; omega)⟩, ?_⟩); exact trivial, by (repeat refine ⟨⟨_, rfl, by first | exact BLe.rf | exact BLe.box AllC.rf | exact BLe.arr (by first | exact filledTo_zero | exact filledTo_succ (by omega))⟩, ?_⟩); exact trivial, by repeat (first | exact trivial | refine ⟨⟨rfl, by first | (left; intro h; cases h) | (right; rfl), fun _ h => ⟨_, h⟩⟩, ?_⟩), rfl⟩
  rintro ⟨k, hinv⟩
  dsimp only
  have hlen := hs
  refine AW_seq ?_
  refine AW_seq ?_
  refine AW_region ?_
  refine AL_p (x_move rfl rfl) ?_
  refine AL_p (x_move rfl rfl) ?_
  refine AL_p (x_len (E := 176) (n := 2) rfl rfl (by kernel_rfl)) ?_
  refine AL_b (x_lss rfl rfl rfl) (fun b11 h11 => ?_)
  refine AL_nil ?_
  cases b11
  rotate_left
  · try simp only [decide_eq_true_eq, decide_eq_false_iff_not, Bool.not_eq_true, Bool.not_eq_false, Bool.not_eq_true', Bool.not_eq_false', beq_iff_eq, bne_iff_ne, beq_eq_false_iff_ne, bne_eq_false_iff_eq, Int.not_lt, Int.not_le, ge_iff_le, gt_iff_lt] at h11
    refine AW_condT rfl ?_
    refine AW_skip ?_
    refine AW_seq ?_
    refine AW_block ?_
    refine AW_region ?_
    refine AL_p (x_move rfl rfl) ?_
    refine AL_p (x_move rfl rfl) ?_
    refine AL_p (x_move rfl rfl) ?_
    refine AL_p (x_move rfl rfl) ?_
    refine AL_p (x_index (E := 176) (n := 2) rfl rfl rfl (by kernel_rfl) rfl (k := k) (by omega) (by omega)) ?_
    refine AL_p (x_eloadW (n := 2) rfl rfl (by kernel_rfl) rfl) ?_
    refine AL_p (x_callR rfl rfl rfl (toValue_c (xs[k]'(by omega))) rfl AllV.rf rfl rfl rfl rfl rfl) ?_
    refine AL_p (x_oindex (n := 2) rfl rfl rfl rfl (by kernel_rfl) rfl (k := k) rfl (by rw [filledTo_len (by omega)]; omega)) ?_
    refine AL_p (x_ostore (xs[k]'(by omega)) rfl rfl rfl rfl (by kernel_rfl) rfl rfl rfl rfl FitL.rf rfl rfl (by first | omega | (rw [filledTo_len (by omega)]; omega) | (simp; omega))) ?_
    refine AL_nil ?_
    refine AW_region ?_
    refine AL_p (x_move rfl rfl) ?_
    refine AL_p (x_add rfl rfl rfl (IntWalk.i64_in _ (by omega))) ?_
    refine AL_p (x_assign rfl rfl) ?_
    refine AL_nil ?_
    refine ⟨⟨k + 1, by omega⟩, rn [], ?_, by dsimp only; omega⟩
    exact ⟨by (repeat refine ⟨⟨_, rfl, by first | exact VLe.rf | exact vle_int (by dsimp only; omega)⟩, ?_⟩); exact trivial, by (repeat refine ⟨⟨_, rfl, by first | exact BLe.rf | exact BLe.box AllC.rf | exact BLe.arr (by first | exact filledTo_zero | exact filledTo_succ (by omega))⟩, ?_⟩); exact trivial, by repeat (first | exact trivial | refine ⟨⟨rfl, by first | (left; intro h; cases h) | (right; rfl), fun _ h => ⟨_, h⟩⟩, ?_⟩), rfl⟩
  · try simp only [decide_eq_true_eq, decide_eq_false_iff_not, Bool.not_eq_true, Bool.not_eq_false, Bool.not_eq_true', Bool.not_eq_false', beq_iff_eq, bne_iff_ne, beq_eq_false_iff_ne, bne_eq_false_iff_eq, Int.not_lt, Int.not_le, ge_iff_le, gt_iff_lt] at h11
    refine AW_condF rfl ?_
    refine AW_exit (BQ_hit ?_)
    refine AW_seq ?_
    refine AW_region ?_
    refine AL_p (x_move rfl rfl) ?_
    refine AL_p (x_assign rfl rfl) ?_
    refine AL_nil ?_
    refine AW_ret ?_
    exact ⟨rn [(0, 100)], ⟨⟨⟨_, rfl, VLe.rf⟩, trivial⟩, ⟨⟨_, rfl, BLe.arr (filledTo_done (by omega))⟩, trivial⟩, trivial, rfl⟩⟩
theorem toValueS_c (xs : List (Val)) (hs : xs.length ≤ 1048576) (k : Nat) : AC Try.prog 142 [.one (.sl valE xs)] [] (.one (.own k)) [(k, some (.arr 94 valE xs true))] := AC.at (toValueS_c0 xs hs) k

set_option maxHeartbeats 4000000 in
theorem szRow_c (x : List Val) (left : Int) (l0 : 0 ≤ left) (l1 : left ≤ 1048576) : AC Try.prog 102 [.agg (rowC x), .one (.c (.int .i64 left))] [] (.one (.c (.int .i64 (szR (totRow x) left)))) [] := by
  refine AC_body1 Try.func102 rfl rfl Try.ntmps102 rfl Try.results102 ?_
  refine AW_seq ?_
  refine AW_region ?_
  refine AL_p (x_box 100 rfl rfl rfl rfl rfl rfl rfl) ?_
  refine AL_p (x_assign rfl rfl) ?_
  refine AL_nil ?_
  refine AW_seq ?_
  refine AW_region ?_
  refine AL_p (x_field (off := 0) (o' := 0) rfl rfl rfl (by kernel_rfl) rfl) ?_
  refine AL_p (x_load1 rfl rfl rfl (by kernel_rfl) rfl) ?_
  refine AL_p (x_move rfl rfl) ?_
  refine AL_p (x_call0 rfl rfl rfl (szValueS_c _ _ (by omega) (by omega)) rfl rfl) ?_
  refine AL_p (x_assign rfl rfl) ?_
  refine AL_nil ?_
  refine AW_seq ?_
  refine AW_seq ?_
  refine AW_region ?_
  refine AL_p (x_move rfl rfl) ?_
  refine AL_b (x_lss rfl rfl rfl) (fun b10 h10 => ?_)
  refine AL_nil ?_
  cases b10
  rotate_left
  · try simp only [decide_eq_true_eq, decide_eq_false_iff_not, Bool.not_eq_true, Bool.not_eq_false, Bool.not_eq_true', Bool.not_eq_false', beq_iff_eq, bne_iff_ne, beq_eq_false_iff_ne, bne_eq_false_iff_eq, Int.not_lt, Int.not_le, ge_iff_le, gt_iff_lt] at h10
    have g10 := szR_neg h10
    refine AW_condT rfl ?_
    refine AW_seq ?_
    refine AW_region ?_
    refine AL_p (x_assign rfl rfl) ?_
    refine AL_nil ?_
    refine AW_ret ?_
    exact ⟨rn [], ⟨⟨⟨_, rfl, vle_int (by first | (simp only [totRow]; unfold szR; omega) | (simp only [totRow]; done))⟩, trivial⟩, trivial, trivial, rfl⟩⟩
  · try simp only [decide_eq_true_eq, decide_eq_false_iff_not, Bool.not_eq_true, Bool.not_eq_false, Bool.not_eq_true', Bool.not_eq_false', beq_iff_eq, bne_iff_ne, beq_eq_false_iff_ne, bne_eq_false_iff_eq, Int.not_lt, Int.not_le, ge_iff_le, gt_iff_lt] at h10
    have f10 := (szR_nonneg h10).1
    have e10 := (szR_nonneg h10).2
    refine AW_condF rfl ?_
    refine AW_skip ?_
    refine AW_seq ?_
    refine AW_region ?_
    refine AL_p (x_move rfl rfl) ?_
    refine AL_p (x_assign rfl rfl) ?_
    refine AL_nil ?_
    refine AW_ret ?_
    exact ⟨rn [], ⟨⟨⟨_, rfl, vle_int (by first | (simp only [totRow]; unfold szR; omega) | (simp only [totRow]; done))⟩, trivial⟩, trivial, trivial, rfl⟩⟩

set_option maxHeartbeats 4000000 in
theorem eqRow_c (x : List Val) : AC Try.prog 97 [.agg (rowC x), .agg (rowC x)] [] (.one (.c (.bool true))) [] := by
  refine AC_body1 Try.func97 rfl rfl Try.ntmps97 rfl Try.results97 ?_
  refine AW_seq ?_
  refine AW_region ?_
  refine AL_p (x_box 100 rfl rfl rfl rfl rfl rfl rfl) ?_
  refine AL_p (x_box 101 rfl rfl rfl rfl rfl rfl rfl) ?_
  refine AL_p (x_assign rfl rfl) ?_
  refine AL_nil ?_
  refine AW_seq ?_
  refine AW_seq ?_
  refine AW_region ?_
  refine AL_p (x_field (off := 0) (o' := 0) rfl rfl rfl (by kernel_rfl) rfl) ?_
  refine AL_p (x_load1 rfl rfl rfl (by kernel_rfl) rfl) ?_
  refine AL_p (x_field (off := 0) (o' := 0) rfl rfl rfl (by kernel_rfl) rfl) ?_
  refine AL_p (x_load1 rfl rfl rfl (by kernel_rfl) rfl) ?_
  refine AL_p (x_call0 rfl rfl rfl (eqValueS_c _) rfl rfl) ?_
  refine AL_p (x_not rfl rfl) ?_
  refine AL_nil ?_
  refine AW_condF rfl ?_
  refine AW_skip ?_
  refine AW_seq ?_
  refine AW_region ?_
  refine AL_p (x_assign rfl rfl) ?_
  refine AL_nil ?_
  refine AW_ret ?_
  exact ⟨rn [], ⟨⟨⟨_, rfl, vle_bool (rfl)⟩, trivial⟩, trivial, trivial, rfl⟩⟩

set_option maxHeartbeats 4000000 in
theorem toRow_c0 (x : List Val) (hs : smallRow x) : AC Try.prog 105 [.agg (rowC x)] [] (.agg [.own 0]) [(0, some (.arr 94 valE x true))] := by
  refine AC_bodyC (n := 1) (k := 9) (T := [(2, .one (.ptr 9 0))]) (Lf := ((9, some (.box [.own 0])) :: [(0, some (.arr 94 valE x true))])) Try.func105 rfl rfl Try.ntmps105 rfl Try.results105 rfl rfl (by kernel_rfl) rfl rfl ⟨trivial, (by repeat (first | exact trivial | refine ⟨⟨_, rfl, BLe.rf⟩, ?_⟩)), (by repeat (first | exact trivial | refine ⟨⟨rfl, by first | (left; intro h; cases h) | (right; rfl), fun _ h => ⟨_, h⟩⟩, ?_⟩)), rfl⟩ ?_
  refine AW_seq ?_
  refine AW_region ?_
  refine AL_p (x_box 100 rfl rfl rfl rfl rfl rfl rfl) ?_
  refine AL_p (x_alloc (z := .agg #[.slice none 0 0]) 101 rfl (by kernel_rfl) rfl rfl rfl rfl) ?_
  refine AL_nil ?_
  refine AW_seq ?_
  refine AW_region ?_
  refine AL_p (x_alloc (z := .agg #[.slice none 0 0]) 102 rfl (by kernel_rfl) rfl rfl rfl rfl) ?_
  refine AL_nil ?_
  refine AW_seq ?_
  refine AW_region ?_
  refine AL_p (x_field (off := 0) (o' := 0) rfl rfl rfl (by kernel_rfl) rfl) ?_
  refine AL_p (x_load1 rfl rfl rfl (by kernel_rfl) rfl) ?_
  refine AL_p (x_call1 rfl rfl rfl (toValueS_c x (hs).1 103) rfl rfl rfl rfl) ?_
  refine AL_p (x_field (off := 0) (o' := 0) rfl rfl rfl (by kernel_rfl) rfl) ?_
  refine AL_p (x_store (n := 1) rfl rfl rfl rfl (by kernel_rfl) rfl rfl rfl) ?_
  refine AL_nil ?_
  refine AW_seq ?_
  refine AW_region ?_
  refine AL_p (x_loadN (n := 1) rfl rfl rfl (by kernel_rfl) rfl rfl) ?_
  refine AL_p (x_store (n := 1) rfl rfl rfl rfl (by kernel_rfl) rfl rfl rfl) ?_
  refine AL_nil ?_
  refine AW_ret ?_
  exact ⟨rn [(9, 101), (0, 103)], ⟨⟨⟨_, rfl, VLe.rf⟩, trivial⟩, ⟨⟨_, rfl, BLe.rf⟩, ⟨_, rfl, BLe.rf⟩, trivial⟩, trivial, rfl⟩⟩
theorem toRow_c (x : List Val) (hs : smallRow x) (k : Nat) : AC Try.prog 105 [.agg (rowC x)] [] (.agg [.own k]) [(k, some (.arr 94 valE x true))] := AC.at (toRow_c0 x hs) k

set_option maxHeartbeats 4000000 in
theorem szRowS_c (xs : List (List Val)) (left : Int) (l0 : 0 ≤ left) (l1 : left ≤ 1048576) : AC Try.prog 57 [.one (.sl rowE xs), .one (.c (.int .i64 left))] [] (.one (.c (.int .i64 (szR (totL totRow xs) left)))) [] := by
  refine AC_body1 Try.func57 rfl rfl Try.ntmps57 rfl Try.results57 ?_
  refine AW_slmax 0 rfl (fun hm0 => ?_)
  refine AW_seq ?_
  refine AW_region ?_
  refine AL_p (x_assign rfl rfl) ?_
  refine AL_nil ?_
  refine AW_seq ?_
  refine AW_region ?_
  refine AL_p (x_move rfl rfl) ?_
  refine AL_p (x_move rfl rfl) ?_
  refine AL_p (x_len (E := 131) (n := 1) rfl rfl (by kernel_rfl)) ?_
  refine AL_p (x_sub rfl rfl rfl (IntWalk.i64_in _ (by omega))) ?_
  refine AL_p (x_assign rfl rfl) ?_
  refine AL_nil ?_
  refine AW_seq ?_
  refine AW_seq ?_
  refine AW_region ?_
  refine AL_p (x_move rfl rfl) ?_
  refine AL_b (x_lss rfl rfl rfl) (fun b11 h11 => ?_)
  refine AL_nil ?_
  cases b11
  rotate_left
  · try simp only [decide_eq_true_eq, decide_eq_false_iff_not, Bool.not_eq_true, Bool.not_eq_false, Bool.not_eq_true', Bool.not_eq_false', beq_iff_eq, bne_iff_ne, beq_eq_false_iff_ne, bne_eq_false_iff_eq, Int.not_lt, Int.not_le, ge_iff_le, gt_iff_lt] at h11
    refine AW_condT rfl ?_
    refine AW_seq ?_
    refine AW_region ?_
    refine AL_p (x_assign rfl rfl) ?_
    refine AL_nil ?_
    refine AW_ret ?_
    exact ⟨rn [], ⟨⟨⟨_, rfl, vle_int (by first | (simp only [totL]; unfold szR; omega) | (simp only [totL]; done))⟩, trivial⟩, trivial, trivial, rfl⟩⟩
  · try simp only [decide_eq_true_eq, decide_eq_false_iff_not, Bool.not_eq_true, Bool.not_eq_false, Bool.not_eq_true', Bool.not_eq_false', beq_iff_eq, bne_iff_ne, beq_eq_false_iff_ne, bne_eq_false_iff_eq, Int.not_lt, Int.not_le, ge_iff_le, gt_iff_lt] at h11
    refine AW_condF rfl ?_
    refine AW_skip ?_
    refine AW_seq ?_
    refine AW_seq ?_
    refine AW_region ?_
    refine AL_p (x_assign rfl rfl) ?_
    refine AL_nil ?_
    refine AW_block ?_
    refine AW_loop2 (ι := {q : Nat // q ≤ xs.length ∧ ((cntL totRow (xs.take q) : Nat) : Int) ≤ left - (xs.length : Int)}) (fun p => [(1, .one (.c (.int .i64 (left - (xs.length : Int) - ((cntL totRow (xs.take (p.1)) : Nat) : Int))))), (5, .one (.c (.int .i64 ((p.1) : Int))))]) (fun p => []) [0] [] (fun p => xs.length - (p.1)) ⟨0, ⟨by omega, by first | (simp [cntL]; done) | (simp [cntL]; try omega)⟩⟩ (rn []) ?_ ?_
    exact ⟨by (repeat refine ⟨⟨_, rfl, by first | exact VLe.rf | exact vle_int (by dsimp only; omega) | exact vle_int (by first | (simp [cntL]; done) | (simp [cntL]; try omega))⟩, ?_⟩); exact trivial, by (repeat refine ⟨⟨_, rfl, by first | exact BLe.rf | exact BLe.box AllC.rf | exact BLe.arr (by exact rfl)⟩, ?_⟩); exact trivial, by repeat (first | exact trivial | refine ⟨⟨rfl, by first | (left; intro h; cases h) | (right; rfl), fun _ h => ⟨_, h⟩⟩, ?_⟩), rfl⟩
    rintro ⟨k, hinv⟩
    dsimp only
    obtain ⟨hk, hc⟩ := hinv
    refine AW_seq ?_
    refine AW_seq ?_
    refine AW_region ?_
    refine AL_p (x_move rfl rfl) ?_
    refine AL_p (x_move rfl rfl) ?_
    refine AL_p (x_len (E := 131) (n := 1) rfl rfl (by kernel_rfl)) ?_
    refine AL_b (x_lss rfl rfl rfl) (fun b15 h15 => ?_)
    refine AL_nil ?_
    cases b15
    rotate_left
    · try simp only [decide_eq_true_eq, decide_eq_false_iff_not, Bool.not_eq_true, Bool.not_eq_false, Bool.not_eq_true', Bool.not_eq_false', beq_iff_eq, bne_iff_ne, beq_eq_false_iff_ne, bne_eq_false_iff_eq, Int.not_lt, Int.not_le, ge_iff_le, gt_iff_lt] at h15
      have hlt : k < xs.length := by omega
      have hs := cntL_snoc (c := totRow) hlt
      have ht := cntL_take (c := totRow) hlt
      refine AW_condT rfl ?_
      refine AW_skip ?_
      refine AW_seq ?_
      refine AW_block ?_
      refine AW_seq ?_
      refine AW_region ?_
      refine AL_p (x_move rfl rfl) ?_
      refine AL_p (x_move rfl rfl) ?_
      refine AL_p (x_index (E := 131) (n := 1) rfl rfl rfl (by kernel_rfl) rfl (k := k) (by omega) (by omega)) ?_
      refine AL_p (x_eloadW (n := 1) rfl rfl (by kernel_rfl) rfl) ?_
      refine AL_p (x_move rfl rfl) ?_
      refine AL_p (x_call0 rfl rfl rfl (szRow_c _ _ (by omega) (by omega)) rfl rfl) ?_
      refine AL_p (x_assign rfl rfl) ?_
      refine AL_nil ?_
      refine AW_seq ?_
      refine AW_region ?_
      refine AL_p (x_move rfl rfl) ?_
      refine AL_b (x_lss rfl rfl rfl) (fun b25 h25 => ?_)
      refine AL_nil ?_
      cases b25
      rotate_left
      · try simp only [decide_eq_true_eq, decide_eq_false_iff_not, Bool.not_eq_true, Bool.not_eq_false, Bool.not_eq_true', Bool.not_eq_false', beq_iff_eq, bne_iff_ne, beq_eq_false_iff_ne, bne_eq_false_iff_eq, Int.not_lt, Int.not_le, ge_iff_le, gt_iff_lt] at h25
        have g25 := szR_neg h25
        refine AW_condT rfl ?_
        refine AW_seq ?_
        refine AW_region ?_
        refine AL_p (x_assign rfl rfl) ?_
        refine AL_nil ?_
        refine AW_ret (BQ_ret (BQ_ret ?_))
        exact ⟨rn [], ⟨⟨⟨_, rfl, vle_int (by first | (simp only [totL]; unfold szR; omega) | (simp only [totL]; done))⟩, trivial⟩, trivial, trivial, rfl⟩⟩
      · try simp only [decide_eq_true_eq, decide_eq_false_iff_not, Bool.not_eq_true, Bool.not_eq_false, Bool.not_eq_true', Bool.not_eq_false', beq_iff_eq, bne_iff_ne, beq_eq_false_iff_ne, bne_eq_false_iff_eq, Int.not_lt, Int.not_le, ge_iff_le, gt_iff_lt] at h25
        have f25 := (szR_nonneg h25).1
        have e25 := (szR_nonneg h25).2
        refine AW_condF rfl ?_
        refine AW_skip ?_
        refine AW_region ?_
        refine AL_p (x_move rfl rfl) ?_
        refine AL_p (x_add rfl rfl rfl (IntWalk.i64_in _ (by omega))) ?_
        refine AL_p (x_assign rfl rfl) ?_
        refine AL_nil ?_
        refine ⟨⟨k + 1, ⟨by omega, by omega⟩⟩, rn [], ?_, by dsimp only; omega⟩
        exact ⟨by (repeat refine ⟨⟨_, rfl, by first | exact VLe.rf | exact vle_int (by dsimp only; omega) | exact vle_int (by first | (simp [cntL]; done) | (simp [cntL]; try omega))⟩, ?_⟩); exact trivial, by (repeat refine ⟨⟨_, rfl, by first | exact BLe.rf | exact BLe.box AllC.rf | exact BLe.arr (by exact rfl)⟩, ?_⟩); exact trivial, by repeat (first | exact trivial | refine ⟨⟨rfl, by first | (left; intro h; cases h) | (right; rfl), fun _ h => ⟨_, h⟩⟩, ?_⟩), rfl⟩
    · try simp only [decide_eq_true_eq, decide_eq_false_iff_not, Bool.not_eq_true, Bool.not_eq_false, Bool.not_eq_true', Bool.not_eq_false', beq_iff_eq, bne_iff_ne, beq_eq_false_iff_ne, bne_eq_false_iff_eq, Int.not_lt, Int.not_le, ge_iff_le, gt_iff_lt] at h15
      have ha := cntL_all (c := totRow) (xs := xs) (k := k) (by omega)
      refine AW_condF rfl ?_
      refine AW_exit (BQ_hit ?_)
      refine AW_seq ?_
      refine AW_region ?_
      refine AL_p (x_move rfl rfl) ?_
      refine AL_p (x_assign rfl rfl) ?_
      refine AL_nil ?_
      refine AW_ret ?_
      exact ⟨rn [], ⟨⟨⟨_, rfl, vle_int (by first | (simp only [totL]; unfold szR; omega) | (simp only [totL]; done))⟩, trivial⟩, trivial, trivial, rfl⟩⟩

set_option maxHeartbeats 4000000 in
theorem eqRowS_c (xs : List (List Val)) : AC Try.prog 52 [.one (.sl rowE xs), .one (.sl rowE xs)] [] (.one (.c (.bool true))) [] := by
  refine AC_body1 Try.func52 rfl rfl Try.ntmps52 rfl Try.results52 ?_
  refine AW_slmax 0 rfl (fun hm0 => ?_)
  refine AW_seq ?_
  refine AW_region ?_
  refine AL_p (x_assign rfl rfl) ?_
  refine AL_nil ?_
  refine AW_seq ?_
  refine AW_seq ?_
  refine AW_region ?_
  refine AL_p (x_move rfl rfl) ?_
  refine AL_p (x_len (E := 92) (n := 1) rfl rfl (by kernel_rfl)) ?_
  refine AL_p (x_move rfl rfl) ?_
  refine AL_p (x_len (E := 92) (n := 1) rfl rfl (by kernel_rfl)) ?_
  refine AL_b (x_neq rfl rfl rfl) (fun b10 h10 => ?_)
  refine AL_nil ?_
  cases b10
  rotate_left
  · exfalso; simp [ba_beq_self] at h10
  · try simp only [decide_eq_true_eq, decide_eq_false_iff_not, Bool.not_eq_true, Bool.not_eq_false, Bool.not_eq_true', Bool.not_eq_false', beq_iff_eq, bne_iff_ne, beq_eq_false_iff_ne, bne_eq_false_iff_eq, Int.not_lt, Int.not_le, ge_iff_le, gt_iff_lt] at h10
    refine AW_condF rfl ?_
    refine AW_skip ?_
    refine AW_seq ?_
    refine AW_seq ?_
    refine AW_region ?_
    refine AL_p (x_assign rfl rfl) ?_
    refine AL_nil ?_
    refine AW_block ?_
    refine AW_loop2 (ι := {q : Nat // q ≤ xs.length}) (fun p => [(5, .one (.c (.int .i64 ((p.1) : Int))))]) (fun p => []) [0, 1] [] (fun p => xs.length - (p.1)) ⟨0, by omega⟩ (rn []) ?_ ?_
    exact ⟨by (repeat refine ⟨⟨_, rfl, by first | exact VLe.rf | exact vle_int (by dsimp only; omega)⟩, ?_⟩); exact trivial, by (repeat refine ⟨⟨_, rfl, by first | exact BLe.rf | exact BLe.box AllC.rf | exact BLe.arr (by exact rfl)⟩, ?_⟩); exact trivial, by repeat (first | exact trivial | refine ⟨⟨rfl, by first | (left; intro h; cases h) | (right; rfl), fun _ h => ⟨_, h⟩⟩, ?_⟩), rfl⟩
    rintro ⟨k, hinv⟩
    dsimp only
    refine AW_seq ?_
    refine AW_seq ?_
    refine AW_region ?_
    refine AL_p (x_move rfl rfl) ?_
    refine AL_p (x_move rfl rfl) ?_
    refine AL_p (x_len (E := 92) (n := 1) rfl rfl (by kernel_rfl)) ?_
    refine AL_b (x_lss rfl rfl rfl) (fun b14 h14 => ?_)
    refine AL_nil ?_
    cases b14
    rotate_left
    · try simp only [decide_eq_true_eq, decide_eq_false_iff_not, Bool.not_eq_true, Bool.not_eq_false, Bool.not_eq_true', Bool.not_eq_false', beq_iff_eq, bne_iff_ne, beq_eq_false_iff_ne, bne_eq_false_iff_eq, Int.not_lt, Int.not_le, ge_iff_le, gt_iff_lt] at h14
      refine AW_condT rfl ?_
      refine AW_skip ?_
      refine AW_seq ?_
      refine AW_block ?_
      refine AW_seq ?_
      refine AW_draw rfl ?_
      refine AL_p (x_move rfl rfl) ?_
      refine AL_p (x_move rfl rfl) ?_
      refine AL_p (x_index (E := 92) (n := 1) rfl rfl rfl (by kernel_rfl) rfl (k := k) (by omega) (by omega)) ?_
      refine AL_p (x_eloadW (n := 1) rfl rfl (by kernel_rfl) rfl) ?_
      refine AL_p (x_move rfl rfl) ?_
      refine AL_p (x_move rfl rfl) ?_
      refine AL_p (x_index (E := 92) (n := 1) rfl rfl rfl (by kernel_rfl) rfl (k := k) (by omega) (by omega)) ?_
      refine AL_p (x_eloadW (n := 1) rfl rfl (by kernel_rfl) rfl) ?_
      refine AL_p (x_call0 rfl rfl rfl (eqRow_c _) rfl rfl) ?_
      refine AL_p (x_not rfl rfl) ?_
      refine AL_nild (by kernel_rfl) ?_
      refine AW_condF rfl ?_
      refine AW_skip ?_
      refine AW_region ?_
      refine AL_p (x_move rfl rfl) ?_
      refine AL_p (x_add rfl rfl rfl (IntWalk.i64_in _ (by omega))) ?_
      refine AL_p (x_assign rfl rfl) ?_
      refine AL_nil ?_
      refine ⟨⟨k + 1, by omega⟩, rn [], ?_, by dsimp only; omega⟩
      exact ⟨by (repeat refine ⟨⟨_, rfl, by first | exact VLe.rf | exact vle_int (by dsimp only; omega)⟩, ?_⟩); exact trivial, by (repeat refine ⟨⟨_, rfl, by first | exact BLe.rf | exact BLe.box AllC.rf | exact BLe.arr (by exact rfl)⟩, ?_⟩); exact trivial, by repeat (first | exact trivial | refine ⟨⟨rfl, by first | (left; intro h; cases h) | (right; rfl), fun _ h => ⟨_, h⟩⟩, ?_⟩), rfl⟩
    · try simp only [decide_eq_true_eq, decide_eq_false_iff_not, Bool.not_eq_true, Bool.not_eq_false, Bool.not_eq_true', Bool.not_eq_false', beq_iff_eq, bne_iff_ne, beq_eq_false_iff_ne, bne_eq_false_iff_eq, Int.not_lt, Int.not_le, ge_iff_le, gt_iff_lt] at h14
      refine AW_condF rfl ?_
      refine AW_exit (BQ_hit ?_)
      refine AW_seq ?_
      refine AW_region ?_
      refine AL_p (x_assign rfl rfl) ?_
      refine AL_nil ?_
      refine AW_ret ?_
      exact ⟨rn [], ⟨⟨⟨_, rfl, vle_bool (rfl)⟩, trivial⟩, trivial, trivial, rfl⟩⟩

set_option maxHeartbeats 4000000 in
theorem toRowS_c0 (xs : List (List Val)) (hs : xs.length ≤ 1048576 ∧ ∀ y ∈ xs, smallRow y) : AC Try.prog 61 [.one (.sl rowE xs)] [] (.one (.own 0)) [(0, some (.arr 92 rowE xs true))] := by
  refine AC_body1 Try.func61 rfl rfl Try.ntmps61 rfl Try.results61 ?_
  refine AW_seq ?_
  refine AW_region ?_
  refine AL_p (x_assign rfl rfl) ?_
  refine AL_nil ?_
  refine AW_seq ?_
  refine AW_region ?_
  refine AL_p (x_move rfl rfl) ?_
  refine AL_p (x_len (E := 131) (n := 1) rfl rfl (by kernel_rfl)) ?_
  refine AL_p (x_make (T := 26) (E := 92) (e := rowE) (([] : List Val)) (z := .agg #[.slice none 0 0]) 100 rfl rfl rfl (by kernel_rfl) rfl ⟨.inr ⟨rfl, _, _, rfl⟩, trivial⟩ rfl rfl (by kernel_rfl) (by have := hs.1; omega)) ?_
  refine AL_p (x_assign rfl rfl) ?_
  refine AL_nil ?_
  refine AW_seq ?_
  refine AW_seq ?_
  refine AW_region ?_
  refine AL_p (x_assign rfl rfl) ?_
  refine AL_nil ?_
  refine AW_block ?_
  refine AW_loop2 (ι := {q : Nat // q ≤ xs.length}) (fun p => [(4, .one (.c (.int .i64 ((p.1) : Int))))]) (fun p => [(100, some (.arr 92 rowE (filledTo xs (([] : List Val)) (p.1)) true))]) [0, 3] [] (fun p => xs.length - (p.1)) ⟨0, by omega⟩ (rn []) ?_ ?_
  exact ⟨by (repeat refine ⟨⟨_, rfl, by first | exact VLe.rf | exact vle_int (by dsimp only; omega)⟩, ?_⟩); exact trivial, by (repeat refine ⟨⟨_, rfl, by first | exact BLe.rf | exact BLe.box AllC.rf | exact BLe.arr (by first | exact filledTo_zero | exact filledTo_succ (by omega))⟩, ?_⟩); exact trivial, by repeat (first | exact trivial | refine ⟨⟨rfl, by first | (left; intro h; cases h) | (right; rfl), fun _ h => ⟨_, h⟩⟩, ?_⟩), rfl⟩
  rintro ⟨k, hinv⟩
  dsimp only
  have hlen := hs.1
  refine AW_seq ?_
  refine AW_seq ?_
  refine AW_region ?_
  refine AL_p (x_move rfl rfl) ?_
  refine AL_p (x_move rfl rfl) ?_
  refine AL_p (x_len (E := 131) (n := 1) rfl rfl (by kernel_rfl)) ?_
  refine AL_b (x_lss rfl rfl rfl) (fun b11 h11 => ?_)
  refine AL_nil ?_
  cases b11
  rotate_left
  · try simp only [decide_eq_true_eq, decide_eq_false_iff_not, Bool.not_eq_true, Bool.not_eq_false, Bool.not_eq_true', Bool.not_eq_false', beq_iff_eq, bne_iff_ne, beq_eq_false_iff_ne, bne_eq_false_iff_eq, Int.not_lt, Int.not_le, ge_iff_le, gt_iff_lt] at h11
    refine AW_condT rfl ?_
    refine AW_skip ?_
    refine AW_seq ?_
    refine AW_block ?_
    refine AW_region ?_
    refine AL_p (x_move rfl rfl) ?_
    refine AL_p (x_move rfl rfl) ?_
    refine AL_p (x_move rfl rfl) ?_
    refine AL_p (x_move rfl rfl) ?_
    refine AL_p (x_index (E := 131) (n := 1) rfl rfl rfl (by kernel_rfl) rfl (k := k) (by omega) (by omega)) ?_
    refine AL_p (x_eloadW (n := 1) rfl rfl (by kernel_rfl) rfl) ?_
    refine AL_p (x_callR rfl rfl rfl (toRow_c (xs[k]'(by omega)) (hs.2 _ (List.getElem_mem _)) 101) rfl AllV.rf rfl rfl rfl rfl rfl) ?_
    refine AL_p (x_oindex (n := 1) rfl rfl rfl rfl (by kernel_rfl) rfl (k := k) rfl (by rw [filledTo_len (by omega)]; omega)) ?_
    refine AL_p (x_ostore (xs[k]'(by omega)) rfl rfl rfl rfl (by kernel_rfl) rfl rfl rfl rfl FitL.rf rfl rfl (by first | omega | (rw [filledTo_len (by omega)]; omega) | (simp; omega))) ?_
    refine AL_nil ?_
    refine AW_region ?_
    refine AL_p (x_move rfl rfl) ?_
    refine AL_p (x_add rfl rfl rfl (IntWalk.i64_in _ (by omega))) ?_
    refine AL_p (x_assign rfl rfl) ?_
    refine AL_nil ?_
    refine ⟨⟨k + 1, by omega⟩, rn [], ?_, by dsimp only; omega⟩
    exact ⟨by (repeat refine ⟨⟨_, rfl, by first | exact VLe.rf | exact vle_int (by dsimp only; omega)⟩, ?_⟩); exact trivial, by (repeat refine ⟨⟨_, rfl, by first | exact BLe.rf | exact BLe.box AllC.rf | exact BLe.arr (by first | exact filledTo_zero | exact filledTo_succ (by omega))⟩, ?_⟩); exact trivial, by repeat (first | exact trivial | refine ⟨⟨rfl, by first | (left; intro h; cases h) | (right; rfl), fun _ h => ⟨_, h⟩⟩, ?_⟩), rfl⟩
  · try simp only [decide_eq_true_eq, decide_eq_false_iff_not, Bool.not_eq_true, Bool.not_eq_false, Bool.not_eq_true', Bool.not_eq_false', beq_iff_eq, bne_iff_ne, beq_eq_false_iff_ne, bne_eq_false_iff_eq, Int.not_lt, Int.not_le, ge_iff_le, gt_iff_lt] at h11
    refine AW_condF rfl ?_
    refine AW_exit (BQ_hit ?_)
    refine AW_seq ?_
    refine AW_region ?_
    refine AL_p (x_move rfl rfl) ?_
    refine AL_p (x_assign rfl rfl) ?_
    refine AL_nil ?_
    refine AW_ret ?_
    exact ⟨rn [(0, 100)], ⟨⟨⟨_, rfl, VLe.rf⟩, trivial⟩, ⟨⟨_, rfl, BLe.arr (filledTo_done (by omega))⟩, trivial⟩, trivial, rfl⟩⟩
theorem toRowS_c (xs : List (List Val)) (hs : xs.length ≤ 1048576 ∧ ∀ y ∈ xs, smallRow y) (k : Nat) : AC Try.prog 61 [.one (.sl rowE xs)] [] (.one (.own k)) [(k, some (.arr 92 rowE xs true))] := AC.at (toRowS_c0 xs hs) k

set_option maxHeartbeats 4000000 in
theorem szRel_c (x : Relt) (left : Int) (l0 : 0 ≤ left) (l1 : left ≤ 1048576) : AC Try.prog 19 [.agg (relC x), .one (.c (.int .i64 left))] [] (.one (.c (.int .i64 (szR (totRel x) left)))) [] := by
  refine AC_body1 Try.func19 rfl rfl Try.ntmps19 rfl Try.results19 ?_
  refine AW_seq ?_
  refine AW_region ?_
  refine AL_p (x_box 100 rfl rfl rfl rfl rfl rfl rfl) ?_
  refine AL_p (x_assign rfl rfl) ?_
  refine AL_nil ?_
  refine AW_seq ?_
  refine AW_region ?_
  refine AL_p (x_field (off := 1) (o' := 1) rfl rfl rfl (by kernel_rfl) rfl) ?_
  refine AL_p (x_load1 rfl rfl rfl (by kernel_rfl) rfl) ?_
  refine AL_p (x_move rfl rfl) ?_
  refine AL_p (x_call0 rfl rfl rfl (szRowS_c _ _ (by omega) (by omega)) rfl rfl) ?_
  refine AL_p (x_assign rfl rfl) ?_
  refine AL_nil ?_
  refine AW_seq ?_
  refine AW_seq ?_
  refine AW_region ?_
  refine AL_p (x_move rfl rfl) ?_
  refine AL_b (x_lss rfl rfl rfl) (fun b10 h10 => ?_)
  refine AL_nil ?_
  cases b10
  rotate_left
  · try simp only [decide_eq_true_eq, decide_eq_false_iff_not, Bool.not_eq_true, Bool.not_eq_false, Bool.not_eq_true', Bool.not_eq_false', beq_iff_eq, bne_iff_ne, beq_eq_false_iff_ne, bne_eq_false_iff_eq, Int.not_lt, Int.not_le, ge_iff_le, gt_iff_lt] at h10
    have g10 := szR_neg h10
    refine AW_condT rfl ?_
    refine AW_seq ?_
    refine AW_region ?_
    refine AL_p (x_assign rfl rfl) ?_
    refine AL_nil ?_
    refine AW_ret ?_
    exact ⟨rn [], ⟨⟨⟨_, rfl, vle_int (by first | (simp only [totRel]; unfold szR; omega) | (simp only [totRel]; done))⟩, trivial⟩, trivial, trivial, rfl⟩⟩
  · try simp only [decide_eq_true_eq, decide_eq_false_iff_not, Bool.not_eq_true, Bool.not_eq_false, Bool.not_eq_true', Bool.not_eq_false', beq_iff_eq, bne_iff_ne, beq_eq_false_iff_ne, bne_eq_false_iff_eq, Int.not_lt, Int.not_le, ge_iff_le, gt_iff_lt] at h10
    have f10 := (szR_nonneg h10).1
    have e10 := (szR_nonneg h10).2
    refine AW_condF rfl ?_
    refine AW_skip ?_
    refine AW_seq ?_
    refine AW_region ?_
    refine AL_p (x_move rfl rfl) ?_
    refine AL_p (x_assign rfl rfl) ?_
    refine AL_nil ?_
    refine AW_ret ?_
    exact ⟨rn [], ⟨⟨⟨_, rfl, vle_int (by first | (simp only [totRel]; unfold szR; omega) | (simp only [totRel]; done))⟩, trivial⟩, trivial, trivial, rfl⟩⟩

set_option maxHeartbeats 4000000 in
theorem eqRel_c (x : Relt) : AC Try.prog 14 [.agg (relC x), .agg (relC x)] [] (.one (.c (.bool true))) [] := by
  refine AC_body1 Try.func14 rfl rfl Try.ntmps14 rfl Try.results14 ?_
  refine AW_seq ?_
  refine AW_region ?_
  refine AL_p (x_box 100 rfl rfl rfl rfl rfl rfl rfl) ?_
  refine AL_p (x_box 101 rfl rfl rfl rfl rfl rfl rfl) ?_
  refine AL_p (x_assign rfl rfl) ?_
  refine AL_nil ?_
  refine AW_seq ?_
  refine AW_seq ?_
  refine AW_region ?_
  refine AL_p (x_field (off := 0) (o' := 0) rfl rfl rfl (by kernel_rfl) rfl) ?_
  refine AL_p (x_load1 rfl rfl rfl (by kernel_rfl) rfl) ?_
  refine AL_p (x_field (off := 0) (o' := 0) rfl rfl rfl (by kernel_rfl) rfl) ?_
  refine AL_p (x_load1 rfl rfl rfl (by kernel_rfl) rfl) ?_
  refine AL_b (x_neq rfl rfl rfl) (fun b9 h9 => ?_)
  refine AL_nil ?_
  cases b9
  rotate_left
  · exfalso; simp [ba_beq_self] at h9
  · try simp only [decide_eq_true_eq, decide_eq_false_iff_not, Bool.not_eq_true, Bool.not_eq_false, Bool.not_eq_true', Bool.not_eq_false', beq_iff_eq, bne_iff_ne, beq_eq_false_iff_ne, bne_eq_false_iff_eq, Int.not_lt, Int.not_le, ge_iff_le, gt_iff_lt] at h9
    refine AW_condF rfl ?_
    refine AW_skip ?_
    refine AW_seq ?_
    refine AW_seq ?_
    refine AW_region ?_
    refine AL_p (x_field (off := 1) (o' := 1) rfl rfl rfl (by kernel_rfl) rfl) ?_
    refine AL_p (x_load1 rfl rfl rfl (by kernel_rfl) rfl) ?_
    refine AL_p (x_field (off := 1) (o' := 1) rfl rfl rfl (by kernel_rfl) rfl) ?_
    refine AL_p (x_load1 rfl rfl rfl (by kernel_rfl) rfl) ?_
    refine AL_p (x_call0 rfl rfl rfl (eqRowS_c _) rfl rfl) ?_
    refine AL_p (x_not rfl rfl) ?_
    refine AL_nil ?_
    refine AW_condF rfl ?_
    refine AW_skip ?_
    refine AW_seq ?_
    refine AW_region ?_
    refine AL_p (x_assign rfl rfl) ?_
    refine AL_nil ?_
    refine AW_ret ?_
    exact ⟨rn [], ⟨⟨⟨_, rfl, vle_bool (rfl)⟩, trivial⟩, trivial, trivial, rfl⟩⟩

set_option maxHeartbeats 4000000 in
theorem toRel_c0 (x : Relt) (hs : smallRel x) : AC Try.prog 21 [.agg (relC x)] [] (.agg [.c (.int .i64 x.arity), .own 0]) [(0, some (.arr 92 rowE x.rows true))] := by
  refine AC_bodyC (n := 2) (k := 9) (T := [(2, .one (.ptr 9 0))]) (Lf := ((9, some (.box [.c (.int .i64 x.arity), .own 0])) :: [(0, some (.arr 92 rowE x.rows true))])) Try.func21 rfl rfl Try.ntmps21 rfl Try.results21 rfl rfl (by kernel_rfl) rfl rfl ⟨trivial, (by repeat (first | exact trivial | refine ⟨⟨_, rfl, BLe.rf⟩, ?_⟩)), (by repeat (first | exact trivial | refine ⟨⟨rfl, by first | (left; intro h; cases h) | (right; rfl), fun _ h => ⟨_, h⟩⟩, ?_⟩)), rfl⟩ ?_
  refine AW_seq ?_
  refine AW_region ?_
  refine AL_p (x_box 100 rfl rfl rfl rfl rfl rfl rfl) ?_
  refine AL_p (x_alloc (z := .agg #[.int .i64 0, .slice none 0 0]) 101 rfl (by kernel_rfl) rfl rfl rfl rfl) ?_
  refine AL_nil ?_
  refine AW_seq ?_
  refine AW_region ?_
  refine AL_p (x_alloc (z := .agg #[.int .i64 0, .slice none 0 0]) 102 rfl (by kernel_rfl) rfl rfl rfl rfl) ?_
  refine AL_nil ?_
  refine AW_seq ?_
  refine AW_region ?_
  refine AL_p (x_field (off := 0) (o' := 0) rfl rfl rfl (by kernel_rfl) rfl) ?_
  refine AL_p (x_load1 rfl rfl rfl (by kernel_rfl) rfl) ?_
  refine AL_p (x_field (off := 0) (o' := 0) rfl rfl rfl (by kernel_rfl) rfl) ?_
  refine AL_p (x_store (n := 1) rfl rfl rfl rfl (by kernel_rfl) rfl rfl rfl) ?_
  refine AL_nil ?_
  refine AW_seq ?_
  refine AW_region ?_
  refine AL_p (x_field (off := 1) (o' := 1) rfl rfl rfl (by kernel_rfl) rfl) ?_
  refine AL_p (x_load1 rfl rfl rfl (by kernel_rfl) rfl) ?_
  refine AL_p (x_call1 rfl rfl rfl (toRowS_c x.rows (hs) 103) rfl rfl rfl rfl) ?_
  refine AL_p (x_field (off := 1) (o' := 1) rfl rfl rfl (by kernel_rfl) rfl) ?_
  refine AL_p (x_store (n := 1) rfl rfl rfl rfl (by kernel_rfl) rfl rfl rfl) ?_
  refine AL_nil ?_
  refine AW_seq ?_
  refine AW_region ?_
  refine AL_p (x_loadN (n := 2) rfl rfl rfl (by kernel_rfl) rfl rfl) ?_
  refine AL_p (x_store (n := 2) rfl rfl rfl rfl (by kernel_rfl) rfl rfl rfl) ?_
  refine AL_nil ?_
  refine AW_ret ?_
  exact ⟨rn [(9, 101), (0, 103)], ⟨⟨⟨_, rfl, VLe.rf⟩, trivial⟩, ⟨⟨_, rfl, BLe.rf⟩, ⟨_, rfl, BLe.rf⟩, trivial⟩, trivial, rfl⟩⟩
theorem toRel_c (x : Relt) (hs : smallRel x) (k : Nat) : AC Try.prog 21 [.agg (relC x)] [] (.agg [.c (.int .i64 x.arity), .own k]) [(k, some (.arr 92 rowE x.rows true))] := AC.at (toRel_c0 x hs) k

set_option maxHeartbeats 4000000 in
theorem szNamed_c (x : Namedt) (left : Int) (l0 : 0 ≤ left) (l1 : left ≤ 1048576) : AC Try.prog 93 [.agg (namedC x), .one (.c (.int .i64 left))] [] (.one (.c (.int .i64 (szR (totNamed x) left)))) [] := by
  refine AC_body1 Try.func93 rfl rfl Try.ntmps93 rfl Try.results93 ?_
  refine AW_aggsmax 0 0 rfl rfl (fun hs0_0 => ?_)
  refine AW_seq ?_
  refine AW_region ?_
  refine AL_p (x_box 100 rfl rfl rfl rfl rfl rfl rfl) ?_
  refine AL_p (x_assign rfl rfl) ?_
  refine AL_nil ?_
  refine AW_seq ?_
  refine AW_region ?_
  refine AL_p (x_move rfl rfl) ?_
  refine AL_p (x_field (off := 0) (o' := 0) rfl rfl rfl (by kernel_rfl) rfl) ?_
  refine AL_p (x_load1 rfl rfl rfl (by kernel_rfl) rfl) ?_
  refine AL_p (x_lens rfl rfl (by kernel_rfl)) ?_
  refine AL_p (x_sub rfl rfl rfl (IntWalk.i64_in _ (by omega))) ?_
  refine AL_p (x_assign rfl rfl) ?_
  refine AL_nil ?_
  refine AW_seq ?_
  refine AW_seq ?_
  refine AW_region ?_
  refine AL_p (x_move rfl rfl) ?_
  refine AL_b (x_lss rfl rfl rfl) (fun b11 h11 => ?_)
  refine AL_nil ?_
  cases b11
  rotate_left
  · try simp only [decide_eq_true_eq, decide_eq_false_iff_not, Bool.not_eq_true, Bool.not_eq_false, Bool.not_eq_true', Bool.not_eq_false', beq_iff_eq, bne_iff_ne, beq_eq_false_iff_ne, bne_eq_false_iff_eq, Int.not_lt, Int.not_le, ge_iff_le, gt_iff_lt] at h11
    refine AW_condT rfl ?_
    refine AW_seq ?_
    refine AW_region ?_
    refine AL_p (x_assign rfl rfl) ?_
    refine AL_nil ?_
    refine AW_ret ?_
    exact ⟨rn [], ⟨⟨⟨_, rfl, vle_int (by first | (simp only [totNamed]; unfold szR; omega) | (simp only [totNamed]; done))⟩, trivial⟩, trivial, trivial, rfl⟩⟩
  · try simp only [decide_eq_true_eq, decide_eq_false_iff_not, Bool.not_eq_true, Bool.not_eq_false, Bool.not_eq_true', Bool.not_eq_false', beq_iff_eq, bne_iff_ne, beq_eq_false_iff_ne, bne_eq_false_iff_eq, Int.not_lt, Int.not_le, ge_iff_le, gt_iff_lt] at h11
    refine AW_condF rfl ?_
    refine AW_skip ?_
    refine AW_seq ?_
    refine AW_region ?_
    refine AL_p (x_field (off := 1) (o' := 1) rfl rfl rfl (by kernel_rfl) rfl) ?_
    refine AL_p (x_loadN (n := 2) rfl rfl rfl (by kernel_rfl) rfl rfl) ?_
    refine AL_p (x_move rfl rfl) ?_
    refine AL_p (x_call0 rfl rfl rfl (szRel_c _ _ (by omega) (by omega)) rfl rfl) ?_
    refine AL_p (x_assign rfl rfl) ?_
    refine AL_nil ?_
    refine AW_seq ?_
    refine AW_seq ?_
    refine AW_region ?_
    refine AL_p (x_move rfl rfl) ?_
    refine AL_b (x_lss rfl rfl rfl) (fun b17 h17 => ?_)
    refine AL_nil ?_
    cases b17
    rotate_left
    · try simp only [decide_eq_true_eq, decide_eq_false_iff_not, Bool.not_eq_true, Bool.not_eq_false, Bool.not_eq_true', Bool.not_eq_false', beq_iff_eq, bne_iff_ne, beq_eq_false_iff_ne, bne_eq_false_iff_eq, Int.not_lt, Int.not_le, ge_iff_le, gt_iff_lt] at h17
      have g17 := szR_neg h17
      refine AW_condT rfl ?_
      refine AW_seq ?_
      refine AW_region ?_
      refine AL_p (x_assign rfl rfl) ?_
      refine AL_nil ?_
      refine AW_ret ?_
      exact ⟨rn [], ⟨⟨⟨_, rfl, vle_int (by first | (simp only [totNamed]; unfold szR; omega) | (simp only [totNamed]; done))⟩, trivial⟩, trivial, trivial, rfl⟩⟩
    · try simp only [decide_eq_true_eq, decide_eq_false_iff_not, Bool.not_eq_true, Bool.not_eq_false, Bool.not_eq_true', Bool.not_eq_false', beq_iff_eq, bne_iff_ne, beq_eq_false_iff_ne, bne_eq_false_iff_eq, Int.not_lt, Int.not_le, ge_iff_le, gt_iff_lt] at h17
      have f17 := (szR_nonneg h17).1
      have e17 := (szR_nonneg h17).2
      refine AW_condF rfl ?_
      refine AW_skip ?_
      refine AW_seq ?_
      refine AW_region ?_
      refine AL_p (x_move rfl rfl) ?_
      refine AL_p (x_assign rfl rfl) ?_
      refine AL_nil ?_
      refine AW_ret ?_
      exact ⟨rn [], ⟨⟨⟨_, rfl, vle_int (by first | (simp only [totNamed]; unfold szR; omega) | (simp only [totNamed]; done))⟩, trivial⟩, trivial, trivial, rfl⟩⟩

set_option maxHeartbeats 4000000 in
theorem eqNamed_c (x : Namedt) : AC Try.prog 98 [.agg (namedC x), .agg (namedC x)] [] (.one (.c (.bool true))) [] := by
  refine AC_body1 Try.func98 rfl rfl Try.ntmps98 rfl Try.results98 ?_
  refine AW_seq ?_
  refine AW_region ?_
  refine AL_p (x_box 100 rfl rfl rfl rfl rfl rfl rfl) ?_
  refine AL_p (x_box 101 rfl rfl rfl rfl rfl rfl rfl) ?_
  refine AL_p (x_assign rfl rfl) ?_
  refine AL_nil ?_
  refine AW_seq ?_
  refine AW_seq ?_
  refine AW_region ?_
  refine AL_p (x_field (off := 0) (o' := 0) rfl rfl rfl (by kernel_rfl) rfl) ?_
  refine AL_p (x_load1 rfl rfl rfl (by kernel_rfl) rfl) ?_
  refine AL_p (x_field (off := 0) (o' := 0) rfl rfl rfl (by kernel_rfl) rfl) ?_
  refine AL_p (x_load1 rfl rfl rfl (by kernel_rfl) rfl) ?_
  refine AL_b (x_sneq rfl rfl rfl) (fun b9 h9 => ?_)
  refine AL_nil ?_
  cases b9
  rotate_left
  · exfalso; simp [ba_beq_self] at h9
  · try simp only [decide_eq_true_eq, decide_eq_false_iff_not, Bool.not_eq_true, Bool.not_eq_false, Bool.not_eq_true', Bool.not_eq_false', beq_iff_eq, bne_iff_ne, beq_eq_false_iff_ne, bne_eq_false_iff_eq, Int.not_lt, Int.not_le, ge_iff_le, gt_iff_lt] at h9
    refine AW_condF rfl ?_
    refine AW_skip ?_
    refine AW_seq ?_
    refine AW_seq ?_
    refine AW_region ?_
    refine AL_p (x_field (off := 1) (o' := 1) rfl rfl rfl (by kernel_rfl) rfl) ?_
    refine AL_p (x_loadN (n := 2) rfl rfl rfl (by kernel_rfl) rfl rfl) ?_
    refine AL_p (x_field (off := 1) (o' := 1) rfl rfl rfl (by kernel_rfl) rfl) ?_
    refine AL_p (x_loadN (n := 2) rfl rfl rfl (by kernel_rfl) rfl rfl) ?_
    refine AL_p (x_call0 rfl rfl rfl (eqRel_c _) rfl rfl) ?_
    refine AL_p (x_not rfl rfl) ?_
    refine AL_nil ?_
    refine AW_condF rfl ?_
    refine AW_skip ?_
    refine AW_seq ?_
    refine AW_region ?_
    refine AL_p (x_assign rfl rfl) ?_
    refine AL_nil ?_
    refine AW_ret ?_
    exact ⟨rn [], ⟨⟨⟨_, rfl, vle_bool (rfl)⟩, trivial⟩, trivial, trivial, rfl⟩⟩

set_option maxHeartbeats 4000000 in
theorem toNamed_c0 (x : Namedt) (hs : smallNamed x) : AC Try.prog 95 [.agg (namedC x)] [] (.agg [.c (.string x.name), .c (.int .i64 x.rel.arity), .own 0]) [(0, some (.arr 92 rowE x.rel.rows true))] := by
  refine AC_bodyC (n := 3) (k := 9) (T := [(2, .one (.ptr 9 0))]) (Lf := ((9, some (.box [.c (.string x.name), .c (.int .i64 x.rel.arity), .own 0])) :: [(0, some (.arr 92 rowE x.rel.rows true))])) Try.func95 rfl rfl Try.ntmps95 rfl Try.results95 rfl rfl (by kernel_rfl) rfl rfl ⟨trivial, (by repeat (first | exact trivial | refine ⟨⟨_, rfl, BLe.rf⟩, ?_⟩)), (by repeat (first | exact trivial | refine ⟨⟨rfl, by first | (left; intro h; cases h) | (right; rfl), fun _ h => ⟨_, h⟩⟩, ?_⟩)), rfl⟩ ?_
  refine AW_seq ?_
  refine AW_region ?_
  refine AL_p (x_box 100 rfl rfl rfl rfl rfl rfl rfl) ?_
  refine AL_p (x_alloc (z := .agg #[.string ⟨#[]⟩, .int .i64 0, .slice none 0 0]) 101 rfl (by kernel_rfl) rfl rfl rfl rfl) ?_
  refine AL_nil ?_
  refine AW_seq ?_
  refine AW_region ?_
  refine AL_p (x_alloc (z := .agg #[.string ⟨#[]⟩, .int .i64 0, .slice none 0 0]) 102 rfl (by kernel_rfl) rfl rfl rfl rfl) ?_
  refine AL_nil ?_
  refine AW_seq ?_
  refine AW_region ?_
  refine AL_p (x_field (off := 0) (o' := 0) rfl rfl rfl (by kernel_rfl) rfl) ?_
  refine AL_p (x_load1 rfl rfl rfl (by kernel_rfl) rfl) ?_
  refine AL_p (x_field (off := 0) (o' := 0) rfl rfl rfl (by kernel_rfl) rfl) ?_
  refine AL_p (x_store (n := 1) rfl rfl rfl rfl (by kernel_rfl) rfl rfl rfl) ?_
  refine AL_nil ?_
  refine AW_seq ?_
  refine AW_region ?_
  refine AL_p (x_field (off := 1) (o' := 1) rfl rfl rfl (by kernel_rfl) rfl) ?_
  refine AL_p (x_loadN (n := 2) rfl rfl rfl (by kernel_rfl) rfl rfl) ?_
  refine AL_p (x_callR rfl rfl rfl (toRel_c x.rel hs.2 103) rfl AllV.rf rfl rfl rfl rfl rfl) ?_
  refine AL_p (x_field (off := 1) (o' := 1) rfl rfl rfl (by kernel_rfl) rfl) ?_
  refine AL_p (x_store (n := 2) rfl rfl rfl rfl (by kernel_rfl) rfl rfl rfl) ?_
  refine AL_nil ?_
  refine AW_seq ?_
  refine AW_region ?_
  refine AL_p (x_loadN (n := 3) rfl rfl rfl (by kernel_rfl) rfl rfl) ?_
  refine AL_p (x_store (n := 3) rfl rfl rfl rfl (by kernel_rfl) rfl rfl rfl) ?_
  refine AL_nil ?_
  refine AW_ret ?_
  exact ⟨rn [(9, 101), (0, 103)], ⟨⟨⟨_, rfl, VLe.rf⟩, trivial⟩, ⟨⟨_, rfl, BLe.rf⟩, ⟨_, rfl, BLe.rf⟩, trivial⟩, trivial, rfl⟩⟩
theorem toNamed_c (x : Namedt) (hs : smallNamed x) (k : Nat) : AC Try.prog 95 [.agg (namedC x)] [] (.agg [.c (.string x.name), .c (.int .i64 x.rel.arity), .own k]) [(k, some (.arr 92 rowE x.rel.rows true))] := AC.at (toNamed_c0 x hs) k

set_option maxHeartbeats 4000000 in
theorem szNamedS_c (xs : List (Namedt)) (left : Int) (l0 : 0 ≤ left) (l1 : left ≤ 1048576) : AC Try.prog 44 [.one (.sl namedE xs), .one (.c (.int .i64 left))] [] (.one (.c (.int .i64 (szR (totL totNamed xs) left)))) [] := by
  refine AC_body1 Try.func44 rfl rfl Try.ntmps44 rfl Try.results44 ?_
  refine AW_slmax 0 rfl (fun hm0 => ?_)
  refine AW_seq ?_
  refine AW_region ?_
  refine AL_p (x_assign rfl rfl) ?_
  refine AL_nil ?_
  refine AW_seq ?_
  refine AW_region ?_
  refine AL_p (x_move rfl rfl) ?_
  refine AL_p (x_move rfl rfl) ?_
  refine AL_p (x_len (E := 121) (n := 3) rfl rfl (by kernel_rfl)) ?_
  refine AL_p (x_sub rfl rfl rfl (IntWalk.i64_in _ (by omega))) ?_
  refine AL_p (x_assign rfl rfl) ?_
  refine AL_nil ?_
  refine AW_seq ?_
  refine AW_seq ?_
  refine AW_region ?_
  refine AL_p (x_move rfl rfl) ?_
  refine AL_b (x_lss rfl rfl rfl) (fun b11 h11 => ?_)
  refine AL_nil ?_
  cases b11
  rotate_left
  · try simp only [decide_eq_true_eq, decide_eq_false_iff_not, Bool.not_eq_true, Bool.not_eq_false, Bool.not_eq_true', Bool.not_eq_false', beq_iff_eq, bne_iff_ne, beq_eq_false_iff_ne, bne_eq_false_iff_eq, Int.not_lt, Int.not_le, ge_iff_le, gt_iff_lt] at h11
    refine AW_condT rfl ?_
    refine AW_seq ?_
    refine AW_region ?_
    refine AL_p (x_assign rfl rfl) ?_
    refine AL_nil ?_
    refine AW_ret ?_
    exact ⟨rn [], ⟨⟨⟨_, rfl, vle_int (by first | (simp only [totL]; unfold szR; omega) | (simp only [totL]; done))⟩, trivial⟩, trivial, trivial, rfl⟩⟩
  · try simp only [decide_eq_true_eq, decide_eq_false_iff_not, Bool.not_eq_true, Bool.not_eq_false, Bool.not_eq_true', Bool.not_eq_false', beq_iff_eq, bne_iff_ne, beq_eq_false_iff_ne, bne_eq_false_iff_eq, Int.not_lt, Int.not_le, ge_iff_le, gt_iff_lt] at h11
    refine AW_condF rfl ?_
    refine AW_skip ?_
    refine AW_seq ?_
    refine AW_seq ?_
    refine AW_region ?_
    refine AL_p (x_assign rfl rfl) ?_
    refine AL_nil ?_
    refine AW_block ?_
    refine AW_loop2 (ι := {q : Nat // q ≤ xs.length ∧ ((cntL totNamed (xs.take q) : Nat) : Int) ≤ left - (xs.length : Int)}) (fun p => [(1, .one (.c (.int .i64 (left - (xs.length : Int) - ((cntL totNamed (xs.take (p.1)) : Nat) : Int))))), (5, .one (.c (.int .i64 ((p.1) : Int))))]) (fun p => []) [0] [] (fun p => xs.length - (p.1)) ⟨0, ⟨by omega, by first | (simp [cntL]; done) | (simp [cntL]; try omega)⟩⟩ (rn []) ?_ ?_
    exact ⟨by (repeat refine ⟨⟨_, rfl, by first | exact VLe.rf | exact vle_int (by dsimp only; omega) | exact vle_int (by first | (simp [cntL]; done) | (simp [cntL]; try omega))⟩, ?_⟩); exact trivial, by (repeat refine ⟨⟨_, rfl, by first | exact BLe.rf | exact BLe.box AllC.rf | exact BLe.arr (by exact rfl)⟩, ?_⟩); exact trivial, by repeat (first | exact trivial | refine ⟨⟨rfl, by first | (left; intro h; cases h) | (right; rfl), fun _ h => ⟨_, h⟩⟩, ?_⟩), rfl⟩
    rintro ⟨k, hinv⟩
    dsimp only
    obtain ⟨hk, hc⟩ := hinv
    refine AW_seq ?_
    refine AW_seq ?_
    refine AW_region ?_
    refine AL_p (x_move rfl rfl) ?_
    refine AL_p (x_move rfl rfl) ?_
    refine AL_p (x_len (E := 121) (n := 3) rfl rfl (by kernel_rfl)) ?_
    refine AL_b (x_lss rfl rfl rfl) (fun b15 h15 => ?_)
    refine AL_nil ?_
    cases b15
    rotate_left
    · try simp only [decide_eq_true_eq, decide_eq_false_iff_not, Bool.not_eq_true, Bool.not_eq_false, Bool.not_eq_true', Bool.not_eq_false', beq_iff_eq, bne_iff_ne, beq_eq_false_iff_ne, bne_eq_false_iff_eq, Int.not_lt, Int.not_le, ge_iff_le, gt_iff_lt] at h15
      have hlt : k < xs.length := by omega
      have hs := cntL_snoc (c := totNamed) hlt
      have ht := cntL_take (c := totNamed) hlt
      refine AW_condT rfl ?_
      refine AW_skip ?_
      refine AW_seq ?_
      refine AW_block ?_
      refine AW_seq ?_
      refine AW_region ?_
      refine AL_p (x_move rfl rfl) ?_
      refine AL_p (x_move rfl rfl) ?_
      refine AL_p (x_index (E := 121) (n := 3) rfl rfl rfl (by kernel_rfl) rfl (k := k) (by omega) (by omega)) ?_
      refine AL_p (x_eloadW (n := 3) rfl rfl (by kernel_rfl) rfl) ?_
      refine AL_p (x_move rfl rfl) ?_
      refine AL_p (x_call0 rfl rfl rfl (szNamed_c _ _ (by omega) (by omega)) rfl rfl) ?_
      refine AL_p (x_assign rfl rfl) ?_
      refine AL_nil ?_
      refine AW_seq ?_
      refine AW_region ?_
      refine AL_p (x_move rfl rfl) ?_
      refine AL_b (x_lss rfl rfl rfl) (fun b25 h25 => ?_)
      refine AL_nil ?_
      cases b25
      rotate_left
      · try simp only [decide_eq_true_eq, decide_eq_false_iff_not, Bool.not_eq_true, Bool.not_eq_false, Bool.not_eq_true', Bool.not_eq_false', beq_iff_eq, bne_iff_ne, beq_eq_false_iff_ne, bne_eq_false_iff_eq, Int.not_lt, Int.not_le, ge_iff_le, gt_iff_lt] at h25
        have g25 := szR_neg h25
        refine AW_condT rfl ?_
        refine AW_seq ?_
        refine AW_region ?_
        refine AL_p (x_assign rfl rfl) ?_
        refine AL_nil ?_
        refine AW_ret (BQ_ret (BQ_ret ?_))
        exact ⟨rn [], ⟨⟨⟨_, rfl, vle_int (by first | (simp only [totL]; unfold szR; omega) | (simp only [totL]; done))⟩, trivial⟩, trivial, trivial, rfl⟩⟩
      · try simp only [decide_eq_true_eq, decide_eq_false_iff_not, Bool.not_eq_true, Bool.not_eq_false, Bool.not_eq_true', Bool.not_eq_false', beq_iff_eq, bne_iff_ne, beq_eq_false_iff_ne, bne_eq_false_iff_eq, Int.not_lt, Int.not_le, ge_iff_le, gt_iff_lt] at h25
        have f25 := (szR_nonneg h25).1
        have e25 := (szR_nonneg h25).2
        refine AW_condF rfl ?_
        refine AW_skip ?_
        refine AW_region ?_
        refine AL_p (x_move rfl rfl) ?_
        refine AL_p (x_add rfl rfl rfl (IntWalk.i64_in _ (by omega))) ?_
        refine AL_p (x_assign rfl rfl) ?_
        refine AL_nil ?_
        refine ⟨⟨k + 1, ⟨by omega, by omega⟩⟩, rn [], ?_, by dsimp only; omega⟩
        exact ⟨by (repeat refine ⟨⟨_, rfl, by first | exact VLe.rf | exact vle_int (by dsimp only; omega) | exact vle_int (by first | (simp [cntL]; done) | (simp [cntL]; try omega))⟩, ?_⟩); exact trivial, by (repeat refine ⟨⟨_, rfl, by first | exact BLe.rf | exact BLe.box AllC.rf | exact BLe.arr (by exact rfl)⟩, ?_⟩); exact trivial, by repeat (first | exact trivial | refine ⟨⟨rfl, by first | (left; intro h; cases h) | (right; rfl), fun _ h => ⟨_, h⟩⟩, ?_⟩), rfl⟩
    · try simp only [decide_eq_true_eq, decide_eq_false_iff_not, Bool.not_eq_true, Bool.not_eq_false, Bool.not_eq_true', Bool.not_eq_false', beq_iff_eq, bne_iff_ne, beq_eq_false_iff_ne, bne_eq_false_iff_eq, Int.not_lt, Int.not_le, ge_iff_le, gt_iff_lt] at h15
      have ha := cntL_all (c := totNamed) (xs := xs) (k := k) (by omega)
      refine AW_condF rfl ?_
      refine AW_exit (BQ_hit ?_)
      refine AW_seq ?_
      refine AW_region ?_
      refine AL_p (x_move rfl rfl) ?_
      refine AL_p (x_assign rfl rfl) ?_
      refine AL_nil ?_
      refine AW_ret ?_
      exact ⟨rn [], ⟨⟨⟨_, rfl, vle_int (by first | (simp only [totL]; unfold szR; omega) | (simp only [totL]; done))⟩, trivial⟩, trivial, trivial, rfl⟩⟩

set_option maxHeartbeats 4000000 in
theorem eqNamedS_c (xs : List (Namedt)) : AC Try.prog 53 [.one (.sl namedE xs), .one (.sl namedE xs)] [] (.one (.c (.bool true))) [] := by
  refine AC_body1 Try.func53 rfl rfl Try.ntmps53 rfl Try.results53 ?_
  refine AW_slmax 0 rfl (fun hm0 => ?_)
  refine AW_seq ?_
  refine AW_region ?_
  refine AL_p (x_assign rfl rfl) ?_
  refine AL_nil ?_
  refine AW_seq ?_
  refine AW_seq ?_
  refine AW_region ?_
  refine AL_p (x_move rfl rfl) ?_
  refine AL_p (x_len (E := 89) (n := 3) rfl rfl (by kernel_rfl)) ?_
  refine AL_p (x_move rfl rfl) ?_
  refine AL_p (x_len (E := 89) (n := 3) rfl rfl (by kernel_rfl)) ?_
  refine AL_b (x_neq rfl rfl rfl) (fun b10 h10 => ?_)
  refine AL_nil ?_
  cases b10
  rotate_left
  · exfalso; simp [ba_beq_self] at h10
  · try simp only [decide_eq_true_eq, decide_eq_false_iff_not, Bool.not_eq_true, Bool.not_eq_false, Bool.not_eq_true', Bool.not_eq_false', beq_iff_eq, bne_iff_ne, beq_eq_false_iff_ne, bne_eq_false_iff_eq, Int.not_lt, Int.not_le, ge_iff_le, gt_iff_lt] at h10
    refine AW_condF rfl ?_
    refine AW_skip ?_
    refine AW_seq ?_
    refine AW_seq ?_
    refine AW_region ?_
    refine AL_p (x_assign rfl rfl) ?_
    refine AL_nil ?_
    refine AW_block ?_
    refine AW_loop2 (ι := {q : Nat // q ≤ xs.length}) (fun p => [(5, .one (.c (.int .i64 ((p.1) : Int))))]) (fun p => []) [0, 1] [] (fun p => xs.length - (p.1)) ⟨0, by omega⟩ (rn []) ?_ ?_
    exact ⟨by (repeat refine ⟨⟨_, rfl, by first | exact VLe.rf | exact vle_int (by dsimp only; omega)⟩, ?_⟩); exact trivial, by (repeat refine ⟨⟨_, rfl, by first | exact BLe.rf | exact BLe.box AllC.rf | exact BLe.arr (by exact rfl)⟩, ?_⟩); exact trivial, by repeat (first | exact trivial | refine ⟨⟨rfl, by first | (left; intro h; cases h) | (right; rfl), fun _ h => ⟨_, h⟩⟩, ?_⟩), rfl⟩
    rintro ⟨k, hinv⟩
    dsimp only
    refine AW_seq ?_
    refine AW_seq ?_
    refine AW_region ?_
    refine AL_p (x_move rfl rfl) ?_
    refine AL_p (x_move rfl rfl) ?_
    refine AL_p (x_len (E := 89) (n := 3) rfl rfl (by kernel_rfl)) ?_
    refine AL_b (x_lss rfl rfl rfl) (fun b14 h14 => ?_)
    refine AL_nil ?_
    cases b14
    rotate_left
    · try simp only [decide_eq_true_eq, decide_eq_false_iff_not, Bool.not_eq_true, Bool.not_eq_false, Bool.not_eq_true', Bool.not_eq_false', beq_iff_eq, bne_iff_ne, beq_eq_false_iff_ne, bne_eq_false_iff_eq, Int.not_lt, Int.not_le, ge_iff_le, gt_iff_lt] at h14
      refine AW_condT rfl ?_
      refine AW_skip ?_
      refine AW_seq ?_
      refine AW_block ?_
      refine AW_seq ?_
      refine AW_draw rfl ?_
      refine AL_p (x_move rfl rfl) ?_
      refine AL_p (x_move rfl rfl) ?_
      refine AL_p (x_index (E := 89) (n := 3) rfl rfl rfl (by kernel_rfl) rfl (k := k) (by omega) (by omega)) ?_
      refine AL_p (x_eloadW (n := 3) rfl rfl (by kernel_rfl) rfl) ?_
      refine AL_p (x_move rfl rfl) ?_
      refine AL_p (x_move rfl rfl) ?_
      refine AL_p (x_index (E := 89) (n := 3) rfl rfl rfl (by kernel_rfl) rfl (k := k) (by omega) (by omega)) ?_
      refine AL_p (x_eloadW (n := 3) rfl rfl (by kernel_rfl) rfl) ?_
      refine AL_p (x_call0 rfl rfl rfl (eqNamed_c _) rfl rfl) ?_
      refine AL_p (x_not rfl rfl) ?_
      refine AL_nild (by kernel_rfl) ?_
      refine AW_condF rfl ?_
      refine AW_skip ?_
      refine AW_region ?_
      refine AL_p (x_move rfl rfl) ?_
      refine AL_p (x_add rfl rfl rfl (IntWalk.i64_in _ (by omega))) ?_
      refine AL_p (x_assign rfl rfl) ?_
      refine AL_nil ?_
      refine ⟨⟨k + 1, by omega⟩, rn [], ?_, by dsimp only; omega⟩
      exact ⟨by (repeat refine ⟨⟨_, rfl, by first | exact VLe.rf | exact vle_int (by dsimp only; omega)⟩, ?_⟩); exact trivial, by (repeat refine ⟨⟨_, rfl, by first | exact BLe.rf | exact BLe.box AllC.rf | exact BLe.arr (by exact rfl)⟩, ?_⟩); exact trivial, by repeat (first | exact trivial | refine ⟨⟨rfl, by first | (left; intro h; cases h) | (right; rfl), fun _ h => ⟨_, h⟩⟩, ?_⟩), rfl⟩
    · try simp only [decide_eq_true_eq, decide_eq_false_iff_not, Bool.not_eq_true, Bool.not_eq_false, Bool.not_eq_true', Bool.not_eq_false', beq_iff_eq, bne_iff_ne, beq_eq_false_iff_ne, bne_eq_false_iff_eq, Int.not_lt, Int.not_le, ge_iff_le, gt_iff_lt] at h14
      refine AW_condF rfl ?_
      refine AW_exit (BQ_hit ?_)
      refine AW_seq ?_
      refine AW_region ?_
      refine AL_p (x_assign rfl rfl) ?_
      refine AL_nil ?_
      refine AW_ret ?_
      exact ⟨rn [], ⟨⟨⟨_, rfl, vle_bool (rfl)⟩, trivial⟩, trivial, trivial, rfl⟩⟩

set_option maxHeartbeats 4000000 in
theorem toNamedS_c0 (xs : List (Namedt)) (hs : xs.length ≤ 1048576 ∧ ∀ y ∈ xs, smallNamed y) : AC Try.prog 48 [.one (.sl namedE xs)] [] (.one (.own 0)) [(0, some (.arr 89 namedE xs true))] := by
  refine AC_body1 Try.func48 rfl rfl Try.ntmps48 rfl Try.results48 ?_
  refine AW_seq ?_
  refine AW_region ?_
  refine AL_p (x_assign rfl rfl) ?_
  refine AL_nil ?_
  refine AW_seq ?_
  refine AW_region ?_
  refine AL_p (x_move rfl rfl) ?_
  refine AL_p (x_len (E := 121) (n := 3) rfl rfl (by kernel_rfl)) ?_
  refine AL_p (x_make (T := 31) (E := 89) (e := namedE) ((⟨⟨#[]⟩, ⟨0, []⟩⟩ : Namedt)) (z := .agg #[.string ⟨#[]⟩, .int .i64 0, .slice none 0 0]) 100 rfl rfl rfl (by kernel_rfl) rfl ⟨.inl rfl, .inl rfl, .inr ⟨rfl, _, _, rfl⟩, trivial⟩ rfl rfl (by kernel_rfl) (by have := hs.1; omega)) ?_
  refine AL_p (x_assign rfl rfl) ?_
  refine AL_nil ?_
  refine AW_seq ?_
  refine AW_seq ?_
  refine AW_region ?_
  refine AL_p (x_assign rfl rfl) ?_
  refine AL_nil ?_
  refine AW_block ?_
  refine AW_loop2 (ι := {q : Nat // q ≤ xs.length}) (fun p => [(4, .one (.c (.int .i64 ((p.1) : Int))))]) (fun p => [(100, some (.arr 89 namedE (filledTo xs ((⟨⟨#[]⟩, ⟨0, []⟩⟩ : Namedt)) (p.1)) true))]) [0, 3] [] (fun p => xs.length - (p.1)) ⟨0, by omega⟩ (rn []) ?_ ?_
  exact ⟨by (repeat refine ⟨⟨_, rfl, by first | exact VLe.rf | exact vle_int (by dsimp only; omega)⟩, ?_⟩); exact trivial, by (repeat refine ⟨⟨_, rfl, by first | exact BLe.rf | exact BLe.box AllC.rf | exact BLe.arr (by first | exact filledTo_zero | exact filledTo_succ (by omega))⟩, ?_⟩); exact trivial, by repeat (first | exact trivial | refine ⟨⟨rfl, by first | (left; intro h; cases h) | (right; rfl), fun _ h => ⟨_, h⟩⟩, ?_⟩), rfl⟩
  rintro ⟨k, hinv⟩
  dsimp only
  have hlen := hs.1
  refine AW_seq ?_
  refine AW_seq ?_
  refine AW_region ?_
  refine AL_p (x_move rfl rfl) ?_
  refine AL_p (x_move rfl rfl) ?_
  refine AL_p (x_len (E := 121) (n := 3) rfl rfl (by kernel_rfl)) ?_
  refine AL_b (x_lss rfl rfl rfl) (fun b11 h11 => ?_)
  refine AL_nil ?_
  cases b11
  rotate_left
  · try simp only [decide_eq_true_eq, decide_eq_false_iff_not, Bool.not_eq_true, Bool.not_eq_false, Bool.not_eq_true', Bool.not_eq_false', beq_iff_eq, bne_iff_ne, beq_eq_false_iff_ne, bne_eq_false_iff_eq, Int.not_lt, Int.not_le, ge_iff_le, gt_iff_lt] at h11
    refine AW_condT rfl ?_
    refine AW_skip ?_
    refine AW_seq ?_
    refine AW_block ?_
    refine AW_region ?_
    refine AL_p (x_move rfl rfl) ?_
    refine AL_p (x_move rfl rfl) ?_
    refine AL_p (x_move rfl rfl) ?_
    refine AL_p (x_move rfl rfl) ?_
    refine AL_p (x_index (E := 121) (n := 3) rfl rfl rfl (by kernel_rfl) rfl (k := k) (by omega) (by omega)) ?_
    refine AL_p (x_eloadW (n := 3) rfl rfl (by kernel_rfl) rfl) ?_
    refine AL_p (x_callR rfl rfl rfl (toNamed_c (xs[k]'(by omega)) (hs.2 _ (List.getElem_mem _)) 101) rfl AllV.rf rfl rfl rfl rfl rfl) ?_
    refine AL_p (x_oindex (n := 3) rfl rfl rfl rfl (by kernel_rfl) rfl (k := k) rfl (by rw [filledTo_len (by omega)]; omega)) ?_
    refine AL_p (x_ostore (xs[k]'(by omega)) rfl rfl rfl rfl (by kernel_rfl) rfl rfl rfl rfl FitL.rf rfl rfl (by first | omega | (rw [filledTo_len (by omega)]; omega) | (simp; omega))) ?_
    refine AL_nil ?_
    refine AW_region ?_
    refine AL_p (x_move rfl rfl) ?_
    refine AL_p (x_add rfl rfl rfl (IntWalk.i64_in _ (by omega))) ?_
    refine AL_p (x_assign rfl rfl) ?_
    refine AL_nil ?_
    refine ⟨⟨k + 1, by omega⟩, rn [], ?_, by dsimp only; omega⟩
    exact ⟨by (repeat refine ⟨⟨_, rfl, by first | exact VLe.rf | exact vle_int (by dsimp only; omega)⟩, ?_⟩); exact trivial, by (repeat refine ⟨⟨_, rfl, by first | exact BLe.rf | exact BLe.box AllC.rf | exact BLe.arr (by first | exact filledTo_zero | exact filledTo_succ (by omega))⟩, ?_⟩); exact trivial, by repeat (first | exact trivial | refine ⟨⟨rfl, by first | (left; intro h; cases h) | (right; rfl), fun _ h => ⟨_, h⟩⟩, ?_⟩), rfl⟩
  · try simp only [decide_eq_true_eq, decide_eq_false_iff_not, Bool.not_eq_true, Bool.not_eq_false, Bool.not_eq_true', Bool.not_eq_false', beq_iff_eq, bne_iff_ne, beq_eq_false_iff_ne, bne_eq_false_iff_eq, Int.not_lt, Int.not_le, ge_iff_le, gt_iff_lt] at h11
    refine AW_condF rfl ?_
    refine AW_exit (BQ_hit ?_)
    refine AW_seq ?_
    refine AW_region ?_
    refine AL_p (x_move rfl rfl) ?_
    refine AL_p (x_assign rfl rfl) ?_
    refine AL_nil ?_
    refine AW_ret ?_
    exact ⟨rn [(0, 100)], ⟨⟨⟨_, rfl, VLe.rf⟩, trivial⟩, ⟨⟨_, rfl, BLe.arr (filledTo_done (by omega))⟩, trivial⟩, trivial, rfl⟩⟩
theorem toNamedS_c (xs : List (Namedt)) (hs : xs.length ≤ 1048576 ∧ ∀ y ∈ xs, smallNamed y) (k : Nat) : AC Try.prog 48 [.one (.sl namedE xs)] [] (.one (.own k)) [(k, some (.arr 89 namedE xs true))] := AC.at (toNamedS_c0 xs hs) k

set_option maxHeartbeats 4000000 in
theorem szStore_c (x : Storet) (left : Int) (l0 : 0 ≤ left) (l1 : left ≤ 1048576) : AC Try.prog 10 [.agg (storeC x), .one (.c (.int .i64 left))] [] (.one (.c (.int .i64 (szR (totStore x) left)))) [] := by
  refine AC_body1 Try.func10 rfl rfl Try.ntmps10 rfl Try.results10 ?_
  refine AW_seq ?_
  refine AW_region ?_
  refine AL_p (x_box 100 rfl rfl rfl rfl rfl rfl rfl) ?_
  refine AL_p (x_assign rfl rfl) ?_
  refine AL_nil ?_
  refine AW_seq ?_
  refine AW_region ?_
  refine AL_p (x_field (off := 0) (o' := 0) rfl rfl rfl (by kernel_rfl) rfl) ?_
  refine AL_p (x_load1 rfl rfl rfl (by kernel_rfl) rfl) ?_
  refine AL_p (x_move rfl rfl) ?_
  refine AL_p (x_call0 rfl rfl rfl (szNamedS_c _ _ (by omega) (by omega)) rfl rfl) ?_
  refine AL_p (x_assign rfl rfl) ?_
  refine AL_nil ?_
  refine AW_seq ?_
  refine AW_seq ?_
  refine AW_region ?_
  refine AL_p (x_move rfl rfl) ?_
  refine AL_b (x_lss rfl rfl rfl) (fun b10 h10 => ?_)
  refine AL_nil ?_
  cases b10
  rotate_left
  · try simp only [decide_eq_true_eq, decide_eq_false_iff_not, Bool.not_eq_true, Bool.not_eq_false, Bool.not_eq_true', Bool.not_eq_false', beq_iff_eq, bne_iff_ne, beq_eq_false_iff_ne, bne_eq_false_iff_eq, Int.not_lt, Int.not_le, ge_iff_le, gt_iff_lt] at h10
    have g10 := szR_neg h10
    refine AW_condT rfl ?_
    refine AW_seq ?_
    refine AW_region ?_
    refine AL_p (x_assign rfl rfl) ?_
    refine AL_nil ?_
    refine AW_ret ?_
    exact ⟨rn [], ⟨⟨⟨_, rfl, vle_int (by first | (simp only [totStore]; unfold szR; omega) | (simp only [totStore]; done))⟩, trivial⟩, trivial, trivial, rfl⟩⟩
  · try simp only [decide_eq_true_eq, decide_eq_false_iff_not, Bool.not_eq_true, Bool.not_eq_false, Bool.not_eq_true', Bool.not_eq_false', beq_iff_eq, bne_iff_ne, beq_eq_false_iff_ne, bne_eq_false_iff_eq, Int.not_lt, Int.not_le, ge_iff_le, gt_iff_lt] at h10
    have f10 := (szR_nonneg h10).1
    have e10 := (szR_nonneg h10).2
    refine AW_condF rfl ?_
    refine AW_skip ?_
    refine AW_seq ?_
    refine AW_region ?_
    refine AL_p (x_move rfl rfl) ?_
    refine AL_p (x_assign rfl rfl) ?_
    refine AL_nil ?_
    refine AW_ret ?_
    exact ⟨rn [], ⟨⟨⟨_, rfl, vle_int (by first | (simp only [totStore]; unfold szR; omega) | (simp only [totStore]; done))⟩, trivial⟩, trivial, trivial, rfl⟩⟩

set_option maxHeartbeats 4000000 in
theorem eqStore_c (x : Storet) : AC Try.prog 15 [.agg (storeC x), .agg (storeC x)] [] (.one (.c (.bool true))) [] := by
  refine AC_body1 Try.func15 rfl rfl Try.ntmps15 rfl Try.results15 ?_
  refine AW_seq ?_
  refine AW_region ?_
  refine AL_p (x_box 100 rfl rfl rfl rfl rfl rfl rfl) ?_
  refine AL_p (x_box 101 rfl rfl rfl rfl rfl rfl rfl) ?_
  refine AL_p (x_assign rfl rfl) ?_
  refine AL_nil ?_
  refine AW_seq ?_
  refine AW_seq ?_
  refine AW_region ?_
  refine AL_p (x_field (off := 0) (o' := 0) rfl rfl rfl (by kernel_rfl) rfl) ?_
  refine AL_p (x_load1 rfl rfl rfl (by kernel_rfl) rfl) ?_
  refine AL_p (x_field (off := 0) (o' := 0) rfl rfl rfl (by kernel_rfl) rfl) ?_
  refine AL_p (x_load1 rfl rfl rfl (by kernel_rfl) rfl) ?_
  refine AL_p (x_call0 rfl rfl rfl (eqNamedS_c _) rfl rfl) ?_
  refine AL_p (x_not rfl rfl) ?_
  refine AL_nil ?_
  refine AW_condF rfl ?_
  refine AW_skip ?_
  refine AW_seq ?_
  refine AW_region ?_
  refine AL_p (x_assign rfl rfl) ?_
  refine AL_nil ?_
  refine AW_ret ?_
  exact ⟨rn [], ⟨⟨⟨_, rfl, vle_bool (rfl)⟩, trivial⟩, trivial, trivial, rfl⟩⟩

set_option maxHeartbeats 4000000 in
theorem toStore_c0 (x : Storet) (hs : smallStore x) : AC Try.prog 12 [.agg (storeC x)] [] (.agg [.own 0]) [(0, some (.arr 89 namedE x.rels true))] := by
  refine AC_bodyC (n := 1) (k := 9) (T := [(2, .one (.ptr 9 0))]) (Lf := ((9, some (.box [.own 0])) :: [(0, some (.arr 89 namedE x.rels true))])) Try.func12 rfl rfl Try.ntmps12 rfl Try.results12 rfl rfl (by kernel_rfl) rfl rfl ⟨trivial, (by repeat (first | exact trivial | refine ⟨⟨_, rfl, BLe.rf⟩, ?_⟩)), (by repeat (first | exact trivial | refine ⟨⟨rfl, by first | (left; intro h; cases h) | (right; rfl), fun _ h => ⟨_, h⟩⟩, ?_⟩)), rfl⟩ ?_
  refine AW_seq ?_
  refine AW_region ?_
  refine AL_p (x_box 100 rfl rfl rfl rfl rfl rfl rfl) ?_
  refine AL_p (x_alloc (z := .agg #[.slice none 0 0]) 101 rfl (by kernel_rfl) rfl rfl rfl rfl) ?_
  refine AL_nil ?_
  refine AW_seq ?_
  refine AW_region ?_
  refine AL_p (x_alloc (z := .agg #[.slice none 0 0]) 102 rfl (by kernel_rfl) rfl rfl rfl rfl) ?_
  refine AL_nil ?_
  refine AW_seq ?_
  refine AW_region ?_
  refine AL_p (x_field (off := 0) (o' := 0) rfl rfl rfl (by kernel_rfl) rfl) ?_
  refine AL_p (x_load1 rfl rfl rfl (by kernel_rfl) rfl) ?_
  refine AL_p (x_call1 rfl rfl rfl (toNamedS_c x.rels (hs) 103) rfl rfl rfl rfl) ?_
  refine AL_p (x_field (off := 0) (o' := 0) rfl rfl rfl (by kernel_rfl) rfl) ?_
  refine AL_p (x_store (n := 1) rfl rfl rfl rfl (by kernel_rfl) rfl rfl rfl) ?_
  refine AL_nil ?_
  refine AW_seq ?_
  refine AW_region ?_
  refine AL_p (x_loadN (n := 1) rfl rfl rfl (by kernel_rfl) rfl rfl) ?_
  refine AL_p (x_store (n := 1) rfl rfl rfl rfl (by kernel_rfl) rfl rfl rfl) ?_
  refine AL_nil ?_
  refine AW_ret ?_
  exact ⟨rn [(9, 101), (0, 103)], ⟨⟨⟨_, rfl, VLe.rf⟩, trivial⟩, ⟨⟨_, rfl, BLe.rf⟩, ⟨_, rfl, BLe.rf⟩, trivial⟩, trivial, rfl⟩⟩
theorem toStore_c (x : Storet) (hs : smallStore x) (k : Nat) : AC Try.prog 12 [.agg (storeC x)] [] (.agg [.own k]) [(k, some (.arr 89 namedE x.rels true))] := AC.at (toStore_c0 x hs) k

set_option maxHeartbeats 4000000 in
theorem szChange_c (x : Changet) (left : Int) (l0 : 0 ≤ left) (l1 : left ≤ 1048576) : AC Try.prog 127 [.agg (changeC x), .one (.c (.int .i64 left))] [] (.one (.c (.int .i64 (szR (totChange x) left)))) [] := by
  refine AC_body1 Try.func127 rfl rfl Try.ntmps127 rfl Try.results127 ?_
  refine AW_aggsmax 0 0 rfl rfl (fun hs0_0 => ?_)
  refine AW_seq ?_
  refine AW_region ?_
  refine AL_p (x_box 100 rfl rfl rfl rfl rfl rfl rfl) ?_
  refine AL_p (x_assign rfl rfl) ?_
  refine AL_nil ?_
  refine AW_seq ?_
  refine AW_region ?_
  refine AL_p (x_move rfl rfl) ?_
  refine AL_p (x_field (off := 0) (o' := 0) rfl rfl rfl (by kernel_rfl) rfl) ?_
  refine AL_p (x_load1 rfl rfl rfl (by kernel_rfl) rfl) ?_
  refine AL_p (x_lens rfl rfl (by kernel_rfl)) ?_
  refine AL_p (x_sub rfl rfl rfl (IntWalk.i64_in _ (by omega))) ?_
  refine AL_p (x_assign rfl rfl) ?_
  refine AL_nil ?_
  refine AW_seq ?_
  refine AW_seq ?_
  refine AW_region ?_
  refine AL_p (x_move rfl rfl) ?_
  refine AL_b (x_lss rfl rfl rfl) (fun b11 h11 => ?_)
  refine AL_nil ?_
  cases b11
  rotate_left
  · try simp only [decide_eq_true_eq, decide_eq_false_iff_not, Bool.not_eq_true, Bool.not_eq_false, Bool.not_eq_true', Bool.not_eq_false', beq_iff_eq, bne_iff_ne, beq_eq_false_iff_ne, bne_eq_false_iff_eq, Int.not_lt, Int.not_le, ge_iff_le, gt_iff_lt] at h11
    refine AW_condT rfl ?_
    refine AW_seq ?_
    refine AW_region ?_
    refine AL_p (x_assign rfl rfl) ?_
    refine AL_nil ?_
    refine AW_ret ?_
    exact ⟨rn [], ⟨⟨⟨_, rfl, vle_int (by first | (simp only [totChange]; unfold szR; omega) | (simp only [totChange]; done))⟩, trivial⟩, trivial, trivial, rfl⟩⟩
  · try simp only [decide_eq_true_eq, decide_eq_false_iff_not, Bool.not_eq_true, Bool.not_eq_false, Bool.not_eq_true', Bool.not_eq_false', beq_iff_eq, bne_iff_ne, beq_eq_false_iff_ne, bne_eq_false_iff_eq, Int.not_lt, Int.not_le, ge_iff_le, gt_iff_lt] at h11
    refine AW_condF rfl ?_
    refine AW_skip ?_
    refine AW_seq ?_
    refine AW_region ?_
    refine AL_p (x_field (off := 1) (o' := 1) rfl rfl rfl (by kernel_rfl) rfl) ?_
    refine AL_p (x_loadN (n := 2) rfl rfl rfl (by kernel_rfl) rfl rfl) ?_
    refine AL_p (x_move rfl rfl) ?_
    refine AL_p (x_call0 rfl rfl rfl (szRel_c _ _ (by omega) (by omega)) rfl rfl) ?_
    refine AL_p (x_assign rfl rfl) ?_
    refine AL_nil ?_
    refine AW_seq ?_
    refine AW_seq ?_
    refine AW_region ?_
    refine AL_p (x_move rfl rfl) ?_
    refine AL_b (x_lss rfl rfl rfl) (fun b17 h17 => ?_)
    refine AL_nil ?_
    cases b17
    rotate_left
    · try simp only [decide_eq_true_eq, decide_eq_false_iff_not, Bool.not_eq_true, Bool.not_eq_false, Bool.not_eq_true', Bool.not_eq_false', beq_iff_eq, bne_iff_ne, beq_eq_false_iff_ne, bne_eq_false_iff_eq, Int.not_lt, Int.not_le, ge_iff_le, gt_iff_lt] at h17
      have g17 := szR_neg h17
      refine AW_condT rfl ?_
      refine AW_seq ?_
      refine AW_region ?_
      refine AL_p (x_assign rfl rfl) ?_
      refine AL_nil ?_
      refine AW_ret ?_
      exact ⟨rn [], ⟨⟨⟨_, rfl, vle_int (by first | (simp only [totChange]; unfold szR; omega) | (simp only [totChange]; done))⟩, trivial⟩, trivial, trivial, rfl⟩⟩
    · try simp only [decide_eq_true_eq, decide_eq_false_iff_not, Bool.not_eq_true, Bool.not_eq_false, Bool.not_eq_true', Bool.not_eq_false', beq_iff_eq, bne_iff_ne, beq_eq_false_iff_ne, bne_eq_false_iff_eq, Int.not_lt, Int.not_le, ge_iff_le, gt_iff_lt] at h17
      have f17 := (szR_nonneg h17).1
      have e17 := (szR_nonneg h17).2
      refine AW_condF rfl ?_
      refine AW_skip ?_
      refine AW_seq ?_
      refine AW_region ?_
      refine AL_p (x_field (off := 3) (o' := 3) rfl rfl rfl (by kernel_rfl) rfl) ?_
      refine AL_p (x_loadN (n := 2) rfl rfl rfl (by kernel_rfl) rfl rfl) ?_
      refine AL_p (x_move rfl rfl) ?_
      refine AL_p (x_call0 rfl rfl rfl (szRel_c _ _ (by omega) (by omega)) rfl rfl) ?_
      refine AL_p (x_assign rfl rfl) ?_
      refine AL_nil ?_
      refine AW_seq ?_
      refine AW_seq ?_
      refine AW_region ?_
      refine AL_p (x_move rfl rfl) ?_
      refine AL_b (x_lss rfl rfl rfl) (fun b23 h23 => ?_)
      refine AL_nil ?_
      cases b23
      rotate_left
      · try simp only [decide_eq_true_eq, decide_eq_false_iff_not, Bool.not_eq_true, Bool.not_eq_false, Bool.not_eq_true', Bool.not_eq_false', beq_iff_eq, bne_iff_ne, beq_eq_false_iff_ne, bne_eq_false_iff_eq, Int.not_lt, Int.not_le, ge_iff_le, gt_iff_lt] at h23
        have g23 := szR_neg h23
        refine AW_condT rfl ?_
        refine AW_seq ?_
        refine AW_region ?_
        refine AL_p (x_assign rfl rfl) ?_
        refine AL_nil ?_
        refine AW_ret ?_
        exact ⟨rn [], ⟨⟨⟨_, rfl, vle_int (by first | (simp only [totChange]; unfold szR; omega) | (simp only [totChange]; done))⟩, trivial⟩, trivial, trivial, rfl⟩⟩
      · try simp only [decide_eq_true_eq, decide_eq_false_iff_not, Bool.not_eq_true, Bool.not_eq_false, Bool.not_eq_true', Bool.not_eq_false', beq_iff_eq, bne_iff_ne, beq_eq_false_iff_ne, bne_eq_false_iff_eq, Int.not_lt, Int.not_le, ge_iff_le, gt_iff_lt] at h23
        have f23 := (szR_nonneg h23).1
        have e23 := (szR_nonneg h23).2
        refine AW_condF rfl ?_
        refine AW_skip ?_
        refine AW_seq ?_
        refine AW_region ?_
        refine AL_p (x_move rfl rfl) ?_
        refine AL_p (x_assign rfl rfl) ?_
        refine AL_nil ?_
        refine AW_ret ?_
        exact ⟨rn [], ⟨⟨⟨_, rfl, vle_int (by first | (simp only [totChange]; unfold szR; omega) | (simp only [totChange]; done))⟩, trivial⟩, trivial, trivial, rfl⟩⟩

set_option maxHeartbeats 4000000 in
theorem eqChange_c (x : Changet) : AC Try.prog 132 [.agg (changeC x), .agg (changeC x)] [] (.one (.c (.bool true))) [] := by
  refine AC_body1 Try.func132 rfl rfl Try.ntmps132 rfl Try.results132 ?_
  refine AW_seq ?_
  refine AW_region ?_
  refine AL_p (x_box 100 rfl rfl rfl rfl rfl rfl rfl) ?_
  refine AL_p (x_box 101 rfl rfl rfl rfl rfl rfl rfl) ?_
  refine AL_p (x_assign rfl rfl) ?_
  refine AL_nil ?_
  refine AW_seq ?_
  refine AW_seq ?_
  refine AW_region ?_
  refine AL_p (x_field (off := 0) (o' := 0) rfl rfl rfl (by kernel_rfl) rfl) ?_
  refine AL_p (x_load1 rfl rfl rfl (by kernel_rfl) rfl) ?_
  refine AL_p (x_field (off := 0) (o' := 0) rfl rfl rfl (by kernel_rfl) rfl) ?_
  refine AL_p (x_load1 rfl rfl rfl (by kernel_rfl) rfl) ?_
  refine AL_b (x_sneq rfl rfl rfl) (fun b9 h9 => ?_)
  refine AL_nil ?_
  cases b9
  rotate_left
  · exfalso; simp [ba_beq_self] at h9
  · try simp only [decide_eq_true_eq, decide_eq_false_iff_not, Bool.not_eq_true, Bool.not_eq_false, Bool.not_eq_true', Bool.not_eq_false', beq_iff_eq, bne_iff_ne, beq_eq_false_iff_ne, bne_eq_false_iff_eq, Int.not_lt, Int.not_le, ge_iff_le, gt_iff_lt] at h9
    refine AW_condF rfl ?_
    refine AW_skip ?_
    refine AW_seq ?_
    refine AW_seq ?_
    refine AW_region ?_
    refine AL_p (x_field (off := 1) (o' := 1) rfl rfl rfl (by kernel_rfl) rfl) ?_
    refine AL_p (x_loadN (n := 2) rfl rfl rfl (by kernel_rfl) rfl rfl) ?_
    refine AL_p (x_field (off := 1) (o' := 1) rfl rfl rfl (by kernel_rfl) rfl) ?_
    refine AL_p (x_loadN (n := 2) rfl rfl rfl (by kernel_rfl) rfl rfl) ?_
    refine AL_p (x_call0 rfl rfl rfl (eqRel_c _) rfl rfl) ?_
    refine AL_p (x_not rfl rfl) ?_
    refine AL_nil ?_
    refine AW_condF rfl ?_
    refine AW_skip ?_
    refine AW_seq ?_
    refine AW_seq ?_
    refine AW_region ?_
    refine AL_p (x_field (off := 3) (o' := 3) rfl rfl rfl (by kernel_rfl) rfl) ?_
    refine AL_p (x_loadN (n := 2) rfl rfl rfl (by kernel_rfl) rfl rfl) ?_
    refine AL_p (x_field (off := 3) (o' := 3) rfl rfl rfl (by kernel_rfl) rfl) ?_
    refine AL_p (x_loadN (n := 2) rfl rfl rfl (by kernel_rfl) rfl rfl) ?_
    refine AL_p (x_call0 rfl rfl rfl (eqRel_c _) rfl rfl) ?_
    refine AL_p (x_not rfl rfl) ?_
    refine AL_nil ?_
    refine AW_condF rfl ?_
    refine AW_skip ?_
    refine AW_seq ?_
    refine AW_region ?_
    refine AL_p (x_assign rfl rfl) ?_
    refine AL_nil ?_
    refine AW_ret ?_
    exact ⟨rn [], ⟨⟨⟨_, rfl, vle_bool (rfl)⟩, trivial⟩, trivial, trivial, rfl⟩⟩

set_option maxHeartbeats 4000000 in
theorem toChange_c (x : Changet) (hs : smallChange x) : AC Try.prog 129 [.agg (changeC x)] [] (.agg [.c (.string x.name), .c (.int .i64 x.plus.arity), .own 0, .c (.int .i64 x.minus.arity), .own 1]) [(0, some (.arr 92 rowE x.plus.rows true)), (1, some (.arr 92 rowE x.minus.rows true))] := by
  refine AC_bodyC (n := 5) (k := 9) (T := [(2, .one (.ptr 9 0))]) (Lf := ((9, some (.box [.c (.string x.name), .c (.int .i64 x.plus.arity), .own 0, .c (.int .i64 x.minus.arity), .own 1])) :: [(0, some (.arr 92 rowE x.plus.rows true)), (1, some (.arr 92 rowE x.minus.rows true))])) Try.func129 rfl rfl Try.ntmps129 rfl Try.results129 rfl rfl (by kernel_rfl) rfl rfl ⟨trivial, (by repeat (first | exact trivial | refine ⟨⟨_, rfl, BLe.rf⟩, ?_⟩)), (by repeat (first | exact trivial | refine ⟨⟨rfl, by first | (left; intro h; cases h) | (right; rfl), fun _ h => ⟨_, h⟩⟩, ?_⟩)), rfl⟩ ?_
  refine AW_seq ?_
  refine AW_region ?_
  refine AL_p (x_box 100 rfl rfl rfl rfl rfl rfl rfl) ?_
  refine AL_p (x_alloc (z := .agg #[.string ⟨#[]⟩, .int .i64 0, .slice none 0 0, .int .i64 0, .slice none 0 0]) 101 rfl (by kernel_rfl) rfl rfl rfl rfl) ?_
  refine AL_nil ?_
  refine AW_seq ?_
  refine AW_region ?_
  refine AL_p (x_alloc (z := .agg #[.string ⟨#[]⟩, .int .i64 0, .slice none 0 0, .int .i64 0, .slice none 0 0]) 102 rfl (by kernel_rfl) rfl rfl rfl rfl) ?_
  refine AL_nil ?_
  refine AW_seq ?_
  refine AW_region ?_
  refine AL_p (x_field (off := 0) (o' := 0) rfl rfl rfl (by kernel_rfl) rfl) ?_
  refine AL_p (x_load1 rfl rfl rfl (by kernel_rfl) rfl) ?_
  refine AL_p (x_field (off := 0) (o' := 0) rfl rfl rfl (by kernel_rfl) rfl) ?_
  refine AL_p (x_store (n := 1) rfl rfl rfl rfl (by kernel_rfl) rfl rfl rfl) ?_
  refine AL_nil ?_
  refine AW_seq ?_
  refine AW_region ?_
  refine AL_p (x_field (off := 1) (o' := 1) rfl rfl rfl (by kernel_rfl) rfl) ?_
  refine AL_p (x_loadN (n := 2) rfl rfl rfl (by kernel_rfl) rfl rfl) ?_
  refine AL_p (x_callR rfl rfl rfl (toRel_c x.plus hs.2.1 103) rfl AllV.rf rfl rfl rfl rfl rfl) ?_
  refine AL_p (x_field (off := 1) (o' := 1) rfl rfl rfl (by kernel_rfl) rfl) ?_
  refine AL_p (x_store (n := 2) rfl rfl rfl rfl (by kernel_rfl) rfl rfl rfl) ?_
  refine AL_nil ?_
  refine AW_seq ?_
  refine AW_region ?_
  refine AL_p (x_field (off := 3) (o' := 3) rfl rfl rfl (by kernel_rfl) rfl) ?_
  refine AL_p (x_loadN (n := 2) rfl rfl rfl (by kernel_rfl) rfl rfl) ?_
  refine AL_p (x_callR rfl rfl rfl (toRel_c x.minus hs.2.2 104) rfl AllV.rf rfl rfl rfl rfl rfl) ?_
  refine AL_p (x_field (off := 3) (o' := 3) rfl rfl rfl (by kernel_rfl) rfl) ?_
  refine AL_p (x_store (n := 2) rfl rfl rfl rfl (by kernel_rfl) rfl rfl rfl) ?_
  refine AL_nil ?_
  refine AW_seq ?_
  refine AW_region ?_
  refine AL_p (x_loadN (n := 5) rfl rfl rfl (by kernel_rfl) rfl rfl) ?_
  refine AL_p (x_store (n := 5) rfl rfl rfl rfl (by kernel_rfl) rfl rfl rfl) ?_
  refine AL_nil ?_
  refine AW_ret ?_
  exact ⟨rn [(9, 101), (0, 103), (1, 104)], ⟨⟨⟨_, rfl, VLe.rf⟩, trivial⟩, ⟨⟨_, rfl, BLe.rf⟩, ⟨_, rfl, BLe.rf⟩, ⟨_, rfl, BLe.rf⟩, trivial⟩, trivial, rfl⟩⟩

set_option maxHeartbeats 4000000 in
theorem szChangeS_c (xs : List (Changet)) (left : Int) (l0 : 0 ≤ left) (l1 : left ≤ 1048576) : AC Try.prog 84 [.one (.sl changeE xs), .one (.c (.int .i64 left))] [] (.one (.c (.int .i64 (szR (totL totChange xs) left)))) [] := by
  refine AC_body1 Try.func84 rfl rfl Try.ntmps84 rfl Try.results84 ?_
  refine AW_slmax 0 rfl (fun hm0 => ?_)
  refine AW_seq ?_
  refine AW_region ?_
  refine AL_p (x_assign rfl rfl) ?_
  refine AL_nil ?_
  refine AW_seq ?_
  refine AW_region ?_
  refine AL_p (x_move rfl rfl) ?_
  refine AL_p (x_move rfl rfl) ?_
  refine AL_p (x_len (E := 150) (n := 5) rfl rfl (by kernel_rfl)) ?_
  refine AL_p (x_sub rfl rfl rfl (IntWalk.i64_in _ (by omega))) ?_
  refine AL_p (x_assign rfl rfl) ?_
  refine AL_nil ?_
  refine AW_seq ?_
  refine AW_seq ?_
  refine AW_region ?_
  refine AL_p (x_move rfl rfl) ?_
  refine AL_b (x_lss rfl rfl rfl) (fun b11 h11 => ?_)
  refine AL_nil ?_
  cases b11
  rotate_left
  · try simp only [decide_eq_true_eq, decide_eq_false_iff_not, Bool.not_eq_true, Bool.not_eq_false, Bool.not_eq_true', Bool.not_eq_false', beq_iff_eq, bne_iff_ne, beq_eq_false_iff_ne, bne_eq_false_iff_eq, Int.not_lt, Int.not_le, ge_iff_le, gt_iff_lt] at h11
    refine AW_condT rfl ?_
    refine AW_seq ?_
    refine AW_region ?_
    refine AL_p (x_assign rfl rfl) ?_
    refine AL_nil ?_
    refine AW_ret ?_
    exact ⟨rn [], ⟨⟨⟨_, rfl, vle_int (by first | (simp only [totL]; unfold szR; omega) | (simp only [totL]; done))⟩, trivial⟩, trivial, trivial, rfl⟩⟩
  · try simp only [decide_eq_true_eq, decide_eq_false_iff_not, Bool.not_eq_true, Bool.not_eq_false, Bool.not_eq_true', Bool.not_eq_false', beq_iff_eq, bne_iff_ne, beq_eq_false_iff_ne, bne_eq_false_iff_eq, Int.not_lt, Int.not_le, ge_iff_le, gt_iff_lt] at h11
    refine AW_condF rfl ?_
    refine AW_skip ?_
    refine AW_seq ?_
    refine AW_seq ?_
    refine AW_region ?_
    refine AL_p (x_assign rfl rfl) ?_
    refine AL_nil ?_
    refine AW_block ?_
    refine AW_loop2 (ι := {q : Nat // q ≤ xs.length ∧ ((cntL totChange (xs.take q) : Nat) : Int) ≤ left - (xs.length : Int)}) (fun p => [(1, .one (.c (.int .i64 (left - (xs.length : Int) - ((cntL totChange (xs.take (p.1)) : Nat) : Int))))), (5, .one (.c (.int .i64 ((p.1) : Int))))]) (fun p => []) [0] [] (fun p => xs.length - (p.1)) ⟨0, ⟨by omega, by first | (simp [cntL]; done) | (simp [cntL]; try omega)⟩⟩ (rn []) ?_ ?_
    exact ⟨by (repeat refine ⟨⟨_, rfl, by first | exact VLe.rf | exact vle_int (by dsimp only; omega) | exact vle_int (by first | (simp [cntL]; done) | (simp [cntL]; try omega))⟩, ?_⟩); exact trivial, by (repeat refine ⟨⟨_, rfl, by first | exact BLe.rf | exact BLe.box AllC.rf | exact BLe.arr (by exact rfl)⟩, ?_⟩); exact trivial, by repeat (first | exact trivial | refine ⟨⟨rfl, by first | (left; intro h; cases h) | (right; rfl), fun _ h => ⟨_, h⟩⟩, ?_⟩), rfl⟩
    rintro ⟨k, hinv⟩
    dsimp only
    obtain ⟨hk, hc⟩ := hinv
    refine AW_seq ?_
    refine AW_seq ?_
    refine AW_region ?_
    refine AL_p (x_move rfl rfl) ?_
    refine AL_p (x_move rfl rfl) ?_
    refine AL_p (x_len (E := 150) (n := 5) rfl rfl (by kernel_rfl)) ?_
    refine AL_b (x_lss rfl rfl rfl) (fun b15 h15 => ?_)
    refine AL_nil ?_
    cases b15
    rotate_left
    · try simp only [decide_eq_true_eq, decide_eq_false_iff_not, Bool.not_eq_true, Bool.not_eq_false, Bool.not_eq_true', Bool.not_eq_false', beq_iff_eq, bne_iff_ne, beq_eq_false_iff_ne, bne_eq_false_iff_eq, Int.not_lt, Int.not_le, ge_iff_le, gt_iff_lt] at h15
      have hlt : k < xs.length := by omega
      have hs := cntL_snoc (c := totChange) hlt
      have ht := cntL_take (c := totChange) hlt
      refine AW_condT rfl ?_
      refine AW_skip ?_
      refine AW_seq ?_
      refine AW_block ?_
      refine AW_seq ?_
      refine AW_region ?_
      refine AL_p (x_move rfl rfl) ?_
      refine AL_p (x_move rfl rfl) ?_
      refine AL_p (x_index (E := 150) (n := 5) rfl rfl rfl (by kernel_rfl) rfl (k := k) (by omega) (by omega)) ?_
      refine AL_p (x_eloadW (n := 5) rfl rfl (by kernel_rfl) rfl) ?_
      refine AL_p (x_move rfl rfl) ?_
      refine AL_p (x_call0 rfl rfl rfl (szChange_c _ _ (by omega) (by omega)) rfl rfl) ?_
      refine AL_p (x_assign rfl rfl) ?_
      refine AL_nil ?_
      refine AW_seq ?_
      refine AW_region ?_
      refine AL_p (x_move rfl rfl) ?_
      refine AL_b (x_lss rfl rfl rfl) (fun b25 h25 => ?_)
      refine AL_nil ?_
      cases b25
      rotate_left
      · try simp only [decide_eq_true_eq, decide_eq_false_iff_not, Bool.not_eq_true, Bool.not_eq_false, Bool.not_eq_true', Bool.not_eq_false', beq_iff_eq, bne_iff_ne, beq_eq_false_iff_ne, bne_eq_false_iff_eq, Int.not_lt, Int.not_le, ge_iff_le, gt_iff_lt] at h25
        have g25 := szR_neg h25
        refine AW_condT rfl ?_
        refine AW_seq ?_
        refine AW_region ?_
        refine AL_p (x_assign rfl rfl) ?_
        refine AL_nil ?_
        refine AW_ret (BQ_ret (BQ_ret ?_))
        exact ⟨rn [], ⟨⟨⟨_, rfl, vle_int (by first | (simp only [totL]; unfold szR; omega) | (simp only [totL]; done))⟩, trivial⟩, trivial, trivial, rfl⟩⟩
      · try simp only [decide_eq_true_eq, decide_eq_false_iff_not, Bool.not_eq_true, Bool.not_eq_false, Bool.not_eq_true', Bool.not_eq_false', beq_iff_eq, bne_iff_ne, beq_eq_false_iff_ne, bne_eq_false_iff_eq, Int.not_lt, Int.not_le, ge_iff_le, gt_iff_lt] at h25
        have f25 := (szR_nonneg h25).1
        have e25 := (szR_nonneg h25).2
        refine AW_condF rfl ?_
        refine AW_skip ?_
        refine AW_region ?_
        refine AL_p (x_move rfl rfl) ?_
        refine AL_p (x_add rfl rfl rfl (IntWalk.i64_in _ (by omega))) ?_
        refine AL_p (x_assign rfl rfl) ?_
        refine AL_nil ?_
        refine ⟨⟨k + 1, ⟨by omega, by omega⟩⟩, rn [], ?_, by dsimp only; omega⟩
        exact ⟨by (repeat refine ⟨⟨_, rfl, by first | exact VLe.rf | exact vle_int (by dsimp only; omega) | exact vle_int (by first | (simp [cntL]; done) | (simp [cntL]; try omega))⟩, ?_⟩); exact trivial, by (repeat refine ⟨⟨_, rfl, by first | exact BLe.rf | exact BLe.box AllC.rf | exact BLe.arr (by exact rfl)⟩, ?_⟩); exact trivial, by repeat (first | exact trivial | refine ⟨⟨rfl, by first | (left; intro h; cases h) | (right; rfl), fun _ h => ⟨_, h⟩⟩, ?_⟩), rfl⟩
    · try simp only [decide_eq_true_eq, decide_eq_false_iff_not, Bool.not_eq_true, Bool.not_eq_false, Bool.not_eq_true', Bool.not_eq_false', beq_iff_eq, bne_iff_ne, beq_eq_false_iff_ne, bne_eq_false_iff_eq, Int.not_lt, Int.not_le, ge_iff_le, gt_iff_lt] at h15
      have ha := cntL_all (c := totChange) (xs := xs) (k := k) (by omega)
      refine AW_condF rfl ?_
      refine AW_exit (BQ_hit ?_)
      refine AW_seq ?_
      refine AW_region ?_
      refine AL_p (x_move rfl rfl) ?_
      refine AL_p (x_assign rfl rfl) ?_
      refine AL_nil ?_
      refine AW_ret ?_
      exact ⟨rn [], ⟨⟨⟨_, rfl, vle_int (by first | (simp only [totL]; unfold szR; omega) | (simp only [totL]; done))⟩, trivial⟩, trivial, trivial, rfl⟩⟩

set_option maxHeartbeats 4000000 in
theorem eqChangeS_c (xs : List (Changet)) : AC Try.prog 88 [.one (.sl changeE xs), .one (.sl changeE xs)] [] (.one (.c (.bool true))) [] := by
  refine AC_body1 Try.func88 rfl rfl Try.ntmps88 rfl Try.results88 ?_
  refine AW_slmax 0 rfl (fun hm0 => ?_)
  refine AW_seq ?_
  refine AW_region ?_
  refine AL_p (x_assign rfl rfl) ?_
  refine AL_nil ?_
  refine AW_seq ?_
  refine AW_seq ?_
  refine AW_region ?_
  refine AL_p (x_move rfl rfl) ?_
  refine AL_p (x_len (E := 113) (n := 5) rfl rfl (by kernel_rfl)) ?_
  refine AL_p (x_move rfl rfl) ?_
  refine AL_p (x_len (E := 113) (n := 5) rfl rfl (by kernel_rfl)) ?_
  refine AL_b (x_neq rfl rfl rfl) (fun b10 h10 => ?_)
  refine AL_nil ?_
  cases b10
  rotate_left
  · exfalso; simp [ba_beq_self] at h10
  · try simp only [decide_eq_true_eq, decide_eq_false_iff_not, Bool.not_eq_true, Bool.not_eq_false, Bool.not_eq_true', Bool.not_eq_false', beq_iff_eq, bne_iff_ne, beq_eq_false_iff_ne, bne_eq_false_iff_eq, Int.not_lt, Int.not_le, ge_iff_le, gt_iff_lt] at h10
    refine AW_condF rfl ?_
    refine AW_skip ?_
    refine AW_seq ?_
    refine AW_seq ?_
    refine AW_region ?_
    refine AL_p (x_assign rfl rfl) ?_
    refine AL_nil ?_
    refine AW_block ?_
    refine AW_loop2 (ι := {q : Nat // q ≤ xs.length}) (fun p => [(5, .one (.c (.int .i64 ((p.1) : Int))))]) (fun p => []) [0, 1] [] (fun p => xs.length - (p.1)) ⟨0, by omega⟩ (rn []) ?_ ?_
    exact ⟨by (repeat refine ⟨⟨_, rfl, by first | exact VLe.rf | exact vle_int (by dsimp only; omega)⟩, ?_⟩); exact trivial, by (repeat refine ⟨⟨_, rfl, by first | exact BLe.rf | exact BLe.box AllC.rf | exact BLe.arr (by exact rfl)⟩, ?_⟩); exact trivial, by repeat (first | exact trivial | refine ⟨⟨rfl, by first | (left; intro h; cases h) | (right; rfl), fun _ h => ⟨_, h⟩⟩, ?_⟩), rfl⟩
    rintro ⟨k, hinv⟩
    dsimp only
    refine AW_seq ?_
    refine AW_seq ?_
    refine AW_region ?_
    refine AL_p (x_move rfl rfl) ?_
    refine AL_p (x_move rfl rfl) ?_
    refine AL_p (x_len (E := 113) (n := 5) rfl rfl (by kernel_rfl)) ?_
    refine AL_b (x_lss rfl rfl rfl) (fun b14 h14 => ?_)
    refine AL_nil ?_
    cases b14
    rotate_left
    · try simp only [decide_eq_true_eq, decide_eq_false_iff_not, Bool.not_eq_true, Bool.not_eq_false, Bool.not_eq_true', Bool.not_eq_false', beq_iff_eq, bne_iff_ne, beq_eq_false_iff_ne, bne_eq_false_iff_eq, Int.not_lt, Int.not_le, ge_iff_le, gt_iff_lt] at h14
      refine AW_condT rfl ?_
      refine AW_skip ?_
      refine AW_seq ?_
      refine AW_block ?_
      refine AW_seq ?_
      refine AW_draw rfl ?_
      refine AL_p (x_move rfl rfl) ?_
      refine AL_p (x_move rfl rfl) ?_
      refine AL_p (x_index (E := 113) (n := 5) rfl rfl rfl (by kernel_rfl) rfl (k := k) (by omega) (by omega)) ?_
      refine AL_p (x_eloadW (n := 5) rfl rfl (by kernel_rfl) rfl) ?_
      refine AL_p (x_move rfl rfl) ?_
      refine AL_p (x_move rfl rfl) ?_
      refine AL_p (x_index (E := 113) (n := 5) rfl rfl rfl (by kernel_rfl) rfl (k := k) (by omega) (by omega)) ?_
      refine AL_p (x_eloadW (n := 5) rfl rfl (by kernel_rfl) rfl) ?_
      refine AL_p (x_call0 rfl rfl rfl (eqChange_c _) rfl rfl) ?_
      refine AL_p (x_not rfl rfl) ?_
      refine AL_nild (by kernel_rfl) ?_
      refine AW_condF rfl ?_
      refine AW_skip ?_
      refine AW_region ?_
      refine AL_p (x_move rfl rfl) ?_
      refine AL_p (x_add rfl rfl rfl (IntWalk.i64_in _ (by omega))) ?_
      refine AL_p (x_assign rfl rfl) ?_
      refine AL_nil ?_
      refine ⟨⟨k + 1, by omega⟩, rn [], ?_, by dsimp only; omega⟩
      exact ⟨by (repeat refine ⟨⟨_, rfl, by first | exact VLe.rf | exact vle_int (by dsimp only; omega)⟩, ?_⟩); exact trivial, by (repeat refine ⟨⟨_, rfl, by first | exact BLe.rf | exact BLe.box AllC.rf | exact BLe.arr (by exact rfl)⟩, ?_⟩); exact trivial, by repeat (first | exact trivial | refine ⟨⟨rfl, by first | (left; intro h; cases h) | (right; rfl), fun _ h => ⟨_, h⟩⟩, ?_⟩), rfl⟩
    · try simp only [decide_eq_true_eq, decide_eq_false_iff_not, Bool.not_eq_true, Bool.not_eq_false, Bool.not_eq_true', Bool.not_eq_false', beq_iff_eq, bne_iff_ne, beq_eq_false_iff_ne, bne_eq_false_iff_eq, Int.not_lt, Int.not_le, ge_iff_le, gt_iff_lt] at h14
      refine AW_condF rfl ?_
      refine AW_exit (BQ_hit ?_)
      refine AW_seq ?_
      refine AW_region ?_
      refine AL_p (x_assign rfl rfl) ?_
      refine AL_nil ?_
      refine AW_ret ?_
      exact ⟨rn [], ⟨⟨⟨_, rfl, vle_bool (rfl)⟩, trivial⟩, trivial, trivial, rfl⟩⟩

set_option maxHeartbeats 4000000 in
theorem toChangeS_c0 (xs : List (Changet)) (hs : xs.length ≤ 1048576 ∧ ∀ y ∈ xs, smallChange y) : AC Try.prog 86 [.one (.sl changeE xs)] [] (.one (.own 0)) [(0, some (.arr 113 changeE xs true))] := by
  refine AC_body1 Try.func86 rfl rfl Try.ntmps86 rfl Try.results86 ?_
  refine AW_seq ?_
  refine AW_region ?_
  refine AL_p (x_assign rfl rfl) ?_
  refine AL_nil ?_
  refine AW_seq ?_
  refine AW_region ?_
  refine AL_p (x_move rfl rfl) ?_
  refine AL_p (x_len (E := 150) (n := 5) rfl rfl (by kernel_rfl)) ?_
  refine AL_p (x_make (T := 63) (E := 113) (e := changeE) ((⟨⟨#[]⟩, ⟨0, []⟩, ⟨0, []⟩⟩ : Changet)) (z := .agg #[.string ⟨#[]⟩, .int .i64 0, .slice none 0 0, .int .i64 0, .slice none 0 0]) 100 rfl rfl rfl (by kernel_rfl) rfl ⟨.inl rfl, .inl rfl, .inr ⟨rfl, _, _, rfl⟩, .inl rfl, .inr ⟨rfl, _, _, rfl⟩, trivial⟩ rfl rfl (by kernel_rfl) (by have := hs.1; omega)) ?_
  refine AL_p (x_assign rfl rfl) ?_
  refine AL_nil ?_
  refine AW_seq ?_
  refine AW_seq ?_
  refine AW_region ?_
  refine AL_p (x_assign rfl rfl) ?_
  refine AL_nil ?_
  refine AW_block ?_
  refine AW_loop2 (ι := {q : Nat // q ≤ xs.length}) (fun p => [(4, .one (.c (.int .i64 ((p.1) : Int))))]) (fun p => [(100, some (.arr 113 changeE (filledTo xs ((⟨⟨#[]⟩, ⟨0, []⟩, ⟨0, []⟩⟩ : Changet)) (p.1)) true))]) [0, 3] [] (fun p => xs.length - (p.1)) ⟨0, by omega⟩ (rn []) ?_ ?_
  exact ⟨by (repeat refine ⟨⟨_, rfl, by first | exact VLe.rf | exact vle_int (by dsimp only; omega)⟩, ?_⟩); exact trivial, by (repeat refine ⟨⟨_, rfl, by first | exact BLe.rf | exact BLe.box AllC.rf | exact BLe.arr (by first | exact filledTo_zero | exact filledTo_succ (by omega))⟩, ?_⟩); exact trivial, by repeat (first | exact trivial | refine ⟨⟨rfl, by first | (left; intro h; cases h) | (right; rfl), fun _ h => ⟨_, h⟩⟩, ?_⟩), rfl⟩
  rintro ⟨k, hinv⟩
  dsimp only
  have hlen := hs.1
  refine AW_seq ?_
  refine AW_seq ?_
  refine AW_region ?_
  refine AL_p (x_move rfl rfl) ?_
  refine AL_p (x_move rfl rfl) ?_
  refine AL_p (x_len (E := 150) (n := 5) rfl rfl (by kernel_rfl)) ?_
  refine AL_b (x_lss rfl rfl rfl) (fun b11 h11 => ?_)
  refine AL_nil ?_
  cases b11
  rotate_left
  · try simp only [decide_eq_true_eq, decide_eq_false_iff_not, Bool.not_eq_true, Bool.not_eq_false, Bool.not_eq_true', Bool.not_eq_false', beq_iff_eq, bne_iff_ne, beq_eq_false_iff_ne, bne_eq_false_iff_eq, Int.not_lt, Int.not_le, ge_iff_le, gt_iff_lt] at h11
    refine AW_condT rfl ?_
    refine AW_skip ?_
    refine AW_seq ?_
    refine AW_block ?_
    refine AW_region ?_
    refine AL_p (x_move rfl rfl) ?_
    refine AL_p (x_move rfl rfl) ?_
    refine AL_p (x_move rfl rfl) ?_
    refine AL_p (x_move rfl rfl) ?_
    refine AL_p (x_index (E := 150) (n := 5) rfl rfl rfl (by kernel_rfl) rfl (k := k) (by omega) (by omega)) ?_
    refine AL_p (x_eloadW (n := 5) rfl rfl (by kernel_rfl) rfl) ?_
    refine AL_p (x_callR rfl rfl rfl ((AC.renum (res := .agg [.c (.string (xs[k]'(by omega)).name), .c (.int .i64 (xs[k]'(by omega)).plus.arity), .own 101, .c (.int .i64 (xs[k]'(by omega)).minus.arity), .own 102]) (L := [(101, some (.arr 92 rowE (xs[k]'(by omega)).plus.rows true)), (102, some (.arr 92 rowE (xs[k]'(by omega)).minus.rows true))]) (r := rn [(101, 0), (102, 1)]) (toChange_c (xs[k]'(by omega)) (hs.2 _ (List.getElem_mem _))) ⟨⟨_, rfl, BLe.rf⟩, ⟨_, rfl, BLe.rf⟩, trivial⟩ rfl)) rfl AllV.rf rfl rfl rfl rfl rfl) ?_
    refine AL_p (x_oindex (n := 5) rfl rfl rfl rfl (by kernel_rfl) rfl (k := k) rfl (by rw [filledTo_len (by omega)]; omega)) ?_
    refine AL_p (x_ostore (xs[k]'(by omega)) rfl rfl rfl rfl (by kernel_rfl) rfl rfl rfl rfl FitL.rf rfl rfl (by first | omega | (rw [filledTo_len (by omega)]; omega) | (simp; omega))) ?_
    refine AL_nil ?_
    refine AW_region ?_
    refine AL_p (x_move rfl rfl) ?_
    refine AL_p (x_add rfl rfl rfl (IntWalk.i64_in _ (by omega))) ?_
    refine AL_p (x_assign rfl rfl) ?_
    refine AL_nil ?_
    refine ⟨⟨k + 1, by omega⟩, rn [], ?_, by dsimp only; omega⟩
    exact ⟨by (repeat refine ⟨⟨_, rfl, by first | exact VLe.rf | exact vle_int (by dsimp only; omega)⟩, ?_⟩); exact trivial, by (repeat refine ⟨⟨_, rfl, by first | exact BLe.rf | exact BLe.box AllC.rf | exact BLe.arr (by first | exact filledTo_zero | exact filledTo_succ (by omega))⟩, ?_⟩); exact trivial, by repeat (first | exact trivial | refine ⟨⟨rfl, by first | (left; intro h; cases h) | (right; rfl), fun _ h => ⟨_, h⟩⟩, ?_⟩), rfl⟩
  · try simp only [decide_eq_true_eq, decide_eq_false_iff_not, Bool.not_eq_true, Bool.not_eq_false, Bool.not_eq_true', Bool.not_eq_false', beq_iff_eq, bne_iff_ne, beq_eq_false_iff_ne, bne_eq_false_iff_eq, Int.not_lt, Int.not_le, ge_iff_le, gt_iff_lt] at h11
    refine AW_condF rfl ?_
    refine AW_exit (BQ_hit ?_)
    refine AW_seq ?_
    refine AW_region ?_
    refine AL_p (x_move rfl rfl) ?_
    refine AL_p (x_assign rfl rfl) ?_
    refine AL_nil ?_
    refine AW_ret ?_
    exact ⟨rn [(0, 100)], ⟨⟨⟨_, rfl, VLe.rf⟩, trivial⟩, ⟨⟨_, rfl, BLe.arr (filledTo_done (by omega))⟩, trivial⟩, trivial, rfl⟩⟩
theorem toChangeS_c (xs : List (Changet)) (hs : xs.length ≤ 1048576 ∧ ∀ y ∈ xs, smallChange y) (k : Nat) : AC Try.prog 86 [.one (.sl changeE xs)] [] (.one (.own k)) [(k, some (.arr 113 changeE xs true))] := AC.at (toChangeS_c0 xs hs) k

set_option maxHeartbeats 4000000 in
theorem szDelta_c (x : Deltat) (left : Int) (l0 : 0 ≤ left) (l1 : left ≤ 1048576) : AC Try.prog 35 [.agg (deltaC x), .one (.c (.int .i64 left))] [] (.one (.c (.int .i64 (szR (totDelta x) left)))) [] := by
  refine AC_body1 Try.func35 rfl rfl Try.ntmps35 rfl Try.results35 ?_
  refine AW_seq ?_
  refine AW_region ?_
  refine AL_p (x_box 100 rfl rfl rfl rfl rfl rfl rfl) ?_
  refine AL_p (x_assign rfl rfl) ?_
  refine AL_nil ?_
  refine AW_seq ?_
  refine AW_region ?_
  refine AL_p (x_field (off := 0) (o' := 0) rfl rfl rfl (by kernel_rfl) rfl) ?_
  refine AL_p (x_load1 rfl rfl rfl (by kernel_rfl) rfl) ?_
  refine AL_p (x_move rfl rfl) ?_
  refine AL_p (x_call0 rfl rfl rfl (szChangeS_c _ _ (by omega) (by omega)) rfl rfl) ?_
  refine AL_p (x_assign rfl rfl) ?_
  refine AL_nil ?_
  refine AW_seq ?_
  refine AW_seq ?_
  refine AW_region ?_
  refine AL_p (x_move rfl rfl) ?_
  refine AL_b (x_lss rfl rfl rfl) (fun b10 h10 => ?_)
  refine AL_nil ?_
  cases b10
  rotate_left
  · try simp only [decide_eq_true_eq, decide_eq_false_iff_not, Bool.not_eq_true, Bool.not_eq_false, Bool.not_eq_true', Bool.not_eq_false', beq_iff_eq, bne_iff_ne, beq_eq_false_iff_ne, bne_eq_false_iff_eq, Int.not_lt, Int.not_le, ge_iff_le, gt_iff_lt] at h10
    have g10 := szR_neg h10
    refine AW_condT rfl ?_
    refine AW_seq ?_
    refine AW_region ?_
    refine AL_p (x_assign rfl rfl) ?_
    refine AL_nil ?_
    refine AW_ret ?_
    exact ⟨rn [], ⟨⟨⟨_, rfl, vle_int (by first | (simp only [totDelta]; unfold szR; omega) | (simp only [totDelta]; done))⟩, trivial⟩, trivial, trivial, rfl⟩⟩
  · try simp only [decide_eq_true_eq, decide_eq_false_iff_not, Bool.not_eq_true, Bool.not_eq_false, Bool.not_eq_true', Bool.not_eq_false', beq_iff_eq, bne_iff_ne, beq_eq_false_iff_ne, bne_eq_false_iff_eq, Int.not_lt, Int.not_le, ge_iff_le, gt_iff_lt] at h10
    have f10 := (szR_nonneg h10).1
    have e10 := (szR_nonneg h10).2
    refine AW_condF rfl ?_
    refine AW_skip ?_
    refine AW_seq ?_
    refine AW_region ?_
    refine AL_p (x_move rfl rfl) ?_
    refine AL_p (x_assign rfl rfl) ?_
    refine AL_nil ?_
    refine AW_ret ?_
    exact ⟨rn [], ⟨⟨⟨_, rfl, vle_int (by first | (simp only [totDelta]; unfold szR; omega) | (simp only [totDelta]; done))⟩, trivial⟩, trivial, trivial, rfl⟩⟩

set_option maxHeartbeats 4000000 in
theorem eqDelta_c (x : Deltat) : AC Try.prog 39 [.agg (deltaC x), .agg (deltaC x)] [] (.one (.c (.bool true))) [] := by
  refine AC_body1 Try.func39 rfl rfl Try.ntmps39 rfl Try.results39 ?_
  refine AW_seq ?_
  refine AW_region ?_
  refine AL_p (x_box 100 rfl rfl rfl rfl rfl rfl rfl) ?_
  refine AL_p (x_box 101 rfl rfl rfl rfl rfl rfl rfl) ?_
  refine AL_p (x_assign rfl rfl) ?_
  refine AL_nil ?_
  refine AW_seq ?_
  refine AW_seq ?_
  refine AW_region ?_
  refine AL_p (x_field (off := 0) (o' := 0) rfl rfl rfl (by kernel_rfl) rfl) ?_
  refine AL_p (x_load1 rfl rfl rfl (by kernel_rfl) rfl) ?_
  refine AL_p (x_field (off := 0) (o' := 0) rfl rfl rfl (by kernel_rfl) rfl) ?_
  refine AL_p (x_load1 rfl rfl rfl (by kernel_rfl) rfl) ?_
  refine AL_p (x_call0 rfl rfl rfl (eqChangeS_c _) rfl rfl) ?_
  refine AL_p (x_not rfl rfl) ?_
  refine AL_nil ?_
  refine AW_condF rfl ?_
  refine AW_skip ?_
  refine AW_seq ?_
  refine AW_region ?_
  refine AL_p (x_assign rfl rfl) ?_
  refine AL_nil ?_
  refine AW_ret ?_
  exact ⟨rn [], ⟨⟨⟨_, rfl, vle_bool (rfl)⟩, trivial⟩, trivial, trivial, rfl⟩⟩

set_option maxHeartbeats 4000000 in
theorem toDelta_c0 (x : Deltat) (hs : smallDelta x) : AC Try.prog 37 [.agg (deltaC x)] [] (.agg [.own 0]) [(0, some (.arr 113 changeE x.changes true))] := by
  refine AC_bodyC (n := 1) (k := 9) (T := [(2, .one (.ptr 9 0))]) (Lf := ((9, some (.box [.own 0])) :: [(0, some (.arr 113 changeE x.changes true))])) Try.func37 rfl rfl Try.ntmps37 rfl Try.results37 rfl rfl (by kernel_rfl) rfl rfl ⟨trivial, (by repeat (first | exact trivial | refine ⟨⟨_, rfl, BLe.rf⟩, ?_⟩)), (by repeat (first | exact trivial | refine ⟨⟨rfl, by first | (left; intro h; cases h) | (right; rfl), fun _ h => ⟨_, h⟩⟩, ?_⟩)), rfl⟩ ?_
  refine AW_seq ?_
  refine AW_region ?_
  refine AL_p (x_box 100 rfl rfl rfl rfl rfl rfl rfl) ?_
  refine AL_p (x_alloc (z := .agg #[.slice none 0 0]) 101 rfl (by kernel_rfl) rfl rfl rfl rfl) ?_
  refine AL_nil ?_
  refine AW_seq ?_
  refine AW_region ?_
  refine AL_p (x_alloc (z := .agg #[.slice none 0 0]) 102 rfl (by kernel_rfl) rfl rfl rfl rfl) ?_
  refine AL_nil ?_
  refine AW_seq ?_
  refine AW_region ?_
  refine AL_p (x_field (off := 0) (o' := 0) rfl rfl rfl (by kernel_rfl) rfl) ?_
  refine AL_p (x_load1 rfl rfl rfl (by kernel_rfl) rfl) ?_
  refine AL_p (x_call1 rfl rfl rfl (toChangeS_c x.changes (hs) 103) rfl rfl rfl rfl) ?_
  refine AL_p (x_field (off := 0) (o' := 0) rfl rfl rfl (by kernel_rfl) rfl) ?_
  refine AL_p (x_store (n := 1) rfl rfl rfl rfl (by kernel_rfl) rfl rfl rfl) ?_
  refine AL_nil ?_
  refine AW_seq ?_
  refine AW_region ?_
  refine AL_p (x_loadN (n := 1) rfl rfl rfl (by kernel_rfl) rfl rfl) ?_
  refine AL_p (x_store (n := 1) rfl rfl rfl rfl (by kernel_rfl) rfl rfl rfl) ?_
  refine AL_nil ?_
  refine AW_ret ?_
  exact ⟨rn [(9, 101), (0, 103)], ⟨⟨⟨_, rfl, VLe.rf⟩, trivial⟩, ⟨⟨_, rfl, BLe.rf⟩, ⟨_, rfl, BLe.rf⟩, trivial⟩, trivial, rfl⟩⟩
theorem toDelta_c (x : Deltat) (hs : smallDelta x) (k : Nat) : AC Try.prog 37 [.agg (deltaC x)] [] (.agg [.own k]) [(k, some (.arr 113 changeE x.changes true))] := AC.at (toDelta_c0 x hs) k

end Go.Proofs.Ytibhoanjglfaoaa

/- The laws' own functions (printed by walk.py) -/
namespace Go.Proofs.Ytibhoanjglfaoaa
open Go.RowKit
set_option linter.unusedVariables false
set_option linter.unusedSimpArgs false
set_option maxRecDepth 100000

set_option maxHeartbeats 4000000 in
theorem eqByteS_c (xs : List (Int)) : AC Try.prog 26 [.one (.sl (intE .u8) xs), .one (.sl (intE .u8) xs)] [] (.one (.c (.bool true))) [] := by
  refine AC_body1 Try.func26 rfl rfl Try.ntmps26 rfl Try.results26 ?_
  refine AW_slmax 0 rfl (fun hm0 => ?_)
  refine AW_seq ?_
  refine AW_region ?_
  refine AL_p (x_assign rfl rfl) ?_
  refine AL_nil ?_
  refine AW_seq ?_
  refine AW_seq ?_
  refine AW_region ?_
  refine AL_p (x_move rfl rfl) ?_
  refine AL_p (x_len (E := 5) (n := 1) rfl rfl (by kernel_rfl)) ?_
  refine AL_p (x_move rfl rfl) ?_
  refine AL_p (x_len (E := 5) (n := 1) rfl rfl (by kernel_rfl)) ?_
  refine AL_b (x_neq rfl rfl rfl) (fun b10 h10 => ?_)
  refine AL_nil ?_
  cases b10
  rotate_left
  · exfalso; first | (simp [ba_beq_self] at h10; done) | grind
  · try simp only [decide_eq_true_eq, decide_eq_false_iff_not, Bool.not_eq_true, Bool.not_eq_false, Bool.not_eq_true', Bool.not_eq_false', beq_iff_eq, bne_iff_ne, beq_eq_false_iff_ne, bne_eq_false_iff_eq, Int.not_lt, Int.not_le, ge_iff_le, gt_iff_lt] at h10
    refine AW_condF rfl ?_
    refine AW_skip ?_
    refine AW_seq ?_
    refine AW_seq ?_
    refine AW_region ?_
    refine AL_p (x_assign rfl rfl) ?_
    refine AL_nil ?_
    refine AW_block ?_
    refine AW_loop2 (ι := {q : Nat // q ≤ xs.length}) (fun p => [(5, .one (.c (.int .i64 ((p.1) : Int))))]) (fun p => []) [0, 1] [] (fun p => xs.length - (p.1)) ⟨0, by omega⟩ (rn []) ?_ ?_
    exact ⟨by (repeat refine ⟨⟨_, rfl, by first | exact VLe.rf | exact vle_int (by dsimp only; omega)⟩, ?_⟩); exact trivial, by (repeat refine ⟨⟨_, rfl, by first | exact BLe.rf | exact BLe.box AllC.rf | exact BLe.arr (by exact rfl)⟩, ?_⟩); exact trivial, by repeat (first | exact trivial | refine ⟨⟨rfl, by first | (left; intro h; cases h) | (right; rfl), fun _ h => ⟨_, h⟩⟩, ?_⟩), rfl⟩
    rintro ⟨k, hinv⟩
    dsimp only
    refine AW_seq ?_
    refine AW_seq ?_
    refine AW_region ?_
    refine AL_p (x_move rfl rfl) ?_
    refine AL_p (x_move rfl rfl) ?_
    refine AL_p (x_len (E := 5) (n := 1) rfl rfl (by kernel_rfl)) ?_
    refine AL_b (x_lss rfl rfl rfl) (fun b14 h14 => ?_)
    refine AL_nil ?_
    cases b14
    rotate_left
    · try simp only [decide_eq_true_eq, decide_eq_false_iff_not, Bool.not_eq_true, Bool.not_eq_false, Bool.not_eq_true', Bool.not_eq_false', beq_iff_eq, bne_iff_ne, beq_eq_false_iff_ne, bne_eq_false_iff_eq, Int.not_lt, Int.not_le, ge_iff_le, gt_iff_lt] at h14
      refine AW_condT rfl ?_
      refine AW_skip ?_
      refine AW_seq ?_
      refine AW_block ?_
      refine AW_seq ?_
      refine AW_draw rfl ?_
      refine AL_p (x_move rfl rfl) ?_
      refine AL_p (x_move rfl rfl) ?_
      refine AL_p (x_index (E := 5) (n := 1) rfl rfl rfl (by kernel_rfl) rfl (k := k) (by omega) (by omega)) ?_
      refine AL_p (x_eload1 rfl rfl (by kernel_rfl) rfl) ?_
      refine AL_p (x_move rfl rfl) ?_
      refine AL_p (x_move rfl rfl) ?_
      refine AL_p (x_index (E := 5) (n := 1) rfl rfl rfl (by kernel_rfl) rfl (k := k) (by omega) (by omega)) ?_
      refine AL_p (x_eload1 rfl rfl (by kernel_rfl) rfl) ?_
      refine AL_b (x_neq rfl rfl rfl) (fun b25 h25 => ?_)
      refine AL_nild (by kernel_rfl) ?_
      cases b25
      rotate_left
      · exfalso; first | (simp [ba_beq_self] at h25; done) | grind
      · try simp only [decide_eq_true_eq, decide_eq_false_iff_not, Bool.not_eq_true, Bool.not_eq_false, Bool.not_eq_true', Bool.not_eq_false', beq_iff_eq, bne_iff_ne, beq_eq_false_iff_ne, bne_eq_false_iff_eq, Int.not_lt, Int.not_le, ge_iff_le, gt_iff_lt] at h25
        refine AW_condF rfl ?_
        refine AW_skip ?_
        refine AW_region ?_
        refine AL_p (x_move rfl rfl) ?_
        refine AL_p (x_add rfl rfl rfl (IntWalk.i64_in _ (by omega))) ?_
        refine AL_p (x_assign rfl rfl) ?_
        refine AL_nil ?_
        refine ⟨⟨k + 1, by omega⟩, rn [], ?_, by dsimp only; omega⟩
        exact ⟨by (repeat refine ⟨⟨_, rfl, by first | exact VLe.rf | exact vle_int (by dsimp only; omega)⟩, ?_⟩); exact trivial, by (repeat refine ⟨⟨_, rfl, by first | exact BLe.rf | exact BLe.box AllC.rf | exact BLe.arr (by exact rfl)⟩, ?_⟩); exact trivial, by repeat (first | exact trivial | refine ⟨⟨rfl, by first | (left; intro h; cases h) | (right; rfl), fun _ h => ⟨_, h⟩⟩, ?_⟩), rfl⟩
    · try simp only [decide_eq_true_eq, decide_eq_false_iff_not, Bool.not_eq_true, Bool.not_eq_false, Bool.not_eq_true', Bool.not_eq_false', beq_iff_eq, bne_iff_ne, beq_eq_false_iff_ne, bne_eq_false_iff_eq, Int.not_lt, Int.not_le, ge_iff_le, gt_iff_lt] at h14
      refine AW_condF rfl ?_
      refine AW_exit (BQ_hit ?_)
      refine AW_seq ?_
      refine AW_region ?_
      refine AL_p (x_assign rfl rfl) ?_
      refine AL_nil ?_
      refine AW_ret ?_
      exact ⟨rn [], ⟨⟨⟨_, rfl, vle_bool (rfl)⟩, trivial⟩, trivial, trivial, rfl⟩⟩

end Go.Proofs.Ytibhoanjglfaoaa

/- The laws' markText: a text for a number. -/
namespace Go.Proofs.Ytibhoanjglfaoaa
open Go.RowKit
set_option linter.unusedVariables false

/-- The digits of m ahead of out. -/
def digs (m : Nat) (out : ByteArray) : ByteArray := if h : m = 0 then out else digs (m / 10) (Utf8.encode (48 + ((m % 10 : Nat) : Int)) ++ out)
termination_by m
decreasing_by omega
theorem digs_zero (out : ByteArray) : digs 0 out = out := by rw [digs]; rfl
theorem digs_step {m : Nat} (h : 0 < m) (out : ByteArray) : digs (m / 10) (Utf8.encode (48 + ((m % 10 : Nat) : Int)) ++ out) = digs m out := by
  conv => rhs; rw [digs]
  rw [dif_neg (by omega)]
def markText (k : Int) : ByteArray := if k ≤ 0 then ⟨#[109, 48]⟩ else ⟨#[109]⟩ ++ digs k.toNat ⟨#[]⟩
theorem markText_neg {k : Int} (h : k ≤ 0) : markText k = ⟨#[109, 48]⟩ := if_pos h
theorem markText_pos {k : Int} (h : ¬ k ≤ 0) : markText k = ⟨#[109]⟩ ++ digs k.toNat ⟨#[]⟩ := if_neg h
theorem enc_dig_size {d : Int} (h0 : 0 ≤ d) (h1 : d < 10) : (Utf8.encode (48 + d)).size = 1 := by rw [utf8_dig h0 h1]; rfl
theorem digs_size : ∀ (m : Nat) (out : ByteArray), m < 10 ^ (20 - out.size) → out.size ≤ 20 → (digs m out).size ≤ 20 := by
  intro m
  induction m using Nat.strongRecOn with
  | _ m ih =>
    intro out h hs
    by_cases h0 : m = 0
    · subst h0; rw [digs_zero]; exact hs
    · rw [← digs_step (by omega)]
      have hz : (Utf8.encode (48 + ((m % 10 : Nat) : Int)) ++ out).size = out.size + 1 := by rw [ByteArray.size_append, enc_dig_size (by omega) (by omega)]; omega
      have h20 : out.size < 20 := by
        rcases Nat.lt_or_ge out.size 20 with h2 | h2
        · exact h2
        · rw [show 20 - out.size = 0 by omega] at h; simp at h; omega
      refine ih (m / 10) (by omega) _ ?_ (by omega)
      rw [hz, Nat.div_lt_iff_lt_mul (by omega), ← Nat.pow_succ, show (20 - (out.size + 1)).succ = 20 - out.size by omega]
      exact h
theorem markText_size {k : Int} (h : k ≤ 9223372036854775807) : (markText k).size ≤ 21 := by
  unfold markText
  split
  · decide
  · rw [ByteArray.size_append]
    have h1 : k.toNat < 10 ^ (20 - (⟨#[]⟩ : ByteArray).size) := by
      have : (⟨#[]⟩ : ByteArray).size = 0 := rfl
      rw [this]
      have : (10 : Nat) ^ (20 - 0) = 100000000000000000000 := by decide
      omega
    have := digs_size k.toNat ⟨#[]⟩ h1 (by decide)
    have h2 : (⟨#[109]⟩ : ByteArray).size = 1 := rfl
    omega

theorem wfText {k : Int} (h : k ≤ 9223372036854775807) : wfV (.string (markText k)) := by
  have := markText_size h
  show (markText k).size ≤ maxLen
  unfold maxLen; omega
theorem wfByte (k : Int) : wfV (.int .u8 (IntKind.u8.wrap k)) := wf_wrap _ _
theorem cell_only {bs : List Nat} {w w' : World} {a : Addr} {v : Value} (h : w.cell? a = some v) (o : Only bs w w') (hn : a.block ∉ bs) : w'.cell? a = some v := by
  have hlt : a.block < w.heap.size := by
    unfold World.cell? at h
    rcases Nat.lt_or_ge a.block w.heap.size with hlt | hge
    · exact hlt
    · rw [Array.getElem?_eq_none hge] at h; cases h
  exact (World.cell?_of_block (w := w) (o.keep a.block hlt hn)).trans h

set_option maxRecDepth 100000 in
set_option maxHeartbeats 4000000 in
theorem markText_any (k : Int) (w : World) (h1 : k ≤ 9223372036854775807) :
    Calls Try.prog 99 #[.int .i64 k] w fun e w' => e = .returned (.string (markText k)) ∧ Below w.heap.size w w' := by
  by_cases hk : k ≤ 0
  · have HR := Lib.hid (markText_neg hk)
    go_enter Try.func99, Try.ntmps99
    go_wp2_with fail
    go_ret
    exact ⟨ret_str HR.out.symm, Below.refl _ _⟩
  · have HR := Lib.hid (markText_pos hk)
    go_enter Try.func99, Try.ntmps99
    go_wp2_with fail
    go_loopw [0, 3] (fun kk oo W => ∃ (m : Nat) (out : ByteArray), kk = .int .i64 m ∧ oo = .string out ∧ digs m out = digs k.toNat ⟨#[]⟩ ∧ m ≤ 9223372036854775807 ∧ m < 10 ^ (20 - out.size) ∧ out.size ≤ 20 ∧ Below w.heap.size w W) (fun kk _ _ => (intOf kk).toNat)
    case atStart => exact ⟨k.toNat, ⟨#[]⟩, by rw [Int.toNat_of_nonneg (by omega)], rfl, rfl, by omega, by
      have : (10 : Nat) ^ (20 - (⟨#[]⟩ : ByteArray).size) = 100000000000000000000 := by decide
      omega, by decide, Below.refl _ _⟩
    case round =>
      obtain ⟨m, out, rfl, rfl, hd, hm, hp, hs, hB⟩ := hrel
      by_cases h0 : 0 < m
      · have hcv := conv_one (d := ((m % 10 : Nat) : Int)) (by omega) (by omega) _ rfl
        have hdig := enc_dig_size (d := ((m % 10 : Nat) : Int)) (by omega) (by omega)
        have hstep := digs_step h0 out
        have h20 : out.size < 20 := by
          rcases Nat.lt_or_ge out.size 20 with h2 | h2
          · exact h2
          · rw [show 20 - out.size = 0 by omega] at hp; simp at hp; omega
        have hp2 : m / 10 < 10 ^ (20 - (out.size + 1)) := by
          rw [Nat.div_lt_iff_lt_mul (by omega), ← Nat.pow_succ, show (20 - (out.size + 1)).succ = 20 - out.size by omega]; exact hp
        clear hp
        generalize Utf8.encode (48 + ((m % 10 : Nat) : Int)) = D at hcv hdig hstep
        have hroom : ¬ 9223372036854775807 < D.size + out.size := by omega
        have hz : (D ++ out).size = out.size + 1 := by rw [ByteArray.size_append, hdig]; omega
        have e1 : IntKind.i64.wrap ((m : Int).tdiv 10) = ((m / 10 : Nat) : Int) := by rw [Int.tdiv_eq_ediv_of_nonneg (by omega)]; rw [IntWalk.i64_in _ (by omega)]; omega
        have e2 : (m : Int).tmod 10 = ((m % 10 : Nat) : Int) := by rw [Int.tmod_eq_emod_of_nonneg (by omega)]; omega
        have e3 : IntKind.i64.wrap (48 + ((m % 10 : Nat) : Int)) = 48 + ((m % 10 : Nat) : Int) := IntWalk.i64_in _ (by omega)
        have e4 : IntKind.u8.wrap (48 + ((m % 10 : Nat) : Int)) = 48 + ((m % 10 : Nat) : Int) := IntWalk.u8_in _ (by omega)
        go_wp2_with fail
        go_roundw
        case rel => exact ⟨m / 10, D ++ out, by simp, rfl, by rw [hstep, hd], by omega, by rw [hz]; exact hp2, by omega, by first | exact hB.alloc (by have := hB.size; omega) _ | exact hB⟩
        case measure => simp [intOf]; omega
      · obtain rfl : m = 0 := by omega
        rw [digs_zero] at hd
        have HD := Lib.hid hd
        clear hd
        have hroom : ¬ 9223372036854775807 < 1 + out.size := by omega
        go_wp2_with fail
        go_ret
        exact ⟨ret_str (by rw [HR.out, HD.out]), hB⟩
end Go.Proofs.Ytibhoanjglfaoaa

/- The laws' marks: MarkP (printed by genmark.py) -/
namespace Go.Proofs.Ytibhoanjglfaoaa
open Go.RowKit
set_option linter.unusedVariables false
set_option linter.unusedSimpArgs false
set_option maxRecDepth 100000

def markByte (x : Int) (k : Int) : Int × Int := (IntKind.u8.wrap (k), k + 1)
def cntByte (x : Int) : Nat := 1
theorem markByte_cnt (x : Int) (k : Int) : (markByte x k).2 = k + cntByte x := by
  simp only [markByte, cntByte]
  try omega
set_option maxHeartbeats 4000000 in
theorem markByteS_any (a : Option Addr) (n cap : Nat) (xs : List (Int)) (bs : List Nat) (k : Int) (lo : Nat) (w : World) (h : SliceRep (intE .u8) w a n cap xs bs) (hF : Fresh lo w bs) (k0 : 0 ≤ k) (k1 : k + cntL cntByte xs ≤ 4611686018427387904) :
    Calls Try.prog 27 #[.slice a n cap, .int .i64 k] w fun e w' => e = .returned (.int .i64 (markL markByte xs k).2) ∧ SliceRep (intE .u8) w' a n cap (markL markByte xs k).1 bs ∧ Only bs w w' := by
  have hmax := h.max
  obtain rfl := h.1
  go_enter Try.func27, Try.ntmps27
  go_wp2_with fail
  go_loopw [1, 5] (fun l i W => ∃ (j : Nat), j ≤ xs.length ∧ i = .int .i64 j ∧ l = .int .i64 (markK markByte xs k j) ∧ SliceRep (intE .u8) W a xs.length cap (markTo markByte xs k j) bs ∧ Only bs w W) (fun _ i _ => xs.length - (intOf i).toNat)
  case atStart => exact ⟨0, Nat.zero_le _, rfl, by rw [markK_zero], by rw [markTo_zero]; exact h, Only.refl _ _⟩
  case round =>
    obtain ⟨j, hj, rfl, rfl, hS, hO⟩ := hrel
    by_cases hlt : j < xs.length
    · obtain ⟨g, off, _, _, rfl, _⟩ := h.get hlt
      have HF := hF.only hO
      obtain ⟨q0, q1⟩ := markK_bound markByte markByte_cnt k0 k1 hlt
      have hat := markTo_at markByte (k := k) hlt
      have HS := Lib.hid (markTo_succ markByte (k := k) hlt)
      have HK := Lib.hid (markK_succ markByte (k := k) hlt)
      have hl := markTo_len markByte xs k j
      have NJ := Lib.hid (show j + 1 ≤ xs.length by omega)
      have i0 : (0 : Int) ≤ (j : Int) := by omega
      have i1 : (j : Int) < (xs.length : Int) := by omega
      generalize markTo markByte xs k j = ys at hS hat HS hl
      generalize markK markByte xs k j = q at q0 q1 HS HK
      generalize xs[j] = x at hat HS HK q1
      rw [← set_same hat] at hS
      have hjy : j < ys.length := by omega
      clear hat
      have Q1 := Lib.hid q1
      simp only [cntByte] at q1
      obtain ⟨c0, d0⟩ := hS.cellAt2 HF hjy (c := 0) rfl
      obtain ⟨hS0, o0⟩ := hS.put2 HF hjy 0 (.int .u8 (IntKind.u8.wrap (q))) (IntKind.u8.wrap (q) : Int) rfl (wfByte _) rfl
      simp only [show Enc.size (intE .u8) = 1 from rfl, Nat.mul_one, Nat.add_zero] at c0 d0 hS0 o0
      clear hS
      have hS := hS0
      clear hS0
      replace hO := hO.trans o0
      replace HF := HF.only o0
      clear o0
      go_wp2_with fail
      go_roundw
      case rel => exact ⟨j + 1, NJ.out, by go_num, by rw [HK.out]; rfl, by rw [← HS.out]; exact hS, hO⟩
      case measure => simp [intOf]; omega
    · obtain rfl : j = xs.length := by omega
      rw [markTo_done] at hS
      go_wp2_with fail
      go_ret
      exact ⟨ret_int (markK_done _ _ _), hS, hO⟩

end Go.Proofs.Ytibhoanjglfaoaa

/- The laws' held functions (printed by walk.py) -/
namespace Go.Proofs.Ytibhoanjglfaoaa
open Go.RowKit
set_option linter.unusedVariables false
set_option linter.unusedSimpArgs false
set_option maxRecDepth 100000

theorem mtext_c (q : Int) (h1 : q ≤ 9223372036854775807) : AC Try.prog 99 [.one (.c (.int .i64 q))] [] (.one (.c (.string (markText q)))) [] :=
  AC.pure ⟨_, _, Try.func99, rfl, rfl⟩ (wfText h1) fun w g cargs h => by
    obtain ⟨v, rfl, h0⟩ := inv1 h
    rw [(inv_c h0).1]
    exact markText_any q w h1

set_option maxHeartbeats 4000000 in
theorem heldByteS_c (xs ys : List (Int)) (q : Int) (hy : (markL markByte xs q).1 = ys) (k0 : 0 ≤ q) (k1 : q + cntL cntByte xs ≤ 4611686018427387904) : AC Try.prog 28 [.one (.sl (intE .u8) ys), .one (.c (.int .i64 q))] [] (.one (.c (.int .i64 (markL markByte xs q).2))) [] := by
  refine AC_body1 Try.func28 rfl rfl Try.ntmps28 rfl Try.results28 ?_
  refine AW_slmax 0 rfl (fun hm0 => ?_)
  refine AW_seq ?_
  refine AW_region ?_
  refine AL_p (x_assign rfl rfl) ?_
  refine AL_nil ?_
  refine AW_seq ?_
  refine AW_seq ?_
  refine AW_region ?_
  refine AL_p (x_assign rfl rfl) ?_
  refine AL_nil ?_
  refine AW_block ?_
  refine AW_loop2 (ι := {q : Nat // q ≤ xs.length}) (fun p => [(1, .one (.c (.int .i64 (markK markByte xs q (p.1))))), (5, .one (.c (.int .i64 ((p.1) : Int))))]) (fun p => []) [0] [] (fun p => xs.length - (p.1)) ⟨0, by omega⟩ (rn []) ?_ ?_
  exact ⟨by (repeat refine ⟨⟨_, rfl, by first | exact VLe.rf | exact vle_int (by dsimp only; omega) | exact vle_int (markK_zero _ _ _).symm | exact vle_int (by rw [hks]; rfl)⟩, ?_⟩); exact trivial, by (repeat refine ⟨⟨_, rfl, by first | exact BLe.rf | exact BLe.box AllC.rf | exact BLe.arr (by exact rfl)⟩, ?_⟩); exact trivial, by repeat (first | exact trivial | refine ⟨⟨rfl, by first | (left; intro h; cases h) | (right; rfl), fun _ h => ⟨_, h⟩⟩, ?_⟩), rfl⟩
  rintro ⟨k, hinv⟩
  dsimp only
  have hl : ys.length = xs.length := by rw [← hy, markL_len]
  refine AW_seq ?_
  refine AW_seq ?_
  refine AW_region ?_
  refine AL_p (x_move rfl rfl) ?_
  refine AL_p (x_move rfl rfl) ?_
  refine AL_p (x_len (E := 5) (n := 1) rfl rfl (by kernel_rfl)) ?_
  refine AL_b (x_lss rfl rfl rfl) (fun b9 h9 => ?_)
  refine AL_nil ?_
  cases b9
  rotate_left
  · try simp only [decide_eq_true_eq, decide_eq_false_iff_not, Bool.not_eq_true, Bool.not_eq_false, Bool.not_eq_true', Bool.not_eq_false', beq_iff_eq, bne_iff_ne, beq_eq_false_iff_ne, bne_eq_false_iff_eq, Int.not_lt, Int.not_le, ge_iff_le, gt_iff_lt] at h9
    have hlt : k < xs.length := by omega
    have hat := markL_at' markByte hy hlt
    obtain ⟨q0, q1⟩ := markK_bound markByte markByte_cnt k0 k1 hlt
    have hks := markK_succ markByte (k := q) hlt
    generalize markK markByte xs q k = r at *
    simp only [cntByte] at q1
    refine AW_condT rfl ?_
    refine AW_skip ?_
    refine AW_seq ?_
    refine AW_block ?_
    refine AW_seq ?_
    refine AW_seq ?_
    refine AW_region ?_
    refine AL_p (x_move rfl rfl) ?_
    refine AL_p (x_move rfl rfl) ?_
    refine AL_p (x_index (E := 5) (n := 1) rfl rfl rfl (by kernel_rfl) rfl (k := k) (by omega) (by omega)) ?_
    refine AL_p (x_eload1 rfl rfl (by kernel_rfl) rfl) ?_
    refine AL_p (x_move rfl rfl) ?_
    refine AL_p (x_conv (k' := .u8) rfl rfl (by kernel_rfl) rfl) ?_
    refine AL_b (x_neq rfl rfl rfl) (fun b18 h18 => ?_)
    refine AL_nil ?_
    cases b18
    rotate_left
    · exfalso; rw [hat] at h18; simp [markByte, ba_beq_self] at h18
    · try simp only [decide_eq_true_eq, decide_eq_false_iff_not, Bool.not_eq_true, Bool.not_eq_false, Bool.not_eq_true', Bool.not_eq_false', beq_iff_eq, bne_iff_ne, beq_eq_false_iff_ne, bne_eq_false_iff_eq, Int.not_lt, Int.not_le, ge_iff_le, gt_iff_lt] at h18
      refine AW_condF rfl ?_
      refine AW_skip ?_
      refine AW_region ?_
      refine AL_p (x_move rfl rfl) ?_
      refine AL_p (x_add rfl rfl rfl (IntWalk.i64_in _ (by omega))) ?_
      refine AL_p (x_assign rfl rfl) ?_
      refine AL_nil ?_
      refine AW_region ?_
      refine AL_p (x_move rfl rfl) ?_
      refine AL_p (x_add rfl rfl rfl (IntWalk.i64_in _ (by omega))) ?_
      refine AL_p (x_assign rfl rfl) ?_
      refine AL_nil ?_
      refine ⟨⟨k + 1, by omega⟩, rn [], ?_, by dsimp only; omega⟩
      exact ⟨by (repeat refine ⟨⟨_, rfl, by first | exact VLe.rf | exact vle_int (by dsimp only; omega) | exact vle_int (markK_zero _ _ _).symm | exact vle_int (by rw [hks]; rfl)⟩, ?_⟩); exact trivial, by (repeat refine ⟨⟨_, rfl, by first | exact BLe.rf | exact BLe.box AllC.rf | exact BLe.arr (by exact rfl)⟩, ?_⟩); exact trivial, by repeat (first | exact trivial | refine ⟨⟨rfl, by first | (left; intro h; cases h) | (right; rfl), fun _ h => ⟨_, h⟩⟩, ?_⟩), rfl⟩
  · try simp only [decide_eq_true_eq, decide_eq_false_iff_not, Bool.not_eq_true, Bool.not_eq_false, Bool.not_eq_true', Bool.not_eq_false', beq_iff_eq, bne_iff_ne, beq_eq_false_iff_ne, bne_eq_false_iff_eq, Int.not_lt, Int.not_le, ge_iff_le, gt_iff_lt] at h9
    refine AW_condF rfl ?_
    refine AW_exit (BQ_hit ?_)
    refine AW_seq ?_
    refine AW_region ?_
    refine AL_p (x_move rfl rfl) ?_
    refine AL_p (x_assign rfl rfl) ?_
    refine AL_nil ?_
    refine AW_ret ?_
    obtain rfl : k = xs.length := by omega
    exact ⟨rn [], ⟨⟨⟨_, rfl, vle_int (markK_done _ _ _)⟩, trivial⟩, trivial, trivial, rfl⟩⟩
end Go.Proofs.Ytibhoanjglfaoaa
