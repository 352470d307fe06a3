/- Lemmas of the walks, part 3. -/
import Derived.Test.YtgmlecghklaomaaM2
import Derived.Deep.RegionHeld3
/- Marks: own data written anew in place, cell by cell. -/
namespace Go.Proofs.Ytgmlecghklaomaa
open Go.RowKit
set_option linter.unusedVariables false

/-- Of the blocks that stood, only those named may have turned; they may still be written. -/
structure Only (bs : List Nat) (w w' : World) : Prop where
  os : w'.os = w.os
  tape : w'.tape = w.tape
  output : w'.output = w.output
  size : w.heap.size ≤ w'.heap.size
  keep : ∀ b, b < w.heap.size → b ∉ bs → w'.heap[b]? = w.heap[b]?
  shape : ∀ b ∈ bs, ∀ c t, w.heap[b]? = some (.cells c t (0, 0)) → ∃ c', w'.heap[b]? = some (.cells c' t (0, 0))
theorem Only.refl (bs : List Nat) (w : World) : Only bs w w := ⟨rfl, rfl, rfl, Nat.le_refl _, fun _ _ _ => rfl, fun _ _ c t h => ⟨c, h⟩⟩
theorem Only.trans {bs : List Nat} {w w1 w2 : World} (h : Only bs w w1) (h' : Only bs w1 w2) : Only bs w w2 :=
  ⟨h'.os.trans h.os, h'.tape.trans h.tape, h'.output.trans h.output, Nat.le_trans h.size h'.size, fun b hb hn => (h'.keep b (Nat.lt_of_lt_of_le hb h.size) hn).trans (h.keep b hb hn), fun b hb c t hc => by
    obtain ⟨c1, h1⟩ := h.shape b hb c t hc
    exact h'.shape b hb c1 t h1⟩
theorem Only.below {bs : List Nat} {w w' : World} (h : Below w.heap.size w w') : Only bs w w' :=
  ⟨h.os, h.tape, h.output, h.size, fun b hb _ => h.block b hb, fun b hb c t hc => ⟨c, (h.block b (Array.getElem?_eq_some_iff.1 hc).1).trans hc⟩⟩
theorem Only.mono {bs bs' : List Nat} {w w' : World} (h : Only bs' w w') (hs : ∀ b ∈ bs', b ∈ bs) : Only bs w w' :=
  ⟨h.os, h.tape, h.output, h.size, fun b hb hn => h.keep b hb fun hm => hn (hs b hm), fun b hb c t hc => by
    by_cases hm : b ∈ bs'
    · exact h.shape b hm c t hc
    · exact ⟨c, (h.keep b (Array.getElem?_eq_some_iff.1 hc).1 hm).trans hc⟩⟩
theorem Fresh.only {lo : Nat} {bs bs' : List Nat} {w w' : World} (h : Fresh lo w bs) (o : Only bs' w w') : Fresh lo w' bs :=
  ⟨h.1, fun b hb => by
    obtain ⟨h1, c, t, hc⟩ := h.2 b hb
    by_cases hm : b ∈ bs'
    · obtain ⟨c', h2⟩ := o.shape b hm c t hc
      exact ⟨h1, c', t, h2⟩
    · exact ⟨h1, c, t, (o.keep b (Array.getElem?_eq_some_iff.1 hc).1 hm).trans hc⟩⟩
theorem Enc.only {α : Type} {e : Enc α} {cs : List Value} {x : α} {b bs : List Nat} {w w' : World} (h : e.rep w cs x b) (o : Only bs w w') (hd : ∀ c ∈ b, c ∉ bs) : e.rep w' cs x b :=
  e.keep h (fun c hc => o.keep c (e.lt h c hc) (hd c hc)) o.size
theorem Below.only {lo : Nat} {bs : List Nat} {w0 w w' : World} (h : Below lo w0 w) (o : Only bs w w') (hl : ∀ b ∈ bs, lo ≤ b) (hlo : lo ≤ w.heap.size) : Below lo w0 w' :=
  ⟨o.os.trans h.os, o.tape.trans h.tape, o.output.trans h.output, Nat.le_trans h.size o.size, fun b hb => (o.keep b (by omega) fun hm => by have := hl b hm; omega).trans (h.block b hb)⟩
theorem Only.setCell {bs : List Nat} {w : World} {g : Nat} (hg : g ∈ bs) (o : Nat) (v : Value) : Only bs w (w.setCell ⟨g, o, none⟩ v) :=
  ⟨rfl, rfl, rfl, by simp [World.setCell], fun b hb hn => Below.heap_setCell w _ _ b (fun e => hn (by rw [e]; exact hg)), fun b hb c t hc => by
    by_cases e : b = g
    · subst e
      exact ⟨c.setIfInBounds o v, by simp [World.setCell, Array.getElem?_modify, hc]⟩
    · exact ⟨c, (Below.heap_setCell w ⟨g, o, none⟩ v b e).trans hc⟩⟩

theorem FR.keepM {w w' : World} : ∀ {vs : List Value} {cs : List Cell} {b : List Nat}, FR w vs cs b → (∀ x ∈ b, w'.heap[x]? = w.heap[x]?) → w.heap.size ≤ w'.heap.size → FR w' vs cs b
  | [], [], b, h, _, _ => h
  | v :: vs, c :: cs, b, h, hk, hs => by
    obtain ⟨b1, b2, rfl, h1, h2⟩ := h
    refine ⟨b1, b2, rfl, ?_, FR.keepM h2 (fun x hx => hk x (List.mem_append_right _ hx)) hs⟩
    cases c with
    | c u => exact h1
    | sl e xs =>
      obtain ⟨a, n, cap, h3, h4⟩ := h1
      exact ⟨a, n, cap, h3, h4.keep (fun x hx => hk x (List.mem_append_left _ hx)) hs⟩
    | _ => exact h1.elim
theorem FR.get_c {w : World} : ∀ {vs : List Value} {cs : List Cell} {b : List Nat} {i : Nat} {u : Value}, FR w vs cs b → cs[i]? = some (.c u) → vs[i]? = some u
  | [], [], b, i, u, _, h => by simp at h
  | v :: vs, c :: cs, b, 0, u, h, hi => by
    obtain ⟨b1, b2, rfl, h1, h2⟩ := h
    simp only [List.getElem?_cons_zero, Option.some.injEq] at hi
    subst hi
    simp [h1.1]
  | v :: vs, c :: cs, b, i + 1, u, h, hi => by
    obtain ⟨b1, b2, rfl, h1, h2⟩ := h
    simpa using FR.get_c h2 (by simpa using hi)
theorem FR.set_c {w : World} : ∀ {vs : List Value} {cs : List Cell} {b : List Nat} {i : Nat} {u v : Value}, FR w vs cs b → cs[i]? = some (.c u) → wfV v → FR w (vs.set i v) (cs.set i (.c v)) b
  | [], [], b, i, u, v, _, h, _ => by simp at h
  | y :: vs, c :: cs, b, 0, u, v, h, hi, hv => by
    obtain ⟨b1, b2, rfl, h1, h2⟩ := h
    simp only [List.getElem?_cons_zero, Option.some.injEq] at hi
    subst hi
    obtain rfl := h1.2.2
    exact ⟨[], b2, rfl, ⟨rfl, hv, rfl⟩, h2⟩
  | y :: vs, c :: cs, b, i + 1, u, v, h, hi, hv => by
    obtain ⟨b1, b2, rfl, h1, h2⟩ := h
    exact ⟨b1, b2, rfl, h1, FR.set_c h2 (by simpa using hi) hv⟩
theorem FR.get_sl {w : World} {α : Type} {e : Enc α} {ys : List α} : ∀ {vs : List Value} {cs : List Cell} {b : List Nat} {i : Nat}, FR w vs cs b → cs[i]? = some (.sl e ys) →
    ∃ b1 b2 b3 a n cap, b = b1 ++ (b2 ++ b3) ∧ vs[i]? = some (.slice a n cap) ∧ SliceRep e w a n cap ys b2 ∧
      ∀ (w' : World) (ys' : List α), SliceRep e w' a n cap ys' b2 → (∀ x ∈ b1, w'.heap[x]? = w.heap[x]?) → (∀ x ∈ b3, w'.heap[x]? = w.heap[x]?) → w.heap.size ≤ w'.heap.size → FR w' vs (cs.set i (.sl e ys')) b
  | [], [], b, i, _, h => by simp at h
  | y :: vs, c :: cs, b, 0, h, hi => by
    obtain ⟨b1, b2, rfl, h1, h2⟩ := h
    simp only [List.getElem?_cons_zero, Option.some.injEq] at hi
    subst hi
    obtain ⟨a, n, cap, rfl, h3⟩ := h1
    exact ⟨[], b1, b2, a, n, cap, rfl, rfl, h3, fun w' ys' hr _ hk hs => ⟨b1, b2, rfl, ⟨a, n, cap, rfl, hr⟩, h2.keepM hk hs⟩⟩
  | y :: vs, c :: cs, b, i + 1, h, hi => by
    obtain ⟨b1, b2, rfl, h1, h2⟩ := h
    obtain ⟨c1, c2, c3, a, n, cap, rfl, h3, h4, h5⟩ := FR.get_sl h2 (by simpa using hi)
    refine ⟨b1 ++ c1, c2, c3, a, n, cap, by simp, by simpa using h3, h4, fun w' ys' hr k1 k2 hs => ⟨b1, c1 ++ (c2 ++ c3), rfl, ?_, h5 w' ys' hr (fun x hx => k1 x (List.mem_append_right _ hx)) k2 hs⟩⟩
    have k1' : ∀ x ∈ b1, w'.heap[x]? = w.heap[x]? := fun x hx => k1 x (List.mem_append_left _ hx)
    cases c with
    | c u => exact h1
    | sl e xs =>
      obtain ⟨a, n, cap, h3, h4⟩ := h1
      exact ⟨a, n, cap, h3, h4.keep k1' hs⟩
    | _ => exact h1.elim

theorem flatten_apart : ∀ {bss : List (List Nat)} {i j : Nat} {b b' : List Nat} {x : Nat}, bss.flatten.Nodup → i ≠ j → bss[i]? = some b → bss[j]? = some b' → x ∈ b → x ∉ b'
  | [], i, j, b, b', x, _, _, h, _, _ => by simp at h
  | c :: bss, 0, 0, b, b', x, _, hij, _, _, _ => absurd rfl hij
  | c :: bss, 0, j + 1, b, b', x, hn, _, hi, hj, hx => fun hx' => by
    simp only [List.getElem?_cons_zero, Option.some.injEq] at hi
    subst hi
    rw [List.flatten_cons, List.nodup_append] at hn
    exact hn.2.2 x hx x (List.mem_flatten.2 ⟨b', List.mem_of_getElem? (by simpa using hj), hx'⟩) rfl
  | c :: bss, i + 1, 0, b, b', x, hn, _, hi, hj, hx => fun hx' => by
    simp only [List.getElem?_cons_zero, Option.some.injEq] at hj
    subst hj
    rw [List.flatten_cons, List.nodup_append] at hn
    exact hn.2.2 x hx' x (List.mem_flatten.2 ⟨b, List.mem_of_getElem? (by simpa using hi), hx⟩) rfl
  | c :: bss, i + 1, j + 1, b, b', x, hn, hij, hi, hj, hx => by
    rw [List.flatten_cons, List.nodup_append] at hn
    exact flatten_apart (bss := bss) (i := i) (j := j) hn.2.1 (by omega) (by simpa using hi) (by simpa using hj) hx

section
variable {α : Type} {e : Enc α} {f : α → List Cell} [he : CellsOf e f] {w : World} {lo g off n cap k : Nat} {xs : List α} {bs : List Nat}
/-- A plain cell of element k. -/
theorem SliceRep.cellAt (h : SliceRep e w (some ⟨g, off, none⟩) n cap xs bs) (hF : Fresh lo w bs) {x0 : α} (hx0 : xs[k]? = some x0) {c : Nat} {u : Value} (h0 : (f x0)[c]? = some (.c u)) :
    w.cell? ⟨g, off + k * e.size + c, none⟩ = some u ∧ w.frozen? ⟨g, off + k * e.size + c, none⟩ = false := by
  obtain ⟨hk, rfl⟩ := List.getElem?_eq_some_iff.1 hx0
  obtain ⟨cs, b, hr, _, hs⟩ := h.slot hF hk
  exact hs c u (FR.get_c (he.iff.1 hr) h0)
/-- A plain cell of element k written anew. -/
theorem SliceRep.put (h : SliceRep e w (some ⟨g, off, none⟩) n cap xs bs) (hF : Fresh lo w bs) {x0 : α} (hx0 : xs[k]? = some x0) (c : Nat) {u : Value} (v : Value) (x' : α) (h0 : (f x0)[c]? = some (.c u)) (hv : wfV v) (hx : f x' = (f x0).set c (.c v)) :
    SliceRep e (w.setCell ⟨g, off + k * e.size + c, none⟩ v) (some ⟨g, off, none⟩) n cap (xs.set k x') bs ∧ Only bs w (w.setCell ⟨g, off + k * e.size + c, none⟩ v) := by
  obtain ⟨hk, rfl⟩ := List.getElem?_eq_some_iff.1 hx0
  have hne : xs ≠ [] := by intro e; subst e; simp at hk
  obtain ⟨g', off', bss, ha, hg, rfl, hE⟩ := h.parts hne
  simp only [Option.some.injEq, Addr.mk.injEq, and_true] at ha
  obtain ⟨rfl, rfl⟩ := ha
  have hkb : k < bss.length := by rw [hE.1]; exact hk
  have hnd : g ∉ bss.flatten ∧ bss.flatten.Nodup := List.nodup_cons.1 hF.1
  obtain ⟨_, ca, t, hblk⟩ := hF.2 g (List.mem_cons_self ..)
  obtain ⟨cs, hr, hcs⟩ := hE.2 k xs[k] bss[k] (List.getElem?_eq_getElem hk) (List.getElem?_eq_getElem hkb)
  have hfr := he.iff.1 hr
  have hcu := FR.get_c hfr h0
  have hc : c < e.size := by rw [← e.len hr]; exact (List.getElem?_eq_some_iff.1 hcu).1
  have hin := hcs c u hcu
  have hO : Only (g :: bss.flatten) w (w.setCell ⟨g, off + k * e.size + c, none⟩ v) := Only.setCell (List.mem_cons_self ..) _ _
  have hfl : ∀ x ∈ bss.flatten, (w.setCell ⟨g, off + k * e.size + c, none⟩ v).heap[x]? = w.heap[x]? := fun x hx => Below.heap_setCell w _ _ x (fun e => hnd.1 (by rw [← show x = g from e]; exact hx))
  have hbk : ∀ x ∈ bss[k], (w.setCell ⟨g, off + k * e.size + c, none⟩ v).heap[x]? = w.heap[x]? := fun x hx => hfl x (List.mem_flatten.2 ⟨_, List.getElem_mem hkb, hx⟩)
  have hr' : e.rep (w.setCell ⟨g, off + k * e.size + c, none⟩ v) (cs.set c v) x' bss[k] := he.iff.2 (by rw [hx]; exact (hfr.set_c h0 hv).keepM hbk hO.size)
  have hE' := hE.upd (k := k) (x' := x') hr' (fun j u' hu => ?_) (fun i hi => ?_) (fun i b hik hb x hx => hfl x (List.mem_flatten.2 ⟨b, List.mem_of_getElem? hb, hx⟩)) hO.size
  · rw [List.set_getElem_self] at hE'
    exact ⟨SliceRep.mk (by simpa using h.1) h.2.1 h.2.2.1 (by intro e; simp at e; exact hne e) (Nat.lt_of_lt_of_le hg hO.size) hE', hO⟩
  · by_cases ej : j = c
    · subst ej
      rw [List.getElem?_set_self (by rw [e.len hr]; exact hc)] at hu
      cases hu
      exact World.cell?_setCell_same _ _ _ hin
    · rw [List.getElem?_set_ne (Ne.symm ej)] at hu
      rw [World.cell?_setCell_other w _ _ v (fun e => ej (by injection e with _ e; omega))]
      exact hcs j u' hu
  · exact World.cell?_setCell_other w _ _ v (fun e => by injection e with _ e; rw [Nat.add_mul] at hi; omega)
/-- A list in element k, for a call that writes it anew. -/
theorem SliceRep.nest (h : SliceRep e w (some ⟨g, off, none⟩) n cap xs bs) (hF : Fresh lo w bs) {x0 : α} (hx0 : xs[k]? = some x0) {c : Nat} {β : Type} {e' : Enc β} {ys : List β} (h0 : (f x0)[c]? = some (.sl e' ys)) :
    ∃ a' n' cap' b', w.cell? ⟨g, off + k * e.size + c, none⟩ = some (.slice a' n' cap') ∧ SliceRep e' w a' n' cap' ys b' ∧ Fresh lo w b' ∧
      ∀ (w' : World) (ys' : List β) (x' : α), SliceRep e' w' a' n' cap' ys' b' → Only b' w w' → f x' = (f x0).set c (.sl e' ys') → SliceRep e w' (some ⟨g, off, none⟩) n cap (xs.set k x') bs ∧ Only bs w w' := by
  obtain ⟨hk, rfl⟩ := List.getElem?_eq_some_iff.1 hx0
  have hne : xs ≠ [] := by intro e; subst e; simp at hk
  have hlt := h.lt
  obtain ⟨g', off', bss, ha, hg, rfl, hE⟩ := h.parts hne
  simp only [Option.some.injEq, Addr.mk.injEq, and_true] at ha
  obtain ⟨rfl, rfl⟩ := ha
  have hkb : k < bss.length := by rw [hE.1]; exact hk
  have hnd : g ∉ bss.flatten ∧ bss.flatten.Nodup := List.nodup_cons.1 hF.1
  obtain ⟨cs, hr, hcs⟩ := hE.2 k xs[k] bss[k] (List.getElem?_eq_getElem hk) (List.getElem?_eq_getElem hkb)
  obtain ⟨b1, b2, b3, a, n', cap', hb, h3, h4, h5⟩ := FR.get_sl (he.iff.1 hr) h0
  have inF : ∀ x ∈ bss[k], x ∈ bss.flatten := fun x hx => List.mem_flatten.2 ⟨_, List.getElem_mem hkb, hx⟩
  have in2 : ∀ x ∈ b2, x ∈ bss[k] := fun x hx => by rw [hb]; exact List.mem_append_right _ (List.mem_append_left _ hx)
  have hbn : bss[k].Nodup := List.Sublist.nodup (List.sublist_flatten_of_mem (List.getElem_mem hkb)) hnd.2
  rw [hb, List.nodup_append, List.nodup_append] at hbn
  refine ⟨a, n', cap', b2, hcs c _ h3, h4, ⟨hbn.2.1.1, fun x hx => hF.2 x (List.mem_cons_of_mem _ (inF x (in2 x hx)))⟩, fun w' ys' x' hr' hO hx => ?_⟩
  have ltF : ∀ x ∈ bss.flatten, x < w.heap.size := fun x hx => hlt x (List.mem_cons_of_mem _ hx)
  have keep : ∀ x, x < w.heap.size → x ∉ b2 → w'.heap[x]? = w.heap[x]? := hO.keep
  have hg2 : w'.heap[g]? = w.heap[g]? := keep g hg fun hm => hnd.1 (inF g (in2 g hm))
  have hr2 : e.rep w' cs x' bss[k] := he.iff.2 (by
    rw [hx]
    refine h5 w' ys' hr' (fun x hx1 => keep x (ltF x (inF x (by rw [hb]; exact List.mem_append_left _ hx1))) fun hx2 => hbn.2.2 x hx1 x (List.mem_append_left _ hx2) rfl) (fun x hx3 => keep x (ltF x (inF x (by rw [hb]; exact List.mem_append_right _ (List.mem_append_right _ hx3)))) fun hx2 => hbn.2.1.2.2 x hx2 x hx3 rfl) hO.size)
  have hE' := hE.upd (k := k) (x' := x') hr2 (fun j u' hu => (World.cell?_of_block (w := w) hg2).trans (hcs j u' hu)) (fun i hi => World.cell?_of_block (w := w) hg2) (fun i b hik hbi x hx => keep x (ltF x (List.mem_flatten.2 ⟨b, List.mem_of_getElem? hbi, hx⟩)) fun hx2 => flatten_apart hnd.2 hik hbi (List.getElem?_eq_getElem hkb) hx (in2 x hx2)) hO.size
  rw [List.set_getElem_self] at hE'
  exact ⟨SliceRep.mk (by simpa using h.1) h.2.1 h.2.2.1 (by intro e; simp at e; exact hne e) (Nat.lt_of_lt_of_le hg hO.size) hE', hO.mono fun x hx => List.mem_cons_of_mem _ (inF x (in2 x hx))⟩
end

/-! ### The same, element k named -/
section
variable {α : Type} {e : Enc α} {f : α → List Cell} [he : CellsOf e f] {w : World} {lo g off n cap k : Nat} {ys : List α} {bs : List Nat}
theorem set_at {x : α} (hk : k < ys.length) : (ys.set k x)[k]? = some x := List.getElem?_set_self hk
theorem set_same {x : α} (h : ys[k]? = some x) : ys.set k x = ys := by
  obtain ⟨hk, rfl⟩ := List.getElem?_eq_some_iff.1 h
  exact List.set_getElem_self hk
theorem SliceRep.cellAt2 {x0 : α} (h : SliceRep e w (some ⟨g, off, none⟩) n cap (ys.set k x0) bs) (hF : Fresh lo w bs) (hk : k < ys.length) {c : Nat} {u : Value} (h0 : (f x0)[c]? = some (.c u)) :
    w.cell? ⟨g, off + k * e.size + c, none⟩ = some u ∧ w.frozen? ⟨g, off + k * e.size + c, none⟩ = false := h.cellAt hF (set_at hk) h0
theorem SliceRep.put2 {x0 : α} (h : SliceRep e w (some ⟨g, off, none⟩) n cap (ys.set k x0) bs) (hF : Fresh lo w bs) (hk : k < ys.length) (c : Nat) {u : Value} (v : Value) (x' : α) (h0 : (f x0)[c]? = some (.c u)) (hv : wfV v) (hx : f x' = (f x0).set c (.c v)) :
    SliceRep e (w.setCell ⟨g, off + k * e.size + c, none⟩ v) (some ⟨g, off, none⟩) n cap (ys.set k x') bs ∧ Only bs w (w.setCell ⟨g, off + k * e.size + c, none⟩ v) := by
  have := h.put hF (set_at hk) c v x' h0 hv hx
  rwa [List.set_set] at this
theorem SliceRep.nest2 {x0 : α} (h : SliceRep e w (some ⟨g, off, none⟩) n cap (ys.set k x0) bs) (hF : Fresh lo w bs) (hk : k < ys.length) {c : Nat} {β : Type} {e' : Enc β} {zs : List β} (h0 : (f x0)[c]? = some (.sl e' zs)) :
    ∃ a' n' cap' b', w.cell? ⟨g, off + k * e.size + c, none⟩ = some (.slice a' n' cap') ∧ SliceRep e' w a' n' cap' zs b' ∧ Fresh lo w b' ∧
      ∀ (w' : World) (zs' : List β) (x' : α), SliceRep e' w' a' n' cap' zs' b' → Only b' w w' → f x' = (f x0).set c (.sl e' zs') → SliceRep e w' (some ⟨g, off, none⟩) n cap (ys.set k x') bs ∧ Only bs w w' := by
  obtain ⟨a', n', cap', b', h1, h2, h3, h4⟩ := h.nest hF (set_at hk) h0
  refine ⟨a', n', cap', b', h1, h2, h3, fun w' zs' x' r o hx => ?_⟩
  have := h4 w' zs' x' r o hx
  rwa [List.set_set] at this
/-- A list in a datum, for a call that writes it anew. -/
theorem Enc.nest {cs : List Value} {x : α} (h : e.rep w cs x bs) (hF : Fresh lo w bs) {c : Nat} {β : Type} {e' : Enc β} {zs : List β} (h0 : (f x)[c]? = some (.sl e' zs)) :
    ∃ a' n' cap' b', cs[c]? = some (.slice a' n' cap') ∧ SliceRep e' w a' n' cap' zs b' ∧ Fresh lo w b' ∧
      ∀ (w' : World) (zs' : List β) (x' : α), SliceRep e' w' a' n' cap' zs' b' → Only b' w w' → f x' = (f x).set c (.sl e' zs') → e.rep w' cs x' bs ∧ Only bs w w' := by
  have hlt := e.lt h
  obtain ⟨b1, b2, b3, a, n', cap', rfl, h3, h4, h5⟩ := FR.get_sl (he.iff.1 h) h0
  have hn := hF.1
  rw [List.nodup_append, List.nodup_append] at hn
  refine ⟨a, n', cap', b2, h3, h4, ⟨hn.2.1.1, fun x hx => hF.2 x (List.mem_append_right _ (List.mem_append_left _ hx))⟩, fun w' zs' x' hr hO hx => ⟨he.iff.2 ?_, hO.mono fun x hx => List.mem_append_right _ (List.mem_append_left _ hx)⟩⟩
  rw [hx]
  exact h5 w' zs' hr (fun y hy => hO.keep y (hlt y (List.mem_append_left _ hy)) fun hy2 => hn.2.2 y hy y (List.mem_append_left _ hy2) rfl) (fun y hy => hO.keep y (hlt y (List.mem_append_right _ (List.mem_append_right _ hy))) fun hy2 => hn.2.1.2.2 y hy2 y hy rfl) hO.size
end
theorem wf64 {q : Int} (h0 : -9223372036854775808 ≤ q) (h1 : q ≤ 9223372036854775807) : wfV (.int .i64 q) := by
  show (Lit.int .i64 q).wf = true
  have h2 : IntKind.i64.min = -9223372036854775808 := by decide
  have h3 : IntKind.i64.max = 9223372036854775807 := by decide
  simp only [Lit.wf, h2, h3, Bool.and_eq_true, decide_eq_true_eq]; omega

/-! ### Lists -/
section
variable {α : Type} (f : α → Int → α × Int)
def markL : List α → Int → List α × Int
  | [], k => ([], k)
  | x :: xs, k => ((f x k).1 :: (markL xs (f x k).2).1, (markL xs (f x k).2).2)
def cntL (c : α → Nat) : List α → Nat
  | [] => 0
  | x :: xs => c x + cntL c xs
theorem markL_len : ∀ (xs : List α) (k : Int), (markL f xs k).1.length = xs.length
  | [], k => rfl
  | x :: xs, k => by simp [markL, markL_len xs]
theorem markL_cnt {c : α → Nat} (hc : ∀ x k, (f x k).2 = k + c x) : ∀ (xs : List α) (k : Int), (markL f xs k).2 = k + cntL c xs
  | [], k => by simp [markL, cntL]
  | x :: xs, k => by simp only [markL, cntL]; rw [markL_cnt hc xs, hc]; omega
theorem cntL_take {α : Type} {c : α → Nat} : ∀ {xs : List α} {j : Nat} (hj : j < xs.length), cntL c (xs.take j) + c xs[j] ≤ cntL c xs
  | [], j, h => by simp at h
  | x :: xs, 0, h => by simp [cntL]
  | x :: xs, j + 1, h => by
    have := cntL_take (c := c) (xs := xs) (j := j) (by simpa using h)
    simp only [List.take_succ_cons, cntL, List.getElem_cons_succ]; omega
theorem markL_app : ∀ (xs : List α) (y : α) (k : Int), markL f (xs ++ [y]) k = ((markL f xs k).1 ++ [(f y (markL f xs k).2).1], (f y (markL f xs k).2).2)
  | [], y, k => rfl
  | x :: xs, y, k => by simp [markL, markL_app xs]
/-- Marked up to j. -/
def markTo (xs : List α) (k : Int) (j : Nat) : List α := (markL f (xs.take j) k).1 ++ xs.drop j
def markK (xs : List α) (k : Int) (j : Nat) : Int := (markL f (xs.take j) k).2
theorem markTo_zero (xs : List α) (k : Int) : markTo f xs k 0 = xs := by simp [markTo, markL]
theorem markK_zero (xs : List α) (k : Int) : markK f xs k 0 = k := by simp [markK, markL]
theorem markTo_len (xs : List α) (k : Int) (j : Nat) : (markTo f xs k j).length = xs.length := by
  simp [markTo, markL_len]; omega
theorem markTo_at {xs : List α} {k : Int} {j : Nat} (hj : j < xs.length) : (markTo f xs k j)[j]? = some xs[j] := by
  rw [List.getElem?_eq_getElem (by rw [markTo_len]; exact hj)]
  simp only [markTo]
  congr 1
  rw [List.getElem_append_right (by rw [markL_len]; simp; omega)]
  simp only [markL_len, List.length_take, List.getElem_drop]
  congr 1; omega
theorem markTo_succ {xs : List α} {k : Int} {j : Nat} (hj : j < xs.length) : (markTo f xs k j).set j (f xs[j] (markK f xs k j)).1 = markTo f xs k (j + 1) := by
  simp only [markTo, markK]
  rw [List.set_append_right _ _ (by rw [markL_len]; simp; omega), markL_len]
  have h1 : j - (List.take j xs).length = 0 := by simp; omega
  rw [h1, List.drop_eq_getElem_cons hj, List.set_cons_zero, List.take_succ_eq_append_getElem (l := xs) hj, markL_app, List.append_assoc]
  rfl
theorem markK_succ {xs : List α} {k : Int} {j : Nat} (hj : j < xs.length) : markK f xs k (j + 1) = (f xs[j] (markK f xs k j)).2 := by
  simp only [markK]
  rw [List.take_succ_eq_append_getElem (l := xs) hj, markL_app]
theorem markTo_done (xs : List α) (k : Int) : markTo f xs k xs.length = (markL f xs k).1 := by simp [markTo]
theorem markK_done (xs : List α) (k : Int) : markK f xs k xs.length = (markL f xs k).2 := by simp [markK]
theorem markL_at : ∀ {xs : List α} {k : Int} {j : Nat} (hj : j < xs.length), (markL f xs k).1[j]'(by rw [markL_len]; exact hj) = (f xs[j] (markK f xs k j)).1
  | [], k, j, h => by simp at h
  | x :: xs, k, 0, h => by simp [markL, markK]
  | x :: xs, k, j + 1, h => by
    have := markL_at (xs := xs) (k := (f x k).2) (j := j) (by simpa using h)
    simp only [markL, List.getElem_cons_succ, this, markK, List.take_succ_cons]
theorem markL_at' {xs ys : List α} {k : Int} (h : (markL f xs k).1 = ys) {j : Nat} (hj : j < xs.length) : ys[j]'(by rw [← h, markL_len]; exact hj) = (f (xs[j]'hj) (markK f xs k j)).1 := by
  subst h; exact markL_at f hj
theorem markK_bound {c : α → Nat} (hc : ∀ x k, (f x k).2 = k + c x) {xs : List α} {k M : Int} (h0 : 0 ≤ k) (h1 : k + cntL c xs ≤ M) {j : Nat} (hj : j < xs.length) : 0 ≤ markK f xs k j ∧ markK f xs k j + c xs[j] ≤ M := by
  have := cntL_take (c := c) hj
  simp only [markK, markL_cnt f hc]
  omega
end
theorem cntL_le {α : Type} {c : α → Nat} {M : Nat} : ∀ {xs : List α}, (∀ x ∈ xs, c x ≤ M) → cntL c xs ≤ M * xs.length
  | [], _ => by simp [cntL]
  | x :: xs, h => by
    have h1 := h x (List.mem_cons_self ..)
    have h2 := cntL_le (c := c) (M := M) (xs := xs) fun y hy => h y (List.mem_cons_of_mem _ hy)
    simp only [cntL, List.length_cons, Nat.mul_add, Nat.mul_one]; omega
end Go.Proofs.Ytgmlecghklaomaa

/- The laws' markText: a text for a number. -/
namespace Go.Proofs.Ytgmlecghklaomaa
open Go.RowKit
set_option linter.unusedVariables false

/-- The digits of m ahead of out. -/
def digs (m : Nat) (out : ByteArray) : ByteArray := if h : m = 0 then out else digs (m / 10) (Utf8.encode (48 + ((m % 10 : Nat) : Int)) ++ out)
termination_by m
decreasing_by omega
theorem digs_zero (out : ByteArray) : digs 0 out = out := by rw [digs]; rfl
theorem digs_step {m : Nat} (h : 0 < m) (out : ByteArray) : digs (m / 10) (Utf8.encode (48 + ((m % 10 : Nat) : Int)) ++ out) = digs m out := by
  conv => rhs; rw [digs]
  rw [dif_neg (by omega)]
def markText (k : Int) : ByteArray := if k ≤ 0 then ⟨#[109, 48]⟩ else ⟨#[109]⟩ ++ digs k.toNat ⟨#[]⟩
theorem markText_neg {k : Int} (h : k ≤ 0) : markText k = ⟨#[109, 48]⟩ := if_pos h
theorem markText_pos {k : Int} (h : ¬ k ≤ 0) : markText k = ⟨#[109]⟩ ++ digs k.toNat ⟨#[]⟩ := if_neg h
theorem enc_dig_size {d : Int} (h0 : 0 ≤ d) (h1 : d < 10) : (Utf8.encode (48 + d)).size = 1 := by rw [utf8_dig h0 h1]; rfl
theorem digs_size : ∀ (m : Nat) (out : ByteArray), m < 10 ^ (20 - out.size) → out.size ≤ 20 → (digs m out).size ≤ 20 := by
  intro m
  induction m using Nat.strongRecOn with
  | _ m ih =>
    intro out h hs
    by_cases h0 : m = 0
    · subst h0; rw [digs_zero]; exact hs
    · rw [← digs_step (by omega)]
      have hz : (Utf8.encode (48 + ((m % 10 : Nat) : Int)) ++ out).size = out.size + 1 := by rw [ByteArray.size_append, enc_dig_size (by omega) (by omega)]; omega
      have h20 : out.size < 20 := by
        rcases Nat.lt_or_ge out.size 20 with h2 | h2
        · exact h2
        · rw [show 20 - out.size = 0 by omega] at h; simp at h; omega
      refine ih (m / 10) (by omega) _ ?_ (by omega)
      rw [hz, Nat.div_lt_iff_lt_mul (by omega), ← Nat.pow_succ, show (20 - (out.size + 1)).succ = 20 - out.size by omega]
      exact h
theorem markText_size {k : Int} (h : k ≤ 9223372036854775807) : (markText k).size ≤ 21 := by
  unfold markText
  split
  · decide
  · rw [ByteArray.size_append]
    have h1 : k.toNat < 10 ^ (20 - (⟨#[]⟩ : ByteArray).size) := by
      have : (⟨#[]⟩ : ByteArray).size = 0 := rfl
      rw [this]
      have : (10 : Nat) ^ (20 - 0) = 100000000000000000000 := by decide
      omega
    have := digs_size k.toNat ⟨#[]⟩ h1 (by decide)
    have h2 : (⟨#[109]⟩ : ByteArray).size = 1 := rfl
    omega

theorem wfText {k : Int} (h : k ≤ 9223372036854775807) : wfV (.string (markText k)) := by
  have := markText_size h
  show (markText k).size ≤ maxLen
  unfold maxLen; omega
theorem wfByte (k : Int) : wfV (.int .u8 (IntKind.u8.wrap k)) := wf_wrap _ _
theorem cell_only {bs : List Nat} {w w' : World} {a : Addr} {v : Value} (h : w.cell? a = some v) (o : Only bs w w') (hn : a.block ∉ bs) : w'.cell? a = some v := by
  have hlt : a.block < w.heap.size := by
    unfold World.cell? at h
    rcases Nat.lt_or_ge a.block w.heap.size with hlt | hge
    · exact hlt
    · rw [Array.getElem?_eq_none hge] at h; cases h
  exact (World.cell?_of_block (w := w) (o.keep a.block hlt hn)).trans h

end Go.Proofs.Ytgmlecghklaomaa

/- The laws' marks: MarkA (printed by genmark.py) -/
namespace Go.Proofs.Ytgmlecghklaomaa
open Go.RowKit
set_option linter.unusedVariables false
set_option linter.unusedSimpArgs false
set_option maxRecDepth 100000

def markValue (x : Val) (k : Int) : Val × Int := (⟨k, markText (k + 1)⟩, k + 1 + 1)
def cntValue (x : Val) : Nat := 1 + 1
theorem markValue_cnt (x : Val) (k : Int) : (markValue x k).2 = k + cntValue x := by
  simp only [markValue, cntValue]
  try omega
def markRow (x : List Val) (k : Int) : List Val × Int := ((markL markValue x (k)).1, (markL markValue x (k)).2)
def cntRow (x : List Val) : Nat := cntL cntValue x
theorem markRow_cnt (x : List Val) (k : Int) : (markRow x k).2 = k + cntRow x := by
  simp only [markRow, cntRow, markL_cnt markValue markValue_cnt]
  try omega
def markDRow (x : List Val) (k : Int) : List Val × Int := ((markL markValue x (k)).1, (markL markValue x (k)).2)
def cntDRow (x : List Val) : Nat := cntL cntValue x
theorem markDRow_cnt (x : List Val) (k : Int) : (markDRow x k).2 = k + cntDRow x := by
  simp only [markDRow, cntDRow, markL_cnt markValue markValue_cnt]
  try omega
def markDRel (x : Relt) (k : Int) : Relt × Int := (⟨x.arity, (markL markRow x.rows (k)).1⟩, (markL markRow x.rows (k)).2)
def cntDRel (x : Relt) : Nat := cntL cntRow x.rows
theorem markDRel_cnt (x : Relt) (k : Int) : (markDRel x k).2 = k + cntDRel x := by
  simp only [markDRel, cntDRel, markL_cnt markRow markRow_cnt]
  try omega
end Go.Proofs.Ytgmlecghklaomaa

/- The order of values and rows ars plain laws: equal, transitive; a binary search's answer. -/
namespace Go.Proofs.Ytgmlecghklaomaa
open Go.RowKit
set_option linter.unusedVariables false

def hasRow (rows : List (List Val)) (row : List Val) : Bool := decide (row ∈ rows)
theorem hasRow_at {rows : List (List Val)} {row : List Val} {k : Nat} (hk : k < rows.length) (h : sameRow rows[k] row = true) : hasRow rows row = true := by
  rw [sameRow, decide_eq_true_iff] at h
  rw [hasRow, decide_eq_true_iff, ← h]
  exact List.getElem_mem hk
theorem hasRow_none {rows : List (List Val)} {row : List Val} {k : Nat} (h : NoneTo (fun r => sameRow r row) rows k) (hk : rows.length ≤ k) : hasRow rows row = false := by
  rw [hasRow, decide_eq_false_iff_not]
  intro hm
  obtain ⟨j, hj, e⟩ := List.getElem_of_mem hm
  have := h j hj (by omega)
  simp only [e, sameRow_eq rfl] at this
  cases this

theorem compareBytes_eq : ∀ {a b : List UInt8}, Lib.compareBytes a b = 0 → a = b
  | [], [], _ => rfl
  | [], _ :: _, h => by simp [Lib.compareBytes] at h
  | _ :: _, [], h => by simp [Lib.compareBytes] at h
  | x :: a, y :: b, h => by
    unfold Lib.compareBytes at h
    by_cases h1 : x < y
    · simp [h1] at h
    · by_cases h2 : y < x
      · simp [h1, h2] at h
      · simp only [h1, h2, if_false] at h
        have e : x = y := UInt8.le_antisymm (UInt8.not_lt.1 h2) (UInt8.not_lt.1 h1)
        rw [e, compareBytes_eq h]
theorem compareBytes_self : ∀ (a : List UInt8), Lib.compareBytes a a = 0
  | [] => by simp [Lib.compareBytes]
  | x :: a => by
    have := compareBytes_self a
    unfold Lib.compareBytes
    simp [UInt8.lt_irrefl, this]
theorem compareBytes_trans : ∀ {a b c : List UInt8}, Lib.compareBytes a b < 0 → Lib.compareBytes b c < 0 → Lib.compareBytes a c < 0
  | [], [], _, h, _ => by simp [Lib.compareBytes] at h
  | [], _ :: _, [], _, h => by simp [Lib.compareBytes] at h
  | [], _ :: _, _ :: _, _, _ => by simp [Lib.compareBytes]
  | _ :: _, [], _, h, _ => by simp [Lib.compareBytes] at h
  | _ :: _, _ :: _, [], _, h => by simp [Lib.compareBytes] at h
  | x :: a, y :: b, z :: c, h, h' => by
    unfold Lib.compareBytes at h h' ⊢
    by_cases h1 : x < y
    · by_cases h3 : y < z
      · simp [UInt8.lt_trans h1 h3]
      · by_cases h4 : z < y
        · simp [h3, h4] at h'
        · have e : y = z := UInt8.le_antisymm (UInt8.not_lt.1 h4) (UInt8.not_lt.1 h3)
          subst e; simp [h1]
    · by_cases h2 : y < x
      · simp [h1, h2] at h
      · have e : x = y := UInt8.le_antisymm (UInt8.not_lt.1 h2) (UInt8.not_lt.1 h1)
        subst e
        simp only [h1, if_false] at h
        by_cases h3 : x < z
        · simp [h3]
        · by_cases h4 : z < x
          · simp [h3, h4] at h'
          · simp only [h3, h4, if_false] at h' ⊢
            exact compareBytes_trans h h'

theorem valOk_zero {v : Val} (h : valOk v = true) (hs : v.s.toList.isEmpty = false) : v.n = 0 := by
  rw [valOk_word hs] at h
  simp only [Bool.and_eq_true, beq_iff_eq] at h
  exact h.1
theorem bytes_ext {a b : ByteArray} (h : a.data.toList = b.data.toList) : a = b := by
  obtain ⟨⟨a⟩⟩ := a
  obtain ⟨⟨b⟩⟩ := b
  simp at h; rw [h]
theorem bytes_empty {a : ByteArray} (h : a.toList.isEmpty = true) : a.data.toList = [] := by
  rw [ByteArray.toList_eq] at h
  simpa using h
theorem cmpVal_eq {a b : Val} (ha : valOk a = true) (hb : valOk b = true) (h : cmpVal a b = 0) : a = b := by
  obtain ⟨n, s⟩ := a
  obtain ⟨m, r⟩ := b
  unfold cmpVal at h
  cases h1 : s.toList.isEmpty <;> cases h2 : r.toList.isEmpty
  · simp only [h1, h2] at h
    have hn := valOk_zero ha h1
    have hm := valOk_zero hb h2
    have := bytes_ext (compareBytes_eq h)
    simp_all
  · simp [h1, h2] at h
  · simp [h1, h2] at h
  · simp only [h1, h2, if_true] at h
    have e : s = r := bytes_ext (by rw [bytes_empty h1, bytes_empty h2])
    have : n = m := by omega
    rw [e, this]
theorem cmpVal_self (a : Val) : cmpVal a a = 0 := by
  unfold cmpVal
  split
  · omega
  · exact compareBytes_self _
theorem cmpVal_trans {a b c : Val} (h : cmpVal a b < 0) (h' : cmpVal b c < 0) : cmpVal a c < 0 := by
  unfold cmpVal at *
  cases h1 : a.s.toList.isEmpty <;> cases h2 : b.s.toList.isEmpty <;> cases h3 : c.s.toList.isEmpty <;> simp only [h1, h2, h3, if_true, Bool.false_eq_true, if_false] at h h' ⊢ <;> first | omega | exact compareBytes_trans h h'

theorem cmpRow_self : ∀ a : List Val, cmpRow a a = 0
  | [] => rfl
  | x :: a => by unfold cmpRow; rw [if_pos (cmpVal_self x)]; exact cmpRow_self a
theorem cmpRow_eq : ∀ {a b : List Val}, (∀ v ∈ a, valOk v = true) → (∀ v ∈ b, valOk v = true) → cmpRow a b = 0 → a = b
  | [], [], _, _, _ => rfl
  | [], _ :: _, _, _, h => by simp [cmpRow] at h
  | _ :: _, [], _, _, h => by simp [cmpRow] at h
  | x :: a, y :: b, ha, hb, h => by
    unfold cmpRow at h
    by_cases hc : cmpVal x y = 0
    · rw [if_pos hc] at h
      rw [cmpVal_eq (ha x (by simp)) (hb y (by simp)) hc, cmpRow_eq (fun v hv => ha v (by simp [hv])) (fun v hv => hb v (by simp [hv])) h]
    · rw [if_neg hc] at h; exact absurd h hc
theorem cmpRow_trans : ∀ {a b c : List Val}, (∀ v ∈ a, valOk v = true) → (∀ v ∈ b, valOk v = true) → (∀ v ∈ c, valOk v = true) → cmpRow a b < 0 → cmpRow b c < 0 → cmpRow a c < 0
  | [], [], _, _, _, _, h, _ => by simp [cmpRow] at h
  | [], _ :: _, [], _, _, _, _, h => by simp [cmpRow] at h
  | [], _ :: _, _ :: _, _, _, _, _, _ => by simp [cmpRow]
  | _ :: _, [], _, _, _, _, h, _ => by simp [cmpRow] at h
  | _ :: _, _ :: _, [], _, _, _, _, h => by simp [cmpRow] at h
  | x :: a, y :: b, z :: c, ha, hb, hc, h, h' => by
    unfold cmpRow at h h' ⊢
    by_cases h1 : cmpVal x y = 0
    · have e := cmpVal_eq (ha x (by simp)) (hb y (by simp)) h1
      subst e
      rw [if_pos h1] at h
      by_cases h2 : cmpVal x z = 0
      · rw [if_pos h2] at h' ⊢
        exact cmpRow_trans (fun v hv => ha v (by simp [hv])) (fun v hv => hb v (by simp [hv])) (fun v hv => hc v (by simp [hv])) h h'
      · rw [if_neg h2] at h' ⊢; exact h'
    · rw [if_neg h1] at h
      by_cases h2 : cmpVal y z = 0
      · have e := cmpVal_eq (hb y (by simp)) (hc z (by simp)) h2
        subst e
        rw [if_neg h1]; exact h
      · rw [if_neg h2] at h'
        have h3 := cmpVal_trans h h'
        rw [if_neg (by omega)]; exact h3

/-- Rows of right values, each before the next. -/
def Sorted (rows : List (List Val)) : Prop := (∀ j (h : j < rows.length), ∀ v ∈ rows[j], valOk v = true) ∧ ∀ i j (hi : i < rows.length) (hj : j < rows.length), i < j → cmpRow rows[i] rows[j] < 0
theorem relOk_sorted {x : Relt} (h : relOk x = true) : Sorted x.rows := by
  have hr : relRows x.rows x.arity = true := by simp only [relOk, Bool.and_eq_true] at h; exact h.1
  have hg := relRows_good hr
  have hok : ∀ j (h : j < x.rows.length), ∀ v ∈ x.rows[j], valOk v = true := fun j hj => rowOk_vals (hg.row hj hj)
  refine ⟨hok, ?_⟩
  intro i j hi hj hij
  induction j with
  | zero => omega
  | succ j ih =>
    have hs : cmpRow x.rows[j] x.rows[j + 1] < 0 := by
      have := hg (j + 1) hj hj
      simp only [rowAt, Bool.and_eq_true, decide_eq_true_eq] at this
      exact this.2
    rcases Nat.lt_or_ge i j with h1 | h1
    · exact cmpRow_trans (hok i hi) (hok j (by omega)) (hok (j + 1) hj) (ih (by omega) h1) hs
    · obtain rfl : i = j := by omega
      exact hs

/-- Everything ahead of i stands before the row; nothing from j on does. -/
def Between (rows : List (List Val)) (row : List Val) (i j : Nat) : Prop :=
  (∀ t (h : t < rows.length), t < i → cmpRow rows[t] row < 0) ∧ ∀ t (h : t < rows.length), j ≤ t → ¬ cmpRow rows[t] row < 0
theorem Between.start {rows : List (List Val)} {row : List Val} : Between rows row 0 rows.length := ⟨fun _ _ h => absurd h (by omega), fun _ h h' => absurd h (by omega)⟩
theorem Between.right {rows : List (List Val)} {row : List Val} {i j h : Nat} (hs : Sorted rows) (hr : ∀ v ∈ row, valOk v = true) (H : Between rows row i j) (hh : h < rows.length) (hc : cmpRow rows[h] row < 0) : Between rows row (h + 1) j :=
  ⟨fun t ht hth => by
    rcases Nat.lt_or_ge t h with h1 | h1
    · exact cmpRow_trans (hs.1 t ht) (hs.1 h hh) hr (hs.2 t h ht hh h1) hc
    · obtain rfl : t = h := by omega
      exact hc, H.2⟩
theorem Between.left {rows : List (List Val)} {row : List Val} {i j h : Nat} (hs : Sorted rows) (hr : ∀ v ∈ row, valOk v = true) (H : Between rows row i j) (hh : h < rows.length) (hc : ¬ cmpRow rows[h] row < 0) : Between rows row i h :=
  ⟨H.1, fun t ht hth hlt => by
    rcases Nat.lt_or_ge h t with h1 | h1
    · exact hc (cmpRow_trans (hs.1 h hh) (hs.1 t ht) hr (hs.2 h t hh ht h1) hlt)
    · obtain rfl : t = h := by omega
      exact hc hlt⟩
/-- The place of a row in a right relation, or where it would be. -/
def pos (rows : List (List Val)) (row : List Val) : Nat := rows.findIdx fun r => !decide (cmpRow r row < 0)
theorem Between.pos {rows : List (List Val)} {row : List Val} {i : Nat} (hi : i ≤ rows.length) (H : Between rows row i i) : pos rows row = i := by
  unfold Proofs.Ytgmlecghklaomaa.pos
  rcases Nat.lt_or_ge i rows.length with h1 | h1
  · rw [List.findIdx_eq h1]
    exact ⟨by simpa using H.2 i h1 (Nat.le_refl _), fun j hj => by simpa using H.1 j (by omega) hj⟩
  · obtain rfl : i = rows.length := by omega
    rw [List.findIdx_eq_length]
    intro r hr
    obtain ⟨j, hj, rfl⟩ := List.getElem_of_mem hr
    simpa using H.1 j hj hj
theorem Between.has {rows : List (List Val)} {row : List Val} {i : Nat} (hs : Sorted rows) (hr : ∀ v ∈ row, valOk v = true) (hi : i < rows.length) (H : Between rows row i i) : hasRow rows row = (cmpRow rows[i] row == 0) := by
  rw [hasRow]
  by_cases hc : cmpRow rows[i] row = 0
  · have e := cmpRow_eq (hs.1 i hi) hr hc
    have : row ∈ rows := by rw [← e]; exact List.getElem_mem hi
    simp [hc, this]
  · have : row ∉ rows := by
      intro hm
      obtain ⟨j, hj, e⟩ := List.getElem_of_mem hm
      have h0 : cmpRow rows[j] row = 0 := by rw [e]; exact cmpRow_self _
      have h1 : i ≤ j := by
        rcases Nat.lt_or_ge j i with h | h
        · have := H.1 j hj h; omega
        · exact h
      rcases Nat.lt_or_ge i j with h2 | h2
      · have := hs.2 i j hi hj h2
        rw [e] at this
        exact H.2 i hi (Nat.le_refl _) this
      · obtain rfl : i = j := by omega
        exact hc h0
    simp [hc, this]
theorem Between.hasNot {rows : List (List Val)} {row : List Val} (H : Between rows row rows.length rows.length) : hasRow rows row = false := by
  rw [hasRow, decide_eq_false_iff_not]
  intro hm
  obtain ⟨j, hj, e⟩ := List.getElem_of_mem hm
  have := H.1 j hj hj
  rw [e, cmpRow_self] at this
  omega
theorem hasRow_bad {rows : List (List Val)} {row : List Val} (hs : ∀ j (h : j < rows.length), rowOk rows[j] = true) (hr : rowOk row = false) : hasRow rows row = false := by
  rw [hasRow, decide_eq_false_iff_not]
  intro hm
  obtain ⟨j, hj, e⟩ := List.getElem_of_mem hm
  have := hs j hj
  rw [e, hr] at this; cases this
theorem relOk_rows {x : Relt} (h : relOk x = true) : ∀ j (h : j < x.rows.length), rowOk x.rows[j] = true := by
  have hr : relRows x.rows x.arity = true := by simp only [relOk, Bool.and_eq_true] at h; exact h.1
  exact fun j hj => (relRows_good hr).row hj hj
def relHas (x : Relt) (row : List Val) : Bool := relOk x && hasRow x.rows row
theorem relHas_bad {x : Relt} {row : List Val} (h : relOk x = false) : relHas x row = false := by rw [relHas, h]; rfl
theorem relHas_row {x : Relt} {row : List Val} (h : relOk x = true) (hr : rowOk row = false) : relHas x row = false := by rw [relHas, hasRow_bad (relOk_rows h) hr]; simp
theorem relHas_ok {x : Relt} {row : List Val} (h : relOk x = true) : relHas x row = hasRow x.rows row := by rw [relHas, h]; simp
theorem relOk_len {x : Relt} (h : relOk x = true) : x.rows.length ≤ 1048576 := by
  simp only [relOk, Bool.and_eq_true, decide_eq_true_eq] at h
  omega
end Go.Proofs.Ytgmlecghklaomaa

/- Like relations, in plain words. -/
namespace Go.Proofs.Ytgmlecghklaomaa
open Go.RowKit
set_option linter.unusedVariables false

def LikeTo {α : Type} (xs ys : List α) (k : Nat) : Prop := ∀ j (h : j < xs.length) (h' : j < ys.length), j < k → xs[j] = ys[j]
theorem LikeTo.zero {α : Type} {xs ys : List α} : LikeTo xs ys 0 := fun _ _ _ h => absurd h (by omega)
theorem LikeTo.succ {α : Type} {xs ys : List α} {k : Nat} (h : LikeTo xs ys k) (hk : k < xs.length) (hk' : k < ys.length) (hs : xs[k] = ys[k]) : LikeTo xs ys (k + 1) := fun j hj hj' hjk => by
  rcases Nat.lt_or_ge j k with h1 | h1
  · exact h j hj hj' h1
  · obtain rfl : j = k := by omega
    exact hs
theorem LikeTo.eq {α : Type} {xs ys : List α} {k : Nat} (hl : xs.length = ys.length) (hk : xs.length ≤ k) (h : LikeTo xs ys k) : xs = ys :=
  List.ext_getElem hl fun j h1 h2 => h j h1 h2 (by omega)
theorem sameRow_iff {a b : List Val} : sameRow a b = true ↔ a = b := by simp [sameRow]
theorem sameRow_ne {a b : List Val} (h : sameRow a b = false) : a ≠ b := by simpa [sameRow] using h
def sameRows (a b : List (List Val)) : Bool := decide (a = b)
theorem sameRows_len {a b : List (List Val)} (h : ¬ a.length = b.length) : sameRows a b = false := decide_eq_false fun e => h (by rw [e])
theorem sameRows_at {a b : List (List Val)} {k : Nat} (hk : k < a.length) (hk' : k < b.length) (hs : sameRow a[k] b[k] = false) : sameRows a b = false := decide_eq_false fun e => by subst e; exact sameRow_ne hs rfl
theorem sameRows_eq {a b : List (List Val)} (h : a = b) : sameRows a b = true := decide_eq_true h
/-- Two right relations of one arity. -/
def two (a b : Relt) : Bool := relOk a && (relOk b && (a.arity == b.arity))
theorem two_a {a b : Relt} (h : relOk a = false) : two a b = false := by simp [two, h]
theorem two_b {a b : Relt} (h : relOk b = false) : two a b = false := by simp [two, h]
theorem two_ok {a b : Relt} (h : relOk a = true) (h' : relOk b = true) : two a b = (a.arity == b.arity) := by simp [two, h, h']
theorem two_left {a b : Relt} (h : two a b = true) : relOk a = true := by simp only [two, Bool.and_eq_true] at h; exact h.1
theorem two_right {a b : Relt} (h : two a b = true) : relOk b = true := by simp only [two, Bool.and_eq_true] at h; exact h.2.1
theorem two_arity {a b : Relt} (h : two a b = true) : a.arity = b.arity := by simp only [two, Bool.and_eq_true, beq_iff_eq] at h; exact h.2.2
def likeRel (a b : Relt) : Bool := a.arity == b.arity && sameRows a.rows b.rows
def sameRel (a b : Relt) : Bool := two a b && sameRows a.rows b.rows
theorem sameRel_two {a b : Relt} (h : two a b = false) : sameRel a b = false := by simp [sameRel, h]
theorem sameRel_rows {a b : Relt} (h : sameRows a.rows b.rows = false) : sameRel a b = false := by simp [sameRel, h]
theorem sameRel_yes {a b : Relt} (h : two a b = true) (h' : sameRows a.rows b.rows = true) : sameRel a b = true := by simp [sameRel, h, h']
theorem sameRel_like {a b : Relt} (h : relOk a = true) (h' : relOk b = true) : sameRel a b = likeRel a b := by simp [sameRel, two_ok h h', likeRel]
theorem likeRel_ar {a b : Relt} (h : (a.arity == b.arity) = false) : likeRel a b = false := by simp [likeRel, h]
theorem likeRel_ok {a b : Relt} (h : (a.arity == b.arity) = true) : likeRel a b = sameRows a.rows b.rows := by simp [likeRel, h]
/-- What two relations have in common, and what the first has alone. -/
def relBoth (a b : Relt) : Relt × Bool := if two a b = true then (⟨a.arity, a.rows.filter (fun row => hasRow b.rows row)⟩, true) else (⟨0, []⟩, false)
def relMinus (a b : Relt) : Relt × Bool := if two a b = true then (⟨a.arity, a.rows.filter (fun row => !hasRow b.rows row)⟩, true) else (⟨0, []⟩, false)
theorem relBoth_ok {a b : Relt} (h : two a b = true) : relBoth a b = (⟨a.arity, a.rows.filter (fun row => hasRow b.rows row)⟩, true) := if_pos h
theorem relBoth_no {a b : Relt} (h : two a b = false) : relBoth a b = (⟨0, []⟩, false) := if_neg (by simp [h])
theorem relMinus_ok {a b : Relt} (h : two a b = true) : relMinus a b = (⟨a.arity, a.rows.filter (fun row => !hasRow b.rows row)⟩, true) := if_pos h
theorem relMinus_no {a b : Relt} (h : two a b = false) : relMinus a b = (⟨0, []⟩, false) := if_neg (by simp [h])
theorem two_vals {a b : Relt} (h : two a b = true) : ∀ r ∈ a.rows, ∀ v ∈ r, valOk v = true := fun r hr v hv => by
  obtain ⟨j, hj, rfl⟩ := List.getElem_of_mem hr
  exact (relOk_sorted (two_left h)).1 j hj v hv
end Go.Proofs.Ytgmlecghklaomaa

/- Sizes of data (printed by mktot.py) -/
namespace Go.Proofs.Ytgmlecghklaomaa
open Go.RowKit
set_option linter.unusedVariables false

def totL {α : Type} (c : α → Nat) (xs : List α) : Nat := xs.length + cntL c xs
def szR (n : Nat) (left : Int) : Int := if (n : Int) ≤ left then left - n else -1
theorem szR_le {n : Nat} {l : Int} (h : (n : Int) ≤ l) : szR n l = l - n := if_pos h
theorem szR_gt {n : Nat} {l : Int} (h : l < (n : Int)) : szR n l = -1 := if_neg (by omega)
theorem szR_neg {n : Nat} {l : Int} (h : szR n l < 0) : l < (n : Int) := by
  unfold szR at h; split at h <;> omega
theorem szR_nonneg {n : Nat} {l : Int} (h : 0 ≤ szR n l) : (n : Int) ≤ l ∧ szR n l = l - n := by
  unfold szR at *; split at h
  · rename_i h1; exact ⟨h1, if_pos h1⟩
  · omega
theorem cntL_snoc {α : Type} {c : α → Nat} {xs : List α} {k : Nat} (hk : k < xs.length) : cntL c (xs.take (k + 1)) = cntL c (xs.take k) + c xs[k] := by
  rw [List.take_succ_eq_append_getElem hk]
  generalize xs.take k = ys
  generalize xs[k] = y
  induction ys with
  | nil => simp [cntL]
  | cons z zs ih => simp only [List.cons_append, cntL, ih]; omega
theorem cntL_all {α : Type} {c : α → Nat} {xs : List α} {k : Nat} (hk : xs.length ≤ k) : cntL c (xs.take k) = cntL c xs := by rw [List.take_of_length_le hk]
theorem cntL_mem {α : Type} {c : α → Nat} : ∀ {xs : List α} {x : α}, x ∈ xs → c x ≤ cntL c xs
  | y :: ys, x, h => by
    rcases List.mem_cons.1 h with rfl | h
    · simp only [cntL]; omega
    · have := cntL_mem (c := c) h; simp only [cntL]; omega

def totString (x : ByteArray) : Nat := x.size
def totValue (x : Val) : Nat := x.s.size
def totRow (x : List Val) : Nat := totL totValue x
def totRel (x : Relt) : Nat := totL totRow x.rows
end Go.Proofs.Ytgmlecghklaomaa

/- Plain laws on relations that are copied, marked, counted. -/
namespace Go.Proofs.Ytgmlecghklaomaa
open Go.RowKit
set_option linter.unusedVariables false

theorem totL_len {α : Type} {c : α → Nat} {xs : List α} {M : Nat} (h : totL c xs ≤ M) : xs.length ≤ M := by unfold totL at h; omega
theorem totL_mem {α : Type} {c : α → Nat} {xs : List α} {M : Nat} (h : totL c xs ≤ M) {x : α} (hx : x ∈ xs) : c x ≤ M := by
  have := cntL_mem (c := c) hx
  unfold totL at h; omega
theorem totRow_small {r : List Val} (h : totRow r ≤ 1048576) : smallRow r := ⟨totL_len h, fun v hv => totL_mem (c := totValue) h hv⟩
theorem totRel_small {r : Relt} (h : totRel r ≤ 1048576) : smallRel r := ⟨totL_len h, fun x hx => totRow_small (totL_mem (c := totRow) h hx)⟩
theorem cntRow_le {r : List Val} (h : smallRow r) : cntRow r ≤ 2097152 := by
  have := cntL_le (c := cntValue) (M := 2) (xs := r) fun x _ => by simp [cntValue]
  have := h.1
  simp only [cntRow]; omega
theorem cntRel_le {r : Relt} (h : smallRel r) : cntDRel r ≤ 1152921504606846976 := by
  have := cntL_le (c := cntRow) (M := 2097152) (xs := r.rows) fun x hx => cntRow_le (h.2 x hx)
  have := h.1
  simp only [cntDRel]; omega
theorem small_filter {a : Relt} (p : List Val → Bool) (n : Int) (h : smallRel a) : smallRel ⟨n, a.rows.filter p⟩ :=
  ⟨Nat.le_trans (List.length_filter_le _ _) h.1, fun x hx => h.2 x (List.mem_filter.1 hx).1⟩
theorem small_none {n : Int} : smallRel ⟨n, []⟩ := ⟨by simp, fun x hx => by cases hx⟩
theorem relBoth_small {a b : Relt} (ha : smallRel a) (hb : smallRel b) : smallRel (relBoth a b).1 := by
  unfold relBoth; split
  · exact small_filter _ _ ha
  · exact small_none
theorem relMinus_small {a b : Relt} (ha : smallRel a) (hb : smallRel b) : smallRel (relMinus a b).1 := by
  unfold relMinus; split
  · exact small_filter _ _ ha
  · exact small_none
end Go.Proofs.Ytgmlecghklaomaa

/- The laws' own functions: GenF (printed by gen.py) -/
namespace Go.Proofs.Ytgmlecghklaomaa
open Go.RowKit
set_option linter.unusedVariables false
set_option maxRecDepth 100000

structure Termt where
  var : ByteArray
  val : Val
def termE : Enc Termt := isoE (pairE strE (pairE valE unitE)) (fun x => (x.var, x.val, ()))
theorem Term_rep {w : World} {cs : List Value} {x : Termt} {bs : List Nat} : termE.rep w cs x bs ↔ cs = [.string x.var, .int .i64 x.val.n, .string x.val.s] ∧ x.var.size ≤ maxLen ∧ (Lit.int .i64 x.val.n).wf = true ∧ x.val.s.size ≤ maxLen ∧ bs = [] := by
  constructor
  · rintro ⟨c0, r0, d0, q0, rfl, rfl, h0, c1, r1, d1, q1, rfl, rfl, h1, rfl, rfl⟩
    obtain ⟨rfl, f0, rfl⟩ := h0
    obtain ⟨rfl, f1_0, f1_1, hbs⟩ := Value_rep.1 h1
    obtain rfl := hbs.symm
    exact ⟨by simp, f0, f1_0, f1_1, by simp⟩
  · rintro ⟨rfl, f0, f1, f2, hbs⟩
    obtain rfl := hbs.symm
    exact ⟨[.string x.var], [.int .i64 x.val.n, .string x.val.s], [], [], rfl, by simp, ⟨rfl, f0, rfl⟩, ⟨[.int .i64 x.val.n, .string x.val.s], [], [], [], rfl, by simp, Value_rep.2 ⟨rfl, f1, f2, rfl⟩, ⟨rfl, rfl⟩⟩⟩
theorem opens_lTerm : Opens Try.prog termE 203 :=
  opens_iso (fun x => ⟨x.1, x.2.1⟩) (fun _ => rfl) (opens_struct Try.underlying203 (by kernel_rfl) (opensF_cons rfl (by kernel_rfl) (opens_string Try.underlying9) (opensF_cons rfl (by kernel_rfl) opens_lValue opensF_nil)))
def termC (x : Termt) : List Cell := [.c (.string x.var), .c (.int .i64 x.val.n), .c (.string x.val.s)]
instance : CellsOf termE termC := cellsIso (e := (pairE strE (pairE valE unitE))) (fun x : Termt => (x.var, x.val, ()))
def smallTerm (x : Termt) : Prop := x.var.size ≤ 1048576 ∧ smallValue x.val

structure Atomt where
  name : ByteArray
  args : List (Termt)
def atomE : Enc Atomt := isoE (pairE strE (pairE (sliceE termE) unitE)) (fun x => (x.name, x.args, ()))
theorem Atom_rep {w : World} {cs : List Value} {x : Atomt} {bs : List Nat} : atomE.rep w cs x bs ↔ ∃ (sa0 : Option Addr) (sn0 sc0 : Nat) (sb0 : List Nat), cs = [.string x.name, .slice sa0 sn0 sc0] ∧ x.name.size ≤ maxLen ∧ SliceRep termE w sa0 sn0 sc0 x.args sb0 ∧ bs = sb0 := by
  constructor
  · rintro ⟨c0, r0, d0, q0, rfl, rfl, h0, c1, r1, d1, q1, rfl, rfl, h1, rfl, rfl⟩
    obtain ⟨rfl, f0, rfl⟩ := h0
    obtain ⟨va0, vn0, vc0, rfl, f1⟩ := h1
    exact ⟨va0, vn0, vc0, _, by simp, f0, f1, by simp⟩
  · rintro ⟨sa0, sn0, sc0, sb0, rfl, f0, f1, hbs⟩
    obtain rfl := hbs.symm
    exact ⟨[.string x.name], [.slice sa0 sn0 sc0], [], sb0, rfl, by simp, ⟨rfl, f0, rfl⟩, ⟨[.slice sa0 sn0 sc0], [], sb0, [], rfl, by simp, ⟨sa0, sn0, sc0, rfl, f1⟩, ⟨rfl, rfl⟩⟩⟩
theorem opens_lAtom : Opens Try.prog atomE 67 :=
  opens_iso (fun x => ⟨x.1, x.2.1⟩) (fun _ => rfl) (opens_struct Try.underlying67 (by kernel_rfl) (opensF_cons rfl (by kernel_rfl) (opens_string Try.underlying9) (opensF_cons rfl (by kernel_rfl) (opens_slice Try.underlying65 (by kernel_rfl) (by decide) opens_lTerm) opensF_nil)))
def atomC (x : Atomt) : List Cell := [.c (.string x.name), .sl termE x.args]
instance : CellsOf atomE atomC := cellsIso (e := (pairE strE (pairE (sliceE termE) unitE))) (fun x : Atomt => (x.name, x.args, ()))
def smallAtom (x : Atomt) : Prop := x.name.size ≤ 1048576 ∧ (x.args.length ≤ 1048576 ∧ ∀ y ∈ x.args, smallTerm y)

structure Litt where
  kind : Int
  atom : Atomt
  op : Int
  a : Termt
  b : Termt
def litE : Enc Litt := isoE (pairE (intE .i64) (pairE atomE (pairE (intE .i64) (pairE termE (pairE termE unitE))))) (fun x => (x.kind, x.atom, x.op, x.a, x.b, ()))
theorem Lit_rep {w : World} {cs : List Value} {x : Litt} {bs : List Nat} : litE.rep w cs x bs ↔ ∃ (sa0 : Option Addr) (sn0 sc0 : Nat) (sb0 : List Nat), cs = [.int .i64 x.kind, .string x.atom.name, .slice sa0 sn0 sc0, .int .i64 x.op, .string x.a.var, .int .i64 x.a.val.n, .string x.a.val.s, .string x.b.var, .int .i64 x.b.val.n, .string x.b.val.s] ∧ (Lit.int .i64 x.kind).wf = true ∧ x.atom.name.size ≤ maxLen ∧ SliceRep termE w sa0 sn0 sc0 x.atom.args sb0 ∧ (Lit.int .i64 x.op).wf = true ∧ x.a.var.size ≤ maxLen ∧ (Lit.int .i64 x.a.val.n).wf = true ∧ x.a.val.s.size ≤ maxLen ∧ x.b.var.size ≤ maxLen ∧ (Lit.int .i64 x.b.val.n).wf = true ∧ x.b.val.s.size ≤ maxLen ∧ bs = sb0 := by
  constructor
  · rintro ⟨c0, r0, d0, q0, rfl, rfl, h0, c1, r1, d1, q1, rfl, rfl, h1, c2, r2, d2, q2, rfl, rfl, h2, c3, r3, d3, q3, rfl, rfl, h3, c4, r4, d4, q4, rfl, rfl, h4, rfl, rfl⟩
    obtain ⟨rfl, f0, rfl⟩ := h0
    obtain ⟨va0, vn0, vc0, vb0, rfl, f1_0, f1_1, hbs⟩ := Atom_rep.1 h1
    obtain rfl := hbs.symm
    obtain ⟨rfl, f2, rfl⟩ := h2
    obtain ⟨rfl, f3_0, f3_1, f3_2, hbs⟩ := Term_rep.1 h3
    obtain rfl := hbs.symm
    obtain ⟨rfl, f4_0, f4_1, f4_2, hbs⟩ := Term_rep.1 h4
    obtain rfl := hbs.symm
    exact ⟨_, _, _, _, by simp, f0, f1_0, f1_1, f2, f3_0, f3_1, f3_2, f4_0, f4_1, f4_2, by simp⟩
  · rintro ⟨sa0, sn0, sc0, sb0, rfl, f0, f1, f2, f3, f4, f5, f6, f7, f8, f9, hbs⟩
    obtain rfl := hbs.symm
    exact ⟨[.int .i64 x.kind], [.string x.atom.name, .slice sa0 sn0 sc0, .int .i64 x.op, .string x.a.var, .int .i64 x.a.val.n, .string x.a.val.s, .string x.b.var, .int .i64 x.b.val.n, .string x.b.val.s], [], (sb0), rfl, by simp, ⟨rfl, f0, rfl⟩, ⟨[.string x.atom.name, .slice sa0 sn0 sc0], [.int .i64 x.op, .string x.a.var, .int .i64 x.a.val.n, .string x.a.val.s, .string x.b.var, .int .i64 x.b.val.n, .string x.b.val.s], (sb0), [], rfl, by simp, Atom_rep.2 ⟨sa0, sn0, sc0, sb0, rfl, f1, f2, rfl⟩, ⟨[.int .i64 x.op], [.string x.a.var, .int .i64 x.a.val.n, .string x.a.val.s, .string x.b.var, .int .i64 x.b.val.n, .string x.b.val.s], [], [], rfl, by simp, ⟨rfl, f3, rfl⟩, ⟨[.string x.a.var, .int .i64 x.a.val.n, .string x.a.val.s], [.string x.b.var, .int .i64 x.b.val.n, .string x.b.val.s], [], [], rfl, by simp, Term_rep.2 ⟨rfl, f4, f5, f6, rfl⟩, ⟨[.string x.b.var, .int .i64 x.b.val.n, .string x.b.val.s], [], [], [], rfl, by simp, Term_rep.2 ⟨rfl, f7, f8, f9, rfl⟩, ⟨rfl, rfl⟩⟩⟩⟩⟩⟩
theorem opens_lLit : Opens Try.prog litE 221 :=
  opens_iso (fun x => ⟨x.1, x.2.1, x.2.2.1, x.2.2.2.1, x.2.2.2.2.1⟩) (fun _ => rfl) (opens_struct Try.underlying221 (by kernel_rfl) (opensF_cons rfl (by kernel_rfl) (opens_int Try.underlying3) (opensF_cons rfl (by kernel_rfl) opens_lAtom (opensF_cons rfl (by kernel_rfl) (opens_int Try.underlying3) (opensF_cons rfl (by kernel_rfl) opens_lTerm (opensF_cons rfl (by kernel_rfl) opens_lTerm opensF_nil))))))
def litC (x : Litt) : List Cell := [.c (.int .i64 x.kind), .c (.string x.atom.name), .sl termE x.atom.args, .c (.int .i64 x.op), .c (.string x.a.var), .c (.int .i64 x.a.val.n), .c (.string x.a.val.s), .c (.string x.b.var), .c (.int .i64 x.b.val.n), .c (.string x.b.val.s)]
instance : CellsOf litE litC := cellsIso (e := (pairE (intE .i64) (pairE atomE (pairE (intE .i64) (pairE termE (pairE termE unitE)))))) (fun x : Litt => (x.kind, x.atom, x.op, x.a, x.b, ()))
def smallLit (x : Litt) : Prop := smallAtom x.atom ∧ smallTerm x.a ∧ smallTerm x.b

structure Rulet where
  kind : Int
  head : Atomt
  body : List (Litt)
def ruleE : Enc Rulet := isoE (pairE (intE .i64) (pairE atomE (pairE (sliceE litE) unitE))) (fun x => (x.kind, x.head, x.body, ()))
theorem Rule_rep {w : World} {cs : List Value} {x : Rulet} {bs : List Nat} : ruleE.rep w cs x bs ↔ ∃ (sa0 : Option Addr) (sn0 sc0 : Nat) (sb0 : List Nat) (sa1 : Option Addr) (sn1 sc1 : Nat) (sb1 : List Nat), cs = [.int .i64 x.kind, .string x.head.name, .slice sa0 sn0 sc0, .slice sa1 sn1 sc1] ∧ (Lit.int .i64 x.kind).wf = true ∧ x.head.name.size ≤ maxLen ∧ SliceRep termE w sa0 sn0 sc0 x.head.args sb0 ∧ SliceRep litE w sa1 sn1 sc1 x.body sb1 ∧ bs = sb0 ++ sb1 := by
  constructor
  · rintro ⟨c0, r0, d0, q0, rfl, rfl, h0, c1, r1, d1, q1, rfl, rfl, h1, c2, r2, d2, q2, rfl, rfl, h2, rfl, rfl⟩
    obtain ⟨rfl, f0, rfl⟩ := h0
    obtain ⟨va0, vn0, vc0, vb0, rfl, f1_0, f1_1, hbs⟩ := Atom_rep.1 h1
    obtain rfl := hbs.symm
    obtain ⟨va1, vn1, vc1, rfl, f2⟩ := h2
    exact ⟨_, _, _, _, va1, vn1, vc1, _, by simp, f0, f1_0, f1_1, f2, by simp⟩
  · rintro ⟨sa0, sn0, sc0, sb0, sa1, sn1, sc1, sb1, rfl, f0, f1, f2, f3, hbs⟩
    obtain rfl := hbs.symm
    exact ⟨[.int .i64 x.kind], [.string x.head.name, .slice sa0 sn0 sc0, .slice sa1 sn1 sc1], [], (sb0) ++ sb1, rfl, by simp, ⟨rfl, f0, rfl⟩, ⟨[.string x.head.name, .slice sa0 sn0 sc0], [.slice sa1 sn1 sc1], (sb0), sb1, rfl, by simp, Atom_rep.2 ⟨sa0, sn0, sc0, sb0, rfl, f1, f2, rfl⟩, ⟨[.slice sa1 sn1 sc1], [], sb1, [], rfl, by simp, ⟨sa1, sn1, sc1, rfl, f3⟩, ⟨rfl, rfl⟩⟩⟩⟩
theorem opens_lRule : Opens Try.prog ruleE 78 :=
  opens_iso (fun x => ⟨x.1, x.2.1, x.2.2.1⟩) (fun _ => rfl) (opens_struct Try.underlying78 (by kernel_rfl) (opensF_cons rfl (by kernel_rfl) (opens_int Try.underlying3) (opensF_cons rfl (by kernel_rfl) opens_lAtom (opensF_cons rfl (by kernel_rfl) (opens_slice Try.underlying76 (by kernel_rfl) (by decide) opens_lLit) opensF_nil))))
def ruleC (x : Rulet) : List Cell := [.c (.int .i64 x.kind), .c (.string x.head.name), .sl termE x.head.args, .sl litE x.body]
instance : CellsOf ruleE ruleC := cellsIso (e := (pairE (intE .i64) (pairE atomE (pairE (sliceE litE) unitE)))) (fun x : Rulet => (x.kind, x.head, x.body, ()))
def smallRule (x : Rulet) : Prop := smallAtom x.head ∧ (x.body.length ≤ 1048576 ∧ ∀ y ∈ x.body, smallLit y)

structure Declt where
  kind : Int
  name : ByteArray
  arity : Int
def declE : Enc Declt := isoE (pairE (intE .i64) (pairE strE (pairE (intE .i64) unitE))) (fun x => (x.kind, x.name, x.arity, ()))
theorem Decl_rep {w : World} {cs : List Value} {x : Declt} {bs : List Nat} : declE.rep w cs x bs ↔ cs = [.int .i64 x.kind, .string x.name, .int .i64 x.arity] ∧ (Lit.int .i64 x.kind).wf = true ∧ x.name.size ≤ maxLen ∧ (Lit.int .i64 x.arity).wf = true ∧ bs = [] := by
  constructor
  · rintro ⟨c0, r0, d0, q0, rfl, rfl, h0, c1, r1, d1, q1, rfl, rfl, h1, c2, r2, d2, q2, rfl, rfl, h2, rfl, rfl⟩
    obtain ⟨rfl, f0, rfl⟩ := h0
    obtain ⟨rfl, f1, rfl⟩ := h1
    obtain ⟨rfl, f2, rfl⟩ := h2
    exact ⟨by simp, f0, f1, f2, by simp⟩
  · rintro ⟨rfl, f0, f1, f2, hbs⟩
    obtain rfl := hbs.symm
    exact ⟨[.int .i64 x.kind], [.string x.name, .int .i64 x.arity], [], [], rfl, by simp, ⟨rfl, f0, rfl⟩, ⟨[.string x.name], [.int .i64 x.arity], [], [], rfl, by simp, ⟨rfl, f1, rfl⟩, ⟨[.int .i64 x.arity], [], [], [], rfl, by simp, ⟨rfl, f2, rfl⟩, ⟨rfl, rfl⟩⟩⟩⟩
theorem opens_lDecl : Opens Try.prog declE 227 :=
  opens_iso (fun x => ⟨x.1, x.2.1, x.2.2.1⟩) (fun _ => rfl) (opens_struct Try.underlying227 (by kernel_rfl) (opensF_cons rfl (by kernel_rfl) (opens_int Try.underlying3) (opensF_cons rfl (by kernel_rfl) (opens_string Try.underlying9) (opensF_cons rfl (by kernel_rfl) (opens_int Try.underlying3) opensF_nil))))
def declC (x : Declt) : List Cell := [.c (.int .i64 x.kind), .c (.string x.name), .c (.int .i64 x.arity)]
instance : CellsOf declE declC := cellsIso (e := (pairE (intE .i64) (pairE strE (pairE (intE .i64) unitE)))) (fun x : Declt => (x.kind, x.name, x.arity, ()))
def smallDecl (x : Declt) : Prop := x.name.size ≤ 1048576

structure Programt where
  decls : List (Declt)
  rules : List (Rulet)
def programE : Enc Programt := isoE (pairE (sliceE declE) (pairE (sliceE ruleE) unitE)) (fun x => (x.decls, x.rules, ()))
theorem Program_rep {w : World} {cs : List Value} {x : Programt} {bs : List Nat} : programE.rep w cs x bs ↔ ∃ (sa0 : Option Addr) (sn0 sc0 : Nat) (sb0 : List Nat) (sa1 : Option Addr) (sn1 sc1 : Nat) (sb1 : List Nat), cs = [.slice sa0 sn0 sc0, .slice sa1 sn1 sc1] ∧ SliceRep declE w sa0 sn0 sc0 x.decls sb0 ∧ SliceRep ruleE w sa1 sn1 sc1 x.rules sb1 ∧ bs = sb0 ++ sb1 := by
  constructor
  · rintro ⟨c0, r0, d0, q0, rfl, rfl, h0, c1, r1, d1, q1, rfl, rfl, h1, rfl, rfl⟩
    obtain ⟨va0, vn0, vc0, rfl, f0⟩ := h0
    obtain ⟨va1, vn1, vc1, rfl, f1⟩ := h1
    exact ⟨va0, vn0, vc0, _, va1, vn1, vc1, _, by simp, f0, f1, by simp⟩
  · rintro ⟨sa0, sn0, sc0, sb0, sa1, sn1, sc1, sb1, rfl, f0, f1, hbs⟩
    obtain rfl := hbs.symm
    exact ⟨[.slice sa0 sn0 sc0], [.slice sa1 sn1 sc1], sb0, sb1, rfl, by simp, ⟨sa0, sn0, sc0, rfl, f0⟩, ⟨[.slice sa1 sn1 sc1], [], sb1, [], rfl, by simp, ⟨sa1, sn1, sc1, rfl, f1⟩, ⟨rfl, rfl⟩⟩⟩
theorem opens_lProgram : Opens Try.prog programE 90 :=
  opens_iso (fun x => ⟨x.1, x.2.1⟩) (fun _ => rfl) (opens_struct Try.underlying90 (by kernel_rfl) (opensF_cons rfl (by kernel_rfl) (opens_slice Try.underlying87 (by kernel_rfl) (by decide) opens_lDecl) (opensF_cons rfl (by kernel_rfl) (opens_slice Try.underlying88 (by kernel_rfl) (by decide) opens_lRule) opensF_nil)))
def programC (x : Programt) : List Cell := [.sl declE x.decls, .sl ruleE x.rules]
instance : CellsOf programE programC := cellsIso (e := (pairE (sliceE declE) (pairE (sliceE ruleE) unitE))) (fun x : Programt => (x.decls, x.rules, ()))
def smallProgram (x : Programt) : Prop := (x.decls.length ≤ 1048576 ∧ ∀ y ∈ x.decls, smallDecl y) ∧ (x.rules.length ≤ 1048576 ∧ ∀ y ∈ x.rules, smallRule y)

end Go.Proofs.Ytgmlecghklaomaa

/- Sizes of data (printed by mktot.py) -/
namespace Go.Proofs.Ytgmlecghklaomaa
open Go.RowKit
set_option linter.unusedVariables false

def totTerm (x : Termt) : Nat := x.var.size + totValue x.val
def totAtom (x : Atomt) : Nat := x.name.size + totL totTerm x.args
def totLit (x : Litt) : Nat := totAtom x.atom + totTerm x.a + totTerm x.b
def totRule (x : Rulet) : Nat := totAtom x.head + totL totLit x.body
def totDecl (x : Declt) : Nat := x.name.size
def totProgram (x : Programt) : Nat := totL totDecl x.decls + totL totRule x.rules

theorem totTerm_small {x : Termt} (h : totTerm x ≤ 1048576) : smallTerm x := by
  simp only [totTerm, totValue] at h
  exact ⟨by omega, by unfold smallValue; omega⟩
theorem totAtom_small {x : Atomt} (h : totAtom x ≤ 1048576) : smallAtom x := by
  simp only [totAtom] at h
  exact ⟨by omega, totL_len (c := totTerm) (by omega), fun y hy => totTerm_small (totL_mem (c := totTerm) (by omega) hy)⟩
theorem totLit_small {x : Litt} (h : totLit x ≤ 1048576) : smallLit x := by
  simp only [totLit] at h
  exact ⟨totAtom_small (by omega), totTerm_small (by omega), totTerm_small (by omega)⟩
theorem totRule_small {x : Rulet} (h : totRule x ≤ 1048576) : smallRule x := by
  simp only [totRule] at h
  exact ⟨totAtom_small (by omega), totL_len (c := totLit) (by omega), fun y hy => totLit_small (totL_mem (c := totLit) (by omega) hy)⟩
theorem totDecl_small {x : Declt} (h : totDecl x ≤ 1048576) : smallDecl x := by
  simp only [totDecl] at h; exact (by omega : x.name.size ≤ 1048576)
theorem totProgram_small {x : Programt} (h : totProgram x ≤ 1048576) : smallProgram x := by
  simp only [totProgram] at h
  exact ⟨⟨totL_len (c := totDecl) (by omega), fun y hy => totDecl_small (totL_mem (c := totDecl) (by omega) hy)⟩, totL_len (c := totRule) (by omega), fun y hy => totRule_small (totL_mem (c := totRule) (by omega) hy)⟩
end Go.Proofs.Ytgmlecghklaomaa

/- The laws' own functions (printed by walk.py) -/
namespace Go.Proofs.Ytgmlecghklaomaa
open Go.RowKit
set_option linter.unusedVariables false
set_option linter.unusedSimpArgs false
set_option maxRecDepth 100000

set_option maxHeartbeats 4000000 in
theorem szValue_c (x : Val) (left : Int) (l0 : 0 ≤ left) (l1 : left ≤ 1048576) : AC Try.prog 188 [.agg (valC x), .one (.c (.int .i64 left))] [] (.one (.c (.int .i64 (szR (totValue x) left)))) [] := by
  refine AC_body1 Try.func188 rfl rfl Try.ntmps188 rfl Try.results188 ?_
  refine AW_aggsmax 0 1 rfl rfl (fun hs0_1 => ?_)
  refine AW_seq ?_
  refine AW_region ?_
  refine AL_p (x_box 100 rfl rfl rfl rfl rfl rfl rfl) ?_
  refine AL_p (x_assign rfl rfl) ?_
  refine AL_nil ?_
  refine AW_seq ?_
  refine AW_region ?_
  refine AL_p (x_move rfl rfl) ?_
  refine AL_p (x_field (off := 1) (o' := 1) rfl rfl rfl (by kernel_rfl) rfl) ?_
  refine AL_p (x_load1 rfl rfl rfl (by kernel_rfl) rfl) ?_
  refine AL_p (x_lens rfl rfl (by kernel_rfl)) ?_
  refine AL_p (x_sub rfl rfl rfl (IntWalk.i64_in _ (by omega))) ?_
  refine AL_p (x_assign rfl rfl) ?_
  refine AL_nil ?_
  refine AW_seq ?_
  refine AW_seq ?_
  refine AW_region ?_
  refine AL_p (x_move rfl rfl) ?_
  refine AL_b (x_lss rfl rfl rfl) (fun b11 h11 => ?_)
  refine AL_nil ?_
  cases b11
  rotate_left
  · try simp only [decide_eq_true_eq, decide_eq_false_iff_not, Bool.not_eq_true, Bool.not_eq_false, Bool.not_eq_true', Bool.not_eq_false', beq_iff_eq, bne_iff_ne, beq_eq_false_iff_ne, bne_eq_false_iff_eq, Int.not_lt, Int.not_le, ge_iff_le, gt_iff_lt] at h11
    refine AW_condT rfl ?_
    refine AW_seq ?_
    refine AW_region ?_
    refine AL_p (x_assign rfl rfl) ?_
    refine AL_nil ?_
    refine AW_ret ?_
    exact ⟨rn [], ⟨⟨⟨_, rfl, vle_int (by first | (simp only [totValue]; unfold szR; omega) | (simp only [totValue]; done))⟩, trivial⟩, trivial, trivial, rfl⟩⟩
  · try simp only [decide_eq_true_eq, decide_eq_false_iff_not, Bool.not_eq_true, Bool.not_eq_false, Bool.not_eq_true', Bool.not_eq_false', beq_iff_eq, bne_iff_ne, beq_eq_false_iff_ne, bne_eq_false_iff_eq, Int.not_lt, Int.not_le, ge_iff_le, gt_iff_lt] at h11
    refine AW_condF rfl ?_
    refine AW_skip ?_
    refine AW_seq ?_
    refine AW_region ?_
    refine AL_p (x_move rfl rfl) ?_
    refine AL_p (x_assign rfl rfl) ?_
    refine AL_nil ?_
    refine AW_ret ?_
    exact ⟨rn [], ⟨⟨⟨_, rfl, vle_int (by first | (simp only [totValue]; unfold szR; omega) | (simp only [totValue]; done))⟩, trivial⟩, trivial, trivial, rfl⟩⟩

set_option maxHeartbeats 4000000 in
theorem szTerm_c (x : Termt) (left : Int) (l0 : 0 ≤ left) (l1 : left ≤ 1048576) : AC Try.prog 143 [.agg (termC x), .one (.c (.int .i64 left))] [] (.one (.c (.int .i64 (szR (totTerm x) left)))) [] := by
  refine AC_body1 Try.func143 rfl rfl Try.ntmps143 rfl Try.results143 ?_
  refine AW_aggsmax 0 0 rfl rfl (fun hs0_0 => ?_)
  refine AW_aggsmax 0 2 rfl rfl (fun hs0_2 => ?_)
  refine AW_seq ?_
  refine AW_region ?_
  refine AL_p (x_box 100 rfl rfl rfl rfl rfl rfl rfl) ?_
  refine AL_p (x_assign rfl rfl) ?_
  refine AL_nil ?_
  refine AW_seq ?_
  refine AW_region ?_
  refine AL_p (x_move rfl rfl) ?_
  refine AL_p (x_field (off := 0) (o' := 0) rfl rfl rfl (by kernel_rfl) rfl) ?_
  refine AL_p (x_load1 rfl rfl rfl (by kernel_rfl) rfl) ?_
  refine AL_p (x_lens rfl rfl (by kernel_rfl)) ?_
  refine AL_p (x_sub rfl rfl rfl (IntWalk.i64_in _ (by omega))) ?_
  refine AL_p (x_assign rfl rfl) ?_
  refine AL_nil ?_
  refine AW_seq ?_
  refine AW_seq ?_
  refine AW_region ?_
  refine AL_p (x_move rfl rfl) ?_
  refine AL_b (x_lss rfl rfl rfl) (fun b11 h11 => ?_)
  refine AL_nil ?_
  cases b11
  rotate_left
  · try simp only [decide_eq_true_eq, decide_eq_false_iff_not, Bool.not_eq_true, Bool.not_eq_false, Bool.not_eq_true', Bool.not_eq_false', beq_iff_eq, bne_iff_ne, beq_eq_false_iff_ne, bne_eq_false_iff_eq, Int.not_lt, Int.not_le, ge_iff_le, gt_iff_lt] at h11
    refine AW_condT rfl ?_
    refine AW_seq ?_
    refine AW_region ?_
    refine AL_p (x_assign rfl rfl) ?_
    refine AL_nil ?_
    refine AW_ret ?_
    exact ⟨rn [], ⟨⟨⟨_, rfl, vle_int (by first | (simp only [totTerm]; unfold szR; omega) | (simp only [totTerm]; done))⟩, trivial⟩, trivial, trivial, rfl⟩⟩
  · try simp only [decide_eq_true_eq, decide_eq_false_iff_not, Bool.not_eq_true, Bool.not_eq_false, Bool.not_eq_true', Bool.not_eq_false', beq_iff_eq, bne_iff_ne, beq_eq_false_iff_ne, bne_eq_false_iff_eq, Int.not_lt, Int.not_le, ge_iff_le, gt_iff_lt] at h11
    refine AW_condF rfl ?_
    refine AW_skip ?_
    refine AW_seq ?_
    refine AW_region ?_
    refine AL_p (x_field (off := 1) (o' := 1) rfl rfl rfl (by kernel_rfl) rfl) ?_
    refine AL_p (x_loadN (n := 2) rfl rfl rfl (by kernel_rfl) rfl rfl) ?_
    refine AL_p (x_move rfl rfl) ?_
    refine AL_p (x_call0 rfl rfl rfl (szValue_c _ _ (by omega) (by omega)) rfl rfl) ?_
    refine AL_p (x_assign rfl rfl) ?_
    refine AL_nil ?_
    refine AW_seq ?_
    refine AW_seq ?_
    refine AW_region ?_
    refine AL_p (x_move rfl rfl) ?_
    refine AL_b (x_lss rfl rfl rfl) (fun b17 h17 => ?_)
    refine AL_nil ?_
    cases b17
    rotate_left
    · try simp only [decide_eq_true_eq, decide_eq_false_iff_not, Bool.not_eq_true, Bool.not_eq_false, Bool.not_eq_true', Bool.not_eq_false', beq_iff_eq, bne_iff_ne, beq_eq_false_iff_ne, bne_eq_false_iff_eq, Int.not_lt, Int.not_le, ge_iff_le, gt_iff_lt] at h17
      have g17 := szR_neg h17
      refine AW_condT rfl ?_
      refine AW_seq ?_
      refine AW_region ?_
      refine AL_p (x_assign rfl rfl) ?_
      refine AL_nil ?_
      refine AW_ret ?_
      exact ⟨rn [], ⟨⟨⟨_, rfl, vle_int (by first | (simp only [totTerm]; unfold szR; omega) | (simp only [totTerm]; done))⟩, trivial⟩, trivial, trivial, rfl⟩⟩
    · try simp only [decide_eq_true_eq, decide_eq_false_iff_not, Bool.not_eq_true, Bool.not_eq_false, Bool.not_eq_true', Bool.not_eq_false', beq_iff_eq, bne_iff_ne, beq_eq_false_iff_ne, bne_eq_false_iff_eq, Int.not_lt, Int.not_le, ge_iff_le, gt_iff_lt] at h17
      have f17 := (szR_nonneg h17).1
      have e17 := (szR_nonneg h17).2
      refine AW_condF rfl ?_
      refine AW_skip ?_
      refine AW_seq ?_
      refine AW_region ?_
      refine AL_p (x_move rfl rfl) ?_
      refine AL_p (x_assign rfl rfl) ?_
      refine AL_nil ?_
      refine AW_ret ?_
      exact ⟨rn [], ⟨⟨⟨_, rfl, vle_int (by first | (simp only [totTerm]; unfold szR; omega) | (simp only [totTerm]; done))⟩, trivial⟩, trivial, trivial, rfl⟩⟩

set_option maxHeartbeats 4000000 in
theorem szTermS_c (xs : List (Termt)) (left : Int) (l0 : 0 ≤ left) (l1 : left ≤ 1048576) : AC Try.prog 83 [.one (.sl termE xs), .one (.c (.int .i64 left))] [] (.one (.c (.int .i64 (szR (totL totTerm xs) left)))) [] := by
  refine AC_body1 Try.func83 rfl rfl Try.ntmps83 rfl Try.results83 ?_
  refine AW_slmax 0 rfl (fun hm0 => ?_)
  refine AW_seq ?_
  refine AW_region ?_
  refine AL_p (x_assign rfl rfl) ?_
  refine AL_nil ?_
  refine AW_seq ?_
  refine AW_region ?_
  refine AL_p (x_move rfl rfl) ?_
  refine AL_p (x_move rfl rfl) ?_
  refine AL_p (x_len (E := 203) (n := 3) rfl rfl (by kernel_rfl)) ?_
  refine AL_p (x_sub rfl rfl rfl (IntWalk.i64_in _ (by omega))) ?_
  refine AL_p (x_assign rfl rfl) ?_
  refine AL_nil ?_
  refine AW_seq ?_
  refine AW_seq ?_
  refine AW_region ?_
  refine AL_p (x_move rfl rfl) ?_
  refine AL_b (x_lss rfl rfl rfl) (fun b11 h11 => ?_)
  refine AL_nil ?_
  cases b11
  rotate_left
  · try simp only [decide_eq_true_eq, decide_eq_false_iff_not, Bool.not_eq_true, Bool.not_eq_false, Bool.not_eq_true', Bool.not_eq_false', beq_iff_eq, bne_iff_ne, beq_eq_false_iff_ne, bne_eq_false_iff_eq, Int.not_lt, Int.not_le, ge_iff_le, gt_iff_lt] at h11
    refine AW_condT rfl ?_
    refine AW_seq ?_
    refine AW_region ?_
    refine AL_p (x_assign rfl rfl) ?_
    refine AL_nil ?_
    refine AW_ret ?_
    exact ⟨rn [], ⟨⟨⟨_, rfl, vle_int (by first | (simp only [totL]; unfold szR; omega) | (simp only [totL]; done))⟩, trivial⟩, trivial, trivial, rfl⟩⟩
  · try simp only [decide_eq_true_eq, decide_eq_false_iff_not, Bool.not_eq_true, Bool.not_eq_false, Bool.not_eq_true', Bool.not_eq_false', beq_iff_eq, bne_iff_ne, beq_eq_false_iff_ne, bne_eq_false_iff_eq, Int.not_lt, Int.not_le, ge_iff_le, gt_iff_lt] at h11
    refine AW_condF rfl ?_
    refine AW_skip ?_
    refine AW_seq ?_
    refine AW_seq ?_
    refine AW_region ?_
    refine AL_p (x_assign rfl rfl) ?_
    refine AL_nil ?_
    refine AW_block ?_
    refine AW_loop2 (ι := {q : Nat // q ≤ xs.length ∧ ((cntL totTerm (xs.take q) : Nat) : Int) ≤ left - (xs.length : Int)}) (fun p => [(1, .one (.c (.int .i64 (left - (xs.length : Int) - ((cntL totTerm (xs.take (p.1)) : Nat) : Int))))), (5, .one (.c (.int .i64 ((p.1) : Int))))]) (fun p => []) [0] [] (fun p => xs.length - (p.1)) ⟨0, ⟨by omega, by first | (simp [cntL]; done) | (simp [cntL]; try omega)⟩⟩ (rn []) ?_ ?_
    exact ⟨by (repeat refine ⟨⟨_, rfl, by first | exact VLe.rf | exact vle_int (by dsimp only; omega) | exact vle_int (by first | (simp [cntL]; done) | (simp [cntL]; try omega))⟩, ?_⟩); exact trivial, by (repeat refine ⟨⟨_, rfl, by first | exact BLe.rf | exact BLe.box AllC.rf | exact BLe.arr (by exact rfl)⟩, ?_⟩); exact trivial, by repeat (first | exact trivial | refine ⟨⟨rfl, by first | (left; intro h; cases h) | (right; rfl), fun _ h => ⟨_, h⟩⟩, ?_⟩), rfl⟩
    rintro ⟨k, hinv⟩
    dsimp only
    obtain ⟨hk, hc⟩ := hinv
    refine AW_seq ?_
    refine AW_seq ?_
    refine AW_region ?_
    refine AL_p (x_move rfl rfl) ?_
    refine AL_p (x_move rfl rfl) ?_
    refine AL_p (x_len (E := 203) (n := 3) rfl rfl (by kernel_rfl)) ?_
    refine AL_b (x_lss rfl rfl rfl) (fun b15 h15 => ?_)
    refine AL_nil ?_
    cases b15
    rotate_left
    · try simp only [decide_eq_true_eq, decide_eq_false_iff_not, Bool.not_eq_true, Bool.not_eq_false, Bool.not_eq_true', Bool.not_eq_false', beq_iff_eq, bne_iff_ne, beq_eq_false_iff_ne, bne_eq_false_iff_eq, Int.not_lt, Int.not_le, ge_iff_le, gt_iff_lt] at h15
      have hlt : k < xs.length := by omega
      have hs := cntL_snoc (c := totTerm) hlt
      have ht := cntL_take (c := totTerm) hlt
      refine AW_condT rfl ?_
      refine AW_skip ?_
      refine AW_seq ?_
      refine AW_block ?_
      refine AW_seq ?_
      refine AW_region ?_
      refine AL_p (x_move rfl rfl) ?_
      refine AL_p (x_move rfl rfl) ?_
      refine AL_p (x_index (E := 203) (n := 3) rfl rfl rfl (by kernel_rfl) rfl (k := k) (by omega) (by omega)) ?_
      refine AL_p (x_eloadW (n := 3) rfl rfl (by kernel_rfl) rfl) ?_
      refine AL_p (x_move rfl rfl) ?_
      refine AL_p (x_call0 rfl rfl rfl (szTerm_c _ _ (by omega) (by omega)) rfl rfl) ?_
      refine AL_p (x_assign rfl rfl) ?_
      refine AL_nil ?_
      refine AW_seq ?_
      refine AW_region ?_
      refine AL_p (x_move rfl rfl) ?_
      refine AL_b (x_lss rfl rfl rfl) (fun b25 h25 => ?_)
      refine AL_nil ?_
      cases b25
      rotate_left
      · try simp only [decide_eq_true_eq, decide_eq_false_iff_not, Bool.not_eq_true, Bool.not_eq_false, Bool.not_eq_true', Bool.not_eq_false', beq_iff_eq, bne_iff_ne, beq_eq_false_iff_ne, bne_eq_false_iff_eq, Int.not_lt, Int.not_le, ge_iff_le, gt_iff_lt] at h25
        have g25 := szR_neg h25
        refine AW_condT rfl ?_
        refine AW_seq ?_
        refine AW_region ?_
        refine AL_p (x_assign rfl rfl) ?_
        refine AL_nil ?_
        refine AW_ret (BQ_ret (BQ_ret ?_))
        exact ⟨rn [], ⟨⟨⟨_, rfl, vle_int (by first | (simp only [totL]; unfold szR; omega) | (simp only [totL]; done))⟩, trivial⟩, trivial, trivial, rfl⟩⟩
      · try simp only [decide_eq_true_eq, decide_eq_false_iff_not, Bool.not_eq_true, Bool.not_eq_false, Bool.not_eq_true', Bool.not_eq_false', beq_iff_eq, bne_iff_ne, beq_eq_false_iff_ne, bne_eq_false_iff_eq, Int.not_lt, Int.not_le, ge_iff_le, gt_iff_lt] at h25
        have f25 := (szR_nonneg h25).1
        have e25 := (szR_nonneg h25).2
        refine AW_condF rfl ?_
        refine AW_skip ?_
        refine AW_region ?_
        refine AL_p (x_move rfl rfl) ?_
        refine AL_p (x_add rfl rfl rfl (IntWalk.i64_in _ (by omega))) ?_
        refine AL_p (x_assign rfl rfl) ?_
        refine AL_nil ?_
        refine ⟨⟨k + 1, ⟨by omega, by omega⟩⟩, rn [], ?_, by dsimp only; omega⟩
        exact ⟨by (repeat refine ⟨⟨_, rfl, by first | exact VLe.rf | exact vle_int (by dsimp only; omega) | exact vle_int (by first | (simp [cntL]; done) | (simp [cntL]; try omega))⟩, ?_⟩); exact trivial, by (repeat refine ⟨⟨_, rfl, by first | exact BLe.rf | exact BLe.box AllC.rf | exact BLe.arr (by exact rfl)⟩, ?_⟩); exact trivial, by repeat (first | exact trivial | refine ⟨⟨rfl, by first | (left; intro h; cases h) | (right; rfl), fun _ h => ⟨_, h⟩⟩, ?_⟩), rfl⟩
    · try simp only [decide_eq_true_eq, decide_eq_false_iff_not, Bool.not_eq_true, Bool.not_eq_false, Bool.not_eq_true', Bool.not_eq_false', beq_iff_eq, bne_iff_ne, beq_eq_false_iff_ne, bne_eq_false_iff_eq, Int.not_lt, Int.not_le, ge_iff_le, gt_iff_lt] at h15
      have ha := cntL_all (c := totTerm) (xs := xs) (k := k) (by omega)
      refine AW_condF rfl ?_
      refine AW_exit (BQ_hit ?_)
      refine AW_seq ?_
      refine AW_region ?_
      refine AL_p (x_move rfl rfl) ?_
      refine AL_p (x_assign rfl rfl) ?_
      refine AL_nil ?_
      refine AW_ret ?_
      exact ⟨rn [], ⟨⟨⟨_, rfl, vle_int (by first | (simp only [totL]; unfold szR; omega) | (simp only [totL]; done))⟩, trivial⟩, trivial, trivial, rfl⟩⟩

set_option maxHeartbeats 4000000 in
theorem szAtom_c (x : Atomt) (left : Int) (l0 : 0 ≤ left) (l1 : left ≤ 1048576) : AC Try.prog 31 [.agg (atomC x), .one (.c (.int .i64 left))] [] (.one (.c (.int .i64 (szR (totAtom x) left)))) [] := by
  refine AC_body1 Try.func31 rfl rfl Try.ntmps31 rfl Try.results31 ?_
  refine AW_aggsmax 0 0 rfl rfl (fun hs0_0 => ?_)
  refine AW_seq ?_
  refine AW_region ?_
  refine AL_p (x_box 100 rfl rfl rfl rfl rfl rfl rfl) ?_
  refine AL_p (x_assign rfl rfl) ?_
  refine AL_nil ?_
  refine AW_seq ?_
  refine AW_region ?_
  refine AL_p (x_move rfl rfl) ?_
  refine AL_p (x_field (off := 0) (o' := 0) rfl rfl rfl (by kernel_rfl) rfl) ?_
  refine AL_p (x_load1 rfl rfl rfl (by kernel_rfl) rfl) ?_
  refine AL_p (x_lens rfl rfl (by kernel_rfl)) ?_
  refine AL_p (x_sub rfl rfl rfl (IntWalk.i64_in _ (by omega))) ?_
  refine AL_p (x_assign rfl rfl) ?_
  refine AL_nil ?_
  refine AW_seq ?_
  refine AW_seq ?_
  refine AW_region ?_
  refine AL_p (x_move rfl rfl) ?_
  refine AL_b (x_lss rfl rfl rfl) (fun b11 h11 => ?_)
  refine AL_nil ?_
  cases b11
  rotate_left
  · try simp only [decide_eq_true_eq, decide_eq_false_iff_not, Bool.not_eq_true, Bool.not_eq_false, Bool.not_eq_true', Bool.not_eq_false', beq_iff_eq, bne_iff_ne, beq_eq_false_iff_ne, bne_eq_false_iff_eq, Int.not_lt, Int.not_le, ge_iff_le, gt_iff_lt] at h11
    refine AW_condT rfl ?_
    refine AW_seq ?_
    refine AW_region ?_
    refine AL_p (x_assign rfl rfl) ?_
    refine AL_nil ?_
    refine AW_ret ?_
    exact ⟨rn [], ⟨⟨⟨_, rfl, vle_int (by first | (simp only [totAtom]; unfold szR; omega) | (simp only [totAtom]; done))⟩, trivial⟩, trivial, trivial, rfl⟩⟩
  · try simp only [decide_eq_true_eq, decide_eq_false_iff_not, Bool.not_eq_true, Bool.not_eq_false, Bool.not_eq_true', Bool.not_eq_false', beq_iff_eq, bne_iff_ne, beq_eq_false_iff_ne, bne_eq_false_iff_eq, Int.not_lt, Int.not_le, ge_iff_le, gt_iff_lt] at h11
    refine AW_condF rfl ?_
    refine AW_skip ?_
    refine AW_seq ?_
    refine AW_region ?_
    refine AL_p (x_field (off := 1) (o' := 1) rfl rfl rfl (by kernel_rfl) rfl) ?_
    refine AL_p (x_load1 rfl rfl rfl (by kernel_rfl) rfl) ?_
    refine AL_p (x_move rfl rfl) ?_
    refine AL_p (x_call0 rfl rfl rfl (szTermS_c _ _ (by omega) (by omega)) rfl rfl) ?_
    refine AL_p (x_assign rfl rfl) ?_
    refine AL_nil ?_
    refine AW_seq ?_
    refine AW_seq ?_
    refine AW_region ?_
    refine AL_p (x_move rfl rfl) ?_
    refine AL_b (x_lss rfl rfl rfl) (fun b17 h17 => ?_)
    refine AL_nil ?_
    cases b17
    rotate_left
    · try simp only [decide_eq_true_eq, decide_eq_false_iff_not, Bool.not_eq_true, Bool.not_eq_false, Bool.not_eq_true', Bool.not_eq_false', beq_iff_eq, bne_iff_ne, beq_eq_false_iff_ne, bne_eq_false_iff_eq, Int.not_lt, Int.not_le, ge_iff_le, gt_iff_lt] at h17
      have g17 := szR_neg h17
      refine AW_condT rfl ?_
      refine AW_seq ?_
      refine AW_region ?_
      refine AL_p (x_assign rfl rfl) ?_
      refine AL_nil ?_
      refine AW_ret ?_
      exact ⟨rn [], ⟨⟨⟨_, rfl, vle_int (by first | (simp only [totAtom]; unfold szR; omega) | (simp only [totAtom]; done))⟩, trivial⟩, trivial, trivial, rfl⟩⟩
    · try simp only [decide_eq_true_eq, decide_eq_false_iff_not, Bool.not_eq_true, Bool.not_eq_false, Bool.not_eq_true', Bool.not_eq_false', beq_iff_eq, bne_iff_ne, beq_eq_false_iff_ne, bne_eq_false_iff_eq, Int.not_lt, Int.not_le, ge_iff_le, gt_iff_lt] at h17
      have f17 := (szR_nonneg h17).1
      have e17 := (szR_nonneg h17).2
      refine AW_condF rfl ?_
      refine AW_skip ?_
      refine AW_seq ?_
      refine AW_region ?_
      refine AL_p (x_move rfl rfl) ?_
      refine AL_p (x_assign rfl rfl) ?_
      refine AL_nil ?_
      refine AW_ret ?_
      exact ⟨rn [], ⟨⟨⟨_, rfl, vle_int (by first | (simp only [totAtom]; unfold szR; omega) | (simp only [totAtom]; done))⟩, trivial⟩, trivial, trivial, rfl⟩⟩

set_option maxHeartbeats 4000000 in
theorem szLit_c (x : Litt) (left : Int) (l0 : 0 ≤ left) (l1 : left ≤ 1048576) : AC Try.prog 155 [.agg (litC x), .one (.c (.int .i64 left))] [] (.one (.c (.int .i64 (szR (totLit x) left)))) [] := by
  refine AC_body1 Try.func155 rfl rfl Try.ntmps155 rfl Try.results155 ?_
  refine AW_aggsmax 0 1 rfl rfl (fun hs0_1 => ?_)
  refine AW_aggsmax 0 4 rfl rfl (fun hs0_4 => ?_)
  refine AW_aggsmax 0 6 rfl rfl (fun hs0_6 => ?_)
  refine AW_aggsmax 0 7 rfl rfl (fun hs0_7 => ?_)
  refine AW_aggsmax 0 9 rfl rfl (fun hs0_9 => ?_)
  refine AW_seq ?_
  refine AW_region ?_
  refine AL_p (x_box 100 rfl rfl rfl rfl rfl rfl rfl) ?_
  refine AL_p (x_assign rfl rfl) ?_
  refine AL_nil ?_
  refine AW_seq ?_
  refine AW_region ?_
  refine AL_p (x_field (off := 1) (o' := 1) rfl rfl rfl (by kernel_rfl) rfl) ?_
  refine AL_p (x_loadN (n := 2) rfl rfl rfl (by kernel_rfl) rfl rfl) ?_
  refine AL_p (x_move rfl rfl) ?_
  refine AL_p (x_call0 rfl rfl rfl (szAtom_c _ _ (by omega) (by omega)) rfl rfl) ?_
  refine AL_p (x_assign rfl rfl) ?_
  refine AL_nil ?_
  refine AW_seq ?_
  refine AW_seq ?_
  refine AW_region ?_
  refine AL_p (x_move rfl rfl) ?_
  refine AL_b (x_lss rfl rfl rfl) (fun b10 h10 => ?_)
  refine AL_nil ?_
  cases b10
  rotate_left
  · try simp only [decide_eq_true_eq, decide_eq_false_iff_not, Bool.not_eq_true, Bool.not_eq_false, Bool.not_eq_true', Bool.not_eq_false', beq_iff_eq, bne_iff_ne, beq_eq_false_iff_ne, bne_eq_false_iff_eq, Int.not_lt, Int.not_le, ge_iff_le, gt_iff_lt] at h10
    have g10 := szR_neg h10
    refine AW_condT rfl ?_
    refine AW_seq ?_
    refine AW_region ?_
    refine AL_p (x_assign rfl rfl) ?_
    refine AL_nil ?_
    refine AW_ret ?_
    exact ⟨rn [], ⟨⟨⟨_, rfl, vle_int (by first | (simp only [totLit]; unfold szR; omega) | (simp only [totLit]; done))⟩, trivial⟩, trivial, trivial, rfl⟩⟩
  · try simp only [decide_eq_true_eq, decide_eq_false_iff_not, Bool.not_eq_true, Bool.not_eq_false, Bool.not_eq_true', Bool.not_eq_false', beq_iff_eq, bne_iff_ne, beq_eq_false_iff_ne, bne_eq_false_iff_eq, Int.not_lt, Int.not_le, ge_iff_le, gt_iff_lt] at h10
    have f10 := (szR_nonneg h10).1
    have e10 := (szR_nonneg h10).2
    refine AW_condF rfl ?_
    refine AW_skip ?_
    refine AW_seq ?_
    refine AW_region ?_
    refine AL_p (x_field (off := 4) (o' := 4) rfl rfl rfl (by kernel_rfl) rfl) ?_
    refine AL_p (x_loadN (n := 3) rfl rfl rfl (by kernel_rfl) rfl rfl) ?_
    refine AL_p (x_move rfl rfl) ?_
    refine AL_p (x_call0 rfl rfl rfl (szTerm_c _ _ (by omega) (by omega)) rfl rfl) ?_
    refine AL_p (x_assign rfl rfl) ?_
    refine AL_nil ?_
    refine AW_seq ?_
    refine AW_seq ?_
    refine AW_region ?_
    refine AL_p (x_move rfl rfl) ?_
    refine AL_b (x_lss rfl rfl rfl) (fun b16 h16 => ?_)
    refine AL_nil ?_
    cases b16
    rotate_left
    · try simp only [decide_eq_true_eq, decide_eq_false_iff_not, Bool.not_eq_true, Bool.not_eq_false, Bool.not_eq_true', Bool.not_eq_false', beq_iff_eq, bne_iff_ne, beq_eq_false_iff_ne, bne_eq_false_iff_eq, Int.not_lt, Int.not_le, ge_iff_le, gt_iff_lt] at h16
      have g16 := szR_neg h16
      refine AW_condT rfl ?_
      refine AW_seq ?_
      refine AW_region ?_
      refine AL_p (x_assign rfl rfl) ?_
      refine AL_nil ?_
      refine AW_ret ?_
      exact ⟨rn [], ⟨⟨⟨_, rfl, vle_int (by first | (simp only [totLit]; unfold szR; omega) | (simp only [totLit]; done))⟩, trivial⟩, trivial, trivial, rfl⟩⟩
    · try simp only [decide_eq_true_eq, decide_eq_false_iff_not, Bool.not_eq_true, Bool.not_eq_false, Bool.not_eq_true', Bool.not_eq_false', beq_iff_eq, bne_iff_ne, beq_eq_false_iff_ne, bne_eq_false_iff_eq, Int.not_lt, Int.not_le, ge_iff_le, gt_iff_lt] at h16
      have f16 := (szR_nonneg h16).1
      have e16 := (szR_nonneg h16).2
      refine AW_condF rfl ?_
      refine AW_skip ?_
      refine AW_seq ?_
      refine AW_region ?_
      refine AL_p (x_field (off := 7) (o' := 7) rfl rfl rfl (by kernel_rfl) rfl) ?_
      refine AL_p (x_loadN (n := 3) rfl rfl rfl (by kernel_rfl) rfl rfl) ?_
      refine AL_p (x_move rfl rfl) ?_
      refine AL_p (x_call0 rfl rfl rfl (szTerm_c _ _ (by omega) (by omega)) rfl rfl) ?_
      refine AL_p (x_assign rfl rfl) ?_
      refine AL_nil ?_
      refine AW_seq ?_
      refine AW_seq ?_
      refine AW_region ?_
      refine AL_p (x_move rfl rfl) ?_
      refine AL_b (x_lss rfl rfl rfl) (fun b22 h22 => ?_)
      refine AL_nil ?_
      cases b22
      rotate_left
      · try simp only [decide_eq_true_eq, decide_eq_false_iff_not, Bool.not_eq_true, Bool.not_eq_false, Bool.not_eq_true', Bool.not_eq_false', beq_iff_eq, bne_iff_ne, beq_eq_false_iff_ne, bne_eq_false_iff_eq, Int.not_lt, Int.not_le, ge_iff_le, gt_iff_lt] at h22
        have g22 := szR_neg h22
        refine AW_condT rfl ?_
        refine AW_seq ?_
        refine AW_region ?_
        refine AL_p (x_assign rfl rfl) ?_
        refine AL_nil ?_
        refine AW_ret ?_
        exact ⟨rn [], ⟨⟨⟨_, rfl, vle_int (by first | (simp only [totLit]; unfold szR; omega) | (simp only [totLit]; done))⟩, trivial⟩, trivial, trivial, rfl⟩⟩
      · try simp only [decide_eq_true_eq, decide_eq_false_iff_not, Bool.not_eq_true, Bool.not_eq_false, Bool.not_eq_true', Bool.not_eq_false', beq_iff_eq, bne_iff_ne, beq_eq_false_iff_ne, bne_eq_false_iff_eq, Int.not_lt, Int.not_le, ge_iff_le, gt_iff_lt] at h22
        have f22 := (szR_nonneg h22).1
        have e22 := (szR_nonneg h22).2
        refine AW_condF rfl ?_
        refine AW_skip ?_
        refine AW_seq ?_
        refine AW_region ?_
        refine AL_p (x_move rfl rfl) ?_
        refine AL_p (x_assign rfl rfl) ?_
        refine AL_nil ?_
        refine AW_ret ?_
        exact ⟨rn [], ⟨⟨⟨_, rfl, vle_int (by first | (simp only [totLit]; unfold szR; omega) | (simp only [totLit]; done))⟩, trivial⟩, trivial, trivial, rfl⟩⟩

set_option maxHeartbeats 4000000 in
theorem szLitS_c (xs : List (Litt)) (left : Int) (l0 : 0 ≤ left) (l1 : left ≤ 1048576) : AC Try.prog 91 [.one (.sl litE xs), .one (.c (.int .i64 left))] [] (.one (.c (.int .i64 (szR (totL totLit xs) left)))) [] := by
  refine AC_body1 Try.func91 rfl rfl Try.ntmps91 rfl Try.results91 ?_
  refine AW_slmax 0 rfl (fun hm0 => ?_)
  refine AW_seq ?_
  refine AW_region ?_
  refine AL_p (x_assign rfl rfl) ?_
  refine AL_nil ?_
  refine AW_seq ?_
  refine AW_region ?_
  refine AL_p (x_move rfl rfl) ?_
  refine AL_p (x_move rfl rfl) ?_
  refine AL_p (x_len (E := 221) (n := 10) rfl rfl (by kernel_rfl)) ?_
  refine AL_p (x_sub rfl rfl rfl (IntWalk.i64_in _ (by omega))) ?_
  refine AL_p (x_assign rfl rfl) ?_
  refine AL_nil ?_
  refine AW_seq ?_
  refine AW_seq ?_
  refine AW_region ?_
  refine AL_p (x_move rfl rfl) ?_
  refine AL_b (x_lss rfl rfl rfl) (fun b11 h11 => ?_)
  refine AL_nil ?_
  cases b11
  rotate_left
  · try simp only [decide_eq_true_eq, decide_eq_false_iff_not, Bool.not_eq_true, Bool.not_eq_false, Bool.not_eq_true', Bool.not_eq_false', beq_iff_eq, bne_iff_ne, beq_eq_false_iff_ne, bne_eq_false_iff_eq, Int.not_lt, Int.not_le, ge_iff_le, gt_iff_lt] at h11
    refine AW_condT rfl ?_
    refine AW_seq ?_
    refine AW_region ?_
    refine AL_p (x_assign rfl rfl) ?_
    refine AL_nil ?_
    refine AW_ret ?_
    exact ⟨rn [], ⟨⟨⟨_, rfl, vle_int (by first | (simp only [totL]; unfold szR; omega) | (simp only [totL]; done))⟩, trivial⟩, trivial, trivial, rfl⟩⟩
  · try simp only [decide_eq_true_eq, decide_eq_false_iff_not, Bool.not_eq_true, Bool.not_eq_false, Bool.not_eq_true', Bool.not_eq_false', beq_iff_eq, bne_iff_ne, beq_eq_false_iff_ne, bne_eq_false_iff_eq, Int.not_lt, Int.not_le, ge_iff_le, gt_iff_lt] at h11
    refine AW_condF rfl ?_
    refine AW_skip ?_
    refine AW_seq ?_
    refine AW_seq ?_
    refine AW_region ?_
    refine AL_p (x_assign rfl rfl) ?_
    refine AL_nil ?_
    refine AW_block ?_
    refine AW_loop2 (ι := {q : Nat // q ≤ xs.length ∧ ((cntL totLit (xs.take q) : Nat) : Int) ≤ left - (xs.length : Int)}) (fun p => [(1, .one (.c (.int .i64 (left - (xs.length : Int) - ((cntL totLit (xs.take (p.1)) : Nat) : Int))))), (5, .one (.c (.int .i64 ((p.1) : Int))))]) (fun p => []) [0] [] (fun p => xs.length - (p.1)) ⟨0, ⟨by omega, by first | (simp [cntL]; done) | (simp [cntL]; try omega)⟩⟩ (rn []) ?_ ?_
    exact ⟨by (repeat refine ⟨⟨_, rfl, by first | exact VLe.rf | exact vle_int (by dsimp only; omega) | exact vle_int (by first | (simp [cntL]; done) | (simp [cntL]; try omega))⟩, ?_⟩); exact trivial, by (repeat refine ⟨⟨_, rfl, by first | exact BLe.rf | exact BLe.box AllC.rf | exact BLe.arr (by exact rfl)⟩, ?_⟩); exact trivial, by repeat (first | exact trivial | refine ⟨⟨rfl, by first | (left; intro h; cases h) | (right; rfl), fun _ h => ⟨_, h⟩⟩, ?_⟩), rfl⟩
    rintro ⟨k, hinv⟩
    dsimp only
    obtain ⟨hk, hc⟩ := hinv
    refine AW_seq ?_
    refine AW_seq ?_
    refine AW_region ?_
    refine AL_p (x_move rfl rfl) ?_
    refine AL_p (x_move rfl rfl) ?_
    refine AL_p (x_len (E := 221) (n := 10) rfl rfl (by kernel_rfl)) ?_
    refine AL_b (x_lss rfl rfl rfl) (fun b15 h15 => ?_)
    refine AL_nil ?_
    cases b15
    rotate_left
    · try simp only [decide_eq_true_eq, decide_eq_false_iff_not, Bool.not_eq_true, Bool.not_eq_false, Bool.not_eq_true', Bool.not_eq_false', beq_iff_eq, bne_iff_ne, beq_eq_false_iff_ne, bne_eq_false_iff_eq, Int.not_lt, Int.not_le, ge_iff_le, gt_iff_lt] at h15
      have hlt : k < xs.length := by omega
      have hs := cntL_snoc (c := totLit) hlt
      have ht := cntL_take (c := totLit) hlt
      refine AW_condT rfl ?_
      refine AW_skip ?_
      refine AW_seq ?_
      refine AW_block ?_
      refine AW_seq ?_
      refine AW_region ?_
      refine AL_p (x_move rfl rfl) ?_
      refine AL_p (x_move rfl rfl) ?_
      refine AL_p (x_index (E := 221) (n := 10) rfl rfl rfl (by kernel_rfl) rfl (k := k) (by omega) (by omega)) ?_
      refine AL_p (x_eloadW (n := 10) rfl rfl (by kernel_rfl) rfl) ?_
      refine AL_p (x_move rfl rfl) ?_
      refine AL_p (x_call0 rfl rfl rfl (szLit_c _ _ (by omega) (by omega)) rfl rfl) ?_
      refine AL_p (x_assign rfl rfl) ?_
      refine AL_nil ?_
      refine AW_seq ?_
      refine AW_region ?_
      refine AL_p (x_move rfl rfl) ?_
      refine AL_b (x_lss rfl rfl rfl) (fun b25 h25 => ?_)
      refine AL_nil ?_
      cases b25
      rotate_left
      · try simp only [decide_eq_true_eq, decide_eq_false_iff_not, Bool.not_eq_true, Bool.not_eq_false, Bool.not_eq_true', Bool.not_eq_false', beq_iff_eq, bne_iff_ne, beq_eq_false_iff_ne, bne_eq_false_iff_eq, Int.not_lt, Int.not_le, ge_iff_le, gt_iff_lt] at h25
        have g25 := szR_neg h25
        refine AW_condT rfl ?_
        refine AW_seq ?_
        refine AW_region ?_
        refine AL_p (x_assign rfl rfl) ?_
        refine AL_nil ?_
        refine AW_ret (BQ_ret (BQ_ret ?_))
        exact ⟨rn [], ⟨⟨⟨_, rfl, vle_int (by first | (simp only [totL]; unfold szR; omega) | (simp only [totL]; done))⟩, trivial⟩, trivial, trivial, rfl⟩⟩
      · try simp only [decide_eq_true_eq, decide_eq_false_iff_not, Bool.not_eq_true, Bool.not_eq_false, Bool.not_eq_true', Bool.not_eq_false', beq_iff_eq, bne_iff_ne, beq_eq_false_iff_ne, bne_eq_false_iff_eq, Int.not_lt, Int.not_le, ge_iff_le, gt_iff_lt] at h25
        have f25 := (szR_nonneg h25).1
        have e25 := (szR_nonneg h25).2
        refine AW_condF rfl ?_
        refine AW_skip ?_
        refine AW_region ?_
        refine AL_p (x_move rfl rfl) ?_
        refine AL_p (x_add rfl rfl rfl (IntWalk.i64_in _ (by omega))) ?_
        refine AL_p (x_assign rfl rfl) ?_
        refine AL_nil ?_
        refine ⟨⟨k + 1, ⟨by omega, by omega⟩⟩, rn [], ?_, by dsimp only; omega⟩
        exact ⟨by (repeat refine ⟨⟨_, rfl, by first | exact VLe.rf | exact vle_int (by dsimp only; omega) | exact vle_int (by first | (simp [cntL]; done) | (simp [cntL]; try omega))⟩, ?_⟩); exact trivial, by (repeat refine ⟨⟨_, rfl, by first | exact BLe.rf | exact BLe.box AllC.rf | exact BLe.arr (by exact rfl)⟩, ?_⟩); exact trivial, by repeat (first | exact trivial | refine ⟨⟨rfl, by first | (left; intro h; cases h) | (right; rfl), fun _ h => ⟨_, h⟩⟩, ?_⟩), rfl⟩
    · try simp only [decide_eq_true_eq, decide_eq_false_iff_not, Bool.not_eq_true, Bool.not_eq_false, Bool.not_eq_true', Bool.not_eq_false', beq_iff_eq, bne_iff_ne, beq_eq_false_iff_ne, bne_eq_false_iff_eq, Int.not_lt, Int.not_le, ge_iff_le, gt_iff_lt] at h15
      have ha := cntL_all (c := totLit) (xs := xs) (k := k) (by omega)
      refine AW_condF rfl ?_
      refine AW_exit (BQ_hit ?_)
      refine AW_seq ?_
      refine AW_region ?_
      refine AL_p (x_move rfl rfl) ?_
      refine AL_p (x_assign rfl rfl) ?_
      refine AL_nil ?_
      refine AW_ret ?_
      exact ⟨rn [], ⟨⟨⟨_, rfl, vle_int (by first | (simp only [totL]; unfold szR; omega) | (simp only [totL]; done))⟩, trivial⟩, trivial, trivial, rfl⟩⟩

set_option maxHeartbeats 4000000 in
theorem szRule_c (x : Rulet) (left : Int) (l0 : 0 ≤ left) (l1 : left ≤ 1048576) : AC Try.prog 36 [.agg (ruleC x), .one (.c (.int .i64 left))] [] (.one (.c (.int .i64 (szR (totRule x) left)))) [] := by
  refine AC_body1 Try.func36 rfl rfl Try.ntmps36 rfl Try.results36 ?_
  refine AW_aggsmax 0 1 rfl rfl (fun hs0_1 => ?_)
  refine AW_seq ?_
  refine AW_region ?_
  refine AL_p (x_box 100 rfl rfl rfl rfl rfl rfl rfl) ?_
  refine AL_p (x_assign rfl rfl) ?_
  refine AL_nil ?_
  refine AW_seq ?_
  refine AW_region ?_
  refine AL_p (x_field (off := 1) (o' := 1) rfl rfl rfl (by kernel_rfl) rfl) ?_
  refine AL_p (x_loadN (n := 2) rfl rfl rfl (by kernel_rfl) rfl rfl) ?_
  refine AL_p (x_move rfl rfl) ?_
  refine AL_p (x_call0 rfl rfl rfl (szAtom_c _ _ (by omega) (by omega)) rfl rfl) ?_
  refine AL_p (x_assign rfl rfl) ?_
  refine AL_nil ?_
  refine AW_seq ?_
  refine AW_seq ?_
  refine AW_region ?_
  refine AL_p (x_move rfl rfl) ?_
  refine AL_b (x_lss rfl rfl rfl) (fun b10 h10 => ?_)
  refine AL_nil ?_
  cases b10
  rotate_left
  · try simp only [decide_eq_true_eq, decide_eq_false_iff_not, Bool.not_eq_true, Bool.not_eq_false, Bool.not_eq_true', Bool.not_eq_false', beq_iff_eq, bne_iff_ne, beq_eq_false_iff_ne, bne_eq_false_iff_eq, Int.not_lt, Int.not_le, ge_iff_le, gt_iff_lt] at h10
    have g10 := szR_neg h10
    refine AW_condT rfl ?_
    refine AW_seq ?_
    refine AW_region ?_
    refine AL_p (x_assign rfl rfl) ?_
    refine AL_nil ?_
    refine AW_ret ?_
    exact ⟨rn [], ⟨⟨⟨_, rfl, vle_int (by first | (simp only [totRule]; unfold szR; omega) | (simp only [totRule]; done))⟩, trivial⟩, trivial, trivial, rfl⟩⟩
  · try simp only [decide_eq_true_eq, decide_eq_false_iff_not, Bool.not_eq_true, Bool.not_eq_false, Bool.not_eq_true', Bool.not_eq_false', beq_iff_eq, bne_iff_ne, beq_eq_false_iff_ne, bne_eq_false_iff_eq, Int.not_lt, Int.not_le, ge_iff_le, gt_iff_lt] at h10
    have f10 := (szR_nonneg h10).1
    have e10 := (szR_nonneg h10).2
    refine AW_condF rfl ?_
    refine AW_skip ?_
    refine AW_seq ?_
    refine AW_region ?_
    refine AL_p (x_field (off := 3) (o' := 3) rfl rfl rfl (by kernel_rfl) rfl) ?_
    refine AL_p (x_load1 rfl rfl rfl (by kernel_rfl) rfl) ?_
    refine AL_p (x_move rfl rfl) ?_
    refine AL_p (x_call0 rfl rfl rfl (szLitS_c _ _ (by omega) (by omega)) rfl rfl) ?_
    refine AL_p (x_assign rfl rfl) ?_
    refine AL_nil ?_
    refine AW_seq ?_
    refine AW_seq ?_
    refine AW_region ?_
    refine AL_p (x_move rfl rfl) ?_
    refine AL_b (x_lss rfl rfl rfl) (fun b16 h16 => ?_)
    refine AL_nil ?_
    cases b16
    rotate_left
    · try simp only [decide_eq_true_eq, decide_eq_false_iff_not, Bool.not_eq_true, Bool.not_eq_false, Bool.not_eq_true', Bool.not_eq_false', beq_iff_eq, bne_iff_ne, beq_eq_false_iff_ne, bne_eq_false_iff_eq, Int.not_lt, Int.not_le, ge_iff_le, gt_iff_lt] at h16
      have g16 := szR_neg h16
      refine AW_condT rfl ?_
      refine AW_seq ?_
      refine AW_region ?_
      refine AL_p (x_assign rfl rfl) ?_
      refine AL_nil ?_
      refine AW_ret ?_
      exact ⟨rn [], ⟨⟨⟨_, rfl, vle_int (by first | (simp only [totRule]; unfold szR; omega) | (simp only [totRule]; done))⟩, trivial⟩, trivial, trivial, rfl⟩⟩
    · try simp only [decide_eq_true_eq, decide_eq_false_iff_not, Bool.not_eq_true, Bool.not_eq_false, Bool.not_eq_true', Bool.not_eq_false', beq_iff_eq, bne_iff_ne, beq_eq_false_iff_ne, bne_eq_false_iff_eq, Int.not_lt, Int.not_le, ge_iff_le, gt_iff_lt] at h16
      have f16 := (szR_nonneg h16).1
      have e16 := (szR_nonneg h16).2
      refine AW_condF rfl ?_
      refine AW_skip ?_
      refine AW_seq ?_
      refine AW_region ?_
      refine AL_p (x_move rfl rfl) ?_
      refine AL_p (x_assign rfl rfl) ?_
      refine AL_nil ?_
      refine AW_ret ?_
      exact ⟨rn [], ⟨⟨⟨_, rfl, vle_int (by first | (simp only [totRule]; unfold szR; omega) | (simp only [totRule]; done))⟩, trivial⟩, trivial, trivial, rfl⟩⟩

set_option maxHeartbeats 4000000 in
theorem szRuleS_c (xs : List (Rulet)) (left : Int) (l0 : 0 ≤ left) (l1 : left ≤ 1048576) : AC Try.prog 99 [.one (.sl ruleE xs), .one (.c (.int .i64 left))] [] (.one (.c (.int .i64 (szR (totL totRule xs) left)))) [] := by
  refine AC_body1 Try.func99 rfl rfl Try.ntmps99 rfl Try.results99 ?_
  refine AW_slmax 0 rfl (fun hm0 => ?_)
  refine AW_seq ?_
  refine AW_region ?_
  refine AL_p (x_assign rfl rfl) ?_
  refine AL_nil ?_
  refine AW_seq ?_
  refine AW_region ?_
  refine AL_p (x_move rfl rfl) ?_
  refine AL_p (x_move rfl rfl) ?_
  refine AL_p (x_len (E := 78) (n := 4) rfl rfl (by kernel_rfl)) ?_
  refine AL_p (x_sub rfl rfl rfl (IntWalk.i64_in _ (by omega))) ?_
  refine AL_p (x_assign rfl rfl) ?_
  refine AL_nil ?_
  refine AW_seq ?_
  refine AW_seq ?_
  refine AW_region ?_
  refine AL_p (x_move rfl rfl) ?_
  refine AL_b (x_lss rfl rfl rfl) (fun b11 h11 => ?_)
  refine AL_nil ?_
  cases b11
  rotate_left
  · try simp only [decide_eq_true_eq, decide_eq_false_iff_not, Bool.not_eq_true, Bool.not_eq_false, Bool.not_eq_true', Bool.not_eq_false', beq_iff_eq, bne_iff_ne, beq_eq_false_iff_ne, bne_eq_false_iff_eq, Int.not_lt, Int.not_le, ge_iff_le, gt_iff_lt] at h11
    refine AW_condT rfl ?_
    refine AW_seq ?_
    refine AW_region ?_
    refine AL_p (x_assign rfl rfl) ?_
    refine AL_nil ?_
    refine AW_ret ?_
    exact ⟨rn [], ⟨⟨⟨_, rfl, vle_int (by first | (simp only [totL]; unfold szR; omega) | (simp only [totL]; done))⟩, trivial⟩, trivial, trivial, rfl⟩⟩
  · try simp only [decide_eq_true_eq, decide_eq_false_iff_not, Bool.not_eq_true, Bool.not_eq_false, Bool.not_eq_true', Bool.not_eq_false', beq_iff_eq, bne_iff_ne, beq_eq_false_iff_ne, bne_eq_false_iff_eq, Int.not_lt, Int.not_le, ge_iff_le, gt_iff_lt] at h11
    refine AW_condF rfl ?_
    refine AW_skip ?_
    refine AW_seq ?_
    refine AW_seq ?_
    refine AW_region ?_
    refine AL_p (x_assign rfl rfl) ?_
    refine AL_nil ?_
    refine AW_block ?_
    refine AW_loop2 (ι := {q : Nat // q ≤ xs.length ∧ ((cntL totRule (xs.take q) : Nat) : Int) ≤ left - (xs.length : Int)}) (fun p => [(1, .one (.c (.int .i64 (left - (xs.length : Int) - ((cntL totRule (xs.take (p.1)) : Nat) : Int))))), (5, .one (.c (.int .i64 ((p.1) : Int))))]) (fun p => []) [0] [] (fun p => xs.length - (p.1)) ⟨0, ⟨by omega, by first | (simp [cntL]; done) | (simp [cntL]; try omega)⟩⟩ (rn []) ?_ ?_
    exact ⟨by (repeat refine ⟨⟨_, rfl, by first | exact VLe.rf | exact vle_int (by dsimp only; omega) | exact vle_int (by first | (simp [cntL]; done) | (simp [cntL]; try omega))⟩, ?_⟩); exact trivial, by (repeat refine ⟨⟨_, rfl, by first | exact BLe.rf | exact BLe.box AllC.rf | exact BLe.arr (by exact rfl)⟩, ?_⟩); exact trivial, by repeat (first | exact trivial | refine ⟨⟨rfl, by first | (left; intro h; cases h) | (right; rfl), fun _ h => ⟨_, h⟩⟩, ?_⟩), rfl⟩
    rintro ⟨k, hinv⟩
    dsimp only
    obtain ⟨hk, hc⟩ := hinv
    refine AW_seq ?_
    refine AW_seq ?_
    refine AW_region ?_
    refine AL_p (x_move rfl rfl) ?_
    refine AL_p (x_move rfl rfl) ?_
    refine AL_p (x_len (E := 78) (n := 4) rfl rfl (by kernel_rfl)) ?_
    refine AL_b (x_lss rfl rfl rfl) (fun b15 h15 => ?_)
    refine AL_nil ?_
    cases b15
    rotate_left
    · try simp only [decide_eq_true_eq, decide_eq_false_iff_not, Bool.not_eq_true, Bool.not_eq_false, Bool.not_eq_true', Bool.not_eq_false', beq_iff_eq, bne_iff_ne, beq_eq_false_iff_ne, bne_eq_false_iff_eq, Int.not_lt, Int.not_le, ge_iff_le, gt_iff_lt] at h15
      have hlt : k < xs.length := by omega
      have hs := cntL_snoc (c := totRule) hlt
      have ht := cntL_take (c := totRule) hlt
      refine AW_condT rfl ?_
      refine AW_skip ?_
      refine AW_seq ?_
      refine AW_block ?_
      refine AW_seq ?_
      refine AW_region ?_
      refine AL_p (x_move rfl rfl) ?_
      refine AL_p (x_move rfl rfl) ?_
      refine AL_p (x_index (E := 78) (n := 4) rfl rfl rfl (by kernel_rfl) rfl (k := k) (by omega) (by omega)) ?_
      refine AL_p (x_eloadW (n := 4) rfl rfl (by kernel_rfl) rfl) ?_
      refine AL_p (x_move rfl rfl) ?_
      refine AL_p (x_call0 rfl rfl rfl (szRule_c _ _ (by omega) (by omega)) rfl rfl) ?_
      refine AL_p (x_assign rfl rfl) ?_
      refine AL_nil ?_
      refine AW_seq ?_
      refine AW_region ?_
      refine AL_p (x_move rfl rfl) ?_
      refine AL_b (x_lss rfl rfl rfl) (fun b25 h25 => ?_)
      refine AL_nil ?_
      cases b25
      rotate_left
      · try simp only [decide_eq_true_eq, decide_eq_false_iff_not, Bool.not_eq_true, Bool.not_eq_false, Bool.not_eq_true', Bool.not_eq_false', beq_iff_eq, bne_iff_ne, beq_eq_false_iff_ne, bne_eq_false_iff_eq, Int.not_lt, Int.not_le, ge_iff_le, gt_iff_lt] at h25
        have g25 := szR_neg h25
        refine AW_condT rfl ?_
        refine AW_seq ?_
        refine AW_region ?_
        refine AL_p (x_assign rfl rfl) ?_
        refine AL_nil ?_
        refine AW_ret (BQ_ret (BQ_ret ?_))
        exact ⟨rn [], ⟨⟨⟨_, rfl, vle_int (by first | (simp only [totL]; unfold szR; omega) | (simp only [totL]; done))⟩, trivial⟩, trivial, trivial, rfl⟩⟩
      · try simp only [decide_eq_true_eq, decide_eq_false_iff_not, Bool.not_eq_true, Bool.not_eq_false, Bool.not_eq_true', Bool.not_eq_false', beq_iff_eq, bne_iff_ne, beq_eq_false_iff_ne, bne_eq_false_iff_eq, Int.not_lt, Int.not_le, ge_iff_le, gt_iff_lt] at h25
        have f25 := (szR_nonneg h25).1
        have e25 := (szR_nonneg h25).2
        refine AW_condF rfl ?_
        refine AW_skip ?_
        refine AW_region ?_
        refine AL_p (x_move rfl rfl) ?_
        refine AL_p (x_add rfl rfl rfl (IntWalk.i64_in _ (by omega))) ?_
        refine AL_p (x_assign rfl rfl) ?_
        refine AL_nil ?_
        refine ⟨⟨k + 1, ⟨by omega, by omega⟩⟩, rn [], ?_, by dsimp only; omega⟩
        exact ⟨by (repeat refine ⟨⟨_, rfl, by first | exact VLe.rf | exact vle_int (by dsimp only; omega) | exact vle_int (by first | (simp [cntL]; done) | (simp [cntL]; try omega))⟩, ?_⟩); exact trivial, by (repeat refine ⟨⟨_, rfl, by first | exact BLe.rf | exact BLe.box AllC.rf | exact BLe.arr (by exact rfl)⟩, ?_⟩); exact trivial, by repeat (first | exact trivial | refine ⟨⟨rfl, by first | (left; intro h; cases h) | (right; rfl), fun _ h => ⟨_, h⟩⟩, ?_⟩), rfl⟩
    · try simp only [decide_eq_true_eq, decide_eq_false_iff_not, Bool.not_eq_true, Bool.not_eq_false, Bool.not_eq_true', Bool.not_eq_false', beq_iff_eq, bne_iff_ne, beq_eq_false_iff_ne, bne_eq_false_iff_eq, Int.not_lt, Int.not_le, ge_iff_le, gt_iff_lt] at h15
      have ha := cntL_all (c := totRule) (xs := xs) (k := k) (by omega)
      refine AW_condF rfl ?_
      refine AW_exit (BQ_hit ?_)
      refine AW_seq ?_
      refine AW_region ?_
      refine AL_p (x_move rfl rfl) ?_
      refine AL_p (x_assign rfl rfl) ?_
      refine AL_nil ?_
      refine AW_ret ?_
      exact ⟨rn [], ⟨⟨⟨_, rfl, vle_int (by first | (simp only [totL]; unfold szR; omega) | (simp only [totL]; done))⟩, trivial⟩, trivial, trivial, rfl⟩⟩

set_option maxHeartbeats 4000000 in
theorem szDecl_c (x : Declt) (left : Int) (l0 : 0 ≤ left) (l1 : left ≤ 1048576) : AC Try.prog 162 [.agg (declC x), .one (.c (.int .i64 left))] [] (.one (.c (.int .i64 (szR (totDecl x) left)))) [] := by
  refine AC_body1 Try.func162 rfl rfl Try.ntmps162 rfl Try.results162 ?_
  refine AW_aggsmax 0 1 rfl rfl (fun hs0_1 => ?_)
  refine AW_seq ?_
  refine AW_region ?_
  refine AL_p (x_box 100 rfl rfl rfl rfl rfl rfl rfl) ?_
  refine AL_p (x_assign rfl rfl) ?_
  refine AL_nil ?_
  refine AW_seq ?_
  refine AW_region ?_
  refine AL_p (x_move rfl rfl) ?_
  refine AL_p (x_field (off := 1) (o' := 1) rfl rfl rfl (by kernel_rfl) rfl) ?_
  refine AL_p (x_load1 rfl rfl rfl (by kernel_rfl) rfl) ?_
  refine AL_p (x_lens rfl rfl (by kernel_rfl)) ?_
  refine AL_p (x_sub rfl rfl rfl (IntWalk.i64_in _ (by omega))) ?_
  refine AL_p (x_assign rfl rfl) ?_
  refine AL_nil ?_
  refine AW_seq ?_
  refine AW_seq ?_
  refine AW_region ?_
  refine AL_p (x_move rfl rfl) ?_
  refine AL_b (x_lss rfl rfl rfl) (fun b11 h11 => ?_)
  refine AL_nil ?_
  cases b11
  rotate_left
  · try simp only [decide_eq_true_eq, decide_eq_false_iff_not, Bool.not_eq_true, Bool.not_eq_false, Bool.not_eq_true', Bool.not_eq_false', beq_iff_eq, bne_iff_ne, beq_eq_false_iff_ne, bne_eq_false_iff_eq, Int.not_lt, Int.not_le, ge_iff_le, gt_iff_lt] at h11
    refine AW_condT rfl ?_
    refine AW_seq ?_
    refine AW_region ?_
    refine AL_p (x_assign rfl rfl) ?_
    refine AL_nil ?_
    refine AW_ret ?_
    exact ⟨rn [], ⟨⟨⟨_, rfl, vle_int (by first | (simp only [totDecl]; unfold szR; omega) | (simp only [totDecl]; done))⟩, trivial⟩, trivial, trivial, rfl⟩⟩
  · try simp only [decide_eq_true_eq, decide_eq_false_iff_not, Bool.not_eq_true, Bool.not_eq_false, Bool.not_eq_true', Bool.not_eq_false', beq_iff_eq, bne_iff_ne, beq_eq_false_iff_ne, bne_eq_false_iff_eq, Int.not_lt, Int.not_le, ge_iff_le, gt_iff_lt] at h11
    refine AW_condF rfl ?_
    refine AW_skip ?_
    refine AW_seq ?_
    refine AW_region ?_
    refine AL_p (x_move rfl rfl) ?_
    refine AL_p (x_assign rfl rfl) ?_
    refine AL_nil ?_
    refine AW_ret ?_
    exact ⟨rn [], ⟨⟨⟨_, rfl, vle_int (by first | (simp only [totDecl]; unfold szR; omega) | (simp only [totDecl]; done))⟩, trivial⟩, trivial, trivial, rfl⟩⟩

set_option maxHeartbeats 4000000 in
theorem szDeclS_c (xs : List (Declt)) (left : Int) (l0 : 0 ≤ left) (l1 : left ≤ 1048576) : AC Try.prog 98 [.one (.sl declE xs), .one (.c (.int .i64 left))] [] (.one (.c (.int .i64 (szR (totL totDecl xs) left)))) [] := by
  refine AC_body1 Try.func98 rfl rfl Try.ntmps98 rfl Try.results98 ?_
  refine AW_slmax 0 rfl (fun hm0 => ?_)
  refine AW_seq ?_
  refine AW_region ?_
  refine AL_p (x_assign rfl rfl) ?_
  refine AL_nil ?_
  refine AW_seq ?_
  refine AW_region ?_
  refine AL_p (x_move rfl rfl) ?_
  refine AL_p (x_move rfl rfl) ?_
  refine AL_p (x_len (E := 227) (n := 3) rfl rfl (by kernel_rfl)) ?_
  refine AL_p (x_sub rfl rfl rfl (IntWalk.i64_in _ (by omega))) ?_
  refine AL_p (x_assign rfl rfl) ?_
  refine AL_nil ?_
  refine AW_seq ?_
  refine AW_seq ?_
  refine AW_region ?_
  refine AL_p (x_move rfl rfl) ?_
  refine AL_b (x_lss rfl rfl rfl) (fun b11 h11 => ?_)
  refine AL_nil ?_
  cases b11
  rotate_left
  · try simp only [decide_eq_true_eq, decide_eq_false_iff_not, Bool.not_eq_true, Bool.not_eq_false, Bool.not_eq_true', Bool.not_eq_false', beq_iff_eq, bne_iff_ne, beq_eq_false_iff_ne, bne_eq_false_iff_eq, Int.not_lt, Int.not_le, ge_iff_le, gt_iff_lt] at h11
    refine AW_condT rfl ?_
    refine AW_seq ?_
    refine AW_region ?_
    refine AL_p (x_assign rfl rfl) ?_
    refine AL_nil ?_
    refine AW_ret ?_
    exact ⟨rn [], ⟨⟨⟨_, rfl, vle_int (by first | (simp only [totL]; unfold szR; omega) | (simp only [totL]; done))⟩, trivial⟩, trivial, trivial, rfl⟩⟩
  · try simp only [decide_eq_true_eq, decide_eq_false_iff_not, Bool.not_eq_true, Bool.not_eq_false, Bool.not_eq_true', Bool.not_eq_false', beq_iff_eq, bne_iff_ne, beq_eq_false_iff_ne, bne_eq_false_iff_eq, Int.not_lt, Int.not_le, ge_iff_le, gt_iff_lt] at h11
    refine AW_condF rfl ?_
    refine AW_skip ?_
    refine AW_seq ?_
    refine AW_seq ?_
    refine AW_region ?_
    refine AL_p (x_assign rfl rfl) ?_
    refine AL_nil ?_
    refine AW_block ?_
    refine AW_loop2 (ι := {q : Nat // q ≤ xs.length ∧ ((cntL totDecl (xs.take q) : Nat) : Int) ≤ left - (xs.length : Int)}) (fun p => [(1, .one (.c (.int .i64 (left - (xs.length : Int) - ((cntL totDecl (xs.take (p.1)) : Nat) : Int))))), (5, .one (.c (.int .i64 ((p.1) : Int))))]) (fun p => []) [0] [] (fun p => xs.length - (p.1)) ⟨0, ⟨by omega, by first | (simp [cntL]; done) | (simp [cntL]; try omega)⟩⟩ (rn []) ?_ ?_
    exact ⟨by (repeat refine ⟨⟨_, rfl, by first | exact VLe.rf | exact vle_int (by dsimp only; omega) | exact vle_int (by first | (simp [cntL]; done) | (simp [cntL]; try omega))⟩, ?_⟩); exact trivial, by (repeat refine ⟨⟨_, rfl, by first | exact BLe.rf | exact BLe.box AllC.rf | exact BLe.arr (by exact rfl)⟩, ?_⟩); exact trivial, by repeat (first | exact trivial | refine ⟨⟨rfl, by first | (left; intro h; cases h) | (right; rfl), fun _ h => ⟨_, h⟩⟩, ?_⟩), rfl⟩
    rintro ⟨k, hinv⟩
    dsimp only
    obtain ⟨hk, hc⟩ := hinv
    refine AW_seq ?_
    refine AW_seq ?_
    refine AW_region ?_
    refine AL_p (x_move rfl rfl) ?_
    refine AL_p (x_move rfl rfl) ?_
    refine AL_p (x_len (E := 227) (n := 3) rfl rfl (by kernel_rfl)) ?_
    refine AL_b (x_lss rfl rfl rfl) (fun b15 h15 => ?_)
    refine AL_nil ?_
    cases b15
    rotate_left
    · try simp only [decide_eq_true_eq, decide_eq_false_iff_not, Bool.not_eq_true, Bool.not_eq_false, Bool.not_eq_true', Bool.not_eq_false', beq_iff_eq, bne_iff_ne, beq_eq_false_iff_ne, bne_eq_false_iff_eq, Int.not_lt, Int.not_le, ge_iff_le, gt_iff_lt] at h15
      have hlt : k < xs.length := by omega
      have hs := cntL_snoc (c := totDecl) hlt
      have ht := cntL_take (c := totDecl) hlt
      refine AW_condT rfl ?_
      refine AW_skip ?_
      refine AW_seq ?_
      refine AW_block ?_
      refine AW_seq ?_
      refine AW_region ?_
      refine AL_p (x_move rfl rfl) ?_
      refine AL_p (x_move rfl rfl) ?_
      refine AL_p (x_index (E := 227) (n := 3) rfl rfl rfl (by kernel_rfl) rfl (k := k) (by omega) (by omega)) ?_
      refine AL_p (x_eloadW (n := 3) rfl rfl (by kernel_rfl) rfl) ?_
      refine AL_p (x_move rfl rfl) ?_
      refine AL_p (x_call0 rfl rfl rfl (szDecl_c _ _ (by omega) (by omega)) rfl rfl) ?_
      refine AL_p (x_assign rfl rfl) ?_
      refine AL_nil ?_
      refine AW_seq ?_
      refine AW_region ?_
      refine AL_p (x_move rfl rfl) ?_
      refine AL_b (x_lss rfl rfl rfl) (fun b25 h25 => ?_)
      refine AL_nil ?_
      cases b25
      rotate_left
      · try simp only [decide_eq_true_eq, decide_eq_false_iff_not, Bool.not_eq_true, Bool.not_eq_false, Bool.not_eq_true', Bool.not_eq_false', beq_iff_eq, bne_iff_ne, beq_eq_false_iff_ne, bne_eq_false_iff_eq, Int.not_lt, Int.not_le, ge_iff_le, gt_iff_lt] at h25
        have g25 := szR_neg h25
        refine AW_condT rfl ?_
        refine AW_seq ?_
        refine AW_region ?_
        refine AL_p (x_assign rfl rfl) ?_
        refine AL_nil ?_
        refine AW_ret (BQ_ret (BQ_ret ?_))
        exact ⟨rn [], ⟨⟨⟨_, rfl, vle_int (by first | (simp only [totL]; unfold szR; omega) | (simp only [totL]; done))⟩, trivial⟩, trivial, trivial, rfl⟩⟩
      · try simp only [decide_eq_true_eq, decide_eq_false_iff_not, Bool.not_eq_true, Bool.not_eq_false, Bool.not_eq_true', Bool.not_eq_false', beq_iff_eq, bne_iff_ne, beq_eq_false_iff_ne, bne_eq_false_iff_eq, Int.not_lt, Int.not_le, ge_iff_le, gt_iff_lt] at h25
        have f25 := (szR_nonneg h25).1
        have e25 := (szR_nonneg h25).2
        refine AW_condF rfl ?_
        refine AW_skip ?_
        refine AW_region ?_
        refine AL_p (x_move rfl rfl) ?_
        refine AL_p (x_add rfl rfl rfl (IntWalk.i64_in _ (by omega))) ?_
        refine AL_p (x_assign rfl rfl) ?_
        refine AL_nil ?_
        refine ⟨⟨k + 1, ⟨by omega, by omega⟩⟩, rn [], ?_, by dsimp only; omega⟩
        exact ⟨by (repeat refine ⟨⟨_, rfl, by first | exact VLe.rf | exact vle_int (by dsimp only; omega) | exact vle_int (by first | (simp [cntL]; done) | (simp [cntL]; try omega))⟩, ?_⟩); exact trivial, by (repeat refine ⟨⟨_, rfl, by first | exact BLe.rf | exact BLe.box AllC.rf | exact BLe.arr (by exact rfl)⟩, ?_⟩); exact trivial, by repeat (first | exact trivial | refine ⟨⟨rfl, by first | (left; intro h; cases h) | (right; rfl), fun _ h => ⟨_, h⟩⟩, ?_⟩), rfl⟩
    · try simp only [decide_eq_true_eq, decide_eq_false_iff_not, Bool.not_eq_true, Bool.not_eq_false, Bool.not_eq_true', Bool.not_eq_false', beq_iff_eq, bne_iff_ne, beq_eq_false_iff_ne, bne_eq_false_iff_eq, Int.not_lt, Int.not_le, ge_iff_le, gt_iff_lt] at h15
      have ha := cntL_all (c := totDecl) (xs := xs) (k := k) (by omega)
      refine AW_condF rfl ?_
      refine AW_exit (BQ_hit ?_)
      refine AW_seq ?_
      refine AW_region ?_
      refine AL_p (x_move rfl rfl) ?_
      refine AL_p (x_assign rfl rfl) ?_
      refine AL_nil ?_
      refine AW_ret ?_
      exact ⟨rn [], ⟨⟨⟨_, rfl, vle_int (by first | (simp only [totL]; unfold szR; omega) | (simp only [totL]; done))⟩, trivial⟩, trivial, trivial, rfl⟩⟩

set_option maxHeartbeats 4000000 in
theorem szProgram_c (x : Programt) (left : Int) (l0 : 0 ≤ left) (l1 : left ≤ 1048576) : AC Try.prog 41 [.agg (programC x), .one (.c (.int .i64 left))] [] (.one (.c (.int .i64 (szR (totProgram x) left)))) [] := by
  refine AC_body1 Try.func41 rfl rfl Try.ntmps41 rfl Try.results41 ?_
  refine AW_seq ?_
  refine AW_region ?_
  refine AL_p (x_box 100 rfl rfl rfl rfl rfl rfl rfl) ?_
  refine AL_p (x_assign rfl rfl) ?_
  refine AL_nil ?_
  refine AW_seq ?_
  refine AW_region ?_
  refine AL_p (x_field (off := 0) (o' := 0) rfl rfl rfl (by kernel_rfl) rfl) ?_
  refine AL_p (x_load1 rfl rfl rfl (by kernel_rfl) rfl) ?_
  refine AL_p (x_move rfl rfl) ?_
  refine AL_p (x_call0 rfl rfl rfl (szDeclS_c _ _ (by omega) (by omega)) rfl rfl) ?_
  refine AL_p (x_assign rfl rfl) ?_
  refine AL_nil ?_
  refine AW_seq ?_
  refine AW_seq ?_
  refine AW_region ?_
  refine AL_p (x_move rfl rfl) ?_
  refine AL_b (x_lss rfl rfl rfl) (fun b10 h10 => ?_)
  refine AL_nil ?_
  cases b10
  rotate_left
  · try simp only [decide_eq_true_eq, decide_eq_false_iff_not, Bool.not_eq_true, Bool.not_eq_false, Bool.not_eq_true', Bool.not_eq_false', beq_iff_eq, bne_iff_ne, beq_eq_false_iff_ne, bne_eq_false_iff_eq, Int.not_lt, Int.not_le, ge_iff_le, gt_iff_lt] at h10
    have g10 := szR_neg h10
    refine AW_condT rfl ?_
    refine AW_seq ?_
    refine AW_region ?_
    refine AL_p (x_assign rfl rfl) ?_
    refine AL_nil ?_
    refine AW_ret ?_
    exact ⟨rn [], ⟨⟨⟨_, rfl, vle_int (by first | (simp only [totProgram]; unfold szR; omega) | (simp only [totProgram]; done))⟩, trivial⟩, trivial, trivial, rfl⟩⟩
  · try simp only [decide_eq_true_eq, decide_eq_false_iff_not, Bool.not_eq_true, Bool.not_eq_false, Bool.not_eq_true', Bool.not_eq_false', beq_iff_eq, bne_iff_ne, beq_eq_false_iff_ne, bne_eq_false_iff_eq, Int.not_lt, Int.not_le, ge_iff_le, gt_iff_lt] at h10
    have f10 := (szR_nonneg h10).1
    have e10 := (szR_nonneg h10).2
    refine AW_condF rfl ?_
    refine AW_skip ?_
    refine AW_seq ?_
    refine AW_region ?_
    refine AL_p (x_field (off := 1) (o' := 1) rfl rfl rfl (by kernel_rfl) rfl) ?_
    refine AL_p (x_load1 rfl rfl rfl (by kernel_rfl) rfl) ?_
    refine AL_p (x_move rfl rfl) ?_
    refine AL_p (x_call0 rfl rfl rfl (szRuleS_c _ _ (by omega) (by omega)) rfl rfl) ?_
    refine AL_p (x_assign rfl rfl) ?_
    refine AL_nil ?_
    refine AW_seq ?_
    refine AW_seq ?_
    refine AW_region ?_
    refine AL_p (x_move rfl rfl) ?_
    refine AL_b (x_lss rfl rfl rfl) (fun b16 h16 => ?_)
    refine AL_nil ?_
    cases b16
    rotate_left
    · try simp only [decide_eq_true_eq, decide_eq_false_iff_not, Bool.not_eq_true, Bool.not_eq_false, Bool.not_eq_true', Bool.not_eq_false', beq_iff_eq, bne_iff_ne, beq_eq_false_iff_ne, bne_eq_false_iff_eq, Int.not_lt, Int.not_le, ge_iff_le, gt_iff_lt] at h16
      have g16 := szR_neg h16
      refine AW_condT rfl ?_
      refine AW_seq ?_
      refine AW_region ?_
      refine AL_p (x_assign rfl rfl) ?_
      refine AL_nil ?_
      refine AW_ret ?_
      exact ⟨rn [], ⟨⟨⟨_, rfl, vle_int (by first | (simp only [totProgram]; unfold szR; omega) | (simp only [totProgram]; done))⟩, trivial⟩, trivial, trivial, rfl⟩⟩
    · try simp only [decide_eq_true_eq, decide_eq_false_iff_not, Bool.not_eq_true, Bool.not_eq_false, Bool.not_eq_true', Bool.not_eq_false', beq_iff_eq, bne_iff_ne, beq_eq_false_iff_ne, bne_eq_false_iff_eq, Int.not_lt, Int.not_le, ge_iff_le, gt_iff_lt] at h16
      have f16 := (szR_nonneg h16).1
      have e16 := (szR_nonneg h16).2
      refine AW_condF rfl ?_
      refine AW_skip ?_
      refine AW_seq ?_
      refine AW_region ?_
      refine AL_p (x_move rfl rfl) ?_
      refine AL_p (x_assign rfl rfl) ?_
      refine AL_nil ?_
      refine AW_ret ?_
      exact ⟨rn [], ⟨⟨⟨_, rfl, vle_int (by first | (simp only [totProgram]; unfold szR; omega) | (simp only [totProgram]; done))⟩, trivial⟩, trivial, trivial, rfl⟩⟩

set_option maxHeartbeats 4000000 in
theorem eqValue_c (x : Val) : AC Try.prog 195 [.agg (valC x), .agg (valC x)] [] (.one (.c (.bool true))) [] := by
  refine AC_body1 Try.func195 rfl rfl Try.ntmps195 rfl Try.results195 ?_
  refine AW_seq ?_
  refine AW_region ?_
  refine AL_p (x_box 100 rfl rfl rfl rfl rfl rfl rfl) ?_
  refine AL_p (x_box 101 rfl rfl rfl rfl rfl rfl rfl) ?_
  refine AL_p (x_assign rfl rfl) ?_
  refine AL_nil ?_
  refine AW_seq ?_
  refine AW_seq ?_
  refine AW_region ?_
  refine AL_p (x_field (off := 0) (o' := 0) rfl rfl rfl (by kernel_rfl) rfl) ?_
  refine AL_p (x_load1 rfl rfl rfl (by kernel_rfl) rfl) ?_
  refine AL_p (x_field (off := 0) (o' := 0) rfl rfl rfl (by kernel_rfl) rfl) ?_
  refine AL_p (x_load1 rfl rfl rfl (by kernel_rfl) rfl) ?_
  refine AL_b (x_neq rfl rfl rfl) (fun b9 h9 => ?_)
  refine AL_nil ?_
  cases b9
  rotate_left
  · exfalso; first | (simp [ba_beq_self] at h9; done) | grind
  · try simp only [decide_eq_true_eq, decide_eq_false_iff_not, Bool.not_eq_true, Bool.not_eq_false, Bool.not_eq_true', Bool.not_eq_false', beq_iff_eq, bne_iff_ne, beq_eq_false_iff_ne, bne_eq_false_iff_eq, Int.not_lt, Int.not_le, ge_iff_le, gt_iff_lt] at h9
    refine AW_condF rfl ?_
    refine AW_skip ?_
    refine AW_seq ?_
    refine AW_seq ?_
    refine AW_region ?_
    refine AL_p (x_field (off := 1) (o' := 1) rfl rfl rfl (by kernel_rfl) rfl) ?_
    refine AL_p (x_load1 rfl rfl rfl (by kernel_rfl) rfl) ?_
    refine AL_p (x_field (off := 1) (o' := 1) rfl rfl rfl (by kernel_rfl) rfl) ?_
    refine AL_p (x_load1 rfl rfl rfl (by kernel_rfl) rfl) ?_
    refine AL_b (x_sneq rfl rfl rfl) (fun b14 h14 => ?_)
    refine AL_nil ?_
    cases b14
    rotate_left
    · exfalso; first | (simp [ba_beq_self] at h14; done) | grind
    · try simp only [decide_eq_true_eq, decide_eq_false_iff_not, Bool.not_eq_true, Bool.not_eq_false, Bool.not_eq_true', Bool.not_eq_false', beq_iff_eq, bne_iff_ne, beq_eq_false_iff_ne, bne_eq_false_iff_eq, Int.not_lt, Int.not_le, ge_iff_le, gt_iff_lt] at h14
      refine AW_condF rfl ?_
      refine AW_skip ?_
      refine AW_seq ?_
      refine AW_region ?_
      refine AL_p (x_assign rfl rfl) ?_
      refine AL_nil ?_
      refine AW_ret ?_
      exact ⟨rn [], ⟨⟨⟨_, rfl, vle_bool (rfl)⟩, trivial⟩, trivial, trivial, rfl⟩⟩

set_option maxHeartbeats 4000000 in
theorem eqTerm_c (x : Termt) : AC Try.prog 154 [.agg (termC x), .agg (termC x)] [] (.one (.c (.bool true))) [] := by
  refine AC_body1 Try.func154 rfl rfl Try.ntmps154 rfl Try.results154 ?_
  refine AW_seq ?_
  refine AW_region ?_
  refine AL_p (x_box 100 rfl rfl rfl rfl rfl rfl rfl) ?_
  refine AL_p (x_box 101 rfl rfl rfl rfl rfl rfl rfl) ?_
  refine AL_p (x_assign rfl rfl) ?_
  refine AL_nil ?_
  refine AW_seq ?_
  refine AW_seq ?_
  refine AW_region ?_
  refine AL_p (x_field (off := 0) (o' := 0) rfl rfl rfl (by kernel_rfl) rfl) ?_
  refine AL_p (x_load1 rfl rfl rfl (by kernel_rfl) rfl) ?_
  refine AL_p (x_field (off := 0) (o' := 0) rfl rfl rfl (by kernel_rfl) rfl) ?_
  refine AL_p (x_load1 rfl rfl rfl (by kernel_rfl) rfl) ?_
  refine AL_b (x_sneq rfl rfl rfl) (fun b9 h9 => ?_)
  refine AL_nil ?_
  cases b9
  rotate_left
  · exfalso; first | (simp [ba_beq_self] at h9; done) | grind
  · try simp only [decide_eq_true_eq, decide_eq_false_iff_not, Bool.not_eq_true, Bool.not_eq_false, Bool.not_eq_true', Bool.not_eq_false', beq_iff_eq, bne_iff_ne, beq_eq_false_iff_ne, bne_eq_false_iff_eq, Int.not_lt, Int.not_le, ge_iff_le, gt_iff_lt] at h9
    refine AW_condF rfl ?_
    refine AW_skip ?_
    refine AW_seq ?_
    refine AW_seq ?_
    refine AW_region ?_
    refine AL_p (x_field (off := 1) (o' := 1) rfl rfl rfl (by kernel_rfl) rfl) ?_
    refine AL_p (x_loadN (n := 2) rfl rfl rfl (by kernel_rfl) rfl rfl) ?_
    refine AL_p (x_field (off := 1) (o' := 1) rfl rfl rfl (by kernel_rfl) rfl) ?_
    refine AL_p (x_loadN (n := 2) rfl rfl rfl (by kernel_rfl) rfl rfl) ?_
    refine AL_p (x_call0 rfl rfl rfl (eqValue_c _) rfl rfl) ?_
    refine AL_p (x_not rfl rfl) ?_
    refine AL_nil ?_
    refine AW_condF rfl ?_
    refine AW_skip ?_
    refine AW_seq ?_
    refine AW_region ?_
    refine AL_p (x_assign rfl rfl) ?_
    refine AL_nil ?_
    refine AW_ret ?_
    exact ⟨rn [], ⟨⟨⟨_, rfl, vle_bool (rfl)⟩, trivial⟩, trivial, trivial, rfl⟩⟩

set_option maxHeartbeats 4000000 in
theorem eqTermS_c (xs : List (Termt)) : AC Try.prog 90 [.one (.sl termE xs), .one (.sl termE xs)] [] (.one (.c (.bool true))) [] := by
  refine AC_body1 Try.func90 rfl rfl Try.ntmps90 rfl Try.results90 ?_
  refine AW_slmax 0 rfl (fun hm0 => ?_)
  refine AW_seq ?_
  refine AW_region ?_
  refine AL_p (x_assign rfl rfl) ?_
  refine AL_nil ?_
  refine AW_seq ?_
  refine AW_seq ?_
  refine AW_region ?_
  refine AL_p (x_move rfl rfl) ?_
  refine AL_p (x_len (E := 142) (n := 3) rfl rfl (by kernel_rfl)) ?_
  refine AL_p (x_move rfl rfl) ?_
  refine AL_p (x_len (E := 142) (n := 3) rfl rfl (by kernel_rfl)) ?_
  refine AL_b (x_neq rfl rfl rfl) (fun b10 h10 => ?_)
  refine AL_nil ?_
  cases b10
  rotate_left
  · exfalso; first | (simp [ba_beq_self] at h10; done) | grind
  · try simp only [decide_eq_true_eq, decide_eq_false_iff_not, Bool.not_eq_true, Bool.not_eq_false, Bool.not_eq_true', Bool.not_eq_false', beq_iff_eq, bne_iff_ne, beq_eq_false_iff_ne, bne_eq_false_iff_eq, Int.not_lt, Int.not_le, ge_iff_le, gt_iff_lt] at h10
    refine AW_condF rfl ?_
    refine AW_skip ?_
    refine AW_seq ?_
    refine AW_seq ?_
    refine AW_region ?_
    refine AL_p (x_assign rfl rfl) ?_
    refine AL_nil ?_
    refine AW_block ?_
    refine AW_loop2 (ι := {q : Nat // q ≤ xs.length}) (fun p => [(5, .one (.c (.int .i64 ((p.1) : Int))))]) (fun p => []) [0, 1] [] (fun p => xs.length - (p.1)) ⟨0, by omega⟩ (rn []) ?_ ?_
    exact ⟨by (repeat refine ⟨⟨_, rfl, by first | exact VLe.rf | exact vle_int (by dsimp only; omega)⟩, ?_⟩); exact trivial, by (repeat refine ⟨⟨_, rfl, by first | exact BLe.rf | exact BLe.box AllC.rf | exact BLe.arr (by exact rfl)⟩, ?_⟩); exact trivial, by repeat (first | exact trivial | refine ⟨⟨rfl, by first | (left; intro h; cases h) | (right; rfl), fun _ h => ⟨_, h⟩⟩, ?_⟩), rfl⟩
    rintro ⟨k, hinv⟩
    dsimp only
    refine AW_seq ?_
    refine AW_seq ?_
    refine AW_region ?_
    refine AL_p (x_move rfl rfl) ?_
    refine AL_p (x_move rfl rfl) ?_
    refine AL_p (x_len (E := 142) (n := 3) rfl rfl (by kernel_rfl)) ?_
    refine AL_b (x_lss rfl rfl rfl) (fun b14 h14 => ?_)
    refine AL_nil ?_
    cases b14
    rotate_left
    · try simp only [decide_eq_true_eq, decide_eq_false_iff_not, Bool.not_eq_true, Bool.not_eq_false, Bool.not_eq_true', Bool.not_eq_false', beq_iff_eq, bne_iff_ne, beq_eq_false_iff_ne, bne_eq_false_iff_eq, Int.not_lt, Int.not_le, ge_iff_le, gt_iff_lt] at h14
      refine AW_condT rfl ?_
      refine AW_skip ?_
      refine AW_seq ?_
      refine AW_block ?_
      refine AW_seq ?_
      refine AW_draw rfl ?_
      refine AL_p (x_move rfl rfl) ?_
      refine AL_p (x_move rfl rfl) ?_
      refine AL_p (x_index (E := 142) (n := 3) rfl rfl rfl (by kernel_rfl) rfl (k := k) (by omega) (by omega)) ?_
      refine AL_p (x_eloadW (n := 3) rfl rfl (by kernel_rfl) rfl) ?_
      refine AL_p (x_move rfl rfl) ?_
      refine AL_p (x_move rfl rfl) ?_
      refine AL_p (x_index (E := 142) (n := 3) rfl rfl rfl (by kernel_rfl) rfl (k := k) (by omega) (by omega)) ?_
      refine AL_p (x_eloadW (n := 3) rfl rfl (by kernel_rfl) rfl) ?_
      refine AL_p (x_call0 rfl rfl rfl (eqTerm_c _) rfl rfl) ?_
      refine AL_p (x_not rfl rfl) ?_
      refine AL_nild (by kernel_rfl) ?_
      refine AW_condF rfl ?_
      refine AW_skip ?_
      refine AW_region ?_
      refine AL_p (x_move rfl rfl) ?_
      refine AL_p (x_add rfl rfl rfl (IntWalk.i64_in _ (by omega))) ?_
      refine AL_p (x_assign rfl rfl) ?_
      refine AL_nil ?_
      refine ⟨⟨k + 1, by omega⟩, rn [], ?_, by dsimp only; omega⟩
      exact ⟨by (repeat refine ⟨⟨_, rfl, by first | exact VLe.rf | exact vle_int (by dsimp only; omega)⟩, ?_⟩); exact trivial, by (repeat refine ⟨⟨_, rfl, by first | exact BLe.rf | exact BLe.box AllC.rf | exact BLe.arr (by exact rfl)⟩, ?_⟩); exact trivial, by repeat (first | exact trivial | refine ⟨⟨rfl, by first | (left; intro h; cases h) | (right; rfl), fun _ h => ⟨_, h⟩⟩, ?_⟩), rfl⟩
    · try simp only [decide_eq_true_eq, decide_eq_false_iff_not, Bool.not_eq_true, Bool.not_eq_false, Bool.not_eq_true', Bool.not_eq_false', beq_iff_eq, bne_iff_ne, beq_eq_false_iff_ne, bne_eq_false_iff_eq, Int.not_lt, Int.not_le, ge_iff_le, gt_iff_lt] at h14
      refine AW_condF rfl ?_
      refine AW_exit (BQ_hit ?_)
      refine AW_seq ?_
      refine AW_region ?_
      refine AL_p (x_assign rfl rfl) ?_
      refine AL_nil ?_
      refine AW_ret ?_
      exact ⟨rn [], ⟨⟨⟨_, rfl, vle_bool (rfl)⟩, trivial⟩, trivial, trivial, rfl⟩⟩

set_option maxHeartbeats 4000000 in
theorem eqAtom_c (x : Atomt) : AC Try.prog 35 [.agg (atomC x), .agg (atomC x)] [] (.one (.c (.bool true))) [] := by
  refine AC_body1 Try.func35 rfl rfl Try.ntmps35 rfl Try.results35 ?_
  refine AW_seq ?_
  refine AW_region ?_
  refine AL_p (x_box 100 rfl rfl rfl rfl rfl rfl rfl) ?_
  refine AL_p (x_box 101 rfl rfl rfl rfl rfl rfl rfl) ?_
  refine AL_p (x_assign rfl rfl) ?_
  refine AL_nil ?_
  refine AW_seq ?_
  refine AW_seq ?_
  refine AW_region ?_
  refine AL_p (x_field (off := 0) (o' := 0) rfl rfl rfl (by kernel_rfl) rfl) ?_
  refine AL_p (x_load1 rfl rfl rfl (by kernel_rfl) rfl) ?_
  refine AL_p (x_field (off := 0) (o' := 0) rfl rfl rfl (by kernel_rfl) rfl) ?_
  refine AL_p (x_load1 rfl rfl rfl (by kernel_rfl) rfl) ?_
  refine AL_b (x_sneq rfl rfl rfl) (fun b9 h9 => ?_)
  refine AL_nil ?_
  cases b9
  rotate_left
  · exfalso; first | (simp [ba_beq_self] at h9; done) | grind
  · try simp only [decide_eq_true_eq, decide_eq_false_iff_not, Bool.not_eq_true, Bool.not_eq_false, Bool.not_eq_true', Bool.not_eq_false', beq_iff_eq, bne_iff_ne, beq_eq_false_iff_ne, bne_eq_false_iff_eq, Int.not_lt, Int.not_le, ge_iff_le, gt_iff_lt] at h9
    refine AW_condF rfl ?_
    refine AW_skip ?_
    refine AW_seq ?_
    refine AW_seq ?_
    refine AW_region ?_
    refine AL_p (x_field (off := 1) (o' := 1) rfl rfl rfl (by kernel_rfl) rfl) ?_
    refine AL_p (x_load1 rfl rfl rfl (by kernel_rfl) rfl) ?_
    refine AL_p (x_field (off := 1) (o' := 1) rfl rfl rfl (by kernel_rfl) rfl) ?_
    refine AL_p (x_load1 rfl rfl rfl (by kernel_rfl) rfl) ?_
    refine AL_p (x_call0 rfl rfl rfl (eqTermS_c _) rfl rfl) ?_
    refine AL_p (x_not rfl rfl) ?_
    refine AL_nil ?_
    refine AW_condF rfl ?_
    refine AW_skip ?_
    refine AW_seq ?_
    refine AW_region ?_
    refine AL_p (x_assign rfl rfl) ?_
    refine AL_nil ?_
    refine AW_ret ?_
    exact ⟨rn [], ⟨⟨⟨_, rfl, vle_bool (rfl)⟩, trivial⟩, trivial, trivial, rfl⟩⟩

set_option maxHeartbeats 4000000 in
theorem eqLit_c (x : Litt) : AC Try.prog 161 [.agg (litC x), .agg (litC x)] [] (.one (.c (.bool true))) [] := by
  refine AC_body1 Try.func161 rfl rfl Try.ntmps161 rfl Try.results161 ?_
  refine AW_seq ?_
  refine AW_region ?_
  refine AL_p (x_box 100 rfl rfl rfl rfl rfl rfl rfl) ?_
  refine AL_p (x_box 101 rfl rfl rfl rfl rfl rfl rfl) ?_
  refine AL_p (x_assign rfl rfl) ?_
  refine AL_nil ?_
  refine AW_seq ?_
  refine AW_seq ?_
  refine AW_region ?_
  refine AL_p (x_field (off := 0) (o' := 0) rfl rfl rfl (by kernel_rfl) rfl) ?_
  refine AL_p (x_load1 rfl rfl rfl (by kernel_rfl) rfl) ?_
  refine AL_p (x_field (off := 0) (o' := 0) rfl rfl rfl (by kernel_rfl) rfl) ?_
  refine AL_p (x_load1 rfl rfl rfl (by kernel_rfl) rfl) ?_
  refine AL_b (x_neq rfl rfl rfl) (fun b9 h9 => ?_)
  refine AL_nil ?_
  cases b9
  rotate_left
  · exfalso; first | (simp [ba_beq_self] at h9; done) | grind
  · try simp only [decide_eq_true_eq, decide_eq_false_iff_not, Bool.not_eq_true, Bool.not_eq_false, Bool.not_eq_true', Bool.not_eq_false', beq_iff_eq, bne_iff_ne, beq_eq_false_iff_ne, bne_eq_false_iff_eq, Int.not_lt, Int.not_le, ge_iff_le, gt_iff_lt] at h9
    refine AW_condF rfl ?_
    refine AW_skip ?_
    refine AW_seq ?_
    refine AW_seq ?_
    refine AW_region ?_
    refine AL_p (x_field (off := 1) (o' := 1) rfl rfl rfl (by kernel_rfl) rfl) ?_
    refine AL_p (x_loadN (n := 2) rfl rfl rfl (by kernel_rfl) rfl rfl) ?_
    refine AL_p (x_field (off := 1) (o' := 1) rfl rfl rfl (by kernel_rfl) rfl) ?_
    refine AL_p (x_loadN (n := 2) rfl rfl rfl (by kernel_rfl) rfl rfl) ?_
    refine AL_p (x_call0 rfl rfl rfl (eqAtom_c _) rfl rfl) ?_
    refine AL_p (x_not rfl rfl) ?_
    refine AL_nil ?_
    refine AW_condF rfl ?_
    refine AW_skip ?_
    refine AW_seq ?_
    refine AW_seq ?_
    refine AW_region ?_
    refine AL_p (x_field (off := 3) (o' := 3) rfl rfl rfl (by kernel_rfl) rfl) ?_
    refine AL_p (x_load1 rfl rfl rfl (by kernel_rfl) rfl) ?_
    refine AL_p (x_field (off := 3) (o' := 3) rfl rfl rfl (by kernel_rfl) rfl) ?_
    refine AL_p (x_load1 rfl rfl rfl (by kernel_rfl) rfl) ?_
    refine AL_b (x_neq rfl rfl rfl) (fun b20 h20 => ?_)
    refine AL_nil ?_
    cases b20
    rotate_left
    · exfalso; first | (simp [ba_beq_self] at h20; done) | grind
    · try simp only [decide_eq_true_eq, decide_eq_false_iff_not, Bool.not_eq_true, Bool.not_eq_false, Bool.not_eq_true', Bool.not_eq_false', beq_iff_eq, bne_iff_ne, beq_eq_false_iff_ne, bne_eq_false_iff_eq, Int.not_lt, Int.not_le, ge_iff_le, gt_iff_lt] at h20
      refine AW_condF rfl ?_
      refine AW_skip ?_
      refine AW_seq ?_
      refine AW_seq ?_
      refine AW_region ?_
      refine AL_p (x_field (off := 4) (o' := 4) rfl rfl rfl (by kernel_rfl) rfl) ?_
      refine AL_p (x_loadN (n := 3) rfl rfl rfl (by kernel_rfl) rfl rfl) ?_
      refine AL_p (x_field (off := 4) (o' := 4) rfl rfl rfl (by kernel_rfl) rfl) ?_
      refine AL_p (x_loadN (n := 3) rfl rfl rfl (by kernel_rfl) rfl rfl) ?_
      refine AL_p (x_call0 rfl rfl rfl (eqTerm_c _) rfl rfl) ?_
      refine AL_p (x_not rfl rfl) ?_
      refine AL_nil ?_
      refine AW_condF rfl ?_
      refine AW_skip ?_
      refine AW_seq ?_
      refine AW_seq ?_
      refine AW_region ?_
      refine AL_p (x_field (off := 7) (o' := 7) rfl rfl rfl (by kernel_rfl) rfl) ?_
      refine AL_p (x_loadN (n := 3) rfl rfl rfl (by kernel_rfl) rfl rfl) ?_
      refine AL_p (x_field (off := 7) (o' := 7) rfl rfl rfl (by kernel_rfl) rfl) ?_
      refine AL_p (x_loadN (n := 3) rfl rfl rfl (by kernel_rfl) rfl rfl) ?_
      refine AL_p (x_call0 rfl rfl rfl (eqTerm_c _) rfl rfl) ?_
      refine AL_p (x_not rfl rfl) ?_
      refine AL_nil ?_
      refine AW_condF rfl ?_
      refine AW_skip ?_
      refine AW_seq ?_
      refine AW_region ?_
      refine AL_p (x_assign rfl rfl) ?_
      refine AL_nil ?_
      refine AW_ret ?_
      exact ⟨rn [], ⟨⟨⟨_, rfl, vle_bool (rfl)⟩, trivial⟩, trivial, trivial, rfl⟩⟩

set_option maxHeartbeats 4000000 in
theorem eqLitS_c (xs : List (Litt)) : AC Try.prog 97 [.one (.sl litE xs), .one (.sl litE xs)] [] (.one (.c (.bool true))) [] := by
  refine AC_body1 Try.func97 rfl rfl Try.ntmps97 rfl Try.results97 ?_
  refine AW_slmax 0 rfl (fun hm0 => ?_)
  refine AW_seq ?_
  refine AW_region ?_
  refine AL_p (x_assign rfl rfl) ?_
  refine AL_nil ?_
  refine AW_seq ?_
  refine AW_seq ?_
  refine AW_region ?_
  refine AL_p (x_move rfl rfl) ?_
  refine AL_p (x_len (E := 152) (n := 10) rfl rfl (by kernel_rfl)) ?_
  refine AL_p (x_move rfl rfl) ?_
  refine AL_p (x_len (E := 152) (n := 10) rfl rfl (by kernel_rfl)) ?_
  refine AL_b (x_neq rfl rfl rfl) (fun b10 h10 => ?_)
  refine AL_nil ?_
  cases b10
  rotate_left
  · exfalso; first | (simp [ba_beq_self] at h10; done) | grind
  · try simp only [decide_eq_true_eq, decide_eq_false_iff_not, Bool.not_eq_true, Bool.not_eq_false, Bool.not_eq_true', Bool.not_eq_false', beq_iff_eq, bne_iff_ne, beq_eq_false_iff_ne, bne_eq_false_iff_eq, Int.not_lt, Int.not_le, ge_iff_le, gt_iff_lt] at h10
    refine AW_condF rfl ?_
    refine AW_skip ?_
    refine AW_seq ?_
    refine AW_seq ?_
    refine AW_region ?_
    refine AL_p (x_assign rfl rfl) ?_
    refine AL_nil ?_
    refine AW_block ?_
    refine AW_loop2 (ι := {q : Nat // q ≤ xs.length}) (fun p => [(5, .one (.c (.int .i64 ((p.1) : Int))))]) (fun p => []) [0, 1] [] (fun p => xs.length - (p.1)) ⟨0, by omega⟩ (rn []) ?_ ?_
    exact ⟨by (repeat refine ⟨⟨_, rfl, by first | exact VLe.rf | exact vle_int (by dsimp only; omega)⟩, ?_⟩); exact trivial, by (repeat refine ⟨⟨_, rfl, by first | exact BLe.rf | exact BLe.box AllC.rf | exact BLe.arr (by exact rfl)⟩, ?_⟩); exact trivial, by repeat (first | exact trivial | refine ⟨⟨rfl, by first | (left; intro h; cases h) | (right; rfl), fun _ h => ⟨_, h⟩⟩, ?_⟩), rfl⟩
    rintro ⟨k, hinv⟩
    dsimp only
    refine AW_seq ?_
    refine AW_seq ?_
    refine AW_region ?_
    refine AL_p (x_move rfl rfl) ?_
    refine AL_p (x_move rfl rfl) ?_
    refine AL_p (x_len (E := 152) (n := 10) rfl rfl (by kernel_rfl)) ?_
    refine AL_b (x_lss rfl rfl rfl) (fun b14 h14 => ?_)
    refine AL_nil ?_
    cases b14
    rotate_left
    · try simp only [decide_eq_true_eq, decide_eq_false_iff_not, Bool.not_eq_true, Bool.not_eq_false, Bool.not_eq_true', Bool.not_eq_false', beq_iff_eq, bne_iff_ne, beq_eq_false_iff_ne, bne_eq_false_iff_eq, Int.not_lt, Int.not_le, ge_iff_le, gt_iff_lt] at h14
      refine AW_condT rfl ?_
      refine AW_skip ?_
      refine AW_seq ?_
      refine AW_block ?_
      refine AW_seq ?_
      refine AW_draw rfl ?_
      refine AL_p (x_move rfl rfl) ?_
      refine AL_p (x_move rfl rfl) ?_
      refine AL_p (x_index (E := 152) (n := 10) rfl rfl rfl (by kernel_rfl) rfl (k := k) (by omega) (by omega)) ?_
      refine AL_p (x_eloadW (n := 10) rfl rfl (by kernel_rfl) rfl) ?_
      refine AL_p (x_move rfl rfl) ?_
      refine AL_p (x_move rfl rfl) ?_
      refine AL_p (x_index (E := 152) (n := 10) rfl rfl rfl (by kernel_rfl) rfl (k := k) (by omega) (by omega)) ?_
      refine AL_p (x_eloadW (n := 10) rfl rfl (by kernel_rfl) rfl) ?_
      refine AL_p (x_call0 rfl rfl rfl (eqLit_c _) rfl rfl) ?_
      refine AL_p (x_not rfl rfl) ?_
      refine AL_nild (by kernel_rfl) ?_
      refine AW_condF rfl ?_
      refine AW_skip ?_
      refine AW_region ?_
      refine AL_p (x_move rfl rfl) ?_
      refine AL_p (x_add rfl rfl rfl (IntWalk.i64_in _ (by omega))) ?_
      refine AL_p (x_assign rfl rfl) ?_
      refine AL_nil ?_
      refine ⟨⟨k + 1, by omega⟩, rn [], ?_, by dsimp only; omega⟩
      exact ⟨by (repeat refine ⟨⟨_, rfl, by first | exact VLe.rf | exact vle_int (by dsimp only; omega)⟩, ?_⟩); exact trivial, by (repeat refine ⟨⟨_, rfl, by first | exact BLe.rf | exact BLe.box AllC.rf | exact BLe.arr (by exact rfl)⟩, ?_⟩); exact trivial, by repeat (first | exact trivial | refine ⟨⟨rfl, by first | (left; intro h; cases h) | (right; rfl), fun _ h => ⟨_, h⟩⟩, ?_⟩), rfl⟩
    · try simp only [decide_eq_true_eq, decide_eq_false_iff_not, Bool.not_eq_true, Bool.not_eq_false, Bool.not_eq_true', Bool.not_eq_false', beq_iff_eq, bne_iff_ne, beq_eq_false_iff_ne, bne_eq_false_iff_eq, Int.not_lt, Int.not_le, ge_iff_le, gt_iff_lt] at h14
      refine AW_condF rfl ?_
      refine AW_exit (BQ_hit ?_)
      refine AW_seq ?_
      refine AW_region ?_
      refine AL_p (x_assign rfl rfl) ?_
      refine AL_nil ?_
      refine AW_ret ?_
      exact ⟨rn [], ⟨⟨⟨_, rfl, vle_bool (rfl)⟩, trivial⟩, trivial, trivial, rfl⟩⟩

set_option maxHeartbeats 4000000 in
theorem eqRule_c (x : Rulet) : AC Try.prog 40 [.agg (ruleC x), .agg (ruleC x)] [] (.one (.c (.bool true))) [] := by
  refine AC_body1 Try.func40 rfl rfl Try.ntmps40 rfl Try.results40 ?_
  refine AW_seq ?_
  refine AW_region ?_
  refine AL_p (x_box 100 rfl rfl rfl rfl rfl rfl rfl) ?_
  refine AL_p (x_box 101 rfl rfl rfl rfl rfl rfl rfl) ?_
  refine AL_p (x_assign rfl rfl) ?_
  refine AL_nil ?_
  refine AW_seq ?_
  refine AW_seq ?_
  refine AW_region ?_
  refine AL_p (x_field (off := 0) (o' := 0) rfl rfl rfl (by kernel_rfl) rfl) ?_
  refine AL_p (x_load1 rfl rfl rfl (by kernel_rfl) rfl) ?_
  refine AL_p (x_field (off := 0) (o' := 0) rfl rfl rfl (by kernel_rfl) rfl) ?_
  refine AL_p (x_load1 rfl rfl rfl (by kernel_rfl) rfl) ?_
  refine AL_b (x_neq rfl rfl rfl) (fun b9 h9 => ?_)
  refine AL_nil ?_
  cases b9
  rotate_left
  · exfalso; first | (simp [ba_beq_self] at h9; done) | grind
  · try simp only [decide_eq_true_eq, decide_eq_false_iff_not, Bool.not_eq_true, Bool.not_eq_false, Bool.not_eq_true', Bool.not_eq_false', beq_iff_eq, bne_iff_ne, beq_eq_false_iff_ne, bne_eq_false_iff_eq, Int.not_lt, Int.not_le, ge_iff_le, gt_iff_lt] at h9
    refine AW_condF rfl ?_
    refine AW_skip ?_
    refine AW_seq ?_
    refine AW_seq ?_
    refine AW_region ?_
    refine AL_p (x_field (off := 1) (o' := 1) rfl rfl rfl (by kernel_rfl) rfl) ?_
    refine AL_p (x_loadN (n := 2) rfl rfl rfl (by kernel_rfl) rfl rfl) ?_
    refine AL_p (x_field (off := 1) (o' := 1) rfl rfl rfl (by kernel_rfl) rfl) ?_
    refine AL_p (x_loadN (n := 2) rfl rfl rfl (by kernel_rfl) rfl rfl) ?_
    refine AL_p (x_call0 rfl rfl rfl (eqAtom_c _) rfl rfl) ?_
    refine AL_p (x_not rfl rfl) ?_
    refine AL_nil ?_
    refine AW_condF rfl ?_
    refine AW_skip ?_
    refine AW_seq ?_
    refine AW_seq ?_
    refine AW_region ?_
    refine AL_p (x_field (off := 3) (o' := 3) rfl rfl rfl (by kernel_rfl) rfl) ?_
    refine AL_p (x_load1 rfl rfl rfl (by kernel_rfl) rfl) ?_
    refine AL_p (x_field (off := 3) (o' := 3) rfl rfl rfl (by kernel_rfl) rfl) ?_
    refine AL_p (x_load1 rfl rfl rfl (by kernel_rfl) rfl) ?_
    refine AL_p (x_call0 rfl rfl rfl (eqLitS_c _) rfl rfl) ?_
    refine AL_p (x_not rfl rfl) ?_
    refine AL_nil ?_
    refine AW_condF rfl ?_
    refine AW_skip ?_
    refine AW_seq ?_
    refine AW_region ?_
    refine AL_p (x_assign rfl rfl) ?_
    refine AL_nil ?_
    refine AW_ret ?_
    exact ⟨rn [], ⟨⟨⟨_, rfl, vle_bool (rfl)⟩, trivial⟩, trivial, trivial, rfl⟩⟩

set_option maxHeartbeats 4000000 in
theorem eqRuleS_c (xs : List (Rulet)) : AC Try.prog 107 [.one (.sl ruleE xs), .one (.sl ruleE xs)] [] (.one (.c (.bool true))) [] := by
  refine AC_body1 Try.func107 rfl rfl Try.ntmps107 rfl Try.results107 ?_
  refine AW_slmax 0 rfl (fun hm0 => ?_)
  refine AW_seq ?_
  refine AW_region ?_
  refine AL_p (x_assign rfl rfl) ?_
  refine AL_nil ?_
  refine AW_seq ?_
  refine AW_seq ?_
  refine AW_region ?_
  refine AL_p (x_move rfl rfl) ?_
  refine AL_p (x_len (E := 83) (n := 4) rfl rfl (by kernel_rfl)) ?_
  refine AL_p (x_move rfl rfl) ?_
  refine AL_p (x_len (E := 83) (n := 4) rfl rfl (by kernel_rfl)) ?_
  refine AL_b (x_neq rfl rfl rfl) (fun b10 h10 => ?_)
  refine AL_nil ?_
  cases b10
  rotate_left
  · exfalso; first | (simp [ba_beq_self] at h10; done) | grind
  · try simp only [decide_eq_true_eq, decide_eq_false_iff_not, Bool.not_eq_true, Bool.not_eq_false, Bool.not_eq_true', Bool.not_eq_false', beq_iff_eq, bne_iff_ne, beq_eq_false_iff_ne, bne_eq_false_iff_eq, Int.not_lt, Int.not_le, ge_iff_le, gt_iff_lt] at h10
    refine AW_condF rfl ?_
    refine AW_skip ?_
    refine AW_seq ?_
    refine AW_seq ?_
    refine AW_region ?_
    refine AL_p (x_assign rfl rfl) ?_
    refine AL_nil ?_
    refine AW_block ?_
    refine AW_loop2 (ι := {q : Nat // q ≤ xs.length}) (fun p => [(5, .one (.c (.int .i64 ((p.1) : Int))))]) (fun p => []) [0, 1] [] (fun p => xs.length - (p.1)) ⟨0, by omega⟩ (rn []) ?_ ?_
    exact ⟨by (repeat refine ⟨⟨_, rfl, by first | exact VLe.rf | exact vle_int (by dsimp only; omega)⟩, ?_⟩); exact trivial, by (repeat refine ⟨⟨_, rfl, by first | exact BLe.rf | exact BLe.box AllC.rf | exact BLe.arr (by exact rfl)⟩, ?_⟩); exact trivial, by repeat (first | exact trivial | refine ⟨⟨rfl, by first | (left; intro h; cases h) | (right; rfl), fun _ h => ⟨_, h⟩⟩, ?_⟩), rfl⟩
    rintro ⟨k, hinv⟩
    dsimp only
    refine AW_seq ?_
    refine AW_seq ?_
    refine AW_region ?_
    refine AL_p (x_move rfl rfl) ?_
    refine AL_p (x_move rfl rfl) ?_
    refine AL_p (x_len (E := 83) (n := 4) rfl rfl (by kernel_rfl)) ?_
    refine AL_b (x_lss rfl rfl rfl) (fun b14 h14 => ?_)
    refine AL_nil ?_
    cases b14
    rotate_left
    · try simp only [decide_eq_true_eq, decide_eq_false_iff_not, Bool.not_eq_true, Bool.not_eq_false, Bool.not_eq_true', Bool.not_eq_false', beq_iff_eq, bne_iff_ne, beq_eq_false_iff_ne, bne_eq_false_iff_eq, Int.not_lt, Int.not_le, ge_iff_le, gt_iff_lt] at h14
      refine AW_condT rfl ?_
      refine AW_skip ?_
      refine AW_seq ?_
      refine AW_block ?_
      refine AW_seq ?_
      refine AW_draw rfl ?_
      refine AL_p (x_move rfl rfl) ?_
      refine AL_p (x_move rfl rfl) ?_
      refine AL_p (x_index (E := 83) (n := 4) rfl rfl rfl (by kernel_rfl) rfl (k := k) (by omega) (by omega)) ?_
      refine AL_p (x_eloadW (n := 4) rfl rfl (by kernel_rfl) rfl) ?_
      refine AL_p (x_move rfl rfl) ?_
      refine AL_p (x_move rfl rfl) ?_
      refine AL_p (x_index (E := 83) (n := 4) rfl rfl rfl (by kernel_rfl) rfl (k := k) (by omega) (by omega)) ?_
      refine AL_p (x_eloadW (n := 4) rfl rfl (by kernel_rfl) rfl) ?_
      refine AL_p (x_call0 rfl rfl rfl (eqRule_c _) rfl rfl) ?_
      refine AL_p (x_not rfl rfl) ?_
      refine AL_nild (by kernel_rfl) ?_
      refine AW_condF rfl ?_
      refine AW_skip ?_
      refine AW_region ?_
      refine AL_p (x_move rfl rfl) ?_
      refine AL_p (x_add rfl rfl rfl (IntWalk.i64_in _ (by omega))) ?_
      refine AL_p (x_assign rfl rfl) ?_
      refine AL_nil ?_
      refine ⟨⟨k + 1, by omega⟩, rn [], ?_, by dsimp only; omega⟩
      exact ⟨by (repeat refine ⟨⟨_, rfl, by first | exact VLe.rf | exact vle_int (by dsimp only; omega)⟩, ?_⟩); exact trivial, by (repeat refine ⟨⟨_, rfl, by first | exact BLe.rf | exact BLe.box AllC.rf | exact BLe.arr (by exact rfl)⟩, ?_⟩); exact trivial, by repeat (first | exact trivial | refine ⟨⟨rfl, by first | (left; intro h; cases h) | (right; rfl), fun _ h => ⟨_, h⟩⟩, ?_⟩), rfl⟩
    · try simp only [decide_eq_true_eq, decide_eq_false_iff_not, Bool.not_eq_true, Bool.not_eq_false, Bool.not_eq_true', Bool.not_eq_false', beq_iff_eq, bne_iff_ne, beq_eq_false_iff_ne, bne_eq_false_iff_eq, Int.not_lt, Int.not_le, ge_iff_le, gt_iff_lt] at h14
      refine AW_condF rfl ?_
      refine AW_exit (BQ_hit ?_)
      refine AW_seq ?_
      refine AW_region ?_
      refine AL_p (x_assign rfl rfl) ?_
      refine AL_nil ?_
      refine AW_ret ?_
      exact ⟨rn [], ⟨⟨⟨_, rfl, vle_bool (rfl)⟩, trivial⟩, trivial, trivial, rfl⟩⟩

set_option maxHeartbeats 4000000 in
theorem eqDecl_c (x : Declt) : AC Try.prog 167 [.agg (declC x), .agg (declC x)] [] (.one (.c (.bool true))) [] := by
  refine AC_body1 Try.func167 rfl rfl Try.ntmps167 rfl Try.results167 ?_
  refine AW_seq ?_
  refine AW_region ?_
  refine AL_p (x_box 100 rfl rfl rfl rfl rfl rfl rfl) ?_
  refine AL_p (x_box 101 rfl rfl rfl rfl rfl rfl rfl) ?_
  refine AL_p (x_assign rfl rfl) ?_
  refine AL_nil ?_
  refine AW_seq ?_
  refine AW_seq ?_
  refine AW_region ?_
  refine AL_p (x_field (off := 0) (o' := 0) rfl rfl rfl (by kernel_rfl) rfl) ?_
  refine AL_p (x_load1 rfl rfl rfl (by kernel_rfl) rfl) ?_
  refine AL_p (x_field (off := 0) (o' := 0) rfl rfl rfl (by kernel_rfl) rfl) ?_
  refine AL_p (x_load1 rfl rfl rfl (by kernel_rfl) rfl) ?_
  refine AL_b (x_neq rfl rfl rfl) (fun b9 h9 => ?_)
  refine AL_nil ?_
  cases b9
  rotate_left
  · exfalso; first | (simp [ba_beq_self] at h9; done) | grind
  · try simp only [decide_eq_true_eq, decide_eq_false_iff_not, Bool.not_eq_true, Bool.not_eq_false, Bool.not_eq_true', Bool.not_eq_false', beq_iff_eq, bne_iff_ne, beq_eq_false_iff_ne, bne_eq_false_iff_eq, Int.not_lt, Int.not_le, ge_iff_le, gt_iff_lt] at h9
    refine AW_condF rfl ?_
    refine AW_skip ?_
    refine AW_seq ?_
    refine AW_seq ?_
    refine AW_region ?_
    refine AL_p (x_field (off := 1) (o' := 1) rfl rfl rfl (by kernel_rfl) rfl) ?_
    refine AL_p (x_load1 rfl rfl rfl (by kernel_rfl) rfl) ?_
    refine AL_p (x_field (off := 1) (o' := 1) rfl rfl rfl (by kernel_rfl) rfl) ?_
    refine AL_p (x_load1 rfl rfl rfl (by kernel_rfl) rfl) ?_
    refine AL_b (x_sneq rfl rfl rfl) (fun b14 h14 => ?_)
    refine AL_nil ?_
    cases b14
    rotate_left
    · exfalso; first | (simp [ba_beq_self] at h14; done) | grind
    · try simp only [decide_eq_true_eq, decide_eq_false_iff_not, Bool.not_eq_true, Bool.not_eq_false, Bool.not_eq_true', Bool.not_eq_false', beq_iff_eq, bne_iff_ne, beq_eq_false_iff_ne, bne_eq_false_iff_eq, Int.not_lt, Int.not_le, ge_iff_le, gt_iff_lt] at h14
      refine AW_condF rfl ?_
      refine AW_skip ?_
      refine AW_seq ?_
      refine AW_seq ?_
      refine AW_region ?_
      refine AL_p (x_field (off := 2) (o' := 2) rfl rfl rfl (by kernel_rfl) rfl) ?_
      refine AL_p (x_load1 rfl rfl rfl (by kernel_rfl) rfl) ?_
      refine AL_p (x_field (off := 2) (o' := 2) rfl rfl rfl (by kernel_rfl) rfl) ?_
      refine AL_p (x_load1 rfl rfl rfl (by kernel_rfl) rfl) ?_
      refine AL_b (x_neq rfl rfl rfl) (fun b19 h19 => ?_)
      refine AL_nil ?_
      cases b19
      rotate_left
      · exfalso; first | (simp [ba_beq_self] at h19; done) | grind
      · try simp only [decide_eq_true_eq, decide_eq_false_iff_not, Bool.not_eq_true, Bool.not_eq_false, Bool.not_eq_true', Bool.not_eq_false', beq_iff_eq, bne_iff_ne, beq_eq_false_iff_ne, bne_eq_false_iff_eq, Int.not_lt, Int.not_le, ge_iff_le, gt_iff_lt] at h19
        refine AW_condF rfl ?_
        refine AW_skip ?_
        refine AW_seq ?_
        refine AW_region ?_
        refine AL_p (x_assign rfl rfl) ?_
        refine AL_nil ?_
        refine AW_ret ?_
        exact ⟨rn [], ⟨⟨⟨_, rfl, vle_bool (rfl)⟩, trivial⟩, trivial, trivial, rfl⟩⟩

set_option maxHeartbeats 4000000 in
theorem eqDeclS_c (xs : List (Declt)) : AC Try.prog 106 [.one (.sl declE xs), .one (.sl declE xs)] [] (.one (.c (.bool true))) [] := by
  refine AC_body1 Try.func106 rfl rfl Try.ntmps106 rfl Try.results106 ?_
  refine AW_slmax 0 rfl (fun hm0 => ?_)
  refine AW_seq ?_
  refine AW_region ?_
  refine AL_p (x_assign rfl rfl) ?_
  refine AL_nil ?_
  refine AW_seq ?_
  refine AW_seq ?_
  refine AW_region ?_
  refine AL_p (x_move rfl rfl) ?_
  refine AL_p (x_len (E := 158) (n := 3) rfl rfl (by kernel_rfl)) ?_
  refine AL_p (x_move rfl rfl) ?_
  refine AL_p (x_len (E := 158) (n := 3) rfl rfl (by kernel_rfl)) ?_
  refine AL_b (x_neq rfl rfl rfl) (fun b10 h10 => ?_)
  refine AL_nil ?_
  cases b10
  rotate_left
  · exfalso; first | (simp [ba_beq_self] at h10; done) | grind
  · try simp only [decide_eq_true_eq, decide_eq_false_iff_not, Bool.not_eq_true, Bool.not_eq_false, Bool.not_eq_true', Bool.not_eq_false', beq_iff_eq, bne_iff_ne, beq_eq_false_iff_ne, bne_eq_false_iff_eq, Int.not_lt, Int.not_le, ge_iff_le, gt_iff_lt] at h10
    refine AW_condF rfl ?_
    refine AW_skip ?_
    refine AW_seq ?_
    refine AW_seq ?_
    refine AW_region ?_
    refine AL_p (x_assign rfl rfl) ?_
    refine AL_nil ?_
    refine AW_block ?_
    refine AW_loop2 (ι := {q : Nat // q ≤ xs.length}) (fun p => [(5, .one (.c (.int .i64 ((p.1) : Int))))]) (fun p => []) [0, 1] [] (fun p => xs.length - (p.1)) ⟨0, by omega⟩ (rn []) ?_ ?_
    exact ⟨by (repeat refine ⟨⟨_, rfl, by first | exact VLe.rf | exact vle_int (by dsimp only; omega)⟩, ?_⟩); exact trivial, by (repeat refine ⟨⟨_, rfl, by first | exact BLe.rf | exact BLe.box AllC.rf | exact BLe.arr (by exact rfl)⟩, ?_⟩); exact trivial, by repeat (first | exact trivial | refine ⟨⟨rfl, by first | (left; intro h; cases h) | (right; rfl), fun _ h => ⟨_, h⟩⟩, ?_⟩), rfl⟩
    rintro ⟨k, hinv⟩
    dsimp only
    refine AW_seq ?_
    refine AW_seq ?_
    refine AW_region ?_
    refine AL_p (x_move rfl rfl) ?_
    refine AL_p (x_move rfl rfl) ?_
    refine AL_p (x_len (E := 158) (n := 3) rfl rfl (by kernel_rfl)) ?_
    refine AL_b (x_lss rfl rfl rfl) (fun b14 h14 => ?_)
    refine AL_nil ?_
    cases b14
    rotate_left
    · try simp only [decide_eq_true_eq, decide_eq_false_iff_not, Bool.not_eq_true, Bool.not_eq_false, Bool.not_eq_true', Bool.not_eq_false', beq_iff_eq, bne_iff_ne, beq_eq_false_iff_ne, bne_eq_false_iff_eq, Int.not_lt, Int.not_le, ge_iff_le, gt_iff_lt] at h14
      refine AW_condT rfl ?_
      refine AW_skip ?_
      refine AW_seq ?_
      refine AW_block ?_
      refine AW_seq ?_
      refine AW_draw rfl ?_
      refine AL_p (x_move rfl rfl) ?_
      refine AL_p (x_move rfl rfl) ?_
      refine AL_p (x_index (E := 158) (n := 3) rfl rfl rfl (by kernel_rfl) rfl (k := k) (by omega) (by omega)) ?_
      refine AL_p (x_eloadW (n := 3) rfl rfl (by kernel_rfl) rfl) ?_
      refine AL_p (x_move rfl rfl) ?_
      refine AL_p (x_move rfl rfl) ?_
      refine AL_p (x_index (E := 158) (n := 3) rfl rfl rfl (by kernel_rfl) rfl (k := k) (by omega) (by omega)) ?_
      refine AL_p (x_eloadW (n := 3) rfl rfl (by kernel_rfl) rfl) ?_
      refine AL_p (x_call0 rfl rfl rfl (eqDecl_c _) rfl rfl) ?_
      refine AL_p (x_not rfl rfl) ?_
      refine AL_nild (by kernel_rfl) ?_
      refine AW_condF rfl ?_
      refine AW_skip ?_
      refine AW_region ?_
      refine AL_p (x_move rfl rfl) ?_
      refine AL_p (x_add rfl rfl rfl (IntWalk.i64_in _ (by omega))) ?_
      refine AL_p (x_assign rfl rfl) ?_
      refine AL_nil ?_
      refine ⟨⟨k + 1, by omega⟩, rn [], ?_, by dsimp only; omega⟩
      exact ⟨by (repeat refine ⟨⟨_, rfl, by first | exact VLe.rf | exact vle_int (by dsimp only; omega)⟩, ?_⟩); exact trivial, by (repeat refine ⟨⟨_, rfl, by first | exact BLe.rf | exact BLe.box AllC.rf | exact BLe.arr (by exact rfl)⟩, ?_⟩); exact trivial, by repeat (first | exact trivial | refine ⟨⟨rfl, by first | (left; intro h; cases h) | (right; rfl), fun _ h => ⟨_, h⟩⟩, ?_⟩), rfl⟩
    · try simp only [decide_eq_true_eq, decide_eq_false_iff_not, Bool.not_eq_true, Bool.not_eq_false, Bool.not_eq_true', Bool.not_eq_false', beq_iff_eq, bne_iff_ne, beq_eq_false_iff_ne, bne_eq_false_iff_eq, Int.not_lt, Int.not_le, ge_iff_le, gt_iff_lt] at h14
      refine AW_condF rfl ?_
      refine AW_exit (BQ_hit ?_)
      refine AW_seq ?_
      refine AW_region ?_
      refine AL_p (x_assign rfl rfl) ?_
      refine AL_nil ?_
      refine AW_ret ?_
      exact ⟨rn [], ⟨⟨⟨_, rfl, vle_bool (rfl)⟩, trivial⟩, trivial, trivial, rfl⟩⟩

set_option maxHeartbeats 4000000 in
theorem eqProgram_c (x : Programt) : AC Try.prog 45 [.agg (programC x), .agg (programC x)] [] (.one (.c (.bool true))) [] := by
  refine AC_body1 Try.func45 rfl rfl Try.ntmps45 rfl Try.results45 ?_
  refine AW_seq ?_
  refine AW_region ?_
  refine AL_p (x_box 100 rfl rfl rfl rfl rfl rfl rfl) ?_
  refine AL_p (x_box 101 rfl rfl rfl rfl rfl rfl rfl) ?_
  refine AL_p (x_assign rfl rfl) ?_
  refine AL_nil ?_
  refine AW_seq ?_
  refine AW_seq ?_
  refine AW_region ?_
  refine AL_p (x_field (off := 0) (o' := 0) rfl rfl rfl (by kernel_rfl) rfl) ?_
  refine AL_p (x_load1 rfl rfl rfl (by kernel_rfl) rfl) ?_
  refine AL_p (x_field (off := 0) (o' := 0) rfl rfl rfl (by kernel_rfl) rfl) ?_
  refine AL_p (x_load1 rfl rfl rfl (by kernel_rfl) rfl) ?_
  refine AL_p (x_call0 rfl rfl rfl (eqDeclS_c _) rfl rfl) ?_
  refine AL_p (x_not rfl rfl) ?_
  refine AL_nil ?_
  refine AW_condF rfl ?_
  refine AW_skip ?_
  refine AW_seq ?_
  refine AW_seq ?_
  refine AW_region ?_
  refine AL_p (x_field (off := 1) (o' := 1) rfl rfl rfl (by kernel_rfl) rfl) ?_
  refine AL_p (x_load1 rfl rfl rfl (by kernel_rfl) rfl) ?_
  refine AL_p (x_field (off := 1) (o' := 1) rfl rfl rfl (by kernel_rfl) rfl) ?_
  refine AL_p (x_load1 rfl rfl rfl (by kernel_rfl) rfl) ?_
  refine AL_p (x_call0 rfl rfl rfl (eqRuleS_c _) rfl rfl) ?_
  refine AL_p (x_not rfl rfl) ?_
  refine AL_nil ?_
  refine AW_condF rfl ?_
  refine AW_skip ?_
  refine AW_seq ?_
  refine AW_region ?_
  refine AL_p (x_assign rfl rfl) ?_
  refine AL_nil ?_
  refine AW_ret ?_
  exact ⟨rn [], ⟨⟨⟨_, rfl, vle_bool (rfl)⟩, trivial⟩, trivial, trivial, rfl⟩⟩

set_option maxHeartbeats 4000000 in
theorem toValue_c (x : Val) : AC Try.prog 190 [.agg (valC x)] [] (.agg (valC x)) [] := by
  refine AC_bodyC (n := 2) (k := 9) (T := [(2, .one (.ptr 9 0))]) (Lf := ((9, some (.box (valC x))) :: [])) Try.func190 rfl rfl Try.ntmps190 rfl Try.results190 rfl rfl (by kernel_rfl) rfl rfl ⟨trivial, (by repeat (first | exact trivial | refine ⟨⟨_, rfl, BLe.rf⟩, ?_⟩)), (by repeat (first | exact trivial | refine ⟨⟨rfl, by first | (left; intro h; cases h) | (right; rfl), fun _ h => ⟨_, h⟩⟩, ?_⟩)), rfl⟩ ?_
  refine AW_seq ?_
  refine AW_region ?_
  refine AL_p (x_box 100 rfl rfl rfl rfl rfl rfl rfl) ?_
  refine AL_p (x_alloc (z := .agg #[.int .i64 0, .string ⟨#[]⟩]) 101 rfl (by kernel_rfl) rfl rfl rfl rfl) ?_
  refine AL_nil ?_
  refine AW_seq ?_
  refine AW_region ?_
  refine AL_p (x_alloc (z := .agg #[.int .i64 0, .string ⟨#[]⟩]) 102 rfl (by kernel_rfl) rfl rfl rfl rfl) ?_
  refine AL_nil ?_
  refine AW_seq ?_
  refine AW_region ?_
  refine AL_p (x_field (off := 0) (o' := 0) rfl rfl rfl (by kernel_rfl) rfl) ?_
  refine AL_p (x_load1 rfl rfl rfl (by kernel_rfl) rfl) ?_
  refine AL_p (x_field (off := 0) (o' := 0) rfl rfl rfl (by kernel_rfl) rfl) ?_
  refine AL_p (x_store (n := 1) rfl rfl rfl rfl (by kernel_rfl) rfl rfl rfl) ?_
  refine AL_nil ?_
  refine AW_seq ?_
  refine AW_region ?_
  refine AL_p (x_field (off := 1) (o' := 1) rfl rfl rfl (by kernel_rfl) rfl) ?_
  refine AL_p (x_load1 rfl rfl rfl (by kernel_rfl) rfl) ?_
  refine AL_p (x_field (off := 1) (o' := 1) rfl rfl rfl (by kernel_rfl) rfl) ?_
  refine AL_p (x_store (n := 1) rfl rfl rfl rfl (by kernel_rfl) rfl rfl rfl) ?_
  refine AL_nil ?_
  refine AW_seq ?_
  refine AW_region ?_
  refine AL_p (x_loadN (n := 2) rfl rfl rfl (by kernel_rfl) rfl rfl) ?_
  refine AL_p (x_store (n := 2) rfl rfl rfl rfl (by kernel_rfl) rfl rfl rfl) ?_
  refine AL_nil ?_
  refine AW_ret ?_
  exact ⟨rn [(9, 101)], ⟨⟨⟨_, rfl, VLe.rf⟩, trivial⟩, ⟨⟨_, rfl, by first | exact BLe.rf | (subst_vars; exact BLe.rf)⟩, trivial⟩, trivial, rfl⟩⟩

set_option maxHeartbeats 4000000 in
theorem toTerm_c (x : Termt) : AC Try.prog 146 [.agg (termC x)] [] (.agg (termC x)) [] := by
  refine AC_bodyC (n := 3) (k := 9) (T := [(2, .one (.ptr 9 0))]) (Lf := ((9, some (.box (termC x))) :: [])) Try.func146 rfl rfl Try.ntmps146 rfl Try.results146 rfl rfl (by kernel_rfl) rfl rfl ⟨trivial, (by repeat (first | exact trivial | refine ⟨⟨_, rfl, BLe.rf⟩, ?_⟩)), (by repeat (first | exact trivial | refine ⟨⟨rfl, by first | (left; intro h; cases h) | (right; rfl), fun _ h => ⟨_, h⟩⟩, ?_⟩)), rfl⟩ ?_
  refine AW_seq ?_
  refine AW_region ?_
  refine AL_p (x_box 100 rfl rfl rfl rfl rfl rfl rfl) ?_
  refine AL_p (x_alloc (z := .agg #[.string ⟨#[]⟩, .int .i64 0, .string ⟨#[]⟩]) 101 rfl (by kernel_rfl) rfl rfl rfl rfl) ?_
  refine AL_nil ?_
  refine AW_seq ?_
  refine AW_region ?_
  refine AL_p (x_alloc (z := .agg #[.string ⟨#[]⟩, .int .i64 0, .string ⟨#[]⟩]) 102 rfl (by kernel_rfl) rfl rfl rfl rfl) ?_
  refine AL_nil ?_
  refine AW_seq ?_
  refine AW_region ?_
  refine AL_p (x_field (off := 0) (o' := 0) rfl rfl rfl (by kernel_rfl) rfl) ?_
  refine AL_p (x_load1 rfl rfl rfl (by kernel_rfl) rfl) ?_
  refine AL_p (x_field (off := 0) (o' := 0) rfl rfl rfl (by kernel_rfl) rfl) ?_
  refine AL_p (x_store (n := 1) rfl rfl rfl rfl (by kernel_rfl) rfl rfl rfl) ?_
  refine AL_nil ?_
  refine AW_seq ?_
  refine AW_region ?_
  refine AL_p (x_field (off := 1) (o' := 1) rfl rfl rfl (by kernel_rfl) rfl) ?_
  refine AL_p (x_loadN (n := 2) rfl rfl rfl (by kernel_rfl) rfl rfl) ?_
  refine AL_p (x_call0 rfl rfl rfl (toValue_c x.val) rfl rfl) ?_
  refine AL_p (x_field (off := 1) (o' := 1) rfl rfl rfl (by kernel_rfl) rfl) ?_
  refine AL_p (x_store (n := 2) rfl rfl rfl rfl (by kernel_rfl) rfl rfl rfl) ?_
  refine AL_nil ?_
  refine AW_seq ?_
  refine AW_region ?_
  refine AL_p (x_loadN (n := 3) rfl rfl rfl (by kernel_rfl) rfl rfl) ?_
  refine AL_p (x_store (n := 3) rfl rfl rfl rfl (by kernel_rfl) rfl rfl rfl) ?_
  refine AL_nil ?_
  refine AW_ret ?_
  exact ⟨rn [(9, 101)], ⟨⟨⟨_, rfl, VLe.rf⟩, trivial⟩, ⟨⟨_, rfl, by first | exact BLe.rf | (subst_vars; exact BLe.rf)⟩, trivial⟩, trivial, rfl⟩⟩

set_option maxHeartbeats 4000000 in
theorem toTermS_c0 (xs : List (Termt)) (hs : xs.length ≤ 1048576) : AC Try.prog 86 [.one (.sl termE xs)] [] (.one (.own 0)) [(0, some (.arr 142 termE xs true))] := by
  refine AC_body1 Try.func86 rfl rfl Try.ntmps86 rfl Try.results86 ?_
  refine AW_seq ?_
  refine AW_region ?_
  refine AL_p (x_assign rfl rfl) ?_
  refine AL_nil ?_
  refine AW_seq ?_
  refine AW_region ?_
  refine AL_p (x_move rfl rfl) ?_
  refine AL_p (x_len (E := 203) (n := 3) rfl rfl (by kernel_rfl)) ?_
  refine AL_p (x_make (T := 70) (E := 142) (e := termE) ((⟨⟨#[]⟩, ⟨0, ⟨#[]⟩⟩⟩ : Termt)) (z := .agg #[.string ⟨#[]⟩, .int .i64 0, .string ⟨#[]⟩]) 100 rfl rfl rfl (by kernel_rfl) rfl FitL.rf rfl rfl (by kernel_rfl) (by have := hs; omega)) ?_
  refine AL_p (x_assign rfl rfl) ?_
  refine AL_nil ?_
  refine AW_seq ?_
  refine AW_seq ?_
  refine AW_region ?_
  refine AL_p (x_assign rfl rfl) ?_
  refine AL_nil ?_
  refine AW_block ?_
  refine AW_loop2 (ι := {q : Nat // q ≤ xs.length}) (fun p => [(4, .one (.c (.int .i64 ((p.1) : Int))))]) (fun p => [(100, some (.arr 142 termE (filledTo xs ((⟨⟨#[]⟩, ⟨0, ⟨#[]⟩⟩⟩ : Termt)) (p.1)) true))]) [0, 3] [] (fun p => xs.length - (p.1)) ⟨0, by omega⟩ (rn []) ?_ ?_
  exact ⟨by (repeat refine ⟨⟨_, rfl, by first | exact VLe.rf | exact vle_int (by dsimp only; omega)⟩, ?_⟩); exact trivial, by (repeat refine ⟨⟨_, rfl, by first | exact BLe.rf | exact BLe.box AllC.rf | exact BLe.arr (by first | exact filledTo_zero | exact filledTo_succ (by omega))⟩, ?_⟩); exact trivial, by repeat (first | exact trivial | refine ⟨⟨rfl, by first | (left; intro h; cases h) | (right; rfl), fun _ h => ⟨_, h⟩⟩, ?_⟩), rfl⟩
  rintro ⟨k, hinv⟩
  dsimp only
  have hlen := hs
  refine AW_seq ?_
  refine AW_seq ?_
  refine AW_region ?_
  refine AL_p (x_move rfl rfl) ?_
  refine AL_p (x_move rfl rfl) ?_
  refine AL_p (x_len (E := 203) (n := 3) rfl rfl (by kernel_rfl)) ?_
  refine AL_b (x_lss rfl rfl rfl) (fun b11 h11 => ?_)
  refine AL_nil ?_
  cases b11
  rotate_left
  · try simp only [decide_eq_true_eq, decide_eq_false_iff_not, Bool.not_eq_true, Bool.not_eq_false, Bool.not_eq_true', Bool.not_eq_false', beq_iff_eq, bne_iff_ne, beq_eq_false_iff_ne, bne_eq_false_iff_eq, Int.not_lt, Int.not_le, ge_iff_le, gt_iff_lt] at h11
    refine AW_condT rfl ?_
    refine AW_skip ?_
    refine AW_seq ?_
    refine AW_block ?_
    refine AW_region ?_
    refine AL_p (x_move rfl rfl) ?_
    refine AL_p (x_move rfl rfl) ?_
    refine AL_p (x_move rfl rfl) ?_
    refine AL_p (x_move rfl rfl) ?_
    refine AL_p (x_index (E := 203) (n := 3) rfl rfl rfl (by kernel_rfl) rfl (k := k) (by omega) (by omega)) ?_
    refine AL_p (x_eloadW (n := 3) rfl rfl (by kernel_rfl) rfl) ?_
    refine AL_p (x_callR rfl rfl rfl (toTerm_c (xs[k]'(by omega))) rfl AllV.rf rfl rfl rfl rfl rfl) ?_
    refine AL_p (x_oindex (n := 3) rfl rfl rfl rfl (by kernel_rfl) rfl (k := k) rfl (by rw [filledTo_len (by omega)]; omega)) ?_
    refine AL_p (x_ostore (xs[k]'(by omega)) rfl rfl rfl rfl (by kernel_rfl) rfl rfl rfl rfl FitL.rf rfl rfl (by first | omega | (rw [filledTo_len (by omega)]; omega) | (simp; omega))) ?_
    refine AL_nil ?_
    refine AW_region ?_
    refine AL_p (x_move rfl rfl) ?_
    refine AL_p (x_add rfl rfl rfl (IntWalk.i64_in _ (by omega))) ?_
    refine AL_p (x_assign rfl rfl) ?_
    refine AL_nil ?_
    refine ⟨⟨k + 1, by omega⟩, rn [], ?_, by dsimp only; omega⟩
    exact ⟨by (repeat refine ⟨⟨_, rfl, by first | exact VLe.rf | exact vle_int (by dsimp only; omega)⟩, ?_⟩); exact trivial, by (repeat refine ⟨⟨_, rfl, by first | exact BLe.rf | exact BLe.box AllC.rf | exact BLe.arr (by first | exact filledTo_zero | exact filledTo_succ (by omega))⟩, ?_⟩); exact trivial, by repeat (first | exact trivial | refine ⟨⟨rfl, by first | (left; intro h; cases h) | (right; rfl), fun _ h => ⟨_, h⟩⟩, ?_⟩), rfl⟩
  · try simp only [decide_eq_true_eq, decide_eq_false_iff_not, Bool.not_eq_true, Bool.not_eq_false, Bool.not_eq_true', Bool.not_eq_false', beq_iff_eq, bne_iff_ne, beq_eq_false_iff_ne, bne_eq_false_iff_eq, Int.not_lt, Int.not_le, ge_iff_le, gt_iff_lt] at h11
    refine AW_condF rfl ?_
    refine AW_exit (BQ_hit ?_)
    refine AW_seq ?_
    refine AW_region ?_
    refine AL_p (x_move rfl rfl) ?_
    refine AL_p (x_assign rfl rfl) ?_
    refine AL_nil ?_
    refine AW_ret ?_
    exact ⟨rn [(0, 100)], ⟨⟨⟨_, rfl, VLe.rf⟩, trivial⟩, ⟨⟨_, rfl, BLe.arr (filledTo_done (by omega))⟩, trivial⟩, trivial, rfl⟩⟩
theorem toTermS_c (xs : List (Termt)) (hs : xs.length ≤ 1048576) (k : Nat) : AC Try.prog 86 [.one (.sl termE xs)] [] (.one (.own k)) [(k, some (.arr 142 termE xs true))] := AC.at (toTermS_c0 xs hs) k

set_option maxHeartbeats 4000000 in
theorem toAtom_c0 (x : Atomt) (hs : smallAtom x) : AC Try.prog 33 [.agg (atomC x)] [] (.agg [.c (.string x.name), .own 0]) [(0, some (.arr 142 termE x.args true))] := by
  refine AC_bodyC (n := 2) (k := 9) (T := [(2, .one (.ptr 9 0))]) (Lf := ((9, some (.box [.c (.string x.name), .own 0])) :: [(0, some (.arr 142 termE x.args true))])) Try.func33 rfl rfl Try.ntmps33 rfl Try.results33 rfl rfl (by kernel_rfl) rfl rfl ⟨trivial, (by repeat (first | exact trivial | refine ⟨⟨_, rfl, BLe.rf⟩, ?_⟩)), (by repeat (first | exact trivial | refine ⟨⟨rfl, by first | (left; intro h; cases h) | (right; rfl), fun _ h => ⟨_, h⟩⟩, ?_⟩)), rfl⟩ ?_
  refine AW_seq ?_
  refine AW_region ?_
  refine AL_p (x_box 100 rfl rfl rfl rfl rfl rfl rfl) ?_
  refine AL_p (x_alloc (z := .agg #[.string ⟨#[]⟩, .slice none 0 0]) 101 rfl (by kernel_rfl) rfl rfl rfl rfl) ?_
  refine AL_nil ?_
  refine AW_seq ?_
  refine AW_region ?_
  refine AL_p (x_alloc (z := .agg #[.string ⟨#[]⟩, .slice none 0 0]) 102 rfl (by kernel_rfl) rfl rfl rfl rfl) ?_
  refine AL_nil ?_
  refine AW_seq ?_
  refine AW_region ?_
  refine AL_p (x_field (off := 0) (o' := 0) rfl rfl rfl (by kernel_rfl) rfl) ?_
  refine AL_p (x_load1 rfl rfl rfl (by kernel_rfl) rfl) ?_
  refine AL_p (x_field (off := 0) (o' := 0) rfl rfl rfl (by kernel_rfl) rfl) ?_
  refine AL_p (x_store (n := 1) rfl rfl rfl rfl (by kernel_rfl) rfl rfl rfl) ?_
  refine AL_nil ?_
  refine AW_seq ?_
  refine AW_region ?_
  refine AL_p (x_field (off := 1) (o' := 1) rfl rfl rfl (by kernel_rfl) rfl) ?_
  refine AL_p (x_load1 rfl rfl rfl (by kernel_rfl) rfl) ?_
  refine AL_p (x_call1 rfl rfl rfl (toTermS_c x.args (hs.2).1 103) rfl rfl rfl rfl) ?_
  refine AL_p (x_field (off := 1) (o' := 1) rfl rfl rfl (by kernel_rfl) rfl) ?_
  refine AL_p (x_store (n := 1) rfl rfl rfl rfl (by kernel_rfl) rfl rfl rfl) ?_
  refine AL_nil ?_
  refine AW_seq ?_
  refine AW_region ?_
  refine AL_p (x_loadN (n := 2) rfl rfl rfl (by kernel_rfl) rfl rfl) ?_
  refine AL_p (x_store (n := 2) rfl rfl rfl rfl (by kernel_rfl) rfl rfl rfl) ?_
  refine AL_nil ?_
  refine AW_ret ?_
  exact ⟨rn [(9, 101), (0, 103)], ⟨⟨⟨_, rfl, VLe.rf⟩, trivial⟩, ⟨⟨_, rfl, by first | exact BLe.rf | (subst_vars; exact BLe.rf)⟩, ⟨_, rfl, BLe.rf⟩, trivial⟩, trivial, rfl⟩⟩
theorem toAtom_c (x : Atomt) (hs : smallAtom x) (k : Nat) : AC Try.prog 33 [.agg (atomC x)] [] (.agg [.c (.string x.name), .own k]) [(k, some (.arr 142 termE x.args true))] := AC.at (toAtom_c0 x hs) k

set_option maxHeartbeats 4000000 in
theorem toLit_c0 (x : Litt) (hs : smallLit x) : AC Try.prog 157 [.agg (litC x)] [] (.agg [.c (.int .i64 x.kind), .c (.string x.atom.name), .own 0, .c (.int .i64 x.op), .c (.string x.a.var), .c (.int .i64 x.a.val.n), .c (.string x.a.val.s), .c (.string x.b.var), .c (.int .i64 x.b.val.n), .c (.string x.b.val.s)]) [(0, some (.arr 142 termE x.atom.args true))] := by
  refine AC_bodyC (n := 10) (k := 9) (T := [(2, .one (.ptr 9 0))]) (Lf := ((9, some (.box [.c (.int .i64 x.kind), .c (.string x.atom.name), .own 0, .c (.int .i64 x.op), .c (.string x.a.var), .c (.int .i64 x.a.val.n), .c (.string x.a.val.s), .c (.string x.b.var), .c (.int .i64 x.b.val.n), .c (.string x.b.val.s)])) :: [(0, some (.arr 142 termE x.atom.args true))])) Try.func157 rfl rfl Try.ntmps157 rfl Try.results157 rfl rfl (by kernel_rfl) rfl rfl ⟨trivial, (by repeat (first | exact trivial | refine ⟨⟨_, rfl, BLe.rf⟩, ?_⟩)), (by repeat (first | exact trivial | refine ⟨⟨rfl, by first | (left; intro h; cases h) | (right; rfl), fun _ h => ⟨_, h⟩⟩, ?_⟩)), rfl⟩ ?_
  refine AW_seq ?_
  refine AW_region ?_
  refine AL_p (x_box 100 rfl rfl rfl rfl rfl rfl rfl) ?_
  refine AL_p (x_alloc (z := .agg #[.int .i64 0, .string ⟨#[]⟩, .slice none 0 0, .int .i64 0, .string ⟨#[]⟩, .int .i64 0, .string ⟨#[]⟩, .string ⟨#[]⟩, .int .i64 0, .string ⟨#[]⟩]) 101 rfl (by kernel_rfl) rfl rfl rfl rfl) ?_
  refine AL_nil ?_
  refine AW_seq ?_
  refine AW_region ?_
  refine AL_p (x_alloc (z := .agg #[.int .i64 0, .string ⟨#[]⟩, .slice none 0 0, .int .i64 0, .string ⟨#[]⟩, .int .i64 0, .string ⟨#[]⟩, .string ⟨#[]⟩, .int .i64 0, .string ⟨#[]⟩]) 102 rfl (by kernel_rfl) rfl rfl rfl rfl) ?_
  refine AL_nil ?_
  refine AW_seq ?_
  refine AW_region ?_
  refine AL_p (x_field (off := 0) (o' := 0) rfl rfl rfl (by kernel_rfl) rfl) ?_
  refine AL_p (x_load1 rfl rfl rfl (by kernel_rfl) rfl) ?_
  refine AL_p (x_field (off := 0) (o' := 0) rfl rfl rfl (by kernel_rfl) rfl) ?_
  refine AL_p (x_store (n := 1) rfl rfl rfl rfl (by kernel_rfl) rfl rfl rfl) ?_
  refine AL_nil ?_
  refine AW_seq ?_
  refine AW_region ?_
  refine AL_p (x_field (off := 1) (o' := 1) rfl rfl rfl (by kernel_rfl) rfl) ?_
  refine AL_p (x_loadN (n := 2) rfl rfl rfl (by kernel_rfl) rfl rfl) ?_
  refine AL_p (x_callR rfl rfl rfl (toAtom_c x.atom hs.1 103) rfl AllV.rf rfl rfl rfl rfl rfl) ?_
  refine AL_p (x_field (off := 1) (o' := 1) rfl rfl rfl (by kernel_rfl) rfl) ?_
  refine AL_p (x_store (n := 2) rfl rfl rfl rfl (by kernel_rfl) rfl rfl rfl) ?_
  refine AL_nil ?_
  refine AW_seq ?_
  refine AW_region ?_
  refine AL_p (x_field (off := 3) (o' := 3) rfl rfl rfl (by kernel_rfl) rfl) ?_
  refine AL_p (x_load1 rfl rfl rfl (by kernel_rfl) rfl) ?_
  refine AL_p (x_field (off := 3) (o' := 3) rfl rfl rfl (by kernel_rfl) rfl) ?_
  refine AL_p (x_store (n := 1) rfl rfl rfl rfl (by kernel_rfl) rfl rfl rfl) ?_
  refine AL_nil ?_
  refine AW_seq ?_
  refine AW_region ?_
  refine AL_p (x_field (off := 4) (o' := 4) rfl rfl rfl (by kernel_rfl) rfl) ?_
  refine AL_p (x_loadN (n := 3) rfl rfl rfl (by kernel_rfl) rfl rfl) ?_
  refine AL_p (x_call0 rfl rfl rfl (toTerm_c x.a) rfl rfl) ?_
  refine AL_p (x_field (off := 4) (o' := 4) rfl rfl rfl (by kernel_rfl) rfl) ?_
  refine AL_p (x_store (n := 3) rfl rfl rfl rfl (by kernel_rfl) rfl rfl rfl) ?_
  refine AL_nil ?_
  refine AW_seq ?_
  refine AW_region ?_
  refine AL_p (x_field (off := 7) (o' := 7) rfl rfl rfl (by kernel_rfl) rfl) ?_
  refine AL_p (x_loadN (n := 3) rfl rfl rfl (by kernel_rfl) rfl rfl) ?_
  refine AL_p (x_call0 rfl rfl rfl (toTerm_c x.b) rfl rfl) ?_
  refine AL_p (x_field (off := 7) (o' := 7) rfl rfl rfl (by kernel_rfl) rfl) ?_
  refine AL_p (x_store (n := 3) rfl rfl rfl rfl (by kernel_rfl) rfl rfl rfl) ?_
  refine AL_nil ?_
  refine AW_seq ?_
  refine AW_region ?_
  refine AL_p (x_loadN (n := 10) rfl rfl rfl (by kernel_rfl) rfl rfl) ?_
  refine AL_p (x_store (n := 10) rfl rfl rfl rfl (by kernel_rfl) rfl rfl rfl) ?_
  refine AL_nil ?_
  refine AW_ret ?_
  exact ⟨rn [(9, 101), (0, 103)], ⟨⟨⟨_, rfl, VLe.rf⟩, trivial⟩, ⟨⟨_, rfl, by first | exact BLe.rf | (subst_vars; exact BLe.rf)⟩, ⟨_, rfl, BLe.rf⟩, trivial⟩, trivial, rfl⟩⟩
theorem toLit_c (x : Litt) (hs : smallLit x) (k : Nat) : AC Try.prog 157 [.agg (litC x)] [] (.agg [.c (.int .i64 x.kind), .c (.string x.atom.name), .own k, .c (.int .i64 x.op), .c (.string x.a.var), .c (.int .i64 x.a.val.n), .c (.string x.a.val.s), .c (.string x.b.var), .c (.int .i64 x.b.val.n), .c (.string x.b.val.s)]) [(k, some (.arr 142 termE x.atom.args true))] := AC.at (toLit_c0 x hs) k

set_option maxHeartbeats 4000000 in
theorem toLitS_c0 (xs : List (Litt)) (hs : xs.length ≤ 1048576 ∧ ∀ y ∈ xs, smallLit y) : AC Try.prog 94 [.one (.sl litE xs)] [] (.one (.own 0)) [(0, some (.arr 152 litE xs true))] := by
  refine AC_body1 Try.func94 rfl rfl Try.ntmps94 rfl Try.results94 ?_
  refine AW_seq ?_
  refine AW_region ?_
  refine AL_p (x_assign rfl rfl) ?_
  refine AL_nil ?_
  refine AW_seq ?_
  refine AW_region ?_
  refine AL_p (x_move rfl rfl) ?_
  refine AL_p (x_len (E := 221) (n := 10) rfl rfl (by kernel_rfl)) ?_
  refine AL_p (x_make (T := 81) (E := 152) (e := litE) ((⟨0, ⟨⟨#[]⟩, []⟩, 0, ⟨⟨#[]⟩, ⟨0, ⟨#[]⟩⟩⟩, ⟨⟨#[]⟩, ⟨0, ⟨#[]⟩⟩⟩⟩ : Litt)) (z := .agg #[.int .i64 0, .string ⟨#[]⟩, .slice none 0 0, .int .i64 0, .string ⟨#[]⟩, .int .i64 0, .string ⟨#[]⟩, .string ⟨#[]⟩, .int .i64 0, .string ⟨#[]⟩]) 100 rfl rfl rfl (by kernel_rfl) rfl ⟨.inl rfl, .inl rfl, .inr ⟨rfl, _, _, rfl⟩, .inl rfl, .inl rfl, .inl rfl, .inl rfl, .inl rfl, .inl rfl, .inl rfl, trivial⟩ rfl rfl (by kernel_rfl) (by have := hs.1; omega)) ?_
  refine AL_p (x_assign rfl rfl) ?_
  refine AL_nil ?_
  refine AW_seq ?_
  refine AW_seq ?_
  refine AW_region ?_
  refine AL_p (x_assign rfl rfl) ?_
  refine AL_nil ?_
  refine AW_block ?_
  refine AW_loop2 (ι := {q : Nat // q ≤ xs.length}) (fun p => [(4, .one (.c (.int .i64 ((p.1) : Int))))]) (fun p => [(100, some (.arr 152 litE (filledTo xs ((⟨0, ⟨⟨#[]⟩, []⟩, 0, ⟨⟨#[]⟩, ⟨0, ⟨#[]⟩⟩⟩, ⟨⟨#[]⟩, ⟨0, ⟨#[]⟩⟩⟩⟩ : Litt)) (p.1)) true))]) [0, 3] [] (fun p => xs.length - (p.1)) ⟨0, by omega⟩ (rn []) ?_ ?_
  exact ⟨by (repeat refine ⟨⟨_, rfl, by first | exact VLe.rf | exact vle_int (by dsimp only; omega)⟩, ?_⟩); exact trivial, by (repeat refine ⟨⟨_, rfl, by first | exact BLe.rf | exact BLe.box AllC.rf | exact BLe.arr (by first | exact filledTo_zero | exact filledTo_succ (by omega))⟩, ?_⟩); exact trivial, by repeat (first | exact trivial | refine ⟨⟨rfl, by first | (left; intro h; cases h) | (right; rfl), fun _ h => ⟨_, h⟩⟩, ?_⟩), rfl⟩
  rintro ⟨k, hinv⟩
  dsimp only
  have hlen := hs.1
  refine AW_seq ?_
  refine AW_seq ?_
  refine AW_region ?_
  refine AL_p (x_move rfl rfl) ?_
  refine AL_p (x_move rfl rfl) ?_
  refine AL_p (x_len (E := 221) (n := 10) rfl rfl (by kernel_rfl)) ?_
  refine AL_b (x_lss rfl rfl rfl) (fun b11 h11 => ?_)
  refine AL_nil ?_
  cases b11
  rotate_left
  · try simp only [decide_eq_true_eq, decide_eq_false_iff_not, Bool.not_eq_true, Bool.not_eq_false, Bool.not_eq_true', Bool.not_eq_false', beq_iff_eq, bne_iff_ne, beq_eq_false_iff_ne, bne_eq_false_iff_eq, Int.not_lt, Int.not_le, ge_iff_le, gt_iff_lt] at h11
    refine AW_condT rfl ?_
    refine AW_skip ?_
    refine AW_seq ?_
    refine AW_block ?_
    refine AW_region ?_
    refine AL_p (x_move rfl rfl) ?_
    refine AL_p (x_move rfl rfl) ?_
    refine AL_p (x_move rfl rfl) ?_
    refine AL_p (x_move rfl rfl) ?_
    refine AL_p (x_index (E := 221) (n := 10) rfl rfl rfl (by kernel_rfl) rfl (k := k) (by omega) (by omega)) ?_
    refine AL_p (x_eloadW (n := 10) rfl rfl (by kernel_rfl) rfl) ?_
    refine AL_p (x_callR rfl rfl rfl (toLit_c (xs[k]'(by omega)) (hs.2 _ (List.getElem_mem _)) 101) rfl AllV.rf rfl rfl rfl rfl rfl) ?_
    refine AL_p (x_oindex (n := 10) rfl rfl rfl rfl (by kernel_rfl) rfl (k := k) rfl (by rw [filledTo_len (by omega)]; omega)) ?_
    refine AL_p (x_ostore (xs[k]'(by omega)) rfl rfl rfl rfl (by kernel_rfl) rfl rfl rfl rfl FitL.rf rfl rfl (by first | omega | (rw [filledTo_len (by omega)]; omega) | (simp; omega))) ?_
    refine AL_nil ?_
    refine AW_region ?_
    refine AL_p (x_move rfl rfl) ?_
    refine AL_p (x_add rfl rfl rfl (IntWalk.i64_in _ (by omega))) ?_
    refine AL_p (x_assign rfl rfl) ?_
    refine AL_nil ?_
    refine ⟨⟨k + 1, by omega⟩, rn [], ?_, by dsimp only; omega⟩
    exact ⟨by (repeat refine ⟨⟨_, rfl, by first | exact VLe.rf | exact vle_int (by dsimp only; omega)⟩, ?_⟩); exact trivial, by (repeat refine ⟨⟨_, rfl, by first | exact BLe.rf | exact BLe.box AllC.rf | exact BLe.arr (by first | exact filledTo_zero | exact filledTo_succ (by omega))⟩, ?_⟩); exact trivial, by repeat (first | exact trivial | refine ⟨⟨rfl, by first | (left; intro h; cases h) | (right; rfl), fun _ h => ⟨_, h⟩⟩, ?_⟩), rfl⟩
  · try simp only [decide_eq_true_eq, decide_eq_false_iff_not, Bool.not_eq_true, Bool.not_eq_false, Bool.not_eq_true', Bool.not_eq_false', beq_iff_eq, bne_iff_ne, beq_eq_false_iff_ne, bne_eq_false_iff_eq, Int.not_lt, Int.not_le, ge_iff_le, gt_iff_lt] at h11
    refine AW_condF rfl ?_
    refine AW_exit (BQ_hit ?_)
    refine AW_seq ?_
    refine AW_region ?_
    refine AL_p (x_move rfl rfl) ?_
    refine AL_p (x_assign rfl rfl) ?_
    refine AL_nil ?_
    refine AW_ret ?_
    exact ⟨rn [(0, 100)], ⟨⟨⟨_, rfl, VLe.rf⟩, trivial⟩, ⟨⟨_, rfl, BLe.arr (filledTo_done (by omega))⟩, trivial⟩, trivial, rfl⟩⟩
theorem toLitS_c (xs : List (Litt)) (hs : xs.length ≤ 1048576 ∧ ∀ y ∈ xs, smallLit y) (k : Nat) : AC Try.prog 94 [.one (.sl litE xs)] [] (.one (.own k)) [(k, some (.arr 152 litE xs true))] := AC.at (toLitS_c0 xs hs) k

set_option maxHeartbeats 4000000 in
theorem toRule_c (x : Rulet) (hs : smallRule x) : AC Try.prog 38 [.agg (ruleC x)] [] (.agg [.c (.int .i64 x.kind), .c (.string x.head.name), .own 0, .own 1]) [(0, some (.arr 142 termE x.head.args true)), (1, some (.arr 152 litE x.body true))] := by
  refine AC_bodyC (n := 4) (k := 9) (T := [(2, .one (.ptr 9 0))]) (Lf := ((9, some (.box [.c (.int .i64 x.kind), .c (.string x.head.name), .own 0, .own 1])) :: [(0, some (.arr 142 termE x.head.args true)), (1, some (.arr 152 litE x.body true))])) Try.func38 rfl rfl Try.ntmps38 rfl Try.results38 rfl rfl (by kernel_rfl) rfl rfl ⟨trivial, (by repeat (first | exact trivial | refine ⟨⟨_, rfl, BLe.rf⟩, ?_⟩)), (by repeat (first | exact trivial | refine ⟨⟨rfl, by first | (left; intro h; cases h) | (right; rfl), fun _ h => ⟨_, h⟩⟩, ?_⟩)), rfl⟩ ?_
  refine AW_seq ?_
  refine AW_region ?_
  refine AL_p (x_box 100 rfl rfl rfl rfl rfl rfl rfl) ?_
  refine AL_p (x_alloc (z := .agg #[.int .i64 0, .string ⟨#[]⟩, .slice none 0 0, .slice none 0 0]) 101 rfl (by kernel_rfl) rfl rfl rfl rfl) ?_
  refine AL_nil ?_
  refine AW_seq ?_
  refine AW_region ?_
  refine AL_p (x_alloc (z := .agg #[.int .i64 0, .string ⟨#[]⟩, .slice none 0 0, .slice none 0 0]) 102 rfl (by kernel_rfl) rfl rfl rfl rfl) ?_
  refine AL_nil ?_
  refine AW_seq ?_
  refine AW_region ?_
  refine AL_p (x_field (off := 0) (o' := 0) rfl rfl rfl (by kernel_rfl) rfl) ?_
  refine AL_p (x_load1 rfl rfl rfl (by kernel_rfl) rfl) ?_
  refine AL_p (x_field (off := 0) (o' := 0) rfl rfl rfl (by kernel_rfl) rfl) ?_
  refine AL_p (x_store (n := 1) rfl rfl rfl rfl (by kernel_rfl) rfl rfl rfl) ?_
  refine AL_nil ?_
  refine AW_seq ?_
  refine AW_region ?_
  refine AL_p (x_field (off := 1) (o' := 1) rfl rfl rfl (by kernel_rfl) rfl) ?_
  refine AL_p (x_loadN (n := 2) rfl rfl rfl (by kernel_rfl) rfl rfl) ?_
  refine AL_p (x_callR rfl rfl rfl (toAtom_c x.head hs.1 103) rfl AllV.rf rfl rfl rfl rfl rfl) ?_
  refine AL_p (x_field (off := 1) (o' := 1) rfl rfl rfl (by kernel_rfl) rfl) ?_
  refine AL_p (x_store (n := 2) rfl rfl rfl rfl (by kernel_rfl) rfl rfl rfl) ?_
  refine AL_nil ?_
  refine AW_seq ?_
  refine AW_region ?_
  refine AL_p (x_field (off := 3) (o' := 3) rfl rfl rfl (by kernel_rfl) rfl) ?_
  refine AL_p (x_load1 rfl rfl rfl (by kernel_rfl) rfl) ?_
  refine AL_p (x_call1 rfl rfl rfl (toLitS_c x.body (hs.2) 104) rfl rfl rfl rfl) ?_
  refine AL_p (x_field (off := 3) (o' := 3) rfl rfl rfl (by kernel_rfl) rfl) ?_
  refine AL_p (x_store (n := 1) rfl rfl rfl rfl (by kernel_rfl) rfl rfl rfl) ?_
  refine AL_nil ?_
  refine AW_seq ?_
  refine AW_region ?_
  refine AL_p (x_loadN (n := 4) rfl rfl rfl (by kernel_rfl) rfl rfl) ?_
  refine AL_p (x_store (n := 4) rfl rfl rfl rfl (by kernel_rfl) rfl rfl rfl) ?_
  refine AL_nil ?_
  refine AW_ret ?_
  exact ⟨rn [(9, 101), (0, 103), (1, 104)], ⟨⟨⟨_, rfl, VLe.rf⟩, trivial⟩, ⟨⟨_, rfl, by first | exact BLe.rf | (subst_vars; exact BLe.rf)⟩, ⟨_, rfl, BLe.rf⟩, ⟨_, rfl, BLe.rf⟩, trivial⟩, trivial, rfl⟩⟩

set_option maxHeartbeats 4000000 in
theorem toRuleS_c0 (xs : List (Rulet)) (hs : xs.length ≤ 1048576 ∧ ∀ y ∈ xs, smallRule y) : AC Try.prog 102 [.one (.sl ruleE xs)] [] (.one (.own 0)) [(0, some (.arr 83 ruleE xs true))] := by
  refine AC_body1 Try.func102 rfl rfl Try.ntmps102 rfl Try.results102 ?_
  refine AW_seq ?_
  refine AW_region ?_
  refine AL_p (x_assign rfl rfl) ?_
  refine AL_nil ?_
  refine AW_seq ?_
  refine AW_region ?_
  refine AL_p (x_move rfl rfl) ?_
  refine AL_p (x_len (E := 78) (n := 4) rfl rfl (by kernel_rfl)) ?_
  refine AL_p (x_make (T := 94) (E := 83) (e := ruleE) ((⟨0, ⟨⟨#[]⟩, []⟩, []⟩ : Rulet)) (z := .agg #[.int .i64 0, .string ⟨#[]⟩, .slice none 0 0, .slice none 0 0]) 100 rfl rfl rfl (by kernel_rfl) rfl ⟨.inl rfl, .inl rfl, .inr ⟨rfl, _, _, rfl⟩, .inr ⟨rfl, _, _, rfl⟩, trivial⟩ rfl rfl (by kernel_rfl) (by have := hs.1; omega)) ?_
  refine AL_p (x_assign rfl rfl) ?_
  refine AL_nil ?_
  refine AW_seq ?_
  refine AW_seq ?_
  refine AW_region ?_
  refine AL_p (x_assign rfl rfl) ?_
  refine AL_nil ?_
  refine AW_block ?_
  refine AW_loop2 (ι := {q : Nat // q ≤ xs.length}) (fun p => [(4, .one (.c (.int .i64 ((p.1) : Int))))]) (fun p => [(100, some (.arr 83 ruleE (filledTo xs ((⟨0, ⟨⟨#[]⟩, []⟩, []⟩ : Rulet)) (p.1)) true))]) [0, 3] [] (fun p => xs.length - (p.1)) ⟨0, by omega⟩ (rn []) ?_ ?_
  exact ⟨by (repeat refine ⟨⟨_, rfl, by first | exact VLe.rf | exact vle_int (by dsimp only; omega)⟩, ?_⟩); exact trivial, by (repeat refine ⟨⟨_, rfl, by first | exact BLe.rf | exact BLe.box AllC.rf | exact BLe.arr (by first | exact filledTo_zero | exact filledTo_succ (by omega))⟩, ?_⟩); exact trivial, by repeat (first | exact trivial | refine ⟨⟨rfl, by first | (left; intro h; cases h) | (right; rfl), fun _ h => ⟨_, h⟩⟩, ?_⟩), rfl⟩
  rintro ⟨k, hinv⟩
  dsimp only
  have hlen := hs.1
  refine AW_seq ?_
  refine AW_seq ?_
  refine AW_region ?_
  refine AL_p (x_move rfl rfl) ?_
  refine AL_p (x_move rfl rfl) ?_
  refine AL_p (x_len (E := 78) (n := 4) rfl rfl (by kernel_rfl)) ?_
  refine AL_b (x_lss rfl rfl rfl) (fun b11 h11 => ?_)
  refine AL_nil ?_
  cases b11
  rotate_left
  · try simp only [decide_eq_true_eq, decide_eq_false_iff_not, Bool.not_eq_true, Bool.not_eq_false, Bool.not_eq_true', Bool.not_eq_false', beq_iff_eq, bne_iff_ne, beq_eq_false_iff_ne, bne_eq_false_iff_eq, Int.not_lt, Int.not_le, ge_iff_le, gt_iff_lt] at h11
    refine AW_condT rfl ?_
    refine AW_skip ?_
    refine AW_seq ?_
    refine AW_block ?_
    refine AW_region ?_
    refine AL_p (x_move rfl rfl) ?_
    refine AL_p (x_move rfl rfl) ?_
    refine AL_p (x_move rfl rfl) ?_
    refine AL_p (x_move rfl rfl) ?_
    refine AL_p (x_index (E := 78) (n := 4) rfl rfl rfl (by kernel_rfl) rfl (k := k) (by omega) (by omega)) ?_
    refine AL_p (x_eloadW (n := 4) rfl rfl (by kernel_rfl) rfl) ?_
    refine AL_p (x_callR rfl rfl rfl ((AC.renum (res := .agg [.c (.int .i64 (xs[k]'(by omega)).kind), .c (.string (xs[k]'(by omega)).head.name), .own 101, .own 102]) (L := [(101, some (.arr 142 termE (xs[k]'(by omega)).head.args true)), (102, some (.arr 152 litE (xs[k]'(by omega)).body true))]) (r := rn [(101, 0), (102, 1)]) (toRule_c (xs[k]'(by omega)) (hs.2 _ (List.getElem_mem _))) ⟨⟨_, rfl, BLe.rf⟩, ⟨_, rfl, BLe.rf⟩, trivial⟩ rfl)) rfl AllV.rf rfl rfl rfl rfl rfl) ?_
    refine AL_p (x_oindex (n := 4) rfl rfl rfl rfl (by kernel_rfl) rfl (k := k) rfl (by rw [filledTo_len (by omega)]; omega)) ?_
    refine AL_p (x_ostore (xs[k]'(by omega)) rfl rfl rfl rfl (by kernel_rfl) rfl rfl rfl rfl FitL.rf rfl rfl (by first | omega | (rw [filledTo_len (by omega)]; omega) | (simp; omega))) ?_
    refine AL_nil ?_
    refine AW_region ?_
    refine AL_p (x_move rfl rfl) ?_
    refine AL_p (x_add rfl rfl rfl (IntWalk.i64_in _ (by omega))) ?_
    refine AL_p (x_assign rfl rfl) ?_
    refine AL_nil ?_
    refine ⟨⟨k + 1, by omega⟩, rn [], ?_, by dsimp only; omega⟩
    exact ⟨by (repeat refine ⟨⟨_, rfl, by first | exact VLe.rf | exact vle_int (by dsimp only; omega)⟩, ?_⟩); exact trivial, by (repeat refine ⟨⟨_, rfl, by first | exact BLe.rf | exact BLe.box AllC.rf | exact BLe.arr (by first | exact filledTo_zero | exact filledTo_succ (by omega))⟩, ?_⟩); exact trivial, by repeat (first | exact trivial | refine ⟨⟨rfl, by first | (left; intro h; cases h) | (right; rfl), fun _ h => ⟨_, h⟩⟩, ?_⟩), rfl⟩
  · try simp only [decide_eq_true_eq, decide_eq_false_iff_not, Bool.not_eq_true, Bool.not_eq_false, Bool.not_eq_true', Bool.not_eq_false', beq_iff_eq, bne_iff_ne, beq_eq_false_iff_ne, bne_eq_false_iff_eq, Int.not_lt, Int.not_le, ge_iff_le, gt_iff_lt] at h11
    refine AW_condF rfl ?_
    refine AW_exit (BQ_hit ?_)
    refine AW_seq ?_
    refine AW_region ?_
    refine AL_p (x_move rfl rfl) ?_
    refine AL_p (x_assign rfl rfl) ?_
    refine AL_nil ?_
    refine AW_ret ?_
    exact ⟨rn [(0, 100)], ⟨⟨⟨_, rfl, VLe.rf⟩, trivial⟩, ⟨⟨_, rfl, BLe.arr (filledTo_done (by omega))⟩, trivial⟩, trivial, rfl⟩⟩
theorem toRuleS_c (xs : List (Rulet)) (hs : xs.length ≤ 1048576 ∧ ∀ y ∈ xs, smallRule y) (k : Nat) : AC Try.prog 102 [.one (.sl ruleE xs)] [] (.one (.own k)) [(k, some (.arr 83 ruleE xs true))] := AC.at (toRuleS_c0 xs hs) k

set_option maxHeartbeats 4000000 in
theorem toDecl_c (x : Declt) : AC Try.prog 164 [.agg (declC x)] [] (.agg (declC x)) [] := by
  refine AC_bodyC (n := 3) (k := 9) (T := [(2, .one (.ptr 9 0))]) (Lf := ((9, some (.box (declC x))) :: [])) Try.func164 rfl rfl Try.ntmps164 rfl Try.results164 rfl rfl (by kernel_rfl) rfl rfl ⟨trivial, (by repeat (first | exact trivial | refine ⟨⟨_, rfl, BLe.rf⟩, ?_⟩)), (by repeat (first | exact trivial | refine ⟨⟨rfl, by first | (left; intro h; cases h) | (right; rfl), fun _ h => ⟨_, h⟩⟩, ?_⟩)), rfl⟩ ?_
  refine AW_seq ?_
  refine AW_region ?_
  refine AL_p (x_box 100 rfl rfl rfl rfl rfl rfl rfl) ?_
  refine AL_p (x_alloc (z := .agg #[.int .i64 0, .string ⟨#[]⟩, .int .i64 0]) 101 rfl (by kernel_rfl) rfl rfl rfl rfl) ?_
  refine AL_nil ?_
  refine AW_seq ?_
  refine AW_region ?_
  refine AL_p (x_alloc (z := .agg #[.int .i64 0, .string ⟨#[]⟩, .int .i64 0]) 102 rfl (by kernel_rfl) rfl rfl rfl rfl) ?_
  refine AL_nil ?_
  refine AW_seq ?_
  refine AW_region ?_
  refine AL_p (x_field (off := 0) (o' := 0) rfl rfl rfl (by kernel_rfl) rfl) ?_
  refine AL_p (x_load1 rfl rfl rfl (by kernel_rfl) rfl) ?_
  refine AL_p (x_field (off := 0) (o' := 0) rfl rfl rfl (by kernel_rfl) rfl) ?_
  refine AL_p (x_store (n := 1) rfl rfl rfl rfl (by kernel_rfl) rfl rfl rfl) ?_
  refine AL_nil ?_
  refine AW_seq ?_
  refine AW_region ?_
  refine AL_p (x_field (off := 1) (o' := 1) rfl rfl rfl (by kernel_rfl) rfl) ?_
  refine AL_p (x_load1 rfl rfl rfl (by kernel_rfl) rfl) ?_
  refine AL_p (x_field (off := 1) (o' := 1) rfl rfl rfl (by kernel_rfl) rfl) ?_
  refine AL_p (x_store (n := 1) rfl rfl rfl rfl (by kernel_rfl) rfl rfl rfl) ?_
  refine AL_nil ?_
  refine AW_seq ?_
  refine AW_region ?_
  refine AL_p (x_field (off := 2) (o' := 2) rfl rfl rfl (by kernel_rfl) rfl) ?_
  refine AL_p (x_load1 rfl rfl rfl (by kernel_rfl) rfl) ?_
  refine AL_p (x_field (off := 2) (o' := 2) rfl rfl rfl (by kernel_rfl) rfl) ?_
  refine AL_p (x_store (n := 1) rfl rfl rfl rfl (by kernel_rfl) rfl rfl rfl) ?_
  refine AL_nil ?_
  refine AW_seq ?_
  refine AW_region ?_
  refine AL_p (x_loadN (n := 3) rfl rfl rfl (by kernel_rfl) rfl rfl) ?_
  refine AL_p (x_store (n := 3) rfl rfl rfl rfl (by kernel_rfl) rfl rfl rfl) ?_
  refine AL_nil ?_
  refine AW_ret ?_
  exact ⟨rn [(9, 101)], ⟨⟨⟨_, rfl, VLe.rf⟩, trivial⟩, ⟨⟨_, rfl, by first | exact BLe.rf | (subst_vars; exact BLe.rf)⟩, trivial⟩, trivial, rfl⟩⟩

set_option maxHeartbeats 4000000 in
theorem toDeclS_c0 (xs : List (Declt)) (hs : xs.length ≤ 1048576) : AC Try.prog 101 [.one (.sl declE xs)] [] (.one (.own 0)) [(0, some (.arr 158 declE xs true))] := by
  refine AC_body1 Try.func101 rfl rfl Try.ntmps101 rfl Try.results101 ?_
  refine AW_seq ?_
  refine AW_region ?_
  refine AL_p (x_assign rfl rfl) ?_
  refine AL_nil ?_
  refine AW_seq ?_
  refine AW_region ?_
  refine AL_p (x_move rfl rfl) ?_
  refine AL_p (x_len (E := 227) (n := 3) rfl rfl (by kernel_rfl)) ?_
  refine AL_p (x_make (T := 93) (E := 158) (e := declE) ((⟨0, ⟨#[]⟩, 0⟩ : Declt)) (z := .agg #[.int .i64 0, .string ⟨#[]⟩, .int .i64 0]) 100 rfl rfl rfl (by kernel_rfl) rfl FitL.rf rfl rfl (by kernel_rfl) (by have := hs; omega)) ?_
  refine AL_p (x_assign rfl rfl) ?_
  refine AL_nil ?_
  refine AW_seq ?_
  refine AW_seq ?_
  refine AW_region ?_
  refine AL_p (x_assign rfl rfl) ?_
  refine AL_nil ?_
  refine AW_block ?_
  refine AW_loop2 (ι := {q : Nat // q ≤ xs.length}) (fun p => [(4, .one (.c (.int .i64 ((p.1) : Int))))]) (fun p => [(100, some (.arr 158 declE (filledTo xs ((⟨0, ⟨#[]⟩, 0⟩ : Declt)) (p.1)) true))]) [0, 3] [] (fun p => xs.length - (p.1)) ⟨0, by omega⟩ (rn []) ?_ ?_
  exact ⟨by (repeat refine ⟨⟨_, rfl, by first | exact VLe.rf | exact vle_int (by dsimp only; omega)⟩, ?_⟩); exact trivial, by (repeat refine ⟨⟨_, rfl, by first | exact BLe.rf | exact BLe.box AllC.rf | exact BLe.arr (by first | exact filledTo_zero | exact filledTo_succ (by omega))⟩, ?_⟩); exact trivial, by repeat (first | exact trivial | refine ⟨⟨rfl, by first | (left; intro h; cases h) | (right; rfl), fun _ h => ⟨_, h⟩⟩, ?_⟩), rfl⟩
  rintro ⟨k, hinv⟩
  dsimp only
  have hlen := hs
  refine AW_seq ?_
  refine AW_seq ?_
  refine AW_region ?_
  refine AL_p (x_move rfl rfl) ?_
  refine AL_p (x_move rfl rfl) ?_
  refine AL_p (x_len (E := 227) (n := 3) rfl rfl (by kernel_rfl)) ?_
  refine AL_b (x_lss rfl rfl rfl) (fun b11 h11 => ?_)
  refine AL_nil ?_
  cases b11
  rotate_left
  · try simp only [decide_eq_true_eq, decide_eq_false_iff_not, Bool.not_eq_true, Bool.not_eq_false, Bool.not_eq_true', Bool.not_eq_false', beq_iff_eq, bne_iff_ne, beq_eq_false_iff_ne, bne_eq_false_iff_eq, Int.not_lt, Int.not_le, ge_iff_le, gt_iff_lt] at h11
    refine AW_condT rfl ?_
    refine AW_skip ?_
    refine AW_seq ?_
    refine AW_block ?_
    refine AW_region ?_
    refine AL_p (x_move rfl rfl) ?_
    refine AL_p (x_move rfl rfl) ?_
    refine AL_p (x_move rfl rfl) ?_
    refine AL_p (x_move rfl rfl) ?_
    refine AL_p (x_index (E := 227) (n := 3) rfl rfl rfl (by kernel_rfl) rfl (k := k) (by omega) (by omega)) ?_
    refine AL_p (x_eloadW (n := 3) rfl rfl (by kernel_rfl) rfl) ?_
    refine AL_p (x_callR rfl rfl rfl (toDecl_c (xs[k]'(by omega))) rfl AllV.rf rfl rfl rfl rfl rfl) ?_
    refine AL_p (x_oindex (n := 3) rfl rfl rfl rfl (by kernel_rfl) rfl (k := k) rfl (by rw [filledTo_len (by omega)]; omega)) ?_
    refine AL_p (x_ostore (xs[k]'(by omega)) rfl rfl rfl rfl (by kernel_rfl) rfl rfl rfl rfl FitL.rf rfl rfl (by first | omega | (rw [filledTo_len (by omega)]; omega) | (simp; omega))) ?_
    refine AL_nil ?_
    refine AW_region ?_
    refine AL_p (x_move rfl rfl) ?_
    refine AL_p (x_add rfl rfl rfl (IntWalk.i64_in _ (by omega))) ?_
    refine AL_p (x_assign rfl rfl) ?_
    refine AL_nil ?_
    refine ⟨⟨k + 1, by omega⟩, rn [], ?_, by dsimp only; omega⟩
    exact ⟨by (repeat refine ⟨⟨_, rfl, by first | exact VLe.rf | exact vle_int (by dsimp only; omega)⟩, ?_⟩); exact trivial, by (repeat refine ⟨⟨_, rfl, by first | exact BLe.rf | exact BLe.box AllC.rf | exact BLe.arr (by first | exact filledTo_zero | exact filledTo_succ (by omega))⟩, ?_⟩); exact trivial, by repeat (first | exact trivial | refine ⟨⟨rfl, by first | (left; intro h; cases h) | (right; rfl), fun _ h => ⟨_, h⟩⟩, ?_⟩), rfl⟩
  · try simp only [decide_eq_true_eq, decide_eq_false_iff_not, Bool.not_eq_true, Bool.not_eq_false, Bool.not_eq_true', Bool.not_eq_false', beq_iff_eq, bne_iff_ne, beq_eq_false_iff_ne, bne_eq_false_iff_eq, Int.not_lt, Int.not_le, ge_iff_le, gt_iff_lt] at h11
    refine AW_condF rfl ?_
    refine AW_exit (BQ_hit ?_)
    refine AW_seq ?_
    refine AW_region ?_
    refine AL_p (x_move rfl rfl) ?_
    refine AL_p (x_assign rfl rfl) ?_
    refine AL_nil ?_
    refine AW_ret ?_
    exact ⟨rn [(0, 100)], ⟨⟨⟨_, rfl, VLe.rf⟩, trivial⟩, ⟨⟨_, rfl, BLe.arr (filledTo_done (by omega))⟩, trivial⟩, trivial, rfl⟩⟩
theorem toDeclS_c (xs : List (Declt)) (hs : xs.length ≤ 1048576) (k : Nat) : AC Try.prog 101 [.one (.sl declE xs)] [] (.one (.own k)) [(k, some (.arr 158 declE xs true))] := AC.at (toDeclS_c0 xs hs) k

set_option maxHeartbeats 4000000 in
theorem toProgram_c (x : Programt) (hs : smallProgram x) : AC Try.prog 43 [.agg (programC x)] [] (.agg [.own 0, .own 1]) [(0, some (.arr 158 declE x.decls true)), (1, some (.arr 83 ruleE x.rules true))] := by
  refine AC_bodyC (n := 2) (k := 9) (T := [(2, .one (.ptr 9 0))]) (Lf := ((9, some (.box [.own 0, .own 1])) :: [(0, some (.arr 158 declE x.decls true)), (1, some (.arr 83 ruleE x.rules true))])) Try.func43 rfl rfl Try.ntmps43 rfl Try.results43 rfl rfl (by kernel_rfl) rfl rfl ⟨trivial, (by repeat (first | exact trivial | refine ⟨⟨_, rfl, BLe.rf⟩, ?_⟩)), (by repeat (first | exact trivial | refine ⟨⟨rfl, by first | (left; intro h; cases h) | (right; rfl), fun _ h => ⟨_, h⟩⟩, ?_⟩)), rfl⟩ ?_
  refine AW_seq ?_
  refine AW_region ?_
  refine AL_p (x_box 100 rfl rfl rfl rfl rfl rfl rfl) ?_
  refine AL_p (x_alloc (z := .agg #[.slice none 0 0, .slice none 0 0]) 101 rfl (by kernel_rfl) rfl rfl rfl rfl) ?_
  refine AL_nil ?_
  refine AW_seq ?_
  refine AW_region ?_
  refine AL_p (x_alloc (z := .agg #[.slice none 0 0, .slice none 0 0]) 102 rfl (by kernel_rfl) rfl rfl rfl rfl) ?_
  refine AL_nil ?_
  refine AW_seq ?_
  refine AW_region ?_
  refine AL_p (x_field (off := 0) (o' := 0) rfl rfl rfl (by kernel_rfl) rfl) ?_
  refine AL_p (x_load1 rfl rfl rfl (by kernel_rfl) rfl) ?_
  refine AL_p (x_call1 rfl rfl rfl (toDeclS_c x.decls (hs.1).1 103) rfl rfl rfl rfl) ?_
  refine AL_p (x_field (off := 0) (o' := 0) rfl rfl rfl (by kernel_rfl) rfl) ?_
  refine AL_p (x_store (n := 1) rfl rfl rfl rfl (by kernel_rfl) rfl rfl rfl) ?_
  refine AL_nil ?_
  refine AW_seq ?_
  refine AW_region ?_
  refine AL_p (x_field (off := 1) (o' := 1) rfl rfl rfl (by kernel_rfl) rfl) ?_
  refine AL_p (x_load1 rfl rfl rfl (by kernel_rfl) rfl) ?_
  refine AL_p (x_call1 rfl rfl rfl (toRuleS_c x.rules (hs.2) 104) rfl rfl rfl rfl) ?_
  refine AL_p (x_field (off := 1) (o' := 1) rfl rfl rfl (by kernel_rfl) rfl) ?_
  refine AL_p (x_store (n := 1) rfl rfl rfl rfl (by kernel_rfl) rfl rfl rfl) ?_
  refine AL_nil ?_
  refine AW_seq ?_
  refine AW_region ?_
  refine AL_p (x_loadN (n := 2) rfl rfl rfl (by kernel_rfl) rfl rfl) ?_
  refine AL_p (x_store (n := 2) rfl rfl rfl rfl (by kernel_rfl) rfl rfl rfl) ?_
  refine AL_nil ?_
  refine AW_ret ?_
  exact ⟨rn [(9, 101), (0, 103), (1, 104)], ⟨⟨⟨_, rfl, VLe.rf⟩, trivial⟩, ⟨⟨_, rfl, by first | exact BLe.rf | (subst_vars; exact BLe.rf)⟩, ⟨_, rfl, BLe.rf⟩, ⟨_, rfl, BLe.rf⟩, trivial⟩, trivial, rfl⟩⟩

end Go.Proofs.Ytgmlecghklaomaa

/- The abstract walk of a law: phases, between which own data is written anew (marks). -/
namespace Go.Proofs.Ytgmlecghklaomaa
open Go.RowKit
set_option linter.unusedVariables false

/-- A phase: what stood at its start (blocks below B) is read alone; what is one's own was made since. -/
structure Ph (B : Nat) (g : Gh) (s : St) (w : World) : Prop where
  le : B ≤ w.heap.size
  old : ∀ b, b < B → g.I b
  own : ∀ b, OwnB g s.l b → B ≤ b
theorem Ph.step {B : Nat} {g g' : Gh} {s s' : St} {w w' : World} (p : Ph B g s w) (hs : Step [] g s.l w g' s'.l w') : Ph B g' s' w' ∧ Below B w w' :=
  ⟨⟨Nat.le_trans p.le hs.size, fun b hb => hs.imm b (p.old b hb), fun b hb => (hs.own b hb).elim (p.own b) fun h => Nat.le_trans p.le h⟩,
   hs.os, hs.tape, hs.output, hs.size, fun b hb => hs.keep b (Nat.lt_of_lt_of_le hb p.le) fun k blk hk hl e => by
    have := p.own b (e ▸ OwnB.of_live hk hl)
    omega⟩
def EndsM (N B : Nat) (w : World) (R : Exit → St → Prop) : Exit → Act → World → Prop := fun e a' w' => ∃ g' s', Rep N g' s' a' w' ∧ Ph B g' s' w' ∧ Below B w w' ∧ R e s'
theorem EndsM.back {N B : Nat} {w w1 : World} {R : Exit → St → Prop} {e : Exit} {a : Act} {w2 : World} (hb : Below B w w1) (h : EndsM N B w1 R e a w2) : EndsM N B w R e a w2 := by
  obtain ⟨g', s', r, p, b, hR⟩ := h
  exact ⟨g', s', r, p, hb.trans b, hR⟩
theorem EndsM.down {N B B' : Nat} {w : World} {R : Exit → St → Prop} {e : Exit} {a : Act} {w2 : World} (hB : B ≤ B') (h : EndsM N B' w R e a w2) : EndsM N B w R e a w2 := by
  obtain ⟨g', s', r, p, b, hR⟩ := h
  exact ⟨g', s', r, ⟨Nat.le_trans hB p.le, fun b hb => p.old b (Nat.lt_of_lt_of_le hb hB), fun b hb => Nat.le_trans hB (p.own b hb)⟩, b.mono hB, hR⟩
def AM (P : Program) (N B : Nat) (c : Code) (Kn : St → Prop) (Q : Exit → St → Prop) (s : St) : Prop :=
  ∀ (g : Gh) (a : Act) (w : World), Rep N g s a w → Ph B g s w → c.wp P (EndsM N B w (NormR Kn Q)) a w
section rules
variable {P : Program} {N B : Nat} {Kn : St → Prop} {Q : Exit → St → Prop} {s : St}
theorem AM_of {c : Code} (h : AW P N [] c Kn Q s) : AM P N B c Kn Q s := fun g a w r p =>
  Go.wp_mono (h g a w r) fun e a1 w1 ⟨g1, s1, r1, hs, hR⟩ => ⟨g1, s1, r1, (p.step hs).1, (p.step hs).2, hR⟩
theorem AM_region {id : Nat} {l : List Oper} (h : AL P N false l.toArray Kn l s []) : AM P N B (.region id l.toArray false) Kn Q s := AM_of (AW_region h)
theorem AM_draw {id : Nat} {l : List Oper} (hm : P.follows .mixedOrders = true) (h : AL P N true l.toArray Kn l s []) : AM P N B (.region id l.toArray true) Kn Q s := AM_of (AW_draw hm h)
theorem AM_skip (h : Kn s) : AM P N B .skip Kn Q s := AM_of (AW_skip h)
theorem AM_ret (h : Q .ret s) : AM P N B .ret Kn Q s := AM_of (AW_ret h)
theorem AM_seq {x y : Code} (h : AM P N B x (AM P N B y Kn Q) Q s) : AM P N B (.seq x y) Kn Q s := fun g a w r p =>
  wp_seq (Go.wp_mono (h g a w r p) fun e a1 w1 h1 => by
    obtain ⟨g1, s1, r1, p1, b1, hR⟩ := h1
    cases e with
    | normal => exact Go.wp_mono (hR g1 a1 w1 r1 p1) fun e a2 w2 h2 => h2.back b1
    | exit id => exact ⟨g1, s1, r1, p1, b1, hR⟩
    | goto l => exact ⟨g1, s1, r1, p1, b1, hR⟩
    | ret => exact ⟨g1, s1, r1, p1, b1, hR⟩
    | panic ch => exact ⟨g1, s1, r1, p1, b1, hR⟩
    | outgrown => exact ⟨g1, s1, r1, p1, b1, hR⟩)
theorem AM_condT {c : Operand} {x y : Code} (hc : evo s.t c = some (.one (.c (.bool true)))) (h : AM P N B x Kn Q s) : AM P N B (.cond c x y) Kn Q s := fun g a w r p => by
  obtain ⟨hv, _⟩ : a.eval c = .bool true ∧ wfV (.bool true) := eval_ok r (evs_of hc) (rdo_of hc)
  exact wp_cond_split hv (fun _ => h g a w r p) (fun h => by cases h)
theorem AM_condF {c : Operand} {x y : Code} (hc : evo s.t c = some (.one (.c (.bool false)))) (h : AM P N B y Kn Q s) : AM P N B (.cond c x y) Kn Q s := fun g a w r p => by
  obtain ⟨hv, _⟩ : a.eval c = .bool false ∧ wfV (.bool false) := eval_ok r (evs_of hc) (rdo_of hc)
  exact wp_cond_split hv (fun h => by cases h) (fun _ => h g a w r p)
end rules

/-! ### A new phase -/
/-- What a slot holds, where all that stands is read alone from now on. -/
inductive Rise (l : Locs) (B B' : Nat) : AVal → AVal → Prop
  | c {v : Value} : Rise l B B' (.one (.c v)) (.one (.c v))
  | box {k : Nat} {cs ds : List Cell} {js : List Nat} {d : Bool} {α : Type} {e : Enc α} {f : α → List Cell} [hc : CellsOf e f] {x : α} (hb : lkl l k = some (.box cs)) (hm : mvC l cs = some (ds, js, d)) (hj : noDup js = true) (hf : FitL ds (f x)) : Rise l B B' (.one (.ptr k 0)) (.one (.epo B' e x 0))
  | own {k : Nat} {α : Type} {T : TypeId} {e : Enc α} {xs : List α} {d : Bool} (hb : lkl l k = some (.arr T e xs d)) : Rise l B B' (.one (.own k)) (.one (.slo B' e xs))
  | epo {α : Type} {e : Enc α} {x : α} {o : Nat} : Rise l B B' (.one (.epo B e x o)) (.one (.epo B' e x o))
  | slo {α : Type} {e : Enc α} {xs : List α} : Rise l B B' (.one (.slo B e xs)) (.one (.slo B' e xs))
  | sl {α : Type} {e : Enc α} {xs : List α} : Rise l B B' (.one (.sl e xs)) (.one (.slo B' e xs))
  | agg {cs ds : List Cell} {js : List Nat} {d : Bool} {α : Type} {e : Enc α} {f : α → List Cell} [hc : CellsOf e f] {x : α} (hm : mvC l cs = some (ds, js, d)) (hj : noDup js = true) (hf : FitL ds (f x)) (hs : (f x).all Cell.dat = true) : Rise l B B' (.agg cs) (.agg (f x))
def RiseT (l : Locs) (B B' : Nat) (t : Tmps) : Tmps → Prop
  | [] => True
  | (k, x) :: r => (∃ y, lk t k = some y ∧ Rise l B B' y x) ∧ RiseT l B B' t r
theorem RiseT.get {l : Locs} {B B' : Nat} {t : Tmps} : ∀ {T : Tmps} {k : Nat} {x : AVal}, RiseT l B B' t T → lk T k = some x → ∃ y, lk t k = some y ∧ Rise l B B' y x
  | [], k, x, _, h => by simp [lk] at h
  | (j, z) :: r, k, x, hT, h => by
    by_cases e : j = k
    · subst e; rw [lk_cons_self] at h; cases h; exact hT.1
    · rw [lk_cons_ne e] at h; exact RiseT.get hT.2 h
theorem moved_lt {g : Gh} {l : Locs} {w : World} (m : MemR g l w) {js : List Nat} {b : Nat} (h : g.I b ∨ liveA g js b) (hj : ∀ j ∈ js, ∃ (α : Type) (T : TypeId) (e : Enc α) (xs : List α) (d : Bool), lkl l j = some (.arr T e xs d)) : b < w.heap.size := by
  rcases h with h | ⟨j, h1, h2, rfl⟩
  · exact m.ilt b h
  · obtain ⟨α, T, e, xs, d, h3⟩ := hj j h1
    exact m.lt h3 h2
theorem mvC_js {l : Locs} : ∀ {cs ds : List Cell} {js : List Nat} {d : Bool}, mvC l cs = some (ds, js, d) → ∀ j ∈ js, ∃ (α : Type) (T : TypeId) (e : Enc α) (xs : List α) (d : Bool), lkl l j = some (.arr T e xs d)
  | [], ds, js, d, h => by
    simp only [mvC, Option.some.injEq, Prod.mk.injEq] at h
    obtain ⟨rfl, rfl, rfl⟩ := h
    intro j hj; cases hj
  | c :: cs, ds, js, d, h => by
    simp only [mvC] at h
    split at h
    · cases h
    · rename_i ds1 js1 d1 h1
      have ih := mvC_js h1
      cases c with
      | c v => simp only [Option.some.injEq, Prod.mk.injEq] at h; obtain ⟨rfl, rfl, rfl⟩ := h; exact ih
      | sl e xs => simp only [Option.some.injEq, Prod.mk.injEq] at h; obtain ⟨rfl, rfl, rfl⟩ := h; exact ih
      | own j =>
        simp only at h
        split at h
        · rename_i T e xs q hq
          simp only [Option.some.injEq, Prod.mk.injEq] at h
          obtain ⟨rfl, rfl, rfl⟩ := h
          intro i hi
          rcases List.mem_cons.1 hi with rfl | hi
          · exact ⟨_, T, e, xs, q, hq⟩
          · exact ih i hi
        · cases h
      | _ => cases h
theorem Rise.ok {g : Gh} {l : Locs} {w : World} {B : Nat} (m : MemR g l w) {v : Value} {x y : AVal} (h : Rise l B w.heap.size x y) (hv : VR g l w v x) : VR (allI w) [] w v y := by
  cases h with
  | c => exact hv
  | @box k cs ds js d α e f hc x hb hm hj hf =>
    have he : v = .pointer (some ⟨g.ρ k, 0, none⟩) := hv cs hb
    obtain ⟨vs, t, h1, h2, h3⟩ := m.box k cs hb
    obtain ⟨bs, f1, f2, _⟩ := mvC_ok m h2 hm (noDup_of hj)
    have hr : e.rep w vs.toList x bs := hc.iff.2 (f1.fit hf)
    exact ⟨g.ρ k, 0, vs.toList, bs, he, ⟨(Array.getElem?_eq_some_iff.1 h1).1, (Array.getElem?_eq_some_iff.1 h1).1⟩, hr, fun c hcb => ⟨e.lt hr c hcb, e.lt hr c hcb⟩, fun j u hu => by rw [cell_of_heap h1, Nat.zero_add]; simpa using hu⟩
  | @own k α T e xs d hb =>
    obtain ⟨a, n, cap, bs, h1, h2, h3, _⟩ := (m.arr k α T e xs d hb).slice
    have he : v = g.hd k := hv α T e xs d hb
    exact ⟨a, n, cap, bs, he.trans h1, h2, fun b hbb => ⟨h2.lt b hbb, h2.lt b hbb⟩⟩
  | epo =>
    obtain ⟨gb, o, cs, b, h1, h2, h3, h4, h5⟩ := hv
    have hg := m.ilt gb h2.1
    exact ⟨gb, o, cs, b, h1, ⟨hg, hg⟩, h3, fun c hc => ⟨m.ilt c (h4 c hc).1, m.ilt c (h4 c hc).1⟩, h5⟩
  | slo =>
    obtain ⟨a, n, cap, bs, h1, h2, h3⟩ := hv
    exact ⟨a, n, cap, bs, h1, h2, fun b hb => ⟨h2.lt b hb, h2.lt b hb⟩⟩
  | sl =>
    obtain ⟨a, n, cap, bs, h1, h2, h3⟩ := hv
    exact ⟨a, n, cap, bs, h1, h2, fun b hb => ⟨h2.lt b hb, h2.lt b hb⟩⟩
  | @agg cs ds js d α e f hc x hm hj hf hs =>
    obtain ⟨vs, h1, h2⟩ := hv
    obtain ⟨bs, f1, f2, _⟩ := mvC_ok m h2 hm (noDup_of hj)
    have hr : e.rep w vs x bs := hc.iff.2 (f1.fit hf)
    exact ⟨vs, h1, (f1.fit hf).all2 fun i hi => e.lt hr i hi⟩
/-- From here on all that stands is read alone. -/
theorem AM_raise {P : Program} {N B : Nat} {c : Code} {Kn : St → Prop} {Q : Exit → St → Prop} {s : St} (T : Nat → Tmps) (hT : ∀ B', RiseT s.l B B' s.t (T B')) (h : ∀ B', AM P N B' c Kn Q ⟨T B', []⟩) : AM P N B c Kn Q s := fun g a w r p => by
  have r2 : Rep N (allI w) ⟨T w.heap.size, []⟩ a w := ⟨r.size, r.defers, fun k x hk => by
    obtain ⟨y, h1, h2⟩ := (hT w.heap.size).get hk
    exact h2.ok r.mem (r.tmp k y h1), allI_mem w⟩
  exact Go.wp_mono (h w.heap.size (allI w) a w r2 ⟨Nat.le_refl _, fun b hb => hb, fun b ⟨k, blk, hk, _⟩ => by simp [lkl, lk] at hk⟩) fun e a1 w1 h1 => h1.down p.le

/-! ### What a mark leaves standing -/
def HardC (B : Nat) (js : List Nat) : Cell → Prop
  | .c _ => True
  | .any => True
  | .ptr _ _ => True
  | .own j => noId j js = true
  | .slo B' _ _ => B' = B
  | .epo B' _ _ _ => B' = B
  | _ => False
def hardAll (B : Nat) (js : List Nat) : List Cell → Prop
  | [] => True
  | c :: cs => HardC B js c ∧ hardAll B js cs
theorem hardAll.get {B : Nat} {js : List Nat} : ∀ {cs : List Cell}, hardAll B js cs → ∀ x ∈ cs, HardC B js x
  | [], _, x, h => by cases h
  | c :: cs, h, x, hx => by
    rcases List.mem_cons.1 hx with rfl | hx
    · exact h.1
    · exact hardAll.get h.2 x hx
def HardV (B : Nat) (js : List Nat) : AVal → Prop
  | .one x => HardC B js x
  | .agg xs => hardAll B js xs
  | .tup _ => False
def HardB (B : Nat) (js : List Nat) (k : Nat) : Blk → Prop
  | .box cs => hardAll B js cs
  | .arr _ _ _ d => d = true ∧ noId k js = true
def SubT (B : Nat) (js : List Nat) (t : Tmps) : Tmps → Prop
  | [] => True
  | (k, x) :: r => (lk t k = some x ∧ HardV B js x) ∧ SubT B js t r
def SubL (B : Nat) (js : List Nat) (l : Locs) : Locs → Prop
  | [] => True
  | (k, some b) :: r => (lkl l k = some b ∧ HardB B js k b) ∧ SubL B js l r
  | (_, none) :: r => SubL B js l r
theorem SubT.get {B : Nat} {js : List Nat} {t : Tmps} : ∀ {T : Tmps} {k : Nat} {x : AVal}, SubT B js t T → lk T k = some x → lk t k = some x ∧ HardV B js x
  | [], k, x, _, h => by simp [lk] at h
  | (j, z) :: r, k, x, hT, h => by
    by_cases e : j = k
    · subst e; rw [lk_cons_self] at h; cases h; exact hT.1
    · rw [lk_cons_ne e] at h; exact SubT.get hT.2 h
theorem SubL.get {B : Nat} {js : List Nat} {l : Locs} : ∀ {L : Locs} {k : Nat} {b : Blk}, SubL B js l L → lkl L k = some b → lkl l k = some b ∧ HardB B js k b
  | [], k, b, _, h => by simp [lkl, lk] at h
  | (j, z) :: r, k, b, hL, h => by
    by_cases e : j = k
    · subst e; rw [lkl_cons_self] at h; subst h; exact hL.1
    · cases z with
      | none => rw [lkl_cons_ne e] at h; exact SubL.get (L := r) hL h
      | some z => rw [lkl_cons_ne e] at h; exact SubL.get hL.2 h
section back
variable {N B : Nat} {g : Gh} {s : St} {a : Act} {w w' : World} {js : List Nat} {bs : List Nat} {L : Locs}
/-- The names behind a mark. -/
def Gh.after (g : Gh) (B : Nat) (L : Locs) : Gh := { g with I := fun b => b < B ∨ ∃ (j : Nat) (α : Type) (T : TypeId) (e : Enc α) (xs : List α), lkl L j = some (.arr T e xs true) ∧ b ∈ g.F j }
theorem hard_cell (p : Ph B g s w) (hb : ∀ b ∈ bs, ∃ j ∈ js, Via g s.l j b) (o : Only bs w w') (hL : SubL B js s.l L) {v : Value} {x : Cell} (hx : HardC B js x) (h : CellR g s.l w v x) : CellR (g.after B L) L w' v x := by
  have lo : ∀ b, b < B → b ∉ bs := fun b h1 h2 => by
    obtain ⟨j, _, hv⟩ := hb b h2
    have := p.own b hv.own
    omega
  have kp : ∀ b, b < B → w'.heap[b]? = w.heap[b]? := fun b h1 => o.keep b (Nat.lt_of_lt_of_le h1 p.le) (lo b h1)
  cases x with
  | c u => exact h
  | any => trivial
  | own j => exact fun α T e xs d hk => h α T e xs d (hL.get hk).1
  | ptr k off => exact fun cs hk => h cs (hL.get hk).1
  | slo B' e xs =>
    obtain rfl : B' = B := hx
    obtain ⟨a, n, cap, b1, h1, h2, h3⟩ := h
    exact ⟨a, n, cap, b1, h1, h2.keep (fun b hbb => kp b (h3 b hbb).2) o.size, fun b hbb => ⟨.inl (h3 b hbb).2, (h3 b hbb).2⟩⟩
  | epo B' e z off =>
    obtain rfl : B' = B := hx
    obtain ⟨gb, of, cs, b1, h1, h2, h3, h4, h5⟩ := h
    exact ⟨gb, of, cs, b1, h1, ⟨.inl h2.2, h2.2⟩, e.keep h3 (fun c hc => kp c (h4 c hc).2) o.size, fun c hc => ⟨.inl (h4 c hc).2, (h4 c hc).2⟩, fun j u hu => (World.cell?_of_block (w := w) (kp gb h2.2)).trans (h5 j u hu)⟩
  | _ => exact hx.elim
theorem hard_val (p : Ph B g s w) (hb : ∀ b ∈ bs, ∃ j ∈ js, Via g s.l j b) (o : Only bs w w') (hL : SubL B js s.l L) {v : Value} {x : AVal} (hx : HardV B js x) (h : VR g s.l w v x) : VR (g.after B L) L w' v x := by
  cases x with
  | one x => exact hard_cell p hb o hL hx h
  | agg xs =>
    obtain ⟨vs, h1, h2⟩ := h
    exact ⟨vs, h1, h2.mono fun a b hm hr => hard_cell p hb o hL (hardAll.get hx b hm) hr⟩
  | tup xs => exact hx.elim
theorem after_rep (r : Rep N g s a w) (p : Ph B g s w) (hb : ∀ b ∈ bs, ∃ j ∈ js, Via g s.l j b) (o : Only bs w w') {T : Tmps} (hT : SubT B js s.t T) (hL : SubL B js s.l L) :
    Rep N (g.after B L) ⟨T, L⟩ a w' ∧ Ph B (g.after B L) ⟨T, L⟩ w' ∧ Below B w w' := by
  have m := r.mem
  have lo : ∀ b ∈ bs, B ≤ b := fun b h2 => by
    obtain ⟨j, _, hv⟩ := hb b h2
    exact p.own b hv.own
  have out : ∀ {k blk}, lkl L k = some blk → liv g k blk → g.ρ k ∉ bs := fun {k blk} hk hl hm => by
    obtain ⟨hk', hh⟩ := hL.get hk
    obtain ⟨j, hj, α, T, e, xs, h1, h2⟩ := hb _ hm
    have hne : k ≠ j := fun e => by
      subst e
      rw [hk'] at h1; cases h1
      exact noId_of hh.2 hj
    rcases h2 with ⟨h3, h4⟩ | h3
    · exact m.dis k j _ _ hne hk' h1 hl h3 h4
    · exact m.notI hk' hl ((m.fr j α T e xs h1).2 _ h3).1
  have outF : ∀ {k : Nat} {α : Type} {T : TypeId} {e : Enc α} {xs : List α}, lkl L k = some (.arr T e xs true) → ∀ b ∈ g.F k, b ∉ bs := fun {k α T e xs} hk b hbF hm => by
    obtain ⟨hk', hh⟩ := hL.get hk
    obtain ⟨j, hj, hv⟩ := hb _ hm
    have : k = j := Via.disj m ⟨α, T, e, xs, hk', .inr hbF⟩ hv
    subst this
    exact noId_of hh.2 hj
  have own : ∀ {b}, OwnB (g.after B L) L b → OwnB g s.l b := fun {b} ⟨k, blk, hk, h⟩ => ⟨k, blk, (hL.get hk).1, h⟩
  have nI : ∀ {k blk}, lkl L k = some blk → liv g k blk → ¬ (g.after B L).I (g.ρ k) := fun {k blk} hk hl hI => by
    rcases hI with h1 | ⟨j, α, T, e, xs, h1, h2⟩
    · have := p.own _ (OwnB.of_live (hL.get hk).1 hl); omega
    · exact m.notI (hL.get hk).1 hl ((m.fr j α T e xs (hL.get h1).1).2 _ h2).1
  have hp : ∀ {k blk}, lkl L k = some blk → liv g k blk → w'.heap[g.ρ k]? = w.heap[g.ρ k]? := fun {k blk} hk hl => o.keep _ (m.lt (hL.get hk).1 hl) (out hk hl)
  have hpF : ∀ {k : Nat} {α : Type} {T : TypeId} {e : Enc α} {xs : List α}, lkl L k = some (.arr T e xs true) → ∀ b ∈ g.F k, w'.heap[b]? = w.heap[b]? := fun {k α T e xs} hk b hbF => o.keep b (m.ilt b ((m.fr k α T e xs (hL.get hk).1).2 b hbF).1) (outF hk b hbF)
  refine ⟨⟨r.size, r.defers, fun k x hk => ?_, ⟨fun b hI => ?_, fun k cs hk => ?_, fun k α T e xs d hk => ?_, fun j k b b' hjk hj hk lj lk => m.dis j k b b' hjk (hL.get hj).1 (hL.get hk).1 lj lk, fun k α T e xs hk => ?_, fun j k α β T U e f xs ys hjk hj hk => m.fd j k α β T U e f xs ys hjk (hL.get hj).1 (hL.get hk).1⟩⟩,
    ⟨Nat.le_trans p.le o.size, fun b hb => .inl hb, fun b hb => p.own b (own hb)⟩, o.os, o.tape, o.output, o.size, fun b h1 => o.keep b (Nat.lt_of_lt_of_le h1 p.le) fun h2 => by have := lo b h2; omega⟩
  · obtain ⟨h1, h2⟩ := hT.get hk
    exact hard_val p hb o hL h2 (r.tmp k x h1)
  · refine Nat.lt_of_lt_of_le ?_ o.size
    rcases hI with h1 | ⟨j, α, T, e, xs, h1, h2⟩
    · exact Nat.lt_of_lt_of_le h1 p.le
    · exact m.ilt b ((m.fr j α T e xs (hL.get h1).1).2 b h2).1
  · obtain ⟨h1, h2⟩ := hL.get hk
    obtain ⟨vs, t, h3, h4, h5⟩ := m.box k cs h1
    exact ⟨vs, t, (hp hk trivial).trans h3, h4.mono fun a x hx hr => hard_cell p hb o hL (hardAll.get h2 x hx) hr, nI hk trivial⟩
  · obtain ⟨h1, h2, h3⟩ := hL.get hk
    subst h2
    rcases m.arr k α T e xs true h1 with h4 | ⟨cap, vs, bss, a1, a2, a3, a4, a5, a6, a7, a8, a9⟩
    · exact .inl h4
    · have hl : liv g k (.arr T e xs true) := by show g.hd k ≠ _; rw [a1]; intro e; cases e
      refine .inr ⟨cap, vs, bss, a1, a2, a3, (hp hk hl).trans a4, a5, a6.keep (hp hk hl) (fun b hb => hpF hk b (by rw [a9 rfl]; exact hb)) o.size, fun b hb => .inr ⟨k, α, T, e, xs, hk, by rw [a9 rfl]; exact hb⟩, nI hk hl, a9⟩
  · obtain ⟨h1, h2, h3⟩ := hL.get hk
    obtain ⟨n1, n2⟩ := m.fr k α T e xs h1
    exact ⟨n1, fun b hb => ⟨.inr ⟨k, α, T, e, xs, hk, hb⟩, by
      obtain ⟨_, c, t, h4⟩ := n2 b hb
      exact ⟨c, t, (hpF hk b hb).trans h4⟩⟩⟩
end back

/-! ### Regions in which a mark is called -/
def LM (P : Program) (N B : Nat) (ops : Array Oper) (Kn : St → Prop) (l : List Oper) (s : St) : Prop :=
  ∀ (Q : Exit → St → Prop) (Z : Exit → Act → World → Prop) (g : Gh) (a : Act) (w : World), Rep N g s a w → Ph B g s w → (∀ e a' w', EndsM N B w (NormR Kn Q) e a' w' → Z e a' w') → wpList P ops Z l a w
section lm
variable {P : Program} {N B : Nat} {ops : Array Oper} {Kn : St → Prop} {s : St}
theorem AM_regionM {id : Nat} {l : List Oper} {Q : Exit → St → Prop} (h : LM P N B l.toArray Kn l s) : AM P N B (.region id l.toArray false) Kn Q s := fun g a w r p => wp_region_lit (h Q _ g a w r p fun _ _ _ h => h)
theorem LM_nil (h : Kn s) : LM P N B ops Kn [] s := fun Q Z g a w r p hz => hz _ _ _ ⟨g, s, r, p, Below.refl _ _, h⟩
theorem LM_p {dst : Option Nat} {op : Op} {ty : TypeId} {pos : String} {after : Array Edge} {c : Cert} {r : List Oper} {s' : St} (h : Stp P N ⟨dst, op, ty, pos, after, none⟩ s s' c) (next : LM P N B ops Kn r s') : LM P N B ops Kn (⟨dst, op, ty, pos, after, none⟩ :: r) s := fun Q Z g a w R p hz => by
  obtain ⟨h1, h2, h3⟩ := h
  have h4 := h1 [] g s a w h2 R
  rw [h3] at h4
  unfold wpList
  rw [if_pos (by simp [Region.wanted])]
  refine .inl (Oper.wp_weak (fun a' w' ⟨g', r', hs'⟩ => ?_) h4)
  obtain ⟨p2, b2⟩ := p.step hs'
  exact next Q Z g' a' w' r' p2 fun e a2 w2 h5 => hz e a2 w2 (h5.back b2)
/-- A function that writes a datum anew. -/
def MarkA (P : Program) (f : FuncId) {α : Type} (e : Enc α) (x : α) (k r : Int) (x' : α) : Prop :=
  ∀ (w : World) (cs : List Value) (bs : List Nat), e.rep w cs x bs → Fresh 0 w bs → Calls P f #[.agg cs.toArray, .int .i64 k] w fun e' w' => e' = .returned (.int .i64 r) ∧ e.rep w' cs x' bs ∧ Only bs w w'
def MarkO (P : Program) (f : FuncId) {α : Type} (e : Enc α) (x : List α) (k r : Int) (x' : List α) : Prop :=
  ∀ (w : World) (a : Option Addr) (n cap : Nat) (bs : List Nat), SliceRep e w a n cap x bs → Fresh 0 w bs → Calls P f #[.slice a n cap, .int .i64 k] w fun e' w' => e' = .returned (.int .i64 r) ∧ SliceRep e w' a n cap x' bs ∧ Only bs w w'
theorem via_fresh {g : Gh} {l : Locs} {w : World} (m : MemR g l w) {js bs : List Nat} (h : bs.Nodup ∧ ∀ b ∈ bs, ∃ j ∈ js, Via g l j b) : Fresh 0 w bs := ⟨h.1, fun b hb => by
  obtain ⟨j, _, hv⟩ := h.2 b hb
  exact ⟨Nat.zero_le _, hv.cells m⟩⟩
section mark
variable {d : Nat} {fo x y : Operand} {f : FuncId} {ats : Array TypeId} {ty : TypeId} {pos : String} {after : Array Edge} {r : List Oper} {k r' : Int}
/-- The mark of a struct, of which nothing is asked behind. -/
theorem LM_markA {cs ds : List Cell} {js : List Nat} {α : Type} {e : Enc α} {F : α → List Cell} [hc : CellsOf e F] {z z' : α} (T : Tmps) (L : Locs) (hN : Nat.blt d N = true) (hev : evo s.t fo = some (.one (.clo f []))) (hx : evo s.t x = some (.agg cs)) (hy : evo s.t y = some (.one (.c (.int .i64 k))))
    (hf : Callable P f) (hM : MarkA P f e z k r' z') (hm : mvC s.l cs = some (ds, js, true)) (hj : noDup js = true) (hfit : FitL ds (F z)) (hw : wfV (.int .i64 r')) (hT : SubT B js s.t T) (hL : SubL B js s.l L)
    (next : LM P N B ops Kn r ⟨(d, .one (.c (.int .i64 r'))) :: T, L⟩) : LM P N B ops Kn (⟨some d, .call { callee := .value fo, args := #[x, y], argTypes := ats }, ty, pos, after, none⟩ :: r) s := fun Q Z g a w R p hz => by
  have hfe : a.eval fo = .func (.func f) #[] #[] := (eval_ok R (evs_of hev) (rdo_of hev) : CellR g s.l w (a.eval fo) (.clo f [])) (fun k hk => by cases hk)
  obtain ⟨vs, h1, h2⟩ : ∃ vs : List Value, a.eval x = .agg vs.toArray ∧ All2 (CellR g s.l w) vs cs := eval_ok R (evs_of hx) (rdo_of hx)
  obtain ⟨h3, _⟩ : a.eval y = .int .i64 k ∧ wfV (.int .i64 k) := eval_ok R (evs_of hy) (rdo_of hy)
  obtain ⟨bs, f1, f2, f3⟩ := mvC_ok R.mem h2 hm (noDup_of hj)
  have hr : e.rep w vs z bs := hc.iff.2 (f1.fit hfit)
  unfold wpList
  rw [if_pos (by simp [Region.wanted])]
  refine .inl ?_
  unfold Oper.wp
  rw [run_enter rfl hf hfe, Oper.upon_enter]
  simp only [List.map_toArray, List.map_cons, List.map_nil, h1, h3, Array.append_empty]
  refine (hM w vs bs hr (via_fresh R.mem (f3 rfl))).mono ?_
  rintro e' w' ⟨rfl, _, o⟩
  obtain ⟨q1, q2, q3⟩ := after_rep R p (f3 rfl).2 o hT hL
  have q4 : Rep N (g.after B L) ⟨(d, .one (.c (.int .i64 r'))) :: T, L⟩ (a.put (some d) (.int .i64 r')) w' := q1.put (blt_lt hN) ⟨rfl, hw⟩
  exact next Q Z _ _ _ q4 ⟨q2.le, q2.old, q2.own⟩ fun e a2 w2 h5 => hz e a2 w2 (h5.back q3)
theorem LM_markO {i : Nat} {α : Type} {U : TypeId} {e : Enc α} {z z' : List α} (T : Tmps) (L : Locs) (hN : Nat.blt d N = true) (hev : evo s.t fo = some (.one (.clo f []))) (hx : evo s.t x = some (.one (.own i))) (hy : evo s.t y = some (.one (.c (.int .i64 k))))
    (hf : Callable P f) (hM : MarkO P f e z k r' z') (hl : lkl s.l i = some (.arr U e z true)) (hw : wfV (.int .i64 r')) (hT : SubT B [i] s.t T) (hL : SubL B [i] s.l L)
    (next : LM P N B ops Kn r ⟨(d, .one (.c (.int .i64 r'))) :: T, L⟩) : LM P N B ops Kn (⟨some d, .call { callee := .value fo, args := #[x, y], argTypes := ats }, ty, pos, after, none⟩ :: r) s := fun Q Z g a w R p hz => by
  have hfe : a.eval fo = .func (.func f) #[] #[] := (eval_ok R (evs_of hev) (rdo_of hev) : CellR g s.l w (a.eval fo) (.clo f [])) (fun k hk => by cases hk)
  have h1 : CellR g s.l w (a.eval x) (.own i) := eval_ok R (evs_of hx) (rdo_of hx)
  obtain ⟨h3, _⟩ : a.eval y = .int .i64 k ∧ wfV (.int .i64 k) := eval_ok R (evs_of hy) (rdo_of hy)
  obtain ⟨bs, f1, f2, f3⟩ := mvC_ok R.mem (vs := [a.eval x]) (cs := [.own i]) (ds := [.sl e z]) (js := [i]) (d := true) ⟨h1, trivial⟩ (by simp [mvC, hl]) (by simp)
  obtain ⟨b1, b2, rfl, ⟨ad, n, cap, e1, e2⟩, rfl⟩ := f1
  rw [List.append_nil] at f2 f3
  unfold wpList
  rw [if_pos (by simp [Region.wanted])]
  refine .inl ?_
  unfold Oper.wp
  rw [run_enter rfl hf hfe, Oper.upon_enter]
  simp only [List.map_toArray, List.map_cons, List.map_nil, e1, h3, Array.append_empty]
  refine (hM w ad n cap b1 e2 (via_fresh R.mem (f3 rfl))).mono ?_
  rintro e' w' ⟨rfl, _, o⟩
  obtain ⟨q1, q2, q3⟩ := after_rep R p (f3 rfl).2 o hT hL
  have q4 : Rep N (g.after B L) ⟨(d, .one (.c (.int .i64 r'))) :: T, L⟩ (a.put (some d) (.int .i64 r')) w' := q1.put (blt_lt hN) ⟨rfl, hw⟩
  exact next Q Z _ _ _ q4 ⟨q2.le, q2.old, q2.own⟩ fun e a2 w2 h5 => hz e a2 w2 (h5.back q3)
/-- Values that are known by their cells. -/
def firm : Cell → Bool
  | .c _ => true
  | .own _ => true
  | _ => false
theorem firm_eq {g : Gh} {l : Locs} {w : World} : ∀ {vs us : List Value} {cs ds : List Cell} {js : List Nat} {q : Bool}, mvC l cs = some (ds, js, q) → cs.all firm = true → All2 (CellR g l w) vs cs → All2 (CellR g l w) us cs → vs = us
  | [], [], [], _, _, _, _, _, _, _ => rfl
  | [], _ :: _, [], _, _, _, _, _, _, h => h.elim
  | _ :: _, [], [], _, _, _, _, _, h, _ => h.elim
  | [], _, _ :: _, _, _, _, _, _, h, _ => h.elim
  | _ :: _, [], _ :: _, _, _, _, _, _, _, h => h.elim
  | _ :: _, _ :: _, [], _, _, _, _, _, h, _ => h.elim
  | v :: vs, u :: us, c :: cs, ds, js, q, hm, hf, h1, h2 => by
    simp only [List.all_cons, Bool.and_eq_true] at hf
    simp only [mvC] at hm
    split at hm
    · cases hm
    · rename_i ds1 js1 d1 h3
      have ih := firm_eq h3 hf.2 h1.2 h2.2
      subst ih
      cases c with
      | c z => rw [show v = z from h1.1.1, show u = z from h2.1.1]
      | own j =>
        simp only at hm
        split at hm
        · rename_i T e xs q hj
          rw [show v = _ from h1.1 _ _ _ _ _ hj, show u = _ from h2.1 _ _ _ _ _ hj]
        · cases hm
      | _ => cases hf.1
/-- What a slot says, at a new phase behind a mark. -/
inductive Stay (B B' : Nat) : AVal → AVal → Prop
  | c {v : Value} : Stay B B' (.one (.c v)) (.one (.c v))
  | epo {α : Type} {e : Enc α} {x : α} {o : Nat} : Stay B B' (.one (.epo B e x o)) (.one (.epo B' e x o))
  | slo {α : Type} {e : Enc α} {xs : List α} : Stay B B' (.one (.slo B e xs)) (.one (.slo B' e xs))
def StayT (B B' : Nat) (t : Tmps) : Tmps → Prop
  | [] => True
  | (k, x) :: r => (∃ y, lk t k = some y ∧ Stay B B' y x) ∧ StayT B B' t r
theorem StayT.get {B B' : Nat} {t : Tmps} : ∀ {T : Tmps} {k : Nat} {x : AVal}, StayT B B' t T → lk T k = some x → ∃ y, lk t k = some y ∧ Stay B B' y x
  | [], k, x, _, h => by simp [lk] at h
  | (j, z) :: r, k, x, hT, h => by
    by_cases e : j = k
    · subst e; rw [lk_cons_self] at h; cases h; exact hT.1
    · rw [lk_cons_ne e] at h; exact StayT.get hT.2 h
theorem Stay.ok {g : Gh} {l : Locs} {B : Nat} {w w' : World} {v : Value} {x y : AVal} (hs : w.heap.size ≤ w'.heap.size) (hB : B ≤ w.heap.size) (hk : ∀ b, b < B → w'.heap[b]? = w.heap[b]?) (h : Stay B w'.heap.size x y) (hv : VR g l w v x) : VR (allI w') [] w' v y := by
  cases h with
  | c => exact hv
  | epo =>
    obtain ⟨gb, o, cs, b, h1, h2, h3, h4, h5⟩ := hv
    have lt : ∀ c, c < B → c < w'.heap.size := fun c hc => by omega
    exact ⟨gb, o, cs, b, h1, ⟨lt _ h2.2, lt _ h2.2⟩, Enc.keep _ h3 (fun c hc => hk c (h4 c hc).2) hs, fun c hc => ⟨lt _ (h4 c hc).2, lt _ (h4 c hc).2⟩, fun j u hu => (World.cell?_of_block (w := w) (hk gb h2.2)).trans (h5 j u hu)⟩
  | slo =>
    obtain ⟨a, n, cap, bs, h1, h2, h3⟩ := hv
    have lt : ∀ c, c < B → c < w'.heap.size := fun c hc => by omega
    exact ⟨a, n, cap, bs, h1, h2.keep (fun b hb => hk b (h3 b hb).2) hs, fun b hb => ⟨lt _ (h3 b hb).2, lt _ (h3 b hb).2⟩⟩
theorem stay_rep {B : Nat} {g : Gh} {s : St} {a : Act} {w w' : World} {js bs : List Nat} (R : Rep N g s a w) (p : Ph B g s w) (hb : ∀ b ∈ bs, ∃ j ∈ js, Via g s.l j b) (o : Only bs w w') {T : Tmps} (hT : StayT B w'.heap.size s.t T) :
    Rep N (allI w') ⟨T, []⟩ a w' ∧ Ph w'.heap.size (allI w') ⟨T, []⟩ w' ∧ Below B w w' := by
  obtain ⟨q1, q2, q3⟩ := after_rep (T := []) (L := []) R p hb o trivial trivial
  refine ⟨⟨R.size, R.defers, fun k x hk => ?_, allI_mem w'⟩, ⟨Nat.le_refl _, fun b hb => hb, fun b ⟨k, blk, hk, _⟩ => by simp [lkl, lk] at hk⟩, q3⟩
  obtain ⟨y, h1, h2⟩ := hT.get hk
  exact h2.ok o.size p.le q3.block (R.tmp k y h1)
/-- The mark of a struct that lies in variable b, to which slot t points; from here on all is read alone. -/
theorem LM_markAK {cs ds : List Cell} {js : List Nat} {α : Type} {e : Enc α} {F : α → List Cell} [hc : CellsOf e F] {z z' : α} (t b : Nat) (T : Nat → Tmps) (hN : Nat.blt d N = true) (hev : evo s.t fo = some (.one (.clo f []))) (hx : evo s.t x = some (.agg cs)) (hy : evo s.t y = some (.one (.c (.int .i64 k))))
    (ht : lk s.t t = some (.one (.ptr b 0))) (hb : lkl s.l b = some (.box cs)) (hfm : cs.all firm = true) (htd : Nat.beq d t = false)
    (hf : Callable P f) (hM : MarkA P f e z k r' z') (hm : mvC s.l cs = some (ds, js, true)) (hj : noDup js = true) (hfit : FitL ds (F z)) (hw : wfV (.int .i64 r')) (hT : ∀ B', StayT B B' s.t (T B'))
    (next : ∀ B', LM P N B' ops Kn r ⟨(d, .one (.c (.int .i64 r'))) :: (t, .one (.epo B' e z' 0)) :: T B', []⟩) : LM P N B ops Kn (⟨some d, .call { callee := .value fo, args := #[x, y], argTypes := ats }, ty, pos, after, none⟩ :: r) s := fun Q Z g a w R p hz => by
  have hfe : a.eval fo = .func (.func f) #[] #[] := (eval_ok R (evs_of hev) (rdo_of hev) : CellR g s.l w (a.eval fo) (.clo f [])) (fun k hk => by cases hk)
  obtain ⟨vs, h1, h2⟩ : ∃ vs : List Value, a.eval x = .agg vs.toArray ∧ All2 (CellR g s.l w) vs cs := eval_ok R (evs_of hx) (rdo_of hx)
  obtain ⟨h3, _⟩ : a.eval y = .int .i64 k ∧ wfV (.int .i64 k) := eval_ok R (evs_of hy) (rdo_of hy)
  obtain ⟨bs, f1, f2, f3⟩ := mvC_ok R.mem h2 hm (noDup_of hj)
  have hr : e.rep w vs z bs := hc.iff.2 (f1.fit hfit)
  have hpt : a.tmps.getD t undef = .pointer (some ⟨g.ρ b, 0, none⟩) := (R.tmp t _ ht : CellR g s.l w _ (.ptr b 0)) cs hb
  obtain ⟨us, ut, u1, u2, u3⟩ := R.mem.box b cs hb
  have hvu := firm_eq hm hfm h2 u2
  have hnb : g.ρ b ∉ bs := fun hmem => by
    obtain ⟨j, _, β, U, e', zs, j1, j2⟩ := (f3 rfl).2 _ hmem
    rcases j2 with ⟨j3, j4⟩ | j3
    · exact R.mem.dis b j _ _ (fun e => by subst e; rw [hb] at j1; cases j1) hb j1 trivial j3 j4
    · exact u3 ((R.mem.fr j β U e' zs j1).2 _ j3).1
  unfold wpList
  rw [if_pos (by simp [Region.wanted])]
  refine .inl ?_
  unfold Oper.wp
  rw [run_enter rfl hf hfe, Oper.upon_enter]
  simp only [List.map_toArray, List.map_cons, List.map_nil, h1, h3, Array.append_empty]
  refine (hM w vs bs hr (via_fresh R.mem (f3 rfl))).mono ?_
  rintro e' w' ⟨rfl, hr', o⟩
  obtain ⟨q1, q2, q3⟩ := stay_rep R p (f3 rfl).2 o (hT w'.heap.size)
  have hub : w'.heap[g.ρ b]? = some (.cells us ut (0, 0)) := (o.keep _ (Array.getElem?_eq_some_iff.1 u1).1 hnb).trans u1
  have hgb : g.ρ b < w'.heap.size := (Array.getElem?_eq_some_iff.1 hub).1
  have hep : VR (allI w') [] w' (a.tmps.getD t undef) (.one (.epo w'.heap.size e z' 0)) := by
    rw [hpt]
    exact ⟨g.ρ b, 0, vs, bs, rfl, ⟨hgb, hgb⟩, hr', fun c hc => ⟨e.lt hr' c hc, e.lt hr' c hc⟩, fun j u hu => by rw [cell_of_heap hub, Nat.zero_add]; rw [hvu] at hu; simpa using hu⟩
  have q5 : Rep N (allI w') ⟨(t, .one (.epo w'.heap.size e z' 0)) :: T w'.heap.size, []⟩ a w' := ⟨q1.size, q1.defers, fun j y hj => by
    by_cases ej : t = j
    · subst ej; rw [lk_cons_self] at hj; cases hj; exact hep
    · rw [lk_cons_ne ej] at hj; exact q1.tmp j y hj, q1.mem⟩
  have q4 : Rep N (allI w') ⟨(d, .one (.c (.int .i64 r'))) :: (t, .one (.epo w'.heap.size e z' 0)) :: T w'.heap.size, []⟩ (a.put (some d) (.int .i64 r')) w' := q5.put (blt_lt hN) ⟨rfl, hw⟩
  exact next w'.heap.size Q Z _ _ _ q4 ⟨q2.le, q2.old, q2.own⟩ fun e a2 w2 h5 => hz e a2 w2 ((h5.down (Nat.le_trans p.le o.size)).back q3)
/-- .. of a slice in slot t. -/
theorem LM_markOK {i : Nat} {α : Type} {U : TypeId} {e : Enc α} {z z' : List α} (t : Nat) (T : Nat → Tmps) (hN : Nat.blt d N = true) (hev : evo s.t fo = some (.one (.clo f []))) (hx : evo s.t x = some (.one (.own i))) (hy : evo s.t y = some (.one (.c (.int .i64 k))))
    (ht : lk s.t t = some (.one (.own i))) (hf : Callable P f) (hM : MarkO P f e z k r' z') (hl : lkl s.l i = some (.arr U e z true)) (hw : wfV (.int .i64 r')) (hT : ∀ B', StayT B B' s.t (T B'))
    (next : ∀ B', LM P N B' ops Kn r ⟨(d, .one (.c (.int .i64 r'))) :: (t, .one (.slo B' e z')) :: T B', []⟩) : LM P N B ops Kn (⟨some d, .call { callee := .value fo, args := #[x, y], argTypes := ats }, ty, pos, after, none⟩ :: r) s := fun Q Z g a w R p hz => by
  have hfe : a.eval fo = .func (.func f) #[] #[] := (eval_ok R (evs_of hev) (rdo_of hev) : CellR g s.l w (a.eval fo) (.clo f [])) (fun k hk => by cases hk)
  have h1 : a.eval x = g.hd i := (eval_ok R (evs_of hx) (rdo_of hx) : CellR g s.l w (a.eval x) (.own i)) _ _ _ _ _ hl
  have ht1 : a.tmps.getD t undef = g.hd i := (R.tmp t _ ht : CellR g s.l w _ (.own i)) _ _ _ _ _ hl
  obtain ⟨h3, _⟩ : a.eval y = .int .i64 k ∧ wfV (.int .i64 k) := eval_ok R (evs_of hy) (rdo_of hy)
  obtain ⟨bs, f1, f2, f3⟩ := mvC_ok R.mem (vs := [a.eval x]) (cs := [.own i]) (ds := [.sl e z]) (js := [i]) (d := true) ⟨eval_ok R (evs_of hx) (rdo_of hx), trivial⟩ (by simp [mvC, hl]) (by simp)
  obtain ⟨b1, b2, rfl, ⟨ad, n, cap, e1, e2⟩, rfl⟩ := f1
  rw [List.append_nil] at f2 f3
  unfold wpList
  rw [if_pos (by simp [Region.wanted])]
  refine .inl ?_
  unfold Oper.wp
  rw [run_enter rfl hf hfe, Oper.upon_enter]
  simp only [List.map_toArray, List.map_cons, List.map_nil, e1, h3, Array.append_empty]
  refine (hM w ad n cap b1 e2 (via_fresh R.mem (f3 rfl))).mono ?_
  rintro e' w' ⟨rfl, hr', o⟩
  obtain ⟨q1, q2, q3⟩ := stay_rep R p (f3 rfl).2 o (hT w'.heap.size)
  have hep : VR (allI w') [] w' (a.tmps.getD t undef) (.one (.slo w'.heap.size e z')) := by
    rw [ht1, ← h1, e1]
    exact ⟨ad, n, cap, b1, rfl, hr', fun c hc => ⟨hr'.lt c hc, hr'.lt c hc⟩⟩
  have q5 : Rep N (allI w') ⟨(t, .one (.slo w'.heap.size e z')) :: T w'.heap.size, []⟩ a w' := ⟨q1.size, q1.defers, fun j y hj => by
    by_cases ej : t = j
    · subst ej; rw [lk_cons_self] at hj; cases hj; exact hep
    · rw [lk_cons_ne ej] at hj; exact q1.tmp j y hj, q1.mem⟩
  have q4 : Rep N (allI w') ⟨(d, .one (.c (.int .i64 r'))) :: (t, .one (.slo w'.heap.size e z')) :: T w'.heap.size, []⟩ (a.put (some d) (.int .i64 r')) w' := q5.put (blt_lt hN) ⟨rfl, hw⟩
  exact next w'.heap.size Q Z _ _ _ q4 ⟨q2.le, q2.old, q2.own⟩ fun e a2 w2 h5 => hz e a2 w2 ((h5.down (Nat.le_trans p.le o.size)).back q3)
end mark
end lm
/-- A variable that is read alone since an earlier phase. -/
def upC (B : Nat) : Cell → Cell
  | .sl e xs => .slo B e xs
  | c => c
theorem FR.all2o {g : Gh} {l : Locs} {w : World} {B : Nat} : ∀ {vs : List Value} {cs : List Cell} {b : List Nat}, FR w vs cs b → (∀ i ∈ b, g.I i ∧ i < B) → All2 (CellR g l w) vs (cs.map (upC B))
  | [], [], b, _, _ => trivial
  | v :: vs, c :: cs, b, h, hI => by
    obtain ⟨b1, b2, rfl, h1, h2⟩ := h
    refine ⟨?_, FR.all2o h2 fun i hi => hI i (List.mem_append_right _ hi)⟩
    cases c with
    | c u => exact ⟨h1.1, h1.2.1⟩
    | sl e xs =>
      obtain ⟨a, n, cap, h3, h4⟩ := h1
      exact ⟨a, n, cap, b1, h3, h4, fun i hi => hI i (List.mem_append_left _ hi)⟩
    | _ => exact h1.elim
section pload
variable {P : Program} {N : Nat} {s : St} {d : Nat} {ty : TypeId} {pos : String} {after : Array Edge} {gd : Option (Nat × Bool)}
theorem x_pload {α : Type} {e : Enc α} {f : α → List Cell} [hc : CellsOf e f] {T B n : Nat} {x : Operand} {z : α} {cs : List Cell} (hN : Nat.blt d N = true) (h : evo s.t x = some (.one (.epo B e z 0))) (hT : kindT P T = some (some n)) (hl : (f z).length = n) (hcs : (f z).map (upC B) = cs) :
    Stp P N ⟨some d, .load T x, ty, pos, after, gd⟩ s ⟨(d, .agg cs) :: s.t, s.l⟩ ⟨rdo x (.one (.epo B e z 0)), [], [(d, .agg cs)], [], []⟩ :=
  Stp.pure rfl hN (rdo_of h) (by simp) fun g s' a w ht hl' r => by
    obtain ⟨gb, o, vs, b, h1, h2, h3, h4, h5⟩ : CellR g s'.l w (a.eval x) (.epo B e z 0) := eval_ok r (evs_of h) ht
    have hfr := hc.iff.1 h3
    subst hcs
    have hlen : vs.length = n := by rw [← hl]; exact hfr.length
    have hrun := run_load_agg (P := P) (T := T) hT (w := w) (a := ⟨gb, o + 0, none⟩) hlen (fun j v hj => by rw [addr_add]; exact h5 j v hj)
    exact ⟨_, by simp only [execOp, Instr.loadAt, h1, Instr.sureAddr, Sem.run_bind, Sem.run_pure, Result.andThen_ok, hrun], ⟨vs, rfl, hfr.all2o fun i hi => h4 i hi⟩⟩
end pload
/-! ### The entry of a law -/
def EndT (r : Nat) (s : St) : Prop := lk s.t r = some (.one (.c (.bool true)))
def EndQ (r : Nat) : Exit → St → Prop
  | .ret, s => EndT r s
  | _, _ => False
theorem AM_law {P : Program} {f : FuncId} {fn : Func} {c : Code} {N r : Nat} {args : List AVal} (hf : P.funcs[f]? = some fn) (hb : fn.body = some c) (hN : fn.ntmps = N) (hA : Nat.ble args.length N = true) (hr : fn.results = #[.tmp r])
    (w : World) (cargs : Array Value) (ha : All2 (VR1 (allI w) [] w) cargs.toList args) (h : ∀ B, AM P N B c (EndT r) (EndQ r) ⟨args0 args 0, []⟩) : Calls P f cargs w fun e w' => e = .returned (.bool true) ∧ Below w.heap.size w w' := by
  subst hN
  have R := entry_rep (N := fn.ntmps) (allI_mem w) ha (Nat.le_of_ble_eq_true hA)
  refine calls_of_wp hf hb (Go.wp_mono (h w.heap.size (allI w) _ w R ⟨Nat.le_refl _, fun b hb => hb, fun b ⟨k, blk, hk, _⟩ => by simp [lkl, lk] at hk⟩) ?_)
  rintro e a1 w1 ⟨g1, s1, R1, p1, b1, hR⟩
  have fin : EndT r s1 → a1.defers = [] ∧ ∃ v, (results fn a1.tmps).run P w1 = .ok v w1 ∧ Ending.returned v = .returned (.bool true) ∧ Below w.heap.size w w1 := fun ht => by
    have hv : a1.tmps.getD r undef = .bool true ∧ wfV (.bool true) := R1.tmp r _ ht
    exact ⟨R1.defers, _, results_tmp hr _ _ _, by rw [hv.1], b1⟩
  cases e with
  | normal => exact fin hR
  | ret => exact fin hR
  | exit id => exact hR.elim
  | goto l => exact hR.elim
  | panic ch => exact hR.elim
  | outgrown => exact hR.elim
end Go.Proofs.Ytgmlecghklaomaa

/- The laws' own functions: GenC (printed by gen.py) -/
namespace Go.Proofs.Ytgmlecghklaomaa
open Go.RowKit
set_option linter.unusedVariables false
set_option maxRecDepth 100000

structure Namedt where
  name : ByteArray
  rel : Relt
def namedE : Enc Namedt := isoE (pairE strE (pairE relE unitE)) (fun x => (x.name, x.rel, ()))
theorem Named_rep {w : World} {cs : List Value} {x : Namedt} {bs : List Nat} : namedE.rep w cs x bs ↔ ∃ (sa0 : Option Addr) (sn0 sc0 : Nat) (sb0 : List Nat), cs = [.string x.name, .int .i64 x.rel.arity, .slice sa0 sn0 sc0] ∧ x.name.size ≤ maxLen ∧ (Lit.int .i64 x.rel.arity).wf = true ∧ SliceRep rowE w sa0 sn0 sc0 x.rel.rows sb0 ∧ bs = sb0 := by
  constructor
  · rintro ⟨c0, r0, d0, q0, rfl, rfl, h0, c1, r1, d1, q1, rfl, rfl, h1, rfl, rfl⟩
    obtain ⟨rfl, f0, rfl⟩ := h0
    obtain ⟨va0, vn0, vc0, vb0, rfl, f1_0, f1_1, hbs⟩ := Rel_rep.1 h1
    obtain rfl := hbs.symm
    exact ⟨_, _, _, _, by simp, f0, f1_0, f1_1, by simp⟩
  · rintro ⟨sa0, sn0, sc0, sb0, rfl, f0, f1, f2, hbs⟩
    obtain rfl := hbs.symm
    exact ⟨[.string x.name], [.int .i64 x.rel.arity, .slice sa0 sn0 sc0], [], (sb0), rfl, by simp, ⟨rfl, f0, rfl⟩, ⟨[.int .i64 x.rel.arity, .slice sa0 sn0 sc0], [], (sb0), [], rfl, by simp, Rel_rep.2 ⟨sa0, sn0, sc0, sb0, rfl, f1, f2, rfl⟩, ⟨rfl, rfl⟩⟩⟩
theorem opens_lNamed : Opens Try.prog namedE 180 :=
  opens_iso (fun x => ⟨x.1, x.2.1⟩) (fun _ => rfl) (opens_struct Try.underlying180 (by kernel_rfl) (opensF_cons rfl (by kernel_rfl) (opens_string Try.underlying9) (opensF_cons rfl (by kernel_rfl) opens_lRel opensF_nil)))
def smallNamed (x : Namedt) : Prop := x.name.size ≤ 1048576 ∧ smallRel x.rel

set_option maxHeartbeats 800000 in
theorem szNamed_any (cs : List Value) (x : Namedt) (bs : List Nat) (left : Int) (w : World) (h : namedE.rep w cs x bs) (l0 : 0 ≤ left) (l1 : left ≤ 1048576) :
    Calls Try.prog 121 #[.agg cs.toArray, .int .i64 left] w (RetSz (smallNamed x) left w) := by
  obtain ⟨sa0, sn0, sc0, sb0, rfl, f0, f1, f2, hbs⟩ := Named_rep.1 h
  obtain rfl := hbs.symm
  unfold maxLen at *
  have H := ((Held.start w).box_ #[.string x.name, .int .i64 x.rel.arity, .slice sa0 sn0 sc0] 180).s1
  go_enter Try.func121, Try.ntmps121
  by_cases n0 : left - (x.name.size : Int) < 0
  · go_wp2_with fail
    go_ret
    exact ⟨-1, rfl, by omega, by omega, fun h => absurd h (by omega), H.1.below⟩
  · have m0 : 0 ≤ left - (x.name.size : Int) := by omega
    go_wp2_with fail
    refine (szRel_any _ x.rel _ _ _ (Rel_rep.2 ⟨sa0, sn0, sc0, sb0, rfl, f1, f2.up H.1.below, rfl⟩) (by omega) (by omega)).mono ?_
    rintro e w1 ⟨r1, rfl, g1, k1, s1, hb⟩
    replace H := (H.1.up hb).s1
    clear hb
    by_cases n1 : r1 < 0
    · go_wp2_with fail
      go_ret
      exact ⟨-1, rfl, by omega, by omega, fun h => absurd h (by omega), H.1.below⟩
    · have m1 : 0 ≤ r1 := by omega
      go_wp2_with fail
      go_ret
      exact ⟨r1, rfl, by omega, by omega, fun _ => by unfold smallNamed; exact ⟨(show x.name.size ≤ 1048576 by omega), s1 m1⟩, H.1.below⟩

set_option maxHeartbeats 800000 in
theorem eqNamed_any (cs ds : List Value) (x : Namedt) (bs bs' : List Nat) (w : World) (h : namedE.rep w cs x bs) (h' : namedE.rep w ds x bs') :
    Calls Try.prog 129 #[.agg cs.toArray, .agg ds.toArray] w fun e w' => e = .returned (.bool true) ∧ Below w.heap.size w w' := by
  obtain ⟨sa0, sn0, sc0, sb0, rfl, f0, f1, f2, hbs⟩ := Named_rep.1 h
  obtain rfl := hbs.symm
  obtain ⟨say0, sny0, scy0, sby0, rfl, g0, g1, g2, hbs⟩ := Named_rep.1 h'
  obtain rfl := hbs.symm
  have H := ((Held.start w).box_ #[.string x.name, .int .i64 x.rel.arity, .slice sa0 sn0 sc0] 123).box_ #[.string x.name, .int .i64 x.rel.arity, .slice say0 sny0 scy0] 123
  rw [show (w.alloc (.cells #[.string x.name, .int .i64 x.rel.arity, .slice sa0 sn0 sc0] 123)).heap.size = w.heap.size + 1 by simp] at H
  replace H := H.s2
  go_enter Try.func129, Try.ntmps129
  go_wp2_with fail
  refine (eqRel_any _ _ x.rel _ _ _ (Rel_rep.2 ⟨sa0, sn0, sc0, sb0, rfl, f1, f2.up H.1.below, rfl⟩) (Rel_rep.2 ⟨say0, sny0, scy0, sby0, rfl, g1, g2.up H.1.below, rfl⟩)).mono ?_
  rintro e w1 ⟨rfl, hb⟩
  replace H := (H.1.up hb).s2
  clear hb
  go_wp2_with fail
  go_ret
  exact ⟨rfl, H.1.below⟩

set_option maxHeartbeats 1600000 in
theorem toNamed_any (cs : List Value) (x : Namedt) (bs : List Nat) (w : World) (h : namedE.rep w cs x bs) (hsm : smallNamed x) :
    Calls Try.prog 124 #[.agg cs.toArray] w (RetAgg namedE w x) := by
  obtain ⟨sa0, sn0, sc0, sb0, rfl, f0, f1, f2, hbs⟩ := Named_rep.1 h
  obtain rfl := hbs.symm
  have HSM := Lib.hid hsm
  clear hsm h
  have H := Three.start w #[.string x.name, .int .i64 x.rel.arity, .slice sa0 sn0 sc0] #[.string ⟨#[]⟩, .int .i64 0, .slice none 0 0] #[.string x.name, .int .i64 0, .slice none 0 0] 180 123 123
  go_enter Try.func124, Try.ntmps124
  go_wp2_with fail
  generalize ((w.alloc (.cells #[.string x.name, .int .i64 x.rel.arity, .slice sa0 sn0 sc0] 180)).alloc (.cells #[.string ⟨#[]⟩, .int .i64 0, .slice none 0 0] 123)).alloc (.cells #[.string x.name, .int .i64 0, .slice none 0 0] 123) = w0 at *
  have hz0 := H.lt
  have ca0 := H.a.cell
  refine (toRel_any _ x.rel _ _ (Rel_rep.2 ⟨sa0, sn0, sc0, sb0, rfl, f1, f2.up H.below, rfl⟩) HSM.out.2).mono ?_
  rintro e w1 ⟨cz0, bz0, rfl, hrz0, F0, hb⟩
  obtain ⟨sar0_0, snr0_0, scr0_0, sbr0_0, hcz, _, q0_0, hbz⟩ := Rel_rep.1 hrz0
  obtain rfl : cz0 = #[.int .i64 x.rel.arity, .slice sar0_0 snr0_0 scr0_0] := by cases cz0; simpa using hcz
  obtain rfl := hbz.symm
  clear hcz hrz0
  replace H := H.up hb
  clear hb ca0
  have hcz0 := H.c.cell
  have hfz0 := H.c.free
  have H0_0 : Three w #[.string x.name, .int .i64 x.rel.arity, .slice sa0 sn0 sc0] #[.string ⟨#[]⟩, .int .i64 0, .slice none 0 0] #[.string x.name, .int .i64 x.rel.arity, .slice none 0 0] _ := H.set 1 (.int .i64 x.rel.arity) (by simp) rfl
  have H0_1 : Three w #[.string x.name, .int .i64 x.rel.arity, .slice sa0 sn0 sc0] #[.string ⟨#[]⟩, .int .i64 0, .slice none 0 0] #[.string x.name, .int .i64 x.rel.arity, .slice sar0_0 snr0_0 scr0_0] _ := H0_0.set 2 (.slice sar0_0 snr0_0 scr0_0) (by simp) rfl
  have hS0 := (((Same.refl (w.heap.size + 1 + 1 + 1) w1).set (g := w.heap.size + 1 + 1) (by omega) 1 (.int .i64 x.rel.arity)).set (g := w.heap.size + 1 + 1) (by omega) 2 (.slice sar0_0 snr0_0 scr0_0))
  have hge0 : ∀ c ∈ sbr0_0, w.heap.size + 1 + 1 + 1 ≤ c := fun c hc => Nat.le_trans hz0 (F0.ge c hc)
  replace q0_0 := q0_0.same hS0 hge0
  replace F0 := F0.same hS0 hge0
  replace H := H0_1
  have dz := H.z.cell
  have ez := H.z.free
  have hcc := H.c.cell
  go_wp2_with fail
  refine bodyPost_ret (v := .agg #[.string x.name, .int .i64 x.rel.arity, .slice sar0_0 snr0_0 scr0_0]) (by simp [results, Try.results124, go_sem, dz]; try rfl) rfl ?_
  have hSf := ((((Same.refl (w.heap.size + 1 + 1 + 1) ((w1.setCell ⟨w.heap.size + 1 + 1, 1, none⟩ (.int .i64 x.rel.arity)).setCell ⟨w.heap.size + 1 + 1, 2, none⟩ (.slice sar0_0 snr0_0 scr0_0))).set (g := w.heap.size + 1) (by omega) 0 (.string x.name)).set (g := w.heap.size + 1) (by omega) 1 (.int .i64 x.rel.arity)).set (g := w.heap.size + 1) (by omega) 2 (.slice sar0_0 snr0_0 scr0_0))
  refine ⟨#[.string x.name, .int .i64 x.rel.arity, .slice sar0_0 snr0_0 scr0_0], _, rfl, Named_rep.2 ⟨sar0_0, snr0_0, scr0_0, _, rfl, f0, f1, q0_0.same hSf hge0, rfl⟩, ?_, (((H.below.setCell (p := ⟨w.heap.size + 1, 0, none⟩) (by simp) (.string x.name)).setCell (p := ⟨w.heap.size + 1, 1, none⟩) (by simp) (.int .i64 x.rel.arity)).setCell (p := ⟨w.heap.size + 1, 2, none⟩) (by simp) (.slice sar0_0 snr0_0 scr0_0))⟩
  exact ((F0.same hSf hge0).mono (by omega))

set_option maxHeartbeats 800000 in
theorem szNamedS_any (a : Option Addr) (n cap : Nat) (xs : List (Namedt)) (bs : List Nat) (left : Int) (w : World) (h : SliceRep namedE w a n cap xs bs) (l0 : 0 ≤ left) (l1 : left ≤ 1048576) :
    Calls Try.prog 63 #[.slice a n cap, .int .i64 left] w (RetSz (xs.length ≤ 1048576 ∧ ∀ y ∈ xs, smallNamed y) left w) := by
  have hmax := h.max
  obtain rfl := h.1
  by_cases n0 : left - (xs.length : Int) < 0
  · go_enter Try.func63, Try.ntmps63
    go_wp2_with fail
    go_ret
    exact ⟨-1, rfl, by omega, by omega, fun h => absurd h (by omega), Below.refl _ _⟩
  · have m0 : 0 ≤ left - (xs.length : Int) := by omega
    go_enter Try.func63, Try.ntmps63
    go_wp2_with fail
    go_loopw [1, 5] (fun l i W => ∃ (k : Nat) (r : Int), k ≤ xs.length ∧ i = .int .i64 k ∧ l = .int .i64 r ∧ 0 ≤ r ∧ r ≤ left ∧ AllTo smallNamed xs k ∧ Below w.heap.size w W) (fun _ i _ => xs.length - (intOf i).toNat)
    case atStart => exact ⟨0, _, Nat.zero_le _, rfl, rfl, m0, by omega, .zero, Below.refl _ _⟩
    case round =>
      obtain ⟨k, r, hk, rfl, rfl, r0, r1, hall, hB⟩ := hrel
      by_cases hlt : k < xs.length
      · obtain ⟨g, off, cs, bk, rfl, hr, hc, hbk, _⟩ := (h.up hB).get hlt
        obtain ⟨sa0, sn0, sc0, sb0, rfl, f0, f1, f2, hbs⟩ := Named_rep.1 hr
        obtain rfl := hbs.symm
        have c0 : wr.cell? ⟨g, off + k * 3, none⟩ = some (.string xs[k].name) := hc 0 _ rfl
        have c1 : wr.cell? ⟨g, off + k * 3 + 1, none⟩ = some (.int .i64 xs[k].rel.arity) := hc 1 _ rfl
        have c2 : wr.cell? ⟨g, off + k * 3 + 2, none⟩ = some (.slice sa0 sn0 sc0) := hc 2 _ rfl
        clear hc
        go_wp2_with fail
        refine (szNamed_any _ xs[k] _ _ _ hr r0 (by omega)).mono ?_
        rintro e w1 ⟨r', rfl, g0, g1, hs, hb⟩
        have hB1 := below_up hB hb (Nat.le_refl _)
        clear hb
        by_cases n1 : r' < 0
        · go_wp2_with fail
          go_ret
          exact ⟨-1, rfl, by omega, by omega, fun h => absurd h (by omega), hB1⟩
        · have m1 : 0 ≤ r' := by omega
          have hall1 := hall.succ hlt (hs m1)
          go_wp2_with fail
          go_roundw
          case rel => exact ⟨k + 1, r', by omega, by go_num, rfl, m1, by omega, hall1, hB1⟩
          case measure => simp [intOf]; omega
      · obtain rfl : k = xs.length := by omega
        have hall1 := hall.done
        clear hall
        go_wp2_with fail
        go_ret
        exact ⟨r, rfl, by omega, by omega, fun _ => ⟨by omega, hall1⟩, hB⟩

set_option maxHeartbeats 1600000 in
theorem eqNamedS_any (a : Option Addr) (n cap : Nat) (a' : Option Addr) (n' cap' : Nat) (xs : List (Namedt)) (bs bs' : List Nat) (w : World) (h : SliceRep namedE w a n cap xs bs) (h' : SliceRep namedE w a' n' cap' xs bs') :
    Calls Try.prog 69 #[.slice a n cap, .slice a' n' cap'] w fun e w' => e = .returned (.bool true) ∧ Below w.heap.size w w' := by
  have hmax := h.max
  obtain rfl := h.1
  obtain rfl := h'.1
  go_enter Try.func69, Try.ntmps69
  go_wp2_with fail
  go_loopw [5] (fun i W => ∃ (k : Nat), k ≤ xs.length ∧ i = .int .i64 k ∧ Below w.heap.size w W) (fun i _ => xs.length - (intOf i).toNat)
  case atStart => exact ⟨0, Nat.zero_le _, rfl, Below.refl _ _⟩
  case round =>
    obtain ⟨k, hk, rfl, hB⟩ := hrel
    by_cases hlt : k < xs.length
    · obtain ⟨g, off, cs, bk, rfl, hr, hc, hbk, _⟩ := (h.up hB).get hlt
      obtain ⟨sa0, sn0, sc0, sb0, rfl, f0, f1, f2, hbs⟩ := Named_rep.1 hr
      obtain rfl := hbs.symm
      have c0 : wr.cell? ⟨g, off + k * 3, none⟩ = some (.string xs[k].name) := hc 0 _ rfl
      have c1 : wr.cell? ⟨g, off + k * 3 + 1, none⟩ = some (.int .i64 xs[k].rel.arity) := hc 1 _ rfl
      have c2 : wr.cell? ⟨g, off + k * 3 + 2, none⟩ = some (.slice sa0 sn0 sc0) := hc 2 _ rfl
      clear hc
      have hlty := hlt
      obtain ⟨g', off', csy, bky, rfl, hry, hcy, hbky, _⟩ := (h'.up hB).get hlty
      obtain ⟨say0, sny0, scy0, sby0, rfl, p0, p1, p2, hbs⟩ := Named_rep.1 hry
      obtain rfl := hbs.symm
      have d0 : wr.cell? ⟨g', off' + k * 3, none⟩ = some (.string xs[k].name) := hcy 0 _ rfl
      have d1 : wr.cell? ⟨g', off' + k * 3 + 1, none⟩ = some (.int .i64 xs[k].rel.arity) := hcy 1 _ rfl
      have d2 : wr.cell? ⟨g', off' + k * 3 + 2, none⟩ = some (.slice say0 sny0 scy0) := hcy 2 _ rfl
      clear hcy
      have i0 : (0 : Int) ≤ (k : Int) := by omega
      have i1 : (k : Int) < (xs.length : Int) := by omega
      have K : Kept w [(⟨g, off + k * 3, none⟩, .string xs[k].name), (⟨g, off + k * 3 + 1, none⟩, .int .i64 xs[k].rel.arity), (⟨g, off + k * 3 + 2, none⟩, .slice sa0 sn0 sc0), (⟨g', off' + k * 3, none⟩, .string xs[k].name), (⟨g', off' + k * 3 + 1, none⟩, .int .i64 xs[k].rel.arity), (⟨g', off' + k * 3 + 2, none⟩, .slice say0 sny0 scy0)] wr := (((((((Kept.at_ hB).cons d2).cons d1).cons d0).cons c2).cons c1).cons c0)
      go_wp2_with fail
      go_region_held3 (fun W => Kept w [(⟨g, off + k * 3, none⟩, .string xs[k].name), (⟨g, off + k * 3 + 1, none⟩, .int .i64 xs[k].rel.arity), (⟨g, off + k * 3 + 2, none⟩, .slice sa0 sn0 sc0), (⟨g', off' + k * 3, none⟩, .string xs[k].name), (⟨g', off' + k * 3 + 1, none⟩, .int .i64 xs[k].rel.arity), (⟨g', off' + k * 3 + 2, none⟩, .slice say0 sny0 scy0)] W ∧ W.cell? ⟨g, off + k * 3, none⟩ = some (.string xs[k].name) ∧ W.cell? ⟨g, off + k * 3 + 1, none⟩ = some (.int .i64 xs[k].rel.arity) ∧ W.cell? ⟨g, off + k * 3 + 2, none⟩ = some (.slice sa0 sn0 sc0) ∧ W.cell? ⟨g', off' + k * 3, none⟩ = some (.string xs[k].name) ∧ W.cell? ⟨g', off' + k * 3 + 1, none⟩ = some (.int .i64 xs[k].rel.arity) ∧ W.cell? ⟨g', off' + k * 3 + 2, none⟩ = some (.slice say0 sny0 scy0))
        (first | exact Kept.c6 (Kept.up (by assumption) (And.left (by assumption))) | exact K.drew.c6)
        ((go_at_call 129; refine (eqNamed_any _ _ xs[k] _ _ _ (namedE.up hr (by first | exact (Below.refl _ _).drew | exact (Below.refl _ _))) (namedE.up hry (by first | exact (Below.refl _ _).drew | exact (Below.refl _ _)))).mono ?_; rintro e w3 ⟨rfl, hb3⟩))
      rename_i hh
      have hB1 := hh.1.1
      clear hh K c0 c1 c2 d0 d1 d2
      go_wp2_with fail
      go_roundw
      case rel => exact ⟨k + 1, by omega, by go_num, hB1⟩
      case measure => simp [intOf]; omega
    · obtain rfl : k = xs.length := by omega
      go_wp2_with fail
      go_ret
      exact ⟨rfl, hB⟩

theorem zeroNamed (w : World) : namedE.rep w [.string ⟨#[]⟩, .int .i64 0, .slice none 0 0] ⟨ByteArray.empty, ⟨0, []⟩⟩ [] := by
  exact Named_rep.2 ⟨none, 0, 0, [], rfl, by simp, by decide, ⟨rfl, Nat.le_refl _, Nat.zero_le _, (fun _ => rfl), .inl ⟨rfl, rfl⟩⟩, rfl⟩
theorem infoNamed : (Try.prog.info? 123).map (fun i => (i.zero, i.size, i.bytes)) = some (some (.agg #[.string ⟨#[]⟩, .int .i64 0, .slice none 0 0]), 3, 48) := by kernel_rfl
set_option maxHeartbeats 1600000 in
theorem toNamedS_any (a : Option Addr) (n cap : Nat) (xs : List (Namedt)) (bs : List Nat) (w : World) (h : SliceRep namedE w a n cap xs bs) (hsm : xs.length ≤ 1048576 ∧ ∀ y ∈ xs, smallNamed y) :
    Calls Try.prog 66 #[.slice a n cap] w (RetSlice namedE w xs) := by
  have hmax := h.max
  have hsm0 := hsm.1
  have HSM := Lib.hid hsm.2
  clear hsm
  obtain rfl := h.1
  obtain ⟨i0, hi, hz0, hz1, hz2⟩ := info_parts infoNamed
  have hmk := fun W => run_make_rowN (P := Try.prog) 45 123 i0 _ Try.underlying45 hi hz0 .i64 .i64 xs.length xs.length (Nat.le_refl _) (by rw [hz2]; omega) hmax W
  rw [hz1] at hmk
  clear hi hz0 hz1 hz2
  go_enter Try.func66, Try.ntmps66
  go_wp2_with fail
  obtain ⟨bs0, hS0, hF0⟩ := SliceRep.made (e := namedE) (z := #[.string ⟨#[]⟩, .int .i64 0, .slice none 0 0]) (x0 := ⟨ByteArray.empty, ⟨0, []⟩⟩) (fun w => zeroNamed w) (by decide) xs.length (by unfold maxLen; omega) w 123
  have hb0 := (Below.refl w.heap.size w).alloc (Nat.le_refl _) (.cells (madeCells #[.string ⟨#[]⟩, .int .i64 0, .slice none 0 0] (xs.length * namedE.size)) 123)
  have hg0 : w.heap.size < (w.alloc (.cells (madeCells #[.string ⟨#[]⟩, .int .i64 0, .slice none 0 0] (xs.length * namedE.size)) 123)).heap.size := by simp
  rw [show namedE.size = 3 from rfl] at hS0 hF0 hb0 hg0
  generalize w.alloc (.cells (madeCells #[.string ⟨#[]⟩, .int .i64 0, .slice none 0 0] (xs.length * 3)) 123) = w0 at *
  clear hmk
  go_loopw [4] (fun i W => ∃ (k : Nat) (ys : List (Namedt)) (bs' : List Nat), k ≤ xs.length ∧ i = .int .i64 k ∧ Filled xs ⟨ByteArray.empty, ⟨0, []⟩⟩ k ys ∧ SliceRep namedE W (some ⟨w.heap.size, 0, none⟩) xs.length xs.length ys bs' ∧ Fresh w.heap.size W bs' ∧ Below w.heap.size w W ∧ w.heap.size < W.heap.size) (fun i _ => xs.length - (intOf i).toNat)
  case atStart => exact ⟨0, _, bs0, Nat.zero_le _, rfl, .zero, hS0, hF0, hb0, hg0⟩
  case round =>
    clear hS0 hF0 hb0 hg0
    obtain ⟨k, ys, bs', hk, rfl, hfill, hS, hF, hB, hG⟩ := hrel
    by_cases hlt : k < xs.length
    · obtain ⟨g, off, cs, bk, rfl, hr, hc, hbk, _⟩ := (h.up hB).get hlt
      obtain ⟨sa0, sn0, sc0, sb0, rfl, f0, f1, f2, hbs⟩ := Named_rep.1 hr
      obtain rfl := hbs.symm
      have c0 : wr.cell? ⟨g, off + k * 3, none⟩ = some (.string xs[k].name) := hc 0 _ rfl
      have c1 : wr.cell? ⟨g, off + k * 3 + 1, none⟩ = some (.int .i64 xs[k].rel.arity) := hc 1 _ rfl
      have c2 : wr.cell? ⟨g, off + k * 3 + 2, none⟩ = some (.slice sa0 sn0 sc0) := hc 2 _ rfl
      clear hc
      go_wp2_with fail
      refine (toNamed_any _ xs[k] _ _ hr (HSM.out _ (List.getElem_mem hlt))).mono ?_
      rintro e w1 ⟨cz, bz, rfl, hrz, hFz, hb1⟩
      have hcz := Named_rep.1 hrz
      obtain ⟨saz0, snz0, scz0, sbz0, hcz, q0, q1, q2, hbz⟩ := hcz
      obtain rfl : cz = #[.string xs[k].name, .int .i64 xs[k].rel.arity, .slice saz0 snz0 scz0] := by cases cz; simpa using hcz
      clear hcz
      have hS1 := hS.up hb1
      have hF1 := hF.up hb1
      have hB1 := below_up hB hb1 (Nat.le_refl _)
      have hly := hfill.len hk
      have hdis : ∀ c ∈ bz, c ∉ bs' := fun c hc hc' => by have h1 := (hFz.2 c hc).1; have h2 := hF.lt c hc'; omega
      have hFz1 : Fresh w.heap.size w1 bz := hFz.mono (Nat.le_of_lt hG)
      obtain ⟨cs1, bo, hr1, _, hsl⟩ := hS1.slot hF1 (k := k) (by omega)
      obtain ⟨sao0, sno0, sco0, sbo0, rfl, _, _, _, hbo⟩ := Named_rep.1 hr1
      have s0 := hsl 0 _ rfl
      have s1 := hsl 1 _ rfl
      have s2 := hsl 2 _ rfl
      rw [Nat.zero_add, show namedE.size = 3 from rfl] at s0 s1 s2
      simp only [Nat.add_zero] at s0
      clear hsl
      obtain ⟨bs2, hS2, hF2, _⟩ := hS1.store hF1 (by decide) (k := k) (by omega) hrz hFz1 hdis
      have hB2 := setCells_below (Nat.le_refl w.heap.size) [.string xs[k].name, .int .i64 xs[k].rel.arity, .slice saz0 snz0 scz0] w1 (0 + k * namedE.size) hB1
      have hG2 : w.heap.size < (setCells w1 w.heap.size (0 + k * namedE.size) [.string xs[k].name, .int .i64 xs[k].rel.arity, .slice saz0 snz0 scz0]).heap.size := by rw [setCells_size]; have := hb1.size; omega
      rw [Nat.zero_add, show namedE.size = 3 from rfl] at hS2 hF2 hB2 hG2
      have hf2 := hfill.succ hlt
      clear hfill hS hF hS1 hF1 hdis c0 c1 c2 
      go_wp2_with fail
      go_roundw
      case rel => exact ⟨k + 1, _, bs2, by omega, by go_num, hf2, hS2, hF2, hB2, hG2⟩
      case measure => simp [intOf]; omega
    · obtain rfl : k = xs.length := by omega
      obtain rfl := hfill.done
      go_wp2_with fail
      go_ret
      exact ⟨_, _, _, _, rfl, hS, hF, hB⟩

structure Storet where
  rels : List (Namedt)
def storeE : Enc Storet := isoE (pairE (sliceE namedE) unitE) (fun x => (x.rels, ()))
theorem Store_rep {w : World} {cs : List Value} {x : Storet} {bs : List Nat} : storeE.rep w cs x bs ↔ ∃ (sa0 : Option Addr) (sn0 sc0 : Nat) (sb0 : List Nat), cs = [.slice sa0 sn0 sc0] ∧ SliceRep namedE w sa0 sn0 sc0 x.rels sb0 ∧ bs = sb0 := by
  constructor
  · rintro ⟨c0, r0, d0, q0, rfl, rfl, h0, rfl, rfl⟩
    obtain ⟨va0, vn0, vc0, rfl, f0⟩ := h0
    exact ⟨va0, vn0, vc0, _, by simp, f0, by simp⟩
  · rintro ⟨sa0, sn0, sc0, sb0, rfl, f0, hbs⟩
    obtain rfl := hbs.symm
    exact ⟨[.slice sa0 sn0 sc0], [], sb0, [], rfl, by simp, ⟨sa0, sn0, sc0, rfl, f0⟩, ⟨rfl, rfl⟩⟩
theorem opens_lStore : Opens Try.prog storeE 42 :=
  opens_iso (fun x => ⟨x.1⟩) (fun _ => rfl) (opens_struct Try.underlying42 (by kernel_rfl) (opensF_cons rfl (by kernel_rfl) (opens_slice Try.underlying40 (by kernel_rfl) (by decide) opens_lNamed) opensF_nil))
def smallStore (x : Storet) : Prop := (x.rels.length ≤ 1048576 ∧ ∀ y ∈ x.rels, smallNamed y)

set_option maxHeartbeats 800000 in
theorem szStore_any (cs : List Value) (x : Storet) (bs : List Nat) (left : Int) (w : World) (h : storeE.rep w cs x bs) (l0 : 0 ≤ left) (l1 : left ≤ 1048576) :
    Calls Try.prog 17 #[.agg cs.toArray, .int .i64 left] w (RetSz (smallStore x) left w) := by
  obtain ⟨sa0, sn0, sc0, sb0, rfl, f0, hbs⟩ := Store_rep.1 h
  obtain rfl := hbs.symm
  have H := ((Held.start w).box_ #[.slice sa0 sn0 sc0] 42).s1
  go_enter Try.func17, Try.ntmps17
  go_wp2_with fail
  refine (szNamedS_any sa0 sn0 sc0 x.rels sb0 _ _ (f0.up H.1.below) (by omega) (by omega)).mono ?_
  rintro e w0 ⟨r0, rfl, g0, k0, s0, hb⟩
  replace H := (H.1.up hb).s1
  clear hb
  by_cases n0 : r0 < 0
  · go_wp2_with fail
    go_ret
    exact ⟨-1, rfl, by omega, by omega, fun h => absurd h (by omega), H.1.below⟩
  · have m0 : 0 ≤ r0 := by omega
    go_wp2_with fail
    go_ret
    exact ⟨r0, rfl, by omega, by omega, fun _ => by unfold smallStore; exact s0 m0, H.1.below⟩

set_option maxHeartbeats 800000 in
theorem eqStore_any (cs ds : List Value) (x : Storet) (bs bs' : List Nat) (w : World) (h : storeE.rep w cs x bs) (h' : storeE.rep w ds x bs') :
    Calls Try.prog 21 #[.agg cs.toArray, .agg ds.toArray] w fun e w' => e = .returned (.bool true) ∧ Below w.heap.size w w' := by
  obtain ⟨sa0, sn0, sc0, sb0, rfl, f0, hbs⟩ := Store_rep.1 h
  obtain rfl := hbs.symm
  obtain ⟨say0, sny0, scy0, sby0, rfl, g0, hbs⟩ := Store_rep.1 h'
  obtain rfl := hbs.symm
  have H := ((Held.start w).box_ #[.slice sa0 sn0 sc0] 47).box_ #[.slice say0 sny0 scy0] 47
  rw [show (w.alloc (.cells #[.slice sa0 sn0 sc0] 47)).heap.size = w.heap.size + 1 by simp] at H
  replace H := H.s2
  go_enter Try.func21, Try.ntmps21
  go_wp2_with fail
  refine (eqNamedS_any _ _ _ _ _ _ x.rels _ _ _ (f0.up H.1.below) (g0.up H.1.below)).mono ?_
  rintro e w0 ⟨rfl, hb⟩
  replace H := (H.1.up hb).s2
  clear hb
  go_wp2_with fail
  go_ret
  exact ⟨rfl, H.1.below⟩

set_option maxHeartbeats 1600000 in
theorem toStore_any (cs : List Value) (x : Storet) (bs : List Nat) (w : World) (h : storeE.rep w cs x bs) (hsm : smallStore x) :
    Calls Try.prog 19 #[.agg cs.toArray] w (RetAgg storeE w x) := by
  obtain ⟨sa0, sn0, sc0, sb0, rfl, f0, hbs⟩ := Store_rep.1 h
  obtain rfl := hbs.symm
  have HSM := Lib.hid hsm
  clear hsm h
  have H := Three.start w #[.slice sa0 sn0 sc0] #[.slice none 0 0] #[.slice none 0 0] 42 47 47
  go_enter Try.func19, Try.ntmps19
  go_wp2_with fail
  generalize ((w.alloc (.cells #[.slice sa0 sn0 sc0] 42)).alloc (.cells #[.slice none 0 0] 47)).alloc (.cells #[.slice none 0 0] 47) = w0 at *
  have hz0 := H.lt
  have ca0 := H.a.cell
  refine (toNamedS_any _ _ _ x.rels _ _ (f0.up H.below) HSM.out).mono ?_
  rintro e w1 ⟨ra0, rn0, rc0, rb0, rfl, q0_0, F0, hb⟩
  replace H := H.up hb
  clear hb ca0
  have hcz0 := H.c.cell
  have hfz0 := H.c.free
  have H0_0 : Three w #[.slice sa0 sn0 sc0] #[.slice none 0 0] #[.slice ra0 rn0 rc0] _ := H.set 0 (.slice ra0 rn0 rc0) (by simp) rfl
  have hS0 := ((Same.refl (w.heap.size + 1 + 1 + 1) w1).set (g := w.heap.size + 1 + 1) (by omega) 0 (.slice ra0 rn0 rc0))
  have hge0 : ∀ c ∈ rb0, w.heap.size + 1 + 1 + 1 ≤ c := fun c hc => Nat.le_trans hz0 (F0.ge c hc)
  replace q0_0 := q0_0.same hS0 hge0
  replace F0 := F0.same hS0 hge0
  replace H := H0_0
  have dz := H.z.cell
  have ez := H.z.free
  have hcc := H.c.cell
  go_wp2_with fail
  refine bodyPost_ret (v := .agg #[.slice ra0 rn0 rc0]) (by simp [results, Try.results19, go_sem, dz]; try rfl) rfl ?_
  have hSf := ((Same.refl (w.heap.size + 1 + 1 + 1) (w1.setCell ⟨w.heap.size + 1 + 1, 0, none⟩ (.slice ra0 rn0 rc0))).set (g := w.heap.size + 1) (by omega) 0 (.slice ra0 rn0 rc0))
  refine ⟨#[.slice ra0 rn0 rc0], _, rfl, Store_rep.2 ⟨ra0, rn0, rc0, _, rfl, q0_0.same hSf hge0, rfl⟩, ?_, (H.below.setCell (p := ⟨w.heap.size + 1, 0, none⟩) (by simp) (.slice ra0 rn0 rc0))⟩
  exact ((F0.same hSf hge0).mono (by omega))

end Go.Proofs.Ytgmlecghklaomaa

/- Right stores and like stores, in plain words. -/
namespace Go.Proofs.Ytgmlecghklaomaa
open Go.RowKit
set_option linter.unusedVariables false

/-! A test at each place of a list. -/
def AllAt {n : Nat} (p : (k : Nat) → k < n → Bool) (k : Nat) : Prop := ∀ j (h : j < n), j < k → p j h = true
theorem AllAt.zero {n : Nat} {p : (k : Nat) → k < n → Bool} : AllAt p 0 := fun _ _ h => absurd h (by omega)
theorem AllAt.succ {n : Nat} {p : (k : Nat) → k < n → Bool} {k : Nat} (h : AllAt p k) (hk : k < n) (hp : p k hk = true) : AllAt p (k + 1) := fun j hj hjk => by
  rcases Nat.lt_or_ge j k with h1 | h1
  · exact h j hj h1
  · obtain rfl : j = k := by omega
    exact hp
def everyB {n : Nat} (p : (k : Nat) → k < n → Bool) : Bool := (List.range n).all fun k => if h : k < n then p k h else true
theorem everyB_get {n : Nat} {p : (k : Nat) → k < n → Bool} (h : everyB p = true) {j : Nat} (hj : j < n) : p j hj = true := by
  unfold everyB at h
  rw [List.all_eq_true] at h
  have := h j (by simpa using hj)
  rwa [dif_pos hj] at this
theorem AllAt.all {n : Nat} {p : (k : Nat) → k < n → Bool} {k : Nat} (h : AllAt p k) (hk : n ≤ k) : everyB p = true := by
  unfold everyB
  rw [List.all_eq_true]
  intro j hj
  have hj' : j < n := by simpa using hj
  rw [dif_pos hj']
  exact h j hj' (by omega)
theorem everyB_bad {n : Nat} {p : (k : Nat) → k < n → Bool} {k : Nat} (hk : k < n) (hp : p k hk = false) : everyB p = false := by
  cases h : everyB p
  · rfl
  · have := everyB_get h hk
    rw [hp] at this; cases this

def namedC (x : Namedt) : List Cell := [.c (.string x.name), .c (.int .i64 x.rel.arity), .sl rowE x.rel.rows]
instance : CellsOf namedE namedC := cellsIso (e := pairE strE (pairE relE unitE)) (fun x : Namedt => (x.name, x.rel, ()))
def storeC (s : Storet) : List Cell := [.sl namedE s.rels]
instance : CellsOf storeE storeC := cellsIso (e := pairE (sliceE namedE) unitE) (fun x : Storet => (x.rels, ()))
theorem inv_str {g : Gh} {l : Locs} {w : World} {v : Value} {s : ByteArray} (h : VR1 g l w v (.one (.c (.string s)))) : v = .string s ∧ s.size ≤ maxLen := h
theorem wordOkI_c (s : ByteArray) : AC Try.prog 67 [.one (.c (.string s))] [] (.one (.c (.bool (wordB s)))) [] :=
  AC.pure ⟨_, _, Try.func67, rfl, rfl⟩ trivial fun w g cargs h => by
    obtain ⟨x, rfl, h1⟩ := inv1 h
    obtain ⟨rfl, hs⟩ := inv_str h1
    exact (wordOkI_any s w hs).mono fun e w' ⟨h1, h2⟩ => ⟨h1, below_eq h2⟩
theorem wordOkS_c (s : ByteArray) : AC Try.prog 64 [.one (.c (.string s))] [] (.one (.c (.bool (wordB s)))) [] :=
  AC.pure ⟨_, _, Try.func64, rfl, rfl⟩ trivial fun w g cargs h => by
    obtain ⟨x, rfl, h1⟩ := inv1 h
    obtain ⟨rfl, hs⟩ := inv_str h1
    exact (wordOkS_any s w hs).mono fun e w' ⟨h1, h2⟩ => ⟨h1, below_eq h2⟩

def bless (a b : ByteArray) : Bool := Op.bytesLess a.toList b.toList
def namedAt (l : List Namedt) (k : Nat) (h : k < l.length) : Bool := wordB l[k].name && (relOk l[k].rel && (decide (k = 0) || bless (l[k - 1]'(by omega)).name l[k].name))
def storeOk (s : Storet) : Bool := everyB (namedAt s.rels) && decide (s.rels.length ≤ 24)
theorem storeOk_len {s : Storet} (h : 24 < s.rels.length) : storeOk s = false := by
  have : decide (s.rels.length ≤ 24) = false := decide_eq_false (by omega)
  unfold storeOk; rw [this]; simp
theorem storeOk_bad {s : Storet} {k : Nat} (hk : k < s.rels.length) (h : namedAt s.rels k hk = false) : storeOk s = false := by
  unfold storeOk; rw [everyB_bad hk h]; rfl
theorem storeOk_good {s : Storet} {k : Nat} (h : AllAt (namedAt s.rels) k) (hk : s.rels.length ≤ k) (hl : s.rels.length ≤ 24) : storeOk s = true := by
  unfold storeOk; rw [h.all hk, decide_eq_true hl]; rfl
theorem storeOk_rel {s : Storet} (h : storeOk s = true) {k : Nat} (hk : k < s.rels.length) : relOk s.rels[k].rel = true := by
  simp only [storeOk, Bool.and_eq_true] at h
  have := everyB_get h.1 hk
  simp only [namedAt, Bool.and_eq_true] at this
  exact this.2.1
theorem storeOk_max {s : Storet} (h : storeOk s = true) : s.rels.length ≤ 24 := by
  simp only [storeOk, Bool.and_eq_true, decide_eq_true_eq] at h
  exact h.2
theorem namedAt_word {l : List Namedt} {k : Nat} (hk : k < l.length) (h : wordB l[k].name = false) : namedAt l k hk = false := by simp [namedAt, h]
theorem namedAt_rel {l : List Namedt} {k : Nat} (hk : k < l.length) (h : relOk l[k].rel = false) : namedAt l k hk = false := by simp [namedAt, h]
theorem namedAt_order {l : List Namedt} {k : Nat} (hk : k < l.length) (h0 : 0 < k) (h : Op.bytesLess (l[k - 1]'(by omega)).name.toList l[k].name.toList = false) : namedAt l k hk = false := by
  have : decide (k = 0) = false := decide_eq_false (by omega)
  simp [namedAt, this, bless, h]
theorem namedAt_first {l : List Namedt} {k : Nat} (hk : k < l.length) (h0 : k = 0) (h1 : wordB l[k].name = true) (h2 : relOk l[k].rel = true) : namedAt l k hk = true := by
  have : decide (k = 0) = true := decide_eq_true h0
  simp only [namedAt, this, h1, h2, Bool.true_or, Bool.and_self]
theorem namedAt_next {l : List Namedt} {k : Nat} (hk : k < l.length) (h1 : wordB l[k].name = true) (h2 : relOk l[k].rel = true) (h : Op.bytesLess (l[k - 1]'(by omega)).name.toList l[k].name.toList = true) : namedAt l k hk = true := by
  simp [namedAt, bless, h, h1, h2]

def likeNamed (x y : Namedt) : Bool := x.name == y.name && likeRel x.rel y.rel
theorem likeNamed_name {x y : Namedt} (h : (x.name == y.name) = false) : likeNamed x y = false := by simp [likeNamed, h]
theorem likeNamed_ok {x y : Namedt} (h : (x.name == y.name) = true) : likeNamed x y = likeRel x.rel y.rel := by simp [likeNamed, h]
def likeNames (a b : List Namedt) : Bool := if h : a.length = b.length then everyB (n := a.length) (fun k hk => likeNamed a[k] (b[k]'(by omega))) else false
theorem likeNames_len {a b : List Namedt} (h : ¬ a.length = b.length) : likeNames a b = false := by simp [likeNames, h]
theorem likeNames_at {a b : List Namedt} {k : Nat} (hk : k < a.length) (hk' : k < b.length) (hp : likeNamed a[k] b[k] = false) : likeNames a b = false := by
  unfold likeNames
  split
  · exact everyB_bad hk hp
  · rfl
def LikeN (a b : List Namedt) (k : Nat) : Prop := ∀ j (h : j < a.length) (h' : j < b.length), j < k → likeNamed a[j] b[j] = true
theorem LikeN.zero {a b : List Namedt} : LikeN a b 0 := fun _ _ _ h => absurd h (by omega)
theorem LikeN.succ {a b : List Namedt} {k : Nat} (h : LikeN a b k) (hk : k < a.length) (hk' : k < b.length) (hs : likeNamed a[k] b[k] = true) : LikeN a b (k + 1) := fun j hj hj' hjk => by
  rcases Nat.lt_or_ge j k with h1 | h1
  · exact h j hj hj' h1
  · obtain rfl : j = k := by omega
    exact hs
theorem likeNames_eq {a b : List Namedt} {k : Nat} (hl : a.length = b.length) (h : LikeN a b k) (hk : a.length ≤ k) : likeNames a b = true := by
  unfold likeNames
  rw [dif_pos hl]
  exact AllAt.all (k := k) (fun j hj hjk => h j hj (by omega) hjk) hk
def sameStore (a b : Storet) : Bool := storeOk a && (storeOk b && likeNames a.rels b.rels)
theorem sameStore_a {a b : Storet} (h : storeOk a = false) : sameStore a b = false := by simp [sameStore, h]
theorem sameStore_b {a b : Storet} (h : storeOk b = false) : sameStore a b = false := by simp [sameStore, h]
theorem sameStore_ok {a b : Storet} (h : storeOk a = true) (h' : storeOk b = true) : sameStore a b = likeNames a.rels b.rels := by simp [sameStore, h, h']
theorem sameStore_len {a b : Storet} (h : ¬ a.rels.length = b.rels.length) : sameStore a b = false := by simp [sameStore, likeNames_len h]
theorem sameStore_at {a b : Storet} {k : Nat} (hk : k < a.rels.length) (hk' : k < b.rels.length) (h : likeNamed a.rels[k] b.rels[k] = false) : sameStore a b = false := by simp [sameStore, likeNames_at hk hk' h]
theorem likeNamed_rel {x y : Namedt} (h1 : relOk x.rel = true) (h2 : relOk y.rel = true) (h : sameRel x.rel y.rel = false) : likeNamed x y = false := by
  rw [sameRel_like h1 h2] at h
  simp [likeNamed, h]
theorem likeNamed_yes {x y : Namedt} (h1 : relOk x.rel = true) (h2 : relOk y.rel = true) (hn : (x.name == y.name) = true) (h : sameRel x.rel y.rel = true) : likeNamed x y = true := by
  rw [sameRel_like h1 h2] at h
  simp [likeNamed, h, hn]
end Go.Proofs.Ytgmlecghklaomaa
