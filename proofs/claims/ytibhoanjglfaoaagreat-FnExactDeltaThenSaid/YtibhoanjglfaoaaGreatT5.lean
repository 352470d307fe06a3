/- Lemmas of the walks, part 5. -/
import Derived.Test.YtibhoanjglfaoaaGreatT4
import Derived.Shelf.Spec.SlicesGrow
import Derived.Test.YtibhoanjglfaoaaGreatRows
/- Stable sorting in plain words: elements put in from the right, one after the other; ranges merged, rotated, exchanged. -/
namespace Go.Proofs.YtibhoanjglfaoaaGreat
open Go.RowKit
set_option linter.unusedVariables false
set_option linter.unusedSimpArgs false

section
variable {α : Type} {lt : α → α → Bool}
/-- What the order must be: none is below itself two steps round; what is not below is passed on. -/
structure Wk (lt : α → α → Bool) : Prop where
  asym : ∀ x y, lt x y = true → lt y x = false
  neg : ∀ x y z, lt y x = false → lt z y = false → lt z x = false
theorem Wk.trans (h : Wk lt) {x y z : α} (h1 : lt x y = true) (h2 : lt z y = false) : lt x z = true := by
  cases q : lt x z
  · have := h.neg y z x h2 q
    rw [h1] at this; cases this
  · rfl
theorem Wk.trans' (h : Wk lt) {x y z : α} (h1 : lt y x = false) (h2 : lt y z = true) : lt x z = true := by
  cases q : lt x z
  · have := h.neg z x y q h1
    rw [h2] at this; cases this
  · rfl
theorem Wk.irr (h : Wk lt) (x : α) : lt x x = false := by
  cases q : lt x x
  · rfl
  · have := h.asym x x q
    rw [q] at this; cases this
def Srt (lt : α → α → Bool) (l : List α) : Prop := l.Pairwise fun x y => lt y x = false
def insR (lt : α → α → Bool) : List α → α → List α
  | [], x => [x]
  | y :: l, x => if lt x y = true then x :: y :: l else y :: insR lt l x
def mergeI (lt : α → α → Bool) (a b : List α) : List α := b.foldl (insR lt) a
def isort (lt : α → α → Bool) (l : List α) : List α := mergeI lt [] l
theorem insR_at : ∀ {u v : List α} {x : α}, (∀ y ∈ u, lt x y = false) → (∀ y ∈ v.head?, lt x y = true) → insR lt (u ++ v) x = u ++ x :: v
  | [], [], x, _, _ => rfl
  | [], y :: v, x, _, h => if_pos (h y rfl)
  | y :: u, v, x, h, h2 => by
    rw [List.cons_append, insR, if_neg (by rw [h y (by simp)]; simp), insR_at (fun z hz => h z (by simp [hz])) h2]; rfl
theorem insR_perm : ∀ {l : List α} {x : α}, (insR lt l x).Perm (x :: l)
  | [], x => List.Perm.refl _
  | y :: l, x => by
    unfold insR
    split
    · exact List.Perm.refl _
    · exact (insR_perm.cons y).trans (List.Perm.swap x y l)
theorem insR_mem {l : List α} {x z : α} : z ∈ insR lt l x ↔ z = x ∨ z ∈ l := by rw [insR_perm.mem_iff, List.mem_cons]
theorem insR_srt (h : Wk lt) : ∀ {l : List α} {x : α}, Srt lt l → Srt lt (insR lt l x)
  | [], x, _ => List.pairwise_singleton _ _
  | y :: l, x, hs => by
    obtain ⟨h1, h2⟩ := List.pairwise_cons.1 hs
    unfold insR
    split
    · rename_i hx
      refine List.pairwise_cons.2 ⟨fun z hz => ?_, hs⟩
      rcases List.mem_cons.1 hz with rfl | hz
      · exact h.asym _ _ hx
      · exact h.neg _ _ _ (h.asym _ _ hx) (h1 z hz)
    · rename_i hx
      refine List.pairwise_cons.2 ⟨fun z hz => ?_, insR_srt h h2⟩
      rcases insR_mem.1 hz with rfl | hz
      · simpa using hx
      · exact h1 z hz
theorem mergeI_srt (h : Wk lt) : ∀ {b a : List α}, Srt lt a → Srt lt (mergeI lt a b)
  | [], a, hs => hs
  | x :: b, a, hs => mergeI_srt h (b := b) (insR_srt h hs)
theorem mergeI_perm : ∀ {b a : List α}, (mergeI lt a b).Perm (a ++ b)
  | [], a => by rw [List.append_nil]; exact List.Perm.refl _
  | x :: b, a => by
    have h1 : (mergeI lt (insR lt a x) b).Perm (insR lt a x ++ b) := mergeI_perm
    refine h1.trans ((insR_perm.append_right b).trans ?_)
    exact List.perm_middle.symm
theorem mergeI_mem {a b : List α} {z : α} : z ∈ mergeI lt a b ↔ z ∈ a ∨ z ∈ b := by rw [mergeI_perm.mem_iff, List.mem_append]
theorem mergeI_len {a b : List α} : (mergeI lt a b).length = a.length + b.length := by rw [mergeI_perm.length_eq, List.length_append]
theorem isort_perm {l : List α} : (isort lt l).Perm l := mergeI_perm
theorem isort_len {l : List α} : (isort lt l).length = l.length := isort_perm.length_eq
theorem isort_srt (h : Wk lt) {l : List α} : Srt lt (isort lt l) := mergeI_srt h List.Pairwise.nil
theorem mergeI_app {a b c : List α} : mergeI lt a (b ++ c) = mergeI lt (mergeI lt a b) c := List.foldl_append
theorem isort_snoc {l : List α} {x : α} : isort lt (l ++ [x]) = insR lt (isort lt l) x := mergeI_app
/-- A sorted list, where x goes in. -/
theorem insR_split (h : Wk lt) : ∀ {l : List α} {x : α}, Srt lt l → ∃ u v, l = u ++ v ∧ (∀ y ∈ u, lt x y = false) ∧ ∀ y ∈ v, lt x y = true
  | [], x, _ => ⟨[], [], rfl, by simp, by simp⟩
  | y :: l, x, hs => by
    obtain ⟨h1, h2⟩ := List.pairwise_cons.1 hs
    cases hx : lt x y
    · obtain ⟨u, v, e, hu, hv⟩ := insR_split h (x := x) h2
      refine ⟨y :: u, v, by rw [e]; rfl, fun z hz => ?_, hv⟩
      rcases List.mem_cons.1 hz with rfl | hz
      · exact hx
      · exact hu z hz
    · refine ⟨[], y :: l, rfl, by simp, fun z hz => ?_⟩
      rcases List.mem_cons.1 hz with rfl | hz
      · exact hx
      · exact h.trans hx (h1 z hz)
theorem insR_all {u v : List α} {x : α} (hu : ∀ y ∈ u, lt x y = false) (hv : ∀ y ∈ v, lt x y = true) : insR lt (u ++ v) x = u ++ x :: v :=
  insR_at hu fun y hy => hv y (List.mem_of_mem_head? hy)
theorem insR_comm (h : Wk lt) {t : List α} {x s : α} (ht : Srt lt t) (hx : lt x s = true) : insR lt (insR lt t x) s = insR lt (insR lt t s) x := by
  obtain ⟨u, v, rfl, hu, hv⟩ := insR_split h (x := x) ht
  have hvs : Srt lt v := (List.pairwise_append.1 ht).2.1
  obtain ⟨v1, v2, rfl, h1, h2⟩ := insR_split h (x := s) hvs
  have hus : ∀ y ∈ u, lt s y = false := fun y hy => by
    cases q : lt s y
    · rfl
    · have h3 := h.asym s y q
      have : lt x y = true := h.trans hx h3
      rw [hu y hy] at this; cases this
  rw [insR_all hu hv]
  have e1 : u ++ x :: (v1 ++ v2) = (u ++ x :: v1) ++ v2 := by simp
  rw [e1, insR_all (fun y hy => ?_) h2]
  · have e2 : u ++ (v1 ++ v2) = (u ++ v1) ++ v2 := by simp
    rw [e2, insR_all (u := u ++ v1) (fun y hy => ?_) h2]
    · have e3 : u ++ v1 ++ s :: v2 = u ++ (v1 ++ s :: v2) := by simp
      rw [e3, insR_all hu (fun y hy => ?_)]
      · simp
      · rcases List.mem_append.1 hy with hy | hy
        · exact hv y (by simp [hy])
        · rcases List.mem_cons.1 hy with rfl | hy
          · exact hx
          · exact hv y (by simp [hy])
    · rcases List.mem_append.1 hy with hy | hy
      · exact hus y hy
      · exact h1 y hy
  · rcases List.mem_append.1 hy with hy | hy
    · exact hus y hy
    · rcases List.mem_cons.1 hy with rfl | hy
      · exact h.asym _ _ hx
      · exact h1 y hy
theorem mergeI_past (h : Wk lt) {x : α} : ∀ {v t : List α}, Srt lt t → (∀ y ∈ v, lt x y = true) → mergeI lt (insR lt t x) v = insR lt (mergeI lt t v) x
  | [], t, _, _ => rfl
  | s :: v, t, ht, hv => by
    show mergeI lt (insR lt (insR lt t x) s) v = insR lt (mergeI lt (insR lt t s) v) x
    rw [insR_comm h ht (hv s (by simp))]
    exact mergeI_past h (insR_srt h ht) fun y hy => hv y (by simp [hy])
/-- Merging what was put in order is putting in one after the other. -/
theorem mergeI_ins (h : Wk lt) {a s : List α} {x : α} (ha : Srt lt a) (hs : Srt lt s) : mergeI lt a (insR lt s x) = insR lt (mergeI lt a s) x := by
  obtain ⟨u, v, rfl, hu, hv⟩ := insR_split h (x := x) hs
  rw [insR_all hu hv, mergeI_app, mergeI_app]
  exact mergeI_past h (mergeI_srt h ha) hv
theorem mergeI_isort (h : Wk lt) {a : List α} (ha : Srt lt a) (l : List α) : mergeI lt a (isort lt l) = mergeI lt a l := by
  have key : ∀ (r s : List α), Srt lt s → mergeI lt a (mergeI lt s r) = mergeI lt (mergeI lt a s) r := fun r => by
    induction r with
    | nil => intro s _; rfl
    | cons x r ih =>
      intro s hs
      show mergeI lt a (mergeI lt (insR lt s x) r) = mergeI lt (insR lt (mergeI lt a s) x) r
      rw [ih _ (insR_srt h hs), mergeI_ins h ha hs]
  exact key l [] List.Pairwise.nil
theorem isort_app (h : Wk lt) {l m : List α} : mergeI lt (isort lt l) (isort lt m) = isort lt (l ++ m) := by
  rw [mergeI_isort h (isort_srt h)]; exact mergeI_app.symm
/-- One element on the left. -/
theorem mergeI_one : ∀ {b c : List α} {i : Nat} {x : α}, Srt lt (c ++ b) → (∀ y ∈ c, lt x y = false) → (∀ j (hj : j < b.length), j < i → lt b[j] x = true) → (∀ j (hj : j < b.length), i ≤ j → lt b[j] x = false) → i ≤ b.length → mergeI lt (c ++ [x]) b = c ++ b.take i ++ x :: b.drop i := fun {b} => by
  intro c i x hs hc h1 h2 hi
  have sp := List.pairwise_append.1 hs
  have front : ∀ (u c : List α), Srt lt (c ++ u) → (∀ y ∈ u, lt y x = true) → mergeI lt (c ++ [x]) u = c ++ u ++ [x] := fun u => by
    induction u with
    | nil => intro c _ _; simp [mergeI]
    | cons y u ih =>
      intro c hs hu
      have e : insR lt (c ++ [x]) y = (c ++ [y]) ++ [x] := by
        rw [insR_all (fun z hz => (List.pairwise_append.1 hs).2.2 z hz y (by simp)) (fun z hz => by rw [List.mem_singleton.1 hz]; exact hu y (by simp))]
        simp
      show mergeI lt (insR lt (c ++ [x]) y) u = _
      rw [e, ih (c ++ [y]) (by simpa using hs) fun z hz => hu z (by simp [hz])]
      simp
  have back : ∀ (v t : List α), Srt lt v → (∀ y ∈ v, ∀ z ∈ t, lt y z = false) → mergeI lt t v = t ++ v := fun v => by
    induction v with
    | nil => intro t _ _; simp [mergeI]
    | cons y v ih =>
      intro t hs hv
      have e : insR lt t y = t ++ [y] := by
        have := insR_all (lt := lt) (u := t) (v := []) (x := y) (fun z hz => hv y (by simp) z hz) (by simp)
        rwa [List.append_nil] at this
      obtain ⟨g1, g2⟩ := List.pairwise_cons.1 hs
      show mergeI lt (insR lt t y) v = _
      rw [e, ih (t ++ [y]) g2 fun z hz w hw => ?_]
      · simp
      · rcases List.mem_append.1 hw with hw | hw
        · exact hv z (by simp [hz]) w hw
        · rw [List.mem_singleton.1 hw]; exact g1 z hz
  have e0 : b.take i ++ b.drop i = b := List.take_append_drop i b
  have hs2 : Srt lt (b.take i ++ b.drop i) := by rw [e0]; exact sp.2.1
  have sp2 := List.pairwise_append.1 hs2
  have m1 : ∀ y ∈ b.take i, lt y x = true := fun y hy => by
    obtain ⟨j, hj, rfl⟩ := List.getElem_of_mem hy
    rw [List.length_take] at hj
    rw [List.getElem_take]; exact h1 j (by omega) (by omega)
  have m2 : ∀ y ∈ b.drop i, lt y x = false := fun y hy => by
    obtain ⟨j, hj, rfl⟩ := List.getElem_of_mem hy
    rw [List.length_drop] at hj
    rw [List.getElem_drop]; exact h2 (i + j) (by omega) (by omega)
  conv => lhs; rw [← e0]
  rw [mergeI_app, front (b.take i) c ?_ m1, back (b.drop i) _ sp2.2.1]
  · simp
  · intro y hy z hz
    rcases List.mem_append.1 hz with hz | hz
    · rcases List.mem_append.1 hz with hz | hz
      · exact sp.2.2 z hz y (List.mem_of_mem_drop hy)
      · exact sp2.2.2 z hz y hy
    · rw [List.mem_singleton.1 hz]; exact m2 y hy
  · refine List.pairwise_append.2 ⟨sp.1, sp2.1, fun z hz y hy => sp.2.2 z hz y (List.mem_of_mem_take hy)⟩
theorem mergeI_single {b : List α} {i : Nat} {x : α} (hs : Srt lt b) (h1 : ∀ j (hj : j < b.length), j < i → lt b[j] x = true) (h2 : ∀ j (hj : j < b.length), i ≤ j → lt b[j] x = false) (hi : i ≤ b.length) : mergeI lt [x] b = b.take i ++ x :: b.drop i :=
  mergeI_one (c := []) hs (by simp) h1 h2 hi
/-- One element on the right. -/
theorem mergeI_last {a : List α} {i : Nat} {x : α} (h1 : ∀ j (hj : j < a.length), j < i → lt x a[j] = false) (h2 : ∀ j (hj : j < a.length), i ≤ j → lt x a[j] = true) (hi : i ≤ a.length) : mergeI lt a [x] = a.take i ++ x :: a.drop i := by
  show insR lt a x = _
  conv => lhs; rw [← List.take_append_drop i a]
  refine insR_all (fun y hy => ?_) fun y hy => ?_
  · obtain ⟨j, hj, rfl⟩ := List.getElem_of_mem hy
    rw [List.length_take] at hj
    rw [List.getElem_take]; exact h1 j (by omega) (by omega)
  · obtain ⟨j, hj, rfl⟩ := List.getElem_of_mem hy
    rw [List.length_drop] at hj
    rw [List.getElem_drop]; exact h2 (i + j) (by omega) (by omega)
/-- Two ranges, each in two parts. -/
theorem mergeI_parts {a1 a2 b1 b2 : List α} (h1 : ∀ x ∈ b1, ∀ y ∈ a2, lt x y = true) (h2 : ∀ x ∈ b2, ∀ y ∈ a1, lt x y = false) (h3 : ∀ x ∈ b2, ∀ y ∈ b1, lt x y = false) : mergeI lt (a1 ++ a2) (b1 ++ b2) = mergeI lt a1 b1 ++ mergeI lt a2 b2 := by
  have left : ∀ (t : List α) (x : α), (∀ y ∈ a2, lt x y = true) → insR lt (t ++ a2) x = insR lt t x ++ a2 := fun t x hx => by
    induction t with
    | nil =>
      cases a2 with
      | nil => rfl
      | cons y a2 => exact if_pos (hx y (by simp))
    | cons z t ih =>
      rw [List.cons_append, insR, insR]
      split
      · rfl
      · rw [ih]; rfl
  have L : ∀ (b t : List α), (∀ x ∈ b, ∀ y ∈ a2, lt x y = true) → mergeI lt (t ++ a2) b = mergeI lt t b ++ a2 := fun b => by
    induction b with
    | nil => intro t _; rfl
    | cons x b ih =>
      intro t hb
      show mergeI lt (insR lt (t ++ a2) x) b = mergeI lt (insR lt t x) b ++ a2
      rw [left t x (hb x (by simp)), ih _ fun z hz => hb z (by simp [hz])]
  have right : ∀ (t u : List α) (x : α), (∀ y ∈ t, lt x y = false) → insR lt (t ++ u) x = t ++ insR lt u x := fun t u x hx => by
    induction t with
    | nil => rfl
    | cons z t ih =>
      rw [List.cons_append, insR, if_neg (by rw [hx z (by simp)]; simp), ih fun y hy => hx y (by simp [hy])]; rfl
  have R : ∀ (b t u : List α), (∀ x ∈ b, ∀ y ∈ t, lt x y = false) → mergeI lt (t ++ u) b = t ++ mergeI lt u b := fun b => by
    induction b with
    | nil => intro t u _; rfl
    | cons x b ih =>
      intro t u hb
      show mergeI lt (insR lt (t ++ u) x) b = t ++ mergeI lt (insR lt u x) b
      rw [right t u x (hb x (by simp)), ih t _ fun z hz => hb z (by simp [hz])]
  rw [mergeI_app, L b1 a1 h1, R b2 _ a2 fun x hx y hy => ?_]
  rcases mergeI_mem.1 hy with hy | hy
  · exact h2 x hx y hy
  · exact h3 x hx y hy
theorem Srt.left {a b : List α} (h : Srt lt (a ++ b)) : Srt lt a := (List.pairwise_append.1 h).1
theorem Srt.right {a b : List α} (h : Srt lt (a ++ b)) : Srt lt b := (List.pairwise_append.1 h).2.1
theorem Srt.get {a : List α} (h : Srt lt a) (hw : Wk lt) {i j : Nat} (hj : j < a.length) (hij : i ≤ j) : lt a[j] (a[i]'(by omega)) = false := by
  by_cases e : i = j
  · subst e; exact hw.irr _
  · exact List.pairwise_iff_getElem.1 h i j (by omega) hj (by omega)
end
end Go.Proofs.YtibhoanjglfaoaaGreat

/- Two deltas in one, in plain words. -/
namespace Go.Proofs.YtibhoanjglfaoaaGreat
open Go.RowKit
set_option linter.unusedVariables false
set_option linter.unusedSimpArgs false

def ltC (x y : Changet) : Bool := Op.bytesLess x.name.toList y.name.toList
theorem ltC_iff {x y : Changet} : ltC x y = true ↔ nlt x.name y.name := Iff.rfl
theorem ltC_no {x y : Changet} : ltC x y = false ↔ ¬ nlt x.name y.name := by
  unfold nlt ltC; simp
theorem wkC : Wk ltC where
  asym x y h := ltC_no.2 fun q => nlt_irr (nmlt_trans (ltC_iff.1 h) q)
  neg x y z h1 h2 := ltC_no.2 fun q => by
    have h1 := ltC_no.1 h1
    have h2 := ltC_no.1 h2
    by_cases e : nlt x.name y.name
    · exact h2 (nmlt_trans q e)
    · have := nlt_tri h1 e
      rw [this] at h2; exact h2 q
def cmpC (x y : Changet) : Int := if ltC x y = true then -1 else if ltC y x = true then 1 else 0
theorem cmpC_lt {x y : Changet} (h : ltC x y = true) : cmpC x y = -1 := if_pos h
theorem cmpC_gt {x y : Changet} (h : ltC x y = false) (h2 : ltC y x = true) : cmpC x y = 1 := by simp [cmpC, h, h2]
theorem cmpC_eq {x y : Changet} (h : ltC x y = false) (h2 : ltC y x = false) : cmpC x y = 0 := by simp [cmpC, h, h2]
theorem cmpC_gt' {x y : Changet} (h : ltC x y = false) (h2 : (Op.bytesLess x.name.toList y.name.toList || x.name == y.name) = false) : cmpC x y = 1 := by
  simp only [Bool.or_eq_false_iff] at h2
  refine cmpC_gt h (Classical.byContradiction fun q => ?_)
  have e := nlt_tri (ltC_no.1 h) (ltC_no.1 (by simpa using q))
  exact name_ne.1 h2.2 e
theorem cmpC_eq' {x y : Changet} (h : ltC x y = false) (h2 : (Op.bytesLess x.name.toList y.name.toList || x.name == y.name) = true) : cmpC x y = 0 := by
  have h3 : Op.bytesLess x.name.toList y.name.toList = false := h
  rw [h3, Bool.false_or] at h2
  have e := name_eq.1 h2
  refine cmpC_eq h ?_
  unfold ltC
  rw [← e]
  have : ltC x x = false := wkC.irr x
  exact this
theorem cmpC_yes {x y : Changet} (h : cmpC x y < 0) : ltC x y = true := by
  unfold cmpC at h
  cases q : ltC x y
  · rw [q] at h; simp at h; split at h <;> omega
  · rfl
theorem cmpC_no {x y : Changet} (h : 0 ≤ cmpC x y) : ltC x y = false := by
  cases q : ltC x y
  · rfl
  · rw [cmpC_lt q] at h; exact absurd h (by decide)
/-! ### Names once -/
section
variable {us : List Changet}
def onceC (us : List Changet) : Nat → List Changet
  | 0 => []
  | 1 => us.take 1
  | k + 2 => if (us.map Changet.name).getD (k + 1) ⟨#[]⟩ = (us.map Changet.name).getD k ⟨#[]⟩ then onceC us (k + 1) else onceC us (k + 1) ++ (us.drop (k + 1)).take 1
theorem onceC_len : ∀ {k : Nat}, (onceC us k).length ≤ k
  | 0 => by simp [onceC]
  | 1 => by simp [onceC]; omega
  | k + 2 => by
    have := onceC_len (k := k + 1)
    rw [onceC]; split
    · omega
    · simp; omega
theorem onceC_same {k : Nat} (h1 : 0 < k) (hk : k < us.length) (h : us[k].name = (us[k - 1]'(by omega)).name) : onceC us (k + 1) = onceC us k := by
  obtain ⟨j, rfl⟩ : ∃ j, k = j + 1 := ⟨k - 1, by omega⟩
  simp only [Nat.add_sub_cancel] at h
  rw [onceC, if_pos (by simp [List.getD, hk, show j < us.length by omega, h])]
theorem onceC_new {k : Nat} (h1 : 0 < k) (hk : k < us.length) (h : ¬ us[k].name = (us[k - 1]'(by omega)).name) : onceC us (k + 1) = onceC us k ++ [us[k]] := by
  obtain ⟨j, rfl⟩ : ∃ j, k = j + 1 := ⟨k - 1, by omega⟩
  simp only [Nat.add_sub_cancel] at h
  rw [onceC, if_neg (by simp [List.getD, hk, show j < us.length by omega, h]), List.drop_eq_getElem_cons hk]; rfl
def PlainC (us : List Changet) (k : Nat) : Prop := onceC us k = us.take k
theorem PlainC.one : PlainC us 1 := rfl
theorem PlainC.succ {k : Nat} (h : PlainC us k) (h1 : 0 < k) (hk : k < us.length) (hn : (us[k].name == (us[k - 1]'(by omega)).name) = false) : PlainC us (k + 1) := by
  unfold PlainC
  rw [onceC_new h1 hk (name_ne.1 hn), h, List.take_succ_eq_append_getElem hk]
theorem PlainC.all {k : Nat} (h : PlainC us k) (hk : us.length ≤ k) (hk2 : k ≤ us.length) : us = onceC us us.length := by
  obtain rfl : k = us.length := by omega
  rw [h, List.take_length]
theorem onceC_short (h : us.length < 2) : us = onceC us us.length := by
  match us, h with
  | [], _ => rfl
  | [a], _ => rfl
def onceA (us : List Changet) (j : Nat) : List Changet := onceC us j ++ us.drop (onceC us j).length
theorem onceA_len {j : Nat} (hj : j ≤ us.length) : (onceA us j).length = us.length := by
  have := onceC_len (us := us) (k := j)
  simp [onceA]; omega
theorem onceA_at {j i : Nat} (hj : j ≤ us.length) (hi : i < us.length) (h : (onceC us j).length ≤ i) (h' : i < (onceA us j).length) : (onceA us j)[i] = us[i] := by
  have q : (onceA us j)[i]? = us[i]? := by
    unfold onceA
    rw [List.getElem?_append_right h, List.getElem?_drop]
    congr 1; omega
  rw [List.getElem?_eq_getElem h', List.getElem?_eq_getElem hi] at q
  exact Option.some.inj q
theorem onceC_dup {k : Nat} (h : PlainC us k) (h1 : 0 < k) (hk : k < us.length) (hs : (us[k].name == (us[k - 1]'(by omega)).name) = true) : (onceC us (k + 1)).length = k ∧ us = onceA us (k + 1) := by
  have e : onceC us (k + 1) = us.take k := by rw [onceC_same h1 hk (name_eq.1 hs), h]
  have el : (onceC us (k + 1)).length = k := by rw [e]; simp; omega
  refine ⟨el, ?_⟩
  unfold onceA
  rw [el, e, List.take_append_drop]
theorem onceC_skip {j : Nat} (h1 : 0 < j) (hj : j < us.length) (hs : (us[j].name == (us[j - 1]'(by omega)).name) = true) : onceC us (j + 1) = onceC us j := onceC_same h1 hj (name_eq.1 hs)
theorem onceA_put {j : Nat} (h1 : 0 < j) (hj : j < us.length) (hl : (onceC us j).length < j) (hs : (us[j].name == (us[j - 1]'(by omega)).name) = false) (h' : j < (onceA us j).length) : (onceA us j).set (onceC us j).length ((onceA us j)[j]) = onceA us (j + 1) ∧ (onceC us (j + 1)).length = (onceC us j).length + 1 := by
  have e := onceC_new h1 hj (name_ne.1 hs)
  have e2 := onceA_at (Nat.le_of_lt hj) hj (by omega) h'
  refine ⟨?_, by rw [e]; simp⟩
  rw [e2]
  unfold onceA
  rw [e, List.set_append_right _ _ (Nat.le_refl _), Nat.sub_self, List.drop_eq_getElem_cons (l := us) (i := (onceC us j).length) (by omega), List.set_cons_zero, List.length_append, List.length_singleton, List.append_assoc]
  rfl
theorem onceA_end {j : Nat} (hj : us.length ≤ j) (hj2 : j ≤ us.length) {z : Changet} {n : Nat} : ((onceA us j).take (onceC us j).length ++ List.replicate n z).take (onceC us j).length = onceC us us.length := by
  obtain rfl : j = us.length := by omega
  unfold onceA
  rw [List.take_left' rfl, List.take_left' rfl]
theorem onceC_facts (hs : Srt ltC us) : ∀ k, k + 1 ≤ us.length → (onceC us (k + 1)).Pairwise (fun a b => nlt a.name b.name) ∧ (∀ x ∈ onceC us (k + 1), x ∈ us) ∧ (∀ j (hj : j < us.length), j ≤ k → ∃ x ∈ onceC us (k + 1), x.name = us[j].name) ∧ ∀ x ∈ onceC us (k + 1), x.name = (us.map Changet.name).getD k ⟨#[]⟩ ∨ nlt x.name ((us.map Changet.name).getD k ⟨#[]⟩)
  | 0, hk => by
    have e : onceC us 1 = [us[0]'(by omega)] := by
      show us.take 1 = _
      have := List.take_succ_eq_append_getElem (l := us) (i := 0) (by omega)
      simpa using this
    rw [e]
    refine ⟨List.pairwise_singleton _ _, fun x hx => ?_, fun j hj h0 => ?_, fun x hx => ?_⟩
    · rw [List.mem_singleton.1 hx]; exact List.getElem_mem _
    · obtain rfl : j = 0 := by omega
      exact ⟨_, List.mem_singleton_self _, rfl⟩
    · rw [List.mem_singleton.1 hx]; left
      simp [List.getD, show 0 < us.length by omega]
  | k + 1, hk => by
    obtain ⟨i1, i2, i3, i4⟩ := onceC_facts hs k (by omega)
    have g1 : (us.map Changet.name).getD (k + 1) ⟨#[]⟩ = (us[k + 1]'(by omega)).name := by simp [List.getD, show k + 1 < us.length by omega]
    have g0 : (us.map Changet.name).getD k ⟨#[]⟩ = (us[k]'(by omega)).name := by simp [List.getD, show k < us.length by omega]
    have ord : ¬ nlt (us[k + 1]'(by omega)).name (us[k]'(by omega)).name := ltC_no.1 (hs.get wkC (i := k) (j := k + 1) (by omega) (by omega))
    rw [g0] at i4
    rw [g1]
    by_cases e : (us[k + 1]'(by omega)).name = (us[k]'(by omega)).name
    · rw [onceC_same (k := k + 1) (by omega) (by omega) e]
      refine ⟨i1, i2, fun j hj hjk => ?_, fun x hx => by rw [e]; exact i4 x hx⟩
      by_cases q : j = k + 1
      · subst q
        obtain ⟨x, hx, e2⟩ := i3 k (by omega) (by omega)
        exact ⟨x, hx, by rw [e2, e]⟩
      · exact i3 j hj (by omega)
    · have lt1 : nlt (us[k]'(by omega)).name (us[k + 1]'(by omega)).name := Classical.byContradiction fun q => e (nlt_tri ord q)
      have below : ∀ x ∈ onceC us (k + 1), nlt x.name (us[k + 1]'(by omega)).name := fun x hx => by
        rcases i4 x hx with q | q
        · rw [q]; exact lt1
        · exact nmlt_trans q lt1
      rw [onceC_new (k := k + 1) (by omega) (by omega) e]
      refine ⟨List.pairwise_append.2 ⟨i1, List.pairwise_singleton _ _, fun x hx y hy => by rw [List.mem_singleton.1 hy]; exact below x hx⟩, fun x hx => ?_, fun j hj hjk => ?_, fun x hx => ?_⟩
      · rcases List.mem_append.1 hx with hx | hx
        · exact i2 x hx
        · rw [List.mem_singleton.1 hx]; exact List.getElem_mem _
      · by_cases q : j = k + 1
        · subst q; exact ⟨_, List.mem_append_right _ (List.mem_singleton_self _), rfl⟩
        · obtain ⟨x, hx, e2⟩ := i3 j hj (by omega)
          exact ⟨x, List.mem_append_left _ hx, e2⟩
      · rcases List.mem_append.1 hx with hx | hx
        · exact .inr (below x hx)
        · rw [List.mem_singleton.1 hx]; exact .inl rfl
end
/-- The changes whose names are gone over. -/
def thenAll (a b : Deltat) : List Changet := onceC (isort ltC (a.changes ++ b.changes)) (isort ltC (a.changes ++ b.changes)).length
theorem thenAll_facts (a b : Deltat) : (thenAll a b).Pairwise (fun x y => nlt x.name y.name) ∧ (∀ x ∈ thenAll a b, x ∈ a.changes ∨ x ∈ b.changes) ∧ ∀ c, c ∈ a.changes ∨ c ∈ b.changes → ∃ x ∈ thenAll a b, x.name = c.name := by
  have hs : Srt ltC (isort ltC (a.changes ++ b.changes)) := isort_srt wkC
  have hp : ∀ x, x ∈ isort ltC (a.changes ++ b.changes) ↔ x ∈ a.changes ∨ x ∈ b.changes := fun x => by rw [isort_perm.mem_iff, List.mem_append]
  unfold thenAll
  generalize isort ltC (a.changes ++ b.changes) = us at *
  cases hu : us.length with
  | zero =>
    have : us = [] := List.eq_nil_of_length_eq_zero hu
    subst this
    refine ⟨List.Pairwise.nil, fun x hx => (by cases hx), fun c hc => ?_⟩
    have := (hp c).2 hc
    cases this
  | succ k =>
    obtain ⟨i1, i2, i3, _⟩ := onceC_facts hs k (by omega)
    refine ⟨i1, fun x hx => (hp x).1 (i2 x hx), fun c hc => ?_⟩
    obtain ⟨j, hj, e⟩ := List.getElem_of_mem ((hp c).2 hc)
    obtain ⟨x, hx, e2⟩ := i3 j hj (by omega)
    exact ⟨x, hx, by rw [e2, e]⟩
theorem thenAll_len (a b : Deltat) : (thenAll a b).length ≤ a.changes.length + b.changes.length := by
  unfold thenAll
  refine Nat.le_trans onceC_len ?_
  rw [isort_len, List.length_append]; exact Nat.le_refl _
/-! ### One change out of two -/
def changeOf (d : Deltat) (n : ByteArray) (ar : Int) : Changet := match d.changes.find? (fun c => c.name == n) with | some c => c | none => ⟨n, ⟨ar, []⟩, ⟨ar, []⟩⟩
theorem changeOf_at {d : Deltat} {n : ByteArray} {ar : Int} {k : Nat} (hk : k < d.changes.length) (h : NoneTo (fun c => c.name == n) d.changes k) (hp : (d.changes[k].name == n) = true) : changeOf d n ar = d.changes[k] := by
  unfold changeOf; rw [find_at hk h hp]
theorem changeOf_none {d : Deltat} {n : ByteArray} {ar : Int} {k : Nat} (h : NoneTo (fun c => c.name == n) d.changes k) (hk : d.changes.length ≤ k) : changeOf d n ar = ⟨n, ⟨ar, []⟩, ⟨ar, []⟩⟩ := by
  unfold changeOf; rw [find_none h hk]
theorem changeOf_cases (d : Deltat) (n : ByteArray) (ar : Int) : (changeOf d n ar ∈ d.changes ∧ (changeOf d n ar).name = n ∧ ∀ ar', changeOf d n ar' = changeOf d n ar) ∨ ((∀ c ∈ d.changes, c.name ≠ n) ∧ changeOf d n ar = ⟨n, ⟨ar, []⟩, ⟨ar, []⟩⟩) := by
  unfold changeOf
  cases h : d.changes.find? (fun c => c.name == n) with
  | none => exact .inr ⟨fun c hc => name_ne.1 (by have := List.find?_eq_none.1 h c hc; simpa using this), rfl⟩
  | some c => exact .inl ⟨List.mem_of_find?_eq_some h, name_eq.1 (by have := List.find?_some h; simpa using this), fun _ => rfl⟩
def keepOf (p m : Relt) : List (List Val) := p.rows.filter fun row => !hasRow m.rows row
def sumOk (x y : Changet) : Bool := decide (x.plus.arity = y.plus.arity) && (apart x.plus y.plus && apart x.minus y.minus)
def plusOf (x y : Changet) : List (List Val) := keepOf x.plus y.minus ++ keepOf y.plus x.minus
def lessOf (x y : Changet) : List (List Val) := keepOf x.minus y.plus ++ keepOf y.minus x.plus
def sumOf (n : ByteArray) (x y : Changet) : Changet := ⟨n, ⟨x.plus.arity, sortRows (plusOf x y)⟩, ⟨x.plus.arity, sortRows (lessOf x y)⟩⟩
def okAt (a b : Deltat) (n : ByteArray) (ar : Int) : Bool := sumOk (changeOf a n ar) (changeOf b n ar)
def sumAt (a b : Deltat) (n : ByteArray) (ar : Int) : Changet := sumOf n (changeOf a n ar) (changeOf b n ar)
def thenSums (a b : Deltat) : List Changet := (thenAll a b).map fun c => sumAt a b c.name c.plus.arity
def deltaThen (a b : Deltat) : Deltat × Bool :=
  if (deltaOk a && (deltaOk b && (((thenAll a b).all fun c => okAt a b c.name c.plus.arity) && deltaOk ⟨(thenSums a b).filter someRows⟩))) = true then (⟨(thenSums a b).filter someRows⟩, true) else (⟨[]⟩, false)
theorem then_a {a b : Deltat} (h : deltaOk a = false) : deltaThen a b = (⟨[]⟩, false) := by simp [deltaThen, h]
theorem then_b {a b : Deltat} (h : deltaOk b = false) : deltaThen a b = (⟨[]⟩, false) := by simp [deltaThen, h]
theorem then_bad {a b : Deltat} {k : Nat} (hk : k < (thenAll a b).length) (h : okAt a b (thenAll a b)[k].name (thenAll a b)[k].plus.arity = false) : deltaThen a b = (⟨[]⟩, false) := by
  have : ((thenAll a b).all fun c => okAt a b c.name c.plus.arity) = false := by
    rw [List.all_eq_false]; exact ⟨_, List.getElem_mem hk, by rw [h]; simp⟩
  simp [deltaThen, this]
theorem then_not {a b : Deltat} (h : deltaOk ⟨(thenSums a b).filter someRows⟩ = false) : deltaThen a b = (⟨[]⟩, false) := by simp [deltaThen, h]
theorem then_ok {a b : Deltat} (h1 : deltaOk a = true) (h2 : deltaOk b = true) (h3 : ∀ k (hk : k < (thenAll a b).length), okAt a b (thenAll a b)[k].name (thenAll a b)[k].plus.arity = true) (h4 : deltaOk ⟨(thenSums a b).filter someRows⟩ = true) : deltaThen a b = (⟨(thenSums a b).filter someRows⟩, true) := by
  have : ((thenAll a b).all fun c => okAt a b c.name c.plus.arity) = true := by
    rw [List.all_eq_true]
    intro c hc
    obtain ⟨k, hk, rfl⟩ := List.getElem_of_mem hc
    exact h3 k hk
  simp [deltaThen, h1, h2, this, h4]
theorem sumOk_ar {x y : Changet} (h : ¬ x.plus.arity = y.plus.arity) : sumOk x y = false := by simp [sumOk, h]
theorem sumOk_p {x y : Changet} (h : apart x.plus y.plus = false) : sumOk x y = false := by simp [sumOk, h]
theorem sumOk_m {x y : Changet} (h : apart x.minus y.minus = false) : sumOk x y = false := by simp [sumOk, h]
theorem sumOk_yes {x y : Changet} (h1 : x.plus.arity = y.plus.arity) (h2 : apart x.plus y.plus = true) (h3 : apart x.minus y.minus = true) : sumOk x y = true := by simp [sumOk, h1, h2, h3]
theorem change_at {d : Deltat} (h : deltaOk d = true) {c : Changet} (hc : c ∈ d.changes) : wordB c.name = true ∧ two c.plus c.minus = true := by
  obtain ⟨k, hk, rfl⟩ := List.getElem_of_mem hc
  refine ⟨?_, deltaOk_two h hk⟩
  simp only [deltaOk, Bool.and_eq_true] at h
  have := everyB_get h.1 hk
  simp only [changeAt, Bool.and_eq_true] at this
  exact this.1
/-- A relation that is too big makes the delta wrong. -/
theorem then_big {a b : Deltat} {k : Nat} (hk : k < (thenAll a b).length) (h : 300 < (sortRows (plusOf (changeOf a (thenAll a b)[k].name (thenAll a b)[k].plus.arity) (changeOf b (thenAll a b)[k].name (thenAll a b)[k].plus.arity))).length ∨ 300 < (sortRows (lessOf (changeOf a (thenAll a b)[k].name (thenAll a b)[k].plus.arity) (changeOf b (thenAll a b)[k].name (thenAll a b)[k].plus.arity))).length) :
    deltaThen a b = (⟨[]⟩, false) := by
  apply then_not
  cases q : deltaOk ⟨(thenSums a b).filter someRows⟩
  · rfl
  · exfalso
    have hm : sumAt a b (thenAll a b)[k].name (thenAll a b)[k].plus.arity ∈ (thenSums a b).filter someRows := by
      refine List.mem_filter.2 ⟨List.mem_map.2 ⟨_, List.getElem_mem hk, rfl⟩, ?_⟩
      have h0 : 0 < (sumAt a b (thenAll a b)[k].name (thenAll a b)[k].plus.arity).plus.rows.length + (sumAt a b (thenAll a b)[k].name (thenAll a b)[k].plus.arity).minus.rows.length := by
        simp only [sumAt, sumOf]; omega
      exact decide_eq_true h0
    have := (change_at q hm).2
    have p := (relOk_parts (two_left this)).2.2.2
    have m := (relOk_parts (two_right this)).2.2.2
    simp only [sumAt, sumOf] at p m
    omega
/-! ### Sizes -/
def smallCh (c : Changet) : Prop := c.plus.rows.length ≤ 300 ∧ c.minus.rows.length ≤ 300 ∧ Sorted c.plus.rows ∧ Sorted c.minus.rows
theorem changeOf_in {d : Deltat} (h : deltaOk d = true) (n : ByteArray) (ar : Int) : smallCh (changeOf d n ar) := by
  rcases changeOf_cases d n ar with ⟨h1, _, _⟩ | ⟨_, e⟩
  · have := (change_at h h1).2
    exact ⟨(relOk_parts (two_left this)).2.2.2, (relOk_parts (two_right this)).2.2.2, relOk_sorted (two_left this), relOk_sorted (two_right this)⟩
  · rw [e]; exact ⟨Nat.zero_le _, Nat.zero_le _, Sorted.nil, Sorted.nil⟩
theorem changeOf_small {d : Deltat} (hd : smallDelta d) (n : ByteArray) (hn : n.size ≤ 1048576) (ar : Int) : smallChange (changeOf d n ar) := by
  rcases changeOf_cases d n ar with ⟨h1, _, _⟩ | ⟨_, e⟩
  · exact hd.2 _ h1
  · rw [e]; exact ⟨hn, ⟨Nat.zero_le _, fun r hr => (by cases hr)⟩, ⟨Nat.zero_le _, fun r hr => (by cases hr)⟩⟩
theorem keepOf_len (p m : Relt) : (keepOf p m).length ≤ p.rows.length := List.length_filter_le _ _
theorem keepOf_sorted {p : Relt} (h : Sorted p.rows) (m : Relt) : Sorted (keepOf p m) := Sorted.of_pw (fun r hr => h.vals r (List.mem_filter.1 hr).1) (h.pw.sublist List.filter_sublist)
theorem plusOf_len {x y : Changet} (hx : smallCh x) (hy : smallCh y) : (plusOf x y).length ≤ 600 ∧ (lessOf x y).length ≤ 600 := by
  have h1 := keepOf_len x.plus y.minus
  have h2 := keepOf_len y.plus x.minus
  have h3 := keepOf_len x.minus y.plus
  have h4 := keepOf_len y.minus x.plus
  obtain ⟨a1, a2, _⟩ := hx
  obtain ⟨b1, b2, _⟩ := hy
  unfold plusOf lessOf
  simp only [List.length_append]; omega
theorem plusOf_vals {x y : Changet} (hx : smallCh x) (hy : smallCh y) : ValsOk (plusOf x y) ∧ ValsOk (lessOf x y) := by
  constructor
  · intro r hr
    rcases List.mem_append.1 hr with q | q
    · exact hx.2.2.1.vals r (List.mem_filter.1 q).1
    · exact hy.2.2.1.vals r (List.mem_filter.1 q).1
  · intro r hr
    rcases List.mem_append.1 hr with q | q
    · exact hx.2.2.2.vals r (List.mem_filter.1 q).1
    · exact hy.2.2.2.vals r (List.mem_filter.1 q).1
theorem plusOf_small {x y : Changet} (hx : smallChange x) (hy : smallChange y) : (∀ r ∈ plusOf x y, smallRow r) ∧ ∀ r ∈ lessOf x y, smallRow r := by
  constructor
  · intro r hr
    rcases List.mem_append.1 hr with q | q
    · exact hx.2.1.2 r (List.mem_filter.1 q).1
    · exact hy.2.1.2 r (List.mem_filter.1 q).1
  · intro r hr
    rcases List.mem_append.1 hr with q | q
    · exact hx.2.2.2 r (List.mem_filter.1 q).1
    · exact hy.2.2.2 r (List.mem_filter.1 q).1
/-! ### The names of the reference -/
def nameOf (c : Changet) : Namedt := ⟨c.name, ⟨c.plus.arity, []⟩⟩
def namesTo (l : List Changet) : List Namedt := l.foldl (fun out c => setRel out (nameOf c)) []
theorem namesTo_snoc {l : List Changet} {c : Changet} : namesTo (l ++ [c]) = setRel (namesTo l) (nameOf c) := by simp [namesTo]
structure NmI (l : List Changet) (out : List Namedt) : Prop where
  sorted : SortedN out
  from_ : ∀ y ∈ out, ∃ c ∈ l, y = nameOf c
  has : ∀ c ∈ l, ∃ y ∈ out, y.name = c.name
theorem setRel_mem {rels : List Namedt} {nw y : Namedt} (hs : SortedN rels) (hy : y ∈ setRel rels nw) : y = nw ∨ y ∈ rels := by
  rw [← withRel_set hs] at hy
  unfold withRel at hy
  split at hy
  · rcases List.mem_or_eq_of_mem_set hy with q | q
    · exact .inr q
    · exact .inl q
  · rcases List.mem_append.1 hy with q | q
    · rcases List.mem_append.1 q with q | q
      · exact .inr (List.mem_of_mem_take q)
      · exact .inl (List.mem_singleton.1 q)
    · exact .inr (List.mem_of_mem_drop q)
theorem setRel_names {rels : List Namedt} {nw : Namedt} (hs : SortedN rels) : (∃ y ∈ setRel rels nw, y.name = nw.name) ∧ ∀ x ∈ rels, ∃ y ∈ setRel rels nw, y.name = x.name := by
  rw [← withRel_set hs]
  unfold withRel
  split
  · rename_i h
    have e : rels.getD (posN rels nw.name) noNamed = rels[posN rels nw.name] := by simp [List.getD, h.1]
    have hn : rels[posN rels nw.name].name = nw.name := by have := h.2; rw [e] at this; exact name_eq.1 this
    refine ⟨⟨nw, List.mem_set h.1 nw, rfl⟩, fun x hx => ?_⟩
    obtain ⟨j, hj, rfl⟩ := List.getElem_of_mem hx
    by_cases q : j = posN rels nw.name
    · subst q; exact ⟨nw, List.mem_set h.1 nw, hn.symm⟩
    · refine ⟨rels[j], ?_, rfl⟩
      refine List.mem_iff_getElem.2 ⟨j, by simpa using hj, ?_⟩
      rw [List.getElem_set_ne (Ne.symm q)]
  · refine ⟨⟨nw, by simp, rfl⟩, fun x hx => ⟨x, ?_, rfl⟩⟩
    rw [← List.take_append_drop (posN rels nw.name) rels] at hx
    rcases List.mem_append.1 hx with q | q
    · simp [q]
    · simp [q]
theorem namesTo_is : ∀ (n : Nat) (l : List Changet), l.length = n → NmI l (namesTo l)
  | 0, l, h => by
    have : l = [] := List.eq_nil_of_length_eq_zero h
    subst this
    exact ⟨fun i j hi => absurd hi (by simp [namesTo]), fun y hy => (by cases hy), fun c hc => (by cases hc)⟩
  | n + 1, l, h => by
    have hne : l ≠ [] := fun e => by subst e; simp at h
    have e := List.dropLast_concat_getLast hne
    generalize l.dropLast = m at e
    generalize l.getLast hne = c at e
    subst e
    obtain ⟨i1, i2, i3⟩ := namesTo_is n m (by simpa using h)
    rw [namesTo_snoc]
    refine ⟨by rw [← withRel_set i1]; exact withRel_sorted i1, fun y hy => ?_, fun x hx => ?_⟩
    · rcases setRel_mem i1 hy with q | q
      · exact ⟨c, by simp, q⟩
      · obtain ⟨x, hx, q⟩ := i2 y q
        exact ⟨x, by simp [hx], q⟩
    · rcases List.mem_append.1 hx with q | q
      · obtain ⟨y, hy, e⟩ := i3 x q
        obtain ⟨z, hz, e2⟩ := (setRel_names (nw := nameOf c) i1).2 y hy
        exact ⟨z, hz, by rw [e2, e]⟩
      · rw [List.mem_singleton.1 q]
        exact (setRel_names (nw := nameOf c) i1).1
theorem delta_names {d : Deltat} (h : deltaOk d = true) : d.changes.Pairwise fun x y => nlt x.name y.name := by
  simp only [deltaOk, Bool.and_eq_true] at h
  have adj : ∀ j (hj : j + 1 < d.changes.length), nlt (d.changes[j]'(by omega)).name d.changes[j + 1].name := fun j hj => by
    have := everyB_get h.1 hj
    simp only [changeAt, Bool.and_eq_true, Bool.or_eq_true, decide_eq_true_eq] at this
    rcases this.2.1 with h0 | h0
    · omega
    · exact h0
  refine List.pairwise_iff_getElem.2 fun i j hi hj hij => ?_
  obtain ⟨e, rfl⟩ : ∃ e, j = i + 1 + e := ⟨j - (i + 1), by omega⟩
  clear hij
  induction e with
  | zero => exact adj i hj
  | succ e ih => exact nmlt_trans (ih (by omega)) (adj (i + 1 + e) hj)
theorem same_change {d : Deltat} (h : deltaOk d = true) {x y : Changet} (hx : x ∈ d.changes) (hy : y ∈ d.changes) (e : x.name = y.name) : x = y := by
  have hp := delta_names h
  obtain ⟨i, hi, rfl⟩ := List.getElem_of_mem hx
  obtain ⟨j, hj, rfl⟩ := List.getElem_of_mem hy
  rcases Nat.lt_trichotomy i j with q | q | q
  · have := List.pairwise_iff_getElem.1 hp i j hi hj q
    rw [e] at this; exact (nlt_irr this).elim
  · subst q; rfl
  · have := List.pairwise_iff_getElem.1 hp j i hj hi q
    rw [e] at this; exact (nlt_irr this).elim
/-- Which arity is handed on makes no difference. -/
theorem changeOf_ar {a b : Deltat} (ha : deltaOk a = true) (hb : deltaOk b = true) {x y : Changet} (hx : x ∈ a.changes ∨ x ∈ b.changes) (hy : y ∈ a.changes ∨ y ∈ b.changes) (e : x.name = y.name) : changeOf a x.name x.plus.arity = changeOf a y.name y.plus.arity ∧ changeOf b x.name x.plus.arity = changeOf b y.name y.plus.arity := by
  rw [e]
  by_cases h1 : x.plus.arity = y.plus.arity
  · rw [h1]; exact ⟨rfl, rfl⟩
  · have notboth : ∀ {d : Deltat}, deltaOk d = true → ¬ (x ∈ d.changes ∧ y ∈ d.changes) := fun hd q => h1 (by rw [same_change hd q.1 q.2 e])
    have na := notboth ha
    have nb := notboth hb
    have ina : ∃ c ∈ a.changes, c.name = y.name := by
      rcases hx with q | q
      · exact ⟨x, q, e⟩
      · rcases hy with q2 | q2
        · exact ⟨y, q2, rfl⟩
        · exact absurd ⟨q, q2⟩ nb
    have inb : ∃ c ∈ b.changes, c.name = y.name := by
      rcases hx with q | q
      · rcases hy with q2 | q2
        · exact absurd ⟨q, q2⟩ na
        · exact ⟨y, q2, rfl⟩
      · exact ⟨x, q, e⟩
    constructor
    · rcases changeOf_cases a y.name y.plus.arity with ⟨_, _, q⟩ | ⟨q, _⟩
      · exact q _
      · obtain ⟨c, hc, e2⟩ := ina
        exact absurd e2 (q c hc)
    · rcases changeOf_cases b y.name y.plus.arity with ⟨_, _, q⟩ | ⟨q, _⟩
      · exact q _
      · obtain ⟨c, hc, e2⟩ := inb
        exact absurd e2 (q c hc)
theorem nlt_asym (x y : ByteArray) (h : nlt x y) : ¬ nlt y x := fun q => nlt_irr (nmlt_trans h q)
theorem names_eq {a b : Deltat} (ha : deltaOk a = true) (hb : deltaOk b = true) : (namesTo (a.changes ++ b.changes)).map Namedt.name = (thenAll a b).map Changet.name := by
  obtain ⟨n1, n2, n3⟩ := namesTo_is _ (a.changes ++ b.changes) rfl
  obtain ⟨t1, t2, t3⟩ := thenAll_facts a b
  refine pw_ext nlt_asym (List.pairwise_map.2 (SortedN.pw.1 n1)) (List.pairwise_map.2 t1) fun z => ?_
  constructor
  · intro hz
    obtain ⟨y, hy, rfl⟩ := List.mem_map.1 hz
    obtain ⟨c, hc, rfl⟩ := n2 y hy
    obtain ⟨x, hx, e⟩ := t3 c (List.mem_append.1 hc)
    exact List.mem_map.2 ⟨x, hx, e⟩
  · intro hz
    obtain ⟨x, hx, rfl⟩ := List.mem_map.1 hz
    obtain ⟨y, hy, e⟩ := n3 x (List.mem_append.2 (t2 x hx))
    exact List.mem_map.2 ⟨y, hy, e⟩
theorem names_length {a b : Deltat} (ha : deltaOk a = true) (hb : deltaOk b = true) : (namesTo (a.changes ++ b.changes)).length = (thenAll a b).length := by
  have := congrArg List.length (names_eq ha hb)
  simpa using this
/-- The reference's k-th name does ars the program's. -/
theorem names_at {a b : Deltat} (ha : deltaOk a = true) (hb : deltaOk b = true) {k : Nat} (hk : k < (namesTo (a.changes ++ b.changes)).length) (hk2 : k < (thenAll a b).length) :
    (namesTo (a.changes ++ b.changes))[k].name = (thenAll a b)[k].name ∧ changeOf a (namesTo (a.changes ++ b.changes))[k].name (namesTo (a.changes ++ b.changes))[k].rel.arity = changeOf a (thenAll a b)[k].name (thenAll a b)[k].plus.arity ∧ changeOf b (namesTo (a.changes ++ b.changes))[k].name (namesTo (a.changes ++ b.changes))[k].rel.arity = changeOf b (thenAll a b)[k].name (thenAll a b)[k].plus.arity := by
  have e0 := names_eq ha hb
  have e : (namesTo (a.changes ++ b.changes))[k].name = (thenAll a b)[k].name := by
    have h1 : ((namesTo (a.changes ++ b.changes)).map Namedt.name)[k]? = ((thenAll a b).map Changet.name)[k]? := by rw [e0]
    simpa [hk, hk2] using h1
  obtain ⟨n1, n2, n3⟩ := namesTo_is _ (a.changes ++ b.changes) rfl
  obtain ⟨c, hc, e2⟩ := n2 _ (List.getElem_mem hk)
  have hx := (thenAll_facts a b).2.1 _ (List.getElem_mem hk2)
  rw [e2] at e ⊢
  exact ⟨e, changeOf_ar ha hb (List.mem_append.1 hc) hx e⟩
theorem namesTo_small {l : List Changet} (h : ∀ c ∈ l, c.name.size ≤ 1048576) : ∀ y ∈ namesTo l, smallNamed y := fun y hy => by
  obtain ⟨c, hc, rfl⟩ := (namesTo_is _ l rfl).from_ y hy
  exact ⟨h c hc, Nat.zero_le _, fun r hr => (by cases hr)⟩
theorem namesTo_len : ∀ (n : Nat) (l : List Changet), l.length = n → (namesTo l).length ≤ l.length
  | 0, l, h => by
    have : l = [] := List.eq_nil_of_length_eq_zero h
    subst this; exact Nat.le_refl _
  | n + 1, l, h => by
    have hne : l ≠ [] := fun e => by subst e; simp at h
    have e := List.dropLast_concat_getLast hne
    generalize l.dropLast = m at e
    generalize l.getLast hne = c at e
    subst e
    have := namesTo_len n m (by simpa using h)
    rw [namesTo_snoc]
    have h2 := setRel_len (rels := namesTo m) (nw := nameOf c)
    simp only [List.length_append, List.length_cons, List.length_nil] at *; omega
/-! ### What parts the first from the third -/
theorem deltaThen_cnt {a b : Deltat} (ha : smallDelta a) (hb : smallDelta b) : cntDDelta (deltaThen a b).1 ≤ 1152921504606846976 := by
  unfold deltaThen
  split
  · rename_i h
    simp only [Bool.and_eq_true] at h
    obtain ⟨o1, o2, _, o4⟩ := h
    have hl : ((thenSums a b).filter someRows).length ≤ 24 := by
      have := o4
      simp only [deltaOk, Bool.and_eq_true, decide_eq_true_eq] at this
      exact this.2
    have h1 := cntL_le (c := cntChange) (M := 4000000000) (xs := (thenSums a b).filter someRows) fun c hc => by
      obtain ⟨g1, _⟩ := List.mem_filter.1 hc
      obtain ⟨x, hx, rfl⟩ := List.mem_map.1 g1
      have two := (change_at o4 hc).2
      have p1 := (relOk_parts (two_left two)).2.2.2
      have p2 := (relOk_parts (two_right two)).2.2.2
      have hn : x.name.size ≤ 1048576 := by
        rcases (thenAll_facts a b).2.1 x hx with q | q
        · exact (ha.2 x q).1
        · exact (hb.2 x q).1
      have sm := plusOf_small (changeOf_small ha x.name hn x.plus.arity) (changeOf_small hb x.name hn x.plus.arity)
      have rows : ∀ (l : List (List Val)), (∀ r ∈ l, smallRow r) → cntL cntRow l ≤ 2097152 * l.length := fun l hl => cntL_le (c := cntRow) (M := 2097152) (xs := l) fun row hrow => by
        have h3 := cntL_le (c := cntValue) (M := 2) (xs := row) fun v _ => by simp [cntValue]
        have := (hl row hrow).1
        unfold cntRow; omega
      have r1 := rows (sortRows (plusOf (changeOf a x.name x.plus.arity) (changeOf b x.name x.plus.arity))) fun r hr => sm.1 r (sortRows_mem.1 hr)
      have r2 := rows (sortRows (lessOf (changeOf a x.name x.plus.arity) (changeOf b x.name x.plus.arity))) fun r hr => sm.2 r (sortRows_mem.1 hr)
      simp only [sumAt, sumOf] at p1 p2
      simp only [cntChange, sumAt, sumOf]
      omega
    have h2 : cntL cntChange ((thenSums a b).filter someRows) ≤ 1152921504606846976 := by omega
    exact h2
  · simp [cntDDelta, cntL]
/-! ### For the walks -/
theorem delta_max {d : Deltat} (h : deltaOk d = true) : d.changes.length ≤ 24 := by
  simp only [deltaOk, Bool.and_eq_true, decide_eq_true_eq] at h
  exact h.2
theorem then_name {a b : Deltat} (ha : smallDelta a) (hb : smallDelta b) {k : Nat} (hk : k < (thenAll a b).length) : (thenAll a b)[k].name.size ≤ 1048576 := by
  rcases (thenAll_facts a b).2.1 _ (List.getElem_mem hk) with q | q
  · exact (ha.2 _ q).1
  · exact (hb.2 _ q).1
def ThenTo (a b : Deltat) (k : Nat) : Prop := ∀ j (hj : j < (thenAll a b).length), j < k → okAt a b (thenAll a b)[j].name (thenAll a b)[j].plus.arity = true
theorem ThenTo.zero {a b : Deltat} : ThenTo a b 0 := fun j _ h => by omega
theorem ThenTo.succ {a b : Deltat} {k : Nat} (h : ThenTo a b k) (hk : k < (thenAll a b).length) (ho : okAt a b (thenAll a b)[k].name (thenAll a b)[k].plus.arity = true) : ThenTo a b (k + 1) := fun j hj hjk => by
  by_cases e : j = k
  · subst e; exact ho
  · exact h j hj (by omega)
theorem thenSums_len {a b : Deltat} : (thenSums a b).length = (thenAll a b).length := by simp [thenSums]
theorem sums_yes {a b : Deltat} {k : Nat} {c : Changet} (hk : k < (thenAll a b).length) (hc : c = sumAt a b (thenAll a b)[k].name (thenAll a b)[k].plus.arity) (h : 0 < c.plus.rows.length + c.minus.rows.length) : filtTo someRows (thenSums a b) k ++ [c] = filtTo someRows (thenSums a b) (k + 1) := by
  have e : (thenSums a b)[k]'(by rw [thenSums_len]; exact hk) = c := by rw [hc]; simp [thenSums]
  have := filtTo_yes (p := someRows) (rows := thenSums a b) (k := k) (by rw [thenSums_len]; exact hk) (by rw [e]; exact decide_eq_true h)
  rwa [e] at this
theorem sums_no {a b : Deltat} {k : Nat} {c : Changet} (hk : k < (thenAll a b).length) (hc : c = sumAt a b (thenAll a b)[k].name (thenAll a b)[k].plus.arity) (h : c.plus.rows.length + c.minus.rows.length = 0) : filtTo someRows (thenSums a b) k = filtTo someRows (thenSums a b) (k + 1) := by
  have e : (thenSums a b)[k]'(by rw [thenSums_len]; exact hk) = c := by rw [hc]; simp [thenSums]
  exact filtTo_no (by rw [thenSums_len]; exact hk) (by rw [e]; exact decide_eq_false (by omega))
theorem sums_all {a b : Deltat} {k : Nat} (hk : (thenAll a b).length ≤ k) : filtTo someRows (thenSums a b) k = (thenSums a b).filter someRows := filtTo_all (by rw [thenSums_len]; exact hk)
theorem rel_parts {ar : Int} {rows : List (List Val)} (h : (relOf ar rows).2 = true) : (relOf ar rows).1 = ⟨ar, sortRows rows⟩ := by rw [(relOf_true h).1]
theorem sum_is {n : ByteArray} {x y : Changet} (h1 : (relOf x.plus.arity (plusOf x y)).2 = true) (h2 : (relOf x.plus.arity (lessOf x y)).2 = true) : (⟨n, (relOf x.plus.arity (plusOf x y)).1, (relOf x.plus.arity (lessOf x y)).1⟩ : Changet) = sumOf n x y := by
  rw [rel_parts h1, rel_parts h2]; rfl
theorem changeOf_arity {d : Deltat} (h : deltaOk d = true) (n : ByteArray) (ar : Int) : (changeOf d n ar).minus.arity = (changeOf d n ar).plus.arity := by
  rcases changeOf_cases d n ar with ⟨q, _, _⟩ | ⟨_, e⟩
  · exact (two_arity (change_at h q).2).symm
  · rw [e]
theorem sums_small {a b : Deltat} (ha : smallDelta a) (hb : smallDelta b) (hA : deltaOk a = true) (hB : deltaOk b = true) : smallDelta ⟨(thenSums a b).filter someRows⟩ := by
  have l1 := delta_max hA
  have l2 := delta_max hB
  have l3 := thenAll_len a b
  have l4 := List.length_filter_le someRows (thenSums a b)
  rw [thenSums_len] at l4
  refine ⟨by dsimp only; omega, fun c hc => ?_⟩
  obtain ⟨g1, _⟩ := List.mem_filter.1 hc
  obtain ⟨x, hx, rfl⟩ := List.mem_map.1 g1
  have hn : x.name.size ≤ 1048576 := by
    rcases (thenAll_facts a b).2.1 x hx with q | q
    · exact (ha.2 x q).1
    · exact (hb.2 x q).1
  have sx := changeOf_small ha x.name hn x.plus.arity
  have sy := changeOf_small hb x.name hn x.plus.arity
  have cx := changeOf_in hA x.name x.plus.arity
  have cy := changeOf_in hB x.name x.plus.arity
  have hp := plusOf_small sx sy
  have hl := plusOf_len cx cy
  exact ⟨hn, sortRows_small (by omega) hp.1, sortRows_small (by omega) hp.2⟩
theorem cnt_sum {x y : Changet} (hx : smallCh x) (hy : smallCh y) : (sortRows (plusOf x y)).length ≤ 600 ∧ (sortRows (lessOf x y)).length ≤ 600 := by
  have h1 := plusOf_len hx hy
  have h2 := sortRows_len (rows := plusOf x y)
  have h3 := sortRows_len (rows := lessOf x y)
  omega
theorem rel_len {ar : Int} {rows : List (List Val)} : (relOf ar rows).1.rows.length ≤ 300 := by
  cases h : (relOf ar rows).2
  · rw [relOf_big (relOf_false h)]; simp
  · have := relOf_true h
    rw [this.1]; exact this.2
theorem keepOf_small {p m : Relt} (h : smallRel p) : smallRel ⟨p.arity, keepOf p m⟩ := ⟨Nat.le_trans (List.length_filter_le _ _) h.1, fun r hr => h.2 r (List.mem_filter.1 hr).1⟩
theorem names_more {l : List Changet} {k : Nat} (hk : k < l.length) : setRel (namesTo (l.take k)) ⟨l[k].name, ⟨l[k].plus.arity, []⟩⟩ = namesTo (l.take (k + 1)) := by
  rw [List.take_succ_eq_append_getElem hk, namesTo_snoc]; rfl
theorem names_le {a b : Deltat} (k : Nat) (h : (a.changes ++ b.changes).length ≤ 48) : (namesTo ((a.changes ++ b.changes).take k)).length ≤ 1048575 := by
  have h1 := namesTo_len _ ((a.changes ++ b.changes).take k) rfl
  have h2 := List.length_take_le k (a.changes ++ b.changes)
  rw [List.length_take] at *; omega
theorem names_sm {a b : Deltat} (ha : smallDelta a) (hb : smallDelta b) (k : Nat) : ∀ y ∈ namesTo ((a.changes ++ b.changes).take k), smallNamed y := namesTo_small fun c hc => by
  rcases List.mem_append.1 (List.mem_of_mem_take hc) with q | q
  · exact (ha.2 c q).1
  · exact (hb.2 c q).1
theorem smallNil (ar : Int) : smallRel ⟨ar, []⟩ := ⟨Nat.zero_le _, fun r hr => (by cases hr)⟩
theorem sum_le {a b : Relt} (hl : a.rows.length + b.rows.length ≤ 1048575) (k : Nat) : ((b.rows.take k).foldl putRow a.rows).length ≤ 1048575 := by
  have := (puts_len (rows := b.rows.take k) (acc := a.rows)).2
  simp only [List.length_take] at *; omega
theorem sum_mem {a b : Relt} (ha : smallRel a) (hb : smallRel b) (k : Nat) : ∀ r ∈ (b.rows.take k).foldl putRow a.rows, r.length ≤ 1048576 := fun r hr => by
  rcases puts_mem.1 hr with h | h
  · exact (ha.2 r h).1
  · exact (hb.2 r (List.mem_of_mem_take h)).1
theorem sum_sorted {a b : Relt} (hs : Sorted a.rows) (hv : ValsOk b.rows) (k : Nat) : Sorted ((b.rows.take k).foldl putRow a.rows) := puts_sorted hs fun r hr => hv r (List.mem_of_mem_take hr)
theorem sum_all {a b : Relt} {k : Nat} (hs : Sorted a.rows) (hv : ValsOk b.rows) (hk : b.rows.length ≤ k) : (b.rows.take k).foldl putRow a.rows = sortRows (a.rows ++ b.rows) := by
  rw [List.take_of_length_le hk, puts_eq hs hv]
theorem spec_is {n m : ByteArray} {x y : Changet} (e : n = m) (hx : x.minus.arity = x.plus.arity) : (⟨n, ⟨x.plus.arity, sortRows (keepOf x.plus y.minus ++ keepOf y.plus x.minus)⟩, ⟨x.minus.arity, sortRows (keepOf x.minus y.plus ++ keepOf y.minus x.plus)⟩⟩ : Changet) = sumOf m x y := by
  rw [hx, e]; rfl
def zeroCh : Changet := ⟨⟨#[]⟩, ⟨0, []⟩, ⟨0, []⟩⟩
theorem zeroCh_rep (w : World) : changeE.rep w [.string ⟨#[]⟩, .int .i64 0, .slice none 0 0, .int .i64 0, .slice none 0 0] zeroCh [] := by
  have h0 : ∀ {α : Type} (e : Enc α), SliceRep e w none 0 0 [] [] := fun e => ⟨rfl, Nat.le_refl _, Nat.zero_le _, fun _ => rfl, .inl ⟨rfl, rfl⟩⟩
  exact Change_rep.2 ⟨none, 0, 0, [], none, 0, 0, [], rfl, Nat.zero_le _, wf64i (by decide) (by decide), h0 _, wf64i (by decide) (by decide), h0 _, rfl⟩
end Go.Proofs.YtibhoanjglfaoaaGreat

/- Operations whose new array is at once given up to be read alone. -/
namespace Go.Proofs.YtibhoanjglfaoaaGreat
open Go.RowKit
set_option linter.unusedVariables false

theorem above : ∀ L : List Nat, ∃ k, ∀ i ∈ L, i < k
  | [] => ⟨0, fun i h => by cases h⟩
  | a :: L => by
    obtain ⟨k, hk⟩ := above L
    refine ⟨max (a + 1) k, fun i hi => ?_⟩
    rcases List.mem_cons.1 hi with rfl | hi
    · omega
    · have := hk i hi; omega
section
variable {g g' : Gh} {l l' : Locs} {w w' : World}
theorem okK.congr {l2 : Locs} (h : ∀ j, lkl l' j = lkl l2 j) {k : Nat} (hk : okK g l g' l' k) : okK g l g' l2 k :=
  ⟨fun cs hc => hk.1 cs (by rw [h]; exact hc), fun α T e xs d hc => hk.2 α T e xs d (by rw [h]; exact hc)⟩
theorem okK.back {l2 : Locs} (h : ∀ j, lkl l j = lkl l2 j) {k : Nat} : okK g l g l2 k := okK.same (h k).symm rfl rfl
theorem MemR.congr (h : ∀ j, lkl l j = lkl l' j) (m : MemR g l w) : MemR g l' w := by
  refine ⟨m.ilt, fun k cs hc => ?_, fun k α T e xs d hc => m.arr k _ _ _ _ _ (by rw [h]; exact hc), fun j k b b' hjk h1 h2 => m.dis j k _ _ hjk (by rw [h]; exact h1) (by rw [h]; exact h2), fun k α T e xs hc => m.fr k _ _ _ _ (by rw [h]; exact hc), fun j k α β T U e f xs ys hjk h1 h2 => m.fd j k _ _ _ _ _ _ _ _ hjk (by rw [h]; exact h1) (by rw [h]; exact h2)⟩
  obtain ⟨vs, t, h1, h2, h3⟩ := m.box k cs (by rw [h]; exact hc)
  exact ⟨vs, t, h1, h2.mono fun a c _ hr => CellR.step (fun _ _ => rfl) (fun _ h => h) (Nat.le_refl _) (fun i _ => okK.back h) hr, h3⟩
theorem VR.congr (h : ∀ j, lkl l j = lkl l' j) {v : Value} {x : AVal} (hv : VR g l w v x) : VR g l' w v x := hv.step (fun _ _ => rfl) (fun _ h => h) (Nat.le_refl _) (fun i _ => okK.back h)
theorem OwnB.congr (h : ∀ j, lkl l j = lkl l' j) {b : Nat} (hb : OwnB g l b) : OwnB g l' b := by
  obtain ⟨k, blk, h1, h2⟩ := hb
  exact ⟨k, blk, by rw [← h]; exact h1, h2⟩
end
theorem OpOK.frz {P : Program} {N d : Nat} {o : Oper} {rt : List (Nat × AVal)} {rl : List (Nat × Blk)} {α : Type} {T : TypeId} {e : Enc α} {xs : List α} {dp : Bool} {L : List Nat}
    (h : ∀ k, (∀ i ∈ L, i < k) → OpOK P N o ⟨rt, rl, [(d, .one (.own k))], [(k, some (.arr T e xs dp))], [k]⟩) : OpOK P N o ⟨rt, rl, [(d, .one (.sl e xs))], [], []⟩ := fun K g s a w hp r => by
  obtain ⟨k, hk⟩ := above (L ++ (keys s.l ++ s.ids))
  have hkl : lk s.l k = none := by
    cases hq : lk s.l k with
    | none => rfl
    | some y =>
      have h1 : k ∈ keys s.l := List.mem_map.2 ⟨_, lk_mem hq, rfl⟩
      have := hk k (List.mem_append_right _ (List.mem_append_left _ h1))
      omega
  have hki : k ∉ s.ids := fun hm => by
    have := hk k (List.mem_append_right _ (List.mem_append_right _ hm))
    omega
  have hkk : lkl s.l k = none := by unfold lkl; rw [hkl]
  have h1 := h k (fun i hi => hk i (List.mem_append_left _ hi)) K g s a w ⟨hp.1, hp.2.1, fun j hj => by simp at hj; subst hj; exact ⟨hkl, hki⟩⟩ r
  refine Oper.wp_mono ?_ h1
  rintro a' w' ⟨g', r', st⟩
  have hu : (Cert.upd ⟨rt, rl, [(d, .one (.own k))], [(k, some (.arr T e xs dp))], [k]⟩ s) = ⟨(d, .one (.own k)) :: s.t, (k, some (.arr T e xs dp)) :: s.l⟩ := rfl
  rw [hu] at r' st
  have hka : lkl ((k, some (Blk.arr T e xs dp)) :: s.l) k = some (.arr T e xs dp) := lkl_cons_self
  obtain ⟨m1, st1, c1, ok1⟩ := shut_mem r'.mem hka
  have T2 := Step.trans r.mem r'.mem st (st1 K)
  have hl : ∀ j, lkl ((k, none) :: (k, some (Blk.arr T e xs dp)) :: s.l) j = lkl s.l j := fun j => by
    by_cases q : k = j
    · subst q; rw [lkl_cons_self, hkk]
    · rw [lkl_cons_ne q, lkl_cons_ne q]
  have hv : a'.tmps.getD d undef = g'.hd k := (r'.tmp d _ (lk_cons_self ..) : CellR g' _ w' _ (.own k)) _ _ _ _ _ hka
  refine ⟨g'.shut k, ⟨r'.size, r'.defers, fun j x hj => ?_, m1.congr hl⟩, ⟨T2.os, T2.tape, T2.output, T2.size, T2.keep, T2.imm, T2.imm', fun b hb => T2.own b (OwnB.congr (fun j => (hl j).symm) hb), fun j hj hn => ?_⟩⟩
  · have hj : lk ((d, AVal.one (.sl e xs)) :: s.t) j = some x := hj
    by_cases hjt : d = j
    · subst hjt
      rw [lk_cons_self] at hj; cases hj
      rw [hv]; exact VR.congr (x := .one (.sl e xs)) hl c1
    · rw [lk_cons_ne hjt] at hj
      have h2 := r'.tmp j x (by show lk ((d, AVal.one (.own k)) :: s.t) j = some x; rw [lk_cons_ne hjt]; exact hj)
      have h3 : VR (g'.shut k) ((k, none) :: (k, some (Blk.arr T e xs dp)) :: s.l) w' (a'.tmps.getD j undef) x := h2.step (fun _ _ => rfl) (fun _ h => .inl h) (Nat.le_refl _) (fun i _ => ok1 i)
      exact VR.congr hl h3
  · obtain ⟨z1, z2, z3⟩ := T2.base j hj hn
    exact ⟨hn, okK.congr hl z2, fun cs hc => ⟨cs, hc⟩⟩
section ops
variable {P : Program} {N : Nat} {s : St} {d : Nat} {ty : TypeId} {pos : String} {after : Array Edge} {gd : Option (Nat × Bool)}
end ops
end Go.Proofs.YtibhoanjglfaoaaGreat

/- One change out of two (printed by walk.py) -/
namespace Go.Proofs.YtibhoanjglfaoaaGreat
open Go.RowKit
set_option linter.unusedVariables false
set_option linter.unusedSimpArgs false
set_option maxRecDepth 100000

set_option maxHeartbeats 4000000 in
theorem changeOfI_c (d : Deltat) (n : ByteArray) (ar : Int) (hd : d.changes.length ≤ 1048576) : AC Tryz.prog 59 [.agg (deltaC d), .one (.c (.string n)), .one (.c (.int .i64 (ar)))] [] (.agg (changeC (changeOf d n ar))) [] := by
  refine AC_bodyC (n := 5) (k := 9) (T := [(6, .one (.ptr 9 0))]) (Lf := ((9, some (.box (changeC (changeOf d n ar)))) :: [])) Tryz.func59 rfl rfl Tryz.ntmps59 rfl Tryz.results59 rfl rfl (by kernel_rfl) rfl rfl ⟨trivial, (by repeat (first | exact trivial | refine ⟨⟨_, rfl, BLe.rf⟩, ?_⟩)), (by repeat (first | exact trivial | refine ⟨⟨rfl, by first | (left; intro h; cases h) | (right; rfl), by first | exact (fun _ h => ⟨_, h⟩) | exact (fun _ _ => ⟨_, rfl⟩) | (intro _ h; cases h)⟩, ?_⟩)), rfl⟩ ?_
  refine AW_seq ?_
  refine AW_region ?_
  refine AL_p (x_box 100 rfl rfl rfl rfl rfl rfl rfl) ?_
  refine AL_p (x_alloc (z := .agg #[.string ⟨#[]⟩, .int .i64 0, .slice none 0 0, .int .i64 0, .slice none 0 0]) 101 rfl (by kernel_rfl) rfl rfl rfl rfl) ?_
  refine AL_nil ?_
  refine AW_seq ?_
  refine AW_seq ?_
  refine AW_region ?_
  refine AL_p (x_field (off := 0) (o' := 0) rfl rfl rfl (by kernel_rfl) rfl) ?_
  refine AL_p (x_load1 rfl rfl rfl (by kernel_rfl) rfl) ?_
  refine AL_p (x_len (E := 65) (n := 5) rfl rfl (by kernel_rfl)) ?_
  refine AL_p (x_move rfl rfl) ?_
  refine AL_nil ?_
  refine AW_block ?_
  refine AW_loop2 (ι := {q : Nat // q ≤ d.changes.length ∧ NoneTo (fun x => x.name == n) d.changes q}) (fun p => [(12, .one (.c (.int .i64 ((p.1) : Int))))]) (fun p => []) [1, 2, 6, 10, 11] [100, 101] (fun p => d.changes.length - (p.1)) ⟨0, ⟨by omega, .zero⟩⟩ (rn []) ?_ ?_
  exact ⟨by (repeat refine ⟨⟨_, rfl, by first | exact VLe.rf | exact vle_int (by dsimp only; omega)⟩, ?_⟩); exact trivial, by (repeat refine ⟨⟨_, rfl, by first | exact BLe.rf | exact BLe.box AllC.rf | exact BLe.arr (by exact rfl)⟩, ?_⟩); exact trivial, by repeat (first | exact trivial | refine ⟨⟨rfl, by first | (left; intro h; cases h) | (right; rfl), by first | exact (fun _ h => ⟨_, h⟩) | exact (fun _ _ => ⟨_, rfl⟩) | (intro _ h; cases h)⟩, ?_⟩), rfl⟩
  rintro ⟨k, hinv⟩
  dsimp only
  obtain ⟨hk, hA⟩ := hinv
  refine AW_seq ?_
  refine AW_region ?_
  refine AL_b (x_lss rfl rfl rfl) (fun b13 h13 => ?_)
  refine AL_nil ?_
  refine AW_seq ?_
  cases b13
  · try simp only [tdy] at h13
    refine AW_condF rfl ?_
    refine AW_exit (BQ_hit ?_)
    refine AW_seq ?_
    refine AW_region ?_
    refine AL_p (x_move rfl rfl) ?_
    refine AL_p (x_move rfl rfl) ?_
    refine AL_p (x_build (zs := [.int .i64 0, .slice none 0 0]) (places := [(0, 1), (1, 1)]) rfl (by kernel_rfl) rfl rfl rfl rfl rfl) ?_
    refine AL_p (x_move rfl rfl) ?_
    refine AL_p (x_build (zs := [.int .i64 0, .slice none 0 0]) (places := [(0, 1), (1, 1)]) rfl (by kernel_rfl) rfl rfl rfl rfl rfl) ?_
    refine AL_p (x_build (zs := [.string ⟨#[]⟩, .int .i64 0, .slice none 0 0, .int .i64 0, .slice none 0 0]) (places := [(0, 1), (1, 2), (3, 2)]) rfl (by kernel_rfl) rfl rfl rfl rfl rfl) ?_
    refine AL_p (x_store (n := 5) rfl rfl rfl rfl (by kernel_rfl) rfl rfl rfl) ?_
    refine AL_nil ?_
    refine AW_ret ?_
    exact ⟨rn [(9, 101)], ⟨⟨⟨_, rfl, VLe.rf⟩, trivial⟩, ⟨⟨_, rfl, by rw [changeOf_none hA (by omega)]; exact BLe.box ⟨CLe.rf, CLe.rf, CLe.nil, CLe.rf, CLe.nil, trivial⟩⟩, trivial⟩, trivial, rfl⟩⟩
  try simp only [tdy] at h13
  refine AW_condT rfl ?_
  refine AW_skip ?_
  refine AW_seq ?_
  refine AW_block ?_
  refine AW_seq ?_
  refine AW_region ?_
  refine AL_p (x_index (E := 65) (n := 5) rfl rfl rfl (by kernel_rfl) rfl (k := k) (by omega) (by omega)) ?_
  refine AL_p (x_eloadW (n := 5) rfl rfl (by kernel_rfl) rfl) ?_
  refine AL_p (x_alloc (z := .agg #[.string ⟨#[]⟩, .int .i64 0, .slice none 0 0, .int .i64 0, .slice none 0 0]) 102 rfl (by kernel_rfl) rfl rfl rfl rfl) ?_
  refine AL_p (x_store (n := 5) rfl rfl rfl rfl (by kernel_rfl) rfl rfl rfl) ?_
  refine AL_nil ?_
  refine AW_seq ?_
  refine AW_region ?_
  refine AL_p (x_field (off := 0) (o' := 0) rfl rfl rfl (by kernel_rfl) rfl) ?_
  refine AL_p (x_load1 rfl rfl rfl (by kernel_rfl) rfl) ?_
  refine AL_p (x_move rfl rfl) ?_
  refine AL_b (x_seql rfl rfl rfl) (fun b19 h19 => ?_)
  refine AL_nil ?_
  cases b19
  rotate_left
  · try simp only [tdy] at h19
    refine AW_condT rfl ?_
    refine AW_seq ?_
    refine AW_region ?_
    refine AL_p (x_loadN (n := 5) rfl rfl rfl (by kernel_rfl) rfl rfl) ?_
    refine AL_p (x_store (n := 5) rfl rfl rfl rfl (by kernel_rfl) rfl rfl rfl) ?_
    refine AL_nil ?_
    refine AW_ret (BQ_ret (BQ_ret ?_))
    exact ⟨rn [(9, 101)], ⟨⟨⟨_, rfl, VLe.rf⟩, trivial⟩, ⟨⟨_, rfl, by rw [changeOf_at (by omega) hA h19]; exact BLe.rf⟩, trivial⟩, trivial, rfl⟩⟩
  try simp only [tdy] at h19
  refine AW_condF rfl ?_
  refine AW_skip ?_
  refine AW_region ?_
  refine AL_p (x_add rfl rfl rfl (IntWalk.i64_in _ (by omega))) ?_
  refine AL_p (x_move rfl rfl) ?_
  refine AL_nil ?_
  refine ⟨⟨k + 1, ⟨by omega, hA.succ (by omega) h19⟩⟩, rn [], ?_, by dsimp only; omega⟩
  exact ⟨by (repeat refine ⟨⟨_, rfl, by first | exact VLe.rf | exact vle_int (by dsimp only; omega)⟩, ?_⟩); exact trivial, by (repeat refine ⟨⟨_, rfl, by first | exact BLe.rf | exact BLe.box AllC.rf | exact BLe.arr (by exact rfl)⟩, ?_⟩); exact trivial, by repeat (first | exact trivial | refine ⟨⟨rfl, by first | (left; intro h; cases h) | (right; rfl), by first | exact (fun _ h => ⟨_, h⟩) | exact (fun _ _ => ⟨_, rfl⟩) | (intro _ h; cases h)⟩, ?_⟩), rfl⟩

set_option maxHeartbeats 4000000 in
theorem changeOfS_c (d : Deltat) (n : ByteArray) (ar : Int) (hd : d.changes.length ≤ 1048576) : AC Tryz.prog 51 [.agg (deltaC d), .one (.c (.string n)), .one (.c (.int .i64 (ar)))] [] (.agg (changeC (changeOf d n ar))) [] := by
  refine AC_bodyC (n := 5) (k := 9) (T := [(6, .one (.ptr 9 0))]) (Lf := ((9, some (.box (changeC (changeOf d n ar)))) :: [])) Tryz.func51 rfl rfl Tryz.ntmps51 rfl Tryz.results51 rfl rfl (by kernel_rfl) rfl rfl ⟨trivial, (by repeat (first | exact trivial | refine ⟨⟨_, rfl, BLe.rf⟩, ?_⟩)), (by repeat (first | exact trivial | refine ⟨⟨rfl, by first | (left; intro h; cases h) | (right; rfl), by first | exact (fun _ h => ⟨_, h⟩) | exact (fun _ _ => ⟨_, rfl⟩) | (intro _ h; cases h)⟩, ?_⟩)), rfl⟩ ?_
  refine AW_seq ?_
  refine AW_region ?_
  refine AL_p (x_box 100 rfl rfl rfl rfl rfl rfl rfl) ?_
  refine AL_p (x_alloc (z := .agg #[.string ⟨#[]⟩, .int .i64 0, .slice none 0 0, .int .i64 0, .slice none 0 0]) 101 rfl (by kernel_rfl) rfl rfl rfl rfl) ?_
  refine AL_nil ?_
  refine AW_seq ?_
  refine AW_seq ?_
  refine AW_region ?_
  refine AL_p (x_field (off := 0) (o' := 0) rfl rfl rfl (by kernel_rfl) rfl) ?_
  refine AL_p (x_load1 rfl rfl rfl (by kernel_rfl) rfl) ?_
  refine AL_p (x_len (E := 65) (n := 5) rfl rfl (by kernel_rfl)) ?_
  refine AL_p (x_move rfl rfl) ?_
  refine AL_nil ?_
  refine AW_block ?_
  refine AW_loop2 (ι := {q : Nat // q ≤ d.changes.length ∧ NoneTo (fun x => x.name == n) d.changes q}) (fun p => [(12, .one (.c (.int .i64 ((p.1) : Int))))]) (fun p => []) [1, 2, 6, 10, 11] [100, 101] (fun p => d.changes.length - (p.1)) ⟨0, ⟨by omega, .zero⟩⟩ (rn []) ?_ ?_
  exact ⟨by (repeat refine ⟨⟨_, rfl, by first | exact VLe.rf | exact vle_int (by dsimp only; omega)⟩, ?_⟩); exact trivial, by (repeat refine ⟨⟨_, rfl, by first | exact BLe.rf | exact BLe.box AllC.rf | exact BLe.arr (by exact rfl)⟩, ?_⟩); exact trivial, by repeat (first | exact trivial | refine ⟨⟨rfl, by first | (left; intro h; cases h) | (right; rfl), by first | exact (fun _ h => ⟨_, h⟩) | exact (fun _ _ => ⟨_, rfl⟩) | (intro _ h; cases h)⟩, ?_⟩), rfl⟩
  rintro ⟨k, hinv⟩
  dsimp only
  obtain ⟨hk, hA⟩ := hinv
  refine AW_seq ?_
  refine AW_region ?_
  refine AL_b (x_lss rfl rfl rfl) (fun b13 h13 => ?_)
  refine AL_nil ?_
  refine AW_seq ?_
  cases b13
  · try simp only [tdy] at h13
    refine AW_condF rfl ?_
    refine AW_exit (BQ_hit ?_)
    refine AW_seq ?_
    refine AW_region ?_
    refine AL_p (x_move rfl rfl) ?_
    refine AL_p (x_move rfl rfl) ?_
    refine AL_p (x_build (zs := [.int .i64 0, .slice none 0 0]) (places := [(0, 1), (1, 1)]) rfl (by kernel_rfl) rfl rfl rfl rfl rfl) ?_
    refine AL_p (x_move rfl rfl) ?_
    refine AL_p (x_build (zs := [.int .i64 0, .slice none 0 0]) (places := [(0, 1), (1, 1)]) rfl (by kernel_rfl) rfl rfl rfl rfl rfl) ?_
    refine AL_p (x_build (zs := [.string ⟨#[]⟩, .int .i64 0, .slice none 0 0, .int .i64 0, .slice none 0 0]) (places := [(0, 1), (1, 2), (3, 2)]) rfl (by kernel_rfl) rfl rfl rfl rfl rfl) ?_
    refine AL_p (x_store (n := 5) rfl rfl rfl rfl (by kernel_rfl) rfl rfl rfl) ?_
    refine AL_nil ?_
    refine AW_ret ?_
    exact ⟨rn [(9, 101)], ⟨⟨⟨_, rfl, VLe.rf⟩, trivial⟩, ⟨⟨_, rfl, by rw [changeOf_none hA (by omega)]; exact BLe.box ⟨CLe.rf, CLe.rf, CLe.nil, CLe.rf, CLe.nil, trivial⟩⟩, trivial⟩, trivial, rfl⟩⟩
  try simp only [tdy] at h13
  refine AW_condT rfl ?_
  refine AW_skip ?_
  refine AW_seq ?_
  refine AW_block ?_
  refine AW_seq ?_
  refine AW_region ?_
  refine AL_p (x_index (E := 65) (n := 5) rfl rfl rfl (by kernel_rfl) rfl (k := k) (by omega) (by omega)) ?_
  refine AL_p (x_eloadW (n := 5) rfl rfl (by kernel_rfl) rfl) ?_
  refine AL_p (x_alloc (z := .agg #[.string ⟨#[]⟩, .int .i64 0, .slice none 0 0, .int .i64 0, .slice none 0 0]) 102 rfl (by kernel_rfl) rfl rfl rfl rfl) ?_
  refine AL_p (x_store (n := 5) rfl rfl rfl rfl (by kernel_rfl) rfl rfl rfl) ?_
  refine AL_nil ?_
  refine AW_seq ?_
  refine AW_region ?_
  refine AL_p (x_field (off := 0) (o' := 0) rfl rfl rfl (by kernel_rfl) rfl) ?_
  refine AL_p (x_load1 rfl rfl rfl (by kernel_rfl) rfl) ?_
  refine AL_p (x_move rfl rfl) ?_
  refine AL_b (x_seql rfl rfl rfl) (fun b19 h19 => ?_)
  refine AL_nil ?_
  cases b19
  rotate_left
  · try simp only [tdy] at h19
    refine AW_condT rfl ?_
    refine AW_seq ?_
    refine AW_region ?_
    refine AL_p (x_loadN (n := 5) rfl rfl rfl (by kernel_rfl) rfl rfl) ?_
    refine AL_p (x_store (n := 5) rfl rfl rfl rfl (by kernel_rfl) rfl rfl rfl) ?_
    refine AL_nil ?_
    refine AW_ret (BQ_ret (BQ_ret ?_))
    exact ⟨rn [(9, 101)], ⟨⟨⟨_, rfl, VLe.rf⟩, trivial⟩, ⟨⟨_, rfl, by rw [changeOf_at (by omega) hA h19]; exact BLe.rf⟩, trivial⟩, trivial, rfl⟩⟩
  try simp only [tdy] at h19
  refine AW_condF rfl ?_
  refine AW_skip ?_
  refine AW_region ?_
  refine AL_p (x_add rfl rfl rfl (IntWalk.i64_in _ (by omega))) ?_
  refine AL_p (x_move rfl rfl) ?_
  refine AL_nil ?_
  refine ⟨⟨k + 1, ⟨by omega, hA.succ (by omega) h19⟩⟩, rn [], ?_, by dsimp only; omega⟩
  exact ⟨by (repeat refine ⟨⟨_, rfl, by first | exact VLe.rf | exact vle_int (by dsimp only; omega)⟩, ?_⟩); exact trivial, by (repeat refine ⟨⟨_, rfl, by first | exact BLe.rf | exact BLe.box AllC.rf | exact BLe.arr (by exact rfl)⟩, ?_⟩); exact trivial, by repeat (first | exact trivial | refine ⟨⟨rfl, by first | (left; intro h; cases h) | (right; rfl), by first | exact (fun _ h => ⟨_, h⟩) | exact (fun _ _ => ⟨_, rfl⟩) | (intro _ h; cases h)⟩, ?_⟩), rfl⟩

set_option maxHeartbeats 4000000 in
theorem sumS_c (a b : Relt) (ha : smallRel a) (hb : smallRel b) (hs : Sorted a.rows) (hv : ValsOk b.rows) (hl : a.rows.length + b.rows.length ≤ 1048575) : AC Tryz.prog 53 [.agg (relC a), .agg (relC b)] [] (.agg [.c (.int .i64 a.arity), .sl rowE (sortRows (a.rows ++ b.rows))]) [] := by
  refine AC_bodyC (n := 2) (k := 9) (T := [(4, .one (.ptr 9 0))]) (Lf := ((9, some (.box [.c (.int .i64 a.arity), .sl rowE (sortRows (a.rows ++ b.rows))])) :: [])) Tryz.func53 rfl rfl Tryz.ntmps53 rfl Tryz.results53 rfl rfl (by kernel_rfl) rfl rfl ⟨trivial, (by repeat (first | exact trivial | refine ⟨⟨_, rfl, BLe.rf⟩, ?_⟩)), (by repeat (first | exact trivial | refine ⟨⟨rfl, by first | (left; intro h; cases h) | (right; rfl), by first | exact (fun _ h => ⟨_, h⟩) | exact (fun _ _ => ⟨_, rfl⟩) | (intro _ h; cases h)⟩, ?_⟩)), rfl⟩ ?_
  refine AW_seq ?_
  refine AW_region ?_
  refine AL_p (x_box 100 rfl rfl rfl rfl rfl rfl rfl) ?_
  refine AL_p (x_box 101 rfl rfl rfl rfl rfl rfl rfl) ?_
  refine AL_p (x_alloc (z := .agg #[.int .i64 0, .slice none 0 0]) 102 rfl (by kernel_rfl) rfl rfl rfl rfl) ?_
  refine AL_nil ?_
  refine AW_seq ?_
  refine AW_region ?_
  refine AL_p (x_loadN (n := 2) rfl rfl rfl (by kernel_rfl) rfl rfl) ?_
  refine AL_p (x_call1 rfl rfl rfl (copyS_c a ha 103) rfl rfl rfl rfl) ?_
  refine AL_p (x_alloc (z := .agg #[.int .i64 0, .slice none 0 0]) 200 rfl (by kernel_rfl) rfl rfl rfl rfl) ?_
  refine AL_p (x_store (n := 2) rfl rfl rfl rfl (by kernel_rfl) rfl rfl rfl) ?_
  refine AL_nil ?_
  refine AW_seq ?_
  refine AW_seq ?_
  refine AW_region ?_
  refine AL_p (x_field (off := 1) (o' := 1) rfl rfl rfl (by kernel_rfl) rfl) ?_
  refine AL_p (x_load1 rfl rfl rfl (by kernel_rfl) rfl) ?_
  refine AL_p (x_len (E := 72) (n := 1) rfl rfl (by kernel_rfl)) ?_
  refine AL_p (x_move rfl rfl) ?_
  refine AL_nil ?_
  refine AW_block ?_
  refine AW_shutB 103 200 1 rfl rfl rfl rfl ?_
  refine AW_loop2 (ι := {q : Nat // q ≤ b.rows.length}) (fun p => [(12, .one (.c (.int .i64 ((p.1) : Int))))]) (fun p => [(200, some (.box [.c (.int .i64 a.arity), .sl rowE ((b.rows.take (p.1)).foldl putRow a.rows)]))]) [3, 4, 5, 11] [100, 101, 102] (fun p => b.rows.length - (p.1)) ⟨0, by omega⟩ (rn []) ?_ ?_
  exact ⟨by (repeat refine ⟨⟨_, rfl, by first | with_reducible exact VLe.rf | exact VLe.rf | exact vle_int (by dsimp only; omega)⟩, ?_⟩); exact trivial, by (repeat refine ⟨⟨_, rfl, by first | with_reducible exact BLe.rf | with_reducible exact BLe.rf | with_reducible exact boxRel (union_more (by omega)) | (refine BLe.arr ?_; exact rfl) | exact BLe.rf | exact BLe.box AllC.rf⟩, ?_⟩); exact trivial, by repeat (first | exact trivial | refine ⟨⟨rfl, by first | (left; intro h; cases h) | (right; rfl), by first | exact (fun _ h => ⟨_, h⟩) | exact (fun _ _ => ⟨_, rfl⟩) | (intro _ h; cases h)⟩, ?_⟩), rfl⟩
  rintro ⟨k, hinv⟩
  dsimp only
  have hk : k ≤ b.rows.length := hinv
  refine AW_seq ?_
  refine AW_region ?_
  refine AL_b (x_lss rfl rfl rfl) (fun b13 h13 => ?_)
  refine AL_nil ?_
  refine AW_seq ?_
  cases b13
  · try simp only [tdy] at h13
    rw [sum_all hs hv (by omega)]
    refine AW_condF rfl ?_
    refine AW_exit (BQ_hit ?_)
    refine AW_seq ?_
    refine AW_region ?_
    refine AL_p (x_loadN (n := 2) rfl rfl rfl (by kernel_rfl) rfl rfl) ?_
    refine AL_p (x_store (n := 2) rfl rfl rfl rfl (by kernel_rfl) rfl rfl rfl) ?_
    refine AL_nil ?_
    refine AW_ret ?_
    exact ⟨rn [(9, 102)], ⟨⟨⟨_, rfl, VLe.rf⟩, trivial⟩, ⟨⟨_, rfl, BLe.rf⟩, trivial⟩, trivial, rfl⟩⟩
  try simp only [tdy] at h13
  refine AW_condT rfl ?_
  refine AW_skip ?_
  refine AW_seq ?_
  refine AW_block ?_
  refine AW_seq ?_
  refine AW_region ?_
  refine AL_p (x_move rfl rfl) ?_
  refine AL_p (x_assign rfl rfl) ?_
  refine AL_nil ?_
  refine AW_draw rfl ?_
  refine AL_p (x_field (off := 1) (o' := 1) rfl rfl rfl (by kernel_rfl) rfl) ?_
  refine AL_p (x_load1 rfl rfl rfl (by kernel_rfl) rfl) ?_
  refine AL_p (x_field (off := 1) (o' := 1) rfl rfl rfl (by kernel_rfl) rfl) ?_
  refine AL_p (x_load1 rfl rfl rfl (by kernel_rfl) rfl) ?_
  refine AL_p (x_move rfl rfl) ?_
  refine AL_p (x_index (E := 72) (n := 1) rfl rfl rfl (by kernel_rfl) rfl (k := k) (by omega) (by omega)) ?_
  refine AL_p (x_eloadW (n := 1) rfl rfl (by kernel_rfl) rfl) ?_
  refine AL_p (x_call0 rfl rfl rfl (putS_c ((b.rows.take k).foldl putRow a.rows) (b.rows[k]'(by omega)) (sum_le hl k) (sum_mem ha hb k) (hb.2 _ (List.getElem_mem _)).1 (sum_sorted hs hv k) (hv _ (List.getElem_mem _))) rfl rfl) ?_
  refine AL_p (x_field (off := 1) (o' := 1) rfl rfl rfl (by kernel_rfl) rfl) ?_
  refine AL_p (x_store (n := 1) rfl rfl rfl rfl (by kernel_rfl) rfl rfl rfl) ?_
  refine AL_nild (by kernel_rfl) ?_
  refine AW_region ?_
  refine AL_p (x_add rfl rfl rfl (IntWalk.i64_in _ (by omega))) ?_
  refine AL_p (x_move rfl rfl) ?_
  refine AL_nil ?_
  refine ⟨⟨k + 1, by omega⟩, rn [], ?_, by dsimp only; omega⟩
  exact ⟨by (repeat refine ⟨⟨_, rfl, by first | with_reducible exact VLe.rf | exact VLe.rf | exact vle_int (by dsimp only; omega)⟩, ?_⟩); exact trivial, by (repeat refine ⟨⟨_, rfl, by first | with_reducible exact BLe.rf | with_reducible exact BLe.rf | with_reducible exact boxRel (union_more (by omega)) | (refine BLe.arr ?_; exact rfl) | exact BLe.rf | exact BLe.box AllC.rf⟩, ?_⟩); exact trivial, by repeat (first | exact trivial | refine ⟨⟨rfl, by first | (left; intro h; cases h) | (right; rfl), by first | exact (fun _ h => ⟨_, h⟩) | exact (fun _ _ => ⟨_, rfl⟩) | (intro _ h; cases h)⟩, ?_⟩), rfl⟩

theorem siftF_c (a b : Relt) (ha : smallRel a) (hb : smallRel b) : AC Tryz.prog 33 [.agg (relC a), .agg (relC b), .one (.c (.bool false))] [] (.agg [.c (.int .i64 a.arity), .sl rowE (keepOf a b)]) [] := AC.frz (siftN_c a b ha hb 0) rfl (by intro k hk; simpa [AVal.ids, Cell.ids] using hk)

set_option maxHeartbeats 4000000 in
theorem concatRowD_t {xss : List (List (List Val))} (hl : xss.flatten.length ≤ 2097152) (hn : xss.length ≤ 1048576) : AT Tryz.prog 42 [.one (.own 0)] [(0, some (.arr 61 (sliceE rowE) xss true))] (.one (.own 1)) [(1, some (.arr 72 rowE xss.flatten false))] := by
  refine AT_body1 Tryz.func42 rfl rfl Tryz.ntmps42 rfl Tryz.results42 ?_
  refine AW_seq ?_
  refine AW_region ?_
  refine AL_p (x_assign rfl rfl) ?_
  refine AL_nil ?_
  refine AW_seq ?_
  refine AW_region ?_
  refine AL_p (x_assign rfl rfl) ?_
  refine AL_nil ?_
  refine AW_seq ?_
  refine AW_seq ?_
  refine AW_region ?_
  refine AL_p (x_move rfl rfl) ?_
  refine AL_p (x_olen (E := 61) (n := 1) rfl rfl rfl (by kernel_rfl)) ?_
  refine AL_p (x_move rfl rfl) ?_
  refine AL_nil ?_
  refine AW_block ?_
  refine AW_shallow 0 rfl ?_
  refine AW_loop2 (ι := {q : Nat // q ≤ xss.length}) (fun p => [(3, .one (.c (.int .i64 ((xss.take (p.1)).flatten.length : Int)))), (11, .one (.c (.int .i64 ((p.1) : Int))))]) (fun p => []) [0, 9, 10] [0] (fun p => xss.length - (p.1)) ⟨0, by omega⟩ (rn []) ?_ ?_
  exact ⟨by (repeat refine ⟨⟨_, rfl, by first | exact VLe.rf | exact vle_int (by dsimp only; omega)⟩, ?_⟩); exact trivial, by (repeat refine ⟨⟨_, rfl, by first | exact BLe.rf | exact BLe.box AllC.rf | exact BLe.arr (by exact rfl)⟩, ?_⟩); exact trivial, by repeat (first | exact trivial | refine ⟨⟨rfl, by first | (left; intro h; cases h) | (right; rfl), by first | exact (fun _ h => ⟨_, h⟩) | exact (fun _ _ => ⟨_, rfl⟩) | (intro _ h; cases h)⟩, ?_⟩), rfl⟩
  rintro ⟨k, hinv⟩
  dsimp only
  have hf := flat_le (xss := xss) (k := k)
  refine AW_seq ?_
  refine AW_region ?_
  refine AL_b (x_lss rfl rfl rfl) (fun b12 h12 => ?_)
  refine AL_nil ?_
  refine AW_seq ?_
  cases b12
  rotate_left
  · try simp only [tdy] at h12
    refine AW_condT rfl ?_
    refine AW_skip ?_
    refine AW_seq ?_
    refine AW_block ?_
    refine AW_seq ?_
    refine AW_region ?_
    refine AL_p (x_oindex (n := 1) rfl rfl rfl rfl (by kernel_rfl) rfl (k := k) rfl (by omega)) ?_
    refine AL_p (x_oload1 rfl rfl rfl (by kernel_rfl) (by omega) rfl) ?_
    refine AL_p (x_assign rfl rfl) ?_
    refine AL_nil ?_
    refine AW_seq ?_
    refine AW_region ?_
    refine AL_p (x_move rfl rfl) ?_
    refine AL_p (x_move rfl rfl) ?_
    refine AL_p (x_len (E := 72) (n := 1) rfl rfl (by kernel_rfl)) ?_
    refine AL_p (x_add rfl rfl rfl (by have := flat_len1 (xss := xss) (k := k) (by omega); exact IntWalk.i64_in _ (by have := flat_le (xss := xss) (k := k + 1); omega))) ?_
    refine AL_p (x_assign rfl rfl) ?_
    refine AL_nil ?_
    refine AW_seq ?_
    refine AW_region ?_
    refine AL_p (x_move rfl rfl) ?_
    refine AL_b (x_lss rfl rfl rfl) (fun b20 h20 => ?_)
    refine AL_nil ?_
    cases b20
    rotate_left
    · exfalso; have := flat_len1 (xss := xss) (k := k) (by omega); simp at h20; omega
    try simp only [tdy] at h20
    have q4 := flat_len1 (xss := xss) (k := k) (by omega)
    refine AW_condF rfl ?_
    refine AW_skip ?_
    refine AW_region ?_
    refine AL_p (x_add rfl rfl rfl (IntWalk.i64_in _ (by omega))) ?_
    refine AL_p (x_move rfl rfl) ?_
    refine AL_nil ?_
    refine ⟨⟨k + 1, by omega⟩, rn [], ?_, by dsimp only; omega⟩
    exact ⟨by (repeat refine ⟨⟨_, rfl, by first | exact VLe.rf | exact vle_int (by dsimp only; omega)⟩, ?_⟩); exact trivial, by (repeat refine ⟨⟨_, rfl, by first | exact BLe.rf | exact BLe.box AllC.rf | exact BLe.arr (by exact rfl)⟩, ?_⟩); exact trivial, by repeat (first | exact trivial | refine ⟨⟨rfl, by first | (left; intro h; cases h) | (right; rfl), by first | exact (fun _ h => ⟨_, h⟩) | exact (fun _ _ => ⟨_, rfl⟩) | (intro _ h; cases h)⟩, ?_⟩), rfl⟩
  try simp only [tdy] at h12
  have e0 : (xss.take k).flatten = xss.flatten := flat_all (by omega)
  rw [e0]
  refine AW_condF rfl ?_
  refine AW_exit (BQ_hit ?_)
  refine AW_seq ?_
  refine AW_region ?_
  refine AL_p (x_move rfl rfl) ?_
  refine AL_p (x_call1 rfl rfl rfl (growRow_c xss.flatten.length hl 100) rfl rfl rfl rfl) ?_
  refine AL_p (x_assign rfl rfl) ?_
  refine AL_nil ?_
  refine AW_seq ?_
  refine AW_seq ?_
  refine AW_region ?_
  refine AL_p (x_move rfl rfl) ?_
  refine AL_p (x_olen (E := 61) (n := 1) rfl rfl rfl (by kernel_rfl)) ?_
  refine AL_p (x_move rfl rfl) ?_
  refine AL_nil ?_
  refine AW_block ?_
  refine AW_shallow 100 rfl ?_
  refine AW_loop2 (ι := {q : Nat // q ≤ xss.length}) (fun p => [(6, .one (.own 100)), (27, .one (.c (.int .i64 ((p.1) : Int))))]) (fun p => [(100, some (.arr 72 rowE (xss.take (p.1)).flatten false))]) [25, 26] [0] (fun p => xss.length - (p.1)) ⟨0, by omega⟩ (rn []) ?_ ?_
  exact ⟨by (repeat refine ⟨⟨_, rfl, by first | exact VLe.rf | exact vle_int (by dsimp only; omega)⟩, ?_⟩); exact trivial, by (repeat refine ⟨⟨_, rfl, by first | exact BLe.rf | exact BLe.box AllC.rf | exact BLe.arr (by first | exact flat_zero | exact flat_more (by omega))⟩, ?_⟩); exact trivial, by repeat (first | exact trivial | refine ⟨⟨rfl, by first | (left; intro h; cases h) | (right; rfl), by first | exact (fun _ h => ⟨_, h⟩) | exact (fun _ _ => ⟨_, rfl⟩) | (intro _ h; cases h)⟩, ?_⟩), rfl⟩
  rintro ⟨k, hinv⟩
  dsimp only
  refine AW_seq ?_
  refine AW_region ?_
  refine AL_b (x_lss rfl rfl rfl) (fun b28 h28 => ?_)
  refine AL_nil ?_
  refine AW_seq ?_
  cases b28
  · try simp only [tdy] at h28
    refine AW_condF rfl ?_
    refine AW_exit (BQ_hit ?_)
    refine AW_seq ?_
    refine AW_region ?_
    refine AL_p (x_move rfl rfl) ?_
    refine AL_p (x_assign rfl rfl) ?_
    refine AL_nil ?_
    refine AW_ret ?_
    exact ⟨rn [(1, 100)], ⟨⟨⟨_, rfl, VLe.rf⟩, trivial⟩, ⟨⟨_, rfl, BLe.arr (flat_all (by omega))⟩, trivial⟩, trivial, rfl⟩⟩
  try simp only [tdy] at h28
  refine AW_condT rfl ?_
  refine AW_skip ?_
  refine AW_seq ?_
  refine AW_block ?_
  refine AW_seq ?_
  refine AW_region ?_
  refine AL_p (x_oindex (n := 1) rfl rfl rfl rfl (by kernel_rfl) rfl (k := k) rfl (by omega)) ?_
  refine AL_p (x_oload1 rfl rfl rfl (by kernel_rfl) (by omega) rfl) ?_
  refine AL_p (x_assign rfl rfl) ?_
  refine AL_nil ?_
  refine AW_region ?_
  refine AL_p (x_move rfl rfl) ?_
  refine AL_p (x_move rfl rfl) ?_
  refine AL_p (y_append_sl 101 false (.inl rfl) rfl rfl rfl rfl rfl rfl (by kernel_rfl) (by have := flat_le (xss := xss) (k := k + 1); have := flat_len1 (xss := xss) (k := k) (by omega); omega)) ?_
  refine AL_p (x_assign rfl rfl) ?_
  refine AL_nil ?_
  refine AW_region ?_
  refine AL_p (x_add rfl rfl rfl (IntWalk.i64_in _ (by omega))) ?_
  refine AL_p (x_move rfl rfl) ?_
  refine AL_nil ?_
  refine ⟨⟨k + 1, by omega⟩, rn [(100, 101)], ?_, by dsimp only; omega⟩
  exact ⟨by (repeat refine ⟨⟨_, rfl, by first | exact VLe.rf | exact vle_int (by dsimp only; omega)⟩, ?_⟩); exact trivial, by (repeat refine ⟨⟨_, rfl, by first | exact BLe.rf | exact BLe.box AllC.rf | exact BLe.arr (by first | exact flat_zero | exact flat_more (by omega))⟩, ?_⟩); exact trivial, by repeat (first | exact trivial | refine ⟨⟨rfl, by first | (left; intro h; cases h) | (right; rfl), by first | exact (fun _ h => ⟨_, h⟩) | exact (fun _ _ => ⟨_, rfl⟩) | (intro _ h; cases h)⟩, ?_⟩), rfl⟩

theorem relOfP_c (ar : Int) (p q : List (List Val)) (hv : ValsOk (p ++ q)) (hs : smallRel ⟨ar, p ++ q⟩) (k : Nat) :
    AC Tryz.prog 41 [.one (.c (.int .i64 ar)), .one (.sl rowE [p, q].flatten)] [] (.tup [.agg [.c (.int .i64 (relOf ar (p ++ q)).1.arity), .own k], .one (.c (.bool (relOf ar (p ++ q)).2))]) [(k, some (.arr 72 rowE (relOf ar (p ++ q)).1.rows true))] := by
  rw [flat_two]; exact relOfI_c _ _ hv hs k
end Go.Proofs.YtibhoanjglfaoaaGreat

/- What the steps of a stable sort do to a list: elements exchanged, ranges exchanged, rotated, put in order, merged. -/
namespace Go.Proofs.YtibhoanjglfaoaaGreat
open Go.RowKit
set_option linter.unusedVariables false
set_option linter.unusedSimpArgs false

section
variable {α : Type} {lt : α → α → Bool}
theorem exch_eq {A B C : List α} {x y : α} {W : List α} {i j : Nat} (hW : W = A ++ x :: B ++ y :: C) (hi : i = A.length) (hj : j = A.length + 1 + B.length) :
    ∃ (h1 : i < W.length) (h2 : j < W.length), W[i] = x ∧ W[j] = y ∧ (W.set i y).set j x = A ++ y :: B ++ x :: C ∧ (W.set j x).set i y = A ++ y :: B ++ x :: C := by
  subst hi hj hW
  have e1 : (A ++ x :: B ++ y :: C).set A.length y = A ++ y :: B ++ y :: C := by
    rw [List.append_assoc, List.set_append_right _ _ (Nat.le_refl _), Nat.sub_self]; simp
  have e2 : ∀ z, (A ++ z :: B ++ y :: C).set (A.length + 1 + B.length) x = A ++ z :: B ++ x :: C := fun z => by
    have : A.length + 1 + B.length = (A ++ z :: B).length := by simp; omega
    rw [this, List.set_append_right _ _ (Nat.le_refl _), Nat.sub_self]; simp
  have e3 : (A ++ x :: B ++ x :: C).set A.length y = A ++ y :: B ++ x :: C := by
    rw [List.append_assoc, List.set_append_right _ _ (Nat.le_refl _), Nat.sub_self]; simp
  refine ⟨by simp, by simp; omega, ?_, ?_, by rw [e1, e2], by rw [e2, e3]⟩
  · simp
  · rw [List.getElem_append_right (by simp; omega)]
    simp [show A.length + 1 + B.length - (A.length + (B.length + 1)) = 0 by omega]
/-! ### Two ranges of the same length exchanged -/
def SwI (P X M Y Q : List α) (i : Nat) (W : List α) : Prop := W = P ++ (Y.take i ++ X.drop i) ++ M ++ (X.take i ++ Y.drop i) ++ Q
theorem SwI.zero {P X M Y Q W : List α} (h : W = P ++ X ++ M ++ Y ++ Q) : SwI P X M Y Q 0 W := by simp [SwI, h]
theorem SwI.done {P X M Y Q W : List α} {i : Nat} (h : SwI P X M Y Q i W) (hx : X.length = Y.length) (hi : X.length ≤ i) : W = P ++ Y ++ M ++ X ++ Q := by
  rw [h, List.take_of_length_le (by omega), List.take_of_length_le hi, List.drop_eq_nil_of_le hi, List.drop_eq_nil_of_le (by omega)]; simp
theorem SwI.step {P X M Y Q W : List α} {i p q : Nat} (h : SwI P X M Y Q i W) (hx : X.length = Y.length) (hi : i < X.length) (hp : p = P.length + i) (hq : q = P.length + X.length + M.length + i) (h1 : q < W.length) (h2 : p < W.length) : SwI P X M Y Q (i + 1) ((W.set p W[q]).set q W[p]) := by
  have hW : W = (P ++ Y.take i) ++ X[i] :: (X.drop (i + 1) ++ M ++ X.take i) ++ (Y[i]'(by omega)) :: (Y.drop (i + 1) ++ Q) := by
    rw [h, List.drop_eq_getElem_cons hi, List.drop_eq_getElem_cons (l := Y) (i := i) (by omega)]; simp only [List.append_assoc, List.cons_append, List.nil_append, List.singleton_append]
  obtain ⟨_, _, e1, e2, e3, _⟩ := exch_eq hW (i := p) (j := q) (by simp; omega) (by simp; omega)
  rw [e1, e2, e3]
  unfold SwI
  rw [List.take_succ_eq_append_getElem hi, List.take_succ_eq_append_getElem (l := Y) (i := i) (by omega)]; simp only [List.append_assoc, List.cons_append, List.nil_append, List.singleton_append]
/-! ### A rotation -/
def RoI (R : List α) (m i j : Int) (W : List α) : Prop := ∃ P X Y Q : List α, W = P ++ X ++ Y ++ Q ∧ (P.length : Int) + i = m ∧ (X.length : Int) = i ∧ (Y.length : Int) = j ∧ P ++ Y ++ X ++ Q = R
theorem RoI.left {R P X Y Q W : List α} {m i j : Int} (hj : j < i) (h1 : (P.length : Int) + i = m) (h2 : (X.length : Int) = i) (h3 : (Y.length : Int) = j) (h4 : P ++ Y ++ X ++ Q = R) : RoI R m (i - j) j (P ++ Y ++ X.drop j.toNat ++ X.take j.toNat ++ Q) := by
  refine ⟨P ++ Y, X.drop j.toNat, X.take j.toNat, Q, rfl, by simp; omega, by simp; omega, by simp; omega, ?_⟩
  rw [← h4]
  conv => rhs; rw [← List.take_append_drop j.toNat X]
  simp
theorem RoI.right {R P X Y Q W : List α} {m i j : Int} (hj : i < j) (h1 : (P.length : Int) + i = m) (h2 : (X.length : Int) = i) (h3 : (Y.length : Int) = j) (h4 : P ++ Y ++ X ++ Q = R) : RoI R m i (j - i) (P ++ Y.drop (j - i).toNat ++ Y.take (j - i).toNat ++ X ++ Q) := by
  refine ⟨P, Y.drop (j - i).toNat, Y.take (j - i).toNat, X ++ Q, by simp, h1, by simp; omega, by simp; omega, ?_⟩
  rw [← h4]
  conv => rhs; rw [← List.take_append_drop (j - i).toNat Y]
  simp
theorem cut_left {X : List α} (n : Nat) (P M Q : List α) : P ++ X ++ M ++ Q = P ++ X.take n ++ X.drop n ++ M ++ Q := by
  conv => lhs; rw [← List.take_append_drop n X]
  simp
theorem cut_right {Y : List α} (n : Nat) (P X Q : List α) : P ++ X ++ Y ++ Q = P ++ X ++ Y.take n ++ Y.drop n ++ Q := by
  conv => lhs; rw [← List.take_append_drop n Y]
  simp
/-! ### One put in -/
def InI (lt : α → α → Bool) (P s : List α) (x : α) (Q : List α) (j : Int) (W : List α) : Prop := ∃ u v, s = u ++ v ∧ W = P ++ u ++ x :: v ++ Q ∧ (∀ y ∈ v, lt x y = true) ∧ j = P.length + u.length
theorem InI.zero {P s : List α} {x : α} {Q W : List α} {j : Int} (h : W = P ++ s ++ x :: Q) (hj : j = P.length + s.length) : InI lt P s x Q j W := ⟨s, [], by simp, by simp [h], by simp, hj⟩
theorem InI.at {P s : List α} {x : α} {Q W : List α} {j : Int} (h : InI lt P s x Q j W) : ∃ (h1 : j.toNat < W.length), W[j.toNat] = x := by
  obtain ⟨u, v, rfl, rfl, h3, rfl⟩ := h
  have e : P ++ u ++ x :: v ++ Q = (P ++ u) ++ x :: (v ++ Q) := by simp
  refine ⟨by simp; omega, ?_⟩
  rw [List.getElem_append_left (by simp; omega), List.getElem_append_right (by simp; omega)]
  simp [show ((P.length : Int) + u.length).toNat - (P.length + u.length) = 0 by omega]
theorem InI.split {P s : List α} {x : α} {Q W : List α} {j : Int} (h : InI lt P s x Q j W) (hj : (P.length : Int) < j) : ∃ u y v, s = u ++ y :: v ∧ W = (P ++ u) ++ y :: [] ++ x :: (v ++ Q) ∧ (∀ z ∈ v, lt x z = true) ∧ j = P.length + u.length + 1 := by
  obtain ⟨u, v, rfl, rfl, h3, rfl⟩ := h
  have hne : u ≠ [] := fun e => by subst e; simp at hj
  have e := List.dropLast_concat_getLast hne
  generalize u.dropLast = u1 at e
  generalize u.getLast hne = y at e
  subst e
  exact ⟨u1, y, v, by simp, by simp, h3, by simp; omega⟩
theorem InI.step {P s : List α} {x : α} {Q W : List α} {j : Int} (h : InI lt P s x Q j W) (hj : (P.length : Int) < j) (h1 : j.toNat < W.length) (h2 : j.toNat - 1 < W.length) (hlt : lt W[j.toNat] W[j.toNat - 1] = true) : InI lt P s x Q (j - 1) ((W.set j.toNat W[j.toNat - 1]).set (j.toNat - 1) W[j.toNat]) := by
  obtain ⟨u, y, v, e1, e2, e3, e4⟩ := h.split hj
  obtain ⟨_, _, f1, f2, _, f4⟩ := exch_eq e2 (i := j.toNat - 1) (j := j.toNat) (by simp; omega) (by simp; omega)
  rw [f1, f2] at hlt ⊢
  rw [f4]
  refine ⟨u, y :: v, e1, by simp, fun z hz => ?_, by omega⟩
  rcases List.mem_cons.1 hz with rfl | hz
  · exact hlt
  · exact e3 z hz
theorem InI.done {P s : List α} {x : α} {Q W : List α} {j : Int} (hw : Wk lt) (h : InI lt P s x Q j W) (hs : Srt lt s) (he : ¬ (P.length : Int) < j ∨ ∃ (h1 : j.toNat < W.length) (h2 : j.toNat - 1 < W.length), lt W[j.toNat] W[j.toNat - 1] = false) : W = P ++ insR lt s x ++ Q := by
  by_cases hj : (P.length : Int) < j
  · obtain ⟨h1, h2, hf⟩ := he.resolve_left (fun q => q hj)
    obtain ⟨u, y, v, e1, e2, e3, e4⟩ := h.split hj
    obtain ⟨_, _, f1, f2, _, _⟩ := exch_eq e2 (i := j.toNat - 1) (j := j.toNat) (by simp; omega) (by simp; omega)
    rw [f1, f2] at hf
    have e1' : s = (u ++ [y]) ++ v := by simp [e1]
    rw [e1', insR_all (fun z hz => ?_) e3, e2]
    · simp
    · rw [e1] at hs
      rcases List.mem_append.1 hz with hz | hz
      · exact hw.neg _ _ _ ((List.pairwise_append.1 hs).2.2 z hz y (by simp)) hf
      · rw [List.mem_singleton.1 hz]; exact hf
  · obtain ⟨u, v, rfl, rfl, h3, rfl⟩ := h
    have : u = [] := List.eq_nil_of_length_eq_zero (by omega)
    subst this
    have := insR_all (lt := lt) (u := []) (v := v) (x := x) (by simp) h3
    simp at this ⊢
    rw [this]; simp
/-! ### Insertion sort -/
def OuI (lt : α → α → Bool) (P M Q : List α) (a i : Int) (W : List α) : Prop := a + 1 ≤ i ∧ (i ≤ a + M.length ∨ i = a + 1) ∧ W = P ++ isort lt (M.take (i - a).toNat) ++ M.drop (i - a).toNat ++ Q
theorem isort_one (M : List α) : isort lt (M.take 1) ++ M.drop 1 = M := by cases M <;> simp [isort, mergeI, insR]
theorem OuI.zero {P M Q W : List α} {a : Int} (h : W = P ++ M ++ Q) : OuI lt P M Q a (a + 1) W := by
  refine ⟨by omega, .inr rfl, ?_⟩
  have := isort_one (lt := lt) M
  rw [show (a + 1 - a).toNat = 1 by omega, List.append_assoc P, this, h]
theorem OuI.done {P M Q W : List α} {a i : Int} (h : OuI lt P M Q a i W) (hi : a + M.length ≤ i) : W = P ++ isort lt M ++ Q := by
  obtain ⟨_, _, e⟩ := h
  rw [e, List.take_of_length_le (by omega), List.drop_eq_nil_of_le (by omega)]; simp
theorem OuI.inn {P M Q W : List α} {a i : Int} (h : OuI lt P M Q a i W) (ha : a = P.length) (hi : i < a + M.length) (hk : (i - a).toNat < M.length) : InI lt P (isort lt (M.take (i - a).toNat)) M[(i - a).toNat] (M.drop ((i - a).toNat + 1) ++ Q) i W := by
  obtain ⟨h1, _, e⟩ := h
  refine InI.zero ?_ ?_
  · refine e.trans ?_
    rw [List.drop_eq_getElem_cons (l := M) (i := (i - a).toNat) (by omega)]; simp only [List.append_assoc, List.cons_append, List.nil_append, List.singleton_append]
  · rw [isort_len, List.length_take]; omega
theorem OuI.next {P M Q W : List α} {a i : Int} (h0 : a + 1 ≤ i) (hi : i < a + M.length) (hk : (i - a).toNat < M.length) (h : W = P ++ insR lt (isort lt (M.take (i - a).toNat)) M[(i - a).toNat] ++ (M.drop ((i - a).toNat + 1) ++ Q)) : OuI lt P M Q a (i + 1) W := by
  refine ⟨by omega, .inl (by omega), ?_⟩
  rw [h, show (i + 1 - a).toNat = (i - a).toNat + 1 by omega, List.take_succ_eq_append_getElem (by omega), isort_snoc]; simp only [List.append_assoc, List.cons_append, List.nil_append, List.singleton_append]
/-! ### A search in halves -/
def Bis (T : Int → Bool) (s0 r0 s r : Int) : Prop := s0 ≤ s ∧ s ≤ r ∧ r ≤ r0 ∧ (∀ c, s0 ≤ c → c < s → T c = true) ∧ ∀ c, r ≤ c → c < r0 → T c = false
def Fal (T : Int → Bool) (s0 r0 : Int) : Prop := ∀ c c', s0 ≤ c' → c' ≤ c → c < r0 → T c = true → T c' = true
theorem Bis.zero {T : Int → Bool} {s0 r0 : Int} (h : s0 ≤ r0) : Bis T s0 r0 s0 r0 := ⟨by omega, h, by omega, fun c _ _ => by omega, fun c _ _ => by omega⟩
theorem Bis.up {T : Int → Bool} {s0 r0 s r c : Int} (h : Bis T s0 r0 s r) (hf : Fal T s0 r0) (h1 : s ≤ c) (h2 : c < r) (ht : T c = true) : Bis T s0 r0 (c + 1) r := by
  obtain ⟨a, b, d, e, f⟩ := h
  exact ⟨by omega, by omega, d, fun k hk hk2 => hf c k hk (by omega) (by omega) ht, f⟩
theorem Bis.down {T : Int → Bool} {s0 r0 s r c : Int} (h : Bis T s0 r0 s r) (hf : Fal T s0 r0) (h1 : s ≤ c) (h2 : c < r) (ht : T c = false) : Bis T s0 r0 s c := by
  obtain ⟨a, b, d, e, f⟩ := h
  refine ⟨a, by omega, by omega, e, fun k hk hk2 => ?_⟩
  cases q : T k
  · rfl
  · have := hf k c (by omega) hk hk2 q
    rw [ht] at this; cases this
def ltAt (lt : α → α → Bool) (W : List α) (i j : Nat) : Bool := match W[i]?, W[j]? with | some x, some y => lt x y | _, _ => false
theorem ltAt_eq {W : List α} {i j : Nat} (hi : i < W.length) (hj : j < W.length) : ltAt lt W i j = lt W[i] W[j] := by simp [ltAt, hi, hj]
theorem part_at {P M Q W : List α} {i k : Nat} (hW : W = P ++ M ++ Q) (hk : k < M.length) (hi : i = P.length + k) : ∃ h : i < W.length, W[i] = M[k] := by
  subst hi hW
  refine ⟨by simp; omega, ?_⟩
  rw [List.getElem_append_left (by simp; omega), List.getElem_append_right (by omega)]
  simp
/-- In a sorted range the later is not below the earlier. -/
theorem Srt.range {P M Q W : List α} (hw : Wk lt) (hs : Srt lt M) (hW : W = P ++ M ++ Q) {i j : Nat} (h1 : P.length ≤ i) (hij : i ≤ j) (h2 : j < P.length + M.length) : ∃ (hi : i < W.length) (hj : j < W.length), lt W[j] W[i] = false := by
  obtain ⟨a, ea⟩ := part_at hW (k := i - P.length) (i := i) (by omega) (by omega)
  obtain ⟨b, eb⟩ := part_at hW (k := j - P.length) (i := j) (by omega) (by omega)
  exact ⟨a, b, by rw [ea, eb]; exact hs.get hw (by omega) (by omega)⟩
/-! ### One on the left -/
def LeI (P : List α) (x : α) (B Q : List α) (k : Int) (W : List α) : Prop := ∃ t : Nat, t ≤ B.length ∧ k = P.length + t ∧ W = P ++ B.take t ++ x :: B.drop t ++ Q
theorem LeI.zero {P : List α} {x : α} {B Q W : List α} {k : Int} (h : W = P ++ [x] ++ B ++ Q) (hk : k = P.length) : LeI P x B Q k W := ⟨0, by omega, by omega, by simp [h]⟩
theorem LeI.step {P : List α} {x : α} {B Q W : List α} {k : Int} (h : LeI P x B Q k W) (hk : k < P.length + B.length) (h1 : k.toNat + 1 < W.length) (h2 : k.toNat < W.length) : LeI P x B Q (k + 1) ((W.set k.toNat W[k.toNat + 1]).set (k.toNat + 1) W[k.toNat]) := by
  obtain ⟨t, ht, rfl, e⟩ := h
  have hW : W = (P ++ B.take t) ++ x :: [] ++ (B[t]'(by omega)) :: (B.drop (t + 1) ++ Q) := by
    rw [e, List.drop_eq_getElem_cons (l := B) (i := t) (by omega)]; simp only [List.append_assoc, List.cons_append, List.nil_append, List.singleton_append]
  obtain ⟨_, _, f1, f2, f3, _⟩ := exch_eq hW (i := ((P.length : Int) + t).toNat) (j := ((P.length : Int) + t).toNat + 1) (by simp; omega) (by simp; omega)
  rw [f1, f2, f3]
  exact ⟨t + 1, by omega, by omega, by rw [List.take_succ_eq_append_getElem (by omega)]; simp only [List.append_assoc, List.cons_append, List.nil_append, List.singleton_append]⟩
theorem LeI.done {P : List α} {x : α} {B Q W : List α} {k : Int} (h : LeI P x B Q k W) : W = P ++ (B.take (k - P.length).toNat ++ x :: B.drop (k - P.length).toNat) ++ Q := by
  obtain ⟨t, ht, rfl, e⟩ := h
  rw [e, show ((P.length : Int) + t - P.length).toNat = t by omega]; simp
/-! ### One on the right -/
def RiI (P : List α) (x : α) (A Q : List α) (k : Int) (W : List α) : Prop := ∃ t : Nat, t ≤ A.length ∧ k = P.length + t ∧ W = P ++ A.take t ++ x :: A.drop t ++ Q
theorem RiI.zero {P : List α} {x : α} {A Q W : List α} {k : Int} (h : W = P ++ A ++ [x] ++ Q) (hk : k = P.length + A.length) : RiI P x A Q k W := ⟨A.length, by omega, by omega, by simp [h]⟩
theorem RiI.step {P : List α} {x : α} {A Q W : List α} {k : Int} (h : RiI P x A Q k W) (hk : (P.length : Int) < k) (h1 : k.toNat < W.length) (h2 : k.toNat - 1 < W.length) : RiI P x A Q (k - 1) ((W.set k.toNat W[k.toNat - 1]).set (k.toNat - 1) W[k.toNat]) := by
  obtain ⟨t, ht, rfl, e⟩ := h
  obtain ⟨t, rfl⟩ : ∃ s, t = s + 1 := ⟨t - 1, by omega⟩
  have hW : W = (P ++ A.take t) ++ (A[t]'(by omega)) :: [] ++ x :: (A.drop (t + 1) ++ Q) := by
    rw [e, List.take_succ_eq_append_getElem (by omega)]; simp only [List.append_assoc, List.cons_append, List.nil_append, List.singleton_append]
  obtain ⟨_, _, f1, f2, _, f4⟩ := exch_eq hW (i := ((P.length : Int) + (t + 1 : Nat)).toNat - 1) (j := ((P.length : Int) + (t + 1 : Nat)).toNat) (by simp; omega) (by simp; omega)
  rw [f1, f2, f4]
  exact ⟨t, by omega, by omega, by rw [List.drop_eq_getElem_cons (l := A) (i := t) (by omega)]; simp only [List.append_assoc, List.cons_append, List.nil_append, List.singleton_append]⟩
theorem RiI.done {P : List α} {x : α} {A Q W : List α} {k : Int} (h : RiI P x A Q k W) : W = P ++ (A.take (k - P.length).toNat ++ x :: A.drop (k - P.length).toNat) ++ Q := LeI.done h
theorem two_at {us P A B Q : List α} (hu : us = P ++ A ++ B ++ Q) {i : Nat} (hi : i < A.length) : ∃ h : P.length + i < us.length, us[P.length + i] = A[i] :=
  part_at (P := P) (M := A) (Q := B ++ Q) (by rw [hu]; simp) hi rfl
theorem two_at' {us P A B Q : List α} (hu : us = P ++ A ++ B ++ Q) {i : Nat} (hi : i < B.length) : ∃ h : P.length + A.length + i < us.length, us[P.length + A.length + i] = B[i] :=
  part_at (P := P ++ A) (M := B) (Q := Q) hu hi (by simp)
theorem ltAt_BA {us P A B Q : List α} (hu : us = P ++ A ++ B ++ Q) {i j x y : Nat} (hi : i < B.length) (hj : j < A.length) (hx : x = P.length + A.length + i) (hy : y = P.length + j) : ltAt lt us x y = lt B[i] A[j] := by
  obtain ⟨h1, e1⟩ := two_at' hu hi
  obtain ⟨h2, e2⟩ := two_at hu hj
  subst hx hy
  rw [ltAt_eq h1 h2, e1, e2]
theorem fal_left {us P A B Q : List α} {T : Int → Bool} {a m b : Int} (hw : Wk lt) (hB : Srt lt B) (hu : us = P ++ A ++ B ++ Q) (ha : a = P.length) (hm : m = P.length + A.length) (hb : b = P.length + A.length + B.length) (hA : 0 < A.length) (hT : ∀ c, T c = ltAt lt us c.toNat a.toNat) : Fal T m b := fun c c' h1 h2 h3 h4 => by
  obtain ⟨i, rfl⟩ : ∃ i : Nat, c = P.length + A.length + i := ⟨(c - m).toNat, by omega⟩
  obtain ⟨j, rfl⟩ : ∃ i : Nat, c' = P.length + A.length + i := ⟨(c' - m).toNat, by omega⟩
  rw [hT, ltAt_BA hu (i := i) (j := 0) (by omega) hA (by omega) (by omega)] at h4
  rw [hT, ltAt_BA hu (i := j) (j := 0) (by omega) hA (by omega) (by omega)]
  exact hw.trans' (hB.get hw (i := j) (j := i) (by omega) (by omega)) h4
theorem fal_right {us P A B Q : List α} {T : Int → Bool} {a m : Int} (hw : Wk lt) (hA : Srt lt A) (hu : us = P ++ A ++ B ++ Q) (ha : a = P.length) (hm : m = P.length + A.length) (hB : 0 < B.length) (hT : ∀ c, T c = !ltAt lt us m.toNat c.toNat) : Fal T a m := fun c c' h1 h2 h3 h4 => by
  obtain ⟨i, rfl⟩ : ∃ i : Nat, c = P.length + i := ⟨(c - a).toNat, by omega⟩
  obtain ⟨j, rfl⟩ : ∃ i : Nat, c' = P.length + i := ⟨(c' - a).toNat, by omega⟩
  rw [hT, ltAt_BA hu (i := 0) (j := i) hB (by omega) (by omega) (by omega), Bool.not_eq_true'] at h4
  rw [hT, ltAt_BA hu (i := 0) (j := j) hB (by omega) (by omega) (by omega), Bool.not_eq_true']
  exact hw.neg _ _ _ (hA.get hw (i := j) (j := i) (by omega) (by omega)) h4
theorem fal_both {us P A B Q : List α} {T : Int → Bool} {a m b mid s0 r0 : Int} (hw : Wk lt) (hA : Srt lt A) (hB : Srt lt B) (hu : us = P ++ A ++ B ++ Q) (ha : a = P.length) (hm : m = P.length + A.length) (hb : b = P.length + A.length + B.length) (hT : ∀ c, T c = !ltAt lt us (mid + m - 1 - c).toNat c.toNat)
    (g1 : a ≤ s0) (g2 : r0 ≤ m) (g3 : r0 ≤ mid) (g4 : mid + m - s0 ≤ b) : Fal T s0 r0 := fun c c' h1 h2 h3 h4 => by
  obtain ⟨i, rfl⟩ : ∃ i : Nat, c = P.length + i := ⟨(c - a).toNat, by omega⟩
  obtain ⟨j, rfl⟩ : ∃ i : Nat, c' = P.length + i := ⟨(c' - a).toNat, by omega⟩
  have p1 := ltAt_BA (lt := lt) hu (i := (mid + m - 1 - (P.length + i) - m).toNat) (j := i) (x := (mid + m - 1 - (P.length + i)).toNat) (y := ((P.length : Int) + i).toNat) (by omega) (by omega) (by omega) (by omega)
  have p2 := ltAt_BA (lt := lt) hu (i := (mid + m - 1 - (P.length + j) - m).toNat) (j := j) (x := (mid + m - 1 - (P.length + j)).toNat) (y := ((P.length : Int) + j).toNat) (by omega) (by omega) (by omega) (by omega)
  rw [hT, p1, Bool.not_eq_true'] at h4
  rw [hT, p2, Bool.not_eq_true']
  exact hw.neg _ _ _ (hA.get hw (i := j) (j := i) (by omega) (by omega)) (hw.neg _ _ _ h4 (hB.get hw (i := (mid + m - 1 - (P.length + i) - m).toNat) (j := (mid + m - 1 - (P.length + j) - m).toNat) (by omega) (by omega)))
theorem merge_left {us P B Q W : List α} {x : α} {T : Int → Bool} {a m b i k : Int} (hB : Srt lt B) (hu : us = P ++ [x] ++ B ++ Q) (ha : a = P.length) (hm : m = P.length + 1) (hb : b = P.length + 1 + B.length) (hT : ∀ c, T c = ltAt lt us c.toNat a.toNat) (hs : Bis T m b i i) (hk : k = i - 1) (hW : LeI P x B Q k W) : W = P ++ mergeI lt [x] B ++ Q := by
  subst hk
  obtain ⟨g1, _, g2, g3, g4⟩ := hs
  have key : ∀ (j : Nat) (hj : j < B.length), T (P.length + 1 + j) = lt B[j] x := fun j hj => by
    rw [hT, ltAt_BA hu (i := j) (j := 0) hj (by simp) (by simp; omega) (by omega)]; rfl
  rw [hW.done, mergeI_single (i := (i - 1 - P.length).toNat) hB (fun j hj hji => ?_) (fun j hj hji => ?_) (by omega)]
  · rw [← key j hj]; exact g3 _ (by omega) (by omega)
  · rw [← key j hj]; exact g4 _ (by omega) (by omega)
theorem merge_right {us P A Q W : List α} {x : α} {T : Int → Bool} {a m i k : Int} (hu : us = P ++ A ++ [x] ++ Q) (ha : a = P.length) (hm : m = P.length + A.length) (hT : ∀ c, T c = !ltAt lt us m.toNat c.toNat) (hs : Bis T a m i i) (hk : k = i) (hW : RiI P x A Q k W) : W = P ++ mergeI lt A [x] ++ Q := by
  subst hk
  obtain ⟨g1, _, g2, g3, g4⟩ := hs
  have key : ∀ (j : Nat) (hj : j < A.length), T (P.length + j) = !lt x A[j] := fun j hj => by
    rw [hT, ltAt_BA hu (i := 0) (j := j) (by simp) hj (by simp; omega) (by omega)]; rfl
  rw [hW.done, mergeI_last (i := (k - P.length).toNat) (fun j hj hji => ?_) (fun j hj hji => ?_) (by omega)]
  · have := g3 (P.length + j) (by omega) (by omega)
    rwa [key j hj, Bool.not_eq_true'] at this
  · have := g4 (P.length + j) (by omega) (by omega)
    rwa [key j hj, Bool.not_eq_false'] at this
theorem sym_cut (hw : Wk lt) {us P A B Q : List α} {T : Int → Bool} {a m b mid s0 r0 s : Int} (hA : Srt lt A) (hB : Srt lt B) (hu : us = P ++ A ++ B ++ Q) (ha : a = P.length) (hm : m = P.length + A.length) (hb : b = P.length + A.length + B.length) (hT : ∀ c, T c = !ltAt lt us (mid + m - 1 - c).toNat c.toNat) (hs : Bis T s0 r0 s s)
    (g1 : a ≤ s0) (g2 : r0 ≤ m) (g3 : r0 ≤ mid) (g4 : mid + m - s0 ≤ b) (g5 : r0 = m ∨ r0 = mid) (g6 : s0 = a ∨ mid + m - s0 = b) :
    ∃ a1 a2 b1 b2, A = a1 ++ a2 ∧ B = b1 ++ b2 ∧ (a1.length : Int) = s - a ∧ (a2.length : Int) = m - s ∧ (b1.length : Int) = mid - s ∧ (b2.length : Int) = b - (mid + m - s) ∧ mergeI lt A B = mergeI lt a1 b1 ++ mergeI lt a2 b2 := by
  obtain ⟨f1, _, f2, f3, f4⟩ := hs
  obtain ⟨k, hk⟩ : ∃ k : Nat, (k : Int) = s - a := ⟨(s - a).toNat, by omega⟩
  obtain ⟨l, hl⟩ : ∃ l : Nat, (l : Int) = mid - s := ⟨(mid - s).toNat, by omega⟩
  have eA : A.take k ++ A.drop k = A := List.take_append_drop k A
  have eB : B.take l ++ B.drop l = B := List.take_append_drop l B
  refine ⟨A.take k, A.drop k, B.take l, B.drop l, eA.symm, eB.symm, by simp; omega, by simp; omega, by simp; omega, by simp; omega, ?_⟩
  conv => lhs; rw [← eA, ← eB]
  refine mergeI_parts (fun x hx y hy => ?_) (fun x hx y hy => ?_) fun x hx y hy => ?_
  · obtain ⟨i, hi, rfl⟩ := List.getElem_of_mem hx
    obtain ⟨j, hj, rfl⟩ := List.getElem_of_mem hy
    simp only [List.length_take, List.length_drop] at hi hj
    rw [List.getElem_take, List.getElem_drop]
    have := f4 s (by omega) (by omega)
    rw [hT, ltAt_BA hu (i := l - 1) (j := k) (by omega) (by omega) (by omega) (by omega), Bool.not_eq_false'] at this
    exact hw.trans (hw.trans' (hB.get hw (i := i) (j := l - 1) (by omega) (by omega)) this) (hA.get hw (i := k) (j := k + j) (by omega) (by omega))
  · obtain ⟨i, hi, rfl⟩ := List.getElem_of_mem hx
    obtain ⟨j, hj, rfl⟩ := List.getElem_of_mem hy
    simp only [List.length_take, List.length_drop] at hi hj
    rw [List.getElem_take, List.getElem_drop]
    have := f3 (s - 1) (by omega) (by omega)
    rw [hT, ltAt_BA hu (i := l) (j := k - 1) (by omega) (by omega) (by omega) (by omega), Bool.not_eq_true'] at this
    exact hw.neg _ _ _ (hw.neg _ _ _ (hA.get hw (i := j) (j := k - 1) (by omega) (by omega)) this) (hB.get hw (i := l) (j := l + i) (by omega) (by omega)) |> id
  · obtain ⟨i, hi, rfl⟩ := List.getElem_of_mem hx
    obtain ⟨j, hj, rfl⟩ := List.getElem_of_mem hy
    simp only [List.length_take, List.length_drop] at hi hj
    rw [List.getElem_take, List.getElem_drop]
    exact hB.get hw (i := j) (j := l + i) (by omega) (by omega)
theorem mergeI_nil (hw : Wk lt) : ∀ {b : List α}, Srt lt b → mergeI lt [] b = b := fun {b} hs => by
  have key : ∀ (l t : List α), Srt lt (t ++ l) → mergeI lt t l = t ++ l := fun l => by
    induction l with
    | nil => intro t _; simp [mergeI]
    | cons x l ih =>
      intro t ht
      have e : insR lt t x = t ++ [x] := by
        have := insR_all (lt := lt) (u := t) (v := []) (x := x) (fun y hy => (List.pairwise_append.1 ht).2.2 y hy x (by simp)) (by simp)
        simpa using this
      show mergeI lt (insR lt t x) l = _
      rw [e, ih (t ++ [x]) (by simpa using ht)]; simp
  exact key b [] (by simpa using hs)
theorem merge_none (hw : Wk lt) {a b : List α} (hb : Srt lt b) (h : a.length = 0 ∨ b.length = 0) : mergeI lt a b = a ++ b := by
  rcases h with h | h
  · have : a = [] := List.eq_nil_of_length_eq_zero h
    subst this; exact mergeI_nil hw hb
  · have : b = [] := List.eq_nil_of_length_eq_zero h
    subst this; simp [mergeI]
/-! ### The blocks -/
def blks (lt : α → α → Bool) (z : Nat) (us : List α) : List α := isort lt (us.take z) ++ (isort lt ((us.drop z).take z) ++ isort lt (us.drop (2 * z)))
theorem isort_nil : isort lt ([] : List α) = [] := rfl
theorem blks_all {us : List α} {z : Nat} (h : us.length ≤ z) : blks lt z us = isort lt us := by
  unfold blks
  rw [List.take_of_length_le h, List.drop_eq_nil_of_le h, List.drop_eq_nil_of_le (by omega)]; simp [isort_nil]
theorem blks_len {us : List α} {z : Nat} (h : us.length ≤ 3 * z) : (blks lt z us).length = us.length := by
  unfold blks
  simp only [List.length_append, isort_len, List.length_take, List.length_drop]; omega
/-- The next size, from two blocks merged. -/
theorem blks_two {us : List α} {z : Nat} (hw : Wk lt) (h : us.length ≤ 4 * z) : isort lt (us.take (2 * z)) ++ isort lt (us.drop (2 * z)) = blks lt (2 * z) us := by
  unfold blks
  rw [List.take_of_length_le (l := us.drop (2 * z)) (by simp; omega), List.drop_eq_nil_of_le (show us.length ≤ 2 * (2 * z) by omega)]; simp [isort_nil]
theorem take_two {us : List α} {z : Nat} : us.take z ++ (us.drop z).take z = us.take (2 * z) := by
  rw [show 2 * z = z + z by omega, List.take_add]
theorem blks_merge {us : List α} {z : Nat} (hw : Wk lt) : mergeI lt (isort lt (us.take z)) (isort lt ((us.drop z).take z)) = isort lt (us.take (2 * z)) := by
  rw [isort_app hw, take_two]
/-- The first blocks, put in order one after the other. -/
def BlI (lt : α → α → Bool) (us : List α) (a : Int) (W : List α) : Prop := (a = 0 ∧ W = us) ∨ (a = 20 ∧ 20 ≤ us.length ∧ W = isort lt (us.take 20) ++ us.drop 20) ∨ (a = 40 ∧ 40 ≤ us.length ∧ W = isort lt (us.take 20) ++ (isort lt ((us.drop 20).take 20) ++ us.drop 40))
theorem BlI.len {us W : List α} {a : Int} (h : BlI lt us a W) : W.length = us.length := by
  rcases h with ⟨_, rfl⟩ | ⟨_, _, rfl⟩ | ⟨_, _, rfl⟩
  · rfl
  · simp only [List.length_append, isort_len, List.length_take, List.length_drop]; omega
  · simp only [List.length_append, isort_len, List.length_take, List.length_drop]; omega
theorem BlI.le {us W : List α} {a : Int} (h : BlI lt us a W) : 0 ≤ a ∧ a ≤ us.length := by
  rcases h with ⟨rfl, _⟩ | ⟨rfl, _, _⟩ | ⟨rfl, _, _⟩ <;> omega
theorem cut_three (W : List α) {i j : Nat} (hij : i ≤ j) : W = W.take i ++ (W.take j).drop i ++ W.drop j := by
  conv => lhs; rw [← List.take_append_drop j W]
  congr 1
  have := List.take_append_drop i (W.take j)
  rw [List.take_take, Nat.min_eq_left hij] at this
  exact this.symm
theorem BlI.next {us W : List α} {a : Int} (h : BlI lt us a W) (ha : a + 20 ≤ us.length) (hl : us.length ≤ 48) : BlI lt us (a + 20) (W.take a.toNat ++ isort lt ((W.take (a + 20).toNat).drop a.toNat) ++ W.drop (a + 20).toNat) := by
  rcases h with ⟨rfl, rfl⟩ | ⟨rfl, h2, rfl⟩ | ⟨rfl, h2, rfl⟩
  · exact .inr (.inl ⟨by omega, by omega, by simp⟩)
  · refine .inr (.inr ⟨by omega, by omega, ?_⟩)
    have l1 : (isort lt (us.take 20)).length = 20 := by rw [isort_len, List.length_take]; omega
    show (isort lt (us.take 20) ++ us.drop 20).take 20 ++ isort lt (((isort lt (us.take 20) ++ us.drop 20).take 40).drop 20) ++ (isort lt (us.take 20) ++ us.drop 20).drop 40 = _
    have e1 : (isort lt (us.take 20) ++ us.drop 20).take 20 = isort lt (us.take 20) := by rw [List.take_append_of_le_length (by omega), List.take_of_length_le (by omega)]
    have e2 : ((isort lt (us.take 20) ++ us.drop 20).take 40).drop 20 = (us.drop 20).take 20 := by
      rw [List.drop_take, List.drop_append_of_le_length (by omega), List.drop_eq_nil_of_le (by omega)]; rfl
    have e3 : (isort lt (us.take 20) ++ us.drop 20).drop 40 = us.drop 40 := by
      rw [List.drop_append, List.drop_eq_nil_of_le (by omega), l1, List.drop_drop]; rfl
    rw [e1, e2, e3, List.append_assoc]
  · omega
theorem BlI.done {us W : List α} {a : Int} (h : BlI lt us a W) (ha : (us.length : Int) < a + 20) : W.take a.toNat ++ isort lt ((W.take us.length).drop a.toNat) ++ W.drop us.length = blks lt 20 us := by
  have hl := h.len
  rw [List.drop_eq_nil_of_le (show W.length ≤ us.length by omega), List.take_of_length_le (l := W) (i := us.length) (by omega), List.append_nil]
  rcases h with ⟨rfl, rfl⟩ | ⟨rfl, h2, rfl⟩ | ⟨rfl, h2, rfl⟩
  · rw [blks_all (by omega)]; simp
  · have l1 : (isort lt (us.take 20)).length = 20 := by rw [isort_len, List.length_take]; omega
    show (isort lt (us.take 20) ++ us.drop 20).take 20 ++ isort lt ((isort lt (us.take 20) ++ us.drop 20).drop 20) = _
    rw [List.take_append_of_le_length (by omega), List.take_of_length_le (by omega), List.drop_append_of_le_length (by omega), List.drop_eq_nil_of_le (show (isort lt (us.take 20)).length ≤ 20 by omega), List.nil_append]
    unfold blks
    rw [List.take_of_length_le (l := us.drop 20) (by simp; omega), List.drop_eq_nil_of_le (show us.length ≤ 2 * 20 by omega)]; simp [isort_nil]
  · have l1 : (isort lt (us.take 20)).length = 20 := by rw [isort_len, List.length_take]; omega
    have l2 : (isort lt ((us.drop 20).take 20)).length = 20 := by rw [isort_len, List.length_take, List.length_drop]; omega
    show (isort lt (us.take 20) ++ (isort lt ((us.drop 20).take 20) ++ us.drop 40)).take 40 ++ isort lt ((isort lt (us.take 20) ++ (isort lt ((us.drop 20).take 20) ++ us.drop 40)).drop 40) = _
    have l3 : (isort lt (us.take 20) ++ isort lt ((us.drop 20).take 20)).length = 40 := by rw [List.length_append, l1, l2]
    have e0 : isort lt (us.take 20) ++ (isort lt ((us.drop 20).take 20) ++ us.drop 40) = (isort lt (us.take 20) ++ isort lt ((us.drop 20).take 20)) ++ us.drop 40 := by simp only [List.append_assoc]
    unfold blks
    rw [e0, ← List.append_assoc]
    generalize isort lt (us.take 20) ++ isort lt ((us.drop 20).take 20) = V at l3
    rw [List.take_append_of_le_length (by omega), List.take_of_length_le (by omega), List.drop_append_of_le_length (by omega), List.drop_eq_nil_of_le (show V.length ≤ 40 by omega), List.nil_append]
theorem no_rot {P a1 a2 b1 b2 Q : List α} (h : a2.length = 0 ∨ b1.length = 0) : P ++ (a1 ++ a2) ++ (b1 ++ b2) ++ Q = P ++ a1 ++ b1 ++ (a2 ++ (b2 ++ Q)) := by
  rcases h with h | h
  · have : a2 = [] := List.eq_nil_of_length_eq_zero h
    subst this; simp
  · have : b1 = [] := List.eq_nil_of_length_eq_zero h
    subst this; simp
theorem sym_none {P a b a2 b2 Q : List α} (hw : Wk lt) (hb : Srt lt b) (h : a.length = 0 ∨ b.length = 0) : P ++ a ++ b ++ (a2 ++ (b2 ++ Q)) = P ++ mergeI lt a b ++ a2 ++ b2 ++ Q := by rw [merge_none hw hb h]; simp
theorem sym_none2 {P a b Q : List α} (hw : Wk lt) (hb : Srt lt b) (h : a.length = 0 ∨ b.length = 0) : P ++ a ++ b ++ Q = P ++ mergeI lt a b ++ Q := by rw [merge_none hw hb h]; simp
end
end Go.Proofs.YtibhoanjglfaoaaGreat

/- Ranges exchanged, rotated, put in order (printed by walk.py) -/
namespace Go.Proofs.YtibhoanjglfaoaaGreat
open Go.RowKit
set_option linter.unusedVariables false
set_option linter.unusedSimpArgs false
set_option maxRecDepth 100000

set_option maxHeartbeats 4000000 in
theorem cmpC_c (x y : Changet) : AC Tryz.prog 56 [.agg (changeC x), .agg (changeC y)] [] (.one (.c (.int .i64 (cmpC x y)))) [] := by
  refine AC_body1 Tryz.func56 rfl rfl Tryz.ntmps56 rfl Tryz.results56 ?_
  refine AW_seq ?_
  refine AW_region ?_
  refine AL_p (x_box 100 rfl rfl rfl rfl rfl rfl rfl) ?_
  refine AL_p (x_box 101 rfl rfl rfl rfl rfl rfl rfl) ?_
  refine AL_p (x_assign rfl rfl) ?_
  refine AL_nil ?_
  refine AW_seq ?_
  refine AW_block ?_
  refine AW_seq ?_
  refine AW_region ?_
  refine AL_p (x_field (off := 0) (o' := 0) rfl rfl rfl (by kernel_rfl) rfl) ?_
  refine AL_p (x_load1 rfl rfl rfl (by kernel_rfl) rfl) ?_
  refine AL_p (x_field (off := 0) (o' := 0) rfl rfl rfl (by kernel_rfl) rfl) ?_
  refine AL_p (x_load1 rfl rfl rfl (by kernel_rfl) rfl) ?_
  refine AL_b (x_slss rfl rfl rfl) (fun b10 h10 => ?_)
  refine AL_p (x_assign rfl rfl) ?_
  refine AL_nil ?_
  cases b10
  rotate_left
  · try simp only [tdy] at h10
    refine AW_condT rfl ?_
    refine AW_seq ?_
    refine AW_region ?_
    refine AL_p (x_assign rfl rfl) ?_
    refine AL_nil ?_
    refine AW_ret (BQ_ret ?_)
    exact ⟨rn [], ⟨⟨⟨_, rfl, vle_int (by first | exact (cmpC_lt h10).symm | exact (cmpC_gt' h10 h16).symm | exact (cmpC_eq' h10 h16).symm)⟩, trivial⟩, trivial, trivial, rfl⟩⟩
  try simp only [tdy] at h10
  refine AW_condF rfl ?_
  refine AW_seq ?_
  refine AW_region ?_
  refine AL_p (x_field (off := 0) (o' := 0) rfl rfl rfl (by kernel_rfl) rfl) ?_
  refine AL_p (x_load1 rfl rfl rfl (by kernel_rfl) rfl) ?_
  refine AL_p (x_field (off := 0) (o' := 0) rfl rfl rfl (by kernel_rfl) rfl) ?_
  refine AL_p (x_load1 rfl rfl rfl (by kernel_rfl) rfl) ?_
  refine AL_b (x_sgtr rfl rfl rfl) (fun b16 h16 => ?_)
  refine AL_p (x_assign rfl rfl) ?_
  refine AL_nil ?_
  cases b16
  rotate_left
  · try simp only [tdy] at h16
    refine AW_condT rfl ?_
    refine AW_seq ?_
    refine AW_region ?_
    refine AL_p (x_assign rfl rfl) ?_
    refine AL_nil ?_
    refine AW_ret (BQ_ret ?_)
    exact ⟨rn [], ⟨⟨⟨_, rfl, vle_int (by first | exact (cmpC_lt h10).symm | exact (cmpC_gt' h10 h16).symm | exact (cmpC_eq' h10 h16).symm)⟩, trivial⟩, trivial, trivial, rfl⟩⟩
  try simp only [tdy] at h16
  refine AW_condF rfl ?_
  refine AW_skip ?_
  refine AW_seq ?_
  refine AW_region ?_
  refine AL_p (x_assign rfl rfl) ?_
  refine AL_nil ?_
  refine AW_ret ?_
  exact ⟨rn [], ⟨⟨⟨_, rfl, vle_int (by first | exact (cmpC_lt h10).symm | exact (cmpC_gt' h10 h16).symm | exact (cmpC_eq' h10 h16).symm)⟩, trivial⟩, trivial, trivial, rfl⟩⟩

set_option maxHeartbeats 4000000 in
theorem sameC_c (x y : Changet) : AC Tryz.prog 58 [.agg (changeC x), .agg (changeC y)] [] (.one (.c (.bool (x.name == y.name)))) [] := by
  refine AC_body1 Tryz.func58 rfl rfl Tryz.ntmps58 rfl Tryz.results58 ?_
  refine AW_seq ?_
  refine AW_region ?_
  refine AL_p (x_box 100 rfl rfl rfl rfl rfl rfl rfl) ?_
  refine AL_p (x_box 101 rfl rfl rfl rfl rfl rfl rfl) ?_
  refine AL_p (x_assign rfl rfl) ?_
  refine AL_nil ?_
  refine AW_seq ?_
  refine AW_region ?_
  refine AL_p (x_field (off := 0) (o' := 0) rfl rfl rfl (by kernel_rfl) rfl) ?_
  refine AL_p (x_load1 rfl rfl rfl (by kernel_rfl) rfl) ?_
  refine AL_p (x_field (off := 0) (o' := 0) rfl rfl rfl (by kernel_rfl) rfl) ?_
  refine AL_p (x_load1 rfl rfl rfl (by kernel_rfl) rfl) ?_
  refine AL_b (x_seql rfl rfl rfl) (fun b9 h9 => ?_)
  refine AL_p (x_assign rfl rfl) ?_
  refine AL_nil ?_
  refine AW_ret ?_
  cases b9
  rotate_left
  · try simp only [tdy] at h9
    exact ⟨rn [], ⟨⟨⟨_, rfl, vle_bool (by first | exact (rfl).symm | exact (h9.symm).symm | (simp [*]))⟩, trivial⟩, trivial, trivial, rfl⟩⟩
  try simp only [tdy] at h9
  exact ⟨rn [], ⟨⟨⟨_, rfl, vle_bool (by first | exact (rfl).symm | exact (h9.symm).symm | (simp [*]))⟩, trivial⟩, trivial, trivial, rfl⟩⟩

set_option maxHeartbeats 4000000 in
theorem swapR_c (us : List Changet) (a b n : Int) (P X M Y Q : List Changet) (hu : us = P ++ X ++ M ++ Y ++ Q) (ha : a = P.length) (hb : b = P.length + X.length + M.length) (hn : n = X.length) (hxy : X.length = Y.length) (hl : us.length ≤ 1048576) : AC Tryz.prog 178 [.one (.own 0), .one (.c (.int .i64 (a))), .one (.c (.int .i64 (b))), .one (.c (.int .i64 (n))), .one (.clo 56 [])] [(0, some (.arr 65 changeE us false))] (.tup []) [(0, some (.arr 65 changeE (P ++ Y ++ M ++ X ++ Q) false))] := by
  have hul : us.length = P.length + X.length + M.length + Y.length + Q.length := by subst hu; simp only [List.length_append]
  refine AC_body0 Tryz.func178 rfl rfl Tryz.ntmps178 rfl Tryz.results178 ?_
  refine AW_seq ?_
  refine AW_region ?_
  refine AL_p (x_assign rfl rfl) ?_
  refine AL_nil ?_
  refine AW_block ?_
  refine AW_loop2 (ι := {q : Nat × List Changet // (q.1) ≤ X.length ∧ ((q.2).length = us.length ∧ SwI P X M Y Q (q.1) (q.2))}) (fun p => [(10, .one (.c (.int .i64 (((p.1.1) : Int)))))]) (fun p => [(0, some (.arr 65 changeE (p.1.2) false))]) [0, 1, 2, 3] [] (fun p => X.length - (p.1.1)) ⟨⟨0, us⟩, ⟨by omega, rfl, .zero hu⟩⟩ (rn []) ?_ ?_
  exact ⟨by (repeat refine ⟨⟨_, rfl, by first | exact VLe.rf | exact vle_int (by dsimp only; omega)⟩, ?_⟩); exact trivial, by (repeat refine ⟨⟨_, rfl, by first | exact BLe.rf | exact BLe.box AllC.rf | exact BLe.arr (by exact rfl)⟩, ?_⟩); exact trivial, by repeat (first | exact trivial | refine ⟨⟨rfl, by first | (left; intro h; cases h) | (right; rfl), by first | exact (fun _ h => ⟨_, h⟩) | exact (fun _ _ => ⟨_, rfl⟩) | (intro _ h; cases h)⟩, ?_⟩), rfl⟩
  rintro ⟨⟨i, W⟩, hinv⟩
  dsimp only
  obtain ⟨hi, hwl, hs⟩ := hinv
  have hi : i ≤ X.length := hi
  have hwl : W.length = us.length := hwl
  refine AW_seq ?_
  refine AW_seq ?_
  refine AW_region ?_
  refine AL_p (x_move rfl rfl) ?_
  refine AL_p (x_move rfl rfl) ?_
  refine AL_b (x_lss rfl rfl rfl) (fun b13 h13 => ?_)
  refine AL_nil ?_
  cases b13
  · try simp only [tdy] at h13
    refine AW_condF rfl ?_
    refine AW_exit (BQ_hit ?_)
    exact ⟨rn [], ⟨trivial, ⟨⟨_, rfl, BLe.arr (hs.done hxy (by omega))⟩, trivial⟩, by repeat (first | exact trivial | refine ⟨⟨rfl, by first | (left; intro h; cases h) | (right; rfl), by first | exact (fun _ h => ⟨_, h⟩) | exact (fun _ _ => ⟨_, rfl⟩) | (intro _ h; cases h)⟩, ?_⟩), rfl⟩⟩
  try simp only [tdy] at h13
  refine AW_condT rfl ?_
  refine AW_skip ?_
  refine AW_seq ?_
  refine AW_block ?_
  refine AW_draw rfl ?_
  refine AL_p (x_move rfl rfl) ?_
  refine AL_p (x_move rfl rfl) ?_
  refine AL_p (x_move rfl rfl) ?_
  refine AL_p (x_add rfl rfl rfl (IntWalk.i64_in _ (by omega))) ?_
  refine AL_p (x_move rfl rfl) ?_
  refine AL_p (x_move rfl rfl) ?_
  refine AL_p (x_move rfl rfl) ?_
  refine AL_p (x_add rfl rfl rfl (IntWalk.i64_in _ (by omega))) ?_
  refine AL_p (x_move rfl rfl) ?_
  refine AL_p (x_move rfl rfl) ?_
  refine AL_p (x_move rfl rfl) ?_
  refine AL_p (x_add rfl rfl rfl (IntWalk.i64_in _ (by omega))) ?_
  refine AL_p (x_oindex (n := 5) rfl rfl rfl rfl (by kernel_rfl) rfl (k := b.toNat + i) (by omega) (by omega)) ?_
  refine AL_p (x_oloadN (n := 5) rfl rfl rfl (by kernel_rfl) (by omega) rfl rfl) ?_
  refine AL_p (x_move rfl rfl) ?_
  refine AL_p (x_move rfl rfl) ?_
  refine AL_p (x_move rfl rfl) ?_
  refine AL_p (x_add rfl rfl rfl (IntWalk.i64_in _ (by omega))) ?_
  refine AL_p (x_oindex (n := 5) rfl rfl rfl rfl (by kernel_rfl) rfl (k := a.toNat + i) (by omega) (by omega)) ?_
  refine AL_p (x_oloadN (n := 5) rfl rfl rfl (by kernel_rfl) (by omega) rfl rfl) ?_
  refine AL_p (x_oindex (n := 5) rfl rfl rfl rfl (by kernel_rfl) rfl (k := a.toNat + i) (by omega) (by omega)) ?_
  refine AL_p (x_ostore (W[b.toNat + i]'(by omega)) rfl rfl rfl rfl (by kernel_rfl) rfl rfl rfl rfl FitL.rf rfl rfl (by first | omega | (rw [filledTo_len (by omega)]; omega) | (simp; omega))) ?_
  refine AL_p (x_oindex (n := 5) rfl rfl rfl rfl (by kernel_rfl) rfl (k := b.toNat + i) (by omega) (by first | omega | (simp only [List.length_set]; omega))) ?_
  refine AL_p (x_ostore (W[a.toNat + i]'(by omega)) rfl rfl rfl rfl (by kernel_rfl) rfl rfl rfl rfl FitL.rf rfl rfl (by first | omega | (simp only [List.length_set]; omega))) ?_
  refine AL_nild (by kernel_rfl) ?_
  refine AW_region ?_
  refine AL_p (x_move rfl rfl) ?_
  refine AL_p (x_add rfl rfl rfl (IntWalk.i64_in _ (by omega))) ?_
  refine AL_p (x_assign rfl rfl) ?_
  refine AL_nil ?_
  refine ⟨⟨⟨i + 1, ((W.set (a.toNat + i) (W[b.toNat + i]'(by omega))).set (b.toNat + i) (W[a.toNat + i]'(by omega)))⟩, ⟨by omega, by simp only [List.length_set]; omega, hs.step hxy (by omega) (by omega) (by omega) (by omega) (by omega)⟩⟩, rn [], ?_, by dsimp only; omega⟩
  exact ⟨by (repeat refine ⟨⟨_, rfl, by first | exact VLe.rf | exact vle_int (by dsimp only; omega)⟩, ?_⟩); exact trivial, by (repeat refine ⟨⟨_, rfl, by first | exact BLe.rf | exact BLe.box AllC.rf | exact BLe.arr (by exact rfl)⟩, ?_⟩); exact trivial, by repeat (first | exact trivial | refine ⟨⟨rfl, by first | (left; intro h; cases h) | (right; rfl), by first | exact (fun _ h => ⟨_, h⟩) | exact (fun _ _ => ⟨_, rfl⟩) | (intro _ h; cases h)⟩, ?_⟩), rfl⟩

set_option maxHeartbeats 4000000 in
theorem rot_c (us : List Changet) (a m b : Int) (P X Y Q : List Changet) (hu : us = P ++ X ++ Y ++ Q) (ha : a = P.length) (hm : m = P.length + X.length) (hb : b = P.length + X.length + Y.length) (hx : 0 < X.length) (hy : 0 < Y.length) (hl : us.length ≤ 1048576) : AC Tryz.prog 160 [.one (.own 0), .one (.c (.int .i64 (a))), .one (.c (.int .i64 (m))), .one (.c (.int .i64 (b))), .one (.clo 56 [])] [(0, some (.arr 65 changeE us false))] (.tup []) [(0, some (.arr 65 changeE (P ++ Y ++ X ++ Q) false))] := by
  have hul : us.length = P.length + X.length + Y.length + Q.length := by subst hu; simp only [List.length_append]
  refine AC_body0 Tryz.func160 rfl rfl Tryz.ntmps160 rfl Tryz.results160 ?_
  refine AW_seq ?_
  refine AW_region ?_
  refine AL_p (x_move rfl rfl) ?_
  refine AL_p (x_move rfl rfl) ?_
  refine AL_p (x_sub rfl rfl rfl (IntWalk.i64_in _ (by omega))) ?_
  refine AL_p (x_assign rfl rfl) ?_
  refine AL_nil ?_
  refine AW_seq ?_
  refine AW_region ?_
  refine AL_p (x_move rfl rfl) ?_
  refine AL_p (x_move rfl rfl) ?_
  refine AL_p (x_sub rfl rfl rfl (IntWalk.i64_in _ (by omega))) ?_
  refine AL_p (x_assign rfl rfl) ?_
  refine AL_nil ?_
  refine AW_seq ?_
  refine AW_block ?_
  refine AW_loop2 (ι := {q : Int × Int × List Changet // (0 < (q.1) ∧ 0 < (q.2.1)) ∧ ((q.2.2).length = us.length ∧ RoI (P ++ Y ++ X ++ Q) m (q.1) (q.2.1) (q.2.2))}) (fun p => [(10, .one (.c (.int .i64 ((p.1.1))))), (11, .one (.c (.int .i64 ((p.1.2.1)))))]) (fun p => [(0, some (.arr 65 changeE (p.1.2.2) false))]) [0, 2, 4] [] (fun p => ((p.1.1) + (p.1.2.1)).toNat) ⟨⟨m - a, b - m, us⟩, ⟨⟨by dsimp only; omega, by dsimp only; omega⟩, rfl, ⟨P, X, Y, Q, hu, by dsimp only; omega, by dsimp only; omega, by dsimp only; omega, rfl⟩⟩⟩ (rn []) ?_ ?_
  exact ⟨by (repeat refine ⟨⟨_, rfl, by first | exact VLe.rf | exact vle_int (by dsimp only; omega)⟩, ?_⟩); exact trivial, by (repeat refine ⟨⟨_, rfl, by first | exact BLe.rf | exact BLe.box AllC.rf | exact BLe.arr (by exact rfl)⟩, ?_⟩); exact trivial, by repeat (first | exact trivial | refine ⟨⟨rfl, by first | (left; intro h; cases h) | (right; rfl), by first | exact (fun _ h => ⟨_, h⟩) | exact (fun _ _ => ⟨_, rfl⟩) | (intro _ h; cases h)⟩, ?_⟩), rfl⟩
  rintro ⟨⟨i, j, W⟩, hinv⟩
  dsimp only
  obtain ⟨⟨hi, hj⟩, hwl, P', X', Y', Q', e1, e2, e3, e4, e5⟩ := hinv
  dsimp only at hi hj hwl e1 e2 e3 e4 e5
  have hwl2 : W.length = P'.length + X'.length + Y'.length + Q'.length := by rw [e1]; simp only [List.length_append]
  refine AW_seq ?_
  refine AW_seq ?_
  refine AW_region ?_
  refine AL_p (x_move rfl rfl) ?_
  refine AL_p (x_move rfl rfl) ?_
  refine AL_b (x_neq rfl rfl rfl) (fun b20 h20 => ?_)
  refine AL_nil ?_
  cases b20
  · try simp only [tdy] at h20
    refine AW_condF rfl ?_
    refine AW_exit (BQ_hit ?_)
    refine AW_region ?_
    refine AL_p (x_move rfl rfl) ?_
    refine AL_p (x_move rfl rfl) ?_
    refine AL_p (x_move rfl rfl) ?_
    refine AL_p (x_sub rfl rfl rfl (IntWalk.i64_in _ (by omega))) ?_
    refine AL_p (x_move rfl rfl) ?_
    refine AL_p (x_move rfl rfl) ?_
    refine AL_p (x_move rfl rfl) ?_
    refine AL_p (x_call (ks := []) (L := [(0, some _)]) (L' := [(0, some _)]) rfl rfl rfl (swapR_c W (m - i) m i P' X' [] Y' Q' (by rw [e1]; simp) (by omega) (by simp; omega) (by omega) (by omega) (by omega)) rfl AllV.rf (caught_of rfl) rfl rfl rfl ⟨rfl, trivial⟩ rfl) ?_
    refine AL_nil ?_
    exact ⟨rn [], ⟨trivial, ⟨⟨_, rfl, BLe.arr (by rw [← e5]; simp)⟩, trivial⟩, by repeat (first | exact trivial | refine ⟨⟨rfl, by first | (left; intro h; cases h) | (right; rfl), by first | exact (fun _ h => ⟨_, h⟩) | exact (fun _ _ => ⟨_, rfl⟩) | (intro _ h; cases h)⟩, ?_⟩), rfl⟩⟩
  try simp only [tdy] at h20
  refine AW_condT rfl ?_
  refine AW_skip ?_
  refine AW_block ?_
  refine AW_seq ?_
  refine AW_region ?_
  refine AL_p (x_move rfl rfl) ?_
  refine AL_p (x_move rfl rfl) ?_
  refine AL_b (x_gtr rfl rfl rfl) (fun b23 h23 => ?_)
  refine AL_nil ?_
  cases b23
  rotate_left
  · try simp only [tdy] at h23
    refine AW_condT rfl ?_
    refine AW_seq ?_
    refine AW_region ?_
    refine AL_p (x_move rfl rfl) ?_
    refine AL_p (x_move rfl rfl) ?_
    refine AL_p (x_move rfl rfl) ?_
    refine AL_p (x_sub rfl rfl rfl (IntWalk.i64_in _ (by omega))) ?_
    refine AL_p (x_move rfl rfl) ?_
    refine AL_p (x_move rfl rfl) ?_
    refine AL_p (x_move rfl rfl) ?_
    refine AL_p (x_call (ks := []) (L := [(0, some _)]) (L' := [(0, some _)]) rfl rfl rfl (swapR_c W (m - i) m j P' (X'.take j.toNat) (X'.drop j.toNat) Y' Q' (e1.trans (cut_left _ _ _ _)) (by omega) (by simp; omega) (by simp; omega) (by simp; omega) (by omega)) rfl AllV.rf (caught_of rfl) rfl rfl rfl ⟨rfl, trivial⟩ rfl) ?_
    refine AL_nil ?_
    refine AW_region ?_
    refine AL_p (x_move rfl rfl) ?_
    refine AL_p (x_move rfl rfl) ?_
    refine AL_p (x_sub rfl rfl rfl (IntWalk.i64_in _ (by omega))) ?_
    refine AL_p (x_assign rfl rfl) ?_
    refine AL_nil ?_
    refine ⟨⟨⟨i - j, j, (P' ++ Y' ++ X'.drop j.toNat ++ X'.take j.toNat ++ Q')⟩, ⟨⟨by dsimp only; omega, by dsimp only; omega⟩, by dsimp only; simp; omega, RoI.left (W := W) (by omega) e2 e3 e4 e5⟩⟩, rn [], ?_, by dsimp only; omega⟩
    exact ⟨by (repeat refine ⟨⟨_, rfl, by first | exact VLe.rf | exact vle_int (by dsimp only; omega)⟩, ?_⟩); exact trivial, by (repeat refine ⟨⟨_, rfl, by first | exact BLe.rf | exact BLe.box AllC.rf | exact BLe.arr (by exact rfl)⟩, ?_⟩); exact trivial, by repeat (first | exact trivial | refine ⟨⟨rfl, by first | (left; intro h; cases h) | (right; rfl), by first | exact (fun _ h => ⟨_, h⟩) | exact (fun _ _ => ⟨_, rfl⟩) | (intro _ h; cases h)⟩, ?_⟩), rfl⟩
  try simp only [tdy] at h23
  refine AW_condF rfl ?_
  refine AW_seq ?_
  refine AW_region ?_
  refine AL_p (x_move rfl rfl) ?_
  refine AL_p (x_move rfl rfl) ?_
  refine AL_p (x_move rfl rfl) ?_
  refine AL_p (x_sub rfl rfl rfl (IntWalk.i64_in _ (by omega))) ?_
  refine AL_p (x_move rfl rfl) ?_
  refine AL_p (x_move rfl rfl) ?_
  refine AL_p (x_add rfl rfl rfl (IntWalk.i64_in _ (by omega))) ?_
  refine AL_p (x_move rfl rfl) ?_
  refine AL_p (x_sub rfl rfl rfl (IntWalk.i64_in _ (by omega))) ?_
  refine AL_p (x_move rfl rfl) ?_
  refine AL_p (x_move rfl rfl) ?_
  refine AL_p (x_call (ks := []) (L := [(0, some _)]) (L' := [(0, some _)]) rfl rfl rfl (swapR_c W (m - i) (m + j - i) i P' X' (Y'.take (j - i).toNat) (Y'.drop (j - i).toNat) Q' (e1.trans (cut_right _ _ _ _)) (by omega) (by simp; omega) (by omega) (by simp; omega) (by omega)) rfl AllV.rf (caught_of rfl) rfl rfl rfl ⟨rfl, trivial⟩ rfl) ?_
  refine AL_nil ?_
  refine AW_region ?_
  refine AL_p (x_move rfl rfl) ?_
  refine AL_p (x_move rfl rfl) ?_
  refine AL_p (x_sub rfl rfl rfl (IntWalk.i64_in _ (by omega))) ?_
  refine AL_p (x_assign rfl rfl) ?_
  refine AL_nil ?_
  refine ⟨⟨⟨i, j - i, (P' ++ Y'.drop (j - i).toNat ++ Y'.take (j - i).toNat ++ X' ++ Q')⟩, ⟨⟨by dsimp only; omega, by dsimp only; omega⟩, by dsimp only; simp; omega, RoI.right (W := W) (by omega) e2 e3 e4 e5⟩⟩, rn [], ?_, by dsimp only; omega⟩
  exact ⟨by (repeat refine ⟨⟨_, rfl, by first | exact VLe.rf | exact vle_int (by dsimp only; omega)⟩, ?_⟩); exact trivial, by (repeat refine ⟨⟨_, rfl, by first | exact BLe.rf | exact BLe.box AllC.rf | exact BLe.arr (by exact rfl)⟩, ?_⟩); exact trivial, by repeat (first | exact trivial | refine ⟨⟨rfl, by first | (left; intro h; cases h) | (right; rfl), by first | exact (fun _ h => ⟨_, h⟩) | exact (fun _ _ => ⟨_, rfl⟩) | (intro _ h; cases h)⟩, ?_⟩), rfl⟩

set_option maxHeartbeats 4000000 in
theorem insS_c (us : List Changet) (a b : Int) (P M Q : List Changet) (hu : us = P ++ M ++ Q) (ha : a = P.length) (hb : b = P.length + M.length) (hl : us.length ≤ 1048576) : AC Tryz.prog 133 [.one (.own 0), .one (.c (.int .i64 (a))), .one (.c (.int .i64 (b))), .one (.clo 56 [])] [(0, some (.arr 65 changeE us false))] (.tup []) [(0, some (.arr 65 changeE (P ++ isort ltC M ++ Q) false))] := by
  have hul : us.length = P.length + M.length + Q.length := by subst hu; simp only [List.length_append]
  refine AC_body0 Tryz.func133 rfl rfl Tryz.ntmps133 rfl Tryz.results133 ?_
  refine AW_seq ?_
  refine AW_region ?_
  refine AL_p (x_move rfl rfl) ?_
  refine AL_p (x_add rfl rfl rfl (IntWalk.i64_in _ (by omega))) ?_
  refine AL_p (x_assign rfl rfl) ?_
  refine AL_nil ?_
  refine AW_block ?_
  refine AW_loop2 (ι := {q : Int × List Changet // (q.2).length = us.length ∧ OuI ltC P M Q a (q.1) (q.2)}) (fun p => [(8, .one (.c (.int .i64 ((p.1.1)))))]) (fun p => [(0, some (.arr 65 changeE (p.1.2) false))]) [0, 1, 2, 3] [] (fun p => (b - (p.1.1)).toNat) ⟨⟨a + 1, us⟩, ⟨rfl, .zero hu⟩⟩ (rn []) ?_ ?_
  exact ⟨by (repeat refine ⟨⟨_, rfl, by first | exact VLe.rf | exact vle_int (by dsimp only; omega)⟩, ?_⟩); exact trivial, by (repeat refine ⟨⟨_, rfl, by first | exact BLe.rf | exact BLe.box AllC.rf | exact BLe.arr (by exact rfl)⟩, ?_⟩); exact trivial, by repeat (first | exact trivial | refine ⟨⟨rfl, by first | (left; intro h; cases h) | (right; rfl), by first | exact (fun _ h => ⟨_, h⟩) | exact (fun _ _ => ⟨_, rfl⟩) | (intro _ h; cases h)⟩, ?_⟩), rfl⟩
  rintro ⟨⟨i, W⟩, hinv⟩
  dsimp only
  obtain ⟨hwl, hs⟩ := hinv
  have hwl : W.length = us.length := hwl
  have hs : OuI ltC P M Q a i W := hs
  have hs1 := hs.1
  have hs2 := hs.2.1
  refine AW_seq ?_
  refine AW_seq ?_
  refine AW_region ?_
  refine AL_p (x_move rfl rfl) ?_
  refine AL_p (x_move rfl rfl) ?_
  refine AL_b (x_lss rfl rfl rfl) (fun b14 h14 => ?_)
  refine AL_nil ?_
  cases b14
  · try simp only [tdy] at h14
    refine AW_condF rfl ?_
    refine AW_exit (BQ_hit ?_)
    exact ⟨rn [], ⟨trivial, ⟨⟨_, rfl, BLe.arr (hs.done (by omega))⟩, trivial⟩, by repeat (first | exact trivial | refine ⟨⟨rfl, by first | (left; intro h; cases h) | (right; rfl), by first | exact (fun _ h => ⟨_, h⟩) | exact (fun _ _ => ⟨_, rfl⟩) | (intro _ h; cases h)⟩, ?_⟩), rfl⟩⟩
  try simp only [tdy] at h14
  have hk : (i - a).toNat < M.length := by omega
  have hin := hs.inn ha (by omega) hk
  refine AW_condT rfl ?_
  refine AW_skip ?_
  refine AW_seq ?_
  refine AW_block ?_
  refine AW_seq ?_
  refine AW_region ?_
  refine AL_p (x_move rfl rfl) ?_
  refine AL_p (x_assign rfl rfl) ?_
  refine AL_nil ?_
  refine AW_block ?_
  refine AW_loop2 (ι := {q : Int × List Changet // (a ≤ (q.1) ∧ (q.1) ≤ i) ∧ ((q.2).length = us.length ∧ InI ltC P (isort ltC (M.take (i - a).toNat)) (M[(i - a).toNat]'hk) (M.drop ((i - a).toNat + 1) ++ Q) (q.1) (q.2))}) (fun p => [(9, .one (.c (.int .i64 ((p.1.1)))))]) (fun p => [(0, some (.arr 65 changeE (p.1.2) false))]) [0, 1, 2, 3, 8] [] (fun p => ((p.1.1) - a).toNat) ⟨⟨i, W⟩, ⟨⟨by dsimp only; omega, by dsimp only; omega⟩, hwl, hin⟩⟩ (rn []) ?_ ?_
  exact ⟨by (repeat refine ⟨⟨_, rfl, by first | exact VLe.rf | exact vle_int (by dsimp only; omega)⟩, ?_⟩); exact trivial, by (repeat refine ⟨⟨_, rfl, by first | exact BLe.rf | exact BLe.box AllC.rf | exact BLe.arr (by exact rfl)⟩, ?_⟩); exact trivial, by repeat (first | exact trivial | refine ⟨⟨rfl, by first | (left; intro h; cases h) | (right; rfl), by first | exact (fun _ h => ⟨_, h⟩) | exact (fun _ _ => ⟨_, rfl⟩) | (intro _ h; cases h)⟩, ?_⟩), rfl⟩
  rintro ⟨⟨j, V⟩, hinv⟩
  dsimp only
  obtain ⟨⟨hj0, hj1⟩, hj2, hj3⟩ := hinv
  dsimp only at hj0 hj1 hj2 hj3
  refine AW_seq ?_
  refine AW_seq ?_
  refine AW_draw rfl ?_
  refine AL_p (x_move rfl rfl) ?_
  refine AL_p (x_move rfl rfl) ?_
  refine AL_b (x_gtr rfl rfl rfl) (fun b20 h20 => ?_)
  refine AL_p (x_move rfl rfl) ?_
  cases b20
  · try simp only [tdy] at h20
    have hd := hj3.done wkC (isort_srt wkC) (.inl (by omega))
    refine AL_o rfl rfl rfl rfl ?_
    refine AL_o rfl rfl rfl rfl ?_
    refine AL_o rfl rfl rfl rfl ?_
    refine AL_o rfl rfl rfl rfl ?_
    refine AL_o rfl rfl rfl rfl ?_
    refine AL_o rfl rfl rfl rfl ?_
    refine AL_o rfl rfl rfl rfl ?_
    refine AL_o rfl rfl rfl rfl ?_
    refine AL_o rfl rfl rfl rfl ?_
    refine AL_o rfl rfl rfl rfl ?_
    refine AL_o rfl rfl rfl rfl ?_
    refine AL_o rfl rfl rfl rfl ?_
    refine AL_p (x_pickF rfl rfl rfl) ?_
    refine AL_nild (by kernel_rfl) ?_
    refine AW_condF rfl ?_
    refine AW_exit (BQ_hit ?_)
    refine AW_region ?_
    refine AL_p (x_move rfl rfl) ?_
    refine AL_p (x_add rfl rfl rfl (IntWalk.i64_in _ (by omega))) ?_
    refine AL_p (x_assign rfl rfl) ?_
    refine AL_nil ?_
    refine ⟨⟨⟨i + 1, V⟩, ⟨hj2, OuI.next hs.1 (by omega) hk hd⟩⟩, rn [], ?_, by dsimp only; omega⟩
    exact ⟨by (repeat refine ⟨⟨_, rfl, by first | exact VLe.rf | exact vle_int (by dsimp only; omega)⟩, ?_⟩); exact trivial, by (repeat refine ⟨⟨_, rfl, by first | exact BLe.rf | exact BLe.box AllC.rf | exact BLe.arr (by exact rfl)⟩, ?_⟩); exact trivial, by repeat (first | exact trivial | refine ⟨⟨rfl, by first | (left; intro h; cases h) | (right; rfl), by first | exact (fun _ h => ⟨_, h⟩) | exact (fun _ _ => ⟨_, rfl⟩) | (intro _ h; cases h)⟩, ?_⟩), rfl⟩
  try simp only [tdy] at h20
  refine AL_g rfl rfl (x_move rfl rfl) ?_
  refine AL_g rfl rfl (x_move rfl rfl) ?_
  refine AL_g rfl rfl (x_move rfl rfl) ?_
  refine AL_g rfl rfl (x_oindex (n := 5) rfl rfl rfl rfl (by kernel_rfl) rfl (k := j.toNat) (by omega) (by omega)) ?_
  refine AL_g rfl rfl (x_oloadN (n := 5) rfl rfl rfl (by kernel_rfl) (by omega) rfl rfl) ?_
  refine AL_g rfl rfl (x_move rfl rfl) ?_
  refine AL_g rfl rfl (x_move rfl rfl) ?_
  refine AL_g rfl rfl (x_sub rfl rfl rfl (IntWalk.i64_in _ (by omega))) ?_
  refine AL_g rfl rfl (x_oindex (n := 5) rfl rfl rfl rfl (by kernel_rfl) rfl (k := j.toNat - 1) (by omega) (by omega)) ?_
  refine AL_g rfl rfl (x_oloadN (n := 5) rfl rfl rfl (by kernel_rfl) (by omega) rfl rfl) ?_
  refine AL_g rfl rfl (x_call0 rfl rfl rfl (cmpC_c _ _) rfl rfl) ?_
  refine AL_gb rfl rfl (x_lss rfl rfl rfl) (fun b33 h33 => ?_)
  refine AL_p (x_pickT rfl rfl rfl) ?_
  refine AL_nild (by kernel_rfl) ?_
  cases b33
  · try simp only [tdy] at h33
    have h33 := cmpC_no h33
    have hd := hj3.done wkC (isort_srt wkC) (.inr ⟨by omega, by omega, h33⟩)
    refine AW_condF rfl ?_
    refine AW_exit (BQ_hit ?_)
    refine AW_region ?_
    refine AL_p (x_move rfl rfl) ?_
    refine AL_p (x_add rfl rfl rfl (IntWalk.i64_in _ (by omega))) ?_
    refine AL_p (x_assign rfl rfl) ?_
    refine AL_nil ?_
    refine ⟨⟨⟨i + 1, V⟩, ⟨hj2, OuI.next hs.1 (by omega) hk hd⟩⟩, rn [], ?_, by dsimp only; omega⟩
    exact ⟨by (repeat refine ⟨⟨_, rfl, by first | exact VLe.rf | exact vle_int (by dsimp only; omega)⟩, ?_⟩); exact trivial, by (repeat refine ⟨⟨_, rfl, by first | exact BLe.rf | exact BLe.box AllC.rf | exact BLe.arr (by exact rfl)⟩, ?_⟩); exact trivial, by repeat (first | exact trivial | refine ⟨⟨rfl, by first | (left; intro h; cases h) | (right; rfl), by first | exact (fun _ h => ⟨_, h⟩) | exact (fun _ _ => ⟨_, rfl⟩) | (intro _ h; cases h)⟩, ?_⟩), rfl⟩
  try simp only [tdy] at h33
  have h33 := cmpC_yes h33
  refine AW_condT rfl ?_
  refine AW_skip ?_
  refine AW_seq ?_
  refine AW_block ?_
  refine AW_draw rfl ?_
  refine AL_p (x_move rfl rfl) ?_
  refine AL_p (x_move rfl rfl) ?_
  refine AL_p (x_move rfl rfl) ?_
  refine AL_p (x_move rfl rfl) ?_
  refine AL_p (x_sub rfl rfl rfl (IntWalk.i64_in _ (by omega))) ?_
  refine AL_p (x_move rfl rfl) ?_
  refine AL_p (x_move rfl rfl) ?_
  refine AL_p (x_sub rfl rfl rfl (IntWalk.i64_in _ (by omega))) ?_
  refine AL_p (x_oindex (n := 5) rfl rfl rfl rfl (by kernel_rfl) rfl (k := j.toNat - 1) (by omega) (by omega)) ?_
  refine AL_p (x_oloadN (n := 5) rfl rfl rfl (by kernel_rfl) (by omega) rfl rfl) ?_
  refine AL_p (x_move rfl rfl) ?_
  refine AL_p (x_move rfl rfl) ?_
  refine AL_p (x_oindex (n := 5) rfl rfl rfl rfl (by kernel_rfl) rfl (k := j.toNat) (by omega) (by omega)) ?_
  refine AL_p (x_oloadN (n := 5) rfl rfl rfl (by kernel_rfl) (by omega) rfl rfl) ?_
  refine AL_p (x_oindex (n := 5) rfl rfl rfl rfl (by kernel_rfl) rfl (k := j.toNat) (by omega) (by omega)) ?_
  refine AL_p (x_ostore (V[j.toNat - 1]'(by omega)) rfl rfl rfl rfl (by kernel_rfl) rfl rfl rfl rfl FitL.rf rfl rfl (by first | omega | (rw [filledTo_len (by omega)]; omega) | (simp; omega))) ?_
  refine AL_p (x_oindex (n := 5) rfl rfl rfl rfl (by kernel_rfl) rfl (k := j.toNat - 1) (by omega) (by first | omega | (simp only [List.length_set]; omega))) ?_
  refine AL_p (x_ostore (V[j.toNat]'(by omega)) rfl rfl rfl rfl (by kernel_rfl) rfl rfl rfl rfl FitL.rf rfl rfl (by first | omega | (simp only [List.length_set]; omega))) ?_
  refine AL_nild (by kernel_rfl) ?_
  refine AW_region ?_
  refine AL_p (x_move rfl rfl) ?_
  refine AL_p (x_sub rfl rfl rfl (IntWalk.i64_in _ (by omega))) ?_
  refine AL_p (x_assign rfl rfl) ?_
  refine AL_nil ?_
  refine ⟨⟨⟨j - 1, ((V.set (j.toNat) (V[j.toNat - 1]'(by omega))).set (j.toNat - 1) (V[j.toNat]'(by omega)))⟩, ⟨⟨by dsimp only; omega, by dsimp only; omega⟩, by dsimp only; simp only [List.length_set]; exact hj2, hj3.step (by omega) (by omega) (by omega) h33⟩⟩, rn [], ?_, by dsimp only; omega⟩
  exact ⟨by (repeat refine ⟨⟨_, rfl, by first | exact VLe.rf | exact vle_int (by dsimp only; omega)⟩, ?_⟩); exact trivial, by (repeat refine ⟨⟨_, rfl, by first | exact BLe.rf | exact BLe.box AllC.rf | exact BLe.arr (by exact rfl)⟩, ?_⟩); exact trivial, by repeat (first | exact trivial | refine ⟨⟨rfl, by first | (left; intro h; cases h) | (right; rfl), by first | exact (fun _ h => ⟨_, h⟩) | exact (fun _ _ => ⟨_, rfl⟩) | (intro _ h; cases h)⟩, ?_⟩), rfl⟩
end Go.Proofs.YtibhoanjglfaoaaGreat

/- Two ways that come together: what is behind them is walked once. -/
namespace Go.Proofs.YtibhoanjglfaoaaGreat
open Go.RowKit
set_option linter.unusedVariables false

theorem AW_mid {P : Program} {N : Nat} {K : List Nat} {c1 c2 : Code} {Kn : St → Prop} {Q : Exit → St → Prop} {s : St} {ι : Type} (U : ι → Tmps) (V : ι → Locs) (ks ls : List Nat)
    (h1 : AW P N K c1 (fun s' => ∃ j r', LeS K r' s' ⟨U j ++ keepT s.t ks, V j ++ keepL s.l ls⟩) Q s) (h2 : ∀ j, AW P N K c2 Kn Q ⟨U j ++ keepT s.t ks, V j ++ keepL s.l ls⟩) : AW P N K (.seq c1 c2) Kn Q s :=
  AW_seq (AW_mono (fun s' ⟨j, r', hle⟩ => AW_le hle (h2 j)) (fun _ _ h => h) h1)
end Go.Proofs.YtibhoanjglfaoaaGreat

/- Two ranges merged (printed by walk.py) -/
namespace Go.Proofs.YtibhoanjglfaoaaGreat
open Go.RowKit
set_option linter.unusedVariables false
set_option linter.unusedSimpArgs false
set_option maxRecDepth 100000

def SymIH (N : Nat) : Prop := ∀ (us : List Changet) (a m b : Int) (P A B Q : List Changet) (hu : us = P ++ A ++ B ++ Q) (ha : a = P.length) (hm : m = P.length + A.length) (hb : b = P.length + A.length + B.length) (hA : Srt ltC A) (hB : Srt ltC B) (hA0 : 0 < A.length) (hB0 : 0 < B.length) (hN : A.length + B.length ≤ N) (hl : us.length ≤ 1048576), AC Tryz.prog 134 [.one (.own 0), .one (.c (.int .i64 (a))), .one (.c (.int .i64 (m))), .one (.c (.int .i64 (b))), .one (.clo 56 [])] [(0, some (.arr 65 changeE us false))] (.tup []) [(0, some (.arr 65 changeE (P ++ mergeI ltC A B ++ Q) false))]

set_option maxHeartbeats 4000000 in
theorem symStep (N : Nat) (ih : SymIH N) (us : List Changet) (a m b : Int) (P A B Q : List Changet) (hu : us = P ++ A ++ B ++ Q) (ha : a = P.length) (hm : m = P.length + A.length) (hb : b = P.length + A.length + B.length) (hA : Srt ltC A) (hB : Srt ltC B) (hA0 : 0 < A.length) (hB0 : 0 < B.length) (hN : A.length + B.length ≤ N + 1) (hl : us.length ≤ 1048576) : AC Tryz.prog 134 [.one (.own 0), .one (.c (.int .i64 (a))), .one (.c (.int .i64 (m))), .one (.c (.int .i64 (b))), .one (.clo 56 [])] [(0, some (.arr 65 changeE us false))] (.tup []) [(0, some (.arr 65 changeE (P ++ mergeI ltC A B ++ Q) false))] := by
  obtain ⟨T1, hT1⟩ : ∃ T : Int → Bool, ∀ c, T c = ltAt ltC us c.toNat a.toNat := ⟨_, fun _ => rfl⟩
  obtain ⟨T2, hT2⟩ : ∃ T : Int → Bool, ∀ c, T c = !ltAt ltC us m.toNat c.toNat := ⟨_, fun _ => rfl⟩
  obtain ⟨T3, hT3⟩ : ∃ T : Int → Bool, ∀ c, T c = !ltAt ltC us (((a + b) / 2) + m - 1 - c).toNat c.toNat := ⟨_, fun _ => rfl⟩
  have hul : us.length = P.length + A.length + B.length + Q.length := by subst hu; simp only [List.length_append]
  refine AC_body0 Tryz.func134 rfl rfl Tryz.ntmps134 rfl Tryz.results134 ?_
  refine AW_seq ?_
  refine AW_seq ?_
  refine AW_region ?_
  refine AL_p (x_move rfl rfl) ?_
  refine AL_p (x_move rfl rfl) ?_
  refine AL_p (x_sub rfl rfl rfl (IntWalk.i64_in _ (by omega))) ?_
  refine AL_b (x_eql rfl rfl rfl) (fun b28 h28 => ?_)
  refine AL_nil ?_
  cases b28
  rotate_left
  · try simp only [tdy] at h28
    obtain ⟨x, rfl⟩ : ∃ x, A = [x] := List.length_eq_one_iff.1 (by omega)
    have hF1 := fal_left wkC hB hu ha hm hb hA0 hT1
    refine AW_condT rfl ?_
    refine AW_seq ?_
    refine AW_region ?_
    refine AL_p (x_move rfl rfl) ?_
    refine AL_p (x_assign rfl rfl) ?_
    refine AL_nil ?_
    refine AW_seq ?_
    refine AW_region ?_
    refine AL_p (x_move rfl rfl) ?_
    refine AL_p (x_assign rfl rfl) ?_
    refine AL_nil ?_
    refine AW_seq ?_
    refine AW_block ?_
    refine AW_loop2 (ι := {q : Int × Int // Bis T1 m b (q.1) (q.2)}) (fun p => [(10, .one (.c (.int .i64 ((p.1.1))))), (11, .one (.c (.int .i64 ((p.1.2)))))]) (fun p => []) [0, 1, 2, 3, 4] [0] (fun p => ((p.1.2) - (p.1.1)).toNat) ⟨⟨m, b⟩, .zero (by omega)⟩ (rn []) ?_ ?_
    exact ⟨by (repeat refine ⟨⟨_, rfl, by first | exact VLe.rf | exact vle_int (by dsimp only; omega)⟩, ?_⟩); exact trivial, by (repeat refine ⟨⟨_, rfl, by first | exact BLe.rf | exact BLe.box AllC.rf | exact BLe.arr (by exact rfl)⟩, ?_⟩); exact trivial, by repeat (first | exact trivial | refine ⟨⟨rfl, by first | (left; intro h; cases h) | (right; rfl), by first | exact (fun _ h => ⟨_, h⟩) | exact (fun _ _ => ⟨_, rfl⟩) | (intro _ h; cases h)⟩, ?_⟩), rfl⟩
    rintro ⟨⟨i, j⟩, hinv⟩
    dsimp only
    have hinv : Bis T1 m b i j := hinv
    have hb1 := hinv.1
    have hb2 := hinv.2.1
    have hb3 := hinv.2.2.1
    refine AW_seq ?_
    refine AW_seq ?_
    refine AW_region ?_
    refine AL_p (x_move rfl rfl) ?_
    refine AL_p (x_move rfl rfl) ?_
    refine AL_b (x_lss rfl rfl rfl) (fun b33 h33 => ?_)
    refine AL_nil ?_
    cases b33
    rotate_left
    · try simp only [tdy] at h33
      refine AW_condT rfl ?_
      refine AW_skip ?_
      refine AW_block ?_
      refine AW_seq ?_
      refine AW_region ?_
      refine AL_p (x_move rfl rfl) ?_
      refine AL_p (x_move rfl rfl) ?_
      refine AL_p (x_add rfl rfl rfl (IntWalk.i64_in _ (by omega))) ?_
      refine AL_p (x_conv (k' := .u64) rfl rfl (by kernel_rfl) (u64_id (by omega) (by omega))) ?_
      refine AL_p (x_shr rfl rfl rfl (by omega) (mid_shr (by omega)) (u64_wf (by omega) (by omega))) ?_
      refine AL_p (x_conv (k' := .i64) rfl rfl (by kernel_rfl) (IntWalk.i64_in _ (by omega))) ?_
      refine AL_p (x_assign rfl rfl) ?_
      refine AL_nil ?_
      refine AW_seq ?_
      refine AW_draw rfl ?_
      refine AL_p (x_move rfl rfl) ?_
      refine AL_p (x_move rfl rfl) ?_
      refine AL_p (x_move rfl rfl) ?_
      refine AL_p (x_oindex (n := 5) rfl rfl rfl rfl (by kernel_rfl) rfl (k := ((i + j) / 2).toNat) (by omega) (by omega)) ?_
      refine AL_p (x_oloadN (n := 5) rfl rfl rfl (by kernel_rfl) (by omega) rfl rfl) ?_
      refine AL_p (x_move rfl rfl) ?_
      refine AL_p (x_move rfl rfl) ?_
      refine AL_p (x_oindex (n := 5) rfl rfl rfl rfl (by kernel_rfl) rfl (k := a.toNat) (by omega) (by omega)) ?_
      refine AL_p (x_oloadN (n := 5) rfl rfl rfl (by kernel_rfl) (by omega) rfl rfl) ?_
      refine AL_p (x_call0 rfl rfl rfl (cmpC_c _ _) rfl rfl) ?_
      refine AL_b (x_lss rfl rfl rfl) (fun b50 h50 => ?_)
      refine AL_nild (by kernel_rfl) ?_
      cases b50
      · try simp only [tdy] at h50
        have q50 : T1 ((i + j) / 2) = false := by rw [hT1, ltAt_eq (by omega) (by omega)]; exact cmpC_no h50
        refine AW_condF rfl ?_
        refine AW_region ?_
        refine AL_p (x_move rfl rfl) ?_
        refine AL_p (x_assign rfl rfl) ?_
        refine AL_nil ?_
        refine ⟨⟨⟨i, ((i + j) / 2)⟩, hinv.down hF1 (by omega) (by omega) q50⟩, rn [], ?_, by dsimp only; omega⟩
        exact ⟨by (repeat refine ⟨⟨_, rfl, by first | exact VLe.rf | exact vle_int (by dsimp only; omega)⟩, ?_⟩); exact trivial, by (repeat refine ⟨⟨_, rfl, by first | exact BLe.rf | exact BLe.box AllC.rf | exact BLe.arr (by exact rfl)⟩, ?_⟩); exact trivial, by repeat (first | exact trivial | refine ⟨⟨rfl, by first | (left; intro h; cases h) | (right; rfl), by first | exact (fun _ h => ⟨_, h⟩) | exact (fun _ _ => ⟨_, rfl⟩) | (intro _ h; cases h)⟩, ?_⟩), rfl⟩
      try simp only [tdy] at h50
      have q50 : T1 ((i + j) / 2) = true := by rw [hT1, ltAt_eq (by omega) (by omega)]; exact cmpC_yes h50
      refine AW_condT rfl ?_
      refine AW_region ?_
      refine AL_p (x_move rfl rfl) ?_
      refine AL_p (x_add rfl rfl rfl (IntWalk.i64_in _ (by omega))) ?_
      refine AL_p (x_assign rfl rfl) ?_
      refine AL_nil ?_
      refine ⟨⟨⟨((i + j) / 2) + 1, j⟩, hinv.up hF1 (by omega) (by omega) q50⟩, rn [], ?_, by dsimp only; omega⟩
      exact ⟨by (repeat refine ⟨⟨_, rfl, by first | exact VLe.rf | exact vle_int (by dsimp only; omega)⟩, ?_⟩); exact trivial, by (repeat refine ⟨⟨_, rfl, by first | exact BLe.rf | exact BLe.box AllC.rf | exact BLe.arr (by exact rfl)⟩, ?_⟩); exact trivial, by repeat (first | exact trivial | refine ⟨⟨rfl, by first | (left; intro h; cases h) | (right; rfl), by first | exact (fun _ h => ⟨_, h⟩) | exact (fun _ _ => ⟨_, rfl⟩) | (intro _ h; cases h)⟩, ?_⟩), rfl⟩
    try simp only [tdy] at h33
    obtain rfl : i = j := by omega
    have hz := LeI.zero (B := B) (Q := Q) (k := a) hu ha
    have hbi := hinv
    refine AW_condF rfl ?_
    refine AW_exit (BQ_hit ?_)
    refine AW_seq ?_
    refine AW_seq ?_
    refine AW_region ?_
    refine AL_p (x_move rfl rfl) ?_
    refine AL_p (x_assign rfl rfl) ?_
    refine AL_nil ?_
    refine AW_block ?_
    refine AW_loop2 (ι := {q : Int × List Changet // (a ≤ (q.1) ∧ (q.1) ≤ i - 1) ∧ ((q.2).length = us.length ∧ LeI P x B Q (q.1) (q.2))}) (fun p => [(13, .one (.c (.int .i64 ((p.1.1)))))]) (fun p => [(0, some (.arr 65 changeE (p.1.2) false))]) [0, 1, 2, 3, 4, 10] [] (fun p => (i - (p.1.1)).toNat) ⟨⟨a, us⟩, ⟨⟨by dsimp only; omega, by dsimp only; omega⟩, rfl, hz⟩⟩ (rn []) ?_ ?_
    exact ⟨by (repeat refine ⟨⟨_, rfl, by first | exact VLe.rf | exact vle_int (by dsimp only; omega)⟩, ?_⟩); exact trivial, by (repeat refine ⟨⟨_, rfl, by first | exact BLe.rf | exact BLe.box AllC.rf | exact BLe.arr (by exact rfl)⟩, ?_⟩); exact trivial, by repeat (first | exact trivial | refine ⟨⟨rfl, by first | (left; intro h; cases h) | (right; rfl), by first | exact (fun _ h => ⟨_, h⟩) | exact (fun _ _ => ⟨_, rfl⟩) | (intro _ h; cases h)⟩, ?_⟩), rfl⟩
    rintro ⟨⟨k, W⟩, hinv⟩
    dsimp only
    obtain ⟨⟨hk0, hk00⟩, hk1, hk2⟩ := hinv
    dsimp only at hk0 hk00 hk1 hk2
    refine AW_seq ?_
    refine AW_seq ?_
    refine AW_region ?_
    refine AL_p (x_move rfl rfl) ?_
    refine AL_p (x_move rfl rfl) ?_
    refine AL_p (x_sub rfl rfl rfl (IntWalk.i64_in _ (by omega))) ?_
    refine AL_b (x_lss rfl rfl rfl) (fun b58 h58 => ?_)
    refine AL_nil ?_
    cases b58
    · try simp only [tdy] at h58
      refine AW_condF rfl ?_
      refine AW_exit (BQ_hit ?_)
      refine AW_ret ?_
      exact ⟨rn [], ⟨trivial, ⟨⟨_, rfl, BLe.arr (merge_left hB hu ha (by simpa using hm) (by simpa using hb) hT1 hbi (by omega) hk2)⟩, trivial⟩, by repeat (first | exact trivial | refine ⟨⟨rfl, by first | (left; intro h; cases h) | (right; rfl), by first | exact (fun _ h => ⟨_, h⟩) | exact (fun _ _ => ⟨_, rfl⟩) | (intro _ h; cases h)⟩, ?_⟩), rfl⟩⟩
    try simp only [tdy] at h58
    refine AW_condT rfl ?_
    refine AW_skip ?_
    refine AW_seq ?_
    refine AW_block ?_
    refine AW_draw rfl ?_
    refine AL_p (x_move rfl rfl) ?_
    refine AL_p (x_move rfl rfl) ?_
    refine AL_p (x_move rfl rfl) ?_
    refine AL_p (x_move rfl rfl) ?_
    refine AL_p (x_add rfl rfl rfl (IntWalk.i64_in _ (by omega))) ?_
    refine AL_p (x_move rfl rfl) ?_
    refine AL_p (x_move rfl rfl) ?_
    refine AL_p (x_add rfl rfl rfl (IntWalk.i64_in _ (by omega))) ?_
    refine AL_p (x_oindex (n := 5) rfl rfl rfl rfl (by kernel_rfl) rfl (k := k.toNat + 1) (by omega) (by omega)) ?_
    refine AL_p (x_oloadN (n := 5) rfl rfl rfl (by kernel_rfl) (by omega) rfl rfl) ?_
    refine AL_p (x_move rfl rfl) ?_
    refine AL_p (x_move rfl rfl) ?_
    refine AL_p (x_oindex (n := 5) rfl rfl rfl rfl (by kernel_rfl) rfl (k := k.toNat) (by omega) (by omega)) ?_
    refine AL_p (x_oloadN (n := 5) rfl rfl rfl (by kernel_rfl) (by omega) rfl rfl) ?_
    refine AL_p (x_oindex (n := 5) rfl rfl rfl rfl (by kernel_rfl) rfl (k := k.toNat) (by omega) (by omega)) ?_
    refine AL_p (x_ostore (W[k.toNat + 1]'(by omega)) rfl rfl rfl rfl (by kernel_rfl) rfl rfl rfl rfl FitL.rf rfl rfl (by first | omega | (rw [filledTo_len (by omega)]; omega) | (simp; omega))) ?_
    refine AL_p (x_oindex (n := 5) rfl rfl rfl rfl (by kernel_rfl) rfl (k := k.toNat + 1) (by omega) (by first | omega | (simp only [List.length_set]; omega))) ?_
    refine AL_p (x_ostore (W[k.toNat]'(by omega)) rfl rfl rfl rfl (by kernel_rfl) rfl rfl rfl rfl FitL.rf rfl rfl (by first | omega | (simp only [List.length_set]; omega))) ?_
    refine AL_nild (by kernel_rfl) ?_
    refine AW_region ?_
    refine AL_p (x_move rfl rfl) ?_
    refine AL_p (x_add rfl rfl rfl (IntWalk.i64_in _ (by omega))) ?_
    refine AL_p (x_assign rfl rfl) ?_
    refine AL_nil ?_
    refine ⟨⟨⟨k + 1, ((W.set (k.toNat) (W[k.toNat + 1]'(by omega))).set (k.toNat + 1) (W[k.toNat]'(by omega)))⟩, ⟨⟨by dsimp only; omega, by dsimp only; omega⟩, by dsimp only; simp only [List.length_set]; exact hk1, hk2.step (by omega) (by omega) (by omega)⟩⟩, rn [], ?_, by dsimp only; omega⟩
    exact ⟨by (repeat refine ⟨⟨_, rfl, by first | exact VLe.rf | exact vle_int (by dsimp only; omega)⟩, ?_⟩); exact trivial, by (repeat refine ⟨⟨_, rfl, by first | exact BLe.rf | exact BLe.box AllC.rf | exact BLe.arr (by exact rfl)⟩, ?_⟩); exact trivial, by repeat (first | exact trivial | refine ⟨⟨rfl, by first | (left; intro h; cases h) | (right; rfl), by first | exact (fun _ h => ⟨_, h⟩) | exact (fun _ _ => ⟨_, rfl⟩) | (intro _ h; cases h)⟩, ?_⟩), rfl⟩
  try simp only [tdy] at h28
  refine AW_condF rfl ?_
  refine AW_skip ?_
  refine AW_seq ?_
  refine AW_seq ?_
  refine AW_region ?_
  refine AL_p (x_move rfl rfl) ?_
  refine AL_p (x_move rfl rfl) ?_
  refine AL_p (x_sub rfl rfl rfl (IntWalk.i64_in _ (by omega))) ?_
  refine AL_b (x_eql rfl rfl rfl) (fun b80 h80 => ?_)
  refine AL_nil ?_
  cases b80
  rotate_left
  · try simp only [tdy] at h80
    obtain ⟨x, rfl⟩ : ∃ x, B = [x] := List.length_eq_one_iff.1 (by omega)
    have hF2 := fal_right wkC hA hu ha hm hB0 hT2
    refine AW_condT rfl ?_
    refine AW_seq ?_
    refine AW_region ?_
    refine AL_p (x_move rfl rfl) ?_
    refine AL_p (x_assign rfl rfl) ?_
    refine AL_nil ?_
    refine AW_seq ?_
    refine AW_region ?_
    refine AL_p (x_move rfl rfl) ?_
    refine AL_p (x_assign rfl rfl) ?_
    refine AL_nil ?_
    refine AW_seq ?_
    refine AW_block ?_
    refine AW_loop2 (ι := {q : Int × Int // Bis T2 a m (q.1) (q.2)}) (fun p => [(14, .one (.c (.int .i64 ((p.1.1))))), (15, .one (.c (.int .i64 ((p.1.2)))))]) (fun p => []) [0, 1, 2, 3, 4] [0] (fun p => ((p.1.2) - (p.1.1)).toNat) ⟨⟨a, m⟩, .zero (by omega)⟩ (rn []) ?_ ?_
    exact ⟨by (repeat refine ⟨⟨_, rfl, by first | exact VLe.rf | exact vle_int (by dsimp only; omega)⟩, ?_⟩); exact trivial, by (repeat refine ⟨⟨_, rfl, by first | exact BLe.rf | exact BLe.box AllC.rf | exact BLe.arr (by exact rfl)⟩, ?_⟩); exact trivial, by repeat (first | exact trivial | refine ⟨⟨rfl, by first | (left; intro h; cases h) | (right; rfl), by first | exact (fun _ h => ⟨_, h⟩) | exact (fun _ _ => ⟨_, rfl⟩) | (intro _ h; cases h)⟩, ?_⟩), rfl⟩
    rintro ⟨⟨i, j⟩, hinv⟩
    dsimp only
    have hinv : Bis T2 a m i j := hinv
    have hb1 := hinv.1
    have hb2 := hinv.2.1
    have hb3 := hinv.2.2.1
    refine AW_seq ?_
    refine AW_seq ?_
    refine AW_region ?_
    refine AL_p (x_move rfl rfl) ?_
    refine AL_p (x_move rfl rfl) ?_
    refine AL_b (x_lss rfl rfl rfl) (fun b85 h85 => ?_)
    refine AL_nil ?_
    cases b85
    rotate_left
    · try simp only [tdy] at h85
      refine AW_condT rfl ?_
      refine AW_skip ?_
      refine AW_block ?_
      refine AW_seq ?_
      refine AW_region ?_
      refine AL_p (x_move rfl rfl) ?_
      refine AL_p (x_move rfl rfl) ?_
      refine AL_p (x_add rfl rfl rfl (IntWalk.i64_in _ (by omega))) ?_
      refine AL_p (x_conv (k' := .u64) rfl rfl (by kernel_rfl) (u64_id (by omega) (by omega))) ?_
      refine AL_p (x_shr rfl rfl rfl (by omega) (mid_shr (by omega)) (u64_wf (by omega) (by omega))) ?_
      refine AL_p (x_conv (k' := .i64) rfl rfl (by kernel_rfl) (IntWalk.i64_in _ (by omega))) ?_
      refine AL_p (x_assign rfl rfl) ?_
      refine AL_nil ?_
      refine AW_seq ?_
      refine AW_draw rfl ?_
      refine AL_p (x_move rfl rfl) ?_
      refine AL_p (x_move rfl rfl) ?_
      refine AL_p (x_move rfl rfl) ?_
      refine AL_p (x_oindex (n := 5) rfl rfl rfl rfl (by kernel_rfl) rfl (k := m.toNat) (by omega) (by omega)) ?_
      refine AL_p (x_oloadN (n := 5) rfl rfl rfl (by kernel_rfl) (by omega) rfl rfl) ?_
      refine AL_p (x_move rfl rfl) ?_
      refine AL_p (x_move rfl rfl) ?_
      refine AL_p (x_oindex (n := 5) rfl rfl rfl rfl (by kernel_rfl) rfl (k := ((i + j) / 2).toNat) (by omega) (by omega)) ?_
      refine AL_p (x_oloadN (n := 5) rfl rfl rfl (by kernel_rfl) (by omega) rfl rfl) ?_
      refine AL_p (x_call0 rfl rfl rfl (cmpC_c _ _) rfl rfl) ?_
      refine AL_b (x_lss rfl rfl rfl) (fun b102 h102 => ?_)
      refine AL_p (x_not rfl rfl) ?_
      refine AL_nild (by kernel_rfl) ?_
      cases b102
      rotate_left
      · try simp only [tdy] at h102
        have q102 : T2 ((i + j) / 2) = false := by rw [hT2, ltAt_eq (by omega) (by omega), cmpC_yes h102]; rfl
        refine AW_condF rfl ?_
        refine AW_region ?_
        refine AL_p (x_move rfl rfl) ?_
        refine AL_p (x_assign rfl rfl) ?_
        refine AL_nil ?_
        refine ⟨⟨⟨i, ((i + j) / 2)⟩, hinv.down hF2 (by omega) (by omega) q102⟩, rn [], ?_, by dsimp only; omega⟩
        exact ⟨by (repeat refine ⟨⟨_, rfl, by first | exact VLe.rf | exact vle_int (by dsimp only; omega)⟩, ?_⟩); exact trivial, by (repeat refine ⟨⟨_, rfl, by first | exact BLe.rf | exact BLe.box AllC.rf | exact BLe.arr (by exact rfl)⟩, ?_⟩); exact trivial, by repeat (first | exact trivial | refine ⟨⟨rfl, by first | (left; intro h; cases h) | (right; rfl), by first | exact (fun _ h => ⟨_, h⟩) | exact (fun _ _ => ⟨_, rfl⟩) | (intro _ h; cases h)⟩, ?_⟩), rfl⟩
      try simp only [tdy] at h102
      have q102 : T2 ((i + j) / 2) = true := by rw [hT2, ltAt_eq (by omega) (by omega), cmpC_no h102]; rfl
      refine AW_condT rfl ?_
      refine AW_region ?_
      refine AL_p (x_move rfl rfl) ?_
      refine AL_p (x_add rfl rfl rfl (IntWalk.i64_in _ (by omega))) ?_
      refine AL_p (x_assign rfl rfl) ?_
      refine AL_nil ?_
      refine ⟨⟨⟨((i + j) / 2) + 1, j⟩, hinv.up hF2 (by omega) (by omega) q102⟩, rn [], ?_, by dsimp only; omega⟩
      exact ⟨by (repeat refine ⟨⟨_, rfl, by first | exact VLe.rf | exact vle_int (by dsimp only; omega)⟩, ?_⟩); exact trivial, by (repeat refine ⟨⟨_, rfl, by first | exact BLe.rf | exact BLe.box AllC.rf | exact BLe.arr (by exact rfl)⟩, ?_⟩); exact trivial, by repeat (first | exact trivial | refine ⟨⟨rfl, by first | (left; intro h; cases h) | (right; rfl), by first | exact (fun _ h => ⟨_, h⟩) | exact (fun _ _ => ⟨_, rfl⟩) | (intro _ h; cases h)⟩, ?_⟩), rfl⟩
    try simp only [tdy] at h85
    obtain rfl : i = j := by omega
    have hz := RiI.zero (Q := Q) (k := m) hu (by omega)
    have hbi := hinv
    refine AW_condF rfl ?_
    refine AW_exit (BQ_hit ?_)
    refine AW_seq ?_
    refine AW_seq ?_
    refine AW_region ?_
    refine AL_p (x_move rfl rfl) ?_
    refine AL_p (x_assign rfl rfl) ?_
    refine AL_nil ?_
    refine AW_block ?_
    refine AW_loop2 (ι := {q : Int × List Changet // (i ≤ (q.1) ∧ (q.1) ≤ m) ∧ ((q.2).length = us.length ∧ RiI P x A Q (q.1) (q.2))}) (fun p => [(17, .one (.c (.int .i64 ((p.1.1)))))]) (fun p => [(0, some (.arr 65 changeE (p.1.2) false))]) [0, 1, 2, 3, 4, 14] [] (fun p => ((p.1.1) - i).toNat) ⟨⟨m, us⟩, ⟨⟨by dsimp only; omega, by dsimp only; omega⟩, rfl, hz⟩⟩ (rn []) ?_ ?_
    exact ⟨by (repeat refine ⟨⟨_, rfl, by first | exact VLe.rf | exact vle_int (by dsimp only; omega)⟩, ?_⟩); exact trivial, by (repeat refine ⟨⟨_, rfl, by first | exact BLe.rf | exact BLe.box AllC.rf | exact BLe.arr (by exact rfl)⟩, ?_⟩); exact trivial, by repeat (first | exact trivial | refine ⟨⟨rfl, by first | (left; intro h; cases h) | (right; rfl), by first | exact (fun _ h => ⟨_, h⟩) | exact (fun _ _ => ⟨_, rfl⟩) | (intro _ h; cases h)⟩, ?_⟩), rfl⟩
    rintro ⟨⟨k, W⟩, hinv⟩
    dsimp only
    obtain ⟨⟨hk0, hk00⟩, hk1, hk2⟩ := hinv
    dsimp only at hk0 hk00 hk1 hk2
    refine AW_seq ?_
    refine AW_seq ?_
    refine AW_region ?_
    refine AL_p (x_move rfl rfl) ?_
    refine AL_p (x_move rfl rfl) ?_
    refine AL_b (x_gtr rfl rfl rfl) (fun b110 h110 => ?_)
    refine AL_nil ?_
    cases b110
    · try simp only [tdy] at h110
      refine AW_condF rfl ?_
      refine AW_exit (BQ_hit ?_)
      refine AW_ret ?_
      exact ⟨rn [], ⟨trivial, ⟨⟨_, rfl, BLe.arr (merge_right hu ha hm hT2 hbi (by omega) hk2)⟩, trivial⟩, by repeat (first | exact trivial | refine ⟨⟨rfl, by first | (left; intro h; cases h) | (right; rfl), by first | exact (fun _ h => ⟨_, h⟩) | exact (fun _ _ => ⟨_, rfl⟩) | (intro _ h; cases h)⟩, ?_⟩), rfl⟩⟩
    try simp only [tdy] at h110
    refine AW_condT rfl ?_
    refine AW_skip ?_
    refine AW_seq ?_
    refine AW_block ?_
    refine AW_draw rfl ?_
    refine AL_p (x_move rfl rfl) ?_
    refine AL_p (x_move rfl rfl) ?_
    refine AL_p (x_move rfl rfl) ?_
    refine AL_p (x_move rfl rfl) ?_
    refine AL_p (x_sub rfl rfl rfl (IntWalk.i64_in _ (by omega))) ?_
    refine AL_p (x_move rfl rfl) ?_
    refine AL_p (x_move rfl rfl) ?_
    refine AL_p (x_sub rfl rfl rfl (IntWalk.i64_in _ (by omega))) ?_
    refine AL_p (x_oindex (n := 5) rfl rfl rfl rfl (by kernel_rfl) rfl (k := k.toNat - 1) (by omega) (by omega)) ?_
    refine AL_p (x_oloadN (n := 5) rfl rfl rfl (by kernel_rfl) (by omega) rfl rfl) ?_
    refine AL_p (x_move rfl rfl) ?_
    refine AL_p (x_move rfl rfl) ?_
    refine AL_p (x_oindex (n := 5) rfl rfl rfl rfl (by kernel_rfl) rfl (k := k.toNat) (by omega) (by omega)) ?_
    refine AL_p (x_oloadN (n := 5) rfl rfl rfl (by kernel_rfl) (by omega) rfl rfl) ?_
    refine AL_p (x_oindex (n := 5) rfl rfl rfl rfl (by kernel_rfl) rfl (k := k.toNat) (by omega) (by omega)) ?_
    refine AL_p (x_ostore (W[k.toNat - 1]'(by omega)) rfl rfl rfl rfl (by kernel_rfl) rfl rfl rfl rfl FitL.rf rfl rfl (by first | omega | (rw [filledTo_len (by omega)]; omega) | (simp; omega))) ?_
    refine AL_p (x_oindex (n := 5) rfl rfl rfl rfl (by kernel_rfl) rfl (k := k.toNat - 1) (by omega) (by first | omega | (simp only [List.length_set]; omega))) ?_
    refine AL_p (x_ostore (W[k.toNat]'(by omega)) rfl rfl rfl rfl (by kernel_rfl) rfl rfl rfl rfl FitL.rf rfl rfl (by first | omega | (simp only [List.length_set]; omega))) ?_
    refine AL_nild (by kernel_rfl) ?_
    refine AW_region ?_
    refine AL_p (x_move rfl rfl) ?_
    refine AL_p (x_sub rfl rfl rfl (IntWalk.i64_in _ (by omega))) ?_
    refine AL_p (x_assign rfl rfl) ?_
    refine AL_nil ?_
    refine ⟨⟨⟨k - 1, ((W.set (k.toNat) (W[k.toNat - 1]'(by omega))).set (k.toNat - 1) (W[k.toNat]'(by omega)))⟩, ⟨⟨by dsimp only; omega, by dsimp only; omega⟩, by dsimp only; simp only [List.length_set]; exact hk1, hk2.step (by omega) (by omega) (by omega)⟩⟩, rn [], ?_, by dsimp only; omega⟩
    exact ⟨by (repeat refine ⟨⟨_, rfl, by first | exact VLe.rf | exact vle_int (by dsimp only; omega)⟩, ?_⟩); exact trivial, by (repeat refine ⟨⟨_, rfl, by first | exact BLe.rf | exact BLe.box AllC.rf | exact BLe.arr (by exact rfl)⟩, ?_⟩); exact trivial, by repeat (first | exact trivial | refine ⟨⟨rfl, by first | (left; intro h; cases h) | (right; rfl), by first | exact (fun _ h => ⟨_, h⟩) | exact (fun _ _ => ⟨_, rfl⟩) | (intro _ h; cases h)⟩, ?_⟩), rfl⟩
  try simp only [tdy] at h80
  refine AW_condF rfl ?_
  refine AW_skip ?_
  refine AW_seq ?_
  refine AW_region ?_
  refine AL_p (x_move rfl rfl) ?_
  refine AL_p (x_move rfl rfl) ?_
  refine AL_p (x_add rfl rfl rfl (IntWalk.i64_in _ (by omega))) ?_
  refine AL_p (x_conv (k' := .u64) rfl rfl (by kernel_rfl) (u64_id (by omega) (by omega))) ?_
  refine AL_p (x_shr rfl rfl rfl (by omega) (mid_shr (by omega)) (u64_wf (by omega) (by omega))) ?_
  refine AL_p (x_conv (k' := .i64) rfl rfl (by kernel_rfl) (IntWalk.i64_in _ (by omega))) ?_
  refine AL_p (x_assign rfl rfl) ?_
  refine AL_nil ?_
  refine AW_seq ?_
  refine AW_region ?_
  refine AL_p (x_move rfl rfl) ?_
  refine AL_p (x_move rfl rfl) ?_
  refine AL_p (x_add rfl rfl rfl (IntWalk.i64_in _ (by omega))) ?_
  refine AL_p (x_assign rfl rfl) ?_
  refine AL_nil ?_
  refine AW_seq ?_
  refine AW_region ?_
  refine AL_p (x_assign rfl rfl) ?_
  refine AL_p (x_assign rfl rfl) ?_
  refine AL_nil ?_
  refine AW_mid (ι := {q : Int × Int // (a ≤ (q.1) ∧ (q.2) ≤ m ∧ (q.2) ≤ ((a + b) / 2) ∧ (q.1) ≤ (q.2) ∧ ((a + b) / 2) + m - (q.1) ≤ b) ∧ (((q.2) = m ∨ (q.2) = ((a + b) / 2)) ∧ ((q.1) = a ∨ ((a + b) / 2) + m - (q.1) = b))}) (fun p => [(20, .one (.c (.int .i64 ((p.1.1))))), (21, .one (.c (.int .i64 ((p.1.2)))))]) (fun p => []) [0, 1, 2, 3, 4, 18, 19] [0] ?_ ?_
  · refine AW_seq ?_
    refine AW_region ?_
    refine AL_p (x_move rfl rfl) ?_
    refine AL_p (x_move rfl rfl) ?_
    refine AL_b (x_gtr rfl rfl rfl) (fun b140 h140 => ?_)
    refine AL_nil ?_
    cases b140
    · try simp only [tdy] at h140
      refine AW_condF rfl ?_
      refine AW_seq ?_
      refine AW_region ?_
      refine AL_p (x_move rfl rfl) ?_
      refine AL_p (x_assign rfl rfl) ?_
      refine AL_nil ?_
      refine AW_region ?_
      refine AL_p (x_move rfl rfl) ?_
      refine AL_p (x_assign rfl rfl) ?_
      refine AL_nil ?_
      refine ⟨⟨⟨a, m⟩, by dsimp only; omega⟩, rn [], ?_⟩
      exact ⟨by (repeat refine ⟨⟨_, rfl, by first | exact VLe.rf | exact vle_int (by dsimp only; omega)⟩, ?_⟩); exact trivial, by (repeat refine ⟨⟨_, rfl, by first | exact BLe.rf | exact BLe.box AllC.rf | exact BLe.arr (by exact rfl)⟩, ?_⟩); exact trivial, by repeat (first | exact trivial | refine ⟨⟨rfl, by first | (left; intro h; cases h) | (right; rfl), by first | exact (fun _ h => ⟨_, h⟩) | exact (fun _ _ => ⟨_, rfl⟩) | (intro _ h; cases h)⟩, ?_⟩), rfl⟩
    try simp only [tdy] at h140
    refine AW_condT rfl ?_
    refine AW_seq ?_
    refine AW_region ?_
    refine AL_p (x_move rfl rfl) ?_
    refine AL_p (x_move rfl rfl) ?_
    refine AL_p (x_sub rfl rfl rfl (IntWalk.i64_in _ (by omega))) ?_
    refine AL_p (x_assign rfl rfl) ?_
    refine AL_nil ?_
    refine AW_region ?_
    refine AL_p (x_move rfl rfl) ?_
    refine AL_p (x_assign rfl rfl) ?_
    refine AL_nil ?_
    refine ⟨⟨⟨((a + b) / 2) + m - b, ((a + b) / 2)⟩, by dsimp only; omega⟩, rn [], ?_⟩
    exact ⟨by (repeat refine ⟨⟨_, rfl, by first | exact VLe.rf | exact vle_int (by dsimp only; omega)⟩, ?_⟩); exact trivial, by (repeat refine ⟨⟨_, rfl, by first | exact BLe.rf | exact BLe.box AllC.rf | exact BLe.arr (by exact rfl)⟩, ?_⟩); exact trivial, by repeat (first | exact trivial | refine ⟨⟨rfl, by first | (left; intro h; cases h) | (right; rfl), by first | exact (fun _ h => ⟨_, h⟩) | exact (fun _ _ => ⟨_, rfl⟩) | (intro _ h; cases h)⟩, ?_⟩), rfl⟩
  rintro ⟨⟨s0, r0⟩, hinv⟩
  dsimp only
  obtain ⟨⟨g1, g2, g3, g4, g5⟩, g6, g7⟩ := hinv
  dsimp only at g1 g2 g3 g4 g5 g6 g7
  have hF3 := fal_both wkC hA hB hu ha hm hb hT3 (s0 := s0) (r0 := r0) g1 g2 g3 g5
  refine AW_seq ?_
  refine AW_region ?_
  refine AL_p (x_move rfl rfl) ?_
  refine AL_p (x_sub rfl rfl rfl (IntWalk.i64_in _ (by omega))) ?_
  refine AL_p (x_assign rfl rfl) ?_
  refine AL_nil ?_
  refine AW_seq ?_
  refine AW_block ?_
  refine AW_loop2 (ι := {q : Int × Int // Bis T3 s0 r0 (q.1) (q.2)}) (fun p => [(20, .one (.c (.int .i64 ((p.1.1))))), (21, .one (.c (.int .i64 ((p.1.2)))))]) (fun p => []) [0, 1, 2, 3, 4, 18, 19, 22] [0] (fun p => ((p.1.2) - (p.1.1)).toNat) ⟨⟨s0, r0⟩, .zero (by omega)⟩ (rn []) ?_ ?_
  exact ⟨by (repeat refine ⟨⟨_, rfl, by first | exact VLe.rf | exact vle_int (by dsimp only; omega)⟩, ?_⟩); exact trivial, by (repeat refine ⟨⟨_, rfl, by first | exact BLe.rf | exact BLe.box AllC.rf | exact BLe.arr (by exact rfl)⟩, ?_⟩); exact trivial, by repeat (first | exact trivial | refine ⟨⟨rfl, by first | (left; intro h; cases h) | (right; rfl), by first | exact (fun _ h => ⟨_, h⟩) | exact (fun _ _ => ⟨_, rfl⟩) | (intro _ h; cases h)⟩, ?_⟩), rfl⟩
  rintro ⟨⟨i, j⟩, hinv⟩
  dsimp only
  have hinv : Bis T3 s0 r0 i j := hinv
  have hb1 := hinv.1
  have hb2 := hinv.2.1
  have hb3 := hinv.2.2.1
  refine AW_seq ?_
  refine AW_seq ?_
  refine AW_region ?_
  refine AL_p (x_move rfl rfl) ?_
  refine AL_p (x_move rfl rfl) ?_
  refine AL_b (x_lss rfl rfl rfl) (fun b151 h151 => ?_)
  refine AL_nil ?_
  cases b151
  rotate_left
  · try simp only [tdy] at h151
    refine AW_condT rfl ?_
    refine AW_skip ?_
    refine AW_block ?_
    refine AW_seq ?_
    refine AW_region ?_
    refine AL_p (x_move rfl rfl) ?_
    refine AL_p (x_move rfl rfl) ?_
    refine AL_p (x_add rfl rfl rfl (IntWalk.i64_in _ (by omega))) ?_
    refine AL_p (x_conv (k' := .u64) rfl rfl (by kernel_rfl) (u64_id (by omega) (by omega))) ?_
    refine AL_p (x_shr rfl rfl rfl (by omega) (mid_shr (by omega)) (u64_wf (by omega) (by omega))) ?_
    refine AL_p (x_conv (k' := .i64) rfl rfl (by kernel_rfl) (IntWalk.i64_in _ (by omega))) ?_
    refine AL_p (x_assign rfl rfl) ?_
    refine AL_nil ?_
    refine AW_seq ?_
    refine AW_draw rfl ?_
    refine AL_p (x_move rfl rfl) ?_
    refine AL_p (x_move rfl rfl) ?_
    refine AL_p (x_move rfl rfl) ?_
    refine AL_p (x_move rfl rfl) ?_
    refine AL_p (x_sub rfl rfl rfl (IntWalk.i64_in _ (by omega))) ?_
    refine AL_p (x_oindex (n := 5) rfl rfl rfl rfl (by kernel_rfl) rfl (k := (((a + b) / 2) + m - 1 - ((i + j) / 2)).toNat) (by omega) (by omega)) ?_
    refine AL_p (x_oloadN (n := 5) rfl rfl rfl (by kernel_rfl) (by omega) rfl rfl) ?_
    refine AL_p (x_move rfl rfl) ?_
    refine AL_p (x_move rfl rfl) ?_
    refine AL_p (x_oindex (n := 5) rfl rfl rfl rfl (by kernel_rfl) rfl (k := ((i + j) / 2).toNat) (by omega) (by omega)) ?_
    refine AL_p (x_oloadN (n := 5) rfl rfl rfl (by kernel_rfl) (by omega) rfl rfl) ?_
    refine AL_p (x_call0 rfl rfl rfl (cmpC_c _ _) rfl rfl) ?_
    refine AL_b (x_lss rfl rfl rfl) (fun b170 h170 => ?_)
    refine AL_p (x_not rfl rfl) ?_
    refine AL_nild (by kernel_rfl) ?_
    cases b170
    rotate_left
    · try simp only [tdy] at h170
      have q170 : T3 ((i + j) / 2) = false := by rw [hT3, ltAt_eq (by omega) (by omega), cmpC_yes h170]; rfl
      refine AW_condF rfl ?_
      refine AW_region ?_
      refine AL_p (x_move rfl rfl) ?_
      refine AL_p (x_assign rfl rfl) ?_
      refine AL_nil ?_
      refine ⟨⟨⟨i, ((i + j) / 2)⟩, hinv.down hF3 (by omega) (by omega) q170⟩, rn [], ?_, by dsimp only; omega⟩
      exact ⟨by (repeat refine ⟨⟨_, rfl, by first | exact VLe.rf | exact vle_int (by dsimp only; omega)⟩, ?_⟩); exact trivial, by (repeat refine ⟨⟨_, rfl, by first | exact BLe.rf | exact BLe.box AllC.rf | exact BLe.arr (by exact rfl)⟩, ?_⟩); exact trivial, by repeat (first | exact trivial | refine ⟨⟨rfl, by first | (left; intro h; cases h) | (right; rfl), by first | exact (fun _ h => ⟨_, h⟩) | exact (fun _ _ => ⟨_, rfl⟩) | (intro _ h; cases h)⟩, ?_⟩), rfl⟩
    try simp only [tdy] at h170
    have q170 : T3 ((i + j) / 2) = true := by rw [hT3, ltAt_eq (by omega) (by omega), cmpC_no h170]; rfl
    refine AW_condT rfl ?_
    refine AW_region ?_
    refine AL_p (x_move rfl rfl) ?_
    refine AL_p (x_add rfl rfl rfl (IntWalk.i64_in _ (by omega))) ?_
    refine AL_p (x_assign rfl rfl) ?_
    refine AL_nil ?_
    refine ⟨⟨⟨((i + j) / 2) + 1, j⟩, hinv.up hF3 (by omega) (by omega) q170⟩, rn [], ?_, by dsimp only; omega⟩
    exact ⟨by (repeat refine ⟨⟨_, rfl, by first | exact VLe.rf | exact vle_int (by dsimp only; omega)⟩, ?_⟩); exact trivial, by (repeat refine ⟨⟨_, rfl, by first | exact BLe.rf | exact BLe.box AllC.rf | exact BLe.arr (by exact rfl)⟩, ?_⟩); exact trivial, by repeat (first | exact trivial | refine ⟨⟨rfl, by first | (left; intro h; cases h) | (right; rfl), by first | exact (fun _ h => ⟨_, h⟩) | exact (fun _ _ => ⟨_, rfl⟩) | (intro _ h; cases h)⟩, ?_⟩), rfl⟩
  try simp only [tdy] at h151
  obtain rfl : i = j := by omega
  obtain ⟨a1, a2, b1, b2, rfl, rfl, l1, l2, l3, l4, hM⟩ := sym_cut wkC hA hB hu ha hm hb hT3 hinv g1 g2 g3 g5 g6 g7
  refine AW_condF rfl ?_
  refine AW_exit (BQ_hit ?_)
  refine AW_seq ?_
  refine AW_region ?_
  refine AL_p (x_move rfl rfl) ?_
  refine AL_p (x_move rfl rfl) ?_
  refine AL_p (x_sub rfl rfl rfl (IntWalk.i64_in _ (by omega))) ?_
  refine AL_p (x_assign rfl rfl) ?_
  refine AL_nil ?_
  refine AW_mid (ι := {q : Unit // True}) (fun p => []) (fun p => [(0, some (.arr 65 changeE (P ++ a1 ++ b1 ++ (a2 ++ (b2 ++ Q))) false))]) [0, 1, 3, 4, 18, 20, 24] [] ?_ ?_
  · refine AW_seq ?_
    refine AW_region ?_
    refine AL_p (x_move rfl rfl) ?_
    refine AL_p (x_move rfl rfl) ?_
    refine AL_b (x_lss rfl rfl rfl) (fun b180 h180 => ?_)
    refine AL_p (x_move rfl rfl) ?_
    cases b180
    · try simp only [tdy] at h180
      have hR : us = P ++ a1 ++ b1 ++ (a2 ++ (b2 ++ Q)) := by rw [hu, no_rot (a2 := a2) (b1 := b1) (by omega)]
      refine AL_o rfl rfl rfl rfl ?_
      refine AL_o rfl rfl rfl rfl ?_
      refine AL_o rfl rfl rfl rfl ?_
      refine AL_p (x_pickF rfl rfl rfl) ?_
      refine AL_nil ?_
      refine AW_condF rfl ?_
      refine AW_skip ?_
      refine ⟨⟨(), trivial⟩, rn [], ?_⟩
      exact ⟨by (repeat refine ⟨⟨_, rfl, by first | exact VLe.rf | exact vle_int (by dsimp only; omega)⟩, ?_⟩); exact trivial, by (repeat refine ⟨⟨_, rfl, by first | exact BLe.rf | exact BLe.box AllC.rf | exact BLe.arr (by first | exact hR | rfl)⟩, ?_⟩); exact trivial, by repeat (first | exact trivial | refine ⟨⟨rfl, by first | (left; intro h; cases h) | (right; rfl), by first | exact (fun _ h => ⟨_, h⟩) | exact (fun _ _ => ⟨_, rfl⟩) | (intro _ h; cases h)⟩, ?_⟩), rfl⟩
    try simp only [tdy] at h180
    refine AL_g rfl rfl (x_move rfl rfl) ?_
    refine AL_g rfl rfl (x_move rfl rfl) ?_
    refine AL_gb rfl rfl (x_lss rfl rfl rfl) (fun b184 h184 => ?_)
    refine AL_p (x_pickT rfl rfl rfl) ?_
    refine AL_nil ?_
    cases b184
    · try simp only [tdy] at h184
      have hR : us = P ++ a1 ++ b1 ++ (a2 ++ (b2 ++ Q)) := by rw [hu, no_rot (a2 := a2) (b1 := b1) (by omega)]
      refine AW_condF rfl ?_
      refine AW_skip ?_
      refine ⟨⟨(), trivial⟩, rn [], ?_⟩
      exact ⟨by (repeat refine ⟨⟨_, rfl, by first | exact VLe.rf | exact vle_int (by dsimp only; omega)⟩, ?_⟩); exact trivial, by (repeat refine ⟨⟨_, rfl, by first | exact BLe.rf | exact BLe.box AllC.rf | exact BLe.arr (by first | exact hR | rfl)⟩, ?_⟩); exact trivial, by repeat (first | exact trivial | refine ⟨⟨rfl, by first | (left; intro h; cases h) | (right; rfl), by first | exact (fun _ h => ⟨_, h⟩) | exact (fun _ _ => ⟨_, rfl⟩) | (intro _ h; cases h)⟩, ?_⟩), rfl⟩
    try simp only [tdy] at h184
    have hR : P ++ a1 ++ b1 ++ a2 ++ (b2 ++ Q) = P ++ a1 ++ b1 ++ (a2 ++ (b2 ++ Q)) := by simp only [List.append_assoc]
    refine AW_condT rfl ?_
    refine AW_region ?_
    refine AL_p (x_move rfl rfl) ?_
    refine AL_p (x_move rfl rfl) ?_
    refine AL_p (x_move rfl rfl) ?_
    refine AL_p (x_move rfl rfl) ?_
    refine AL_p (x_move rfl rfl) ?_
    refine AL_p (x_call (ks := []) (L := [(0, some _)]) (L' := [(0, some _)]) rfl rfl rfl (rot_c us i m (((a + b) / 2) + m - i) (P ++ a1) a2 b1 (b2 ++ Q) (by rw [hu]; simp only [List.append_assoc]) (by simp; omega) (by simp; omega) (by simp; omega) (by omega) (by omega) hl) rfl AllV.rf (caught_of rfl) rfl rfl rfl ⟨rfl, trivial⟩ rfl) ?_
    refine AL_nil ?_
    refine ⟨⟨(), trivial⟩, rn [], ?_⟩
    exact ⟨by (repeat refine ⟨⟨_, rfl, by first | exact VLe.rf | exact vle_int (by dsimp only; omega)⟩, ?_⟩); exact trivial, by (repeat refine ⟨⟨_, rfl, by first | exact BLe.rf | exact BLe.box AllC.rf | exact BLe.arr (by first | exact hR | rfl)⟩, ?_⟩); exact trivial, by repeat (first | exact trivial | refine ⟨⟨rfl, by first | (left; intro h; cases h) | (right; rfl), by first | exact (fun _ h => ⟨_, h⟩) | exact (fun _ _ => ⟨_, rfl⟩) | (intro _ h; cases h)⟩, ?_⟩), rfl⟩
  rintro ⟨u, hinv⟩
  dsimp only
  refine AW_mid (ι := {q : Unit // True}) (fun p => []) (fun p => [(0, some (.arr 65 changeE (P ++ mergeI ltC a1 b1 ++ a2 ++ b2 ++ Q) false))]) [0, 3, 4, 18, 24] [] ?_ ?_
  · refine AW_seq ?_
    refine AW_region ?_
    refine AL_p (x_move rfl rfl) ?_
    refine AL_p (x_move rfl rfl) ?_
    refine AL_b (x_lss rfl rfl rfl) (fun b194 h194 => ?_)
    refine AL_p (x_move rfl rfl) ?_
    cases b194
    · try simp only [tdy] at h194
      have hR := sym_none (P := P) (a := a1) (b := b1) (a2 := a2) (b2 := b2) (Q := Q) wkC hB.left (by omega)
      refine AL_o rfl rfl rfl rfl ?_
      refine AL_o rfl rfl rfl rfl ?_
      refine AL_o rfl rfl rfl rfl ?_
      refine AL_p (x_pickF rfl rfl rfl) ?_
      refine AL_nil ?_
      refine AW_condF rfl ?_
      refine AW_skip ?_
      refine ⟨⟨(), trivial⟩, rn [], ?_⟩
      exact ⟨by (repeat refine ⟨⟨_, rfl, by first | exact VLe.rf | exact vle_int (by dsimp only; omega)⟩, ?_⟩); exact trivial, by (repeat refine ⟨⟨_, rfl, by first | exact BLe.rf | exact BLe.box AllC.rf | exact BLe.arr (by first | exact hR | rfl)⟩, ?_⟩); exact trivial, by repeat (first | exact trivial | refine ⟨⟨rfl, by first | (left; intro h; cases h) | (right; rfl), by first | exact (fun _ h => ⟨_, h⟩) | exact (fun _ _ => ⟨_, rfl⟩) | (intro _ h; cases h)⟩, ?_⟩), rfl⟩
    try simp only [tdy] at h194
    refine AL_g rfl rfl (x_move rfl rfl) ?_
    refine AL_g rfl rfl (x_move rfl rfl) ?_
    refine AL_gb rfl rfl (x_lss rfl rfl rfl) (fun b198 h198 => ?_)
    refine AL_p (x_pickT rfl rfl rfl) ?_
    refine AL_nil ?_
    cases b198
    · try simp only [tdy] at h198
      have hR := sym_none (P := P) (a := a1) (b := b1) (a2 := a2) (b2 := b2) (Q := Q) wkC hB.left (by omega)
      refine AW_condF rfl ?_
      refine AW_skip ?_
      refine ⟨⟨(), trivial⟩, rn [], ?_⟩
      exact ⟨by (repeat refine ⟨⟨_, rfl, by first | exact VLe.rf | exact vle_int (by dsimp only; omega)⟩, ?_⟩); exact trivial, by (repeat refine ⟨⟨_, rfl, by first | exact BLe.rf | exact BLe.box AllC.rf | exact BLe.arr (by first | exact hR | rfl)⟩, ?_⟩); exact trivial, by repeat (first | exact trivial | refine ⟨⟨rfl, by first | (left; intro h; cases h) | (right; rfl), by first | exact (fun _ h => ⟨_, h⟩) | exact (fun _ _ => ⟨_, rfl⟩) | (intro _ h; cases h)⟩, ?_⟩), rfl⟩
    try simp only [tdy] at h198
    have hR : P ++ mergeI ltC a1 b1 ++ (a2 ++ (b2 ++ Q)) = P ++ mergeI ltC a1 b1 ++ a2 ++ b2 ++ Q := by simp only [List.append_assoc]
    refine AW_condT rfl ?_
    refine AW_region ?_
    refine AL_p (x_move rfl rfl) ?_
    refine AL_p (x_move rfl rfl) ?_
    refine AL_p (x_move rfl rfl) ?_
    refine AL_p (x_move rfl rfl) ?_
    refine AL_p (x_move rfl rfl) ?_
    refine AL_p (x_call (ks := []) (L := [(0, some _)]) (L' := [(0, some _)]) rfl rfl rfl (ih _ a i ((a + b) / 2) P a1 b1 (a2 ++ (b2 ++ Q)) rfl ha (by omega) (by omega) hA.left hB.left (by omega) (by omega) (by simp only [List.length_append] at hN; omega) (by simp only [List.length_append] at *; omega)) rfl AllV.rf (caught_of rfl) rfl rfl rfl ⟨rfl, trivial⟩ rfl) ?_
    refine AL_nil ?_
    refine ⟨⟨(), trivial⟩, rn [], ?_⟩
    exact ⟨by (repeat refine ⟨⟨_, rfl, by first | exact VLe.rf | exact vle_int (by dsimp only; omega)⟩, ?_⟩); exact trivial, by (repeat refine ⟨⟨_, rfl, by first | exact BLe.rf | exact BLe.box AllC.rf | exact BLe.arr (by first | exact hR | rfl)⟩, ?_⟩); exact trivial, by repeat (first | exact trivial | refine ⟨⟨rfl, by first | (left; intro h; cases h) | (right; rfl), by first | exact (fun _ h => ⟨_, h⟩) | exact (fun _ _ => ⟨_, rfl⟩) | (intro _ h; cases h)⟩, ?_⟩), rfl⟩
  rintro ⟨u, hinv⟩
  dsimp only
  refine AW_seq ?_
  refine AW_region ?_
  refine AL_p (x_move rfl rfl) ?_
  refine AL_p (x_move rfl rfl) ?_
  refine AL_b (x_lss rfl rfl rfl) (fun b208 h208 => ?_)
  refine AL_p (x_move rfl rfl) ?_
  cases b208
  · try simp only [tdy] at h208
    have hR3 := sym_none2 (P := P ++ mergeI ltC a1 b1) (a := a2) (b := b2) (Q := Q) wkC hB.right (by omega)
    refine AL_o rfl rfl rfl rfl ?_
    refine AL_o rfl rfl rfl rfl ?_
    refine AL_o rfl rfl rfl rfl ?_
    refine AL_p (x_pickF rfl rfl rfl) ?_
    refine AL_nil ?_
    refine AW_condF rfl ?_
    refine AW_skip ?_
    exact ⟨rn [], ⟨trivial, ⟨⟨_, rfl, BLe.arr (hR3.trans (by rw [hM]; simp only [List.append_assoc]))⟩, trivial⟩, by repeat (first | exact trivial | refine ⟨⟨rfl, by first | (left; intro h; cases h) | (right; rfl), by first | exact (fun _ h => ⟨_, h⟩) | exact (fun _ _ => ⟨_, rfl⟩) | (intro _ h; cases h)⟩, ?_⟩), rfl⟩⟩
  try simp only [tdy] at h208
  refine AL_g rfl rfl (x_move rfl rfl) ?_
  refine AL_g rfl rfl (x_move rfl rfl) ?_
  refine AL_gb rfl rfl (x_lss rfl rfl rfl) (fun b212 h212 => ?_)
  refine AL_p (x_pickT rfl rfl rfl) ?_
  refine AL_nil ?_
  cases b212
  · try simp only [tdy] at h212
    have hR3 := sym_none2 (P := P ++ mergeI ltC a1 b1) (a := a2) (b := b2) (Q := Q) wkC hB.right (by omega)
    refine AW_condF rfl ?_
    refine AW_skip ?_
    exact ⟨rn [], ⟨trivial, ⟨⟨_, rfl, BLe.arr (hR3.trans (by rw [hM]; simp only [List.append_assoc]))⟩, trivial⟩, by repeat (first | exact trivial | refine ⟨⟨rfl, by first | (left; intro h; cases h) | (right; rfl), by first | exact (fun _ h => ⟨_, h⟩) | exact (fun _ _ => ⟨_, rfl⟩) | (intro _ h; cases h)⟩, ?_⟩), rfl⟩⟩
  try simp only [tdy] at h212
  have hR3 : P ++ mergeI ltC a1 b1 ++ mergeI ltC a2 b2 ++ Q = P ++ mergeI ltC a1 b1 ++ mergeI ltC a2 b2 ++ Q := rfl
  refine AW_condT rfl ?_
  refine AW_region ?_
  refine AL_p (x_move rfl rfl) ?_
  refine AL_p (x_move rfl rfl) ?_
  refine AL_p (x_move rfl rfl) ?_
  refine AL_p (x_move rfl rfl) ?_
  refine AL_p (x_move rfl rfl) ?_
  refine AL_p (x_call (ks := []) (L := [(0, some _)]) (L' := [(0, some _)]) rfl rfl rfl (ih _ ((a + b) / 2) (((a + b) / 2) + m - i) b (P ++ mergeI ltC a1 b1) a2 b2 Q rfl (by simp [mergeI_len]; omega) (by simp [mergeI_len]; omega) (by simp [mergeI_len]; omega) hA.right hB.right (by omega) (by omega) (by simp only [List.length_append] at hN; omega) (by simp only [List.length_append, mergeI_len] at *; omega)) rfl AllV.rf (caught_of rfl) rfl rfl rfl ⟨rfl, trivial⟩ rfl) ?_
  refine AL_nil ?_
  exact ⟨rn [], ⟨trivial, ⟨⟨_, rfl, BLe.arr (hR3.trans (by rw [hM]; simp only [List.append_assoc]))⟩, trivial⟩, by repeat (first | exact trivial | refine ⟨⟨rfl, by first | (left; intro h; cases h) | (right; rfl), by first | exact (fun _ h => ⟨_, h⟩) | exact (fun _ _ => ⟨_, rfl⟩) | (intro _ h; cases h)⟩, ?_⟩), rfl⟩⟩

theorem sym_ih : ∀ N, SymIH N
  | 0 => fun us a m b P A B Q hu ha hm hb hA hB hA0 hB0 hN hl => absurd hN (by omega)
  | N + 1 => fun us a m b P A B Q hu ha hm hb hA hB hA0 hB0 hN hl => symStep N (sym_ih N) us a m b P A B Q hu ha hm hb hA hB hA0 hB0 hN hl
theorem sym_c (us : List Changet) (a m b : Int) (P A B Q : List Changet) (hu : us = P ++ A ++ B ++ Q) (ha : a = P.length) (hm : m = P.length + A.length) (hb : b = P.length + A.length + B.length) (hA : Srt ltC A) (hB : Srt ltC B) (hA0 : 0 < A.length) (hB0 : 0 < B.length) (hl : us.length ≤ 1048576) : AC Tryz.prog 134 [.one (.own 0), .one (.c (.int .i64 (a))), .one (.c (.int .i64 (m))), .one (.c (.int .i64 (b))), .one (.clo 56 [])] [(0, some (.arr 65 changeE us false))] (.tup []) [(0, some (.arr 65 changeE (P ++ mergeI ltC A B ++ Q) false))] := sym_ih _ us a m b P A B Q hu ha hm hb hA hB hA0 hB0 (Nat.le_refl _) hl
end Go.Proofs.YtibhoanjglfaoaaGreat

/- The kit's contract of slices.Grow laid at values. -/
namespace Go.Proofs
open Go.Shelf
def Tryz.growChg_ren : Go.Shelf.Ren := ⟨fun | 4 => 100 | n => n, fun | 22 => 36 | 25 => 65 | 3 => 3 | 4 => 4 | 9 => 9 | 20 => 20 | 0 => 0 | n => n, fun | n => n⟩
theorem Tryz.growChg : Go.Proofs.Lays8.n4 Tryz.prog Tryz.growChg_ren := {
  mixed := by kernel_rfl
  f4 := ⟨Tryz.f100.name, by decide, Tryz.func100.trans (congrArg some (by kernel_rfl))⟩
  t0 := Tryz.underlying0
  a0 := Tryz.isAgg0
  z0 := Tryz.sizeOf0
  v0 := Tryz.zeroValue0
  t3 := Tryz.underlying3
  a3 := Tryz.isAgg3
  z3 := Tryz.sizeOf3
  v3 := Tryz.zeroValue3
  t4 := Tryz.underlying4
  a4 := Tryz.isAgg4
  z4 := Tryz.sizeOf4
  v4 := Tryz.zeroValue4
  t9 := Tryz.underlying9
  a9 := Tryz.isAgg9
  z9 := Tryz.sizeOf9
  v9 := Tryz.zeroValue9
  t20 := Tryz.underlying20
  a20 := Tryz.isAgg20
  z20 := Tryz.sizeOf20
  v20 := Tryz.zeroValue20
  t22 := Tryz.underlying36
  a22 := Tryz.isAgg36
  z22 := Tryz.sizeOf36
  v22 := Tryz.zeroValue36 }
end Go.Proofs

/- slices.Grow of no slice, at changes. -/
namespace Go.Proofs.YtibhoanjglfaoaaGreat
open Go.RowKit
set_option linter.unusedVariables false

theorem growChg_c0 (n : Nat) (hn : n ≤ 2097152) : AC Tryz.prog 100 [.one (.c (.slice none 0 0)), .one (.c (.int .i64 (n : Int)))] [] (.one (.own 0)) [(0, some (.arr 65 changeE [] true))] :=
  AC.room changeE ⟨_, _, Tryz.func100, rfl, rfl⟩ fun w g cargs h => by
    obtain ⟨x, y, rfl, h1, h2⟩ := inv2 h
    rw [(inv_c h1).1, (inv_c h2).1]
    rcases Nat.eq_zero_or_pos n with h0 | h0
    · subst h0
      refine (Any8.slices_Grow_room Tryz.growChg none 0 0 0 w (Nat.le_refl _) (by omega) (by omega) (Nat.le_refl _)).mono ?_
      rintro en w' ⟨rfl, rfl⟩
      exact ⟨_, rfl, ⟨by simp, .inl ⟨rfl, rfl⟩⟩, ⟨rfl, rfl, rfl, Nat.le_refl _, fun _ _ _ => rfl⟩, fun b hb => by cases hb⟩
    · obtain ⟨hu, hn0, ti, z, hti, hz, hzs, htis, htib⟩ := arrT_spec (P := Tryz.prog) (T := 36) (E := 65) (n := 5) (b := 80) (by kernel_rfl)
      refine (Any8.slices_Grow_grow Tryz.growChg ti z hti hz (by omega) none 0 0 n [] w (Nat.le_refl _) (by omega) (by rw [htib]; omega) (by omega) (by simp) (fun _ => rfl) (fun a ha => by cases ha)).mono ?_
      rintro en w' ⟨rfl, rfl⟩
      have hG := grownCap_ge w (0 + n) 0 65
      have hM := grownCap_le_maxLen w (0 + n) 0 65 (by unfold maxLen; omega)
      refine ⟨_, rfl, ⟨by simp, .inr ⟨w.heap.size, _, _, rfl, Nat.zero_le _, heap_alloc_new w.drew _, Nat.zero_le _, hM, ?_, by simp⟩⟩, ⟨rfl, rfl, rfl, by simp, fun k hk _ => Below.heap_alloc w.drew _ k hk⟩, fun b hb => by
        have : w.heap.size = b := by simpa [Value.ownBlock] using hb
        omega⟩
      show (_ : Array Value).size = _ * 5
      simp only [Array.size_append, size_zeroCells, List.size_toArray, List.length_nil, hzs]
      show 0 + (0 + n - 0) * 5 + (grownCap w (0 + n) 0 65 - (0 + n)) * 5 = grownCap w (0 + n) 0 65 * 5
      omega
theorem growChg_c (n : Nat) (hn : n ≤ 2097152) (k : Nat) : AC Tryz.prog 100 [.one (.c (.slice none 0 0)), .one (.c (.int .i64 (n : Int)))] [] (.one (.own k)) [(k, some (.arr 65 changeE [] true))] := AC.at (growChg_c0 n hn) k
end Go.Proofs.YtibhoanjglfaoaaGreat

/- An own array under another number; places of covering matches. -/
namespace Go.Proofs.YtibhoanjglfaoaaGreat
open Go.RowKit
set_option linter.unusedVariables false

section
variable {P : Program} {N : Nat} {K : List Nat} {Kn : St → Prop} {Q : Exit → St → Prop} {s : St}
end
end Go.Proofs.YtibhoanjglfaoaaGreat

/- Changes put in order, each name once (printed by walk.py) -/
namespace Go.Proofs.YtibhoanjglfaoaaGreat
open Go.RowKit
set_option linter.unusedVariables false
set_option linter.unusedSimpArgs false
set_option maxRecDepth 100000

set_option maxHeartbeats 4000000 in
theorem stab_c (us : List Changet) (n : Int) (hn : n = us.length) (hl : us.length ≤ 48) : AC Tryz.prog 101 [.one (.own 0), .one (.c (.int .i64 (n))), .one (.clo 56 [])] [(0, some (.arr 65 changeE us false))] (.tup []) [(0, some (.arr 65 changeE (isort ltC us) false))] := by
  refine AC_body0 Tryz.func101 rfl rfl Tryz.ntmps101 rfl Tryz.results101 ?_
  refine AW_seq ?_
  refine AW_region ?_
  refine AL_p (x_assign rfl rfl) ?_
  refine AL_nil ?_
  refine AW_seq ?_
  refine AW_region ?_
  refine AL_p (x_move rfl rfl) ?_
  refine AL_p (x_assign rfl rfl) ?_
  refine AL_p (x_assign rfl rfl) ?_
  refine AL_nil ?_
  refine AW_seq ?_
  refine AW_block ?_
  refine AW_loop2 (ι := {q : Int × List Changet // BlI ltC us (q.1) (q.2)}) (fun p => [(7, .one (.c (.int .i64 ((p.1.1))))), (8, .one (.c (.int .i64 ((p.1.1) + 20))))]) (fun p => [(0, some (.arr 65 changeE (p.1.2) false))]) [0, 1, 2, 6] [] (fun p => (us.length - (p.1.1)).toNat) ⟨⟨0, us⟩, .inl ⟨rfl, rfl⟩⟩ (rn []) ?_ ?_
  exact ⟨by (repeat refine ⟨⟨_, rfl, by first | exact VLe.rf | exact vle_int (by dsimp only; omega)⟩, ?_⟩); exact trivial, by (repeat refine ⟨⟨_, rfl, by first | exact BLe.rf | exact BLe.box AllC.rf | exact BLe.arr (by exact rfl)⟩, ?_⟩); exact trivial, by repeat (first | exact trivial | refine ⟨⟨rfl, by first | (left; intro h; cases h) | (right; rfl), by first | exact (fun _ h => ⟨_, h⟩) | exact (fun _ _ => ⟨_, rfl⟩) | (intro _ h; cases h)⟩, ?_⟩), rfl⟩
  rintro ⟨⟨p, W⟩, hinv⟩
  dsimp only
  have hinv : BlI ltC us p W := hinv
  have hle := hinv.le
  have hWl := hinv.len
  refine AW_seq ?_
  refine AW_seq ?_
  refine AW_region ?_
  refine AL_p (x_move rfl rfl) ?_
  refine AL_p (x_move rfl rfl) ?_
  refine AL_b (x_leq rfl rfl rfl) (fun b13 h13 => ?_)
  refine AL_nil ?_
  cases b13
  rotate_left
  · try simp only [tdy] at h13
    refine AW_condT rfl ?_
    refine AW_skip ?_
    refine AW_block ?_
    refine AW_seq ?_
    refine AW_region ?_
    refine AL_p (x_move rfl rfl) ?_
    refine AL_p (x_move rfl rfl) ?_
    refine AL_p (x_move rfl rfl) ?_
    refine AL_p (x_move rfl rfl) ?_
    refine AL_p (x_call (ks := []) (L := [(0, some _)]) (L' := [(0, some _)]) rfl rfl rfl (insS_c W p (p + 20) (W.take p.toNat) ((W.take (p + 20).toNat).drop p.toNat) (W.drop (p + 20).toNat) (cut_three W (by omega)) (by simp; omega) (by simp; omega) (by omega)) rfl AllV.rf (caught_of rfl) rfl rfl rfl ⟨rfl, trivial⟩ rfl) ?_
    refine AL_nil ?_
    refine AW_seq ?_
    refine AW_region ?_
    refine AL_p (x_move rfl rfl) ?_
    refine AL_p (x_assign rfl rfl) ?_
    refine AL_nil ?_
    refine AW_region ?_
    refine AL_p (x_move rfl rfl) ?_
    refine AL_p (x_move rfl rfl) ?_
    refine AL_p (x_add rfl rfl rfl (IntWalk.i64_in _ (by omega))) ?_
    refine AL_p (x_assign rfl rfl) ?_
    refine AL_nil ?_
    refine ⟨⟨⟨p + 20, (W.take p.toNat ++ isort ltC ((W.take (p + 20).toNat).drop p.toNat) ++ W.drop (p + 20).toNat)⟩, hinv.next (by omega) hl⟩, rn [], ?_, by dsimp only; omega⟩
    exact ⟨by (repeat refine ⟨⟨_, rfl, by first | exact VLe.rf | exact vle_int (by dsimp only; omega)⟩, ?_⟩); exact trivial, by (repeat refine ⟨⟨_, rfl, by first | exact BLe.rf | exact BLe.box AllC.rf | exact BLe.arr (by exact rfl)⟩, ?_⟩); exact trivial, by repeat (first | exact trivial | refine ⟨⟨rfl, by first | (left; intro h; cases h) | (right; rfl), by first | exact (fun _ h => ⟨_, h⟩) | exact (fun _ _ => ⟨_, rfl⟩) | (intro _ h; cases h)⟩, ?_⟩), rfl⟩
  try simp only [tdy] at h13
  have hB := hinv.done (by omega)
  refine AW_condF rfl ?_
  refine AW_exit (BQ_hit ?_)
  refine AW_seq ?_
  refine AW_region ?_
  refine AL_p (x_move rfl rfl) ?_
  refine AL_p (x_move rfl rfl) ?_
  refine AL_p (x_move rfl rfl) ?_
  refine AL_p (x_move rfl rfl) ?_
  refine AL_p (x_call (ks := []) (L := [(0, some _)]) (L' := [(0, some _)]) rfl rfl rfl (insS_c W p n (W.take p.toNat) ((W.take us.length).drop p.toNat) (W.drop us.length) (cut_three W (by omega)) (by simp; omega) (by simp; omega) (by omega)) rfl AllV.rf (caught_of rfl) rfl rfl rfl ⟨rfl, trivial⟩ rfl) ?_
  refine AL_nil ?_
  refine AW_block ?_
  refine AW_loop2 (ι := {q : Nat // q = 20 ∨ q = 40 ∨ q = 80}) (fun p => [(6, .one (.c (.int .i64 (((p.1) : Int)))))]) (fun p => [(0, some (.arr 65 changeE (blks ltC (p.1) us) false))]) [0, 1, 2] [] (fun p => 100 - (p.1)) ⟨20, .inl rfl⟩ (rn []) ?_ ?_
  exact ⟨by (repeat refine ⟨⟨_, rfl, by first | exact VLe.rf | exact vle_int (by dsimp only; omega)⟩, ?_⟩); exact trivial, by (repeat refine ⟨⟨_, rfl, by first | exact BLe.rf | exact BLe.box AllC.rf | exact BLe.arr (by first | exact hB | exact hfin)⟩, ?_⟩); exact trivial, by repeat (first | exact trivial | refine ⟨⟨rfl, by first | (left; intro h; cases h) | (right; rfl), by first | exact (fun _ h => ⟨_, h⟩) | exact (fun _ _ => ⟨_, rfl⟩) | (intro _ h; cases h)⟩, ?_⟩), rfl⟩
  rintro ⟨z, hinv⟩
  dsimp only
  have hz : z = 20 ∨ z = 40 ∨ z = 80 := hinv
  refine AW_seq ?_
  refine AW_seq ?_
  refine AW_region ?_
  refine AL_p (x_move rfl rfl) ?_
  refine AL_p (x_move rfl rfl) ?_
  refine AL_b (x_lss rfl rfl rfl) (fun b30 h30 => ?_)
  refine AL_nil ?_
  cases b30
  · try simp only [tdy] at h30
    refine AW_condF rfl ?_
    refine AW_exit (BQ_hit ?_)
    exact ⟨rn [], ⟨trivial, ⟨⟨_, rfl, BLe.arr (blks_all (by omega))⟩, trivial⟩, by repeat (first | exact trivial | refine ⟨⟨rfl, by first | (left; intro h; cases h) | (right; rfl), by first | exact (fun _ h => ⟨_, h⟩) | exact (fun _ _ => ⟨_, rfl⟩) | (intro _ h; cases h)⟩, ?_⟩), rfl⟩⟩
  try simp only [tdy] at h30
  refine AW_condT rfl ?_
  refine AW_skip ?_
  refine AW_block ?_
  refine AW_seq ?_
  refine AW_region ?_
  refine AL_p (x_move rfl rfl) ?_
  refine AL_p (x_mul rfl rfl rfl (IntWalk.i64_in _ (by omega))) ?_
  refine AL_p (x_assign rfl rfl) ?_
  refine AL_p (x_assign rfl rfl) ?_
  refine AL_nil ?_
  refine AW_seq ?_
  refine AW_block ?_
  refine AW_loop2 (ι := {q : Int × List Changet // (((q.1) = 0 ∧ (q.2) = blks ltC z us) ∨ ((q.1) = 2 * z ∧ 2 * z ≤ us.length ∧ (q.2) = isort ltC (us.take (2 * z)) ++ isort ltC (us.drop (2 * z))))}) (fun p => [(7, .one (.c (.int .i64 ((p.1.1))))), (8, .one (.c (.int .i64 ((p.1.1) + 2 * (z : Int)))))]) (fun p => [(0, some (.arr 65 changeE (p.1.2) false))]) [0, 1, 2, 6] [] (fun p => (us.length - (p.1.1)).toNat) ⟨⟨0, (blks ltC z us)⟩, .inl ⟨rfl, rfl⟩⟩ (rn []) ?_ ?_
  exact ⟨by (repeat refine ⟨⟨_, rfl, by first | exact VLe.rf | exact vle_int (by dsimp only; omega)⟩, ?_⟩); exact trivial, by (repeat refine ⟨⟨_, rfl, by first | exact BLe.rf | exact BLe.box AllC.rf | exact BLe.arr (by exact rfl)⟩, ?_⟩); exact trivial, by repeat (first | exact trivial | refine ⟨⟨rfl, by first | (left; intro h; cases h) | (right; rfl), by first | exact (fun _ h => ⟨_, h⟩) | exact (fun _ _ => ⟨_, rfl⟩) | (intro _ h; cases h)⟩, ?_⟩), rfl⟩
  rintro ⟨⟨p, W⟩, hinv⟩
  dsimp only
  have hp : ((p = 0 ∧ W = blks ltC z us) ∨ (p = 2 * z ∧ 2 * z ≤ us.length ∧ W = isort ltC (us.take (2 * z)) ++ isort ltC (us.drop (2 * z)))) := hinv
  have hWl : W.length = us.length := by rcases hp with ⟨_, rfl⟩ | ⟨_, _, rfl⟩; exact blks_len (by omega); simp only [List.length_append, isort_len, List.length_take, List.length_drop]; omega
  refine AW_seq ?_
  refine AW_seq ?_
  refine AW_region ?_
  refine AL_p (x_move rfl rfl) ?_
  refine AL_p (x_move rfl rfl) ?_
  refine AL_b (x_leq rfl rfl rfl) (fun b35 h35 => ?_)
  refine AL_nil ?_
  cases b35
  rotate_left
  · try simp only [tdy] at h35
    have h0 : p = 0 ∧ W = blks ltC z us := by rcases hp with q | q; exact q; omega
    refine AW_condT rfl ?_
    refine AW_skip ?_
    refine AW_block ?_
    refine AW_seq ?_
    refine AW_region ?_
    refine AL_p (x_move rfl rfl) ?_
    refine AL_p (x_move rfl rfl) ?_
    refine AL_p (x_move rfl rfl) ?_
    refine AL_p (x_move rfl rfl) ?_
    refine AL_p (x_add rfl rfl rfl (IntWalk.i64_in _ (by omega))) ?_
    refine AL_p (x_move rfl rfl) ?_
    refine AL_p (x_move rfl rfl) ?_
    refine AL_p (x_call (ks := []) (L := [(0, some _)]) (L' := [(0, some _)]) rfl rfl rfl (sym_c _ _ _ _ [] (isort ltC (us.take z)) (isort ltC ((us.drop z).take z)) (isort ltC (us.drop (2 * z))) (h0.2.trans (by unfold blks; simp only [List.nil_append, List.append_assoc])) (by simp only [isort_len, List.length_take, List.length_drop, List.length_nil]; have := h0.1; omega) (by simp only [isort_len, List.length_take, List.length_drop, List.length_nil]; have := h0.1; omega) (by simp only [isort_len, List.length_take, List.length_drop, List.length_nil]; have := h0.1; omega) (isort_srt wkC) (isort_srt wkC) (by simp only [isort_len, List.length_take, List.length_drop, List.length_nil]; omega) (by simp only [isort_len, List.length_take, List.length_drop, List.length_nil]; omega) (by rw [hWl]; omega)) rfl AllV.rf (caught_of rfl) rfl rfl rfl ⟨rfl, trivial⟩ rfl) ?_
    refine AL_nil ?_
    refine AW_seq ?_
    refine AW_region ?_
    refine AL_p (x_move rfl rfl) ?_
    refine AL_p (x_assign rfl rfl) ?_
    refine AL_nil ?_
    refine AW_region ?_
    refine AL_p (x_move rfl rfl) ?_
    refine AL_p (x_move rfl rfl) ?_
    refine AL_p (x_mul rfl rfl rfl (IntWalk.i64_in _ (by omega))) ?_
    refine AL_p (x_add rfl rfl rfl (IntWalk.i64_in _ (by omega))) ?_
    refine AL_p (x_assign rfl rfl) ?_
    refine AL_nil ?_
    refine ⟨⟨⟨p + 2 * (z : Int), ([] ++ mergeI ltC (isort ltC (us.take z)) (isort ltC ((us.drop z).take z)) ++ (isort ltC (us.drop (2 * z))))⟩, .inr ⟨by have := h0.1; dsimp only; omega, by have := h0.1; omega, by rw [List.nil_append, blks_merge wkC]⟩⟩, rn [], ?_, by dsimp only; omega⟩
    exact ⟨by (repeat refine ⟨⟨_, rfl, by first | exact VLe.rf | exact vle_int (by dsimp only; omega)⟩, ?_⟩); exact trivial, by (repeat refine ⟨⟨_, rfl, by first | exact BLe.rf | exact BLe.box AllC.rf | exact BLe.arr (by exact rfl)⟩, ?_⟩); exact trivial, by repeat (first | exact trivial | refine ⟨⟨rfl, by first | (left; intro h; cases h) | (right; rfl), by first | exact (fun _ h => ⟨_, h⟩) | exact (fun _ _ => ⟨_, rfl⟩) | (intro _ h; cases h)⟩, ?_⟩), rfl⟩
  try simp only [tdy] at h35
  refine AW_condF rfl ?_
  refine AW_exit (BQ_hit ?_)
  refine AW_seq ?_
  refine AW_seq ?_
  refine AW_region ?_
  refine AL_p (x_move rfl rfl) ?_
  refine AL_p (x_move rfl rfl) ?_
  refine AL_p (x_add rfl rfl rfl (IntWalk.i64_in _ (by omega))) ?_
  refine AL_p (x_assign rfl rfl) ?_
  refine AL_nil ?_
  refine AW_seq ?_
  refine AW_region ?_
  refine AL_p (x_move rfl rfl) ?_
  refine AL_p (x_move rfl rfl) ?_
  refine AL_b (x_lss rfl rfl rfl) (fun b54 h54 => ?_)
  refine AL_nil ?_
  cases b54
  · try simp only [tdy] at h54
    have h0 : p = 2 * z ∧ 2 * z ≤ us.length ∧ W = isort ltC (us.take (2 * z)) ++ isort ltC (us.drop (2 * z)) := by rcases hp with q | q; omega; exact q
    have hfin : W = blks ltC (2 * z) us := by rw [h0.2.2, blks_two wkC (by omega)]
    refine AW_condF rfl ?_
    refine AW_skip ?_
    refine AW_region ?_
    refine AL_p (x_move rfl rfl) ?_
    refine AL_p (x_mul rfl rfl rfl (IntWalk.i64_in _ (by omega))) ?_
    refine AL_p (x_assign rfl rfl) ?_
    refine AL_nil ?_
    refine ⟨⟨2 * z, by omega⟩, rn [], ?_, by dsimp only; omega⟩
    exact ⟨by (repeat refine ⟨⟨_, rfl, by first | exact VLe.rf | exact vle_int (by dsimp only; omega)⟩, ?_⟩); exact trivial, by (repeat refine ⟨⟨_, rfl, by first | exact BLe.rf | exact BLe.box AllC.rf | exact BLe.arr (by first | exact hB | exact hfin)⟩, ?_⟩); exact trivial, by repeat (first | exact trivial | refine ⟨⟨rfl, by first | (left; intro h; cases h) | (right; rfl), by first | exact (fun _ h => ⟨_, h⟩) | exact (fun _ _ => ⟨_, rfl⟩) | (intro _ h; cases h)⟩, ?_⟩), rfl⟩
  try simp only [tdy] at h54
  have h0 : p = 0 ∧ W = blks ltC z us := by rcases hp with q | q; exact q; omega
  have hfin : [] ++ mergeI ltC (isort ltC (us.take z)) (isort ltC ((us.drop z).take z)) ++ (isort ltC (us.drop (2 * z))) = blks ltC (2 * z) us := by rw [List.nil_append, blks_merge wkC, blks_two wkC (by omega)]
  refine AW_condT rfl ?_
  refine AW_region ?_
  refine AL_p (x_move rfl rfl) ?_
  refine AL_p (x_move rfl rfl) ?_
  refine AL_p (x_move rfl rfl) ?_
  refine AL_p (x_move rfl rfl) ?_
  refine AL_p (x_move rfl rfl) ?_
  refine AL_p (x_call (ks := []) (L := [(0, some _)]) (L' := [(0, some _)]) rfl rfl rfl (sym_c _ _ _ _ [] (isort ltC (us.take z)) (isort ltC ((us.drop z).take z)) (isort ltC (us.drop (2 * z))) (h0.2.trans (by unfold blks; simp only [List.nil_append, List.append_assoc])) (by simp only [isort_len, List.length_take, List.length_drop, List.length_nil]; have := h0.1; omega) (by simp only [isort_len, List.length_take, List.length_drop, List.length_nil]; have := h0.1; omega) (by simp only [isort_len, List.length_take, List.length_drop, List.length_nil]; have := h0.1; omega) (isort_srt wkC) (isort_srt wkC) (by simp only [isort_len, List.length_take, List.length_drop, List.length_nil]; omega) (by simp only [isort_len, List.length_take, List.length_drop, List.length_nil]; omega) (by rw [hWl]; omega)) rfl AllV.rf (caught_of rfl) rfl rfl rfl ⟨rfl, trivial⟩ rfl) ?_
  refine AL_nil ?_
  refine AW_region ?_
  refine AL_p (x_move rfl rfl) ?_
  refine AL_p (x_mul rfl rfl rfl (IntWalk.i64_in _ (by omega))) ?_
  refine AL_p (x_assign rfl rfl) ?_
  refine AL_nil ?_
  refine ⟨⟨2 * z, by omega⟩, rn [], ?_, by dsimp only; omega⟩
  exact ⟨by (repeat refine ⟨⟨_, rfl, by first | exact VLe.rf | exact vle_int (by dsimp only; omega)⟩, ?_⟩); exact trivial, by (repeat refine ⟨⟨_, rfl, by first | exact BLe.rf | exact BLe.box AllC.rf | exact BLe.arr (by first | exact hB | exact hfin)⟩, ?_⟩); exact trivial, by repeat (first | exact trivial | refine ⟨⟨rfl, by first | (left; intro h; cases h) | (right; rfl), by first | exact (fun _ h => ⟨_, h⟩) | exact (fun _ _ => ⟨_, rfl⟩) | (intro _ h; cases h)⟩, ?_⟩), rfl⟩

set_option maxHeartbeats 4000000 in
theorem sortC_c (us : List Changet) (hl : us.length ≤ 48) : AC Tryz.prog 55 [.one (.own 0), .one (.clo 56 [])] [(0, some (.arr 65 changeE us false))] (.tup []) [(0, some (.arr 65 changeE (isort ltC us) false))] := by
  refine AC_body0 Tryz.func55 rfl rfl Tryz.ntmps55 rfl Tryz.results55 ?_
  refine AW_region ?_
  refine AL_p (x_move rfl rfl) ?_
  refine AL_p (x_move rfl rfl) ?_
  refine AL_p (x_olen (E := 65) (n := 5) rfl rfl rfl (by kernel_rfl)) ?_
  refine AL_p (x_move rfl rfl) ?_
  refine AL_p (x_call (ks := []) (L := [(0, some _)]) (L' := [(0, some _)]) rfl rfl rfl (stab_c us _ rfl hl) rfl AllV.rf (caught_of rfl) rfl rfl rfl ⟨rfl, trivial⟩ rfl) ?_
  refine AL_nil ?_
  exact ⟨rn [], ⟨trivial, ⟨⟨_, rfl, BLe.arr (rfl)⟩, trivial⟩, by repeat (first | exact trivial | refine ⟨⟨rfl, by first | (left; intro h; cases h) | (right; rfl), by first | exact (fun _ h => ⟨_, h⟩) | exact (fun _ _ => ⟨_, rfl⟩) | (intro _ h; cases h)⟩, ?_⟩), rfl⟩⟩

set_option maxHeartbeats 4000000 in
theorem concatC_t {xss : List (List Changet)} (hl : xss.flatten.length ≤ 2097152) (hn : xss.length ≤ 1048576) : AT Tryz.prog 54 [.one (.own 0)] [(0, some (.arr 36 (sliceE changeE) xss false))] (.one (.own 1)) [(1, some (.arr 65 changeE xss.flatten false))] := by
  refine AT_body1 Tryz.func54 rfl rfl Tryz.ntmps54 rfl Tryz.results54 ?_
  refine AW_seq ?_
  refine AW_region ?_
  refine AL_p (x_assign rfl rfl) ?_
  refine AL_nil ?_
  refine AW_seq ?_
  refine AW_region ?_
  refine AL_p (x_assign rfl rfl) ?_
  refine AL_nil ?_
  refine AW_seq ?_
  refine AW_seq ?_
  refine AW_region ?_
  refine AL_p (x_move rfl rfl) ?_
  refine AL_p (x_olen (E := 36) (n := 1) rfl rfl rfl (by kernel_rfl)) ?_
  refine AL_p (x_move rfl rfl) ?_
  refine AL_nil ?_
  refine AW_block ?_
  refine AW_loop2 (ι := {q : Nat // q ≤ xss.length}) (fun p => [(3, .one (.c (.int .i64 ((xss.take (p.1)).flatten.length : Int)))), (11, .one (.c (.int .i64 ((p.1) : Int))))]) (fun p => []) [0, 9, 10] [0] (fun p => xss.length - (p.1)) ⟨0, by omega⟩ (rn []) ?_ ?_
  exact ⟨by (repeat refine ⟨⟨_, rfl, by first | exact VLe.rf | exact vle_int (by dsimp only; omega)⟩, ?_⟩); exact trivial, by (repeat refine ⟨⟨_, rfl, by first | exact BLe.rf | exact BLe.box AllC.rf | exact BLe.arr (by exact rfl)⟩, ?_⟩); exact trivial, by repeat (first | exact trivial | refine ⟨⟨rfl, by first | (left; intro h; cases h) | (right; rfl), by first | exact (fun _ h => ⟨_, h⟩) | exact (fun _ _ => ⟨_, rfl⟩) | (intro _ h; cases h)⟩, ?_⟩), rfl⟩
  rintro ⟨k, hinv⟩
  dsimp only
  have hf := flat_le (xss := xss) (k := k)
  refine AW_seq ?_
  refine AW_region ?_
  refine AL_b (x_lss rfl rfl rfl) (fun b12 h12 => ?_)
  refine AL_nil ?_
  refine AW_seq ?_
  cases b12
  rotate_left
  · try simp only [tdy] at h12
    refine AW_condT rfl ?_
    refine AW_skip ?_
    refine AW_seq ?_
    refine AW_block ?_
    refine AW_seq ?_
    refine AW_region ?_
    refine AL_p (x_oindex (n := 1) rfl rfl rfl rfl (by kernel_rfl) rfl (k := k) rfl (by omega)) ?_
    refine AL_p (x_oload1 rfl rfl rfl (by kernel_rfl) (by omega) rfl) ?_
    refine AL_p (x_assign rfl rfl) ?_
    refine AL_nil ?_
    refine AW_seq ?_
    refine AW_region ?_
    refine AL_p (x_move rfl rfl) ?_
    refine AL_p (x_move rfl rfl) ?_
    refine AL_p (x_len (E := 65) (n := 5) rfl rfl (by kernel_rfl)) ?_
    refine AL_p (x_add rfl rfl rfl (by have := flat_len1 (xss := xss) (k := k) (by omega); exact IntWalk.i64_in _ (by have := flat_le (xss := xss) (k := k + 1); omega))) ?_
    refine AL_p (x_assign rfl rfl) ?_
    refine AL_nil ?_
    refine AW_seq ?_
    refine AW_region ?_
    refine AL_p (x_move rfl rfl) ?_
    refine AL_b (x_lss rfl rfl rfl) (fun b20 h20 => ?_)
    refine AL_nil ?_
    cases b20
    rotate_left
    · exfalso; have := flat_len1 (xss := xss) (k := k) (by omega); simp at h20; omega
    try simp only [tdy] at h20
    have q4 := flat_len1 (xss := xss) (k := k) (by omega)
    refine AW_condF rfl ?_
    refine AW_skip ?_
    refine AW_region ?_
    refine AL_p (x_add rfl rfl rfl (IntWalk.i64_in _ (by omega))) ?_
    refine AL_p (x_move rfl rfl) ?_
    refine AL_nil ?_
    refine ⟨⟨k + 1, by omega⟩, rn [], ?_, by dsimp only; omega⟩
    exact ⟨by (repeat refine ⟨⟨_, rfl, by first | exact VLe.rf | exact vle_int (by dsimp only; omega)⟩, ?_⟩); exact trivial, by (repeat refine ⟨⟨_, rfl, by first | exact BLe.rf | exact BLe.box AllC.rf | exact BLe.arr (by exact rfl)⟩, ?_⟩); exact trivial, by repeat (first | exact trivial | refine ⟨⟨rfl, by first | (left; intro h; cases h) | (right; rfl), by first | exact (fun _ h => ⟨_, h⟩) | exact (fun _ _ => ⟨_, rfl⟩) | (intro _ h; cases h)⟩, ?_⟩), rfl⟩
  try simp only [tdy] at h12
  have e0 : (xss.take k).flatten = xss.flatten := flat_all (by omega)
  rw [e0]
  refine AW_condF rfl ?_
  refine AW_exit (BQ_hit ?_)
  refine AW_seq ?_
  refine AW_region ?_
  refine AL_p (x_move rfl rfl) ?_
  refine AL_p (x_call1 rfl rfl rfl (growChg_c xss.flatten.length hl 100) rfl rfl rfl rfl) ?_
  refine AL_p (x_assign rfl rfl) ?_
  refine AL_nil ?_
  refine AW_seq ?_
  refine AW_seq ?_
  refine AW_region ?_
  refine AL_p (x_move rfl rfl) ?_
  refine AL_p (x_olen (E := 36) (n := 1) rfl rfl rfl (by kernel_rfl)) ?_
  refine AL_p (x_move rfl rfl) ?_
  refine AL_nil ?_
  refine AW_block ?_
  refine AW_shallow 100 rfl ?_
  refine AW_loop2 (ι := {q : Nat // q ≤ xss.length}) (fun p => [(6, .one (.own 100)), (27, .one (.c (.int .i64 ((p.1) : Int))))]) (fun p => [(100, some (.arr 65 changeE (xss.take (p.1)).flatten false))]) [25, 26] [0] (fun p => xss.length - (p.1)) ⟨0, by omega⟩ (rn []) ?_ ?_
  exact ⟨by (repeat refine ⟨⟨_, rfl, by first | exact VLe.rf | exact vle_int (by dsimp only; omega)⟩, ?_⟩); exact trivial, by (repeat refine ⟨⟨_, rfl, by first | exact BLe.rf | exact BLe.box AllC.rf | exact BLe.arr (by first | exact flat_zero | exact flat_more (by omega))⟩, ?_⟩); exact trivial, by repeat (first | exact trivial | refine ⟨⟨rfl, by first | (left; intro h; cases h) | (right; rfl), by first | exact (fun _ h => ⟨_, h⟩) | exact (fun _ _ => ⟨_, rfl⟩) | (intro _ h; cases h)⟩, ?_⟩), rfl⟩
  rintro ⟨k, hinv⟩
  dsimp only
  refine AW_seq ?_
  refine AW_region ?_
  refine AL_b (x_lss rfl rfl rfl) (fun b28 h28 => ?_)
  refine AL_nil ?_
  refine AW_seq ?_
  cases b28
  · try simp only [tdy] at h28
    refine AW_condF rfl ?_
    refine AW_exit (BQ_hit ?_)
    refine AW_seq ?_
    refine AW_region ?_
    refine AL_p (x_move rfl rfl) ?_
    refine AL_p (x_assign rfl rfl) ?_
    refine AL_nil ?_
    refine AW_ret ?_
    exact ⟨rn [(1, 100)], ⟨⟨⟨_, rfl, VLe.rf⟩, trivial⟩, ⟨⟨_, rfl, BLe.arr (flat_all (by omega))⟩, trivial⟩, trivial, rfl⟩⟩
  try simp only [tdy] at h28
  refine AW_condT rfl ?_
  refine AW_skip ?_
  refine AW_seq ?_
  refine AW_block ?_
  refine AW_seq ?_
  refine AW_region ?_
  refine AL_p (x_oindex (n := 1) rfl rfl rfl rfl (by kernel_rfl) rfl (k := k) rfl (by omega)) ?_
  refine AL_p (x_oload1 rfl rfl rfl (by kernel_rfl) (by omega) rfl) ?_
  refine AL_p (x_assign rfl rfl) ?_
  refine AL_nil ?_
  refine AW_region ?_
  refine AL_p (x_move rfl rfl) ?_
  refine AL_p (x_move rfl rfl) ?_
  refine AL_p (y_append_sl 101 false (.inl rfl) rfl rfl rfl rfl rfl rfl (by kernel_rfl) (by have := flat_le (xss := xss) (k := k + 1); have := flat_len1 (xss := xss) (k := k) (by omega); omega)) ?_
  refine AL_p (x_assign rfl rfl) ?_
  refine AL_nil ?_
  refine AW_region ?_
  refine AL_p (x_add rfl rfl rfl (IntWalk.i64_in _ (by omega))) ?_
  refine AL_p (x_move rfl rfl) ?_
  refine AL_nil ?_
  refine ⟨⟨k + 1, by omega⟩, rn [(100, 101)], ?_, by dsimp only; omega⟩
  exact ⟨by (repeat refine ⟨⟨_, rfl, by first | exact VLe.rf | exact vle_int (by dsimp only; omega)⟩, ?_⟩); exact trivial, by (repeat refine ⟨⟨_, rfl, by first | exact BLe.rf | exact BLe.box AllC.rf | exact BLe.arr (by first | exact flat_zero | exact flat_more (by omega))⟩, ?_⟩); exact trivial, by repeat (first | exact trivial | refine ⟨⟨rfl, by first | (left; intro h; cases h) | (right; rfl), by first | exact (fun _ h => ⟨_, h⟩) | exact (fun _ _ => ⟨_, rfl⟩) | (intro _ h; cases h)⟩, ?_⟩), rfl⟩

theorem concatTwo_t (xs ys : List Changet) (hl : xs.length + ys.length ≤ 48) : AT Tryz.prog 54 [.one (.own 0)] [(0, some (.arr 36 (sliceE changeE) [xs, ys] false))] (.one (.own 1)) [(1, some (.arr 65 changeE (xs ++ ys) false))] := by
  have h := concatC_t (xss := [xs, ys]) (by simp; omega) (by simp)
  have e : [xs, ys].flatten = xs ++ ys := by simp
  rwa [e] at h

set_option maxHeartbeats 4000000 in
theorem compC_t (us : List Changet) (hl : us.length ≤ 1048576) : AT Tryz.prog 57 [.one (.own 0), .one (.clo 58 [])] [(0, some (.arr 65 changeE us false))] (.one (.own 1)) [(1, some (.arr 65 changeE (onceC us us.length) false))] := by
  refine AT_body1 Tryz.func57 rfl rfl Tryz.ntmps57 rfl Tryz.results57 ?_
  refine AW_seq ?_
  refine AW_region ?_
  refine AL_p (x_assign rfl rfl) ?_
  refine AL_nil ?_
  refine AW_seq ?_
  refine AW_seq ?_
  refine AW_region ?_
  refine AL_p (x_move rfl rfl) ?_
  refine AL_p (x_olen (E := 65) (n := 5) rfl rfl rfl (by kernel_rfl)) ?_
  refine AL_b (x_lss rfl rfl rfl) (fun b10 h10 => ?_)
  refine AL_nil ?_
  cases b10
  rotate_left
  · try simp only [tdy] at h10
    refine AW_condT rfl ?_
    refine AW_seq ?_
    refine AW_region ?_
    refine AL_p (x_move rfl rfl) ?_
    refine AL_p (x_assign rfl rfl) ?_
    refine AL_nil ?_
    refine AW_ret ?_
    exact ⟨rn [(1, 0)], ⟨⟨⟨_, rfl, VLe.rf⟩, trivial⟩, ⟨⟨_, rfl, by first | exact BLe.arr (onceC_short (by omega)) | exact BLe.arr (hp.all (by omega) (by omega)) | exact BLe.arr (onceA_end (by omega) (by omega))⟩, trivial⟩, trivial, rfl⟩⟩
  try simp only [tdy] at h10
  refine AW_condF rfl ?_
  refine AW_skip ?_
  refine AW_seq ?_
  refine AW_seq ?_
  refine AW_region ?_
  refine AL_p (x_assign rfl rfl) ?_
  refine AL_nil ?_
  refine AW_block ?_
  refine AW_loop2 (ι := {q : Nat // (0 < q ∧ q ≤ us.length) ∧ PlainC us q}) (fun p => [(5, .one (.c (.int .i64 ((p.1) : Int))))]) (fun p => []) [0, 1] [0] (fun p => us.length - (p.1)) ⟨1, ⟨by omega, PlainC.one⟩⟩ (rn []) ?_ ?_
  exact ⟨by (repeat refine ⟨⟨_, rfl, by first | exact VLe.rf | exact vle_int (by dsimp only; omega)⟩, ?_⟩); exact trivial, by (repeat refine ⟨⟨_, rfl, by first | exact BLe.rf | exact BLe.box AllC.rf | exact BLe.arr (by exact rfl)⟩, ?_⟩); exact trivial, by repeat (first | exact trivial | refine ⟨⟨rfl, by first | (left; intro h; cases h) | (right; rfl), by first | exact (fun _ h => ⟨_, h⟩) | exact (fun _ _ => ⟨_, rfl⟩) | (intro _ h; cases h)⟩, ?_⟩), rfl⟩
  rintro ⟨k, hinv⟩
  dsimp only
  obtain ⟨⟨hk0, hk⟩, hp⟩ := hinv
  refine AW_seq ?_
  refine AW_seq ?_
  refine AW_region ?_
  refine AL_p (x_move rfl rfl) ?_
  refine AL_p (x_move rfl rfl) ?_
  refine AL_p (x_olen (E := 65) (n := 5) rfl rfl rfl (by kernel_rfl)) ?_
  refine AL_b (x_lss rfl rfl rfl) (fun b15 h15 => ?_)
  refine AL_nil ?_
  cases b15
  · try simp only [tdy] at h15
    refine AW_condF rfl ?_
    refine AW_exit (BQ_hit ?_)
    refine AW_seq ?_
    refine AW_region ?_
    refine AL_p (x_move rfl rfl) ?_
    refine AL_p (x_assign rfl rfl) ?_
    refine AL_nil ?_
    refine AW_ret ?_
    exact ⟨rn [(1, 0)], ⟨⟨⟨_, rfl, VLe.rf⟩, trivial⟩, ⟨⟨_, rfl, by first | exact BLe.arr (onceC_short (by omega)) | exact BLe.arr (hp.all (by omega) (by omega)) | exact BLe.arr (onceA_end (by omega) (by omega))⟩, trivial⟩, trivial, rfl⟩⟩
  try simp only [tdy] at h15
  refine AW_condT rfl ?_
  refine AW_skip ?_
  refine AW_seq ?_
  refine AW_block ?_
  refine AW_seq ?_
  refine AW_draw rfl ?_
  refine AL_p (x_move rfl rfl) ?_
  refine AL_p (x_move rfl rfl) ?_
  refine AL_p (x_move rfl rfl) ?_
  refine AL_p (x_oindex (n := 5) rfl rfl rfl rfl (by kernel_rfl) rfl (k := k) rfl (by omega)) ?_
  refine AL_p (x_oloadN (n := 5) rfl rfl rfl (by kernel_rfl) (by omega) rfl rfl) ?_
  refine AL_p (x_move rfl rfl) ?_
  refine AL_p (x_move rfl rfl) ?_
  refine AL_p (x_sub rfl rfl rfl (IntWalk.i64_in _ (by omega))) ?_
  refine AL_p (x_oindex (n := 5) rfl rfl rfl rfl (by kernel_rfl) rfl (k := k - 1) (by omega) (by omega)) ?_
  refine AL_p (x_oloadN (n := 5) rfl rfl rfl (by kernel_rfl) (by omega) rfl rfl) ?_
  refine AL_b (x_call0 rfl rfl rfl (sameC_c _ _) rfl rfl) (fun b28 h28 => ?_)
  refine AL_nild (by kernel_rfl) ?_
  cases b28
  · try simp only [tdy] at h28
    refine AW_condF rfl ?_
    refine AW_skip ?_
    refine AW_region ?_
    refine AL_p (x_move rfl rfl) ?_
    refine AL_p (x_add rfl rfl rfl (IntWalk.i64_in _ (by omega))) ?_
    refine AL_p (x_assign rfl rfl) ?_
    refine AL_nil ?_
    refine ⟨⟨k + 1, ⟨by omega, hp.succ (by omega) (by omega) h28⟩⟩, rn [], ?_, by dsimp only; omega⟩
    exact ⟨by (repeat refine ⟨⟨_, rfl, by first | exact VLe.rf | exact vle_int (by dsimp only; omega)⟩, ?_⟩); exact trivial, by (repeat refine ⟨⟨_, rfl, by first | exact BLe.rf | exact BLe.box AllC.rf | exact BLe.arr (by exact rfl)⟩, ?_⟩); exact trivial, by repeat (first | exact trivial | refine ⟨⟨rfl, by first | (left; intro h; cases h) | (right; rfl), by first | exact (fun _ h => ⟨_, h⟩) | exact (fun _ _ => ⟨_, rfl⟩) | (intro _ h; cases h)⟩, ?_⟩), rfl⟩
  try simp only [tdy] at h28
  obtain ⟨q1, q2⟩ := onceC_dup hp (by omega) (by omega) h28
  refine AW_condT rfl ?_
  refine AW_seq ?_
  refine AW_region ?_
  refine AL_p (x_move rfl rfl) ?_
  refine AL_p (x_move rfl rfl) ?_
  refine AL_p (x_oslice (n := 5) rfl rfl rfl (by kernel_rfl) rfl (.yes (l := k) rfl (by omega)) .no (by omega) (by first | exact Nat.le_refl _ | omega)) ?_
  refine AL_p (x_assign rfl rfl) ?_
  refine AL_nil ?_
  refine AW_seq ?_
  refine AW_seq ?_
  refine AW_region ?_
  refine AL_p (x_assign rfl rfl) ?_
  refine AL_nil ?_
  refine AW_block ?_
  refine AW_loop2 (ι := {q : Nat // (k < q ∧ q ≤ us.length) ∧ (onceC us q).length < q}) (fun p => [(5, .one (.c (.int .i64 ((onceC us (p.1)).length : Int)))), (7, .one (.c (.int .i64 (((p.1) : Int) - (k : Int)))))]) (fun p => [(0, some (.arr 65 changeE (onceA us (p.1)) false))]) [0, 1, 6] [] (fun p => us.length - (p.1)) ⟨k + 1, ⟨by omega, by omega⟩⟩ (rn []) ?_ ?_
  exact ⟨by (repeat refine ⟨⟨_, rfl, by first | exact VLe.rf | exact vle_int (by dsimp only; omega)⟩, ?_⟩); exact trivial, by (repeat refine ⟨⟨_, rfl, by first | exact BLe.rf | exact BLe.box AllC.rf | exact BLe.arr (by first | exact q2 | exact q5.1 | (unfold onceA; rw [q5]))⟩, ?_⟩); exact trivial, by repeat (first | exact trivial | refine ⟨⟨rfl, by first | (left; intro h; cases h) | (right; rfl), by first | exact (fun _ h => ⟨_, h⟩) | exact (fun _ _ => ⟨_, rfl⟩) | (intro _ h; cases h)⟩, ?_⟩), rfl⟩
  rintro ⟨j, hinv⟩
  dsimp only
  obtain ⟨⟨hkj, hj⟩, hul⟩ := hinv
  have hj : j ≤ us.length := hj
  refine AW_seq ?_
  refine AW_seq ?_
  refine AW_region ?_
  refine AL_p (x_move rfl rfl) ?_
  refine AL_p (x_move rfl rfl) ?_
  refine AL_p (x_osllen (E := 65) (n := 5) rfl rfl rfl (by kernel_rfl) (by rw [onceA_len (by omega)]; omega)) ?_
  refine AL_b (x_lss rfl rfl rfl) (fun b35 h35 => ?_)
  refine AL_nil ?_
  cases b35
  · try simp only [tdy] at h35
    refine AW_condF rfl ?_
    refine AW_exit (BQ_hit ?_)
    refine AW_seq ?_
    refine AW_region ?_
    refine AL_p (x_move rfl rfl) ?_
    refine AL_p (x_move rfl rfl) ?_
    refine AL_p (x_oslice (n := 5) rfl rfl rfl (by kernel_rfl) rfl (.yes (l := (onceC us j).length) rfl rfl) .no (by rw [onceA_len (by omega)]; omega) (by first | exact Nat.le_refl _ | omega)) ?_
    refine AL_p (x_clear (E := 65) (n := 5) (z := .agg #[.string ⟨#[]⟩, .int .i64 0, .slice none 0 0, .int .i64 0, .slice none 0 0]) zeroCh rfl rfl (by kernel_rfl) rfl (by decide) Tryz.zeroValue65 zeroCh_rep (by rw [onceA_len (by omega)]; omega) (by rw [onceA_len (by omega)]; omega)) ?_
    refine AL_nil ?_
    refine AW_seq ?_
    refine AW_region ?_
    refine AL_p (x_move rfl rfl) ?_
    refine AL_p (x_move rfl rfl) ?_
    refine AL_p (x_cut (n := 5) (h := (onceC us j).length) 100 rfl rfl rfl (by kernel_rfl) rfl (.yes rfl rfl) rfl rfl (by simp [onceA_len hj]; omega)) ?_
    refine AL_p (x_assign rfl rfl) ?_
    refine AL_nil ?_
    refine AW_ret (BQ_ret (BQ_ret ?_))
    exact ⟨rn [(1, 100)], ⟨⟨⟨_, rfl, VLe.rf⟩, trivial⟩, ⟨⟨_, rfl, by first | exact BLe.arr (onceC_short (by omega)) | exact BLe.arr (hp.all (by omega) (by omega)) | exact BLe.arr (onceA_end (by omega) (by omega))⟩, trivial⟩, trivial, rfl⟩⟩
  try simp only [tdy] at h35
  refine AW_condT rfl ?_
  refine AW_skip ?_
  refine AW_seq ?_
  refine AW_block ?_
  refine AW_seq ?_
  refine AW_draw rfl ?_
  refine AL_p (x_move rfl rfl) ?_
  refine AL_p (x_move rfl rfl) ?_
  refine AL_p (x_move rfl rfl) ?_
  refine AL_p (x_oslindex (n := 5) rfl rfl rfl rfl (by kernel_rfl) rfl (k := j - k) (by omega) (by omega) (k1 := j) (by omega)) ?_
  refine AL_p (x_oloadN (n := 5) rfl rfl rfl (by kernel_rfl) (by rw [onceA_len (by omega)]; omega) rfl rfl) ?_
  refine AL_p (x_move rfl rfl) ?_
  refine AL_p (x_move rfl rfl) ?_
  refine AL_p (x_sub rfl rfl rfl (IntWalk.i64_in _ (by omega))) ?_
  refine AL_p (x_oslindex (n := 5) rfl rfl rfl rfl (by kernel_rfl) rfl (k := j - k - 1) (by omega) (by omega) (k1 := j - 1) (by omega)) ?_
  refine AL_p (x_oloadN (n := 5) rfl rfl rfl (by kernel_rfl) (by rw [onceA_len (by omega)]; omega) rfl rfl) ?_
  refine AL_b (x_call0 rfl rfl rfl (sameC_c _ _) rfl rfl) (fun b48 h48 => ?_)
  refine AL_p (x_not rfl rfl) ?_
  refine AL_nild (by kernel_rfl) ?_
  cases b48
  rotate_left
  · try simp only [tdy] at h48
    rw [onceA_at (us := us) (j := j) (i := j) (by omega) (by omega) (by omega) (by rw [onceA_len (by omega)]; omega), onceA_at (us := us) (j := j) (i := j - 1) (by omega) (by omega) (by omega) (by rw [onceA_len (by omega)]; omega)] at h48
    have q5 := onceC_skip (us := us) (j := j) (by omega) (by omega) h48
    have q6 : (onceC us (j + 1)).length = (onceC us j).length := by rw [q5]
    refine AW_condF rfl ?_
    refine AW_skip ?_
    refine AW_region ?_
    refine AL_p (x_move rfl rfl) ?_
    refine AL_p (x_add rfl rfl rfl (IntWalk.i64_in _ (by omega))) ?_
    refine AL_p (x_assign rfl rfl) ?_
    refine AL_nil ?_
    refine ⟨⟨j + 1, ⟨by omega, by rw [q5]; omega⟩⟩, rn [], ?_, by dsimp only; omega⟩
    exact ⟨by (repeat refine ⟨⟨_, rfl, by first | exact VLe.rf | exact vle_int (by dsimp only; omega)⟩, ?_⟩); exact trivial, by (repeat refine ⟨⟨_, rfl, by first | exact BLe.rf | exact BLe.box AllC.rf | exact BLe.arr (by first | exact q2 | exact q5.1 | (unfold onceA; rw [q5]))⟩, ?_⟩); exact trivial, by repeat (first | exact trivial | refine ⟨⟨rfl, by first | (left; intro h; cases h) | (right; rfl), by first | exact (fun _ h => ⟨_, h⟩) | exact (fun _ _ => ⟨_, rfl⟩) | (intro _ h; cases h)⟩, ?_⟩), rfl⟩
  try simp only [tdy] at h48
  rw [onceA_at (us := us) (j := j) (i := j) (by omega) (by omega) (by omega) (by rw [onceA_len (by omega)]; omega), onceA_at (us := us) (j := j) (i := j - 1) (by omega) (by omega) (by omega) (by rw [onceA_len (by omega)]; omega)] at h48
  have q5 := onceA_put (us := us) (j := j) (by omega) (by omega) (by omega) h48 (by rw [onceA_len (by omega)]; omega)
  have q6 := q5.2
  refine AW_condT rfl ?_
  refine AW_seq ?_
  refine AW_region ?_
  refine AL_p (x_move rfl rfl) ?_
  refine AL_p (x_move rfl rfl) ?_
  refine AL_p (x_move rfl rfl) ?_
  refine AL_p (x_move rfl rfl) ?_
  refine AL_p (x_oslindex (n := 5) rfl rfl rfl rfl (by kernel_rfl) rfl (k := j - k) (by omega) (by omega) (k1 := j) (by omega)) ?_
  refine AL_p (x_oloadN (n := 5) rfl rfl rfl (by kernel_rfl) (by rw [onceA_len (by omega)]; omega) rfl rfl) ?_
  refine AL_p (x_oindex (n := 5) rfl rfl rfl rfl (by kernel_rfl) rfl (k := (onceC us j).length) rfl (by rw [onceA_len (by omega)]; omega)) ?_
  refine AL_p (x_ostore (((onceA us j)[j]'(by rw [onceA_len (by omega)]; omega))) rfl rfl rfl rfl (by kernel_rfl) rfl rfl rfl rfl FitL.rf rfl rfl (by rw [onceA_len (by omega)]; omega)) ?_
  refine AL_nil ?_
  refine AW_region ?_
  refine AL_p (x_move rfl rfl) ?_
  refine AL_p (x_add rfl rfl rfl (IntWalk.i64_in _ (by omega))) ?_
  refine AL_p (x_assign rfl rfl) ?_
  refine AL_nil ?_
  refine AW_region ?_
  refine AL_p (x_move rfl rfl) ?_
  refine AL_p (x_add rfl rfl rfl (IntWalk.i64_in _ (by omega))) ?_
  refine AL_p (x_assign rfl rfl) ?_
  refine AL_nil ?_
  refine ⟨⟨j + 1, ⟨by omega, by rw [q5.2]; omega⟩⟩, rn [], ?_, by dsimp only; omega⟩
  exact ⟨by (repeat refine ⟨⟨_, rfl, by first | exact VLe.rf | exact vle_int (by dsimp only; omega)⟩, ?_⟩); exact trivial, by (repeat refine ⟨⟨_, rfl, by first | exact BLe.rf | exact BLe.box AllC.rf | exact BLe.arr (by first | exact q2 | exact q5.1 | (unfold onceA; rw [q5]))⟩, ?_⟩); exact trivial, by repeat (first | exact trivial | refine ⟨⟨rfl, by first | (left; intro h; cases h) | (right; rfl), by first | exact (fun _ h => ⟨_, h⟩) | exact (fun _ _ => ⟨_, rfl⟩) | (intro _ h; cases h)⟩, ?_⟩), rfl⟩
end Go.Proofs.YtibhoanjglfaoaaGreat

/- The abstract walk: a field of an element of an own array written anew. -/
namespace Go.Proofs.YtibhoanjglfaoaaGreat
open Go.RowKit
set_option linter.unusedVariables false
section ops
variable {P : Program} {N : Nat} {s : St} {ty : TypeId} {pos : String} {after : Array Edge} {gd : Option (Nat × Bool)}
end ops
end Go.Proofs.YtibhoanjglfaoaaGreat

/- Bits of whole numbers, in the abstract walk. -/
namespace Go.Proofs.YtibhoanjglfaoaaGreat
open Go.RowKit
set_option linter.unusedVariables false

section
variable {P : Program} {N d : Nat} {s : St} {ty : TypeId} {pos : String} {after : Array Edge} {gd : Option (Nat × Bool)}
end
end Go.Proofs.YtibhoanjglfaoaaGreat

/- The draws of the laws, ars functions of a place in the bytes: whole numbers, words, values, rows, relations. -/
namespace Go.Proofs.YtibhoanjglfaoaaGreat
open Go.RowKit
set_option linter.unusedVariables false

section
variable {P : Program} {N d : Nat} {s : St} {ty : TypeId} {pos : String} {after : Array Edge} {gd : Option (Nat × Bool)}
end
/-- A place in the bytes, and the number that is mixed in. -/
structure Cur where
  i : Nat
  h : Int
/-- It lies in a variable. -/
def curB (b : List Int) (c : Cur) : Blk := .box [.sl (intE .u8) b, .c (.int .i64 c.i), .c (.int .i64 c.h)]
end Go.Proofs.YtibhoanjglfaoaaGreat

/- Values, rows and relations that are drawn, in plain words. -/
namespace Go.Proofs.YtibhoanjglfaoaaGreat
open Go.RowKit
set_option linter.unusedVariables false

/-! ### Bounds -/
/-- A row that may be drawn. -/
def rowSm (r : List Val) : Prop := r.length ≤ 8 ∧ ∀ v ∈ r, v.s.size ≤ 18
/-- A relation that may be drawn. -/
def relSm (r : Relt) : Prop := r.rows.length ≤ 400 ∧ ∀ x ∈ r.rows, rowSm x
theorem set_mem {α : Type} {xs : List α} {i : Nat} {x y : α} (h : y ∈ xs.set i x) : y ∈ xs ∨ y = x := by
  rcases List.mem_or_eq_of_mem_set h with h | h
  · exact .inl h
  · exact .inr h
end Go.Proofs.YtibhoanjglfaoaaGreat

/- Rules for the draws' contracts: a cursor that is lent while an array is left, two results in variables. -/
namespace Go.Proofs.YtibhoanjglfaoaaGreat
open Go.RowKit
set_option linter.unusedVariables false

def rnC (j : Nat) : Nat := bif Nat.beq j 200 then 200 else 0
theorem rnC_k {k : Nat} (hk : Nat.beq k 200 = false) : rnC k = 0 := by unfold rnC; rw [hk]; rfl
theorem curB_ren (b : List Int) (c : Cur) (r : Nat → Nat) : (curB b c).ren r = curB b c := rfl
/-- The array that is left beside a cursor, under another number. -/
theorem AC.cur {P : Program} {f : FuncId} {args : List AVal} {bs : List Int} {c c' : Cur} {res res0 : AVal} {blk : Blk} (h : AC P f args [(200, some (curB bs c))] res0 [(200, some (curB bs c')), (0, some blk)]) (k : Nat) (hk : Nat.beq k 200 = false)
    (hres : ∀ r : Nat → Nat, r k = 0 → res.ren r = res0) (hbl : ∀ r : Nat → Nat, blk.ren r = blk) : AC P f args [(200, some (curB bs c))] res [(200, some (curB bs c')), (k, some blk)] := by
  have hL : LeL rnC [(200, some (curB bs c')), (0, some blk)] [(200, some (curB bs c')), (k, some blk)] :=
    ⟨⟨curB bs c', rfl, by rw [curB_ren]; exact BLe.rf⟩, ⟨blk, by rw [rnC_k hk]; rfl, by rw [hbl]; exact BLe.rf⟩, trivial⟩
  have hi : injL rnC (keys [(200, some (curB bs c')), (k, some blk)]) = true := by
    have h2 : rnC 200 = 200 := rfl
    simp [injL, keys, rnC_k hk, h2]
    exact .inr rfl
  have hK : LeK rnC [(200, some (curB bs c')), (0, some blk)] [(200, some (curB bs c')), (k, some blk)] (keys [(200, some (curB bs c))]) :=
    ⟨⟨rfl, .inl (by simp [lk]), fun cs _ => ⟨_, rfl⟩⟩, trivial⟩
  refine ⟨h.fn, fun g w cargs m ha => (h.run g w cargs m ha).mono ?_⟩
  rintro e w' ⟨v, g1, rfl, m1, hv, hs⟩
  exact ⟨v, g1.ren rnC, rfl, m1.unren hL hi, VR.unren hL (by rw [hres rnC (rnC_k hk)]; exact hv), hs.trans m m1 (Step.unren hL hK)⟩
/-- What a slot holds, said in other words. -/
theorem AW_slot {P : Program} {N : Nat} {K : List Nat} {c : Code} {Kn : St → Prop} {Q : Exit → St → Prop} {s : St} {t : Nat} {x y : AVal} (ht : lk s.t t = some x) (h : x = y) (hA : AW P N K c Kn Q ⟨(t, y) :: s.t, s.l⟩) : AW P N K c Kn Q s := fun g a w r =>
  hA g a w ⟨r.size, r.defers, fun k z hk => by
    by_cases e : t = k
    · subst e; rw [lk_cons_self] at hk; cases hk; exact r.tmp _ _ (h ▸ ht)
    · rw [lk_cons_ne e] at hk; exact r.tmp k z hk, r.mem⟩
section results
variable {P : Program} {f : FuncId} {fn : Func} {c : Code} {N : Nat} {args : List AVal} {L L' : Locs}
end results
end Go.Proofs.YtibhoanjglfaoaaGreat

/- DeltaThen (printed by walk.py) -/
namespace Go.Proofs.YtibhoanjglfaoaaGreat
open Go.RowKit
set_option linter.unusedVariables false
set_option linter.unusedSimpArgs false
set_option maxRecDepth 100000

set_option maxHeartbeats 4000000 in
theorem deltaThenI_c0 (a b : Deltat) (ha : smallDelta a) (hb : smallDelta b) : AC Tryz.prog 19 [.agg (deltaC a), .agg (deltaC b)] [] (.tup [.agg [.own 0], .one (.c (.bool (deltaThen a b).2))]) [(0, some (.arr 65 changeE (deltaThen a b).1.changes true))] := by
  refine AC_bodyCT (n := 1) (k := 9) (T := [(4, .one (.ptr 9 0)), (5, .one (.c (.bool (deltaThen a b).2)))]) (Lf := ((9, some (.box [.own 0])) :: [(0, some (.arr 65 changeE (deltaThen a b).1.changes true))])) Tryz.func19 rfl rfl Tryz.ntmps19 rfl Tryz.results19 rfl rfl rfl rfl (by kernel_rfl) rfl rfl ⟨trivial, (by repeat (first | exact trivial | refine ⟨⟨_, rfl, BLe.rf⟩, ?_⟩)), (by repeat (first | exact trivial | refine ⟨⟨rfl, by first | (left; intro h; cases h) | (right; rfl), by first | exact (fun _ h => ⟨_, h⟩) | exact (fun _ _ => ⟨_, rfl⟩) | (intro _ h; cases h)⟩, ?_⟩)), rfl⟩ ?_
  refine AW_seq ?_
  refine AW_region ?_
  refine AL_p (x_box 100 rfl rfl rfl rfl rfl rfl rfl) ?_
  refine AL_p (x_box 101 rfl rfl rfl rfl rfl rfl rfl) ?_
  refine AL_p (x_alloc (z := .agg #[.slice none 0 0]) 102 rfl (by kernel_rfl) rfl rfl rfl rfl) ?_
  refine AL_p (x_assign rfl rfl) ?_
  refine AL_nil ?_
  refine AW_seq ?_
  refine AW_seq ?_
  refine AW_region ?_
  refine AL_p (x_loadN (n := 1) rfl rfl rfl (by kernel_rfl) rfl rfl) ?_
  refine AL_b (x_call0 rfl rfl rfl (deltaOkI_c _ (by first | exact ha | exact hb)) rfl rfl) (fun b17 h17 => ?_)
  refine AL_p (x_not rfl rfl) ?_
  refine AL_p (x_move rfl rfl) ?_
  cases b17
  · try simp only [tdy] at h17
    have hno := then_a (b := b) h17
    refine AL_o rfl rfl rfl rfl ?_
    refine AL_o rfl rfl rfl rfl ?_
    refine AL_o rfl rfl rfl rfl ?_
    refine AL_p (x_pickT rfl rfl rfl) ?_
    refine AL_nil ?_
    refine AW_condT rfl ?_
    refine AW_seq ?_
    refine AW_region ?_
    refine AL_p (x_build (zs := [.slice none 0 0]) (places := [(0, 1)]) rfl (by kernel_rfl) rfl rfl rfl rfl rfl) ?_
    refine AL_p (x_store (n := 1) rfl rfl rfl rfl (by kernel_rfl) rfl rfl rfl) ?_
    refine AL_p (x_assign rfl rfl) ?_
    refine AL_nil ?_
    refine AW_adopt (T := 65) (e := changeE) 110 102 0 rfl rfl rfl rfl rfl ?_
    refine AW_ret ?_
    exact ⟨rn [(9, 102), (0, 110)], ⟨⟨⟨_, rfl, VLe.rf⟩, ⟨_, rfl, by first | (refine vle_bool ?_; rw [hno]; done) | exact VLe.rf | (refine vle_bool ?_; rw [hno]; apply Eq.symm; assumption) | exact vle_bool (by rw [hno])⟩, trivial⟩, ⟨⟨_, rfl, by first | (refine ble_eq ?_; rw [hno]; done) | (refine ble_eq ?_; rw [hno]; rfl) | exact BLe.rf⟩, ⟨_, rfl, by first | (refine BLe.arr ?_; rw [hno]; done) | (refine BLe.arr ?_; rw [hno]; rfl) | exact BLe.rf⟩, trivial⟩, trivial, rfl⟩⟩
  try simp only [tdy] at h17
  have hA := h17
  have hla := delta_max hA
  refine AL_g rfl rfl (x_loadN (n := 1) rfl rfl rfl (by kernel_rfl) rfl rfl) ?_
  refine AL_gb rfl rfl (x_call0 rfl rfl rfl (deltaOkI_c _ (by first | exact ha | exact hb)) rfl rfl) (fun b21 h21 => ?_)
  refine AL_g rfl rfl (x_not rfl rfl) ?_
  refine AL_p (x_pickF rfl rfl rfl) ?_
  refine AL_nil ?_
  cases b21
  · try simp only [tdy] at h21
    have hno := then_b (a := a) h21
    refine AW_condT rfl ?_
    refine AW_seq ?_
    refine AW_region ?_
    refine AL_p (x_build (zs := [.slice none 0 0]) (places := [(0, 1)]) rfl (by kernel_rfl) rfl rfl rfl rfl rfl) ?_
    refine AL_p (x_store (n := 1) rfl rfl rfl rfl (by kernel_rfl) rfl rfl rfl) ?_
    refine AL_p (x_assign rfl rfl) ?_
    refine AL_nil ?_
    refine AW_adopt (T := 65) (e := changeE) 110 102 0 rfl rfl rfl rfl rfl ?_
    refine AW_ret ?_
    exact ⟨rn [(9, 102), (0, 110)], ⟨⟨⟨_, rfl, VLe.rf⟩, ⟨_, rfl, by first | (refine vle_bool ?_; rw [hno]; done) | exact VLe.rf | (refine vle_bool ?_; rw [hno]; apply Eq.symm; assumption) | exact vle_bool (by rw [hno])⟩, trivial⟩, ⟨⟨_, rfl, by first | (refine ble_eq ?_; rw [hno]; done) | (refine ble_eq ?_; rw [hno]; rfl) | exact BLe.rf⟩, ⟨_, rfl, by first | (refine BLe.arr ?_; rw [hno]; done) | (refine BLe.arr ?_; rw [hno]; rfl) | exact BLe.rf⟩, trivial⟩, trivial, rfl⟩⟩
  try simp only [tdy] at h21
  have hB := h21
  have hlb := delta_max hB
  have hlt := thenAll_len a b
  refine AW_condF rfl ?_
  refine AW_skip ?_
  refine AW_seq ?_
  refine AW_region ?_
  refine AL_p (x_field (off := 0) (o' := 0) rfl rfl rfl (by kernel_rfl) rfl) ?_
  refine AL_p (x_load1 rfl rfl rfl (by kernel_rfl) rfl) ?_
  refine AL_p (x_field (off := 0) (o' := 0) rfl rfl rfl (by kernel_rfl) rfl) ?_
  refine AL_p (x_load1 rfl rfl rfl (by kernel_rfl) rfl) ?_
  refine AL_p (y_bslice (E := 36) (e := (sliceE changeE)) [.tmp 26, .tmp 28] ([a.changes, b.changes]) 103 rfl rfl rfl rfl rfl rfl rfl rfl FitL.rf rfl rfl rfl rfl rfl rfl (by kernel_rfl)) ?_
  refine AL_p (x_call (ks := []) (L := [(103, some _)]) (L' := [(103, none), (0, some _)]) rfl rfl rfl (AT.lend1 (concatTwo_t a.changes b.changes (by omega)) 103 0 rfl (fun _ => rfl)) rfl AllV.rf (caught_of rfl) rfl rfl rfl ⟨rfl, trivial⟩ rfl) ?_
  refine AL_p (x_assign rfl rfl) ?_
  refine AL_nil ?_
  refine AW_seq ?_
  refine AW_region ?_
  refine AL_p (x_move rfl rfl) ?_
  refine AL_p (x_call (ks := []) (L := [(0, some _)]) (L' := [(0, some _)]) rfl rfl rfl (sortC_c (a.changes ++ b.changes) (by simp only [List.length_append]; omega)) rfl AllV.rf (caught_of rfl) rfl rfl rfl ⟨rfl, trivial⟩ rfl) ?_
  refine AL_nil ?_
  refine AW_seq ?_
  refine AW_region ?_
  refine AL_p (x_move rfl rfl) ?_
  refine AL_p (x_call (ks := []) (L := [(0, some _)]) (L' := [(0, none), (104, some _)]) rfl rfl rfl (AT.lend1 (compC_t (isort ltC (a.changes ++ b.changes)) (by rw [isort_len]; simp only [List.length_append]; omega)) 0 104 rfl (fun _ => rfl)) rfl AllV.rf (caught_of rfl) rfl rfl rfl ⟨rfl, trivial⟩ rfl) ?_
  refine AL_p (x_assign rfl rfl) ?_
  refine AL_nil ?_
  refine AW_seq ?_
  refine AW_region ?_
  refine AL_p (x_build (zs := [.slice none 0 0]) (places := [(0, 1)]) rfl (by kernel_rfl) rfl rfl rfl rfl rfl) ?_
  refine AL_p (x_alloc (z := .agg #[.slice none 0 0]) 105 rfl (by kernel_rfl) rfl rfl rfl rfl) ?_
  refine AL_p (x_store (n := 1) rfl rfl rfl rfl (by kernel_rfl) rfl rfl rfl) ?_
  refine AL_nil ?_
  refine AW_seq ?_
  refine AW_seq ?_
  refine AW_shut 104 6 rfl rfl ?_
  refine AW_slot (t := 6) (y := .one (.sl changeE (thenAll a b))) rfl rfl ?_
  refine AW_region ?_
  refine AL_p (x_move rfl rfl) ?_
  refine AL_p (x_len (E := 65) (n := 5) rfl rfl (by kernel_rfl)) ?_
  refine AL_p (x_move rfl rfl) ?_
  refine AL_nil ?_
  refine AW_block ?_
  refine AW_adopt (T := 65) (e := changeE) 106 105 0 rfl rfl rfl rfl rfl ?_
  refine AW_loop2 (ι := {q : Nat // q ≤ (thenAll a b).length ∧ ThenTo a b q}) (fun p => [(38, .one (.c (.int .i64 ((p.1) : Int))))]) (fun p => [(106, some (.arr 65 changeE (filtTo someRows (thenSums a b) (p.1)) true))]) [2, 3, 4, 7, 36, 37] [100, 101, 102, 105] (fun p => (thenAll a b).length - (p.1)) ⟨0, ⟨by omega, .zero⟩⟩ (rn []) ?_ ?_
  exact ⟨by (repeat refine ⟨⟨_, rfl, by first | exact VLe.rf | exact vle_int (by dsimp only; omega)⟩, ?_⟩); exact trivial, by (repeat refine ⟨⟨_, rfl, by first | exact BLe.rf | exact BLe.box AllC.rf | exact BLe.arr (by first | rfl | exact hso)⟩, ?_⟩); exact trivial, by repeat (first | exact trivial | refine ⟨⟨rfl, by first | (left; intro h; cases h) | (right; rfl), by first | exact (fun _ h => ⟨_, h⟩) | exact (fun _ _ => ⟨_, rfl⟩) | (intro _ h; cases h)⟩, ?_⟩), rfl⟩
  rintro ⟨k, hinv⟩
  dsimp only
  obtain ⟨hk, hT⟩ := hinv
  have hk : k ≤ (thenAll a b).length := hk
  have hT : ThenTo a b k := hT
  refine AW_seq ?_
  refine AW_region ?_
  refine AL_b (x_lss rfl rfl rfl) (fun b39 h39 => ?_)
  refine AL_nil ?_
  refine AW_seq ?_
  cases b39
  · try simp only [tdy] at h39
    rw [sums_all (a := a) (b := b) (k := k) (by omega)]
    refine AW_condF rfl ?_
    refine AW_exit (BQ_hit ?_)
    refine AW_seq ?_
    refine AW_seq ?_
    refine AW_region ?_
    refine AL_p (x_loadN (n := 1) rfl rfl rfl (by kernel_rfl) rfl rfl) ?_
    refine AL_bc (x_callR rfl rfl rfl (deltaOkI_c ⟨(thenSums a b).filter someRows⟩ (sums_small ha hb hA hB)) rfl AllV.rf rfl rfl rfl rfl rfl) (fun b153 h153 => ?_)
    refine AL_p (x_not rfl rfl) ?_
    refine AL_nil ?_
    cases b153
    rotate_left
    · try simp only [tdy] at h153
      have hno := then_ok hA hB (fun j hj => hT j hj (by omega)) h153
      refine AW_condF rfl ?_
      refine AW_skip ?_
      refine AW_seq ?_
      refine AW_region ?_
      refine AL_p (x_loadN (n := 1) rfl rfl rfl (by kernel_rfl) rfl rfl) ?_
      refine AL_p (x_store (n := 1) rfl rfl rfl rfl (by kernel_rfl) rfl rfl rfl) ?_
      refine AL_p (x_assign rfl rfl) ?_
      refine AL_nil ?_
      refine AW_ret ?_
      exact ⟨rn [(9, 102), (0, 106)], ⟨⟨⟨_, rfl, VLe.rf⟩, ⟨_, rfl, by first | (refine vle_bool ?_; rw [hno]; done) | exact VLe.rf | (refine vle_bool ?_; rw [hno]; apply Eq.symm; assumption) | exact vle_bool (by rw [hno])⟩, trivial⟩, ⟨⟨_, rfl, by first | (refine ble_eq ?_; rw [hno]; done) | (refine ble_eq ?_; rw [hno]; rfl) | exact BLe.rf⟩, ⟨_, rfl, by first | (refine BLe.arr ?_; rw [hno]; done) | (refine BLe.arr ?_; rw [hno]; rfl) | exact BLe.rf⟩, trivial⟩, trivial, rfl⟩⟩
    try simp only [tdy] at h153
    have hno := then_not h153
    refine AW_condT rfl ?_
    refine AW_seq ?_
    refine AW_region ?_
    refine AL_p (x_build (zs := [.slice none 0 0]) (places := [(0, 1)]) rfl (by kernel_rfl) rfl rfl rfl rfl rfl) ?_
    refine AL_p (x_store (n := 1) rfl rfl rfl rfl (by kernel_rfl) rfl rfl rfl) ?_
    refine AL_p (x_assign rfl rfl) ?_
    refine AL_nil ?_
    refine AW_adopt (T := 65) (e := changeE) 110 102 0 rfl rfl rfl rfl rfl ?_
    refine AW_ret ?_
    exact ⟨rn [(9, 102), (0, 110)], ⟨⟨⟨_, rfl, VLe.rf⟩, ⟨_, rfl, by first | (refine vle_bool ?_; rw [hno]; done) | exact VLe.rf | (refine vle_bool ?_; rw [hno]; apply Eq.symm; assumption) | exact vle_bool (by rw [hno])⟩, trivial⟩, ⟨⟨_, rfl, by first | (refine ble_eq ?_; rw [hno]; done) | (refine ble_eq ?_; rw [hno]; rfl) | exact BLe.rf⟩, ⟨_, rfl, by first | (refine BLe.arr ?_; rw [hno]; done) | (refine BLe.arr ?_; rw [hno]; rfl) | exact BLe.rf⟩, trivial⟩, trivial, rfl⟩⟩
  try simp only [tdy] at h39
  have hk2 : k < (thenAll a b).length := by omega
  have hnm := then_name ha hb hk2
  have sx := changeOf_small ha _ hnm ((thenAll a b)[k]'hk2).plus.arity
  have sy := changeOf_small hb _ hnm ((thenAll a b)[k]'hk2).plus.arity
  have cx := changeOf_in hA ((thenAll a b)[k]'hk2).name ((thenAll a b)[k]'hk2).plus.arity
  have cy := changeOf_in hB ((thenAll a b)[k]'hk2).name ((thenAll a b)[k]'hk2).plus.arity
  have hpl := plusOf_len cx cy
  have hpv := plusOf_vals cx cy
  have hps := plusOf_small sx sy
  have hcs := cnt_sum cx cy
  refine AW_condT rfl ?_
  refine AW_skip ?_
  refine AW_seq ?_
  refine AW_block ?_
  refine AW_seq ?_
  refine AW_region ?_
  refine AL_p (x_index (E := 65) (n := 5) rfl rfl rfl (by kernel_rfl) rfl (k := k) (by omega) (by omega)) ?_
  refine AL_p (x_eloadW (n := 5) rfl rfl (by kernel_rfl) rfl) ?_
  refine AL_p (x_alloc (z := .agg #[.string ⟨#[]⟩, .int .i64 0, .slice none 0 0, .int .i64 0, .slice none 0 0]) 107 rfl (by kernel_rfl) rfl rfl rfl rfl) ?_
  refine AL_p (x_store (n := 5) rfl rfl rfl rfl (by kernel_rfl) rfl rfl rfl) ?_
  refine AL_nil ?_
  refine AW_seq ?_
  refine AW_region ?_
  refine AL_p (x_loadN (n := 1) rfl rfl rfl (by kernel_rfl) rfl rfl) ?_
  refine AL_p (x_field (off := 0) (o' := 0) rfl rfl rfl (by kernel_rfl) rfl) ?_
  refine AL_p (x_load1 rfl rfl rfl (by kernel_rfl) rfl) ?_
  refine AL_p (x_field (off := 1) (o' := 1) rfl rfl rfl (by kernel_rfl) rfl) ?_
  refine AL_p (x_field (off := 0) (o' := 1) rfl rfl rfl (by kernel_rfl) rfl) ?_
  refine AL_p (x_load1 rfl rfl rfl (by kernel_rfl) rfl) ?_
  refine AL_p (x_call0 rfl rfl rfl (changeOfI_c a ((thenAll a b)[k]'hk2).name ((thenAll a b)[k]'hk2).plus.arity ha.1) rfl rfl) ?_
  refine AL_p (x_alloc (z := .agg #[.string ⟨#[]⟩, .int .i64 0, .slice none 0 0, .int .i64 0, .slice none 0 0]) 108 rfl (by kernel_rfl) rfl rfl rfl rfl) ?_
  refine AL_p (x_store (n := 5) rfl rfl rfl rfl (by kernel_rfl) rfl rfl rfl) ?_
  refine AL_nil ?_
  refine AW_seq ?_
  refine AW_region ?_
  refine AL_p (x_loadN (n := 1) rfl rfl rfl (by kernel_rfl) rfl rfl) ?_
  refine AL_p (x_field (off := 0) (o' := 0) rfl rfl rfl (by kernel_rfl) rfl) ?_
  refine AL_p (x_load1 rfl rfl rfl (by kernel_rfl) rfl) ?_
  refine AL_p (x_field (off := 1) (o' := 1) rfl rfl rfl (by kernel_rfl) rfl) ?_
  refine AL_p (x_field (off := 0) (o' := 1) rfl rfl rfl (by kernel_rfl) rfl) ?_
  refine AL_p (x_load1 rfl rfl rfl (by kernel_rfl) rfl) ?_
  refine AL_p (x_call0 rfl rfl rfl (changeOfI_c b ((thenAll a b)[k]'hk2).name ((thenAll a b)[k]'hk2).plus.arity hb.1) rfl rfl) ?_
  refine AL_p (x_alloc (z := .agg #[.string ⟨#[]⟩, .int .i64 0, .slice none 0 0, .int .i64 0, .slice none 0 0]) 109 rfl (by kernel_rfl) rfl rfl rfl rfl) ?_
  refine AL_p (x_store (n := 5) rfl rfl rfl rfl (by kernel_rfl) rfl rfl rfl) ?_
  refine AL_nil ?_
  refine AW_seq ?_
  refine AW_seq ?_
  refine AW_region ?_
  refine AL_p (x_field (off := 1) (o' := 1) rfl rfl rfl (by kernel_rfl) rfl) ?_
  refine AL_p (x_field (off := 0) (o' := 1) rfl rfl rfl (by kernel_rfl) rfl) ?_
  refine AL_p (x_load1 rfl rfl rfl (by kernel_rfl) rfl) ?_
  refine AL_p (x_field (off := 1) (o' := 1) rfl rfl rfl (by kernel_rfl) rfl) ?_
  refine AL_p (x_field (off := 0) (o' := 1) rfl rfl rfl (by kernel_rfl) rfl) ?_
  refine AL_p (x_load1 rfl rfl rfl (by kernel_rfl) rfl) ?_
  refine AL_b (x_neq rfl rfl rfl) (fun b62 h62 => ?_)
  refine AL_p (x_move rfl rfl) ?_
  cases b62
  rotate_left
  · try simp only [tdy] at h62
    have hno := then_bad hk2 (sumOk_ar (by omega))
    refine AL_o rfl rfl rfl rfl ?_
    refine AL_o rfl rfl rfl rfl ?_
    refine AL_o rfl rfl rfl rfl ?_
    refine AL_o rfl rfl rfl rfl ?_
    refine AL_o rfl rfl rfl rfl ?_
    refine AL_o rfl rfl rfl rfl ?_
    refine AL_o rfl rfl rfl rfl ?_
    refine AL_o rfl rfl rfl rfl ?_
    refine AL_p (x_pickT rfl rfl rfl) ?_
    refine AL_p (x_move rfl rfl) ?_
    refine AL_o rfl rfl rfl rfl ?_
    refine AL_o rfl rfl rfl rfl ?_
    refine AL_o rfl rfl rfl rfl ?_
    refine AL_o rfl rfl rfl rfl ?_
    refine AL_o rfl rfl rfl rfl ?_
    refine AL_o rfl rfl rfl rfl ?_
    refine AL_o rfl rfl rfl rfl ?_
    refine AL_o rfl rfl rfl rfl ?_
    refine AL_p (x_pickT rfl rfl rfl) ?_
    refine AL_nil ?_
    refine AW_condT rfl ?_
    refine AW_seq ?_
    refine AW_region ?_
    refine AL_p (x_build (zs := [.slice none 0 0]) (places := [(0, 1)]) rfl (by kernel_rfl) rfl rfl rfl rfl rfl) ?_
    refine AL_p (x_store (n := 1) rfl rfl rfl rfl (by kernel_rfl) rfl rfl rfl) ?_
    refine AL_p (x_assign rfl rfl) ?_
    refine AL_nil ?_
    refine AW_adopt (T := 65) (e := changeE) 110 102 0 rfl rfl rfl rfl rfl ?_
    refine AW_ret (BQ_ret (BQ_ret ?_))
    exact ⟨rn [(9, 102), (0, 110)], ⟨⟨⟨_, rfl, VLe.rf⟩, ⟨_, rfl, by first | (refine vle_bool ?_; rw [hno]; done) | exact VLe.rf | (refine vle_bool ?_; rw [hno]; apply Eq.symm; assumption) | exact vle_bool (by rw [hno])⟩, trivial⟩, ⟨⟨_, rfl, by first | (refine ble_eq ?_; rw [hno]; done) | (refine ble_eq ?_; rw [hno]; rfl) | exact BLe.rf⟩, ⟨_, rfl, by first | (refine BLe.arr ?_; rw [hno]; done) | (refine BLe.arr ?_; rw [hno]; rfl) | exact BLe.rf⟩, trivial⟩, trivial, rfl⟩⟩
  try simp only [tdy] at h62
  refine AL_g rfl rfl (x_field (off := 1) (o' := 1) rfl rfl rfl (by kernel_rfl) rfl) ?_
  refine AL_g rfl rfl (x_loadN (n := 2) rfl rfl rfl (by kernel_rfl) rfl rfl) ?_
  refine AL_g rfl rfl (x_field (off := 1) (o' := 1) rfl rfl rfl (by kernel_rfl) rfl) ?_
  refine AL_g rfl rfl (x_loadN (n := 2) rfl rfl rfl (by kernel_rfl) rfl rfl) ?_
  refine AL_g rfl rfl (x_call1 rfl rfl rfl (bothI_c (changeOf a ((thenAll a b)[k]'hk2).name ((thenAll a b)[k]'hk2).plus.arity).plus (changeOf b ((thenAll a b)[k]'hk2).name ((thenAll a b)[k]'hk2).plus.arity).plus sx.2.1 sy.2.1.1 cy.2.2.1 cx.2.2.1.vals 111) rfl rfl rfl rfl) ?_
  refine AL_g rfl rfl (x_fldv (off := 1) rfl rfl (by kernel_rfl) rfl) ?_
  refine AL_g rfl rfl (x_olen (E := 72) (n := 1) rfl rfl rfl (by kernel_rfl)) ?_
  refine AL_gb rfl rfl (x_gtr rfl rfl rfl) (fun b71 h71 => ?_)
  refine AL_p (x_pickF rfl rfl rfl) ?_
  refine AL_p (x_move rfl rfl) ?_
  cases b71
  rotate_left
  · try simp only [tdy] at h71
    have hno := then_bad hk2 (sumOk_p (apart_not (by omega)))
    refine AL_o rfl rfl rfl rfl ?_
    refine AL_o rfl rfl rfl rfl ?_
    refine AL_o rfl rfl rfl rfl ?_
    refine AL_o rfl rfl rfl rfl ?_
    refine AL_o rfl rfl rfl rfl ?_
    refine AL_o rfl rfl rfl rfl ?_
    refine AL_o rfl rfl rfl rfl ?_
    refine AL_o rfl rfl rfl rfl ?_
    refine AL_p (x_pickT rfl rfl rfl) ?_
    refine AL_nil ?_
    refine AW_condT rfl ?_
    refine AW_seq ?_
    refine AW_region ?_
    refine AL_p (x_build (zs := [.slice none 0 0]) (places := [(0, 1)]) rfl (by kernel_rfl) rfl rfl rfl rfl rfl) ?_
    refine AL_p (x_store (n := 1) rfl rfl rfl rfl (by kernel_rfl) rfl rfl rfl) ?_
    refine AL_p (x_assign rfl rfl) ?_
    refine AL_nil ?_
    refine AW_adopt (T := 65) (e := changeE) 110 102 0 rfl rfl rfl rfl rfl ?_
    refine AW_ret (BQ_ret (BQ_ret ?_))
    exact ⟨rn [(9, 102), (0, 110)], ⟨⟨⟨_, rfl, VLe.rf⟩, ⟨_, rfl, by first | (refine vle_bool ?_; rw [hno]; done) | exact VLe.rf | (refine vle_bool ?_; rw [hno]; apply Eq.symm; assumption) | exact vle_bool (by rw [hno])⟩, trivial⟩, ⟨⟨_, rfl, by first | (refine ble_eq ?_; rw [hno]; done) | (refine ble_eq ?_; rw [hno]; rfl) | exact BLe.rf⟩, ⟨_, rfl, by first | (refine BLe.arr ?_; rw [hno]; done) | (refine BLe.arr ?_; rw [hno]; rfl) | exact BLe.rf⟩, trivial⟩, trivial, rfl⟩⟩
  try simp only [tdy] at h71
  refine AL_g rfl rfl (x_field (off := 3) (o' := 3) rfl rfl rfl (by kernel_rfl) rfl) ?_
  refine AL_g rfl rfl (x_loadN (n := 2) rfl rfl rfl (by kernel_rfl) rfl rfl) ?_
  refine AL_g rfl rfl (x_field (off := 3) (o' := 3) rfl rfl rfl (by kernel_rfl) rfl) ?_
  refine AL_g rfl rfl (x_loadN (n := 2) rfl rfl rfl (by kernel_rfl) rfl rfl) ?_
  refine AL_g rfl rfl (x_call1 rfl rfl rfl (bothI_c (changeOf a ((thenAll a b)[k]'hk2).name ((thenAll a b)[k]'hk2).plus.arity).minus (changeOf b ((thenAll a b)[k]'hk2).name ((thenAll a b)[k]'hk2).plus.arity).minus sx.2.2 sy.2.2.1 cy.2.2.2 cx.2.2.2.vals 112) rfl rfl rfl rfl) ?_
  refine AL_g rfl rfl (x_fldv (off := 1) rfl rfl (by kernel_rfl) rfl) ?_
  refine AL_g rfl rfl (x_olen (E := 72) (n := 1) rfl rfl rfl (by kernel_rfl)) ?_
  refine AL_gb rfl rfl (x_gtr rfl rfl rfl) (fun b81 h81 => ?_)
  refine AL_p (x_pickF rfl rfl rfl) ?_
  refine AL_nil ?_
  cases b81
  rotate_left
  · try simp only [tdy] at h81
    have hno := then_bad hk2 (sumOk_m (apart_not (by omega)))
    refine AW_condT rfl ?_
    refine AW_seq ?_
    refine AW_region ?_
    refine AL_p (x_build (zs := [.slice none 0 0]) (places := [(0, 1)]) rfl (by kernel_rfl) rfl rfl rfl rfl rfl) ?_
    refine AL_p (x_store (n := 1) rfl rfl rfl rfl (by kernel_rfl) rfl rfl rfl) ?_
    refine AL_p (x_assign rfl rfl) ?_
    refine AL_nil ?_
    refine AW_adopt (T := 65) (e := changeE) 110 102 0 rfl rfl rfl rfl rfl ?_
    refine AW_ret (BQ_ret (BQ_ret ?_))
    exact ⟨rn [(9, 102), (0, 110)], ⟨⟨⟨_, rfl, VLe.rf⟩, ⟨_, rfl, by first | (refine vle_bool ?_; rw [hno]; done) | exact VLe.rf | (refine vle_bool ?_; rw [hno]; apply Eq.symm; assumption) | exact vle_bool (by rw [hno])⟩, trivial⟩, ⟨⟨_, rfl, by first | (refine ble_eq ?_; rw [hno]; done) | (refine ble_eq ?_; rw [hno]; rfl) | exact BLe.rf⟩, ⟨_, rfl, by first | (refine BLe.arr ?_; rw [hno]; done) | (refine BLe.arr ?_; rw [hno]; rfl) | exact BLe.rf⟩, trivial⟩, trivial, rfl⟩⟩
  try simp only [tdy] at h81
  have hok := sumOk_yes (x := (changeOf a ((thenAll a b)[k]'hk2).name ((thenAll a b)[k]'hk2).plus.arity)) (y := (changeOf b ((thenAll a b)[k]'hk2).name ((thenAll a b)[k]'hk2).plus.arity)) (by omega) (apart_iff.2 (by omega)) (apart_iff.2 (by omega))
  refine AW_condF rfl ?_
  refine AW_skip ?_
  refine AW_seq ?_
  refine AW_draw rfl ?_
  refine AL_p (x_field (off := 1) (o' := 1) rfl rfl rfl (by kernel_rfl) rfl) ?_
  refine AL_p (x_field (off := 0) (o' := 1) rfl rfl rfl (by kernel_rfl) rfl) ?_
  refine AL_p (x_load1 rfl rfl rfl (by kernel_rfl) rfl) ?_
  refine AL_p (x_field (off := 1) (o' := 1) rfl rfl rfl (by kernel_rfl) rfl) ?_
  refine AL_p (x_loadN (n := 2) rfl rfl rfl (by kernel_rfl) rfl rfl) ?_
  refine AL_p (x_field (off := 3) (o' := 3) rfl rfl rfl (by kernel_rfl) rfl) ?_
  refine AL_p (x_loadN (n := 2) rfl rfl rfl (by kernel_rfl) rfl rfl) ?_
  refine AL_p (x_call1 rfl rfl rfl (minusI_c (changeOf a ((thenAll a b)[k]'hk2).name ((thenAll a b)[k]'hk2).plus.arity).plus (changeOf b ((thenAll a b)[k]'hk2).name ((thenAll a b)[k]'hk2).plus.arity).minus sx.2.1 sy.2.2.1 cy.2.2.2 cx.2.2.1.vals 113) rfl rfl rfl rfl) ?_
  refine AL_p (x_fldv (off := 1) rfl rfl (by kernel_rfl) rfl) ?_
  refine AL_p (x_field (off := 1) (o' := 1) rfl rfl rfl (by kernel_rfl) rfl) ?_
  refine AL_p (x_loadN (n := 2) rfl rfl rfl (by kernel_rfl) rfl rfl) ?_
  refine AL_p (x_field (off := 3) (o' := 3) rfl rfl rfl (by kernel_rfl) rfl) ?_
  refine AL_p (x_loadN (n := 2) rfl rfl rfl (by kernel_rfl) rfl rfl) ?_
  refine AL_p (x_call1 rfl rfl rfl (minusI_c (changeOf b ((thenAll a b)[k]'hk2).name ((thenAll a b)[k]'hk2).plus.arity).plus (changeOf a ((thenAll a b)[k]'hk2).name ((thenAll a b)[k]'hk2).plus.arity).minus sy.2.1 sx.2.2.1 cx.2.2.2 cy.2.2.1.vals 114) rfl rfl rfl rfl) ?_
  refine AL_p (x_fldv (off := 1) rfl rfl (by kernel_rfl) rfl) ?_
  refine AL_p (y_bslice (E := 61) (e := (sliceE rowE)) [.tmp 93, .tmp 99] ([(keepOf (changeOf a ((thenAll a b)[k]'hk2).name ((thenAll a b)[k]'hk2).plus.arity).plus (changeOf b ((thenAll a b)[k]'hk2).name ((thenAll a b)[k]'hk2).plus.arity).minus), (keepOf (changeOf b ((thenAll a b)[k]'hk2).name ((thenAll a b)[k]'hk2).plus.arity).plus (changeOf a ((thenAll a b)[k]'hk2).name ((thenAll a b)[k]'hk2).plus.arity).minus)]) 115 rfl rfl rfl rfl rfl rfl rfl rfl FitL.rf rfl rfl rfl rfl rfl rfl (by kernel_rfl)) ?_
  refine AL_p (x_call (ks := []) (L := [(115, some _)]) (L' := [(115, none), (116, some _)]) rfl rfl rfl (AT.lend1 (concatRowD_t (xss := [(keepOf (changeOf a ((thenAll a b)[k]'hk2).name ((thenAll a b)[k]'hk2).plus.arity).plus (changeOf b ((thenAll a b)[k]'hk2).name ((thenAll a b)[k]'hk2).plus.arity).minus), (keepOf (changeOf b ((thenAll a b)[k]'hk2).name ((thenAll a b)[k]'hk2).plus.arity).plus (changeOf a ((thenAll a b)[k]'hk2).name ((thenAll a b)[k]'hk2).plus.arity).minus)]) (by have := hpl; simp only [plusOf, lessOf, List.length_append] at this; simp only [List.flatten_cons, List.flatten_nil, List.length_append, List.length_nil]; omega) (by simp)) 115 116 rfl (fun _ => rfl)) rfl AllV.rf (caught_of rfl) rfl rfl rfl ⟨rfl, trivial⟩ rfl) ?_
  refine AL_p (x_callR rfl rfl rfl (relOfP_c (changeOf a ((thenAll a b)[k]'hk2).name ((thenAll a b)[k]'hk2).plus.arity).plus.arity (keepOf (changeOf a ((thenAll a b)[k]'hk2).name ((thenAll a b)[k]'hk2).plus.arity).plus (changeOf b ((thenAll a b)[k]'hk2).name ((thenAll a b)[k]'hk2).plus.arity).minus) (keepOf (changeOf b ((thenAll a b)[k]'hk2).name ((thenAll a b)[k]'hk2).plus.arity).plus (changeOf a ((thenAll a b)[k]'hk2).name ((thenAll a b)[k]'hk2).plus.arity).minus) hpv.1 ⟨by have := hpl.1; exact Nat.le_trans this (by decide), hps.1⟩ 117) rfl AllV.rf rfl rfl rfl rfl rfl) ?_
  refine AL_p (x_move rfl rfl) ?_
  refine AL_p (x_extract rfl rfl rfl) ?_
  refine AL_b (x_extract rfl rfl rfl) (fun b104 h104 => ?_)
  refine AL_p (x_alloc (z := .agg #[.int .i64 0, .slice none 0 0]) 118 rfl (by kernel_rfl) rfl rfl rfl rfl) ?_
  refine AL_p (x_store (n := 2) rfl rfl rfl rfl (by kernel_rfl) rfl rfl rfl) ?_
  refine AL_p (x_assign rfl rfl) ?_
  refine AL_nild (by kernel_rfl) ?_
  refine AW_seq ?_
  refine AW_draw rfl ?_
  refine AL_p (x_field (off := 1) (o' := 1) rfl rfl rfl (by kernel_rfl) rfl) ?_
  refine AL_p (x_field (off := 0) (o' := 1) rfl rfl rfl (by kernel_rfl) rfl) ?_
  refine AL_p (x_load1 rfl rfl rfl (by kernel_rfl) rfl) ?_
  refine AL_p (x_field (off := 3) (o' := 3) rfl rfl rfl (by kernel_rfl) rfl) ?_
  refine AL_p (x_loadN (n := 2) rfl rfl rfl (by kernel_rfl) rfl rfl) ?_
  refine AL_p (x_field (off := 1) (o' := 1) rfl rfl rfl (by kernel_rfl) rfl) ?_
  refine AL_p (x_loadN (n := 2) rfl rfl rfl (by kernel_rfl) rfl rfl) ?_
  refine AL_p (x_call1 rfl rfl rfl (minusI_c (changeOf a ((thenAll a b)[k]'hk2).name ((thenAll a b)[k]'hk2).plus.arity).minus (changeOf b ((thenAll a b)[k]'hk2).name ((thenAll a b)[k]'hk2).plus.arity).plus sx.2.2 sy.2.1.1 cy.2.2.1 cx.2.2.2.vals 119) rfl rfl rfl rfl) ?_
  refine AL_p (x_fldv (off := 1) rfl rfl (by kernel_rfl) rfl) ?_
  refine AL_p (x_field (off := 3) (o' := 3) rfl rfl rfl (by kernel_rfl) rfl) ?_
  refine AL_p (x_loadN (n := 2) rfl rfl rfl (by kernel_rfl) rfl rfl) ?_
  refine AL_p (x_field (off := 1) (o' := 1) rfl rfl rfl (by kernel_rfl) rfl) ?_
  refine AL_p (x_loadN (n := 2) rfl rfl rfl (by kernel_rfl) rfl rfl) ?_
  refine AL_p (x_call1 rfl rfl rfl (minusI_c (changeOf b ((thenAll a b)[k]'hk2).name ((thenAll a b)[k]'hk2).plus.arity).minus (changeOf a ((thenAll a b)[k]'hk2).name ((thenAll a b)[k]'hk2).plus.arity).plus sy.2.2 sx.2.1.1 cx.2.2.1 cy.2.2.2.vals 120) rfl rfl rfl rfl) ?_
  refine AL_p (x_fldv (off := 1) rfl rfl (by kernel_rfl) rfl) ?_
  refine AL_p (y_bslice (E := 61) (e := (sliceE rowE)) [.tmp 114, .tmp 120] ([(keepOf (changeOf a ((thenAll a b)[k]'hk2).name ((thenAll a b)[k]'hk2).plus.arity).minus (changeOf b ((thenAll a b)[k]'hk2).name ((thenAll a b)[k]'hk2).plus.arity).plus), (keepOf (changeOf b ((thenAll a b)[k]'hk2).name ((thenAll a b)[k]'hk2).plus.arity).minus (changeOf a ((thenAll a b)[k]'hk2).name ((thenAll a b)[k]'hk2).plus.arity).plus)]) 121 rfl rfl rfl rfl rfl rfl rfl rfl FitL.rf rfl rfl rfl rfl rfl rfl (by kernel_rfl)) ?_
  refine AL_p (x_call (ks := []) (L := [(121, some _)]) (L' := [(121, none), (122, some _)]) rfl rfl rfl (AT.lend1 (concatRowD_t (xss := [(keepOf (changeOf a ((thenAll a b)[k]'hk2).name ((thenAll a b)[k]'hk2).plus.arity).minus (changeOf b ((thenAll a b)[k]'hk2).name ((thenAll a b)[k]'hk2).plus.arity).plus), (keepOf (changeOf b ((thenAll a b)[k]'hk2).name ((thenAll a b)[k]'hk2).plus.arity).minus (changeOf a ((thenAll a b)[k]'hk2).name ((thenAll a b)[k]'hk2).plus.arity).plus)]) (by have := hpl; simp only [plusOf, lessOf, List.length_append] at this; simp only [List.flatten_cons, List.flatten_nil, List.length_append, List.length_nil]; omega) (by simp)) 121 122 rfl (fun _ => rfl)) rfl AllV.rf (caught_of rfl) rfl rfl rfl ⟨rfl, trivial⟩ rfl) ?_
  refine AL_p (x_callR rfl rfl rfl (relOfP_c (changeOf a ((thenAll a b)[k]'hk2).name ((thenAll a b)[k]'hk2).plus.arity).plus.arity (keepOf (changeOf a ((thenAll a b)[k]'hk2).name ((thenAll a b)[k]'hk2).plus.arity).minus (changeOf b ((thenAll a b)[k]'hk2).name ((thenAll a b)[k]'hk2).plus.arity).plus) (keepOf (changeOf b ((thenAll a b)[k]'hk2).name ((thenAll a b)[k]'hk2).plus.arity).minus (changeOf a ((thenAll a b)[k]'hk2).name ((thenAll a b)[k]'hk2).plus.arity).plus) hpv.2 ⟨by have := hpl.2; exact Nat.le_trans this (by decide), hps.2⟩ 123) rfl AllV.rf rfl rfl rfl rfl rfl) ?_
  refine AL_p (x_move rfl rfl) ?_
  refine AL_p (x_extract rfl rfl rfl) ?_
  refine AL_b (x_extract rfl rfl rfl) (fun b125 h125 => ?_)
  refine AL_p (x_alloc (z := .agg #[.int .i64 0, .slice none 0 0]) 124 rfl (by kernel_rfl) rfl rfl rfl rfl) ?_
  refine AL_p (x_store (n := 2) rfl rfl rfl rfl (by kernel_rfl) rfl rfl rfl) ?_
  refine AL_p (x_assign rfl rfl) ?_
  refine AL_nild (by kernel_rfl) ?_
  refine AW_seq ?_
  refine AW_seq ?_
  refine AW_region ?_
  refine AL_p (x_move rfl rfl) ?_
  refine AL_p (x_not rfl rfl) ?_
  refine AL_p (x_move rfl rfl) ?_
  cases b104
  · try simp only [tdy] at h104
    have hno := then_big hk2 (.inl (by have q : 300 < ((sortRows (plusOf (changeOf a ((thenAll a b)[k]'hk2).name ((thenAll a b)[k]'hk2).plus.arity) (changeOf b ((thenAll a b)[k]'hk2).name ((thenAll a b)[k]'hk2).plus.arity))).length : Int) := relOf_false h104; omega))
    refine AL_o rfl rfl rfl rfl ?_
    refine AL_o rfl rfl rfl rfl ?_
    refine AL_p (x_pickT rfl rfl rfl) ?_
    refine AL_nil ?_
    refine AW_condT rfl ?_
    refine AW_seq ?_
    refine AW_region ?_
    refine AL_p (x_build (zs := [.slice none 0 0]) (places := [(0, 1)]) rfl (by kernel_rfl) rfl rfl rfl rfl rfl) ?_
    refine AL_p (x_store (n := 1) rfl rfl rfl rfl (by kernel_rfl) rfl rfl rfl) ?_
    refine AL_p (x_assign rfl rfl) ?_
    refine AL_nil ?_
    refine AW_adopt (T := 65) (e := changeE) 110 102 0 rfl rfl rfl rfl rfl ?_
    refine AW_ret (BQ_ret (BQ_ret ?_))
    exact ⟨rn [(9, 102), (0, 110)], ⟨⟨⟨_, rfl, VLe.rf⟩, ⟨_, rfl, by first | (refine vle_bool ?_; rw [hno]; done) | exact VLe.rf | (refine vle_bool ?_; rw [hno]; apply Eq.symm; assumption) | exact vle_bool (by rw [hno])⟩, trivial⟩, ⟨⟨_, rfl, by first | (refine ble_eq ?_; rw [hno]; done) | (refine ble_eq ?_; rw [hno]; rfl) | exact BLe.rf⟩, ⟨_, rfl, by first | (refine BLe.arr ?_; rw [hno]; done) | (refine BLe.arr ?_; rw [hno]; rfl) | exact BLe.rf⟩, trivial⟩, trivial, rfl⟩⟩
  try simp only [tdy] at h104
  refine AL_g rfl rfl (x_move rfl rfl) ?_
  refine AL_g rfl rfl (x_not rfl rfl) ?_
  refine AL_p (x_pickF rfl rfl rfl) ?_
  refine AL_nil ?_
  cases b125
  · try simp only [tdy] at h125
    have hno := then_big hk2 (.inr (by have q : 300 < ((sortRows (lessOf (changeOf a ((thenAll a b)[k]'hk2).name ((thenAll a b)[k]'hk2).plus.arity) (changeOf b ((thenAll a b)[k]'hk2).name ((thenAll a b)[k]'hk2).plus.arity))).length : Int) := relOf_false h125; omega))
    refine AW_condT rfl ?_
    refine AW_seq ?_
    refine AW_region ?_
    refine AL_p (x_build (zs := [.slice none 0 0]) (places := [(0, 1)]) rfl (by kernel_rfl) rfl rfl rfl rfl rfl) ?_
    refine AL_p (x_store (n := 1) rfl rfl rfl rfl (by kernel_rfl) rfl rfl rfl) ?_
    refine AL_p (x_assign rfl rfl) ?_
    refine AL_nil ?_
    refine AW_adopt (T := 65) (e := changeE) 110 102 0 rfl rfl rfl rfl rfl ?_
    refine AW_ret (BQ_ret (BQ_ret ?_))
    exact ⟨rn [(9, 102), (0, 110)], ⟨⟨⟨_, rfl, VLe.rf⟩, ⟨_, rfl, by first | (refine vle_bool ?_; rw [hno]; done) | exact VLe.rf | (refine vle_bool ?_; rw [hno]; apply Eq.symm; assumption) | exact vle_bool (by rw [hno])⟩, trivial⟩, ⟨⟨_, rfl, by first | (refine ble_eq ?_; rw [hno]; done) | (refine ble_eq ?_; rw [hno]; rfl) | exact BLe.rf⟩, ⟨_, rfl, by first | (refine BLe.arr ?_; rw [hno]; done) | (refine BLe.arr ?_; rw [hno]; rfl) | exact BLe.rf⟩, trivial⟩, trivial, rfl⟩⟩
  try simp only [tdy] at h125
  have hsi := sum_is (n := ((thenAll a b)[k]'hk2).name) h104 h125
  refine AW_condF rfl ?_
  refine AW_skip ?_
  refine AW_seq ?_
  refine AW_region ?_
  refine AL_p (x_field (off := 1) (o' := 1) rfl rfl rfl (by kernel_rfl) rfl) ?_
  refine AL_p (x_load1 rfl rfl rfl (by kernel_rfl) rfl) ?_
  refine AL_p (x_olen (E := 72) (n := 1) rfl rfl rfl (by kernel_rfl)) ?_
  refine AL_p (x_field (off := 1) (o' := 1) rfl rfl rfl (by kernel_rfl) rfl) ?_
  refine AL_p (x_load1 rfl rfl rfl (by kernel_rfl) rfl) ?_
  refine AL_p (x_olen (E := 72) (n := 1) rfl rfl rfl (by kernel_rfl)) ?_
  refine AL_p (x_add rfl rfl rfl (IntWalk.i64_in _ (by have h1 := rel_len (ar := (changeOf a ((thenAll a b)[k]'hk2).name ((thenAll a b)[k]'hk2).plus.arity).plus.arity) (rows := plusOf (changeOf a ((thenAll a b)[k]'hk2).name ((thenAll a b)[k]'hk2).plus.arity) (changeOf b ((thenAll a b)[k]'hk2).name ((thenAll a b)[k]'hk2).plus.arity)); have h2 := rel_len (ar := (changeOf a ((thenAll a b)[k]'hk2).name ((thenAll a b)[k]'hk2).plus.arity).plus.arity) (rows := lessOf (changeOf a ((thenAll a b)[k]'hk2).name ((thenAll a b)[k]'hk2).plus.arity) (changeOf b ((thenAll a b)[k]'hk2).name ((thenAll a b)[k]'hk2).plus.arity)); unfold plusOf at h1; unfold lessOf at h2; omega))) ?_
  refine AL_b (x_gtr rfl rfl rfl) (fun b140 h140 => ?_)
  refine AL_nil ?_
  cases b140
  · try simp only [tdy] at h140
    have hso := sums_no hk2 hsi (by dsimp only [plusOf, lessOf]; omega)
    refine AW_condF rfl ?_
    refine AW_skip ?_
    refine AW_region ?_
    refine AL_p (x_add rfl rfl rfl (IntWalk.i64_in _ (by omega))) ?_
    refine AL_p (x_move rfl rfl) ?_
    refine AL_nil ?_
    refine ⟨⟨k + 1, ⟨by omega, hT.succ hk2 hok⟩⟩, rn [], ?_, by dsimp only; omega⟩
    exact ⟨by (repeat refine ⟨⟨_, rfl, by first | exact VLe.rf | exact vle_int (by dsimp only; omega)⟩, ?_⟩); exact trivial, by (repeat refine ⟨⟨_, rfl, by first | exact BLe.rf | exact BLe.box AllC.rf | exact BLe.arr (by first | rfl | exact hso)⟩, ?_⟩); exact trivial, by repeat (first | exact trivial | refine ⟨⟨rfl, by first | (left; intro h; cases h) | (right; rfl), by first | exact (fun _ h => ⟨_, h⟩) | exact (fun _ _ => ⟨_, rfl⟩) | (intro _ h; cases h)⟩, ?_⟩), rfl⟩
  try simp only [tdy] at h140
  have hso := sums_yes hk2 hsi (by dsimp only [plusOf, lessOf]; omega)
  refine AW_condT rfl ?_
  refine AW_region ?_
  refine AL_p (x_field (off := 0) (o' := 0) rfl rfl rfl (by kernel_rfl) rfl) ?_
  refine AL_p (x_load1 rfl rfl rfl (by kernel_rfl) rfl) ?_
  refine AL_p (x_field (off := 0) (o' := 0) rfl rfl rfl (by kernel_rfl) rfl) ?_
  refine AL_p (x_load1 rfl rfl rfl (by kernel_rfl) rfl) ?_
  refine AL_p (x_loadN (n := 2) rfl rfl rfl (by kernel_rfl) rfl rfl) ?_
  refine AL_p (x_loadN (n := 2) rfl rfl rfl (by kernel_rfl) rfl rfl) ?_
  refine AL_p (x_build (zs := [.string ⟨#[]⟩, .int .i64 0, .slice none 0 0, .int .i64 0, .slice none 0 0]) (places := [(0, 1), (1, 2), (3, 2)]) rfl (by kernel_rfl) rfl rfl rfl rfl rfl) ?_
  refine AL_p (y_bslice (E := 65) (e := changeE) [.tmp 147] ([(⟨((thenAll a b)[k]'hk2).name, (relOf (changeOf a ((thenAll a b)[k]'hk2).name ((thenAll a b)[k]'hk2).plus.arity).plus.arity (plusOf (changeOf a ((thenAll a b)[k]'hk2).name ((thenAll a b)[k]'hk2).plus.arity) (changeOf b ((thenAll a b)[k]'hk2).name ((thenAll a b)[k]'hk2).plus.arity))).1, (relOf (changeOf a ((thenAll a b)[k]'hk2).name ((thenAll a b)[k]'hk2).plus.arity).plus.arity (lessOf (changeOf a ((thenAll a b)[k]'hk2).name ((thenAll a b)[k]'hk2).plus.arity) (changeOf b ((thenAll a b)[k]'hk2).name ((thenAll a b)[k]'hk2).plus.arity))).1⟩ : Changet)]) 125 rfl rfl rfl rfl rfl rfl rfl rfl FitL.rf rfl rfl rfl rfl rfl rfl (by kernel_rfl)) ?_
  refine AL_p (y_append 126 rfl rfl rfl rfl rfl rfl rfl rfl (by kernel_rfl) (by have h1 := filtTo_len (p := someRows) (rows := thenSums a b) (k := k); rw [thenSums_len] at h1; simp only [List.length_cons, List.length_nil]; omega)) ?_
  refine AL_p (x_field (off := 0) (o' := 0) rfl rfl rfl (by kernel_rfl) rfl) ?_
  refine AL_p (x_store (n := 1) rfl rfl rfl rfl (by kernel_rfl) rfl rfl rfl) ?_
  refine AL_nil ?_
  refine AW_region ?_
  refine AL_p (x_add rfl rfl rfl (IntWalk.i64_in _ (by omega))) ?_
  refine AL_p (x_move rfl rfl) ?_
  refine AL_nil ?_
  refine ⟨⟨k + 1, ⟨by omega, hT.succ hk2 hok⟩⟩, rn [(106, 126)], ?_, by dsimp only; omega⟩
  exact ⟨by (repeat refine ⟨⟨_, rfl, by first | exact VLe.rf | exact vle_int (by dsimp only; omega)⟩, ?_⟩); exact trivial, by (repeat refine ⟨⟨_, rfl, by first | exact BLe.rf | exact BLe.box AllC.rf | exact BLe.arr (by first | rfl | exact hso)⟩, ?_⟩); exact trivial, by repeat (first | exact trivial | refine ⟨⟨rfl, by first | (left; intro h; cases h) | (right; rfl), by first | exact (fun _ h => ⟨_, h⟩) | exact (fun _ _ => ⟨_, rfl⟩) | (intro _ h; cases h)⟩, ?_⟩), rfl⟩
theorem deltaThenI_c (a b : Deltat) (ha : smallDelta a) (hb : smallDelta b) (k : Nat) : AC Tryz.prog 19 [.agg (deltaC a), .agg (deltaC b)] [] (.tup [.agg [.own k], .one (.c (.bool (deltaThen a b).2))]) [(k, some (.arr 65 changeE (deltaThen a b).1.changes true))] := AC.at (deltaThenI_c0 a b ha hb) k
end Go.Proofs.YtibhoanjglfaoaaGreat

/- Pairs of relations, relations with a row, joins and ways that are drawn, in plain words. -/
namespace Go.Proofs.YtibhoanjglfaoaaGreat
open Go.RowKit
set_option linter.unusedVariables false

end Go.Proofs.YtibhoanjglfaoaaGreat

/- Stores that are drawn, in plain words. -/
namespace Go.Proofs.YtibhoanjglfaoaaGreat
open Go.RowKit
set_option linter.unusedVariables false

theorem setTo_len2 {rels : List Namedt} {nw : Namedt} (k : Nat) : (setTo rels nw k).2.length ≤ k + 1 := by
  have h1 := setTo_len (rels := rels) (nw := nw) k
  have h2 := Bool.toNat_le (setTo rels nw k).1
  omega
/-- A named relation that may be drawn. -/
def namedSm (x : Namedt) : Prop := x.name.size ≤ 18 ∧ relSm x.rel
/-- The rows, the names and the number of a store's relations. -/
structure StSm (s : List Namedt) (n m : Nat) : Prop where
  all : ∀ y ∈ s, namedSm y
  len : s.length ≤ n
  rows : rowsN s ≤ m
theorem StSm.put {s : List Namedt} {n m : Nat} (h : StSm s n m) {x : Namedt} (hx : namedSm x) : StSm (setRel s x) (n + 1) (m + x.rel.rows.length) :=
  ⟨setRel_all hx h.all, by have := setRel_len (rels := s) (nw := x); have := h.len; omega, by have := setRel_rows (rels := s) (nw := x); have := h.rows; omega⟩
theorem StSm.le {s : List Namedt} {n m n' m' : Nat} (h : StSm s n m) (h1 : n ≤ n') (h2 : m ≤ m') : StSm s n' m' := ⟨h.all, Nat.le_trans h.len h1, Nat.le_trans h.rows h2⟩
theorem StSm.set {s : List Namedt} {n m : Nat} (h : StSm s n m) {x : Namedt} (hx : namedSm x) {i : Nat} (hi : i < s.length) : StSm (s.set i x) n (m + x.rel.rows.length - s[i].rel.rows.length) := by
  have h1 := rowsN_set x s i hi
  have h2 := h.rows
  refine ⟨fun y hy => ?_, by rw [List.length_set]; exact h.len, by omega⟩
  rcases set_mem hy with hy | hy
  · exact h.all y hy
  · rw [hy]; exact hx
end Go.Proofs.YtibhoanjglfaoaaGreat
