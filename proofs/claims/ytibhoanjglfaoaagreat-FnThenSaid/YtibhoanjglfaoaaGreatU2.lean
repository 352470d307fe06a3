/- Lemmas of the walks, part 2. -/
import Derived.Test.YtibhoanjglfaoaaGreatU1
import Derived.Laws.Tables
import Derived.Laws.Strings
import Derived.Laws.StructEq
import Derived.Deep.RegionHeld3
import Derived.Great.FillDense
import Derived.Great.BuildSlice
import Derived.Deep.Upon
/- The abstract walk: variables and arrays of one's own. -/
namespace Go.Proofs.YtibhoanjglfaoaaGreat
open Go.RowKit
set_option linter.unusedVariables false

def setAt {β : Type} (f : Nat → β) (k : Nat) (v : β) : Nat → β := fun j => if j = k then v else f j
theorem setAt_self {β : Type} {f : Nat → β} {k : Nat} {v : β} : setAt f k v k = v := if_pos rfl
theorem setAt_ne {β : Type} {f : Nat → β} {k j : Nat} {v : β} (h : j ≠ k) : setAt f k v j = f j := if_neg h
theorem key_ne {l : Locs} {j k : Nat} (hj : lk l j ≠ none) (hk : lk l k = none) : j ≠ k := fun e => hj (e ▸ hk)
/-- A value of one cell. -/
theorem one_of_wf {v : Value} (h : wfV v) : v.oneCell' = true := by
  cases v <;> first | rfl | exact h.elim
/-- A cell whose value is known for one of one cell. -/
def solid (l : Locs) : Cell → Bool
  | .c _ => true
  | .sl _ _ => true
  | .own k => match lkl l k with | some (.arr _ _ _ _) => true | _ => false
  | .ptr k _ => match lkl l k with | some (.box _) => true | _ => false
  | .ep _ _ _ => true
  | .clo _ [] => true
  | .slo _ _ _ => true
  | .epo _ _ _ _ => true
  | .rx _ _ _ _ _ => true
  | _ => false
theorem one_of_solid {g : Gh} {l : Locs} {w : World} (m : MemR g l w) {v : Value} {x : Cell} (hs : solid l x = true) (h : CellR g l w v x) : v.oneCell' = true := by
  cases x with
  | c u => rw [h.1]; exact one_of_wf h.2
  | sl e xs => obtain ⟨a, n, cap, bs, rfl, _⟩ := h; rfl
  | own k =>
    simp only [solid] at hs
    split at hs
    · rename_i T e xs d hk
      rw [h _ _ _ _ _ hk]
      rcases m.arr k _ _ _ _ _ hk with ⟨_, h1, _⟩ | ⟨_, _, _, h1, _⟩ <;> rw [h1] <;> rfl
    · cases hs
  | ptr k off =>
    simp only [solid] at hs
    split at hs
    · rename_i cs hk; rw [h cs hk]; rfl
    · cases hs
  | optr k i off => cases hs
  | ep e x off => obtain ⟨gb, o, cs, b, rfl, _⟩ := h; rfl
  | clo f ks =>
    cases ks with
    | nil => rw [h fun k hk => by cases hk]; rfl
    | cons _ _ => cases hs
  | any => cases hs
  | sn e xs => cases hs
  | slo B e xs => obtain ⟨a, n, cap, bs, rfl, _⟩ := h; rfl
  | epo B e x off => obtain ⟨gb, o, cs, b, rfl, _⟩ := h; rfl
  | osl k lo n => cases hs
  | rx e x vs b j => exact h.1.2
/-- The blocks that the cells speak of. -/
def rlC (l : Locs) (xs : List Cell) : List (Nat × Blk) := (xs.flatMap Cell.ids).filterMap fun k => match lkl l k with | some b => some (k, b) | none => none
theorem rlC_get {l l' : Locs} {xs : List Cell} (h : ∀ p ∈ rlC l xs, lkl l' p.1 = some p.2) {x : Cell} (hx : x ∈ xs) {k : Nat} (hk : k ∈ x.ids) {b : Blk} (hb : lkl l k = some b) : lkl l' k = some b :=
  h (k, b) (List.mem_filterMap.2 ⟨k, List.mem_flatMap.2 ⟨x, hx, hk⟩, by rw [hb]⟩)
theorem rlC_self {l : Locs} {xs : List Cell} : ∀ p ∈ rlC l xs, lkl l p.1 = some p.2 := fun p hp => by
  obtain ⟨k, _, h2⟩ := List.mem_filterMap.1 hp
  split at h2
  · rename_i b hb; cases h2; exact hb
  · cases h2
theorem solid_of {l l' : Locs} {xs : List Cell} (h : ∀ p ∈ rlC l xs, lkl l' p.1 = some p.2) {x : Cell} (hx : x ∈ xs) (hs : solid l x = true) : solid l' x = true := by
  cases x with
  | own k =>
    simp only [solid] at hs ⊢
    split at hs
    · rename_i T e zs d hk; rw [rlC_get h hx (by simp [Cell.ids]) hk]
    · cases hs
  | ptr k off =>
    simp only [solid] at hs ⊢
    split at hs
    · rename_i cs hk; rw [rlC_get h hx (by simp [Cell.ids]) hk]
    · cases hs
  | clo f ks => cases ks <;> first | rfl | cases hs
  | _ => first | rfl | cases hs

section
variable {g : Gh} {l : Locs} {w : World}
/-- A new variable. -/
theorem box_new (m : MemR g l w) {k : Nat} (hk : lk l k = none) (hki : k ∉ l.ids) {vs : List Value} {cs : List Cell} (T : TypeId) (h : All2 (CellR g l w) vs cs) (hkc : k ∉ cs.flatMap Cell.ids) :
    MemR { g with ρ := setAt g.ρ k w.heap.size } ((k, some (.box cs)) :: l) (w.alloc (.cells vs.toArray T)) ∧
    (∀ K, Step K g l w { g with ρ := setAt g.ρ k w.heap.size } ((k, some (.box cs)) :: l) (w.alloc (.cells vs.toArray T))) ∧
    (∀ b, g.I b → (w.alloc (.cells vs.toArray T)).heap[b]? = w.heap[b]?) ∧ ∀ j, j ≠ k → okK g l { g with ρ := setAt g.ρ k w.heap.size } ((k, some (.box cs)) :: l) j := by
  have hi : ∀ b, g.I b → (w.alloc (.cells vs.toArray T)).heap[b]? = w.heap[b]? := fun b hb => Below.heap_alloc w _ b (m.ilt b hb)
  have hs : w.heap.size ≤ (w.alloc (.cells vs.toArray T)).heap.size := by simp
  have hu : ∀ j, j ≠ k → lkl ((k, some (.box cs)) :: l) j = none ∨ Untouched g l w { g with ρ := setAt g.ρ k w.heap.size } ((k, some (.box cs)) :: l) (w.alloc (.cells vs.toArray T)) j := fun j hj =>
    .inr ⟨lkl_cons_ne (Ne.symm hj), setAt_ne hj, rfl, rfl, fun b hb hl => ⟨Below.heap_alloc w _ _ (m.lt hb hl), m.notI hb hl⟩⟩
  have ok : ∀ j, j ≠ k → okK g l { g with ρ := setAt g.ρ k w.heap.size } ((k, some (.box cs)) :: l) j := fun j hj => okK.same (lkl_cons_ne (Ne.symm hj)) (setAt_ne hj) rfl
  refine ⟨m.set1 k hi (fun _ h => h) hs (fun b hb => Nat.lt_of_lt_of_le (m.ilt b hb) hs) hu (.inr hki) (fun cs' hc => ?_) (fun α T' e xs d hc => ?_) (fun j b b' hj h1 h2 h3 l1 l2 => ?_) (fun α T' e xs hc => ?_) (fun j α β T' U e f xs ys hj h1 h2 h3 => ?_), fun K => ?_, hi, ok⟩
  · rw [lkl_cons_self] at hc; cases hc
    refine ⟨vs.toArray, T, by rw [show ({ g with ρ := setAt g.ρ k w.heap.size } : Gh).ρ k = w.heap.size from setAt_self]; exact heap_alloc_new w _, ?_, ?_⟩
    · exact h.mono fun a x hx hr => hr.step hi (fun _ h => h) hs fun i hii => ok i fun e => hkc (List.mem_flatMap.2 ⟨x, hx, e ▸ hii⟩)
    · rw [show ({ g with ρ := setAt g.ρ k w.heap.size } : Gh).ρ k = w.heap.size from setAt_self]
      exact fun hI => absurd (m.ilt _ hI) (by omega)
  · rw [lkl_cons_self] at hc; cases hc
  · rw [show ({ g with ρ := setAt g.ρ k w.heap.size } : Gh).ρ k = w.heap.size from setAt_self]
    exact Nat.ne_of_lt (m.lt h2 l1)
  · rw [lkl_cons_self] at hc; cases hc
  · rw [lkl_cons_self] at h3; cases h3
  · refine ⟨rfl, rfl, rfl, hs, fun b hb _ => Below.heap_alloc w _ b hb, fun _ h => h, fun _ h => .inl h, own_set1 k hu (fun b hb hl => .inr ?_) (fun α T' e xs hc => ?_), fun j hj hn => ?_⟩
    · rw [show ({ g with ρ := setAt g.ρ k w.heap.size } : Gh).ρ k = w.heap.size from setAt_self]; exact Nat.le_refl _
    · rw [lkl_cons_self] at hc; cases hc
    · have hjk := key_ne hn hk
      exact ⟨by rw [lk_cons_ne (Ne.symm hjk)]; exact hn, ok j hjk, fun cs' hc => ⟨cs', by rw [lkl_cons_ne (Ne.symm hjk)]; exact hc⟩⟩
/-- A variable written anew. -/
theorem box_set (m : MemR g l w) {k : Nat} {cs cs' : List Cell} (hk : lkl l k = some (.box cs)) {vs vs' : List Value} {T : TypeId} (hh : w.heap[g.ρ k]? = some (.cells vs.toArray T (0, 0))) (h : All2 (CellR g l w) vs' cs') :
    MemR g ((k, some (.box cs')) :: l) (w.setRow (g.ρ k) vs'.toArray) ∧ (∀ K, Step K g l w g ((k, some (.box cs')) :: l) (w.setRow (g.ρ k) vs'.toArray)) ∧
    (∀ b, g.I b → (w.setRow (g.ρ k) vs'.toArray).heap[b]? = w.heap[b]?) ∧ ∀ j, okK g l g ((k, some (.box cs')) :: l) j := by
  have nI := m.notI hk trivial
  have hi : ∀ b, g.I b → (w.setRow (g.ρ k) vs'.toArray).heap[b]? = w.heap[b]? := fun b hb => setRow_other w _ b _ (fun e => nI (e ▸ hb))
  have hs : w.heap.size ≤ (w.setRow (g.ρ k) vs'.toArray).heap.size := by simp
  have ok : ∀ j, okK g l g ((k, some (.box cs')) :: l) j := fun j => by
    by_cases e : j = k
    · subst e
      exact ⟨fun _ _ => ⟨rfl, cs, hk⟩, fun α T e xs d hc => by rw [lkl_cons_self] at hc; cases hc⟩
    · exact okK.same (lkl_cons_ne (Ne.symm e)) rfl rfl
  have hu : ∀ j, j ≠ k → lkl ((k, some (.box cs')) :: l) j = none ∨ Untouched g l w g ((k, some (.box cs')) :: l) (w.setRow (g.ρ k) vs'.toArray) j := fun j hj =>
    .inr ⟨lkl_cons_ne (Ne.symm hj), rfl, rfl, rfl, fun b hb hl => ⟨setRow_other w _ _ _ (m.dis j k b _ hj hb hk hl trivial), m.notI hb hl⟩⟩
  refine ⟨m.set1 k hi (fun _ h => h) hs (fun b hb => Nat.lt_of_lt_of_le (m.ilt b hb) hs) hu (.inl (ok k)) (fun cs2 hc => ?_) (fun α T' e xs d hc => ?_) (fun j b b' hj h1 h2 h3 l1 l2 => m.dis j k b _ hj h2 hk l1 trivial) (fun α T' e xs hc => ?_) (fun j α β T' U e f xs ys hj h1 h2 h3 => ?_), fun K => ?_, hi, ok⟩
  · rw [lkl_cons_self] at hc; cases hc
    exact ⟨vs'.toArray, T, setRow_heap w _ _ _ T _ hh, h.mono fun a x hx hr => hr.step hi (fun _ h => h) hs fun i _ => ok i, nI⟩
  · rw [lkl_cons_self] at hc; cases hc
  · rw [lkl_cons_self] at hc; cases hc
  · rw [lkl_cons_self] at h3; cases h3
  · refine ⟨rfl, rfl, rfl, hs, fun b hb hn => setRow_other w _ b _ (hn k _ hk trivial), fun _ h => h, fun _ h => .inl h, own_set1 k hu (fun b hb hl => .inl (OwnB.of_live hk trivial)) (fun α T' e xs hc => ?_), fun j hj hn => ⟨?_, ok j, fun cs2 hc => ?_⟩⟩
    · rw [lkl_cons_self] at hc; cases hc
    · by_cases e : j = k
      · subst e; rw [lk_cons_self]; simp
      · rw [lk_cons_ne (Ne.symm e)]; exact hn
    · by_cases e : j = k
      · subst e; exact ⟨cs', lkl_cons_self⟩
      · exact ⟨cs2, by rw [lkl_cons_ne (Ne.symm e)]; exact hc⟩
end

section ops
variable {P : Program} {N : Nat} {s : St} {d : Nat} {ty : TypeId} {pos : String} {after : Array Edge} {gd : Option (Nat × Bool)}
def noId (k : Nat) (ids : List Nat) : Bool := ids.all fun i => !Nat.beq i k
theorem noId_of {k : Nat} {ids : List Nat} (h : noId k ids = true) : k ∉ ids := fun hm => by
  have := List.all_eq_true.1 h k hm
  simp at this
def AVal.cells : AVal → List Cell
  | .one x => [x]
  | .agg xs => xs
  | .tup _ => []
theorem vr1_cells {g : Gh} {l : Locs} {w : World} {v : Value} {X : AVal} (hs : X.cells.all (solid l) = true) (m : MemR g l w) (h : VR g l w v X) (hf : X.flat = true) : All2 (CellR g l w) v.cells.toList X.cells := by
  cases X with
  | one x =>
    simp only [AVal.cells, List.all_cons, List.all_nil, Bool.and_true] at hs
    have h1 := one_of_solid m hs h
    have : v.cells.toList = [v] := by cases v <;> first | rfl | cases h1
    rw [this]; exact ⟨h, trivial⟩
  | agg xs =>
    obtain ⟨vs, rfl, h2⟩ := h
    exact h2
  | tup xs => cases hf
/-- A new variable that holds X. -/
theorem x_box {T : TypeId} {x : Operand} {X : AVal} (k : Nat) (hN : Nat.blt d N = true) (h : evo s.t x = some X) (hf : X.flat = true) (hs : X.cells.all (solid s.l) = true) (hk : lk s.l k = none) (hi : noId k s.ids = true) (hX : noId k (X.cells.flatMap Cell.ids) = true) :
    Stp P N ⟨some d, .box T x, ty, pos, after, gd⟩ s ⟨(d, .one (.ptr k 0)) :: s.t, (k, some (.box X.cells)) :: s.l⟩ ⟨rdo x X, rlC s.l X.cells, [(d, .one (.ptr k 0))], [(k, some (.box X.cells))], [k]⟩ := by
  refine ⟨fun K g s' a w hp r => ?_, ⟨rdo_of h, rlC_self, fun j hj => by simp at hj; subst hj; exact ⟨hk, noId_of hi⟩⟩, rfl⟩
  obtain ⟨p1, p2, p3⟩ := hp
  have hv := eval_ok r (evs_of h) p1
  have hs' : X.cells.all (solid s'.l) = true := List.all_eq_true.2 fun x hx => solid_of p2 hx (List.all_eq_true.1 hs x hx)
  obtain ⟨n1, n2⟩ := p3 k (by simp)
  obtain ⟨b1, b2, b3, b4⟩ := box_new r.mem n1 (fun h => n2 (List.mem_append_right _ h)) T (vr1_cells hs' r.mem hv hf) (noId_of hX)
  unfold Oper.wp
  have hrun : (execOp a.eval ⟨some d, .box T x, ty, pos, after, gd⟩).run P w = .ok (.value (.pointer (some ⟨w.heap.size, 0, none⟩))) (w.alloc (.cells (a.eval x).cells T)) := by
    simp only [execOp, Instr.box, newVar, newRow, newObj, Sem.run_bind, Sem.run_pure]
    rfl
  rw [hrun, Oper.upon_value]
  have e1 : (a.eval x).cells.toList.toArray = (a.eval x).cells := by simp
  rw [e1] at b1 b2 b3
  refine ⟨{ g with ρ := setAt g.ρ k w.heap.size }, r.next (blt_lt hN) b3 (fun _ h => h) (b2 K).size (fun j hj => b4 j fun e => n2 (e ▸ hj)) (fun cs hc => ?_) b1, b2 K⟩
  rw [show ({ g with ρ := setAt g.ρ k w.heap.size } : Gh).ρ k = w.heap.size from setAt_self]
/-- A new variable at its zero. -/
def zeroT (P : Program) (T : TypeId) : Option Value := match P.info? T with | some i => i.zero | none => none
theorem x_alloc {T : TypeId} {z : Value} {X : AVal} (k : Nat) (hN : Nat.blt d N = true) (hz : zeroT P T = some z) (hX : cval z = some X) (hk : lk s.l k = none) (hi : noId k s.ids = true) (hXi : X.cells.flatMap Cell.ids = []) :
    Stp P N ⟨some d, .alloc T, ty, pos, after, gd⟩ s ⟨(d, .one (.ptr k 0)) :: s.t, (k, some (.box X.cells)) :: s.l⟩ ⟨[], [], [(d, .one (.ptr k 0))], [(k, some (.box X.cells))], [k]⟩ := by
  refine ⟨fun K g s' a w hp r => ?_, ⟨by simp, by simp, fun j hj => by simp at hj; subst hj; exact ⟨hk, noId_of hi⟩⟩, rfl⟩
  obtain ⟨p1, p2, p3⟩ := hp
  have hv : VR g s'.l w z X := cval_ok hX
  obtain ⟨n1, n2⟩ := p3 k (by simp)
  have hall : All2 (CellR g s'.l w) z.cells.toList X.cells := by
    unfold cval at hX
    split at hX
    · rename_i vs
      split at hX
      · rename_i cs hc; cases hX; exact plainL_ok hc
      · cases hX
    · split at hX
      · rename_i hb
        cases hX
        have h1 := one_of_wf (wf_of_plain hb)
        have : z.cells.toList = [z] := by cases z <;> first | rfl | cases h1
        rw [this]; exact ⟨⟨rfl, wf_of_plain hb⟩, trivial⟩
      · cases hX
  obtain ⟨b1, b2, b3, b4⟩ := box_new r.mem n1 (fun h => n2 (List.mem_append_right _ h)) T hall (by rw [hXi]; simp)
  unfold Oper.wp
  have hrun : (execOp a.eval ⟨some d, .alloc T, ty, pos, after, gd⟩).run P w = .ok (.value (.pointer (some ⟨w.heap.size, 0, none⟩))) (w.alloc (.cells z.cells T)) := by
    unfold zeroT at hz
    split at hz
    · rename_i i hi
      simp only [execOp, Instr.alloc, Go.zeroValue, typeInfo, newVar, newRow, newObj, Sem.run_bind, Sem.run_pure, program, Sem.run, hi, hz, Result.andThen_ok]
      rfl
    · cases hz
  rw [hrun, Oper.upon_value]
  have e1 : z.cells.toList.toArray = z.cells := by simp
  rw [e1] at b1 b2 b3
  refine ⟨{ g with ρ := setAt g.ρ k w.heap.size }, r.next (blt_lt hN) b3 (fun _ h => h) (b2 K).size (fun j hj => b4 j fun e => n2 (e ▸ hj)) (fun cs hc => ?_) b1, b2 K⟩
  rw [show ({ g with ρ := setAt g.ρ k w.heap.size } : Gh).ρ k = w.heap.size from setAt_self]

def putC : Nat → List Cell → List Cell → Option (List Cell)
  | 0, [], l => some l
  | 0, _ :: _, [] => none
  | 0, x :: xs, _ :: l => match putC 0 xs l with | some m => some (x :: m) | none => none
  | _ + 1, _, [] => none
  | n + 1, xs, c :: l => match putC n xs l with | some m => some (c :: m) | none => none
theorem putC_all {R : Value → Cell → Prop} : ∀ {n : Nat} {us vs : List Value} {xs cs ds : List Cell}, putC n xs cs = some ds → All2 R us xs → All2 R vs cs → n + us.length ≤ vs.length ∧ All2 R (vs.take n ++ us ++ vs.drop (n + us.length)) ds
  | 0, [], vs, [], cs, ds, h, _, hv => by
    have h0 : putC 0 [] cs = some cs := by cases cs <;> rfl
    rw [h0] at h; cases h; exact ⟨by simp, by simpa using hv⟩
  | 0, u :: us, [], x :: xs, [], ds, h, _, _ => by cases h
  | 0, u :: us, v :: vs, x :: xs, c :: cs, ds, h, hu, hv => by
    simp only [putC] at h
    split at h
    · rename_i m hm
      cases h
      obtain ⟨h1, h2⟩ := putC_all hm hu.2 hv.2
      refine ⟨by simp only [List.length_cons]; omega, ?_⟩
      simp only [List.take_zero, List.nil_append, Nat.zero_add, List.length_cons, List.drop_succ_cons] at h2 ⊢
      exact ⟨hu.1, h2⟩
    · cases h
  | n + 1, us, [], xs, [], ds, h, _, _ => by cases h
  | n + 1, us, v :: vs, xs, c :: cs, ds, h, hu, hv => by
    simp only [putC] at h
    split at h
    · rename_i m hm
      cases h
      obtain ⟨h1, h2⟩ := putC_all hm hu hv.2
      refine ⟨by simp only [List.length_cons]; omega, ?_⟩
      rw [show n + 1 + us.length = n + us.length + 1 by omega, List.take_succ_cons, List.drop_succ_cons]
      exact ⟨hv.1, h2⟩
    · cases h
def sizeT (P : Program) (T : TypeId) : Option Nat := match P.info? T with | some i => some i.size | none => none
theorem x_store {T n k off : Nat} {x y : Operand} {X : AVal} {cs cs' : List Cell} (h : evo s.t x = some (.one (.ptr k off))) (hl : lkl s.l k = some (.box cs)) (h2 : evo s.t y = some X) (hf : X.flat = true) (hT : sizeT P T = some n) (hn : X.cells.length = n) (hs : X.cells.all (solid s.l) = true) (hp : putC off X.cells cs = some cs') :
    Stp P N ⟨none, .store T x y, ty, pos, after, gd⟩ s ⟨s.t, (k, some (.box cs')) :: s.l⟩ ⟨rdo x (.one (.ptr k off)) ++ rdo y X, (k, .box cs) :: rlC s.l X.cells, [], [(k, some (.box cs'))], []⟩ := by
  refine ⟨fun K g s' a w hpre r => ?_, ⟨two_rd h h2, fun p hp => by
    rcases List.mem_cons.1 hp with rfl | hp
    · exact hl
    · exact rlC_self p hp, by simp⟩, rfl⟩
  obtain ⟨p1, p2, _⟩ := hpre
  have hk : lkl s'.l k = some (.box cs) := p2 (k, .box cs) (List.mem_cons_self ..)
  have ha : a.eval x = .pointer (some ⟨g.ρ k, off, none⟩) := (eval_ok r (evs_of h) fun p hm => p1 p (List.mem_append_left _ hm) : CellR g s'.l w _ (.ptr k off)) cs hk
  have hv := eval_ok r (evs_of h2) fun p hm => p1 p (List.mem_append_right _ hm)
  have hs' : X.cells.all (solid s'.l) = true := List.all_eq_true.2 fun z hz => solid_of (fun p hp => p2 p (List.mem_cons_of_mem _ hp)) hz (List.all_eq_true.1 hs z hz)
  have hall := vr1_cells hs' r.mem hv hf
  obtain ⟨vs, t, b1, b2, b3⟩ := r.mem.box k cs hk
  obtain ⟨c1, c2⟩ := putC_all hp hall b2
  obtain ⟨d1, d2, d3, d4⟩ := box_set r.mem hk (vs := vs.toList) (T := t) (by simpa using b1) c2
  have one : ∀ v ∈ (a.eval y).cells.toList, v.oneCell' = true := fun v hv => by
    obtain ⟨i, hi, rfl⟩ := List.getElem_of_mem hv
    have hx : X.cells[i]? = some (X.cells[i]'(by rw [← hall.len]; exact hi)) := List.getElem?_eq_getElem _
    obtain ⟨u, e1, e2⟩ := hall.get hx
    rw [List.getElem?_eq_getElem hi] at e1
    cases e1
    exact one_of_solid r.mem (List.all_eq_true.1 hs' _ (List.getElem_mem _)) e2
  have hst := run_storeCells_at P (g.ρ k) off t (a.eval y).cells.toList 0 vs w b1 (by simpa using c1) one
  have hlen : (a.eval y).cells.size = n := by rw [← hn]; simpa using hall.len
  unfold Oper.wp
  have hrun : (execOp a.eval ⟨none, .store T x y, ty, pos, after, gd⟩).run P w = .ok .skip (w.setRow (g.ρ k) (vs.toList.take off ++ (a.eval y).cells.toList ++ vs.toList.drop (off + (a.eval y).cells.toList.length)).toArray) := by
    unfold sizeT at hT
    split at hT
    · rename_i i hi
      cases hT
      simp only [execOp, Instr.storeAt, ha, Instr.sureAddr, storeVar, sizeOf, typeInfo, Sem.run_bind, Sem.run_pure, program, Sem.run, hi, Result.andThen_ok, hlen, ne_eq, not_true_eq_false, if_false]
      simp only [Nat.add_zero] at hst
      rw [hst]; rfl
    · cases hT
  rw [hrun, Oper.upon_skip]
  exact ⟨g, r.next0 d3 (fun _ h => h) (d2 K).size (fun j _ => d4 j) d1, d2 K⟩
end ops

/-! ### The walk's own rules -/
section walk
variable {P : Program} {N : Nat} {dr : Bool} {ops : Array Oper} {Kn : St → Prop} {r : List Oper} {s s' : St} {acc : List Cert} {c : Cert}
theorem AL_p {dst : Option Nat} {op : Op} {ty : TypeId} {pos : String} {after : Array Edge} (h : Stp P N ⟨dst, op, ty, pos, after, none⟩ s s' c) (next : AL P N dr ops Kn r s' (c :: acc)) : AL P N dr ops Kn (⟨dst, op, ty, pos, after, none⟩ :: r) s acc :=
  ⟨c, OpG.plain rfl h.1, h.2.1, by rw [h.2.2]; exact next⟩
theorem AL_g {dst : Option Nat} {op : Op} {ty : TypeId} {pos : String} {after : Array Edge} {j t : Nat} {b : Bool} (hj : gslot ops j = some t) (hb : lk s.t t = some (.one (.c (.bool b)))) (h : Stp P N ⟨dst, op, ty, pos, after, some (j, b)⟩ s s' c)
    (next : AL P N dr ops Kn r s' ({ c with rt := (t, .one (.c (.bool b))) :: c.rt } :: acc)) : AL P N dr ops Kn (⟨dst, op, ty, pos, after, some (j, b)⟩ :: r) s acc :=
  ⟨{ c with rt := (t, .one (.c (.bool b))) :: c.rt }, OpG.on rfl hj h.1, ⟨fun p hp => by
    rcases List.mem_cons.1 hp with rfl | hp
    · exact hb
    · exact h.2.1.1 p hp, h.2.1.2⟩, by
    show AL P N dr ops Kn r (c.upd s) _
    rw [h.2.2]; exact next⟩
theorem AL_o {d : Nat} {op : Op} {ty : TypeId} {pos : String} {after : Array Edge} {j t : Nat} {b b' : Bool} (hN : Nat.blt d N = true) (hj : gslot ops j = some t) (hb : lk s.t t = some (.one (.c (.bool b')))) (hne : (b' == b) = false)
    (next : AL P N dr ops Kn r ⟨(d, .tup []) :: s.t, s.l⟩ (⟨[(t, .one (.c (.bool b')))], [], [(d, .tup [])], [], []⟩ :: acc)) : AL P N dr ops Kn (⟨some d, op, ty, pos, after, some (j, b)⟩ :: r) s acc :=
  ⟨_, OpG.off rfl hj (by simpa using hne) rfl (blt_lt hN), ⟨fun p hp => by simp at hp; subst hp; exact hb, by simp, by simp⟩, next⟩
theorem AL_u {d : Nat} {op : Op} {ty : TypeId} {pos : String} {after : Array Edge} {j t : Nat} {b : Bool} (hN : Nat.blt d N = true) (hj : gslot ops j = some t) (hb : lk s.t t = some (.tup []))
    (next : AL P N dr ops Kn r ⟨(d, .tup []) :: s.t, s.l⟩ (⟨[(t, .tup [])], [], [(d, .tup [])], [], []⟩ :: acc)) : AL P N dr ops Kn (⟨some d, op, ty, pos, after, some (j, b)⟩ :: r) s acc :=
  ⟨_, OpG.un rfl hj rfl (blt_lt hN), ⟨fun p hp => by simp at hp; subst hp; exact hb, by simp, by simp⟩, next⟩
theorem AL_nil (h : Kn s) : AL P N false ops Kn [] s acc := ⟨fun h => (by cases h), h⟩
theorem AL_nild (hc : chk ops acc.reverse = true) (h : Kn s) : AL P N true ops Kn [] s acc := ⟨fun _ => hc, h⟩
/-- A truth value gets a name. -/
theorem AL_b {d : Nat} {op : Op} {ty : TypeId} {pos : String} {after : Array Edge} {e : Bool} {rt : List (Nat × AVal)} {rl : List (Nat × Blk)} (h : Stp P N ⟨some d, op, ty, pos, after, none⟩ s ⟨(d, .one (.c (.bool e))) :: s.t, s.l⟩ ⟨rt, rl, [(d, .one (.c (.bool e)))], [], []⟩)
    (next : ∀ b, e = b → AL P N dr ops Kn r ⟨(d, .one (.c (.bool b))) :: s.t, s.l⟩ (⟨rt, rl, [(d, .one (.c (.bool b)))], [], []⟩ :: acc)) : AL P N dr ops Kn (⟨some d, op, ty, pos, after, none⟩ :: r) s acc :=
  AL_p h (next e rfl)
theorem AL_gb {d : Nat} {op : Op} {ty : TypeId} {pos : String} {after : Array Edge} {j t : Nat} {g : Bool} {e : Bool} {rt : List (Nat × AVal)} {rl : List (Nat × Blk)} (hj : gslot ops j = some t) (hb : lk s.t t = some (.one (.c (.bool g)))) (h : Stp P N ⟨some d, op, ty, pos, after, some (j, g)⟩ s ⟨(d, .one (.c (.bool e))) :: s.t, s.l⟩ ⟨rt, rl, [(d, .one (.c (.bool e)))], [], []⟩)
    (next : ∀ b, e = b → AL P N dr ops Kn r ⟨(d, .one (.c (.bool b))) :: s.t, s.l⟩ (⟨(t, .one (.c (.bool g))) :: rt, rl, [(d, .one (.c (.bool b)))], [], []⟩ :: acc)) : AL P N dr ops Kn (⟨some d, op, ty, pos, after, some (j, g)⟩ :: r) s acc :=
  AL_g hj hb h (next e rfl)
/-- A call where nothing is lent. -/
theorem x_call0 {d : Nat} {fo : Operand} {f : FuncId} {ars : Array Operand} {ats : Array TypeId} {xs : List AVal} {res : AVal} {ty : TypeId} {pos : String} {after : Array Edge} {gd : Option (Nat × Bool)} (hN : Nat.blt d N = true) (hev : evo s.t fo = some (.one (.clo f [])))
    (hxs : evl s.t ars.toList = some xs) (hac : AC P f xs [] res []) (hfl : flats xs = true) (hsr : closedIn [] res.ids = true) :
    Stp P N ⟨some d, .call { callee := .value fo, args := ars, argTypes := ats }, ty, pos, after, gd⟩ s ⟨(d, res) :: s.t, s.l⟩ ⟨rdo fo (.one (.clo f [])) ++ rdl s.t ars.toList, [], [(d, res)], [], []⟩ :=
  ⟨OpOK.call (L := []) (L' := []) rfl rfl (blt_lt hN) hev hxs hfl hac (by rw [show caps [] = [] from rfl, List.append_nil]; exact AllV.rf) (fun k hk => by cases hk) rfl rfl hsr,
    ⟨fun p hp => by
      rcases List.mem_append.1 hp with hp | hp
      · exact rdo_of hev p hp
      · exact (evl_ok (N := N) hxs).1 p hp, by simp, by simp⟩, rfl⟩
end walk
end Go.Proofs.YtibhoanjglfaoaaGreat

/- The abstract walk: values and rows; contracts between the two ways of saying. -/
namespace Go.Proofs.YtibhoanjglfaoaaGreat
open Go.RowKit
set_option linter.unusedVariables false

def valC (v : Val) : List Cell := [.c (.int .i64 v.n), .c (.string v.s)]
instance : CellsOf valE valC := ⟨fun {w vs x b} => by
  rw [valE_rep]
  constructor
  · rintro ⟨rfl, h1, h2, rfl⟩; exact ⟨[], [], rfl, ⟨rfl, h1, rfl⟩, [], [], rfl, ⟨rfl, h2, rfl⟩, rfl⟩
  · intro h
    match vs, h with
    | [u, v], ⟨b1, b2, hb, ⟨h1, h2, h3⟩, b3, b4, hb', ⟨h4, h5, h6⟩, h7⟩ =>
      simp only [FR] at h7
      subst h3; subst h6; subst h7; subst h1; subst h4; subst hb'
      exact ⟨rfl, h2, h5, by simpa using hb⟩⟩
def rowC (r : List Val) : List Cell := [.sl valE r]
instance : CellsOf rowE rowC := ⟨fun {w vs x b} => by
  rw [rowE_rep]
  constructor
  · rintro ⟨a, n, cap, rfl, h⟩; exact ⟨b, [], by simp, ⟨a, n, cap, rfl, h⟩, rfl⟩
  · intro h
    match vs, h with
    | [v], ⟨b1, b2, hb, ⟨a, n, cap, h1, h2⟩, h4⟩ => simp only [FR] at h4; subst h4; subst h1; simp at hb; subst hb; exact ⟨a, n, cap, rfl, h2⟩⟩

/-! Two values, compared. -/
def sameVal (x y : Val) : Bool := x.n == y.n && x.s == y.s
theorem sameVal_iff {x y : Val} : sameVal x y = true ↔ x = y := by
  obtain ⟨n, ⟨⟨s⟩⟩⟩ := x
  obtain ⟨m, ⟨⟨r⟩⟩⟩ := y
  simp [sameVal, beq_toListBytes, ByteArray.toList_eq]
instance : DecidableEq Val := fun x y => decidable_of_iff _ sameVal_iff
theorem sameVal_ne {x y : Val} (h : sameVal x y = false) : x ≠ y := fun e => by rw [sameVal_iff.2 e] at h; cases h
theorem equalIn_val (x y : Val) (w : World) : (Op.equalIn 10000 147 (.agg #[.int .i64 x.n, .string x.s]) (.agg #[.int .i64 y.n, .string y.s])).run Tryz.prog w = .ok (sameVal x y) w := by
  have hS : Tryz.prog.underlying 147 = some (.struct (Tryz.prog.fieldsOf 147)) := by kernel_rfl
  have hp : Tryz.prog.stoodInHeld 147 = false := by kernel_rfl
  rw [show (10000 : Nat) = 9999 + 1 from rfl, run_equalIn_agg w 9999 147 _ _ hS hp]
  simp only [Program.fieldsOf, Tryz.underlying147]
  go_simp
  unfold sameVal
  rw [beq_toListBytes]
  by_cases h1 : x.n = y.n <;> by_cases h2 : x.s.toList = y.s.toList <;> simp [h1, h2]
theorem guard_val (op : BinOp) (x y : Operand) (a b : Val) (w : World) : (eqGuard op 147 x y (.agg #[.int .i64 a.n, .string a.s]) (.agg #[.int .i64 b.n, .string b.s])).run Tryz.prog w = .ok () w := by
  have hg : Tryz.prog.eqGuardType Tryz.prog.depth 147 = false := by kernel_rfl
  unfold eqGuard
  cases op <;> simp [hg]
theorem x_val2 {P : Program} {N : Nat} {s : St} {d : Nat} {ty : TypeId} {pos : String} {after : Array Edge} {gd : Option (Nat × Bool)} {op : BinOp} {T T' : TypeId} {x y : Operand} {a b : Val} {v : Bool} (hN : Nat.blt d N = true) (h : evo s.t x = some (.agg (valC a))) (h2 : evo s.t y = some (.agg (valC b)))
    (hr : ∀ w, ((do eqGuard op T x y (.agg #[.int .i64 a.n, .string a.s]) (.agg #[.int .i64 b.n, .string b.s]); binOp op T (.agg #[.int .i64 a.n, .string a.s]) (.agg #[.int .i64 b.n, .string b.s])) : Sem Value).run P w = .ok (.bool v) w) :
    Stp P N ⟨some d, .binOp op T x y T', ty, pos, after, gd⟩ s ⟨(d, .one (.c (.bool v))) :: s.t, s.l⟩ ⟨rdo x (.agg (valC a)) ++ rdo y (.agg (valC b)), [], [(d, .one (.c (.bool v)))], [], []⟩ :=
  Stp.pure rfl hN (two_rd h h2) (by simp) fun g s' ac w ht hl' r => by
    have one : ∀ {o : Operand} {c : Val}, Evs o (.agg (valC c)) → (∀ p ∈ rdo o (.agg (valC c)), lk s'.t p.1 = some p.2) → ac.eval o = .agg #[.int .i64 c.n, .string c.s] := fun {o c} he hp => by
      obtain ⟨vs, e1, e2⟩ : VR g s'.l w (ac.eval o) (.agg (valC c)) := eval_ok r he hp
      match vs, e2 with
      | [u, v], ⟨⟨f1, _⟩, ⟨f2, _⟩, _⟩ => subst f1; subst f2; exact e1
    have e1 := one (evs_of h) fun p hp => ht p (List.mem_append_left _ hp)
    have e2 := one (evs_of h2) fun p hp => ht p (List.mem_append_right _ hp)
    refine ⟨.bool v, run_binOp rfl ?_, rfl, trivial⟩
    rw [e1, e2]; exact hr w
section
variable {N : Nat} {s : St} {d : Nat} {ty : TypeId} {pos : String} {after : Array Edge} {gd : Option (Nat × Bool)} {T' : TypeId} {x y : Operand} {a b : Val}
theorem x_vneq (hN : Nat.blt d N = true) (h : evo s.t x = some (.agg (valC a))) (h2 : evo s.t y = some (.agg (valC b))) :
    Stp Tryz.prog N ⟨some d, .binOp .neq 147 x y T', ty, pos, after, gd⟩ s ⟨(d, .one (.c (.bool (!sameVal a b)))) :: s.t, s.l⟩ ⟨rdo x (.agg (valC a)) ++ rdo y (.agg (valC b)), [], [(d, .one (.c (.bool (!sameVal a b))))], [], []⟩ :=
  x_val2 hN h h2 fun w => by simp only [Sem.run_bind, guard_val, Result.andThen_ok, binOp, Op.equal, Op.maxDepth, equalIn_val, Sem.run_pure]
end
/-! Rows, compared. -/
def SameTo (xs ys : List Val) (k : Nat) : Prop := ∀ j (h : j < xs.length) (h' : j < ys.length), j < k → xs[j] = ys[j]
theorem SameTo.zero {xs ys : List Val} : SameTo xs ys 0 := fun _ _ _ h => absurd h (by omega)
theorem SameTo.succ {xs ys : List Val} {k : Nat} (h : SameTo xs ys k) (hk : k < xs.length) (hk' : k < ys.length) (hs : sameVal xs[k] ys[k] = true) : SameTo xs ys (k + 1) := fun j hj hj' hjk => by
  rcases Nat.lt_or_ge j k with h1 | h1
  · exact h j hj hj' h1
  · obtain rfl : j = k := by omega
    exact sameVal_iff.1 hs
theorem SameTo.eq {xs ys : List Val} {k : Nat} (hl : xs.length = ys.length) (hk : xs.length ≤ k) (h : SameTo xs ys k) : xs = ys :=
  List.ext_getElem hl fun j h1 h2 => h j h1 h2 (by omega)
def sameRow (xs ys : List Val) : Bool := decide (xs = ys)
theorem sameRow_len {xs ys : List Val} (h : ¬ xs.length = ys.length) : sameRow xs ys = false := decide_eq_false fun e => h (by rw [e])
theorem sameRow_at {xs ys : List Val} {k : Nat} (hk : k < xs.length) (hk' : k < ys.length) (hs : sameVal xs[k] ys[k] = false) : sameRow xs ys = false := decide_eq_false fun e => by subst e; exact sameVal_ne hs rfl
theorem sameRow_eq {xs ys : List Val} (h : xs = ys) : sameRow xs ys = true := decide_eq_true h
end Go.Proofs.YtibhoanjglfaoaaGreat

/- The order of values and rows ars plain laws: equal, transitive; a binary search's answer. -/
namespace Go.Proofs.YtibhoanjglfaoaaGreat
open Go.RowKit
set_option linter.unusedVariables false

def hasRow (rows : List (List Val)) (row : List Val) : Bool := decide (row ∈ rows)
theorem hasRow_at {rows : List (List Val)} {row : List Val} {k : Nat} (hk : k < rows.length) (h : sameRow rows[k] row = true) : hasRow rows row = true := by
  rw [sameRow, decide_eq_true_iff] at h
  rw [hasRow, decide_eq_true_iff, ← h]
  exact List.getElem_mem hk
theorem hasRow_none {rows : List (List Val)} {row : List Val} {k : Nat} (h : NoneTo (fun r => sameRow r row) rows k) (hk : rows.length ≤ k) : hasRow rows row = false := by
  rw [hasRow, decide_eq_false_iff_not]
  intro hm
  obtain ⟨j, hj, e⟩ := List.getElem_of_mem hm
  have := h j hj (by omega)
  simp only [e, sameRow_eq rfl] at this
  cases this

theorem compareBytes_eq : ∀ {a b : List UInt8}, Lib.compareBytes a b = 0 → a = b
  | [], [], _ => rfl
  | [], _ :: _, h => by simp [Lib.compareBytes] at h
  | _ :: _, [], h => by simp [Lib.compareBytes] at h
  | x :: a, y :: b, h => by
    unfold Lib.compareBytes at h
    by_cases h1 : x < y
    · simp [h1] at h
    · by_cases h2 : y < x
      · simp [h1, h2] at h
      · simp only [h1, h2, if_false] at h
        have e : x = y := UInt8.le_antisymm (UInt8.not_lt.1 h2) (UInt8.not_lt.1 h1)
        rw [e, compareBytes_eq h]
theorem compareBytes_self : ∀ (a : List UInt8), Lib.compareBytes a a = 0
  | [] => by simp [Lib.compareBytes]
  | x :: a => by
    have := compareBytes_self a
    unfold Lib.compareBytes
    simp [UInt8.lt_irrefl, this]
theorem compareBytes_trans : ∀ {a b c : List UInt8}, Lib.compareBytes a b < 0 → Lib.compareBytes b c < 0 → Lib.compareBytes a c < 0
  | [], [], _, h, _ => by simp [Lib.compareBytes] at h
  | [], _ :: _, [], _, h => by simp [Lib.compareBytes] at h
  | [], _ :: _, _ :: _, _, _ => by simp [Lib.compareBytes]
  | _ :: _, [], _, h, _ => by simp [Lib.compareBytes] at h
  | _ :: _, _ :: _, [], _, h => by simp [Lib.compareBytes] at h
  | x :: a, y :: b, z :: c, h, h' => by
    unfold Lib.compareBytes at h h' ⊢
    by_cases h1 : x < y
    · by_cases h3 : y < z
      · simp [UInt8.lt_trans h1 h3]
      · by_cases h4 : z < y
        · simp [h3, h4] at h'
        · have e : y = z := UInt8.le_antisymm (UInt8.not_lt.1 h4) (UInt8.not_lt.1 h3)
          subst e; simp [h1]
    · by_cases h2 : y < x
      · simp [h1, h2] at h
      · have e : x = y := UInt8.le_antisymm (UInt8.not_lt.1 h2) (UInt8.not_lt.1 h1)
        subst e
        simp only [h1, if_false] at h
        by_cases h3 : x < z
        · simp [h3]
        · by_cases h4 : z < x
          · simp [h3, h4] at h'
          · simp only [h3, h4, if_false] at h' ⊢
            exact compareBytes_trans h h'

theorem valOk_zero {v : Val} (h : valOk v = true) (hs : v.s.toList.isEmpty = false) : v.n = 0 := by
  rw [valOk_word hs] at h
  simp only [Bool.and_eq_true, beq_iff_eq] at h
  exact h.1
theorem bytes_ext {a b : ByteArray} (h : a.data.toList = b.data.toList) : a = b := by
  obtain ⟨⟨a⟩⟩ := a
  obtain ⟨⟨b⟩⟩ := b
  simp at h; rw [h]
theorem bytes_empty {a : ByteArray} (h : a.toList.isEmpty = true) : a.data.toList = [] := by
  rw [ByteArray.toList_eq] at h
  simpa using h
theorem cmpVal_eq {a b : Val} (ha : valOk a = true) (hb : valOk b = true) (h : cmpVal a b = 0) : a = b := by
  obtain ⟨n, s⟩ := a
  obtain ⟨m, r⟩ := b
  unfold cmpVal at h
  cases h1 : s.toList.isEmpty <;> cases h2 : r.toList.isEmpty
  · simp only [h1, h2] at h
    have hn := valOk_zero ha h1
    have hm := valOk_zero hb h2
    have := bytes_ext (compareBytes_eq h)
    simp_all
  · simp [h1, h2] at h
  · simp [h1, h2] at h
  · simp only [h1, h2, if_true] at h
    have e : s = r := bytes_ext (by rw [bytes_empty h1, bytes_empty h2])
    have : n = m := by omega
    rw [e, this]
theorem cmpVal_self (a : Val) : cmpVal a a = 0 := by
  unfold cmpVal
  split
  · omega
  · exact compareBytes_self _
theorem cmpVal_trans {a b c : Val} (h : cmpVal a b < 0) (h' : cmpVal b c < 0) : cmpVal a c < 0 := by
  unfold cmpVal at *
  cases h1 : a.s.toList.isEmpty <;> cases h2 : b.s.toList.isEmpty <;> cases h3 : c.s.toList.isEmpty <;> simp only [h1, h2, h3, if_true, Bool.false_eq_true, if_false] at h h' ⊢ <;> first | omega | exact compareBytes_trans h h'

theorem cmpRow_self : ∀ a : List Val, cmpRow a a = 0
  | [] => rfl
  | x :: a => by unfold cmpRow; rw [if_pos (cmpVal_self x)]; exact cmpRow_self a
theorem cmpRow_eq : ∀ {a b : List Val}, (∀ v ∈ a, valOk v = true) → (∀ v ∈ b, valOk v = true) → cmpRow a b = 0 → a = b
  | [], [], _, _, _ => rfl
  | [], _ :: _, _, _, h => by simp [cmpRow] at h
  | _ :: _, [], _, _, h => by simp [cmpRow] at h
  | x :: a, y :: b, ha, hb, h => by
    unfold cmpRow at h
    by_cases hc : cmpVal x y = 0
    · rw [if_pos hc] at h
      rw [cmpVal_eq (ha x (by simp)) (hb y (by simp)) hc, cmpRow_eq (fun v hv => ha v (by simp [hv])) (fun v hv => hb v (by simp [hv])) h]
    · rw [if_neg hc] at h; exact absurd h hc
theorem cmpRow_trans : ∀ {a b c : List Val}, (∀ v ∈ a, valOk v = true) → (∀ v ∈ b, valOk v = true) → (∀ v ∈ c, valOk v = true) → cmpRow a b < 0 → cmpRow b c < 0 → cmpRow a c < 0
  | [], [], _, _, _, _, h, _ => by simp [cmpRow] at h
  | [], _ :: _, [], _, _, _, _, h => by simp [cmpRow] at h
  | [], _ :: _, _ :: _, _, _, _, _, _ => by simp [cmpRow]
  | _ :: _, [], _, _, _, _, h, _ => by simp [cmpRow] at h
  | _ :: _, _ :: _, [], _, _, _, _, h => by simp [cmpRow] at h
  | x :: a, y :: b, z :: c, ha, hb, hc, h, h' => by
    unfold cmpRow at h h' ⊢
    by_cases h1 : cmpVal x y = 0
    · have e := cmpVal_eq (ha x (by simp)) (hb y (by simp)) h1
      subst e
      rw [if_pos h1] at h
      by_cases h2 : cmpVal x z = 0
      · rw [if_pos h2] at h' ⊢
        exact cmpRow_trans (fun v hv => ha v (by simp [hv])) (fun v hv => hb v (by simp [hv])) (fun v hv => hc v (by simp [hv])) h h'
      · rw [if_neg h2] at h' ⊢; exact h'
    · rw [if_neg h1] at h
      by_cases h2 : cmpVal y z = 0
      · have e := cmpVal_eq (hb y (by simp)) (hc z (by simp)) h2
        subst e
        rw [if_neg h1]; exact h
      · rw [if_neg h2] at h'
        have h3 := cmpVal_trans h h'
        rw [if_neg (by omega)]; exact h3

/-- Rows of right values, each before the next. -/
def Sorted (rows : List (List Val)) : Prop := (∀ j (h : j < rows.length), ∀ v ∈ rows[j], valOk v = true) ∧ ∀ i j (hi : i < rows.length) (hj : j < rows.length), i < j → cmpRow rows[i] rows[j] < 0
theorem relOk_sorted {x : Relt} (h : relOk x = true) : Sorted x.rows := by
  have hr : relRows x.rows x.arity = true := by simp only [relOk, Bool.and_eq_true] at h; exact h.1
  have hg := relRows_good hr
  have hok : ∀ j (h : j < x.rows.length), ∀ v ∈ x.rows[j], valOk v = true := fun j hj => rowOk_vals (hg.row hj hj)
  refine ⟨hok, ?_⟩
  intro i j hi hj hij
  induction j with
  | zero => omega
  | succ j ih =>
    have hs : cmpRow x.rows[j] x.rows[j + 1] < 0 := by
      have := hg (j + 1) hj hj
      simp only [rowAt, Bool.and_eq_true, decide_eq_true_eq] at this
      exact this.2
    rcases Nat.lt_or_ge i j with h1 | h1
    · exact cmpRow_trans (hok i hi) (hok j (by omega)) (hok (j + 1) hj) (ih (by omega) h1) hs
    · obtain rfl : i = j := by omega
      exact hs

/-- Everything ahead of i stands before the row; nothing from j on does. -/
def Between (rows : List (List Val)) (row : List Val) (i j : Nat) : Prop :=
  (∀ t (h : t < rows.length), t < i → cmpRow rows[t] row < 0) ∧ ∀ t (h : t < rows.length), j ≤ t → ¬ cmpRow rows[t] row < 0
theorem Between.start {rows : List (List Val)} {row : List Val} : Between rows row 0 rows.length := ⟨fun _ _ h => absurd h (by omega), fun _ h h' => absurd h (by omega)⟩
theorem Between.right {rows : List (List Val)} {row : List Val} {i j h : Nat} (hs : Sorted rows) (hr : ∀ v ∈ row, valOk v = true) (H : Between rows row i j) (hh : h < rows.length) (hc : cmpRow rows[h] row < 0) : Between rows row (h + 1) j :=
  ⟨fun t ht hth => by
    rcases Nat.lt_or_ge t h with h1 | h1
    · exact cmpRow_trans (hs.1 t ht) (hs.1 h hh) hr (hs.2 t h ht hh h1) hc
    · obtain rfl : t = h := by omega
      exact hc, H.2⟩
theorem Between.left {rows : List (List Val)} {row : List Val} {i j h : Nat} (hs : Sorted rows) (hr : ∀ v ∈ row, valOk v = true) (H : Between rows row i j) (hh : h < rows.length) (hc : ¬ cmpRow rows[h] row < 0) : Between rows row i h :=
  ⟨H.1, fun t ht hth hlt => by
    rcases Nat.lt_or_ge h t with h1 | h1
    · exact hc (cmpRow_trans (hs.1 h hh) (hs.1 t ht) hr (hs.2 h t hh ht h1) hlt)
    · obtain rfl : t = h := by omega
      exact hc hlt⟩
/-- The place of a row in a right relation, or where it would be. -/
def pos (rows : List (List Val)) (row : List Val) : Nat := rows.findIdx fun r => !decide (cmpRow r row < 0)
theorem Between.pos {rows : List (List Val)} {row : List Val} {i : Nat} (hi : i ≤ rows.length) (H : Between rows row i i) : pos rows row = i := by
  unfold Proofs.YtibhoanjglfaoaaGreat.pos
  rcases Nat.lt_or_ge i rows.length with h1 | h1
  · rw [List.findIdx_eq h1]
    exact ⟨by simpa using H.2 i h1 (Nat.le_refl _), fun j hj => by simpa using H.1 j (by omega) hj⟩
  · obtain rfl : i = rows.length := by omega
    rw [List.findIdx_eq_length]
    intro r hr
    obtain ⟨j, hj, rfl⟩ := List.getElem_of_mem hr
    simpa using H.1 j hj hj
theorem Between.has {rows : List (List Val)} {row : List Val} {i : Nat} (hs : Sorted rows) (hr : ∀ v ∈ row, valOk v = true) (hi : i < rows.length) (H : Between rows row i i) : hasRow rows row = (cmpRow rows[i] row == 0) := by
  rw [hasRow]
  by_cases hc : cmpRow rows[i] row = 0
  · have e := cmpRow_eq (hs.1 i hi) hr hc
    have : row ∈ rows := by rw [← e]; exact List.getElem_mem hi
    simp [hc, this]
  · have : row ∉ rows := by
      intro hm
      obtain ⟨j, hj, e⟩ := List.getElem_of_mem hm
      have h0 : cmpRow rows[j] row = 0 := by rw [e]; exact cmpRow_self _
      have h1 : i ≤ j := by
        rcases Nat.lt_or_ge j i with h | h
        · have := H.1 j hj h; omega
        · exact h
      rcases Nat.lt_or_ge i j with h2 | h2
      · have := hs.2 i j hi hj h2
        rw [e] at this
        exact H.2 i hi (Nat.le_refl _) this
      · obtain rfl : i = j := by omega
        exact hc h0
    simp [hc, this]
theorem Between.hasNot {rows : List (List Val)} {row : List Val} (H : Between rows row rows.length rows.length) : hasRow rows row = false := by
  rw [hasRow, decide_eq_false_iff_not]
  intro hm
  obtain ⟨j, hj, e⟩ := List.getElem_of_mem hm
  have := H.1 j hj hj
  rw [e, cmpRow_self] at this
  omega
end Go.Proofs.YtibhoanjglfaoaaGreat

/- Like relations, in plain words. -/
namespace Go.Proofs.YtibhoanjglfaoaaGreat
open Go.RowKit
set_option linter.unusedVariables false

theorem take_more {α : Type} {xs : List α} {k : Nat} (hk : k < xs.length) : xs.take k ++ [xs[k]] = xs.take (k + 1) := (List.take_succ_eq_append_getElem hk).symm
theorem take_none {α : Type} {xs : List α} : ([] : List α) = xs.take 0 := rfl
def LikeTo {α : Type} (xs ys : List α) (k : Nat) : Prop := ∀ j (h : j < xs.length) (h' : j < ys.length), j < k → xs[j] = ys[j]
theorem LikeTo.zero {α : Type} {xs ys : List α} : LikeTo xs ys 0 := fun _ _ _ h => absurd h (by omega)
theorem LikeTo.succ {α : Type} {xs ys : List α} {k : Nat} (h : LikeTo xs ys k) (hk : k < xs.length) (hk' : k < ys.length) (hs : xs[k] = ys[k]) : LikeTo xs ys (k + 1) := fun j hj hj' hjk => by
  rcases Nat.lt_or_ge j k with h1 | h1
  · exact h j hj hj' h1
  · obtain rfl : j = k := by omega
    exact hs
theorem LikeTo.eq {α : Type} {xs ys : List α} {k : Nat} (hl : xs.length = ys.length) (hk : xs.length ≤ k) (h : LikeTo xs ys k) : xs = ys :=
  List.ext_getElem hl fun j h1 h2 => h j h1 h2 (by omega)
theorem sameRow_iff {a b : List Val} : sameRow a b = true ↔ a = b := by simp [sameRow]
theorem sameRow_ne {a b : List Val} (h : sameRow a b = false) : a ≠ b := by simpa [sameRow] using h
def sameRows (a b : List (List Val)) : Bool := decide (a = b)
theorem sameRows_len {a b : List (List Val)} (h : ¬ a.length = b.length) : sameRows a b = false := decide_eq_false fun e => h (by rw [e])
theorem sameRows_at {a b : List (List Val)} {k : Nat} (hk : k < a.length) (hk' : k < b.length) (hs : sameRow a[k] b[k] = false) : sameRows a b = false := decide_eq_false fun e => by subst e; exact sameRow_ne hs rfl
theorem sameRows_eq {a b : List (List Val)} (h : a = b) : sameRows a b = true := decide_eq_true h
/-- Two right relations of one arity. -/
def two (a b : Relt) : Bool := relOk a && (relOk b && (a.arity == b.arity))
theorem two_a {a b : Relt} (h : relOk a = false) : two a b = false := by simp [two, h]
theorem two_b {a b : Relt} (h : relOk b = false) : two a b = false := by simp [two, h]
theorem two_ok {a b : Relt} (h : relOk a = true) (h' : relOk b = true) : two a b = (a.arity == b.arity) := by simp [two, h, h']
theorem two_left {a b : Relt} (h : two a b = true) : relOk a = true := by simp only [two, Bool.and_eq_true] at h; exact h.1
theorem two_right {a b : Relt} (h : two a b = true) : relOk b = true := by simp only [two, Bool.and_eq_true] at h; exact h.2.1
def likeRel (a b : Relt) : Bool := a.arity == b.arity && sameRows a.rows b.rows
def sameRel (a b : Relt) : Bool := two a b && sameRows a.rows b.rows
theorem sameRel_two {a b : Relt} (h : two a b = false) : sameRel a b = false := by simp [sameRel, h]
theorem sameRel_rows {a b : Relt} (h : sameRows a.rows b.rows = false) : sameRel a b = false := by simp [sameRel, h]
theorem sameRel_yes {a b : Relt} (h : two a b = true) (h' : sameRows a.rows b.rows = true) : sameRel a b = true := by simp [sameRel, h, h']
theorem sameRel_like {a b : Relt} (h : relOk a = true) (h' : relOk b = true) : sameRel a b = likeRel a b := by simp [sameRel, two_ok h h', likeRel]
theorem two_vals {a b : Relt} (h : two a b = true) : ∀ r ∈ a.rows, ∀ v ∈ r, valOk v = true := fun r hr v hv => by
  obtain ⟨j, hj, rfl⟩ := List.getElem_of_mem hr
  exact (relOk_sorted (two_left h)).1 j hj v hv
end Go.Proofs.YtibhoanjglfaoaaGreat

/- Marks: own data written anew in place, cell by cell. -/
namespace Go.Proofs.YtibhoanjglfaoaaGreat
open Go.RowKit
set_option linter.unusedVariables false

/-- Of the blocks that stood, only those named may have turned; they may still be written. -/
structure Only (bs : List Nat) (w w' : World) : Prop where
  os : w'.os = w.os
  tape : w'.tape = w.tape
  output : w'.output = w.output
  size : w.heap.size ≤ w'.heap.size
  keep : ∀ b, b < w.heap.size → b ∉ bs → w'.heap[b]? = w.heap[b]?
  shape : ∀ b ∈ bs, ∀ c t, w.heap[b]? = some (.cells c t (0, 0)) → ∃ c', w'.heap[b]? = some (.cells c' t (0, 0)) ∧ c'.size = c.size
theorem Only.refl (bs : List Nat) (w : World) : Only bs w w := ⟨rfl, rfl, rfl, Nat.le_refl _, fun _ _ _ => rfl, fun _ _ c t h => ⟨c, h, rfl⟩⟩
theorem Only.trans {bs : List Nat} {w w1 w2 : World} (h : Only bs w w1) (h' : Only bs w1 w2) : Only bs w w2 :=
  ⟨h'.os.trans h.os, h'.tape.trans h.tape, h'.output.trans h.output, Nat.le_trans h.size h'.size, fun b hb hn => (h'.keep b (Nat.lt_of_lt_of_le hb h.size) hn).trans (h.keep b hb hn), fun b hb c t hc => by
    obtain ⟨c1, h1, z1⟩ := h.shape b hb c t hc
    obtain ⟨c2, h2, z2⟩ := h'.shape b hb c1 t h1
    exact ⟨c2, h2, z2.trans z1⟩⟩
theorem Only.below {bs : List Nat} {w w' : World} (h : Below w.heap.size w w') : Only bs w w' :=
  ⟨h.os, h.tape, h.output, h.size, fun b hb _ => h.block b hb, fun b hb c t hc => ⟨c, (h.block b (Array.getElem?_eq_some_iff.1 hc).1).trans hc, rfl⟩⟩
theorem Only.mono {bs bs' : List Nat} {w w' : World} (h : Only bs' w w') (hs : ∀ b ∈ bs', b ∈ bs) : Only bs w w' :=
  ⟨h.os, h.tape, h.output, h.size, fun b hb hn => h.keep b hb fun hm => hn (hs b hm), fun b hb c t hc => by
    by_cases hm : b ∈ bs'
    · exact h.shape b hm c t hc
    · exact ⟨c, (h.keep b (Array.getElem?_eq_some_iff.1 hc).1 hm).trans hc, rfl⟩⟩
theorem Fresh.only {lo : Nat} {bs bs' : List Nat} {w w' : World} (h : Fresh lo w bs) (o : Only bs' w w') : Fresh lo w' bs :=
  ⟨h.1, fun b hb => by
    obtain ⟨h1, c, t, hc⟩ := h.2 b hb
    by_cases hm : b ∈ bs'
    · obtain ⟨c', h2, _⟩ := o.shape b hm c t hc
      exact ⟨h1, c', t, h2⟩
    · exact ⟨h1, c, t, (o.keep b (Array.getElem?_eq_some_iff.1 hc).1 hm).trans hc⟩⟩
theorem Enc.only {α : Type} {e : Enc α} {cs : List Value} {x : α} {b bs : List Nat} {w w' : World} (h : e.rep w cs x b) (o : Only bs w w') (hd : ∀ c ∈ b, c ∉ bs) : e.rep w' cs x b :=
  e.keep h (fun c hc => o.keep c (e.lt h c hc) (hd c hc)) o.size
theorem Below.only {lo : Nat} {bs : List Nat} {w0 w w' : World} (h : Below lo w0 w) (o : Only bs w w') (hl : ∀ b ∈ bs, lo ≤ b) (hlo : lo ≤ w.heap.size) : Below lo w0 w' :=
  ⟨o.os.trans h.os, o.tape.trans h.tape, o.output.trans h.output, Nat.le_trans h.size o.size, fun b hb => (o.keep b (by omega) fun hm => by have := hl b hm; omega).trans (h.block b hb)⟩
theorem Only.setCell {bs : List Nat} {w : World} {g : Nat} (hg : g ∈ bs) (o : Nat) (v : Value) : Only bs w (w.setCell ⟨g, o, none⟩ v) :=
  ⟨rfl, rfl, rfl, by simp [World.setCell], fun b hb hn => Below.heap_setCell w _ _ b (fun e => hn (by rw [e]; exact hg)), fun b hb c t hc => by
    by_cases e : b = g
    · subst e
      exact ⟨c.setIfInBounds o v, by simp [World.setCell, Array.getElem?_modify, hc], by simp⟩
    · exact ⟨c, (Below.heap_setCell w ⟨g, o, none⟩ v b e).trans hc, rfl⟩⟩

theorem FR.keepM {w w' : World} : ∀ {vs : List Value} {cs : List Cell} {b : List Nat}, FR w vs cs b → (∀ x ∈ b, w'.heap[x]? = w.heap[x]?) → w.heap.size ≤ w'.heap.size → FR w' vs cs b
  | [], [], b, h, _, _ => h
  | v :: vs, c :: cs, b, h, hk, hs => by
    obtain ⟨b1, b2, rfl, h1, h2⟩ := h
    refine ⟨b1, b2, rfl, ?_, FR.keepM h2 (fun x hx => hk x (List.mem_append_right _ hx)) hs⟩
    cases c with
    | c u => exact h1
    | sl e xs =>
      obtain ⟨a, n, cap, h3, h4⟩ := h1
      exact ⟨a, n, cap, h3, h4.keep (fun x hx => hk x (List.mem_append_left _ hx)) hs⟩
    | rx e x us b j =>
      obtain ⟨h3, h4, rfl⟩ := h1
      exact ⟨h3, e.keep h4 (fun x hx => hk x (List.mem_append_left _ hx)) hs, rfl⟩
    | _ => exact h1.elim
theorem FR.get_c {w : World} : ∀ {vs : List Value} {cs : List Cell} {b : List Nat} {i : Nat} {u : Value}, FR w vs cs b → cs[i]? = some (.c u) → vs[i]? = some u
  | [], [], b, i, u, _, h => by simp at h
  | v :: vs, c :: cs, b, 0, u, h, hi => by
    obtain ⟨b1, b2, rfl, h1, h2⟩ := h
    simp only [List.getElem?_cons_zero, Option.some.injEq] at hi
    subst hi
    simp [h1.1]
  | v :: vs, c :: cs, b, i + 1, u, h, hi => by
    obtain ⟨b1, b2, rfl, h1, h2⟩ := h
    simpa using FR.get_c h2 (by simpa using hi)
theorem FR.set_c {w : World} : ∀ {vs : List Value} {cs : List Cell} {b : List Nat} {i : Nat} {u v : Value}, FR w vs cs b → cs[i]? = some (.c u) → wfV v → FR w (vs.set i v) (cs.set i (.c v)) b
  | [], [], b, i, u, v, _, h, _ => by simp at h
  | y :: vs, c :: cs, b, 0, u, v, h, hi, hv => by
    obtain ⟨b1, b2, rfl, h1, h2⟩ := h
    simp only [List.getElem?_cons_zero, Option.some.injEq] at hi
    subst hi
    obtain rfl := h1.2.2
    exact ⟨[], b2, rfl, ⟨rfl, hv, rfl⟩, h2⟩
  | y :: vs, c :: cs, b, i + 1, u, v, h, hi, hv => by
    obtain ⟨b1, b2, rfl, h1, h2⟩ := h
    exact ⟨b1, b2, rfl, h1, FR.set_c h2 (by simpa using hi) hv⟩
section
variable {α : Type} {e : Enc α} {f : α → List Cell} [he : CellsOf e f] {w : World} {lo g off n cap k : Nat} {xs : List α} {bs : List Nat}
/-- A plain cell of element k written anew. -/
theorem SliceRep.put (h : SliceRep e w (some ⟨g, off, none⟩) n cap xs bs) (hF : Fresh lo w bs) {x0 : α} (hx0 : xs[k]? = some x0) (c : Nat) {u : Value} (v : Value) (x' : α) (h0 : (f x0)[c]? = some (.c u)) (hv : wfV v) (hx : f x' = (f x0).set c (.c v)) :
    SliceRep e (w.setCell ⟨g, off + k * e.size + c, none⟩ v) (some ⟨g, off, none⟩) n cap (xs.set k x') bs ∧ Only bs w (w.setCell ⟨g, off + k * e.size + c, none⟩ v) := by
  obtain ⟨hk, rfl⟩ := List.getElem?_eq_some_iff.1 hx0
  have hne : xs ≠ [] := by intro e; subst e; simp at hk
  obtain ⟨g', off', bss, ha, hg, rfl, hE⟩ := h.parts hne
  simp only [Option.some.injEq, Addr.mk.injEq, and_true] at ha
  obtain ⟨rfl, rfl⟩ := ha
  have hkb : k < bss.length := by rw [hE.1]; exact hk
  have hnd : g ∉ bss.flatten ∧ bss.flatten.Nodup := List.nodup_cons.1 hF.1
  obtain ⟨_, ca, t, hblk⟩ := hF.2 g (List.mem_cons_self ..)
  obtain ⟨cs, hr, hcs⟩ := hE.2 k xs[k] bss[k] (List.getElem?_eq_getElem hk) (List.getElem?_eq_getElem hkb)
  have hfr := he.iff.1 hr
  have hcu := FR.get_c hfr h0
  have hc : c < e.size := by rw [← e.len hr]; exact (List.getElem?_eq_some_iff.1 hcu).1
  have hin := hcs c u hcu
  have hO : Only (g :: bss.flatten) w (w.setCell ⟨g, off + k * e.size + c, none⟩ v) := Only.setCell (List.mem_cons_self ..) _ _
  have hfl : ∀ x ∈ bss.flatten, (w.setCell ⟨g, off + k * e.size + c, none⟩ v).heap[x]? = w.heap[x]? := fun x hx => Below.heap_setCell w _ _ x (fun e => hnd.1 (by rw [← show x = g from e]; exact hx))
  have hbk : ∀ x ∈ bss[k], (w.setCell ⟨g, off + k * e.size + c, none⟩ v).heap[x]? = w.heap[x]? := fun x hx => hfl x (List.mem_flatten.2 ⟨_, List.getElem_mem hkb, hx⟩)
  have hr' : e.rep (w.setCell ⟨g, off + k * e.size + c, none⟩ v) (cs.set c v) x' bss[k] := he.iff.2 (by rw [hx]; exact (hfr.set_c h0 hv).keepM hbk hO.size)
  have hE' := hE.upd (k := k) (x' := x') hr' (fun j u' hu => ?_) (fun i hi => ?_) (fun i b hik hb x hx => hfl x (List.mem_flatten.2 ⟨b, List.mem_of_getElem? hb, hx⟩)) hO.size
  · rw [List.set_getElem_self] at hE'
    exact ⟨SliceRep.mk (by simpa using h.1) h.2.1 h.2.2.1 (by intro e; simp at e; exact hne e) (Nat.lt_of_lt_of_le hg hO.size) hE', hO⟩
  · by_cases ej : j = c
    · subst ej
      rw [List.getElem?_set_self (by rw [e.len hr]; exact hc)] at hu
      cases hu
      exact World.cell?_setCell_same _ _ _ hin
    · rw [List.getElem?_set_ne (Ne.symm ej)] at hu
      rw [World.cell?_setCell_other w _ _ v (fun e => ej (by injection e with _ e; omega))]
      exact hcs j u' hu
  · exact World.cell?_setCell_other w _ _ v (fun e => by injection e with _ e; rw [Nat.add_mul] at hi; omega)
end

/-! ### The same, element k named -/
section
variable {α : Type} {e : Enc α} {f : α → List Cell} [he : CellsOf e f] {w : World} {lo g off n cap k : Nat} {ys : List α} {bs : List Nat}
end
/-! ### Lists -/
section
variable {α : Type} (f : α → Int → α × Int)
end
end Go.Proofs.YtibhoanjglfaoaaGreat

/- The laws' markText: a text for a number. -/
namespace Go.Proofs.YtibhoanjglfaoaaGreat
open Go.RowKit
set_option linter.unusedVariables false

end Go.Proofs.YtibhoanjglfaoaaGreat

/- Contracts that were walked before, said for the abstract walk. -/
namespace Go.Proofs.YtibhoanjglfaoaaGreat
open Go.RowKit
set_option linter.unusedVariables false
set_option maxRecDepth 100000

/-- What tidies the truth of a test. -/
theorem tdy : (∀ (p : Prop) [Decidable p], (decide p = true) = p) ∧ (∀ (p : Prop) [Decidable p], (decide p = false) = ¬ p) ∧ (∀ b : Bool, (¬ b = true) = (b = false)) ∧ (∀ b : Bool, (¬ b = false) = (b = true)) ∧ (∀ b : Bool, ((!b) = true) = (b = false)) ∧ (∀ b : Bool, ((!b) = false) = (b = true)) ∧
    (∀ {α : Type} [BEq α] [LawfulBEq α] (a b : α), ((a == b) = true) = (a = b)) ∧ (∀ {α : Type} [BEq α] [LawfulBEq α] (a b : α), ((a != b) = true) = (a ≠ b)) ∧ (∀ {α : Type} [BEq α] [LawfulBEq α] (a b : α), ((a == b) = false) = ¬ (a = b)) ∧ (∀ {α : Type} [BEq α] [LawfulBEq α] (a b : α), ((a != b) = false) = (a = b)) ∧
    (∀ a b : Int, (¬ a < b) = (b ≤ a)) ∧ (∀ a b : Int, (¬ a ≤ b) = (b < a)) ∧ (∀ a b : Int, (a ≥ b) = (b ≤ a)) ∧ (∀ a b : Int, (a > b) = (b < a)) ∧ (∀ a b : Nat, (a ≥ b) = (b ≤ a)) ∧ (∀ a b : Nat, (a > b) = (b < a)) :=
  ⟨fun p _ => by simp, fun p _ => by simp, fun b => by simp, fun b => by simp, fun b => by simp, fun b => by simp, fun a b => by simp, fun a b => by simp, fun a b => by simp, fun a b => by simp, fun a b => by simp, fun a b => by simp, fun a b => rfl, fun a b => rfl, fun a b => rfl, fun a b => rfl⟩
theorem Step.of_below {g : Gh} {w w' : World} (h : Below w.heap.size w w') : Step (keys ([] : Locs)) g [] w g [] w' :=
  ⟨h.os, h.tape, h.output, h.size, fun b hb _ => h.block b hb, fun _ h => h, fun _ h => .inl h, fun b ⟨k, blk, hk, _⟩ => (by simp [lkl, lk] at hk), fun k hk => (by cases hk)⟩
theorem MemR.of_below {g : Gh} {w w' : World} (m : MemR g [] w) (h : Below w.heap.size w w') : MemR g [] w' :=
  ⟨fun b hb => Nat.lt_of_lt_of_le (m.ilt b hb) h.size, fun k cs hk => (by simp [lkl, lk] at hk), fun k α T e xs d hk => (by simp [lkl, lk] at hk), fun j k b b' _ hj => (by simp [lkl, lk] at hj), fun k α T e xs hk => (by simp [lkl, lk] at hk), fun j k α β T U e f xs ys _ hj => (by simp [lkl, lk] at hj)⟩
theorem AC.pure {P : Program} {f : FuncId} {args : List AVal} {v : Value} (hc : Callable P f) (hw : wfV v) (h : ∀ (w : World) (g : Gh) (cargs : Array Value), All2 (VR1 g [] w) cargs.toList args → Calls P f cargs w fun e w' => e = .returned v ∧ Below w.heap.size w w') : AC P f args [] (.one (.c v)) [] :=
  ⟨hc, fun g w cargs m ha => (h w g cargs ha).mono fun e w' ⟨he, hb⟩ => ⟨v, g, he, m.of_below hb, ⟨rfl, hw⟩, Step.of_below hb⟩⟩
theorem below_eq {w w' : World} (h : w = w') : Below w.heap.size w w' := by subst h; exact Below.refl _ _

section
variable {g : Gh} {l : Locs} {w : World}
theorem inv1 {R : Value → AVal → Prop} {a : Array Value} {x : AVal} (h : All2 R a.toList [x]) : ∃ v, a = #[v] ∧ R v x := by
  obtain ⟨a⟩ := a
  match a, h with
  | [v], h => exact ⟨v, rfl, h.1⟩
theorem inv2 {R : Value → AVal → Prop} {a : Array Value} {x y : AVal} (h : All2 R a.toList [x, y]) : ∃ u v, a = #[u, v] ∧ R u x ∧ R v y := by
  obtain ⟨a⟩ := a
  match a, h with
  | [u, v], h => exact ⟨u, v, rfl, h.1, h.2.1⟩
theorem inv_row {v : Value} {r : List Val} (h : VR1 g l w v (.agg (rowC r))) : ∃ a n cap bs, v = .agg #[.slice a n cap] ∧ SliceRep valE w a n cap r bs := by
  obtain ⟨vs, e1, e2⟩ := h
  match vs, e2 with
  | [x], ⟨⟨a, n, cap, bs, f1, f2, _⟩, _⟩ => subst f1; exact ⟨a, n, cap, bs, e1, f2⟩
theorem inv_c {v u : Value} (h : VR1 g l w v (.one (.c u))) : v = u ∧ wfV u := h
end

def relC (r : Relt) : List Cell := [.c (.int .i64 r.arity), .sl rowE r.rows]
instance : CellsOf relE relC := ⟨fun {w vs x b} => by
  rw [Rel_rep]
  constructor
  · rintro ⟨a, n, cap, sb, rfl, h1, h2, rfl⟩; exact ⟨[], _, rfl, ⟨rfl, h1, rfl⟩, b, [], by simp, ⟨a, n, cap, rfl, h2⟩, rfl⟩
  · intro h
    match vs, h with
    | [u, v], ⟨b1, b2, hb, ⟨h1, h2, h3⟩, b3, b4, hb', ⟨a, n, cap, h4, h5⟩, h7⟩ =>
      simp only [FR] at h7
      subst h3; subst h7; subst h1; subst h4; subst hb'
      exact ⟨a, n, cap, b3, rfl, h2, h5, by simpa using hb⟩⟩
theorem rowOkI_c (r : List Val) : AC Tryz.prog 141 [.agg (rowC r)] [] (.one (.c (.bool (rowOk r)))) [] :=
  AC.pure ⟨_, _, Tryz.func141, rfl, rfl⟩ trivial fun w g cargs h => by
    obtain ⟨x, rfl, h1⟩ := inv1 h
    obtain ⟨a, n, cap, bs, rfl, hs⟩ := inv_row h1
    exact rowOkI_any a n cap r bs w hs
theorem rowOkS_c (r : List Val) : AC Tryz.prog 138 [.agg (rowC r)] [] (.one (.c (.bool (rowOk r)))) [] :=
  AC.pure ⟨_, _, Tryz.func138, rfl, rfl⟩ trivial fun w g cargs h => by
    obtain ⟨x, rfl, h1⟩ := inv1 h
    obtain ⟨a, n, cap, bs, rfl, hs⟩ := inv_row h1
    exact rowOkS_any a n cap r bs w hs
theorem ord09_range (xs ys : List Val) : -1 ≤ ord09 xs ys ∧ ord09 xs ys ≤ 1 := by rw [ord09_eq]; omega
theorem rowOrder_range (xs ys : List Val) : -1 ≤ rowOrder xs ys ∧ rowOrder xs ys ≤ 2 := by
  have := ord09_range xs ys
  unfold rowOrder; split <;> omega
theorem byRow_c (a b : List Val) (ha : ∀ v ∈ a, valOk v = true) (hb : ∀ v ∈ b, valOk v = true) : AC Tryz.prog 82 [.agg (rowC a), .agg (rowC b)] [] (.one (.c (.int .i64 (cmpRow a b)))) [] :=
  AC.pure ⟨_, _, Tryz.func82, rfl, rfl⟩ (WalkArith.wf_i64 (by have := cmpRow_range a b ha hb; omega)) fun w g cargs h => by
    obtain ⟨x, y, rfl, h1, h2⟩ := inv2 h
    obtain ⟨a1, n1, cap1, bs1, rfl, hs1⟩ := inv_row h1
    obtain ⟨a2, n2, cap2, bs2, rfl, hs2⟩ := inv_row h2
    exact byRow_any a1 n1 cap1 a bs1 a2 n2 cap2 b bs2 w hs1 hs2 ha hb
theorem rowOrderS_c (a b : List Val) : AC Tryz.prog 139 [.agg (rowC a), .agg (rowC b)] [] (.one (.c (.int .i64 (rowOrder a b)))) [] :=
  AC.pure ⟨_, _, Tryz.func139, rfl, rfl⟩ (WalkArith.wf_i64 (by have := rowOrder_range a b; omega)) fun w g cargs h => by
    obtain ⟨x, y, rfl, h1, h2⟩ := inv2 h
    obtain ⟨a1, n1, cap1, bs1, rfl, hs1⟩ := inv_row h1
    obtain ⟨a2, n2, cap2, bs2, rfl, hs2⟩ := inv_row h2
    exact rowOrderS_any a1 n1 cap1 a bs1 a2 n2 cap2 b bs2 w hs1 hs2
end Go.Proofs.YtibhoanjglfaoaaGreat

/- The laws' marks: MarkA (printed by genmark.py) -/
namespace Go.Proofs.YtibhoanjglfaoaaGreat
open Go.RowKit
set_option linter.unusedVariables false
set_option linter.unusedSimpArgs false
set_option maxRecDepth 100000

end Go.Proofs.YtibhoanjglfaoaaGreat

/- Sizes of data (printed by mktot.py) -/
namespace Go.Proofs.YtibhoanjglfaoaaGreat
open Go.RowKit
set_option linter.unusedVariables false

end Go.Proofs.YtibhoanjglfaoaaGreat

/- Plain laws on relations that are copied, marked, counted. -/
namespace Go.Proofs.YtibhoanjglfaoaaGreat
open Go.RowKit
set_option linter.unusedVariables false

theorem small_filter {a : Relt} (p : List Val → Bool) (n : Int) (h : smallRel a) : smallRel ⟨n, a.rows.filter p⟩ :=
  ⟨Nat.le_trans (List.length_filter_le _ _) h.1, fun x hx => h.2 x (List.mem_filter.1 hx).1⟩
end Go.Proofs.YtibhoanjglfaoaaGreat

/- RelPick, RelDrop in plain words. -/
namespace Go.Proofs.YtibhoanjglfaoaaGreat
open Go.RowKit
set_option linter.unusedVariables false

theorem relOk_parts {r : Relt} (h : relOk r = true) : GoodTo r.rows r.arity r.rows.length ∧ 0 ≤ r.arity ∧ r.arity ≤ 6 ∧ r.rows.length ≤ 300 := by
  simp only [relOk, Bool.and_eq_true, decide_eq_true_eq] at h
  exact ⟨relRows_good h.1, h.2.1.1, h.2.1.2, h.2.2⟩
theorem GoodTo.len {rows : List (List Val)} {ar : Int} {k j : Nat} (h : GoodTo rows ar k) (hj : j < rows.length) (hjk : j < k) : (rows[j].length : Int) = ar := by
  have := h j hj hjk
  cases j with
  | zero => simp only [rowAt, Bool.and_eq_true, beq_iff_eq] at this; exact this.2
  | succ j => simp only [rowAt, Bool.and_eq_true, beq_iff_eq] at this; exact this.1.2
theorem relOk_ar {r : Relt} (h : relOk r = true) {k : Nat} (hk : k < r.rows.length) : (r.rows[k].length : Int) = r.arity := (relOk_parts h).1.len hk hk
theorem relOk_row {r : Relt} (h : relOk r = true) {k : Nat} (hk : k < r.rows.length) : rowOk r.rows[k] = true := (relOk_parts h).1.row hk hk
end Go.Proofs.YtibhoanjglfaoaaGreat

/- A row put into a relation, or taken out, in plain words. -/
namespace Go.Proofs.YtibhoanjglfaoaaGreat
open Go.RowKit
set_option linter.unusedVariables false
set_option linter.unusedSimpArgs false

theorem cmpRow_neg : ∀ a b : List Val, cmpRow a b = - cmpRow b a
  | [], [] => rfl
  | [], _ :: _ => rfl
  | _ :: _, [] => rfl
  | x :: xs, y :: ys => by
    have h1 := cmpVal_neg x y
    have h2 := cmpRow_neg xs ys
    unfold cmpRow
    by_cases h : cmpVal x y = 0
    · have h' : cmpVal y x = 0 := by omega
      rw [if_pos h, if_pos h', h2]
    · have h' : ¬ cmpVal y x = 0 := by omega
      rw [if_neg h, if_neg h', h1]
theorem ord09_lt {a b : List Val} : ord09 a b = -1 ↔ cmpRow a b < 0 := by rw [ord09_eq]; omega
theorem orderS_c (a b : List Val) : AC Tryz.prog 78 [.agg (rowC a), .agg (rowC b)] [] (.one (.c (.int .i64 (ord09 a b)))) [] :=
  AC.pure ⟨_, _, Tryz.func78, rfl, rfl⟩ (WalkArith.wf_i64 (by have := ord09_range a b; omega)) fun w g cargs h => by
    obtain ⟨x, y, rfl, h1, h2⟩ := inv2 h
    obtain ⟨a1, n1, cap1, bs1, rfl, hs1⟩ := inv_row h1
    obtain ⟨a2, n2, cap2, bs2, rfl, hs2⟩ := inv_row h2
    exact l09Order_any a1 n1 cap1 a bs1 a2 n2 cap2 b bs2 w hs1 hs2
theorem pos_le (rows : List (List Val)) (row : List Val) : pos rows row ≤ rows.length := List.findIdx_le_length
theorem pos_lt {rows : List (List Val)} {row : List Val} {k : Nat} (hk : k < rows.length) (h : k < pos rows row) : cmpRow rows[k] row < 0 := by
  unfold pos at h
  have := List.not_of_lt_findIdx h
  simpa using this
theorem pos_ge {rows : List (List Val)} {row : List Val} (hs : Sorted rows) (hr : ∀ v ∈ row, valOk v = true) {k : Nat} (hk : k < rows.length) (h : pos rows row ≤ k) : ¬ cmpRow rows[k] row < 0 := by
  have hp : pos rows row < rows.length := by omega
  have h0 : ¬ cmpRow (rows[pos rows row]'hp) row < 0 := by
    have := List.findIdx_getElem (xs := rows) (p := fun r => !decide (cmpRow r row < 0)) (w := hp)
    have t : (!decide (cmpRow (rows[pos rows row]'hp) row < 0)) = true := this
    simpa using t
  intro hlt
  rcases Nat.lt_or_ge (pos rows row) k with h1 | h1
  · exact h0 (cmpRow_trans (hs.1 _ hp) (hs.1 k hk) hr (hs.2 _ k hp hk h1) hlt)
  · have : k = pos rows row := by omega
    subst this; exact h0 hlt
theorem no_pos {rows : List (List Val)} {row : List Val} (hs : Sorted rows) (hr : ∀ v ∈ row, valOk v = true) (h : hasRow rows row = false) {k : Nat} (hk : k < rows.length) (hpk : pos rows row ≤ k) : cmpRow row rows[k] < 0 := by
  have h1 := pos_ge hs hr hk hpk
  have h2 : cmpRow rows[k] row ≠ 0 := fun e => by
    have e2 := cmpRow_eq (hs.1 k hk) hr e
    rw [hasRow, decide_eq_false_iff_not] at h
    exact h (e2 ▸ List.getElem_mem hk)
  rw [cmpRow_neg]; omega
def insAt (rows : List (List Val)) (row : List Val) : List (List Val) := rows.take (pos rows row) ++ [row] ++ rows.drop (pos rows row)
def putRow (rows : List (List Val)) (row : List Val) : List (List Val) := if hasRow rows row = true then rows else insAt rows row
theorem putRow_has {rows : List (List Val)} {row : List Val} (h : hasRow rows row = true) : putRow rows row = rows := if_pos h
theorem putRow_no {rows : List (List Val)} {row : List Val} (h : hasRow rows row = false) : putRow rows row = insAt rows row := if_neg (by simp [h])
theorem insAt_len {rows : List (List Val)} {row : List Val} : (insAt rows row).length = rows.length + 1 := by
  have := pos_le rows row
  simp [insAt]; omega
/-- The first k rows, and the row at its place if that is among them. -/
def putTo (rows : List (List Val)) (row : List Val) (k : Nat) : List (List Val) := if pos rows row < k then rows.take (pos rows row) ++ [row] ++ (rows.take k).drop (pos rows row) else rows.take k
theorem putTo_zero {rows : List (List Val)} {row : List Val} : [] = putTo rows row 0 := by simp [putTo]
theorem putTo_len {rows : List (List Val)} {row : List Val} {k : Nat} (hk : k ≤ rows.length) : (putTo rows row k).length ≤ k + 1 := by
  unfold putTo; split <;> simp <;> omega
theorem putTo_before {rows : List (List Val)} {row : List Val} {k : Nat} (hk : k < rows.length) (h : k < pos rows row) : putTo rows row k ++ [rows[k]] = putTo rows row (k + 1) := by
  unfold putTo
  rw [if_neg (by omega), if_neg (by omega), List.take_succ_eq_append_getElem hk]
theorem putTo_here {rows : List (List Val)} {row : List Val} {k : Nat} (hk : k < rows.length) (h : k = pos rows row) : putTo rows row k ++ [row] ++ [rows[k]] = putTo rows row (k + 1) := by
  unfold putTo
  rw [if_neg (by omega), if_pos (by omega), ← h, List.take_succ_eq_append_getElem hk, List.drop_left' (by simp; omega)]
theorem putTo_behind {rows : List (List Val)} {row : List Val} {k : Nat} (hk : k < rows.length) (h : pos rows row < k) : putTo rows row k ++ [rows[k]] = putTo rows row (k + 1) := by
  unfold putTo
  rw [if_pos (by omega), if_pos (by omega), List.take_succ_eq_append_getElem hk, List.drop_append_of_le_length (by simp; omega)]
  simp only [List.append_assoc]
theorem putTo_done {rows : List (List Val)} {row : List Val} {k : Nat} (hk : rows.length ≤ k) (hk2 : k ≤ rows.length) (h : pos rows row < k) : putTo rows row k = insAt rows row := by
  unfold putTo insAt
  rw [if_pos h, List.take_of_length_le hk]
theorem putTo_end {rows : List (List Val)} {row : List Val} {k : Nat} (hk : rows.length ≤ k) (hk2 : k ≤ rows.length) (h : ¬ pos rows row < k) : putTo rows row k ++ [row] = insAt rows row := by
  have := pos_le rows row
  have e : pos rows row = rows.length := by omega
  unfold putTo insAt
  rw [if_neg h, e, List.take_of_length_le hk, List.take_length, List.drop_length, List.append_nil]
theorem putTo_lt {rows : List (List Val)} {row : List Val} {k : Nat} (hs : Sorted rows) (hr : ∀ v ∈ row, valOk v = true) (hn : hasRow rows row = false) (hk : k < rows.length) (hd : ¬ pos rows row < k) : (ord09 row rows[k] == -1) = decide (k = pos rows row) := by
  have h1 := ord09_lt (a := row) (b := rows[k])
  by_cases e : k = pos rows row
  · have := no_pos hs hr hn hk (by omega)
    rw [h1.2 this, decide_eq_true e]; rfl
  · have := pos_lt (row := row) hk (by omega)
    have h2 : ¬ cmpRow row rows[k] < 0 := by rw [cmpRow_neg]; omega
    have h3 : ¬ ord09 row rows[k] = -1 := fun q => h2 (h1.1 q)
    rw [decide_eq_false e]; simpa using h3
theorem insAt_sorted {rows : List (List Val)} {row : List Val} (hs : Sorted rows) (hr : ∀ v ∈ row, valOk v = true) (hn : hasRow rows row = false) : Sorted (insAt rows row) := by
  have hp := pos_le rows row
  have key : ∀ i (hi : i < (insAt rows row).length), (∃ h : i < pos rows row, (insAt rows row)[i] = rows[i]'(by omega)) ∨ (i = pos rows row ∧ (insAt rows row)[i] = row) ∨ ∃ h : pos rows row < i, (insAt rows row)[i] = rows[i - 1]'(by rw [insAt_len] at hi; omega) := fun i hi => by
    have hl := hi
    rw [insAt_len] at hl
    have q : (insAt rows row)[i]? = some ((insAt rows row)[i]) := List.getElem?_eq_getElem hi
    have l1 : (rows.take (pos rows row)).length = pos rows row := by simp; omega
    rcases Nat.lt_trichotomy i (pos rows row) with h | h | h
    · left; refine ⟨h, ?_⟩
      have e : (insAt rows row)[i]? = rows[i]? := by
        unfold insAt
        rw [List.append_assoc, List.getElem?_append_left (by rw [l1]; exact h), List.getElem?_take, if_pos h]
      rw [q, List.getElem?_eq_getElem (by omega)] at e
      exact Option.some.inj e
    · right; left; refine ⟨h, ?_⟩
      have e : (insAt rows row)[i]? = some row := by
        unfold insAt
        rw [List.append_assoc, List.getElem?_append_right (by rw [l1]; omega), l1, show i - pos rows row = 0 by omega]; rfl
      rw [q] at e
      exact Option.some.inj e
    · right; right; refine ⟨h, ?_⟩
      have e : (insAt rows row)[i]? = rows[i - 1]? := by
        unfold insAt
        rw [List.getElem?_append_right (by rw [List.length_append, l1]; simp; omega), List.length_append, l1, List.getElem?_drop]
        congr 1
        simp; omega
      rw [q, List.getElem?_eq_getElem (by omega)] at e
      exact Option.some.inj e
  have hlen := insAt_len (rows := rows) (row := row)
  refine ⟨fun j hj v hv => ?_, fun i j hi hj hij => ?_⟩
  · rcases key j hj with ⟨h, e⟩ | ⟨h, e⟩ | ⟨h, e⟩
    · rw [e] at hv; exact hs.1 j (by omega) v hv
    · rw [e] at hv; exact hr v hv
    · rw [e] at hv; exact hs.1 (j - 1) (by omega) v hv
  · rcases key i hi with ⟨h, e⟩ | ⟨h, e⟩ | ⟨h, e⟩ <;> rcases key j hj with ⟨h', e'⟩ | ⟨h', e'⟩ | ⟨h', e'⟩ <;> rw [e, e']
    · exact hs.2 i j (by omega) (by omega) hij
    · exact pos_lt (by omega) h
    · exact hs.2 i (j - 1) (by omega) (by omega) (by omega)
    · omega
    · omega
    · exact no_pos hs hr hn (by omega) (by omega)
    · omega
    · omega
    · exact hs.2 (i - 1) (j - 1) (by omega) (by omega) (by omega)
theorem putRow_sorted {rows : List (List Val)} {row : List Val} (hs : Sorted rows) (hr : ∀ v ∈ row, valOk v = true) : Sorted (putRow rows row) := by
  unfold putRow; split
  · exact hs
  · rename_i h; exact insAt_sorted hs hr (by simpa using h)
/-! ### RelDrop -/
def fits (r : Relt) (row : List Val) : Bool := relOk r && (rowOk row && decide ((row.length : Int) = r.arity))
theorem fits_r {r : Relt} {row : List Val} (h : relOk r = false) : fits r row = false := by simp [fits, h]
theorem fits_row {r : Relt} {row : List Val} (h : rowOk row = false) : fits r row = false := by simp [fits, h]
theorem fits_len {r : Relt} {row : List Val} (h : ¬ (row.length : Int) = r.arity) : fits r row = false := by simp [fits, h]
theorem fits_ok {r : Relt} {row : List Val} (h : relOk r = true) (h2 : rowOk row = true) (h3 : (row.length : Int) = r.arity) : fits r row = true := by simp [fits, h, h2, h3]
theorem fits_parts {r : Relt} {row : List Val} (h : fits r row = true) : relOk r = true ∧ rowOk row = true ∧ (row.length : Int) = r.arity := by
  simpa [fits, and_assoc] using h
def relDrop (r : Relt) (row : List Val) : Relt × Int := if fits r row = true then (⟨r.arity, r.rows.filter (fun x => !sameRow x row)⟩, 0) else (⟨0, []⟩, 1)
theorem relDrop_no {r : Relt} {row : List Val} (h : fits r row = false) : relDrop r row = (⟨0, []⟩, 1) := if_neg (by simp [h])
theorem relDrop_ok {r : Relt} {row : List Val} (h : fits r row = true) : relDrop r row = (⟨r.arity, r.rows.filter (fun x => !sameRow x row)⟩, 0) := if_pos h
theorem fits_sorted {r : Relt} {row : List Val} (h : fits r row = true) : Sorted r.rows ∧ (∀ v ∈ row, valOk v = true) ∧ r.rows.length ≤ 300 :=
  ⟨relOk_sorted (fits_parts h).1, rowOk_vals (fits_parts h).2.1, (relOk_parts (fits_parts h).1).2.2.2⟩
theorem relDrop_small {r : Relt} {row : List Val} (h : smallRel r) : smallRel (relDrop r row).1 := by
  unfold relDrop; split
  · exact ⟨Nat.le_trans (List.length_filter_le _ _) h.1, fun x hx => h.2 x (List.mem_filter.1 hx).1⟩
  · exact ⟨by simp, fun x hx => by cases hx⟩
/-! ### RelAdd -/
def relAdd (r : Relt) (row : List Val) : Relt × Int :=
  if fits r row = true then (if 300 < (putRow r.rows row).length then (⟨0, []⟩, 2) else (⟨r.arity, putRow r.rows row⟩, 0)) else (⟨0, []⟩, 1)
theorem relAdd_no {r : Relt} {row : List Val} (h : fits r row = false) : relAdd r row = (⟨0, []⟩, 1) := if_neg (by simp [h])
theorem relAdd_big {r : Relt} {row : List Val} (h : fits r row = true) (h2 : 300 < ((putRow r.rows row).length : Int)) : relAdd r row = (⟨0, []⟩, 2) := by
  unfold relAdd; rw [if_pos h, if_pos (by omega)]
theorem relAdd_ok {r : Relt} {row : List Val} (h : fits r row = true) (h2 : ¬ 300 < ((putRow r.rows row).length : Int)) : relAdd r row = (⟨r.arity, putRow r.rows row⟩, 0) := by
  unfold relAdd; rw [if_pos h, if_neg (by omega)]
theorem insAt_mem {rows : List (List Val)} {row x : List Val} (h : x ∈ insAt rows row) : x ∈ rows ∨ x = row := by
  unfold insAt at h
  simp only [List.mem_append, List.mem_singleton] at h
  rcases h with (h | h) | h
  · exact .inl (List.mem_of_mem_take h)
  · exact .inr h
  · exact .inl (List.mem_of_mem_drop h)
theorem putRow_mem {rows : List (List Val)} {row x : List Val} (h : x ∈ putRow rows row) : x ∈ rows ∨ x = row := by
  unfold putRow at h; split at h
  · exact .inl h
  · exact insAt_mem h
theorem relAdd_small {r : Relt} {row : List Val} (h : smallRel r) (hr : smallRow row) : smallRel (relAdd r row).1 := by
  unfold relAdd; split
  · split
    · exact ⟨by simp, fun x hx => by cases hx⟩
    · rename_i h1 h2
      refine ⟨by show (putRow r.rows row).length ≤ 1048576; omega, fun x hx => ?_⟩
      rcases putRow_mem hx with h3 | rfl
      · exact h.2 x h3
      · exact hr
  · exact ⟨by simp, fun x hx => by cases hx⟩
end Go.Proofs.YtibhoanjglfaoaaGreat

/- Rows in order, each once: in plain words. -/
namespace Go.Proofs.YtibhoanjglfaoaaGreat
open Go.RowKit
set_option linter.unusedVariables false
set_option linter.unusedSimpArgs false

theorem pw_ext {α : Type} {R : α → α → Prop} (asym : ∀ x y, R x y → ¬ R y x) : ∀ {a b : List α}, a.Pairwise R → b.Pairwise R → (∀ x, x ∈ a ↔ x ∈ b) → a = b
  | [], [], _, _, _ => rfl
  | [], y :: ys, _, _, h => absurd ((h y).2 List.mem_cons_self) (by simp)
  | x :: xs, [], _, _, h => absurd ((h x).1 List.mem_cons_self) (by simp)
  | x :: xs, y :: ys, ha, hb, h => by
    obtain ⟨h1, h2⟩ := List.pairwise_cons.1 ha
    obtain ⟨g1, g2⟩ := List.pairwise_cons.1 hb
    have e : x = y := by
      rcases List.mem_cons.1 ((h x).1 List.mem_cons_self) with e | e
      · exact e
      · rcases List.mem_cons.1 ((h y).2 List.mem_cons_self) with e2 | e2
        · exact e2.symm
        · exact absurd (g1 x e) (asym _ _ (h1 y e2))
    subst e
    congr 1
    refine pw_ext asym h2 g2 fun z => ⟨fun hz => ?_, fun hz => ?_⟩
    · rcases List.mem_cons.1 ((h z).1 (List.mem_cons_of_mem _ hz)) with e | e
      · subst e; exact absurd (h1 z hz) (asym _ _ (h1 z hz))
      · exact e
    · rcases List.mem_cons.1 ((h z).2 (List.mem_cons_of_mem _ hz)) with e | e
      · subst e; exact absurd (g1 z hz) (asym _ _ (g1 z hz))
      · exact e
theorem cmpRow_asym (x y : List Val) (h : cmpRow x y < 0) : ¬ cmpRow y x < 0 := by rw [cmpRow_neg y x]; omega
theorem Sorted.pw {rows : List (List Val)} (h : Sorted rows) : rows.Pairwise (fun a b => cmpRow a b < 0) := List.pairwise_iff_getElem.2 fun i j hi hj hij => h.2 i j hi hj hij
theorem Sorted.of_pw {rows : List (List Val)} (hv : ∀ r ∈ rows, ∀ v ∈ r, valOk v = true) (h : rows.Pairwise (fun a b => cmpRow a b < 0)) : Sorted rows :=
  ⟨fun j hj v hv2 => hv _ (List.getElem_mem hj) v hv2, fun i j hi hj hij => List.pairwise_iff_getElem.1 h i j hi hj hij⟩
theorem Sorted.vals {rows : List (List Val)} (h : Sorted rows) : ∀ r ∈ rows, ∀ v ∈ r, valOk v = true := fun r hr v hv => by
  obtain ⟨j, hj, rfl⟩ := List.getElem_of_mem hr
  exact h.1 j hj v hv
theorem Sorted.nil : Sorted [] := ⟨fun j hj => absurd hj (by simp), fun i j hi => absurd hi (by simp)⟩
theorem sorted_ext {a b : List (List Val)} (ha : Sorted a) (hb : Sorted b) (h : ∀ x, x ∈ a ↔ x ∈ b) : a = b := pw_ext cmpRow_asym ha.pw hb.pw h
theorem insAt_in {rows : List (List Val)} {row x : List Val} (h : x ∈ rows ∨ x = row) : x ∈ insAt rows row := by
  unfold insAt
  simp only [List.mem_append, List.mem_singleton]
  rcases h with h | h
  · rw [← List.take_append_drop (pos rows row) rows, List.mem_append] at h
    rcases h with h | h
    · exact .inl (.inl h)
    · exact .inr h
  · exact .inl (.inr h)
theorem putRow_iff {rows : List (List Val)} {row x : List Val} : x ∈ putRow rows row ↔ x ∈ rows ∨ x = row := by
  refine ⟨putRow_mem, fun h => ?_⟩
  unfold putRow; split
  · rename_i hh
    rcases h with h | rfl
    · exact h
    · rw [hasRow, decide_eq_true_eq] at hh; exact hh
  · exact insAt_in h
theorem puts_sorted : ∀ {rows acc : List (List Val)}, Sorted acc → (∀ r ∈ rows, ∀ v ∈ r, valOk v = true) → Sorted (rows.foldl putRow acc)
  | [], acc, h, _ => h
  | r :: rows, acc, h, hv => puts_sorted (rows := rows) (putRow_sorted h (hv r List.mem_cons_self)) fun x hx => hv x (List.mem_cons_of_mem _ hx)
theorem puts_mem : ∀ {rows acc : List (List Val)} {x : List Val}, x ∈ rows.foldl putRow acc ↔ x ∈ acc ∨ x ∈ rows
  | [], acc, x => by simp
  | r :: rows, acc, x => by
    rw [List.foldl_cons, puts_mem (rows := rows), putRow_iff, List.mem_cons]
    exact ⟨fun h => by rcases h with (h | h) | h <;> simp [h], fun h => by rcases h with h | h | h <;> simp [h]⟩
/-- The rows in order, each once. -/
def sortRows (rows : List (List Val)) : List (List Val) := rows.foldl putRow []
def ValsOk (rows : List (List Val)) : Prop := ∀ r ∈ rows, ∀ v ∈ r, valOk v = true
theorem sortRows_sorted {rows : List (List Val)} (h : ValsOk rows) : Sorted (sortRows rows) := puts_sorted Sorted.nil h
theorem sortRows_mem {rows : List (List Val)} {x : List Val} : x ∈ sortRows rows ↔ x ∈ rows := by
  unfold sortRows; rw [puts_mem]; simp
theorem putRow_len {rows : List (List Val)} {row : List Val} : rows.length ≤ (putRow rows row).length ∧ (putRow rows row).length ≤ rows.length + 1 := by
  unfold putRow; split
  · omega
  · rw [insAt_len]; omega
theorem puts_len : ∀ {rows acc : List (List Val)}, acc.length ≤ (rows.foldl putRow acc).length ∧ (rows.foldl putRow acc).length ≤ acc.length + rows.length
  | [], acc => by simp
  | r :: rows, acc => by
    have h1 := puts_len (rows := rows) (acc := putRow acc r)
    have h2 := putRow_len (rows := acc) (row := r)
    rw [List.foldl_cons, List.length_cons]; omega
theorem sortRows_len {rows : List (List Val)} : (sortRows rows).length ≤ rows.length := by
  have := (puts_len (rows := rows) (acc := [])).2
  simpa [sortRows] using this
/-- A list in order, with equal neighbours once. -/
def uniqTo (ys : List (List Val)) : Nat → List (List Val)
  | 0 => []
  | 1 => ys.take 1
  | k + 2 => if ys.getD (k + 1) [] = ys.getD k [] then uniqTo ys (k + 1) else uniqTo ys (k + 1) ++ [ys.getD (k + 1) []]
def uniq (ys : List (List Val)) : List (List Val) := uniqTo ys ys.length
def Weak (ys : List (List Val)) : Prop := ys.Pairwise fun a b => ¬ cmpRow b a < 0
theorem uniqTo_facts {ys : List (List Val)} (hw : Weak ys) (hv : ValsOk ys) : ∀ k, k + 1 ≤ ys.length → (uniqTo ys (k + 1)).Pairwise (fun a b => cmpRow a b < 0) ∧ (∀ x, x ∈ uniqTo ys (k + 1) ↔ x ∈ ys.take (k + 1)) ∧ ∀ x ∈ uniqTo ys (k + 1), x = ys.getD k [] ∨ cmpRow x (ys.getD k []) < 0
  | 0, h => by
    have e : ys.take 1 = [ys.getD 0 []] := by
      match ys, h with
      | y :: t, _ => simp
    have eu : uniqTo ys (0 + 1) = [ys.getD 0 []] := e
    have et : ys.take (0 + 1) = [ys.getD 0 []] := e
    rw [eu, et]
    refine ⟨List.pairwise_singleton _ _, fun x => Iff.rfl, fun x hx => .inl (List.mem_singleton.1 hx)⟩
  | k + 1, h => by
    obtain ⟨h1, h2, h3⟩ := uniqTo_facts hw hv k (by omega)
    have e1 : ys.getD (k + 1) [] = ys[k + 1] := by simp [List.getD, show k + 1 < ys.length by omega]
    have e0 : ys.getD k [] = ys[k] := by simp [List.getD, show k < ys.length by omega]
    have et : ys.take (k + 1 + 1) = ys.take (k + 1) ++ [ys[k + 1]] := by rw [List.take_succ_eq_append_getElem (by omega)]
    rw [e0] at h3
    rw [uniqTo, et, e1, e0]
    have hle : ¬ cmpRow ys[k + 1] ys[k] < 0 := List.pairwise_iff_getElem.1 hw k (k + 1) (by omega) (by omega) (by omega)
    by_cases he : ys[k + 1] = ys[k]
    · rw [if_pos he]
      refine ⟨h1, fun x => ?_, fun x hx => by rw [he]; exact h3 x hx⟩
      rw [h2, List.mem_append, List.mem_singleton]
      refine ⟨.inl, fun q => ?_⟩
      rcases q with q | q
      · exact q
      · rw [q, he, ← List.getElem_take (xs := ys) (i := k) (j := k + 1) (h := by simp; omega)]; exact List.getElem_mem _
    · rw [if_neg he]
      have hlt : cmpRow ys[k] ys[k + 1] < 0 := by
        have h0 : cmpRow ys[k] ys[k + 1] ≠ 0 := fun q => he (cmpRow_eq (hv _ (List.getElem_mem _)) (hv _ (List.getElem_mem _)) q).symm
        rw [cmpRow_neg]
        rw [cmpRow_neg] at h0; omega
      have hb : ∀ x ∈ uniqTo ys (k + 1), cmpRow x ys[k + 1] < 0 := fun x hx => by
        rcases h3 x hx with q | q
        · rw [q]; exact hlt
        · have hx2 : x ∈ ys := List.mem_of_mem_take ((h2 x).1 hx)
          exact cmpRow_trans (hv x hx2) (hv _ (List.getElem_mem _)) (hv _ (List.getElem_mem _)) q hlt
      refine ⟨List.pairwise_append.2 ⟨h1, List.pairwise_singleton _ _, fun x hx y hy => by rw [List.mem_singleton.1 hy]; exact hb x hx⟩, fun x => ?_, fun x hx => ?_⟩
      · rw [List.mem_append, List.mem_append, h2]
      · rcases List.mem_append.1 hx with q | q
        · exact .inr (hb x q)
        · exact .inl (List.mem_singleton.1 q)
/-- What the program makes of rows: a permutation in order, with equal neighbours once. -/
theorem uniq_sort {rows ys : List (List Val)} (hp : ys.Perm rows) (hw : Weak ys) (hv : ValsOk rows) : uniq ys = sortRows rows := by
  have hvy : ValsOk ys := fun r hr => hv r (hp.mem_iff.1 hr)
  rcases Nat.eq_zero_or_pos ys.length with h0 | h0
  · have e : ys = [] := List.eq_nil_of_length_eq_zero h0
    subst e
    have e2 : rows = [] := hp.nil_eq.symm
    subst e2; rfl
  · obtain ⟨n, hn⟩ : ∃ n, ys.length = n + 1 := ⟨ys.length - 1, by omega⟩
    obtain ⟨h1, h2, _⟩ := uniqTo_facts hw hvy n (by omega)
    have e : uniq ys = uniqTo ys (n + 1) := by unfold uniq; rw [hn]
    rw [e]
    have hm : ∀ x, x ∈ uniqTo ys (n + 1) ↔ x ∈ rows := fun x => by rw [h2, List.take_of_length_le (by omega), hp.mem_iff]
    exact sorted_ext (Sorted.of_pw (fun r hr => hv r ((hm r).1 hr)) h1) (sortRows_sorted hv) fun x => by rw [hm, sortRows_mem]
/-! ### Steps of the compaction -/
/-! ### relOf -/
def relOf (ar : Int) (rows : List (List Val)) : Relt × Bool := if 300 < (sortRows rows).length then (⟨0, []⟩, false) else (⟨ar, sortRows rows⟩, true)
theorem relOf_big {ar : Int} {rows : List (List Val)} (h : 300 < ((sortRows rows).length : Int)) : relOf ar rows = (⟨0, []⟩, false) := if_pos (by omega)
theorem relOf_ok {ar : Int} {rows : List (List Val)} (h : ¬ 300 < ((sortRows rows).length : Int)) : relOf ar rows = (⟨ar, sortRows rows⟩, true) := if_neg (by omega)
theorem relOf_true {ar : Int} {rows : List (List Val)} (h : (relOf ar rows).2 = true) : relOf ar rows = (⟨ar, sortRows rows⟩, true) ∧ (sortRows rows).length ≤ 300 := by
  unfold relOf at *
  split
  · rename_i h1; rw [if_pos h1] at h; cases h
  · exact ⟨rfl, by omega⟩
theorem relOf_false {ar : Int} {rows : List (List Val)} (h : (relOf ar rows).2 = false) : 300 < ((sortRows rows).length : Int) := by
  unfold relOf at h
  split at h
  · omega
  · cases h
theorem sortRows_small {rows : List (List Val)} {ar : Int} (hl : rows.length ≤ 1048576) (h : ∀ r ∈ rows, smallRow r) : smallRel ⟨ar, sortRows rows⟩ :=
  ⟨Nat.le_trans sortRows_len hl, fun x hx => h x (sortRows_mem.1 hx)⟩
/-! ### RelUnion -/
end Go.Proofs.YtibhoanjglfaoaaGreat

/- More operations of the abstract walk: numbers of other kinds, shifts. -/
namespace Go.Proofs.YtibhoanjglfaoaaGreat
open Go.RowKit
set_option linter.unusedVariables false
section ops
variable {P : Program} {N : Nat} {s : St} {d : Nat} {ty : TypeId} {pos : String} {after : Array Edge} {gd : Option (Nat × Bool)}

def intT (P : Program) (A B : TypeId) : Option IntKind :=
  match P.underlying A, P.underlying B with
  | some _, some (.int k) => some k
  | _, _ => none
theorem run_conv {A B : TypeId} {k k' : IntKind} {n : Int} (h : intT P A B = some k') (w : World) : (convert A B (.int k n)).run P w = .ok (.int k' (k'.wrap n)) w := by
  unfold intT at h
  split at h
  · rename_i a k0 h1 h2
    cases h
    simp only [convert, Sem.run_bind, run_underlying h1, run_underlying h2, Result.andThen_ok]
    cases a <;> rfl
  · cases h
theorem x_conv {A B : TypeId} {x : Operand} {k k' : IntKind} {n r : Int} (hN : Nat.blt d N = true) (h : evo s.t x = some (.one (.c (.int k n)))) (hk : intT P A B = some k') (hr : k'.wrap n = r) :
    Stp P N ⟨some d, .convert A B x, ty, pos, after, gd⟩ s ⟨(d, .one (.c (.int k' r))) :: s.t, s.l⟩ ⟨rdo x (.one (.c (.int k n))), [], [(d, .one (.c (.int k' r)))], [], []⟩ :=
  Stp.pure rfl hN (rdo_of h) (by simp) fun g s' a w ht hl' rp => by
    obtain ⟨e1, _⟩ : a.eval x = .int k n ∧ wfV (.int k n) := eval_ok rp (evs_of h) ht
    refine ⟨.int k' (k'.wrap n), by simp only [execOp, e1, Sem.run_bind, run_conv hk, Result.andThen_ok, Sem.run_pure], ?_, ?_⟩
    · rw [hr]
    · rw [← hr]; exact wf_wrap k' _
theorem x_shr {T T' : TypeId} {x y : Operand} {k k' : IntKind} {m n r : Int} (hN : Nat.blt d N = true) (h : evo s.t x = some (.one (.c (.int k m)))) (h2 : evo s.t y = some (.one (.c (.int k' n)))) (h0 : 0 ≤ n) (hr : m.fdiv (2 ^ (min n.toNat k.bits)) = r) (hw : (Lit.int k r).wf = true) :
    Stp P N ⟨some d, .binOp .shr T x y T', ty, pos, after, gd⟩ s ⟨(d, .one (.c (.int k r))) :: s.t, s.l⟩ ⟨rdo x (.one (.c (.int k m))) ++ rdo y (.one (.c (.int k' n))), [], [(d, .one (.c (.int k r)))], [], []⟩ :=
  Stp.pure rfl hN (two_rd h h2) (by simp) fun g s' a w ht hl' rp => by
    obtain ⟨⟨e1, w1⟩, e2, w2⟩ := two_c rp (evs_of h) (evs_of h2) ht
    refine ⟨.int k r, run_binOp rfl ?_, rfl, hw⟩
    rw [e1, e2]
    have : ¬ n < 0 := by omega
    simp only [Sem.run_bind, guard_int, Result.andThen_ok]
    simp only [binOp, Op.shift, this, if_false, hr]; rfl
end ops
/-- The middle of two places, ars a binary search counts it. -/
theorem mid_shr {m : Int} (h0 : 0 ≤ m) : m.fdiv (2 ^ (min (1 : Int).toNat IntKind.u64.bits)) = m / 2 := by
  have e : (2 : Int) ^ (min (1 : Int).toNat IntKind.u64.bits) = 2 := rfl
  rw [e, Int.fdiv_eq_ediv_of_nonneg _ (by omega)]
theorem u64_wf {r : Int} (h0 : 0 ≤ r) (h1 : r < 18446744073709551616) : (Lit.int .u64 r).wf = true := by
  simp [Lit.wf, IntKind.min, IntKind.max, IntKind.signed, IntKind.bits]; omega
theorem u64_id {r : Int} (h0 : 0 ≤ r) (h1 : r < 18446744073709551616) : IntKind.u64.wrap r = r := by
  simp only [IntKind.wrap, IntKind.signed, IntKind.bits]; simp; omega
end Go.Proofs.YtibhoanjglfaoaaGreat

/- Bits of whole numbers, in the abstract walk. -/
namespace Go.Proofs.YtibhoanjglfaoaaGreat
open Go.RowKit
set_option linter.unusedVariables false

section
variable {P : Program} {N d : Nat} {s : St} {ty : TypeId} {pos : String} {after : Array Edge} {gd : Option (Nat × Bool)}
end
theorem wrap64 (n : Int) : IntKind.i64.wrap n = if 9223372036854775808 ≤ n % 18446744073709551616 then n % 18446744073709551616 - 18446744073709551616 else n % 18446744073709551616 := by
  simp [IntKind.wrap, IntKind.bits, IntKind.signed]
end Go.Proofs.YtibhoanjglfaoaaGreat

/- The draws of the laws, ars functions of a place in the bytes: whole numbers, words, values, rows, relations. -/
namespace Go.Proofs.YtibhoanjglfaoaaGreat
open Go.RowKit
set_option linter.unusedVariables false

def bitAnd (m n : Int) : Int := IntKind.i64.wrap ((BitVec.ofInt IntKind.i64.bits m &&& BitVec.ofInt IntKind.i64.bits n).toNat : Int)
def bitXor (m n : Int) : Int := IntKind.i64.wrap ((BitVec.ofInt IntKind.i64.bits m ^^^ BitVec.ofInt IntKind.i64.bits n).toNat : Int)
section
variable {P : Program} {N d : Nat} {s : St} {ty : TypeId} {pos : String} {after : Array Edge} {gd : Option (Nat × Bool)}
theorem x_and {T T' : TypeId} {x y : Operand} {m n : Int} (hN : Nat.blt d N = true) (h : evo s.t x = some (.one (.c (.int .i64 m)))) (h2 : evo s.t y = some (.one (.c (.int .i64 n)))) :
    Stp P N ⟨some d, .binOp .and T x y T', ty, pos, after, gd⟩ s ⟨(d, .one (.c (.int .i64 (bitAnd m n)))) :: s.t, s.l⟩ ⟨rdo x (.one (.c (.int .i64 m))) ++ rdo y (.one (.c (.int .i64 n))), [], [(d, .one (.c (.int .i64 (bitAnd m n))))], [], []⟩ :=
  x_int2 hN h h2 (fun w => by simp only [binOp, Op.intBits]; rfl) (fun _ _ => wf_wrap .i64 _)
theorem x_xor {T T' : TypeId} {x y : Operand} {m n : Int} (hN : Nat.blt d N = true) (h : evo s.t x = some (.one (.c (.int .i64 m)))) (h2 : evo s.t y = some (.one (.c (.int .i64 n)))) :
    Stp P N ⟨some d, .binOp .xor T x y T', ty, pos, after, gd⟩ s ⟨(d, .one (.c (.int .i64 (bitXor m n)))) :: s.t, s.l⟩ ⟨rdo x (.one (.c (.int .i64 m))) ++ rdo y (.one (.c (.int .i64 n))), [], [(d, .one (.c (.int .i64 (bitXor m n))))], [], []⟩ :=
  x_int2 hN h h2 (fun w => by simp only [binOp, Op.intBits]; rfl) (fun _ _ => wf_wrap .i64 _)
end
theorem bitAnd_255 (m : Int) : 0 ≤ bitAnd m 255 ∧ bitAnd m 255 ≤ 255 := by
  have h : (BitVec.ofInt 64 m &&& BitVec.ofInt 64 255).toNat ≤ 255 := by
    rw [BitVec.toNat_and]
    exact Nat.and_le_right
  have e : bitAnd m 255 = IntKind.i64.wrap ((BitVec.ofInt 64 m &&& BitVec.ofInt 64 255).toNat : Int) := rfl
  rw [e, wrap64]
  generalize (BitVec.ofInt 64 m &&& BitVec.ofInt 64 255).toNat = q at h
  split <;> omega
theorem w64_in (n : Int) : -9223372036854775808 ≤ IntKind.i64.wrap n ∧ IntKind.i64.wrap n ≤ 9223372036854775807 := by
  rw [wrap64]; split <;> omega
/-- A place in the bytes, and the number that is mixed in. -/
structure Cur where
  i : Nat
  h : Int
/-- It lies in a variable. -/
def curB (b : List Int) (c : Cur) : Blk := .box [.sl (intE .u8) b, .c (.int .i64 c.i), .c (.int .i64 c.h)]
def w64 (n : Int) : Int := IntKind.i64.wrap n
def hashTo (b : List Int) : Nat → Int
  | 0 => w64 (391785 + (b.length : Int))
  | k + 1 => bitAnd (w64 (w64 (w64 (hashTo b k * 131) + w64 (b.getD k 0)) + 7)) 1073741823
def dNew (b : List Int) : Cur := ⟨0, hashTo b (min b.length 4000)⟩
def nextH (h : Int) : Int := w64 (w64 (h * 6364136223846793005) + 1442695040888963407)
theorem nextH_in (h : Int) : -9223372036854775808 ≤ nextH h ∧ nextH h ≤ 9223372036854775807 := w64_in _
theorem shr_33 (h : Int) : (Lit.int .i64 ((nextH h).fdiv (2 ^ 33))).wf = true := by
  have h1 := nextH_in h
  have e : (2 : Int) ^ 33 = 8589934592 := by decide
  rw [e, Int.fdiv_eq_ediv_of_nonneg _ (by decide)]
  exact WalkArith.wf_i64 (by omega)
theorem shr_45 (h : Int) : (Lit.int .i64 ((nextH h).fdiv (2 ^ 45))).wf = true := by
  have h1 := nextH_in h
  have e : (2 : Int) ^ 45 = 35184372088832 := by decide
  rw [e, Int.fdiv_eq_ediv_of_nonneg _ (by decide)]
  exact WalkArith.wf_i64 (by omega)
theorem getD_int {b : List Int} {k : Nat} (h : k < b.length) : b[k] = b.getD k 0 := by simp [List.getD, h]
def mixH (h : Int) : Int := bitAnd (bitXor (h.fdiv (2 ^ 33)) (h.fdiv (2 ^ 45))) 255
def dByte (b : List Int) (c : Cur) : Int × Cur :=
  if c.i < b.length then (bitAnd (w64 (mixH (nextH c.h) + w64 (b.getD c.i 0))) 255, ⟨c.i + 1, nextH c.h⟩) else (mixH (nextH c.h), ⟨c.i, nextH c.h⟩)
theorem dByte_in (b : List Int) (c : Cur) : 0 ≤ (dByte b c).1 ∧ (dByte b c).1 ≤ 255 := by
  unfold dByte; split <;> exact bitAnd_255 _
theorem dByte_yes {b : List Int} {c : Cur} (h : c.i < b.length) : dByte b c = (bitAnd (w64 (mixH (nextH c.h) + w64 (b.getD c.i 0))) 255, ⟨c.i + 1, nextH c.h⟩) := if_pos h
theorem dByte_no {b : List Int} {c : Cur} (h : ¬ c.i < b.length) : dByte b c = (mixH (nextH c.h), ⟨c.i, nextH c.h⟩) := if_neg h
def dFour (b : List Int) (c : Cur) : Int × Cur :=
  ((dByte b c).1 * 16777216 + (dByte b (dByte b c).2).1 * 65536 + (dByte b (dByte b (dByte b c).2).2).1 * 256 + (dByte b (dByte b (dByte b (dByte b c).2).2).2).1, (dByte b (dByte b (dByte b (dByte b c).2).2).2).2)
def dBelow (b : List Int) (c : Cur) (n : Int) : Int × Cur :=
  if n ≤ 0 then (0, c) else if n ≤ 256 then ((dByte b c).1.tmod n, (dByte b c).2) else ((dFour b c).1.tmod n, (dFour b c).2)
theorem dFour_in (b : List Int) (c : Cur) : 0 ≤ (dFour b c).1 ∧ (dFour b c).1 ≤ 4294967295 := by
  have h1 := dByte_in b c
  have h2 := dByte_in b (dByte b c).2
  have h3 := dByte_in b (dByte b (dByte b c).2).2
  have h4 := dByte_in b (dByte b (dByte b (dByte b c).2).2).2
  simp only [dFour]; omega
theorem dBelow_in (b : List Int) (c : Cur) (n : Int) : 0 ≤ (dBelow b c n).1 ∧ ((dBelow b c n).1 < n ∨ (dBelow b c n).1 = 0) := by
  have h1 := dByte_in b c
  have h2 := dFour_in b c
  unfold dBelow
  split
  · exact ⟨Int.le_refl 0, .inr rfl⟩
  · split
    · rw [Int.tmod_eq_emod_of_nonneg h1.1]
      exact ⟨Int.emod_nonneg _ (by omega), .inl (Int.emod_lt_of_pos _ (by omega))⟩
    · rw [Int.tmod_eq_emod_of_nonneg h2.1]
      exact ⟨Int.emod_nonneg _ (by omega), .inl (Int.emod_lt_of_pos _ (by omega))⟩
theorem dBelow_lt (b : List Int) (c : Cur) {n : Int} (h : 0 < n) : 0 ≤ (dBelow b c n).1 ∧ (dBelow b c n).1 < n := by
  have := dBelow_in b c n
  omega
theorem dBelow_0 {b : List Int} {c : Cur} {n : Int} (h : n ≤ 0) : dBelow b c n = (0, c) := if_pos h
theorem dBelow_1 {b : List Int} {c : Cur} {n : Int} (h : ¬ n ≤ 0) (h2 : n ≤ 256) : dBelow b c n = ((dByte b c).1.tmod n, (dByte b c).2) := by unfold dBelow; rw [if_neg h, if_pos h2]
theorem dBelow_2 {b : List Int} {c : Cur} {n : Int} (h : ¬ n ≤ 0) (h2 : ¬ n ≤ 256) : dBelow b c n = ((dFour b c).1.tmod n, (dFour b c).2) := by unfold dBelow; rw [if_neg h, if_neg h2]
end Go.Proofs.YtibhoanjglfaoaaGreat

/- Values, rows and relations that are drawn, in plain words. -/
namespace Go.Proofs.YtibhoanjglfaoaaGreat
open Go.RowKit
set_option linter.unusedVariables false

def dNum6K (b : List Int) (k : Int) (c : Cur) : Int × Cur :=
  if k < 6 then dBelow b c 9 else if k = 6 then (281474976710655, c) else ((dBelow b c 1000000).1 * 1000003, (dBelow b c 1000000).2)
def dNum6 (b : List Int) (c : Cur) : Int × Cur := dNum6K b (dBelow b c 8).1 (dBelow b c 8).2
def dWords : List ByteArray := [⟨#[97]⟩, ⟨#[98]⟩, ⟨#[99]⟩, ⟨#[104, 111, 115, 116]⟩, ⟨#[108, 105, 110, 107]⟩, ⟨#[115, 101, 101, 110]⟩, ⟨#[112, 97, 116, 104]⟩, ⟨#[100, 101, 110, 121]⟩, ⟨#[120, 57]⟩, ⟨#[97, 98, 99, 100, 101, 102, 103, 104, 105, 106, 107, 108]⟩]
def dWord (b : List Int) (c : Cur) : ByteArray × Cur := (dWords.getD (dBelow b c 10).1.toNat ⟨#[]⟩, (dBelow b c 10).2)
def dValueK (b : List Int) (k : Int) (c : Cur) : Val × Cur :=
  if k < 4 then (⟨(dBelow b c 5).1, ⟨#[]⟩⟩, (dBelow b c 5).2) else if k = 4 then (⟨0, (dWord b c).1⟩, (dWord b c).2) else (⟨(dNum6 b c).1, ⟨#[]⟩⟩, (dNum6 b c).2)
def dValue (b : List Int) (c : Cur) : Val × Cur := dValueK b (dBelow b c 6).1 (dBelow b c 6).2
def dVals (b : List Int) : Nat → Cur → List Val × Cur
  | 0, c => ([], c)
  | k + 1, c => ((dVals b k c).1 ++ [(dValue b (dVals b k c).2).1], (dValue b (dVals b k c).2).2)
def dPuts (b : List Int) (ar : Int) : Nat → Cur → List (List Val) × Cur
  | 0, c => ([], c)
  | k + 1, c => (putRow (dPuts b ar k c).1 (dVals b ar.toNat (dPuts b ar k c).2).1, (dVals b ar.toNat (dPuts b ar k c).2).2)
def dRel (b : List Int) (ar : Int) (c : Cur) : Relt × Cur := (⟨ar, (dPuts b ar (dBelow b c 6).1.toNat (dBelow b c 6).2).1⟩, (dPuts b ar (dBelow b c 6).1.toNat (dBelow b c 6).2).2)
def dFull (ar n : Int) : Relt := ⟨ar, (List.range n.toNat).map fun (i : Nat) => List.replicate ar.toNat (⟨(i : Int), ⟨#[]⟩⟩ : Val)⟩
/-! ### Bounds -/
theorem noText : (⟨#[]⟩ : ByteArray).toList.isEmpty = true := by decide +kernel
theorem noSize : (⟨#[]⟩ : ByteArray).size ≤ 18 := by decide
theorem dNum6_in (b : List Int) (c : Cur) : 0 ≤ (dNum6 b c).1 ∧ (dNum6 b c).1 ≤ 281474976710655 := by
  have key : ∀ k c, 0 ≤ (dNum6K b k c).1 ∧ (dNum6K b k c).1 ≤ 281474976710655 := fun k c => by
    have h1 := dBelow_lt b c (n := 9) (by decide)
    have h2 := dBelow_lt b c (n := 1000000) (by decide)
    unfold dNum6K
    split
    · omega
    · split
      · dsimp only; omega
      · dsimp only; omega
  exact key _ _
theorem dWords_all : ∀ s ∈ dWords, wordB s = true ∧ s.toList.isEmpty = false ∧ s.size ≤ 12 := by decide +kernel
theorem dWord_in (b : List Int) (c : Cur) : (dWord b c).1 ∈ dWords := by
  have h := dBelow_lt b c (n := 10) (by decide)
  have hl : (dBelow b c 10).1.toNat < dWords.length := by show _ < 10; omega
  unfold dWord
  simp [List.getD, hl]
theorem dValue_ok (b : List Int) (c : Cur) : valOk (dValue b c).1 = true ∧ (dValue b c).1.s.size ≤ 18 := by
  have key : ∀ k c, valOk (dValueK b k c).1 = true ∧ (dValueK b k c).1.s.size ≤ 18 := fun k c => by
    have h1 := dBelow_lt b c (n := 5) (by decide)
    have h2 := dNum6_in b c
    obtain ⟨h3, h4, h5⟩ := dWords_all _ (dWord_in b c)
    unfold dValueK
    split
    · refine ⟨?_, noSize⟩
      rw [valOk_num noText]
      simp only [numB]; simp; omega
    · split
      · refine ⟨?_, by dsimp only; omega⟩
        rw [valOk_word h4]
        simp [h3]
      · refine ⟨?_, noSize⟩
        rw [valOk_num noText]
        simp only [numB]; simp; omega
  exact key _ _
theorem dVals_ok (b : List Int) : ∀ (k : Nat) (c : Cur), (dVals b k c).1.length = k ∧ (∀ v ∈ (dVals b k c).1, valOk v = true) ∧ ∀ v ∈ (dVals b k c).1, v.s.size ≤ 18
  | 0, c => ⟨rfl, fun v h => (by cases h), fun v h => (by cases h)⟩
  | k + 1, c => by
    obtain ⟨h1, h2, h3⟩ := dVals_ok b k c
    have h4 := dValue_ok b (dVals b k c).2
    refine ⟨by simp [dVals, h1], fun v hv => ?_, fun v hv => ?_⟩
    · rcases List.mem_append.1 hv with h | h
      · exact h2 v h
      · rw [List.mem_singleton.1 h]; exact h4.1
    · rcases List.mem_append.1 hv with h | h
      · exact h3 v h
      · rw [List.mem_singleton.1 h]; exact h4.2
/-- A row that may be drawn. -/
def rowSm (r : List Val) : Prop := r.length ≤ 8 ∧ ∀ v ∈ r, v.s.size ≤ 18
theorem dPuts_ok (b : List Int) (ar : Int) : ∀ (k : Nat) (c : Cur), Sorted (dPuts b ar k c).1 ∧ (dPuts b ar k c).1.length ≤ k ∧ (∀ x ∈ (dPuts b ar k c).1, x.length = ar.toNat) ∧ ∀ x ∈ (dPuts b ar k c).1, ∀ v ∈ x, v.s.size ≤ 18
  | 0, c => ⟨Sorted.nil, Nat.le_refl _, fun x h => (by cases h), fun x h => (by cases h)⟩
  | k + 1, c => by
    obtain ⟨h1, h2, h3, h4⟩ := dPuts_ok b ar k c
    obtain ⟨g1, g2, g3⟩ := dVals_ok b ar.toNat (dPuts b ar k c).2
    have h5 := (putRow_len (rows := (dPuts b ar k c).1) (row := (dVals b ar.toNat (dPuts b ar k c).2).1)).2
    refine ⟨putRow_sorted h1 g2, by show (putRow _ _).length ≤ _; omega, fun x hx => ?_, fun x hx => ?_⟩
    · rcases putRow_mem hx with h | h
      · exact h3 x h
      · rw [h]; exact g1
    · rcases putRow_mem hx with h | h
      · exact h4 x h
      · rw [h]; exact g3
/-- A relation that may be drawn. -/
def relSm (r : Relt) : Prop := r.rows.length ≤ 400 ∧ ∀ x ∈ r.rows, rowSm x
theorem relSm_small {r : Relt} (h : relSm r) : smallRel r := ⟨Nat.le_trans h.1 (by decide), fun x hx => ⟨Nat.le_trans (h.2 x hx).1 (by decide), fun v hv => (show v.s.size ≤ 1048576 from Nat.le_trans ((h.2 x hx).2 v hv) (by decide))⟩⟩
theorem dRel_sm (b : List Int) {ar : Int} (c : Cur) (h : ar ≤ 8) : relSm (dRel b ar c).1 := by
  have h0 := dBelow_lt b c (n := 6) (by decide)
  obtain ⟨h1, h2, h3, h4⟩ := dPuts_ok b ar (dBelow b c 6).1.toNat (dBelow b c 6).2
  exact ⟨by show (dPuts b ar _ _).1.length ≤ 400; omega, fun x hx => ⟨by rw [h3 x hx]; omega, h4 x hx⟩⟩
theorem dFull_sm {ar n : Int} (h : ar ≤ 8) (hn : n ≤ 400) : relSm (dFull ar n) := by
  refine ⟨by simp [dFull]; omega, fun x hx => ?_⟩
  obtain ⟨i, _, rfl⟩ := List.mem_map.1 hx
  refine ⟨by simp; omega, fun v hv => ?_⟩
  rw [List.eq_of_mem_replicate hv]; exact noSize
theorem set_mem {α : Type} {xs : List α} {i : Nat} {x y : α} (h : y ∈ xs.set i x) : y ∈ xs ∨ y = x := by
  rcases List.mem_or_eq_of_mem_set h with h | h
  · exact .inl h
  · exact .inr h
end Go.Proofs.YtibhoanjglfaoaaGreat

/- Pairs of relations, relations with a row, joins and ways that are drawn, in plain words. -/
namespace Go.Proofs.YtibhoanjglfaoaaGreat
open Go.RowKit
set_option linter.unusedVariables false

theorem dRel_srt (b : List Int) {ar : Int} (c : Cur) (h : ar ≤ 8) : Sorted (dRel b ar c).1.rows ∧ (dRel b ar c).1.rows.length ≤ 5 := by
  have h0 := dBelow_lt b c (n := 6) (by decide)
  obtain ⟨h1, h2, _, _⟩ := dPuts_ok b ar (dBelow b c 6).1.toNat (dBelow b c 6).2
  exact ⟨h1, by show (dPuts b ar _ _).1.length ≤ 5; omega⟩
end Go.Proofs.YtibhoanjglfaoaaGreat

/- The laws' own functions: GenC (printed by gen.py) -/
namespace Go.Proofs.YtibhoanjglfaoaaGreat
open Go.RowKit
set_option linter.unusedVariables false
set_option maxRecDepth 100000

structure Namedt where
  name : ByteArray
  rel : Relt
def namedE : Enc Namedt := isoE (pairE strE (pairE relE unitE)) (fun x => (x.name, x.rel, ()))
def smallNamed (x : Namedt) : Prop := x.name.size ≤ 1048576 ∧ smallRel x.rel

structure Storet where
  rels : List (Namedt)
def smallStore (x : Storet) : Prop := (x.rels.length ≤ 1048576 ∧ ∀ y ∈ x.rels, smallNamed y)

end Go.Proofs.YtibhoanjglfaoaaGreat

/- Right stores and like stores, in plain words. -/
namespace Go.Proofs.YtibhoanjglfaoaaGreat
open Go.RowKit
set_option linter.unusedVariables false

/-! A test at each place of a list. -/
def AllAt {n : Nat} (p : (k : Nat) → k < n → Bool) (k : Nat) : Prop := ∀ j (h : j < n), j < k → p j h = true
theorem AllAt.zero {n : Nat} {p : (k : Nat) → k < n → Bool} : AllAt p 0 := fun _ _ h => absurd h (by omega)
theorem AllAt.succ {n : Nat} {p : (k : Nat) → k < n → Bool} {k : Nat} (h : AllAt p k) (hk : k < n) (hp : p k hk = true) : AllAt p (k + 1) := fun j hj hjk => by
  rcases Nat.lt_or_ge j k with h1 | h1
  · exact h j hj h1
  · obtain rfl : j = k := by omega
    exact hp
def everyB {n : Nat} (p : (k : Nat) → k < n → Bool) : Bool := (List.range n).all fun k => if h : k < n then p k h else true
theorem everyB_get {n : Nat} {p : (k : Nat) → k < n → Bool} (h : everyB p = true) {j : Nat} (hj : j < n) : p j hj = true := by
  unfold everyB at h
  rw [List.all_eq_true] at h
  have := h j (by simpa using hj)
  rwa [dif_pos hj] at this
theorem AllAt.all {n : Nat} {p : (k : Nat) → k < n → Bool} {k : Nat} (h : AllAt p k) (hk : n ≤ k) : everyB p = true := by
  unfold everyB
  rw [List.all_eq_true]
  intro j hj
  have hj' : j < n := by simpa using hj
  rw [dif_pos hj']
  exact h j hj' (by omega)
theorem everyB_bad {n : Nat} {p : (k : Nat) → k < n → Bool} {k : Nat} (hk : k < n) (hp : p k hk = false) : everyB p = false := by
  cases h : everyB p
  · rfl
  · have := everyB_get h hk
    rw [hp] at this; cases this

def namedC (x : Namedt) : List Cell := [.c (.string x.name), .c (.int .i64 x.rel.arity), .sl rowE x.rel.rows]
instance : CellsOf namedE namedC := cellsIso (e := pairE strE (pairE relE unitE)) (fun x : Namedt => (x.name, x.rel, ()))
def storeC (s : Storet) : List Cell := [.sl namedE s.rels]
theorem inv_str {g : Gh} {l : Locs} {w : World} {v : Value} {s : ByteArray} (h : VR1 g l w v (.one (.c (.string s)))) : v = .string s ∧ s.size ≤ maxLen := h
theorem wordOkI_c (s : ByteArray) : AC Tryz.prog 70 [.one (.c (.string s))] [] (.one (.c (.bool (wordB s)))) [] :=
  AC.pure ⟨_, _, Tryz.func70, rfl, rfl⟩ trivial fun w g cargs h => by
    obtain ⟨x, rfl, h1⟩ := inv1 h
    obtain ⟨rfl, hs⟩ := inv_str h1
    exact (wordOkI_any s w hs).mono fun e w' ⟨h1, h2⟩ => ⟨h1, below_eq h2⟩
theorem wordOkS_c (s : ByteArray) : AC Tryz.prog 98 [.one (.c (.string s))] [] (.one (.c (.bool (wordB s)))) [] :=
  AC.pure ⟨_, _, Tryz.func98, rfl, rfl⟩ trivial fun w g cargs h => by
    obtain ⟨x, rfl, h1⟩ := inv1 h
    obtain ⟨rfl, hs⟩ := inv_str h1
    exact (wordOkS_any s w hs).mono fun e w' ⟨h1, h2⟩ => ⟨h1, below_eq h2⟩

def bless (a b : ByteArray) : Bool := Op.bytesLess a.toList b.toList
def namedAt (l : List Namedt) (k : Nat) (h : k < l.length) : Bool := wordB l[k].name && (relOk l[k].rel && (decide (k = 0) || bless (l[k - 1]'(by omega)).name l[k].name))
def storeOk (s : Storet) : Bool := everyB (namedAt s.rels) && decide (s.rels.length ≤ 24)
theorem storeOk_len {s : Storet} (h : 24 < s.rels.length) : storeOk s = false := by
  have : decide (s.rels.length ≤ 24) = false := decide_eq_false (by omega)
  unfold storeOk; rw [this]; simp
theorem storeOk_bad {s : Storet} {k : Nat} (hk : k < s.rels.length) (h : namedAt s.rels k hk = false) : storeOk s = false := by
  unfold storeOk; rw [everyB_bad hk h]; rfl
theorem storeOk_good {s : Storet} {k : Nat} (h : AllAt (namedAt s.rels) k) (hk : s.rels.length ≤ k) (hl : s.rels.length ≤ 24) : storeOk s = true := by
  unfold storeOk; rw [h.all hk, decide_eq_true hl]; rfl
theorem storeOk_rel {s : Storet} (h : storeOk s = true) {k : Nat} (hk : k < s.rels.length) : relOk s.rels[k].rel = true := by
  simp only [storeOk, Bool.and_eq_true] at h
  have := everyB_get h.1 hk
  simp only [namedAt, Bool.and_eq_true] at this
  exact this.2.1
theorem storeOk_max {s : Storet} (h : storeOk s = true) : s.rels.length ≤ 24 := by
  simp only [storeOk, Bool.and_eq_true, decide_eq_true_eq] at h
  exact h.2
theorem namedAt_word {l : List Namedt} {k : Nat} (hk : k < l.length) (h : wordB l[k].name = false) : namedAt l k hk = false := by simp [namedAt, h]
theorem namedAt_rel {l : List Namedt} {k : Nat} (hk : k < l.length) (h : relOk l[k].rel = false) : namedAt l k hk = false := by simp [namedAt, h]
theorem namedAt_order {l : List Namedt} {k : Nat} (hk : k < l.length) (h0 : 0 < k) (h : Op.bytesLess (l[k - 1]'(by omega)).name.toList l[k].name.toList = false) : namedAt l k hk = false := by
  have : decide (k = 0) = false := decide_eq_false (by omega)
  simp [namedAt, this, bless, h]
theorem namedAt_first {l : List Namedt} {k : Nat} (hk : k < l.length) (h0 : k = 0) (h1 : wordB l[k].name = true) (h2 : relOk l[k].rel = true) : namedAt l k hk = true := by
  have : decide (k = 0) = true := decide_eq_true h0
  simp only [namedAt, this, h1, h2, Bool.true_or, Bool.and_self]
theorem namedAt_next {l : List Namedt} {k : Nat} (hk : k < l.length) (h1 : wordB l[k].name = true) (h2 : relOk l[k].rel = true) (h : Op.bytesLess (l[k - 1]'(by omega)).name.toList l[k].name.toList = true) : namedAt l k hk = true := by
  simp [namedAt, bless, h, h1, h2]

def likeNamed (x y : Namedt) : Bool := x.name == y.name && likeRel x.rel y.rel
theorem likeNamed_name {x y : Namedt} (h : (x.name == y.name) = false) : likeNamed x y = false := by simp [likeNamed, h]
def likeNames (a b : List Namedt) : Bool := if h : a.length = b.length then everyB (n := a.length) (fun k hk => likeNamed a[k] (b[k]'(by omega))) else false
theorem likeNames_len {a b : List Namedt} (h : ¬ a.length = b.length) : likeNames a b = false := by simp [likeNames, h]
theorem likeNames_at {a b : List Namedt} {k : Nat} (hk : k < a.length) (hk' : k < b.length) (hp : likeNamed a[k] b[k] = false) : likeNames a b = false := by
  unfold likeNames
  split
  · exact everyB_bad hk hp
  · rfl
def LikeN (a b : List Namedt) (k : Nat) : Prop := ∀ j (h : j < a.length) (h' : j < b.length), j < k → likeNamed a[j] b[j] = true
theorem LikeN.zero {a b : List Namedt} : LikeN a b 0 := fun _ _ _ h => absurd h (by omega)
theorem LikeN.succ {a b : List Namedt} {k : Nat} (h : LikeN a b k) (hk : k < a.length) (hk' : k < b.length) (hs : likeNamed a[k] b[k] = true) : LikeN a b (k + 1) := fun j hj hj' hjk => by
  rcases Nat.lt_or_ge j k with h1 | h1
  · exact h j hj hj' h1
  · obtain rfl : j = k := by omega
    exact hs
theorem likeNames_eq {a b : List Namedt} {k : Nat} (hl : a.length = b.length) (h : LikeN a b k) (hk : a.length ≤ k) : likeNames a b = true := by
  unfold likeNames
  rw [dif_pos hl]
  exact AllAt.all (k := k) (fun j hj hjk => h j hj (by omega) hjk) hk
def sameStore (a b : Storet) : Bool := storeOk a && (storeOk b && likeNames a.rels b.rels)
theorem sameStore_a {a b : Storet} (h : storeOk a = false) : sameStore a b = false := by simp [sameStore, h]
theorem sameStore_b {a b : Storet} (h : storeOk b = false) : sameStore a b = false := by simp [sameStore, h]
theorem sameStore_ok {a b : Storet} (h : storeOk a = true) (h' : storeOk b = true) : sameStore a b = likeNames a.rels b.rels := by simp [sameStore, h, h']
theorem sameStore_len {a b : Storet} (h : ¬ a.rels.length = b.rels.length) : sameStore a b = false := by simp [sameStore, likeNames_len h]
theorem sameStore_at {a b : Storet} {k : Nat} (hk : k < a.rels.length) (hk' : k < b.rels.length) (h : likeNamed a.rels[k] b.rels[k] = false) : sameStore a b = false := by simp [sameStore, likeNames_at hk hk' h]
theorem likeNamed_rel {x y : Namedt} (h1 : relOk x.rel = true) (h2 : relOk y.rel = true) (h : sameRel x.rel y.rel = false) : likeNamed x y = false := by
  rw [sameRel_like h1 h2] at h
  simp [likeNamed, h]
theorem likeNamed_yes {x y : Namedt} (h1 : relOk x.rel = true) (h2 : relOk y.rel = true) (hn : (x.name == y.name) = true) (h : sameRel x.rel y.rel = true) : likeNamed x y = true := by
  rw [sameRel_like h1 h2] at h
  simp [likeNamed, h, hn]
end Go.Proofs.YtibhoanjglfaoaaGreat

/- A relation put under a name, in plain words. -/
namespace Go.Proofs.YtibhoanjglfaoaaGreat
open Go.RowKit
set_option linter.unusedVariables false

def leB (a b : ByteArray) : Bool := Op.bytesLess a.toList b.toList || a == b
def noNamed : Namedt := ⟨⟨#[]⟩, ⟨0, []⟩⟩
def stepB (dn le ne : Bool) (nw x : Namedt) (out : List Namedt) : List Namedt := bif ne then (bif !dn && le then out ++ [nw] else out) ++ [x] else (bif !dn && le then out ++ [nw] else out)
def setTo (rels : List Namedt) (nw : Namedt) : Nat → Bool × List Namedt
  | 0 => (false, [])
  | k + 1 => ((setTo rels nw k).1 || leB nw.name (rels.getD k noNamed).name, stepB (setTo rels nw k).1 (leB nw.name (rels.getD k noNamed).name) (!((rels.getD k noNamed).name == nw.name)) nw (rels.getD k noNamed) (setTo rels nw k).2)
def setRel (rels : List Namedt) (nw : Namedt) : List Namedt := bif (setTo rels nw rels.length).1 then (setTo rels nw rels.length).2 else (setTo rels nw rels.length).2 ++ [nw]
theorem setTo_next {rels : List Namedt} {nw : Namedt} {k : Nat} (hk : k < rels.length) {dn le ne : Bool} (h1 : (setTo rels nw k).1 = dn) (h2 : leB nw.name rels[k].name = le) (h3 : (!(rels[k].name == nw.name)) = ne) :
    setTo rels nw (k + 1) = (dn || le, stepB dn le ne nw rels[k] (setTo rels nw k).2) := by
  have e : rels.getD k noNamed = rels[k] := by simp [List.getD, hk]
  simp only [setTo, e, h1, h2, h3]
theorem setTo_skip {rels : List Namedt} {nw : Namedt} {k : Nat} (hk : k < rels.length) {ne : Bool} (h1 : (setTo rels nw k).1 = true) (h3 : (!(rels[k].name == nw.name)) = ne) :
    setTo rels nw (k + 1) = (true, stepB true true ne nw rels[k] (setTo rels nw k).2) := by
  rw [setTo_next hk h1 rfl h3]
  cases leB nw.name rels[k].name <;> cases ne <;> rfl
theorem stepB_len (dn le ne : Bool) (nw x : Namedt) (out : List Namedt) : (stepB dn le ne nw x out).length ≤ out.length + (!dn && le).toNat + 1 := by
  unfold stepB
  cases dn <;> cases le <;> cases ne <;> simp
theorem setTo_len {rels : List Namedt} {nw : Namedt} : ∀ k, (setTo rels nw k).2.length ≤ k + (setTo rels nw k).1.toNat
  | 0 => Nat.zero_le _
  | k + 1 => by
    have h1 := setTo_len (rels := rels) (nw := nw) k
    have h2 := stepB_len (setTo rels nw k).1 (leB nw.name (rels.getD k noNamed).name) (!((rels.getD k noNamed).name == nw.name)) nw (rels.getD k noNamed) (setTo rels nw k).2
    simp only [setTo]
    generalize leB nw.name (rels.getD k noNamed).name = le at *
    generalize setTo rels nw k = p at *
    obtain ⟨dn, out⟩ := p
    cases dn <;> cases le <;> simp at h1 h2 ⊢ <;> omega
theorem setRel_len {rels : List Namedt} {nw : Namedt} : (setRel rels nw).length ≤ rels.length + 1 := by
  have h1 := setTo_len (rels := rels) (nw := nw) rels.length
  unfold setRel
  generalize setTo rels nw rels.length = p at *
  obtain ⟨dn, out⟩ := p
  cases dn <;> simp at h1 ⊢ <;> omega
theorem stepB_all {p : Namedt → Prop} {dn le ne : Bool} {nw x : Namedt} {out : List Namedt} (h1 : p nw) (h2 : p x) (h3 : ∀ y ∈ out, p y) : ∀ y ∈ stepB dn le ne nw x out, p y := by
  intro y hy
  unfold stepB at hy
  cases dn <;> cases le <;> cases ne <;> simp at hy
  all_goals
    first
      | exact h3 y hy
      | (rcases hy with hy | hy
         · exact h3 y hy
         · first
             | (rcases hy with rfl | rfl
                · exact h1
                · exact h2)
             | (subst hy; first | exact h1 | exact h2))
theorem setTo_all {p : Namedt → Prop} {rels : List Namedt} {nw : Namedt} (h1 : p nw) (h2 : ∀ y ∈ rels, p y) : ∀ k, k ≤ rels.length → ∀ y ∈ (setTo rels nw k).2, p y
  | 0, _ => fun y hy => by cases hy
  | k + 1, hk => by
    have e : rels.getD k noNamed = rels[k] := by simp [List.getD, show k < rels.length by omega]
    simp only [setTo]
    exact stepB_all h1 (by rw [e]; exact h2 _ (List.getElem_mem _)) (setTo_all h1 h2 k (by omega))
theorem setRel_all {p : Namedt → Prop} {rels : List Namedt} {nw : Namedt} (h1 : p nw) (h2 : ∀ y ∈ rels, p y) : ∀ y ∈ setRel rels nw, p y := by
  have h := setTo_all h1 h2 rels.length (Nat.le_refl _)
  unfold setRel
  cases hd : (setTo rels nw rels.length).1
  · intro y hy
    rcases List.mem_append.1 hy with hy | hy
    · exact h y hy
    · rw [List.mem_singleton.1 hy]; exact h1
  · exact h
/-- All rows of a list. -/
def rowsN (l : List Namedt) : Nat := (l.map fun x => x.rel.rows.length).sum
theorem rowsN_cons (x : Namedt) (a : List Namedt) : rowsN (x :: a) = x.rel.rows.length + rowsN a := by simp [rowsN]
theorem rowsN_nil : rowsN [] = 0 := rfl
theorem rowsN_app (a b : List Namedt) : rowsN (a ++ b) = rowsN a + rowsN b := by simp [rowsN]
theorem rowsN_one (x : Namedt) : rowsN [x] = x.rel.rows.length := by simp [rowsN]
theorem setTo_rows {rels : List Namedt} {nw : Namedt} : ∀ k, k ≤ rels.length → rowsN (setTo rels nw k).2 ≤ rowsN (rels.take k) + (if (setTo rels nw k).1 then nw.rel.rows.length else 0)
  | 0, _ => Nat.zero_le _
  | k + 1, hk => by
    have h1 := setTo_rows (rels := rels) (nw := nw) k (by omega)
    have e : rels.getD k noNamed = rels[k] := by simp [List.getD, show k < rels.length by omega]
    rw [List.take_succ_eq_append_getElem (show k < rels.length by omega), rowsN_app, rowsN_one]
    simp only [setTo, e]
    generalize (!(rels[k].name == nw.name)) = ne
    generalize leB nw.name rels[k].name = le
    generalize setTo rels nw k = p at *
    obtain ⟨dn, out⟩ := p
    cases dn <;> cases le <;> cases ne <;> simp [stepB, rowsN_app, rowsN_cons, rowsN_nil] at h1 ⊢ <;> omega
theorem setRel_rows {rels : List Namedt} {nw : Namedt} : rowsN (setRel rels nw) ≤ rowsN rels + nw.rel.rows.length := by
  have h1 := setTo_rows (rels := rels) (nw := nw) rels.length (Nat.le_refl _)
  rw [List.take_length] at h1
  unfold setRel
  generalize setTo rels nw rels.length = p at *
  obtain ⟨dn, out⟩ := p
  cases dn <;> simp [rowsN_app, rowsN_one] at h1 ⊢ <;> omega
theorem rowsN_set (x : Namedt) : ∀ (xs : List Namedt) (i : Nat) (h : i < xs.length), rowsN (xs.set i x) + xs[i].rel.rows.length = rowsN xs + x.rel.rows.length
  | y :: ys, 0, _ => by simp [rowsN]; omega
  | y :: ys, i + 1, h => by
    have := rowsN_set x ys i (by simpa using h)
    simp only [rowsN, List.set_cons_succ, List.map_cons, List.sum_cons, List.getElem_cons_succ] at *
    omega
end Go.Proofs.YtibhoanjglfaoaaGreat

/- Stores that are drawn, in plain words. -/
namespace Go.Proofs.YtibhoanjglfaoaaGreat
open Go.RowKit
set_option linter.unusedVariables false

theorem setTo_len2 {rels : List Namedt} {nw : Namedt} (k : Nat) : (setTo rels nw k).2.length ≤ k + 1 := by
  have h1 := setTo_len (rels := rels) (nw := nw) k
  have h2 := Bool.toNat_le (setTo rels nw k).1
  omega
/-- A named relation that may be drawn. -/
def namedSm (x : Namedt) : Prop := x.name.size ≤ 18 ∧ relSm x.rel
theorem namedSm_small {x : Namedt} (h : namedSm x) : smallNamed x := ⟨Nat.le_trans h.1 (by decide), relSm_small h.2⟩
def drawSt (b : List Int) : Nat → Cur → List Namedt × Cur
  | 0, c => ([], c)
  | k + 1, c => (setRel (drawSt b k c).1 ⟨(dWord b (drawSt b k c).2).1, (dRel b (dBelow b (dWord b (drawSt b k c).2).2 3).1 (dBelow b (dWord b (drawSt b k c).2).2 3).2).1⟩, (dRel b (dBelow b (dWord b (drawSt b k c).2).2 3).1 (dBelow b (dWord b (drawSt b k c).2).2 3).2).2)
def bigName : ByteArray := ⟨#[98, 105, 103]⟩
def dStore1 (b : List Int) (s : List Namedt × Cur) : List Namedt × Cur := if (dBelow b s.2 25).1 = 0 then (setRel s.1 ⟨bigName, dFull 2 300⟩, (dBelow b s.2 25).2) else (s.1, (dBelow b s.2 25).2)
def dStore (b : List Int) (c : Cur) : List Namedt × Cur := dStore1 b (drawSt b (dBelow b c 4).1.toNat (dBelow b c 4).2)
/-- The rows, the names and the number of a store's relations. -/
structure StSm (s : List Namedt) (n m : Nat) : Prop where
  all : ∀ y ∈ s, namedSm y
  len : s.length ≤ n
  rows : rowsN s ≤ m
theorem StSm.put {s : List Namedt} {n m : Nat} (h : StSm s n m) {x : Namedt} (hx : namedSm x) : StSm (setRel s x) (n + 1) (m + x.rel.rows.length) :=
  ⟨setRel_all hx h.all, by have := setRel_len (rels := s) (nw := x); have := h.len; omega, by have := setRel_rows (rels := s) (nw := x); have := h.rows; omega⟩
theorem StSm.le {s : List Namedt} {n m n' m' : Nat} (h : StSm s n m) (h1 : n ≤ n') (h2 : m ≤ m') : StSm s n' m' := ⟨h.all, Nat.le_trans h.len h1, Nat.le_trans h.rows h2⟩
theorem drawSt_sm (b : List Int) : ∀ (k : Nat) (c : Cur), StSm (drawSt b k c).1 k (5 * k)
  | 0, c => ⟨fun y hy => (by cases hy), Nat.le_refl _, Nat.le_refl _⟩
  | k + 1, c => by
    have h := drawSt_sm b k c
    have h1 := (dWords_all _ (dWord_in b (drawSt b k c).2)).2.2
    have h2 := dBelow_lt b (dWord b (drawSt b k c).2).2 (n := 3) (by decide)
    have h3 := dRel_sm b (ar := (dBelow b (dWord b (drawSt b k c).2).2 3).1) (dBelow b (dWord b (drawSt b k c).2).2 3).2 (by omega)
    have h4 := dRel_srt b (ar := (dBelow b (dWord b (drawSt b k c).2).2 3).1) (dBelow b (dWord b (drawSt b k c).2).2 3).2 (by omega)
    exact (h.put (x := ⟨_, _⟩) ⟨by dsimp only; omega, h3⟩).le (Nat.le_refl _) (by have h5 := h4.2; show 5 * k + (dRel b _ _).1.rows.length ≤ 5 * (k + 1); omega)
theorem dFull_rows (ar n : Int) : (dFull ar n).rows.length = n.toNat := by simp [dFull]
theorem dStore_sm (b : List Int) (c : Cur) : StSm (dStore b c).1 4 315 := by
  have h0 := dBelow_lt b c (n := 4) (by decide)
  have h := drawSt_sm b (dBelow b c 4).1.toNat (dBelow b c 4).2
  unfold dStore dStore1
  split
  · exact (h.put (x := ⟨bigName, dFull 2 300⟩) ⟨by decide, dFull_sm (by decide) (by decide)⟩).le (by omega) (by dsimp only; rw [dFull_rows]; omega)
  · exact h.le (by omega) (by omega)
theorem StSm.set {s : List Namedt} {n m : Nat} (h : StSm s n m) {x : Namedt} (hx : namedSm x) {i : Nat} (hi : i < s.length) : StSm (s.set i x) n (m + x.rel.rows.length - s[i].rel.rows.length) := by
  have h1 := rowsN_set x s i hi
  have h2 := h.rows
  refine ⟨fun y hy => ?_, by rw [List.length_set]; exact h.len, by omega⟩
  rcases set_mem hy with hy | hy
  · exact h.all y hy
  · rw [hy]; exact hx
theorem getD_nm {s : List Namedt} {i : Nat} (h : i < s.length) : s.getD i noNamed = s[i] := by simp [List.getD, h]
theorem StSm.small {s : List Namedt} {n m : Nat} (h : StSm s n m) (hn : n ≤ 1048575) : smallStore ⟨s⟩ := ⟨by have := h.len; show s.length ≤ _; omega, fun y hy => namedSm_small (h.all y hy)⟩
end Go.Proofs.YtibhoanjglfaoaaGreat

/- Stores that are drawn out of stores, in plain words. -/
namespace Go.Proofs.YtibhoanjglfaoaaGreat
open Go.RowKit
set_option linter.unusedVariables false

def nxIdx (b : List Int) (r : Relt) (c : Cur) : Int × Cur := dBelow b c (r.rows.length : Int)
def nxDrop (b : List Int) (r : Relt) (k : Int) (c : Cur) : Relt × Cur :=
  if k < 2 ∧ 0 < r.rows.length then ((relDrop r (r.rows.getD (nxIdx b r c).1.toNat [])).1, (nxIdx b r c).2) else (r, c)
def nxAdd (b : List Int) (r : Relt) (k : Int) (c : Cur) : Relt × Cur :=
  if 0 < k then (if (relAdd r (dVals b r.arity.toNat c).1).2 = 0 then (relAdd r (dVals b r.arity.toNat c).1).1 else r, (dVals b r.arity.toNat c).2) else (r, c)
def nxRel (b : List Int) (r : Relt) (c : Cur) : Relt × Cur :=
  nxAdd b (nxDrop b r (dBelow b c 4).1 (dBelow b c 4).2).1 (dBelow b c 4).1 (nxDrop b r (dBelow b c 4).1 (dBelow b c 4).2).2
def nextTo (b : List Int) (rels : List Namedt) : Nat → Cur → List Namedt × Cur
  | 0, c => (rels, c)
  | k + 1, c => ((nextTo b rels k c).1.set k ⟨((nextTo b rels k c).1.getD k noNamed).name, (nxRel b ((nextTo b rels k c).1.getD k noNamed).rel (nextTo b rels k c).2).1⟩, (nxRel b ((nextTo b rels k c).1.getD k noNamed).rel (nextTo b rels k c).2).2)
def dNext (b : List Int) (rels : List Namedt) (c : Cur) : List Namedt × Cur := nextTo b rels rels.length c
/-- What a drawn relation of a store has. -/
def nxSm (x : Namedt) : Prop := smallNamed x ∧ x.rel.arity ≤ 8
theorem relDrop_ar {r : Relt} {row : List Val} (h : r.arity ≤ 8) : (relDrop r row).1.arity ≤ 8 := by
  unfold relDrop; split
  · exact h
  · show (0 : Int) ≤ 8; decide
theorem relAdd_ar {r : Relt} {row : List Val} (h : r.arity ≤ 8) : (relAdd r row).1.arity ≤ 8 := by
  unfold relAdd; split
  · split
    · show (0 : Int) ≤ 8; decide
    · exact h
  · show (0 : Int) ≤ 8; decide
theorem dVals_small (b : List Int) (n : Nat) (c : Cur) (h : n ≤ 8) : smallRow (dVals b n c).1 := by
  obtain ⟨h1, _, h3⟩ := dVals_ok b n c
  exact ⟨by omega, fun v hv => (show v.s.size ≤ 1048576 from Nat.le_trans (h3 v hv) (by decide))⟩
theorem nxDrop_sm {b : List Int} {r : Relt} {k : Int} {c : Cur} (h : smallRel r) (h2 : r.arity ≤ 8) : smallRel (nxDrop b r k c).1 ∧ (nxDrop b r k c).1.arity ≤ 8 := by
  unfold nxDrop; split
  · exact ⟨relDrop_small h, relDrop_ar h2⟩
  · exact ⟨h, h2⟩
theorem nxAdd_sm {b : List Int} {r : Relt} {k : Int} {c : Cur} (h : smallRel r) (h2 : r.arity ≤ 8) : smallRel (nxAdd b r k c).1 ∧ (nxAdd b r k c).1.arity ≤ 8 := by
  unfold nxAdd; split
  · dsimp only
    split
    · exact ⟨relAdd_small h (dVals_small b _ c (by omega)), relAdd_ar h2⟩
    · exact ⟨h, h2⟩
  · exact ⟨h, h2⟩
theorem nxRel_sm {b : List Int} {r : Relt} {c : Cur} (h : smallRel r) (h2 : r.arity ≤ 8) : smallRel (nxRel b r c).1 ∧ (nxRel b r c).1.arity ≤ 8 := by
  have h3 := nxDrop_sm (b := b) (k := (dBelow b c 4).1) (c := (dBelow b c 4).2) h h2
  exact nxAdd_sm h3.1 h3.2
theorem noNamed_sm : nxSm noNamed := ⟨⟨Nat.zero_le _, ⟨Nat.zero_le _, fun x hx => by cases hx⟩⟩, by decide⟩
theorem nextTo_sm {b : List Int} {rels : List Namedt} (h : ∀ y ∈ rels, nxSm y) : ∀ (k : Nat) (c : Cur), (nextTo b rels k c).1.length = rels.length ∧ ∀ y ∈ (nextTo b rels k c).1, nxSm y
  | 0, c => ⟨rfl, h⟩
  | k + 1, c => by
    obtain ⟨h1, h2⟩ := nextTo_sm h k c
    refine ⟨by simp only [nextTo, List.length_set]; exact h1, fun y hy => ?_⟩
    have hx : nxSm ((nextTo b rels k c).1.getD k noNamed) := by
      by_cases hk : k < (nextTo b rels k c).1.length
      · rw [getD_nm hk]; exact h2 _ (List.getElem_mem hk)
      · have : (nextTo b rels k c).1.getD k noNamed = noNamed := by simp [List.getD, List.getElem?_eq_none (show (nextTo b rels k c).1.length ≤ k by omega)]
        rw [this]; exact noNamed_sm
    rcases set_mem hy with hy | hy
    · exact h2 y hy
    · rw [hy]
      have := nxRel_sm (b := b) (c := (nextTo b rels k c).2) hx.1.2 hx.2
      exact ⟨⟨hx.1.1, this.1⟩, this.2⟩
end Go.Proofs.YtibhoanjglfaoaaGreat

/- The abstract walk: arrays of one's own that are made, filled and grown; what is put into them becomes theirs. -/
namespace Go.Proofs.YtibhoanjglfaoaaGreat
open Go.RowKit
set_option linter.unusedVariables false

/-! ### Elements ars one row of cells -/
theorem FR.keep {w w' : World} : ∀ {vs : List Value} {cs : List Cell} {b : List Nat}, FR w vs cs b → (∀ i ∈ b, w'.heap[i]? = w.heap[i]?) → w.heap.size ≤ w'.heap.size → FR w' vs cs b
  | [], [], b, h, _, _ => h
  | v :: vs, c :: cs, b, h, hk, hs => by
    obtain ⟨b1, b2, rfl, h1, h2⟩ := h
    refine ⟨b1, b2, rfl, ?_, FR.keep h2 (fun i hi => hk i (List.mem_append_right _ hi)) hs⟩
    cases c with
    | c u => exact h1
    | sl e xs =>
      obtain ⟨a, n, cap, h3, h4⟩ := h1
      exact ⟨a, n, cap, h3, h4.keep (fun i hi => hk i (List.mem_append_left _ hi)) hs⟩
    | rx e x us b j =>
      obtain ⟨h3, h4, rfl⟩ := h1
      exact ⟨h3, e.keep h4 (fun i hi => hk i (List.mem_append_left _ hi)) hs, rfl⟩
    | _ => exact h1.elim
theorem FR.one {w : World} : ∀ {vs : List Value} {cs : List Cell} {b : List Nat}, FR w vs cs b → ∀ u ∈ vs, u.oneCell' = true
  | [], [], b, _, u, hu => by cases hu
  | v :: vs, c :: cs, b, h, u, hu => by
    obtain ⟨b1, b2, rfl, h1, h2⟩ := h
    rcases List.mem_cons.1 hu with rfl | hu
    · cases c with
      | c u => rw [h1.1]; exact one_of_wf h1.2.1
      | sl e xs => obtain ⟨a, n, cap, rfl, _⟩ := h1; rfl
      | rx e x us b j => exact h1.1.2
      | _ => exact h1.elim
    · exact FR.one h2 u hu
theorem FR.length {w : World} : ∀ {vs : List Value} {cs : List Cell} {b : List Nat}, FR w vs cs b → vs.length = cs.length
  | [], [], b, _ => rfl
  | v :: vs, c :: cs, b, h => by
    obtain ⟨b1, b2, rfl, h1, h2⟩ := h
    simp [FR.length h2]

section
variable {α : Type} {e : Enc α} {f : α → List Cell} [hc : CellsOf e f] {w : World} {g : Nat}
theorem Elems.flat : ∀ {xs : List α} {bss : List (List Nat)} {off : Nat}, Elems e w g off xs bss →
    ∃ vs, FR w vs (xs.flatMap f) bss.flatten ∧ vs.length = xs.length * e.size ∧ ∀ j u, vs[j]? = some u → w.cell? ⟨g, off + j, none⟩ = some u
  | [], bss, off, h => by
    have : bss = [] := List.eq_nil_of_length_eq_zero h.1
    subst this
    exact ⟨[], rfl, by simp, fun j u hu => by simp at hu⟩
  | x :: xs, [], off, h => by have := h.1; simp at this
  | x :: xs, b :: bss, off, h => by
    obtain ⟨cs, h1, h2⟩ := h.2 0 x b rfl rfl
    have ht : Elems e w g (off + e.size) xs bss := ⟨by simpa using h.1, fun i y c hy hcc => by
      obtain ⟨ds, h3, h4⟩ := h.2 (i + 1) y c (by simpa using hy) (by simpa using hcc)
      exact ⟨ds, h3, fun j u hu => by rw [show off + e.size + i * e.size + j = off + (i + 1) * e.size + j by rw [Nat.add_mul]; omega]; exact h4 j u hu⟩⟩
    obtain ⟨vs, h5, h6, h7⟩ := Elems.flat ht
    have hl := e.len h1
    refine ⟨cs ++ vs, ?_, by rw [List.length_append, hl, h6, List.length_cons, Nat.add_mul]; omega, fun j u hu => ?_⟩
    · rw [List.flatMap_cons, List.flatten_cons]
      exact FR.app.2 ⟨cs, vs, b, bss.flatten, rfl, rfl, hc.iff.1 h1, h5⟩
    · rcases Nat.lt_or_ge j cs.length with hj | hj
      · rw [List.getElem?_append_left hj] at hu
        have := h2 j u hu
        simpa using this
      · rw [List.getElem?_append_right hj] at hu
        have := h7 _ u hu
        rw [hl] at this
        rw [show off + j = off + e.size + (j - e.size) by omega]
        exact this
theorem Elems.ofFlat : ∀ {xs : List α} {vs : List Value} {bs : List Nat} {off : Nat}, FR w vs (xs.flatMap f) bs → (∀ j u, vs[j]? = some u → w.cell? ⟨g, off + j, none⟩ = some u) →
    ∃ bss, bss.flatten = bs ∧ Elems e w g off xs bss
  | [], vs, bs, off, h, _ => by
    cases vs with
    | nil =>
      have : bs = [] := h
      subst this
      exact ⟨[], rfl, rfl, fun i x b hx => by simp at hx⟩
    | cons v vs => exact h.elim
  | x :: xs, vs, bs, off, h, hv => by
    rw [List.flatMap_cons] at h
    obtain ⟨v1, v2, b1, b2, rfl, rfl, h1, h2⟩ := FR.app.1 h
    have hr := hc.iff.2 h1
    have hl := e.len hr
    obtain ⟨bss, rfl, hE⟩ := Elems.ofFlat (off := off + e.size) h2 (fun j u hu => by
      rw [show off + e.size + j = off + (v1.length + j) by omega]
      exact hv _ u (by rw [List.getElem?_append_right (by omega)]; simpa using hu))
    refine ⟨b1 :: bss, by simp, by simp [hE.1], fun i y b hy hb => ?_⟩
    cases i with
    | zero =>
      simp at hy hb
      subst hy; subst hb
      exact ⟨v1, hr, fun j u hu => by
        have hj := (List.getElem?_eq_some_iff.1 hu).1
        have := hv j u (by rw [List.getElem?_append_left hj]; exact hu)
        simpa using this⟩
    | succ i =>
      obtain ⟨ds, h3, h4⟩ := hE.2 i y b (by simpa using hy) (by simpa using hb)
      exact ⟨ds, h3, fun j u hu => by rw [show off + (i + 1) * e.size + j = off + e.size + i * e.size + j by rw [Nat.add_mul]; omega]; exact h4 j u hu⟩
end

/-! ### What an own array holds -/
section
variable {α : Type} {e : Enc α} {g : Gh} {l : Locs} {w : World} {k : Nat} {T : TypeId} {xs : List α} {d : Bool}
theorem ArrR.row {f : α → List Cell} [hc : CellsOf e f] (h : ArrR g w k T e xs d) : ∃ cells bs, w.ownsRow 0 T e.size (g.hd k) xs.length cells ∧ FR w cells (xs.flatMap f) bs ∧ (∀ b ∈ bs, g.I b) ∧ (d = true → g.F k = bs) ∧
    (∀ b, (g.hd k).ownBlock = some b → b = g.ρ k) := by
  rcases h with ⟨rfl, h1, h2⟩ | ⟨cap, vs, bss, h1, h2, h3, h4, h5, h6, h7, h8, h9⟩
  · exact ⟨[], [], ⟨by simp, .inl ⟨h1, rfl⟩⟩, rfl, fun _ hb => (by cases hb), h2, fun b hb => by rw [h1] at hb; simp [Value.ownBlock] at hb⟩
  · obtain ⟨us, f1, f2, f3⟩ := h6.flat
    refine ⟨us, bss.flatten, ⟨f2, .inr ⟨g.ρ k, cap, vs, h1, Nat.zero_le _, h4, h2, h3, h5, ?_⟩⟩, f1, h7, h9, fun b hb => by rw [h1] at hb; simp [Value.ownBlock] at hb; exact hb.symm⟩
    have hle : xs.length * e.size ≤ vs.size := by rw [h5]; exact Nat.mul_le_mul_right _ h2
    refine List.ext_getElem? fun j => ?_
    rw [List.getElem?_take]
    split
    · rename_i hj
      have hj' : j < us.length := by rw [f2]; exact hj
      have := f3 j us[j] (List.getElem?_eq_getElem hj')
      rw [cell_of_heap h4, Nat.zero_add] at this
      rw [List.getElem?_eq_getElem hj', ← this]
      simp
    · rename_i hj
      rw [List.getElem?_eq_none (by omega)]
theorem ArrR.ofRow {f : α → List Cell} [hc : CellsOf e f] {cells : List Value} {bs : List Nat} (h : w.ownsRow 0 T e.size (g.hd k) xs.length cells) (hf : FR w cells (xs.flatMap f) bs) (hI : ∀ b ∈ bs, g.I b) (hF : d = true → g.F k = bs)
    (hb : ∀ b, (g.hd k).ownBlock = some b → b = g.ρ k ∧ ¬ g.I b) : ArrR g w k T e xs d := by
  rcases h.2 with ⟨h1, h2⟩ | ⟨b, cap, cur, h1, _, h3, h4, h5, h6, h7⟩
  · have hx : xs = [] := List.eq_nil_of_length_eq_zero h2
    subst hx
    refine .inl ⟨rfl, h1, fun hd => ?_⟩
    rw [hF hd]
    have hcl : cells = [] := List.eq_nil_of_length_eq_zero (by simpa using h.1)
    subst hcl
    exact hf
  · obtain ⟨rfl, hI'⟩ := hb b (by rw [h1]; rfl)
    obtain ⟨bss, rfl, hE⟩ := Elems.ofFlat (e := e) (g := g.ρ k) (off := 0) hf (fun j u hu => by
      rw [cell_of_heap h3, Nat.zero_add]
      rw [← h7, List.getElem?_take] at hu
      split at hu
      · simpa using hu
      · cases hu)
    exact .inr ⟨cap, cur, bss, h1, h4, h5, h3, h6, hE, hI, hI', hF⟩
/-- An own array, read ars a slice. -/
theorem ArrR.slice (h : ArrR g w k T e xs d) : ∃ a n cap bs, g.hd k = .slice a n cap ∧ SliceRep e w a n cap xs bs ∧ (∀ b ∈ bs, g.I b ∨ (g.hd k ≠ .slice none 0 0 ∧ b = g.ρ k)) ∧
    (d = true → bs = [] ∨ (g.hd k ≠ .slice none 0 0 ∧ bs = g.ρ k :: g.F k)) := by
  rcases h with ⟨rfl, h1, h2⟩ | ⟨cap, vs, bss, h1, h2, h3, h4, h5, h6, h7, h8, h9⟩
  · exact ⟨none, 0, 0, [], h1, ⟨rfl, Nat.le_refl _, by unfold maxLen; omega, fun _ => rfl, .inl ⟨rfl, rfl⟩⟩, fun _ hb => (by cases hb), fun _ => .inl rfl⟩
  · have hne : g.hd k ≠ .slice none 0 0 := by rw [h1]; intro e; cases e
    by_cases hx : xs = []
    · subst hx
      exact ⟨_, _, cap, [], h1, ⟨rfl, h2, h3, (fun h => by cases h), .inl ⟨rfl, rfl⟩⟩, fun _ hb => (by cases hb), fun _ => .inl rfl⟩
    · refine ⟨_, _, cap, g.ρ k :: bss.flatten, h1, SliceRep.mk rfl h2 h3 hx (Array.getElem?_eq_some_iff.1 h4).1 h6, fun b hb => ?_, fun hd => .inr ⟨hne, by rw [h9 hd]⟩⟩
      rcases List.mem_cons.1 hb with rfl | hb
      · exact .inr ⟨hne, rfl⟩
      · exact .inl (h7 b hb)
end

/-! ### What is moved -/
/-- Block b is of number j alone. -/
def Via (g : Gh) (l : Locs) (j b : Nat) : Prop :=
  ∃ (α : Type) (T : TypeId) (e : Enc α) (xs : List α), lkl l j = some (.arr T e xs true) ∧ ((g.hd j ≠ .slice none 0 0 ∧ b = g.ρ j) ∨ b ∈ g.F j)
theorem Via.disj {g : Gh} {l : Locs} {w : World} (m : MemR g l w) {i j b : Nat} (hi : Via g l i b) (hj : Via g l j b) : i = j := by
  by_cases hij : i = j
  · exact hij
  · exfalso
    obtain ⟨α, T, e, xs, h1, h2⟩ := hi
    obtain ⟨β, U, e', ys, h3, h4⟩ := hj
    rcases h2 with ⟨h5, rfl⟩ | h5
    · rcases h4 with ⟨h6, h7⟩ | h6
      · exact m.dis i j _ _ hij h1 h3 h5 h6 h7
      · exact m.notI h1 h5 ((m.fr j β U e' ys h3).2 _ h6).1
    · rcases h4 with ⟨h6, rfl⟩ | h6
      · exact m.notI h3 h6 ((m.fr i α T e xs h1).2 _ h5).1
      · exact m.fd i j α β T U e e' xs ys hij h1 h3 b h5 h6
theorem Via.own {g : Gh} {l : Locs} {j b : Nat} (h : Via g l j b) : OwnB g l b := by
  obtain ⟨α, T, e, xs, h1, h2⟩ := h
  rcases h2 with ⟨h3, rfl⟩ | h3
  · exact ⟨j, _, h1, .inl ⟨h3, rfl⟩⟩
  · exact ⟨j, _, h1, .inr ⟨α, T, e, xs, rfl, h3⟩⟩
theorem Via.cells {g : Gh} {l : Locs} {w : World} (m : MemR g l w) {j b : Nat} (h : Via g l j b) : ∃ c t, w.heap[b]? = some (.cells c t (0, 0)) := by
  obtain ⟨α, T, e, xs, h1, h2⟩ := h
  rcases h2 with ⟨h3, rfl⟩ | h3
  · rcases m.arr j _ _ _ _ _ h1 with ⟨_, h4, _⟩ | ⟨_, vs, _, _, _, _, h4, _⟩
    · exact absurd h4 h3
    · exact ⟨_, _, h4⟩
  · exact ((m.fr j α T e xs h1).2 b h3).2
/-- The cells of an element, ars data; the arrays that go into it; whether all that it leads to is its own. -/
def mvC (l : Locs) : List Cell → Option (List Cell × List Nat × Bool)
  | [] => some ([], [], true)
  | c :: cs => match mvC l cs with
    | none => none
    | some (ds, js, d) => match c with
      | .c v => some (.c v :: ds, js, d)
      | .sl e xs => some (.sl e xs :: ds, js, false)
      | .rx e x us b i => some (.rx e x us b i :: ds, js, false)
      | .own j => match lkl l j with
        | some (.arr _ e xs q) => some (.sl e xs :: ds, j :: js, d && q)
        | _ => none
      | _ => none
def liveA (g : Gh) (js : List Nat) (b : Nat) : Prop := ∃ j ∈ js, g.hd j ≠ .slice none 0 0 ∧ b = g.ρ j
theorem mvC_ok {g : Gh} {l : Locs} {w : World} (m : MemR g l w) : ∀ {vs : List Value} {cs ds : List Cell} {js : List Nat} {d : Bool}, All2 (CellR g l w) vs cs → mvC l cs = some (ds, js, d) → js.Nodup →
    ∃ bs, FR w vs ds bs ∧ (∀ b ∈ bs, g.I b ∨ liveA g js b) ∧ (d = true → bs.Nodup ∧ ∀ b ∈ bs, ∃ j ∈ js, Via g l j b)
  | [], [], ds, js, d, _, h, _ => by
    simp only [mvC, Option.some.injEq, Prod.mk.injEq] at h
    obtain ⟨rfl, rfl, rfl⟩ := h
    exact ⟨[], rfl, fun _ hb => (by cases hb), fun _ => ⟨List.nodup_nil, fun _ hb => by cases hb⟩⟩
  | v :: vs, c :: cs, ds, js, d, hA, h, hn => by
    simp only [mvC] at h
    split at h
    · cases h
    · rename_i ds1 js1 d1 h1
      cases c with
      | c u =>
        simp only [Option.some.injEq, Prod.mk.injEq] at h
        obtain ⟨rfl, rfl, rfl⟩ := h
        obtain ⟨bs, f1, f2, f3⟩ := mvC_ok m hA.2 h1 hn
        exact ⟨bs, ⟨[], bs, rfl, ⟨hA.1.1, hA.1.2, rfl⟩, f1⟩, f2, f3⟩
      | sl e xs =>
        simp only [Option.some.injEq, Prod.mk.injEq] at h
        obtain ⟨rfl, rfl, rfl⟩ := h
        obtain ⟨bs, f1, f2, f3⟩ := mvC_ok m hA.2 h1 hn
        obtain ⟨a, n, cap, b1, g1, g2, g3⟩ := hA.1
        refine ⟨b1 ++ bs, ⟨b1, bs, rfl, ⟨a, n, cap, g1, g2⟩, f1⟩, fun b hb => ?_, fun hd => by cases hd⟩
        rcases List.mem_append.1 hb with hb | hb
        · exact .inl (g3 b hb)
        · exact f2 b hb
      | rx e x us b1 i =>
        simp only [Option.some.injEq, Prod.mk.injEq] at h
        obtain ⟨rfl, rfl, rfl⟩ := h
        obtain ⟨bs, f1, f2, f3⟩ := mvC_ok m hA.2 h1 hn
        refine ⟨b1 ++ bs, ⟨b1, bs, rfl, ⟨hA.1.1, hA.1.2.1, rfl⟩, f1⟩, fun b hb => ?_, fun hd => by cases hd⟩
        rcases List.mem_append.1 hb with hb | hb
        · exact .inl (hA.1.2.2 b hb)
        · exact f2 b hb
      | own j =>
        simp only at h
        split at h
        · rename_i T e xs q hj
          simp only [Option.some.injEq, Prod.mk.injEq] at h
          obtain ⟨rfl, rfl, rfl⟩ := h
          have hn' := List.nodup_cons.1 hn
          obtain ⟨bs, f1, f2, f3⟩ := mvC_ok m hA.2 h1 hn'.2
          have hv : v = g.hd j := hA.1 _ _ _ _ _ hj
          obtain ⟨a, n, cap, b1, g1, g2, g3, g4⟩ := (m.arr j _ _ _ _ _ hj).slice
          refine ⟨b1 ++ bs, ⟨b1, bs, rfl, ⟨a, n, cap, hv.trans g1, g2⟩, f1⟩, fun b hb => ?_, fun hd => ?_⟩
          · rcases List.mem_append.1 hb with hb | hb
            · rcases g3 b hb with h | ⟨h, h'⟩
              · exact .inl h
              · exact .inr ⟨j, List.mem_cons_self .., h, h'⟩
            · rcases f2 b hb with h | ⟨i, h, h'⟩
              · exact .inl h
              · exact .inr ⟨i, List.mem_cons_of_mem _ h, h'⟩
          · simp only [Bool.and_eq_true] at hd
            obtain ⟨rfl, rfl⟩ := hd
            obtain ⟨n1, n2⟩ := f3 rfl
            have hvia : ∀ b ∈ b1, Via g l j b := fun b hb => by
              rcases g4 rfl with rfl | ⟨g5, rfl⟩
              · cases hb
              · rcases List.mem_cons.1 hb with rfl | hb
                · exact ⟨_, T, e, xs, hj, .inl ⟨g5, rfl⟩⟩
                · exact ⟨_, T, e, xs, hj, .inr hb⟩
            have hnd : b1.Nodup := by
              rcases g4 rfl with rfl | ⟨g5, rfl⟩
              · exact List.nodup_nil
              · refine List.nodup_cons.2 ⟨fun hm => m.notI hj g5 ((m.fr j _ T e xs hj).2 _ hm).1, (m.fr j _ T e xs hj).1⟩
            refine ⟨List.nodup_append.2 ⟨hnd, n1, fun x hx y hy exy => ?_⟩, fun b hb => ?_⟩
            · subst exy
              obtain ⟨i, hi, hvi⟩ := n2 x hy
              exact hn'.1 ((hvia x hx).disj m hvi ▸ hi)
            · rcases List.mem_append.1 hb with hb | hb
              · exact ⟨j, List.mem_cons_self .., hvia b hb⟩
              · obtain ⟨i, hi, hvi⟩ := n2 b hb
                exact ⟨i, List.mem_cons_of_mem _ hi, hvi⟩
        · cases h
      | _ => cases h
end Go.Proofs.YtibhoanjglfaoaaGreat

/- The abstract walk: a new array, and what goes into it is gone elsewhere. -/
namespace Go.Proofs.YtibhoanjglfaoaaGreat
open Go.RowKit
set_option linter.unusedVariables false

def gones (js : List Nat) : Locs := js.map fun j => (j, none)
theorem lk_gones {js : List Nat} {l : Locs} {k : Nat} : lk (gones js ++ l) k = if k ∈ js then some none else lk l k := by
  induction js with
  | nil => simp [gones]
  | cons j js ih =>
    show lk ((j, none) :: (gones js ++ l)) k = _
    by_cases h : j = k
    · subst h; rw [lk_cons_self]; simp
    · rw [lk_cons_ne h, ih]
      by_cases h2 : k ∈ js
      · simp [h2]
      · have : ¬ k = j := fun e => h e.symm
        simp [h2, this]
theorem lkl_gones {js : List Nat} {l : Locs} {k : Nat} : lkl (gones js ++ l) k = if k ∈ js then none else lkl l k := by
  unfold lkl
  rw [lk_gones]
  by_cases h : k ∈ js <;> simp [h]

theorem ArrR.lay {I : Nat → Prop} {ρ : Nat → Nat} {hd : Nat → Value} {F : Nat → List Nat} {α : Type} {e : Enc α} {f : α → List Cell} [hc : CellsOf e f] {w : World} {k blk : Nat} {T : TypeId} {xs : List α} {d : Bool} {v : Value} {cells : List Value} {bs : List Nat}
    (h : w.ownsRow 0 T e.size v xs.length cells) (hf : FR w cells (xs.flatMap f) bs) (hI : ∀ b ∈ bs, I b) (hb : ∀ b, v.ownBlock = some b → b = blk ∧ ¬ I b) : ArrR ⟨I, setAt ρ k blk, setAt hd k v, setAt F k bs⟩ w k T e xs d := by
  refine ArrR.ofRow (cells := cells) (bs := bs) ?_ hf hI (fun _ => setAt_self) (fun b hb' => ?_)
  · show w.ownsRow 0 T e.size (setAt hd k v k) xs.length cells
    rw [setAt_self]; exact h
  · have h1 : (setAt hd k v k).ownBlock = some b := hb'
    rw [setAt_self] at h1
    obtain ⟨rfl, h2⟩ := hb b h1
    exact ⟨setAt_self.symm, h2⟩
section
variable {g : Gh} {l : Locs} {w w' : World}
/-- A new array k, in block blk; the arrays js are gone, those of them in fz lie in it unchanged. -/
theorem arr_new (m : MemR g l w) {k : Nat} (hk : lk l k = none) (hki : k ∉ l.ids) {js fz : List Nat} (hsub : ∀ j ∈ fz, j ∈ js) (hjs : ∀ j ∈ js, ∃ (α : Type) (T : TypeId) (e : Enc α) (xs : List α) (d : Bool), lkl l j = some (.arr T e xs d))
    {α : Type} {T : TypeId} {e : Enc α} {xs : List α} {d : Bool} {blk : Nat} {v : Value} {fp : List Nat}
    (hos : w'.os = w.os) (htp : w'.tape = w.tape) (hout : w'.output = w.output) (hs : w.heap.size ≤ w'.heap.size)
    (hkeep : ∀ b, b < w.heap.size → (∀ j ∈ js, j ∉ fz → g.hd j ≠ .slice none 0 0 → b ≠ g.ρ j) → w'.heap[b]? = w.heap[b]?)
    (hA : ArrR ⟨fun b => g.I b ∨ liveA g fz b, setAt g.ρ k blk, setAt g.hd k v, setAt g.F k fp⟩ w' k T e xs d)
    (hblk : v ≠ .slice none 0 0 → blk < w'.heap.size ∧ (w.heap.size ≤ blk ∨ ∃ j ∈ js, j ∉ fz ∧ g.hd j ≠ .slice none 0 0 ∧ blk = g.ρ j))
    (hfp : d = true → fp.Nodup ∧ ∀ b ∈ fp, (g.I b ∨ liveA g fz b) ∧ (∃ c t, w'.heap[b]? = some (.cells c t (0, 0))) ∧ ∃ j ∈ js, Via g l j b) :
    ∃ g', g'.ρ k = blk ∧ g'.hd k = v ∧ MemR g' ((k, some (.arr T e xs d)) :: (gones js ++ l)) w' ∧ (∀ K, Step K g l w g' ((k, some (.arr T e xs d)) :: (gones js ++ l)) w') ∧
      (∀ b, g.I b → w'.heap[b]? = w.heap[b]?) ∧ (∀ b, g.I b → g'.I b) ∧ ∀ j, j ≠ k → okK g l g' ((k, some (.arr T e xs d)) :: (gones js ++ l)) j := by
  let g' : Gh := ⟨fun b => g.I b ∨ liveA g fz b, setAt g.ρ k blk, setAt g.hd k v, setAt g.F k fp⟩
  have hkj : k ∉ js := fun h => by
    obtain ⟨_, _, _, _, _, h1⟩ := hjs k h
    have : lkl l k = none := by unfold lkl; rw [hk]
    rw [this] at h1; cases h1
  have hi : ∀ b, g.I b → w'.heap[b]? = w.heap[b]? := fun b hb => hkeep b (m.ilt b hb) fun j hj _ hl e => by
    obtain ⟨_, _, _, _, _, h1⟩ := hjs j hj
    exact m.notI h1 hl (e ▸ hb)
  have hl' : ∀ j, j ≠ k → lkl ((k, some (.arr T e xs d)) :: (gones js ++ l)) j = if j ∈ js then none else lkl l j := fun j hj => by
    rw [lkl_cons_ne (Ne.symm hj), lkl_gones]
  have hu : ∀ j, j ≠ k → lkl ((k, some (.arr T e xs d)) :: (gones js ++ l)) j = none ∨ Untouched g l w g' ((k, some (.arr T e xs d)) :: (gones js ++ l)) w' j := fun j hj => by
    by_cases h : j ∈ js
    · left; rw [hl' j hj, if_pos h]
    · right
      refine ⟨by rw [hl' j hj, if_neg h], setAt_ne hj, setAt_ne hj, setAt_ne hj, fun b hb hlv => ⟨hkeep _ (m.lt hb hlv) fun i hi' _ hil e => ?_, fun hI => ?_⟩⟩
      · obtain ⟨_, _, _, _, _, h1⟩ := hjs i hi'
        exact m.dis j i _ _ (fun e => h (e ▸ hi')) hb h1 hlv hil e
      · rcases hI with hI | ⟨i, hif, hil, e⟩
        · exact m.notI hb hlv hI
        · obtain ⟨_, _, _, _, _, h1⟩ := hjs i (hsub i hif)
          exact m.dis j i _ _ (fun e => h (e ▸ hsub i hif)) hb h1 hlv hil e
  have ok : ∀ j, j ≠ k → okK g l g' ((k, some (.arr T e xs d)) :: (gones js ++ l)) j := fun j hj => by
    rcases hu j hj with h | h
    · exact okK.gone h
    · exact h.ok
  have hlt : ∀ b, g'.I b → b < w'.heap.size := fun b hb => by
    rcases hb with hb | ⟨i, hif, hil, e⟩
    · exact Nat.lt_of_lt_of_le (m.ilt b hb) hs
    · obtain ⟨_, _, _, _, _, h1⟩ := hjs i (hsub i hif)
      rw [e]; exact Nat.lt_of_lt_of_le (m.lt h1 hil) hs
  refine ⟨g', setAt_self, setAt_self, m.set1 k hi (fun b hb => .inl hb) hs hlt hu (.inr hki) (fun cs hc => ?_) (fun β U e2 ys d2 hc => ?_) (fun j b b' hj h1 h2 h3 l1 l2 => ?_) (fun β U e2 ys hc => ?_) (fun j β γ U V e2 e3 ys zs hj h1 h2 h3 => ?_), fun K => ?_, hi, fun b hb => .inl hb, ok⟩
  · rw [lkl_cons_self] at hc; cases hc
  · rw [lkl_cons_self] at hc; cases hc; exact hA
  · rw [lkl_cons_self] at h3; cases h3
    have hv : v ≠ .slice none 0 0 := by have := l2; show v ≠ _; rw [← (setAt_self (f := g.hd) (k := k) (v := v))]; exact this
    rw [show g'.ρ k = blk from setAt_self]
    rcases (hblk hv).2 with h | ⟨i, hij, _, hil, e⟩
    · have := m.lt h2 l1; omega
    · obtain ⟨_, _, _, _, _, h4⟩ := hjs i hij
      rw [e]
      refine m.dis j i _ _ (fun e => ?_) h2 h4 l1 hil
      subst e
      rw [hl' j hj, if_pos hij] at h1; cases h1
  · rw [lkl_cons_self] at hc; cases hc
    rw [show g'.F k = fp from setAt_self]
    obtain ⟨n1, n2⟩ := hfp rfl
    exact ⟨n1, fun b hb => ⟨(n2 b hb).1, (n2 b hb).2.1⟩⟩
  · rw [lkl_cons_self] at h3; cases h3
    rw [show g'.F k = fp from setAt_self]
    intro b hb hb'
    obtain ⟨i, hij, hvia⟩ := ((hfp rfl).2 b hb').2.2
    have : j = i := Via.disj m (b := b) ⟨β, U, e2, ys, h2, .inr hb⟩ hvia
    subst this
    rw [hl' j hj, if_pos hij] at h1; cases h1
  · refine ⟨hos, htp, hout, hs, fun b hb hn => hkeep b hb fun j hj _ hl e => ?_, fun b hb => .inl hb, fun b hb => ?_, own_set1 k hu (fun b hb hl => ?_) (fun β U e2 ys hc b hb => ?_), fun j hj hn => ?_⟩
    · obtain ⟨_, _, _, _, _, h1⟩ := hjs j hj
      exact hn j _ h1 hl e
    · rcases hb with hb | ⟨i, hif, hil, e⟩
      · exact .inl hb
      · obtain ⟨_, _, _, _, _, h1⟩ := hjs i (hsub i hif)
        exact .inr (.inr (e ▸ OwnB.of_live h1 hil))
    · rw [lkl_cons_self] at hb; cases hb
      have hv : v ≠ .slice none 0 0 := by have := hl; rw [← (setAt_self (f := g.hd) (k := k) (v := v))]; exact this
      rw [show g'.ρ k = blk from setAt_self]
      rcases (hblk hv).2 with h | ⟨i, hij, _, hil, e⟩
      · exact .inr h
      · obtain ⟨_, _, _, _, _, h4⟩ := hjs i hij
        exact .inl (e ▸ OwnB.of_live h4 hil)
    · rw [lkl_cons_self] at hc; cases hc
      rw [show g'.F k = fp from setAt_self] at hb
      obtain ⟨i, hij, hvia⟩ := ((hfp rfl).2 b hb).2.2
      exact .inl hvia.own
    · have hjk := key_ne hn hk
      refine ⟨?_, ok j hjk, fun cs hc => ?_⟩
      · rw [lk_cons_ne (Ne.symm hjk), lk_gones]
        split
        · simp
        · exact hn
      · refine ⟨cs, ?_⟩
        rw [hl' j hjk, if_neg]
        · exact hc
        · intro hjj
          obtain ⟨_, _, _, _, _, h1⟩ := hjs j hjj
          rw [hc] at h1; cases h1
end

/-! ### Growing -/
/-- append to a row of one's own: the new row lies in the old block, or in a new one. -/
theorem run_app {P : Program} (w : World) (t ty e : TypeId) (i : TypeInfo) (z : Value) (size bytes : Nat) (ht : P.underlying t = some (.slice e)) (hi : P.info? e = some i) (hz : i.zero = some z)
    (hsize : i.size = size) (hby : i.bytes = bytes) (hzs : z.cells.size = size) (hsz : 0 < size)
    (v : Value) (n : Nat) (xs : List Value) (hown : w.ownsRow 0 e size v n xs)
    (a : Addr) (m c : Nat) (news : List Value) (hl : news.length = m * size) (hnews : ∀ j u, news[j]? = some u → w.cell? (a.add j) = some u) (h1 : ∀ u ∈ news, u.oneCell' = true)
    (h63 : n + m ≤ maxLen) (hbytes : (n + m) * bytes ≤ 140737488355328) :
    ∃ v' w', (Builtin.append_ #[t, t] ty #[v, .slice (some a) m c]).run P w = .ok v' w' ∧ w'.ownsRow 0 e size v' (n + m) (xs ++ news) ∧ w.grownBy w' v.ownBlock ∧
      ∀ b, v'.ownBlock = some b → v.ownBlock = some b ∨ w.heap.size ≤ b := by
  rcases hown.2 with ⟨rfl, rfl⟩ | ⟨g, cap, cur, rfl, hbg, hg, hnc, hcm, hcs, htake⟩
  · have h0 : w.ownsRow w.heap.size e size (.slice none 0 0) 0 xs := ⟨hown.1, .inl ⟨rfl, rfl⟩⟩
    obtain ⟨v', w', r1, r2, r3, _⟩ := run_append_own (P := P) w w.heap.size t ty e i z size bytes ht hi hz hsize hby hzs hsz _ _ _ h0 a m c news hl hnews h1 h63 hbytes (Nat.le_refl _)
    refine ⟨v', w', r1, ⟨r2.1, ?_⟩, r3, fun b hb => .inr (r2.lt b hb).1⟩
    rcases r2.2 with h | ⟨b, cap, cur, h2, _, h3⟩
    · exact .inl h
    · exact .inr ⟨b, cap, cur, h2, Nat.zero_le _, h3⟩
  · subst hsize
    subst hby
    by_cases hroom : n + m ≤ cap
    · have hfit : n * i.size + news.length ≤ cur.size := by rw [hl, hcs, ← Nat.add_mul]; exact Nat.mul_le_mul_right _ hroom
      obtain ⟨v', w', r1, r2, r3, _⟩ := run_append_own (P := P) w 0 t ty e i z i.size i.bytes ht hi hz rfl rfl hzs hsz _ _ _ hown a m c news hl hnews h1 h63 hbytes (Nat.zero_le _)
      have hr := run_append_room (P := P) w t ty e i ht hi g n cap cur hg a m c news hl hnews h1 hroom hfit
      rw [hr] at r1
      cases r1
      exact ⟨_, _, hr, r2, r3, fun b hb => .inl hb⟩
    · obtain ⟨v', w', r1, r2, r3, _⟩ := run_append_own (P := P) w 0 t ty e i z i.size i.bytes ht hi hz rfl rfl hzs hsz _ _ _ hown a m c news hl hnews h1 h63 hbytes (Nat.zero_le _)
      have holds : ∀ j u, xs[j]? = some u → w.cell? ((⟨g, 0, none⟩ : Addr).add j) = some u := hown.cells (g := g) rfl
      have hsmall : n + m ≤ 9223372036854775807 := by simp only [maxLen] at h63; omega
      have hr := run_append_grow (P := P) w t ty e i z ht hi hz ⟨g, 0, none⟩ n cap xs hown.1 holds a m c news hl hnews (by omega) (by omega) (growslice_fits (by omega) hbytes)
      rw [hr] at r1
      cases r1
      exact ⟨_, _, hr, r2, r3, fun b hb => .inr (by simp [Value.ownBlock] at hb; omega)⟩
/-- append of nothing. -/
theorem run_app_nil {P : Program} (w : World) (t ty e : TypeId) (i : TypeInfo) (ht : P.underlying t = some (.slice e)) (hi : P.info? e = some i) (base : Option Addr) (n cap : Nat) (hle : n ≤ cap) :
    (Builtin.append_ #[t, t] ty #[.slice base n cap, .slice none 0 0]).run P w = .ok (.slice base n cap) w := by
  cases base <;> simp [Builtin.append_, run_underlying ht, sizeOf, typeInfo, hi, Builtin.lenOf, Builtin.firstCells, loadCells, storeCells, hle]
end Go.Proofs.YtibhoanjglfaoaaGreat

/- The abstract walk: rules for arrays of one's own. -/
namespace Go.Proofs.YtibhoanjglfaoaaGreat
open Go.RowKit
set_option linter.unusedVariables false

def FitL : List Cell → List Cell → Prop
  | [], [] => True
  | c :: cs, d :: ds => (c = d ∨ (c = .c (.slice none 0 0) ∧ ∃ (α : Type) (e : Enc α), d = .sl e [])) ∧ FitL cs ds
  | _, _ => False
theorem FitL.rf : ∀ {cs : List Cell}, FitL cs cs
  | [] => trivial
  | c :: cs => ⟨.inl rfl, FitL.rf⟩
theorem FR.fit {w : World} : ∀ {vs : List Value} {cs ds : List Cell} {b : List Nat}, FR w vs cs b → FitL cs ds → FR w vs ds b
  | [], [], [], b, h, _ => h
  | v :: vs, c :: cs, d :: ds, b, h, hf => by
    obtain ⟨b1, b2, rfl, h1, h2⟩ := h
    refine ⟨b1, b2, rfl, ?_, FR.fit h2 hf.2⟩
    rcases hf.1 with rfl | ⟨rfl, α, e, rfl⟩
    · exact h1
    · obtain ⟨h3, _, rfl⟩ := h1
      exact ⟨none, 0, 0, h3, rfl, Nat.le_refl _, by unfold maxLen; omega, fun _ => rfl, .inl ⟨rfl, rfl⟩⟩
def noDup : List Nat → Bool
  | [] => true
  | j :: js => noId j js && noDup js
theorem noDup_of : ∀ {js : List Nat}, noDup js = true → js.Nodup
  | [], _ => List.nodup_nil
  | j :: js, h => by
    simp only [noDup, Bool.and_eq_true] at h
    exact List.nodup_cons.2 ⟨noId_of h.1, noDup_of h.2⟩
theorem mvC_of {l l' : Locs} : ∀ {cs : List Cell} {r : List Cell × List Nat × Bool}, mvC l cs = some r → (∀ p ∈ rlC l cs, lkl l' p.1 = some p.2) → mvC l' cs = some r
  | [], r, h, _ => h
  | c :: cs, r, h, hp => by
    have hp' : ∀ p ∈ rlC l cs, lkl l' p.1 = some p.2 := fun p hm => hp p (by
      unfold rlC at hm ⊢
      rw [List.flatMap_cons, List.filterMap_append]
      exact List.mem_append_right _ hm)
    simp only [mvC] at h ⊢
    split at h
    · cases h
    · rename_i ds js d h1
      rw [mvC_of h1 hp']
      cases c with
      | own j =>
        simp only at h ⊢
        split at h
        · rename_i T e xs q hj
          rw [rlC_get hp (List.mem_cons_self ..) (by simp [Cell.ids]) hj]
          exact h
        · cases h
      | _ => exact h
theorem mvC_gone {l : Locs} : ∀ {cs : List Cell} {ds : List Cell} {js : List Nat} {d : Bool}, mvC l cs = some (ds, js, d) → ∀ j ∈ js, (∃ (α : Type) (T : TypeId) (e : Enc α) (xs : List α) (q : Bool), lkl l j = some (.arr T e xs q)) ∧ j ∈ cs.flatMap Cell.ids
  | [], ds, js, d, h, j, hj => by
    simp only [mvC, Option.some.injEq, Prod.mk.injEq] at h
    obtain ⟨_, rfl, _⟩ := h
    cases hj
  | c :: cs, ds, js, d, h, j, hj => by
    have up : ∀ {i : Nat}, i ∈ cs.flatMap Cell.ids → i ∈ (c :: cs).flatMap Cell.ids := fun hi => by rw [List.flatMap_cons]; exact List.mem_append_right _ hi
    simp only [mvC] at h
    split at h
    · cases h
    · rename_i ds1 js1 d1 h1
      cases c with
      | c u =>
        simp only [Option.some.injEq, Prod.mk.injEq] at h
        obtain ⟨_, rfl, _⟩ := h
        exact ⟨(mvC_gone h1 j hj).1, up (mvC_gone h1 j hj).2⟩
      | sl e xs =>
        simp only [Option.some.injEq, Prod.mk.injEq] at h
        obtain ⟨_, rfl, _⟩ := h
        exact ⟨(mvC_gone h1 j hj).1, up (mvC_gone h1 j hj).2⟩
      | rx e x us b i =>
        simp only [Option.some.injEq, Prod.mk.injEq] at h
        obtain ⟨_, rfl, _⟩ := h
        exact ⟨(mvC_gone h1 j hj).1, up (mvC_gone h1 j hj).2⟩
      | own i =>
        simp only at h
        split at h
        · rename_i T e xs q hi
          simp only [Option.some.injEq, Prod.mk.injEq] at h
          obtain ⟨_, rfl, _⟩ := h
          rcases List.mem_cons.1 hj with rfl | hj
          · exact ⟨⟨_, T, e, xs, q, hi⟩, by rw [List.flatMap_cons]; exact List.mem_append_left _ (by simp [Cell.ids])⟩
          · exact ⟨(mvC_gone h1 j hj).1, up (mvC_gone h1 j hj).2⟩
        · cases h
      | _ => cases h

/-! The type of an array's elements. -/
def arrT (P : Program) (T : TypeId) : Option (TypeId × Nat × Nat) :=
  match P.underlying T with
  | some (.slice e) => match P.info? e with
    | some i => match i.zero with
      | some z => if z.cells.size = i.size ∧ 0 < i.size then some (e, i.size, i.bytes) else none
      | none => none
    | none => none
  | _ => none
theorem arrT_spec {P : Program} {T E n b : Nat} (h : arrT P T = some (E, n, b)) : P.underlying T = some (.slice E) ∧ 0 < n ∧ ∃ i z, P.info? E = some i ∧ i.zero = some z ∧ z.cells.size = n ∧ i.size = n ∧ i.bytes = b := by
  unfold arrT at h
  split at h
  · rename_i e hu
    split at h
    · rename_i i hi
      split at h
      · rename_i z hz
        split at h
        · rename_i hc
          cases h
          exact ⟨hu, hc.2, i, z, hi, hz, hc.1, rfl, rfl⟩
        · cases h
      · cases h
    · cases h
  · cases h

section
variable {g : Gh} {l : Locs} {w : World}
/-- The cells of some values. -/
theorem vr1s_cells : ∀ {vs : List Value} {Xs : List AVal}, (Xs.flatMap AVal.cells).all (solid l) = true → MemR g l w → All2 (VR g l w) vs Xs → flats Xs = true → All2 (CellR g l w) (vs.flatMap fun v => v.cells.toList) (Xs.flatMap AVal.cells)
  | [], [], _, _, _, _ => trivial
  | v :: vs, X :: Xs, hs, m, h, hf => by
    simp only [flats, Bool.and_eq_true] at hf
    rw [List.flatMap_cons, List.all_append, Bool.and_eq_true] at hs
    rw [List.flatMap_cons, List.flatMap_cons]
    exact (vr1_cells hs.1 m h.1 hf.1).app (vr1s_cells hs.2 m h.2 hf.2)
theorem vr1s_size {n : Nat} : ∀ {vs : List Value} {Xs : List AVal}, (Xs.flatMap AVal.cells).all (solid l) = true → MemR g l w → All2 (VR g l w) vs Xs → flats Xs = true → Xs.all (fun X => Nat.beq X.cells.length n) = true → ∀ v ∈ vs, v.cells.size = n
  | [], [], _, _, _, _, _, v, hv => by cases hv
  | v :: vs, X :: Xs, hs, m, h, hf, hn, u, hu => by
    simp only [flats, Bool.and_eq_true] at hf
    rw [List.flatMap_cons, List.all_append, Bool.and_eq_true] at hs
    simp only [List.all_cons, Bool.and_eq_true] at hn
    rcases List.mem_cons.1 hu with rfl | hu
    · have := (vr1_cells hs.1 m h.1 hf.1).len
      rw [Nat.eq_of_beq_eq_true hn.1] at this
      simpa using this
    · exact vr1s_size hs.2 m h.2 hf.2 hn.2 u hu
end

theorem FR.rows {α : Type} {e : Enc α} {f : α → List Cell} [hc : CellsOf e f] {w : World} : ∀ {xs : List α} {vs : List Value} {bs : List Nat}, FR w vs (xs.flatMap f) bs → vs.length = xs.length * e.size
  | [], [], bs, h => by simp
  | [], v :: vs, bs, h => h.elim
  | x :: xs, vs, bs, h => by
    rw [List.flatMap_cons] at h
    obtain ⟨v1, v2, b1, b2, rfl, rfl, h1, h2⟩ := FR.app.1 h
    rw [List.length_append, e.len (hc.iff.2 h1), FR.rows (e := e) h2, List.length_cons, Nat.add_mul]
    omega
section ops
variable {P : Program} {N : Nat} {s : St} {d : Nat} {ty : TypeId} {pos : String} {after : Array Edge} {gd : Option (Nat × Bool)}
/-- A new array with these elements. -/
theorem x_bslice {α : Type} {e : Enc α} {f : α → List Cell} [hc : CellsOf e f] {T E n b len : Nat} (ops : List Operand) {parts : Array (Nat × Operand)} {Xs : List AVal} (xs : List α) {ds : List Cell} {js : List Nat} {dp : Bool} (k : Nat) (hN : Nat.blt d N = true)
    (hparts : parts = ((ops.zipIdx 0).map fun x => (x.2, x.1)).toArray) (hev : evl s.t ops = some Xs) (hfl : flats Xs = true) (hsol : (Xs.flatMap AVal.cells).all (solid s.l) = true)
    (hT : arrT P T = some (E, n, b)) (hlen : ops.length = len) (hsz : Xs.all (fun X => Nat.beq X.cells.length n) = true) (hes : e.size = n)
    (hmv : mvC s.l (Xs.flatMap AVal.cells) = some (ds, js, dp)) (hfit : FitL ds (xs.flatMap f)) (hnd : noDup js = true) (hxs : xs.length = len) (hpos : Nat.blt 0 len = true) (hsmall : Nat.ble (len * n) 16777216 = true)
    (hk : lk s.l k = none) (hi : noId k s.ids = true) :
    Stp P N ⟨some d, .buildSlice T len parts, ty, pos, after, gd⟩ s ⟨(d, .one (.own k)) :: s.t, (k, some (.arr E e xs dp)) :: (gones js ++ s.l)⟩ ⟨rdl s.t ops, rlC s.l (Xs.flatMap AVal.cells), [(d, .one (.own k))], (k, some (.arr E e xs dp)) :: gones js, [k]⟩ := by
  refine ⟨fun K g s' a w hp r => ?_, ⟨(evl_ok (N := N) hev).1, rlC_self, fun j hj => by simp at hj; subst hj; exact ⟨hk, noId_of hi⟩⟩, by simp [Cert.upd]⟩
  obtain ⟨p1, p2, p3⟩ := hp
  have hvs := (evl_ok hev).2 r p1
  have hs' : (Xs.flatMap AVal.cells).all (solid s'.l) = true := List.all_eq_true.2 fun x hx => solid_of p2 hx (List.all_eq_true.1 hsol x hx)
  have hmv' := mvC_of hmv p2
  obtain ⟨n1, n2⟩ := p3 k (by simp)
  obtain ⟨hu, hn0, ti, z, hti, hz, hzs, htis, htib⟩ := arrT_spec hT
  have hA := vr1s_cells hs' r.mem hvs hfl
  have hS := vr1s_size hs' r.mem hvs hfl hsz
  have hjn := noDup_of hnd
  obtain ⟨bs, f1, f2, f3⟩ := mvC_ok r.mem hA hmv' hjn
  replace f1 := f1.fit hfit
  have hln : (ops.map a.eval).length = len := by simpa using hlen
  have hpos' : 0 < len := blt_lt hpos
  have hsm' : len * n ≤ 16777216 := Nat.le_of_ble_eq_true hsmall
  have hfill := Great.fill_whole (s := n) hn0 (ops.map a.eval) ((Array.range (len * n)).map (z.cells[· % z.cells.size]!)) hS (by rw [hln]; simp)
  have hrun := run_buildSlice (P := P) w T E len (parts.map fun (i, x) => (i, a.eval x)) _ ti z hu hti hz (by rw [htis]; omega) (by rw [htis]; have := Nat.mul_pos hpos' hn0; omega) (by
    rw [htis, hparts]
    have : (((ops.zipIdx 0).map fun x => (x.2, x.1)).toArray.map fun (x : Nat × Operand) => (x.1, a.eval x.2)).toList = ((ops.map a.eval).zipIdx 0).map fun x => (x.2, x.1) := by
      simp [List.zipIdx_map, Function.comp_def]
    exact (congrArg _ this).trans hfill)
  generalize hflat : ((ops.map a.eval).flatMap fun v => v.cells.toList) = flat at *
  have hfl2 : flat.length = len * n := by rw [FR.rows (e := e) f1, hxs, hes]
  have hrow : (w.alloc (.cells flat.toArray E)).ownsRow 0 E e.size (.slice (some ⟨w.heap.size, 0, none⟩) len len) xs.length flat :=
    ⟨by rw [hfl2, hxs, hes], .inr ⟨w.heap.size, len, flat.toArray, by rw [hxs], Nat.zero_le _, heap_alloc_new w _, by rw [hxs]; exact Nat.le_refl _, by
      have : len ≤ len * n := Nat.le_mul_of_pos_right _ hn0
      unfold maxLen; omega, by simp [hfl2, hes], by rw [hxs, hes, ← hfl2]; simp⟩⟩
  have hgone : ∀ j ∈ js, ∃ (α : Type) (T : TypeId) (e : Enc α) (xs : List α) (d : Bool), lkl s'.l j = some (.arr T e xs d) := fun j hj => (mvC_gone hmv' j hj).1
  have hkeep : ∀ b, b < w.heap.size → (w.alloc (.cells flat.toArray E)).heap[b]? = w.heap[b]? := fun b hb => Below.heap_alloc w _ b hb
  have hbl : ∀ b ∈ bs, b < w.heap.size := fun b hb => by
    rcases f2 b hb with h | ⟨j, hj, h1, h2⟩
    · exact r.mem.ilt b h
    · obtain ⟨_, _, _, _, _, h3⟩ := hgone j hj
      rw [h2]; exact r.mem.lt h3 h1
  have hkl : lkl s'.l k = none := by unfold lkl; rw [n1]
  obtain ⟨g', q1, q2, q3, q4, q5, q6, q7⟩ := arr_new (w' := w.alloc (.cells flat.toArray E)) r.mem n1 (fun h => n2 (List.mem_append_right _ h)) (js := js) (fz := js) (fun _ h => h) hgone (T := E) (e := e) (xs := xs) (d := dp) (blk := w.heap.size) (v := .slice (some ⟨w.heap.size, 0, none⟩) len len) (fp := bs)
    rfl rfl rfl (by simp) (fun b hb _ => hkeep b hb)
    (ArrR.lay hrow (f1.keep (fun b hb => hkeep b (hbl b hb)) (by simp)) f2 (fun b hb => by
      simp [Value.ownBlock] at hb
      subst hb
      refine ⟨rfl, fun hI => ?_⟩
      rcases hI with hI | ⟨j, hj, h1, h2⟩
      · have := r.mem.ilt _ hI; omega
      · obtain ⟨_, _, _, _, _, h3⟩ := hgone j hj
        have := r.mem.lt h3 h1; omega))
    (fun _ => ⟨by simp, .inl (Nat.le_refl _)⟩)
    (fun hd => ⟨(f3 hd).1, fun b hb => ⟨f2 b hb, by
      obtain ⟨j, hj, hv⟩ := (f3 hd).2 b hb
      obtain ⟨c, t, h⟩ := hv.cells r.mem
      exact ⟨c, t, by rw [hkeep b (hbl b hb)]; exact h⟩, (f3 hd).2 b hb⟩⟩)
  unfold Oper.wp
  have hrun' : (execOp a.eval ⟨some d, .buildSlice T len parts, ty, pos, after, gd⟩).run P w = .ok (.value (.slice (some ⟨w.heap.size, 0, none⟩) len len)) (w.alloc (.cells flat.toArray E)) := by
    simp only [execOp, Sem.run_bind, hrun, Result.andThen_ok]; rfl
  rw [hrun', Oper.upon_value]
  refine ⟨g', r.next (blt_lt hN) q5 q6 (by simp) (fun j hj => q7 j fun e => n2 (e ▸ hj)) (fun β U e2 ys dd hc => ?_) q3, q4 K⟩
  exact q2.symm
end ops
end Go.Proofs.YtibhoanjglfaoaaGreat

/- The abstract walk: append; an empty array; a struct built; nil taken ars an array of one's own. -/
namespace Go.Proofs.YtibhoanjglfaoaaGreat
open Go.RowKit
set_option linter.unusedVariables false

/-- What is appended: a value, ars cells read in the world. -/
def Src2 (w : World) (v : Value) (m size : Nat) (news : List Value) : Prop :=
  news.length = m * size ∧ ((v = .slice none 0 0 ∧ m = 0) ∨ ∃ a c, v = .slice (some a) m c ∧ ∀ j u, news[j]? = some u → w.cell? (a.add j) = some u)
theorem run_app2 {P : Program} (w : World) (t ty e : TypeId) (i : TypeInfo) (z : Value) (size bytes : Nat) (ht : P.underlying t = some (.slice e)) (hi : P.info? e = some i) (hz : i.zero = some z)
    (hsize : i.size = size) (hby : i.bytes = bytes) (hzs : z.cells.size = size) (hsz : 0 < size)
    (v : Value) (n : Nat) (xs : List Value) (hown : w.ownsRow 0 e size v n xs) (u : Value) (m : Nat) (news : List Value) (hsrc : Src2 w u m size news) (h1 : ∀ u ∈ news, u.oneCell' = true)
    (h63 : n + m ≤ maxLen) (hbytes : (n + m) * bytes ≤ 140737488355328) :
    ∃ v' w', (Builtin.append_ #[t, t] ty #[v, u]).run P w = .ok v' w' ∧ w'.ownsRow 0 e size v' (n + m) (xs ++ news) ∧ w.grownBy w' v.ownBlock ∧
      ∀ b, v'.ownBlock = some b → v.ownBlock = some b ∨ w.heap.size ≤ b := by
  rcases hsrc.2 with ⟨rfl, rfl⟩ | ⟨a, c, rfl, hc⟩
  · have hn : news = [] := List.eq_nil_of_length_eq_zero (by simpa using hsrc.1)
    subst hn
    have : ∃ base n' cap, v = .slice base n' cap ∧ n' ≤ cap := by
      rcases hown.2 with ⟨rfl, _⟩ | ⟨g, cap, cur, rfl, _, _, hnc, _⟩
      · exact ⟨none, 0, 0, rfl, Nat.le_refl _⟩
      · exact ⟨_, _, _, rfl, hnc⟩
    obtain ⟨base, n', cap, rfl, hle⟩ := this
    exact ⟨_, w, run_app_nil w t ty e i ht hi base n' cap hle, by simpa using hown, ⟨rfl, rfl, rfl, Nat.le_refl _, fun _ _ _ => rfl⟩, fun b hb => .inl hb⟩
  · exact run_app w t ty e i z size bytes ht hi hz hsize hby hzs hsz v n xs hown a m c news hsrc.1 hc h1 h63 hbytes
theorem src_of_row {w : World} {T : TypeId} {size n : Nat} {v : Value} {cells : List Value} (h : w.ownsRow 0 T size v n cells) : Src2 w v n size cells := by
  refine ⟨h.1, ?_⟩
  rcases h.2 with h1 | ⟨g, cap, cur, rfl, _⟩
  · exact .inl h1
  · exact .inr ⟨_, cap, rfl, h.cells rfl⟩
theorem src_of_slice {α : Type} {e : Enc α} {f : α → List Cell} [hc : CellsOf e f] {w : World} {a : Option Addr} {n cap : Nat} {xs : List α} {bs : List Nat} (h : SliceRep e w a n cap xs bs) :
    ∃ cells b2, Src2 w (.slice a n cap) xs.length e.size cells ∧ FR w cells (xs.flatMap f) b2 ∧ ∀ b ∈ b2, b ∈ bs := by
  obtain ⟨h1, h2, h3, h4, h5⟩ := h
  rcases h5 with ⟨rfl, rfl⟩ | ⟨g, off, bss, hne, rfl, hg, rfl, hE⟩
  · cases a with
    | none =>
      have := h4 rfl
      subst this
      simp at h1
      subst h1
      exact ⟨[], [], ⟨by simp, .inl ⟨rfl, rfl⟩⟩, rfl, fun _ hb => by cases hb⟩
    | some a =>
      simp at h1
      subst h1
      exact ⟨[], [], ⟨by simp, .inr ⟨a, cap, rfl, fun j u hu => by simp at hu⟩⟩, rfl, fun _ hb => by cases hb⟩
  · obtain ⟨vs, f1, f2, f3⟩ := hE.flat
    subst h1
    exact ⟨vs, bss.flatten, ⟨f2, .inr ⟨_, cap, rfl, fun j u hu => by rw [addr_add]; exact f3 j u hu⟩⟩, f1, fun b hb => List.mem_cons_of_mem _ hb⟩
theorem FR.nofp {α : Type} {e : Enc α} {f : α → List Cell} [hc : CellsOf e f] (he : ∀ w cs y b, e.rep w cs y b → b = []) {w : World} : ∀ {xs : List α} {vs : List Value} {bs : List Nat}, FR w vs (xs.flatMap f) bs → bs = []
  | [], [], bs, h => h
  | [], v :: vs, bs, h => h.elim
  | x :: xs, vs, bs, h => by
    rw [List.flatMap_cons] at h
    obtain ⟨v1, v2, b1, b2, rfl, rfl, h1, h2⟩ := FR.app.1 h
    rw [he _ _ _ _ (hc.iff.2 h1), FR.nofp he h2]; rfl
theorem flatMap_app {α : Type} {f : α → List Cell} {xs ys : List α} : (xs ++ ys).flatMap f = xs.flatMap f ++ ys.flatMap f := List.flatMap_append

section
variable {g : Gh} {l : Locs} {w w' : World}
/-- append ars it is seen from numbers: k grows into k', the numbers js (k among them) are gone. -/
theorem app_lay (m : MemR g l w) {k k' : Nat} (hk' : lk l k' = none) (hki : k' ∉ l.ids) {js : List Nat} (hkj : k ∈ js) (hjs : ∀ j ∈ js, ∃ (α : Type) (T : TypeId) (e : Enc α) (xs : List α) (d : Bool), lkl l j = some (.arr T e xs d))
    {α : Type} {E : TypeId} {e : Enc α} {f : α → List Cell} [hc : CellsOf e f] {xs ys : List α} {d : Bool} {cells news : List Value} {b1 b2 : List Nat} {v' : Value}
    (hF : FR w cells (xs.flatMap f) b1) (hF2 : FR w news (ys.flatMap f) b2) (hI : ∀ b ∈ b1 ++ b2, g.I b) (hob : ∀ b, (g.hd k).ownBlock = some b → b = g.ρ k)
    (hrow : w'.ownsRow 0 E e.size v' (xs.length + ys.length) (cells ++ news)) (hgr : w.grownBy w' (g.hd k).ownBlock) (hblk : ∀ b, v'.ownBlock = some b → (g.hd k).ownBlock = some b ∨ w.heap.size ≤ b)
    (hd : d = true → (b1 ++ b2).Nodup ∧ ∀ b ∈ b1 ++ b2, ∃ j ∈ js, Via g l j b) :
    ∃ g', g'.hd k' = v' ∧ MemR g' ((k', some (.arr E e (xs ++ ys) d)) :: (gones js ++ l)) w' ∧ (∀ K, Step K g l w g' ((k', some (.arr E e (xs ++ ys) d)) :: (gones js ++ l)) w') ∧
      (∀ b, g.I b → w'.heap[b]? = w.heap[b]?) ∧ (∀ b, g.I b → g'.I b) ∧ ∀ j, j ≠ k' → okK g l g' ((k', some (.arr E e (xs ++ ys) d)) :: (gones js ++ l)) j := by
  obtain ⟨α0, T0, e0, xs0, d0, hk0⟩ := hjs k hkj
  have hlive : ∀ b, (g.hd k).ownBlock = some b → g.hd k ≠ .slice none 0 0 := fun b hb e => by rw [e] at hb; cases hb
  have hnI : ∀ b, (g.hd k).ownBlock = some b → ¬ g.I b := fun b hb => by rw [hob b hb]; exact m.notI hk0 (hlive b hb)
  have hkeepI : ∀ b, g.I b → w'.heap[b]? = w.heap[b]? := fun b hb => hgr.block b (m.ilt b hb) fun e => hnI b e.symm hb
  have hFR := (FR.app.2 ⟨cells, news, b1, b2, rfl, rfl, hF, hF2⟩).keep (w' := w') (fun b hb => hkeepI b (hI b hb)) hgr.size
  rw [← flatMap_app] at hFR
  have hIb : ∀ b, v'.ownBlock = some b → ¬ (g.I b ∨ liveA g [] b) := fun b hb h => by
    rcases h with h | ⟨j, hj, _⟩
    · rcases hblk b hb with h1 | h1
      · exact hnI b h1 h
      · have := m.ilt b h; omega
    · cases hj
  obtain ⟨g', q1, q2, q3, q4, q5, q6, q7⟩ := arr_new (w' := w') m hk' hki (js := js) (fz := []) (fun _ h => by cases h) hjs (T := E) (e := e) (xs := xs ++ ys) (d := d) (blk := (v'.ownBlock).getD 0) (v := v') (fp := b1 ++ b2)
    hgr.os hgr.tape hgr.output hgr.size (fun b hb hn => hgr.block b hb fun e => hn k hkj (by simp) (hlive b e.symm) (hob b e.symm))
    (ArrR.lay (by rw [List.length_append]; exact hrow) hFR (fun b hb => .inl (hI b hb)) (fun b hb => ⟨by rw [hb]; rfl, hIb b hb⟩))
    (fun hv => by
      rcases hrow.2 with ⟨h1, _⟩ | ⟨b, cap, cur, h1, _, h3, _⟩
      · exact absurd h1 hv
      · have hb : v'.ownBlock = some b := by rw [h1]; rfl
        rw [hb]
        refine ⟨(Array.getElem?_eq_some_iff.1 h3).1, ?_⟩
        rcases hblk b hb with h | h
        · exact .inr ⟨k, hkj, by simp, hlive b h, hob b h⟩
        · exact .inl h)
    (fun hdd => ⟨(hd hdd).1, fun b hb => ⟨.inl (hI b hb), by
      obtain ⟨j, hj, hv⟩ := (hd hdd).2 b hb
      obtain ⟨c, t, h⟩ := hv.cells m
      exact ⟨c, t, by rw [hkeepI b (hI b hb)]; exact h⟩, (hd hdd).2 b hb⟩⟩)
  exact ⟨g', q2, q3, q4, q5, q6, q7⟩
end

section ops
variable {P : Program} {N : Nat} {s : St} {d : Nat} {ty : TypeId} {pos : String} {after : Array Edge} {gd : Option (Nat × Bool)}
theorem run_appop {P : Program} {N : Nat} {a : Act} {w w' : World} {v' : Value} {x y : Operand} {T : TypeId} (h : (Builtin.append_ #[T, T] ty #[a.eval x, a.eval y]).run P w = .ok v' w') :
    (execOp a.eval ⟨some d, .call { callee := .builtin .append, args := #[x, y], argTypes := #[T, T] }, ty, pos, after, gd⟩).run P w = .ok (.value v') w' := by
  simp only [execOp, resolve, invoke, builtin, Sem.run_bind, Sem.run_pure, Result.andThen_ok, List.map_toArray, List.map_cons, List.map_nil, h]
/-- append of an own array to another. -/
theorem x_append {α : Type} {e : Enc α} {f : α → List Cell} [hc : CellsOf e f] {T E n b : Nat} {x y : Operand} {xs ys : List α} {d1 d2 : Bool} {k j : Nat} (k' : Nat) (hN : Nat.blt d N = true)
    (h : evo s.t x = some (.one (.own k))) (h2 : evo s.t y = some (.one (.own j))) (hl : lkl s.l k = some (.arr E e xs d1)) (hl2 : lkl s.l j = some (.arr E e ys d2)) (hkj : Nat.beq k j = false)
    (hT : arrT P T = some (E, n, b)) (hes : e.size = n) (hk : lk s.l k' = none) (hi : noId k' s.ids = true) (hbnd : xs.length + ys.length ≤ 1000000000) (hb : Nat.ble b 100000 = true) :
    Stp P N ⟨some d, .call { callee := .builtin .append, args := #[x, y], argTypes := #[T, T] }, ty, pos, after, gd⟩ s ⟨(d, .one (.own k')) :: s.t, (k', some (.arr E e (xs ++ ys) (d1 && d2))) :: (gones [k, j] ++ s.l)⟩
      ⟨rdo x (.one (.own k)) ++ rdo y (.one (.own j)), [(k, .arr E e xs d1), (j, .arr E e ys d2)], [(d, .one (.own k'))], (k', some (.arr E e (xs ++ ys) (d1 && d2))) :: gones [k, j], [k']⟩ := by
  refine ⟨fun K g s' a w hp r => ?_, ⟨two_rd h h2, by simp [hl, hl2], fun j hj => by simp at hj; subst hj; exact ⟨hk, noId_of hi⟩⟩, by simp [Cert.upd]⟩
  obtain ⟨p1, p2, p3⟩ := hp
  have e1 : CellR g s'.l w (a.eval x) (.own k) := eval_ok r (evs_of h) fun p hp => p1 p (List.mem_append_left _ hp)
  have e2 : CellR g s'.l w (a.eval y) (.own j) := eval_ok r (evs_of h2) fun p hp => p1 p (List.mem_append_right _ hp)
  have hl' : lkl s'.l k = some (.arr E e xs d1) := p2 (k, .arr E e xs d1) (by simp)
  have hl2' : lkl s'.l j = some (.arr E e ys d2) := p2 (j, .arr E e ys d2) (by simp)
  replace e1 := e1 _ _ _ _ _ hl'
  replace e2 := e2 _ _ _ _ _ hl2'
  obtain ⟨n1, n2⟩ := p3 k' (by simp)
  obtain ⟨hu, hn0, ti, z, hti, hz, hzs, htis, htib⟩ := arrT_spec hT
  obtain ⟨cells, b1, r1, f1, i1, F1, ob1⟩ := (r.mem.arr k _ _ _ _ _ hl').row
  obtain ⟨news, b2, r2, f2, i2, F2, ob2⟩ := (r.mem.arr j _ _ _ _ _ hl2').row
  have hkj' : k ≠ j := fun e => by subst e; simp at hkj
  have hb' := Nat.le_of_ble_eq_true hb
  obtain ⟨v', w', q1, q2, q3, q4⟩ := run_app2 (P := P) w T ty E ti z e.size b hu hti hz (by rw [hes]; exact htis) htib (by rw [hes]; exact hzs) (by rw [hes]; exact hn0) _ _ _ r1 _ _ _ (src_of_row r2) (FR.one f2)
    (by unfold maxLen; omega) (by
      have : (xs.length + ys.length) * b ≤ 1000000000 * 100000 := Nat.mul_le_mul hbnd hb'
      omega)
  have hgone : ∀ i ∈ [k, j], ∃ (α : Type) (T : TypeId) (e : Enc α) (xs : List α) (d : Bool), lkl s'.l i = some (.arr T e xs d) := fun i hi => by
    simp at hi
    rcases hi with rfl | rfl
    · exact ⟨α, E, e, xs, d1, hl'⟩
    · exact ⟨α, E, e, ys, d2, hl2'⟩
  obtain ⟨g', s1, s2, s3, s4, s5, s6⟩ := app_lay (w' := w') r.mem n1 (fun h => n2 (List.mem_append_right _ h)) (js := [k, j]) (List.mem_cons_self ..) hgone (E := E) (e := e) (xs := xs) (ys := ys) (d := d1 && d2) f1 f2
    (fun b hb => (List.mem_append.1 hb).elim (i1 b) (i2 b)) ob1 q2 q3 q4 (fun hd => by
      simp only [Bool.and_eq_true] at hd
      obtain ⟨rfl, rfl⟩ := hd
      have v1 : ∀ b ∈ b1, Via g s'.l k b := fun b hb => ⟨α, E, e, xs, hl', .inr (by rw [F1 rfl]; exact hb)⟩
      have v2 : ∀ b ∈ b2, Via g s'.l j b := fun b hb => ⟨α, E, e, ys, hl2', .inr (by rw [F2 rfl]; exact hb)⟩
      refine ⟨List.nodup_append.2 ⟨by rw [← F1 rfl]; exact (r.mem.fr k _ _ _ _ hl').1, by rw [← F2 rfl]; exact (r.mem.fr j _ _ _ _ hl2').1, fun x hx y hy exy => ?_⟩, fun b hb => ?_⟩
      · subst exy
        exact hkj' ((v1 x hx).disj r.mem (v2 x hy))
      · rcases List.mem_append.1 hb with hb | hb
        · exact ⟨k, by simp, v1 b hb⟩
        · exact ⟨j, by simp, v2 b hb⟩)
  unfold Oper.wp
  rw [run_appop (N := N) (by rw [e1, e2]; exact q1), Oper.upon_value]
  refine ⟨g', r.next (blt_lt hN) s4 s5 q3.size (fun j hj => s6 j fun e => n2 (e ▸ hj)) (fun β U e2 ys dd hc => ?_) s2, s3 K⟩
  exact s1.symm
/-- append of a slice that nobody writes. -/
theorem x_append_sl {α : Type} {e : Enc α} {f : α → List Cell} [hc : CellsOf e f] {T E n b : Nat} {x y : Operand} {xs ys : List α} {d1 : Bool} {k : Nat} (k' : Nat) (d2 : Bool) (hd2 : d2 = false ∨ ∀ w cs y b, e.rep w cs y b → b = []) (hN : Nat.blt d N = true)
    (h : evo s.t x = some (.one (.own k))) (h2 : evo s.t y = some (.one (.sl e ys))) (hl : lkl s.l k = some (.arr E e xs d1))
    (hT : arrT P T = some (E, n, b)) (hes : e.size = n) (hk : lk s.l k' = none) (hi : noId k' s.ids = true) (hbnd : xs.length + ys.length ≤ 1000000000) (hb : Nat.ble b 100000 = true) :
    Stp P N ⟨some d, .call { callee := .builtin .append, args := #[x, y], argTypes := #[T, T] }, ty, pos, after, gd⟩ s ⟨(d, .one (.own k')) :: s.t, (k', some (.arr E e (xs ++ ys) (d1 && d2))) :: (gones [k] ++ s.l)⟩
      ⟨rdo x (.one (.own k)) ++ rdo y (.one (.sl e ys)), [(k, .arr E e xs d1)], [(d, .one (.own k'))], (k', some (.arr E e (xs ++ ys) (d1 && d2))) :: gones [k], [k']⟩ := by
  refine ⟨fun K g s' a w hp r => ?_, ⟨two_rd h h2, by simp [hl], fun j hj => by simp at hj; subst hj; exact ⟨hk, noId_of hi⟩⟩, by simp [Cert.upd]⟩
  obtain ⟨p1, p2, p3⟩ := hp
  have e1 : CellR g s'.l w (a.eval x) (.own k) := eval_ok r (evs_of h) fun p hp => p1 p (List.mem_append_left _ hp)
  obtain ⟨aa, nn, cap, bs, e2, hS, hSI⟩ : CellR g s'.l w (a.eval y) (.sl e ys) := eval_ok r (evs_of h2) fun p hp => p1 p (List.mem_append_right _ hp)
  have hl' : lkl s'.l k = some (.arr E e xs d1) := p2 (k, .arr E e xs d1) (by simp)
  replace e1 := e1 _ _ _ _ _ hl'
  obtain ⟨n1, n2⟩ := p3 k' (by simp)
  obtain ⟨hu, hn0, ti, z, hti, hz, hzs, htis, htib⟩ := arrT_spec hT
  obtain ⟨cells, b1, r1, f1, i1, F1, ob1⟩ := (r.mem.arr k _ _ _ _ _ hl').row
  obtain ⟨news, b2, r2, f2, i2⟩ := src_of_slice hS
  have hb' := Nat.le_of_ble_eq_true hb
  obtain ⟨v', w', q1, q2, q3, q4⟩ := run_app2 (P := P) w T ty E ti z e.size b hu hti hz (by rw [hes]; exact htis) htib (by rw [hes]; exact hzs) (by rw [hes]; exact hn0) _ _ _ r1 _ _ _ r2 (FR.one f2)
    (by unfold maxLen; omega) (by
      have : (xs.length + ys.length) * b ≤ 1000000000 * 100000 := Nat.mul_le_mul hbnd hb'
      omega)
  have hgone : ∀ i ∈ [k], ∃ (α : Type) (T : TypeId) (e : Enc α) (xs : List α) (d : Bool), lkl s'.l i = some (.arr T e xs d) := fun i hi => by
    simp at hi
    subst hi
    exact ⟨α, E, e, xs, d1, hl'⟩
  obtain ⟨g', s1, s2, s3, s4, s5, s6⟩ := app_lay (w' := w') r.mem n1 (fun h => n2 (List.mem_append_right _ h)) (js := [k]) (List.mem_cons_self ..) hgone (E := E) (e := e) (xs := xs) (ys := ys) (d := d1 && d2) f1 f2
    (fun b hb => (List.mem_append.1 hb).elim (i1 b) fun h => hSI b (i2 b h)) ob1 q2 q3 q4 (fun hd => by
      simp only [Bool.and_eq_true] at hd
      obtain ⟨rfl, rfl⟩ := hd
      have hb2 : b2 = [] := FR.nofp (e := e) (hd2.resolve_left (by simp)) f2
      subst hb2
      rw [List.append_nil]
      have v1 : ∀ b ∈ b1, Via g s'.l k b := fun b hb => ⟨α, E, e, xs, hl', .inr (by rw [F1 rfl]; exact hb)⟩
      exact ⟨by rw [← F1 rfl]; exact (r.mem.fr k _ _ _ _ hl').1, fun b hb => ⟨k, by simp, v1 b hb⟩⟩)
  unfold Oper.wp
  rw [run_appop (N := N) (by rw [e1, e2]; exact q1), Oper.upon_value]
  refine ⟨g', r.next (blt_lt hN) s4 s5 q3.size (fun j hj => s6 j fun e => n2 (e ▸ hj)) (fun β U e2 ys dd hc => ?_) s2, s3 K⟩
  exact s1.symm
end ops
end Go.Proofs.YtibhoanjglfaoaaGreat

/- The abstract walk: a struct built from parts; an empty array; nil taken ars an array of one's own; results that lie in variables. -/
namespace Go.Proofs.YtibhoanjglfaoaaGreat
open Go.RowKit
set_option linter.unusedVariables false

/-! ### A struct from parts -/
def setCs (cs : List Cell) (off : Nat) (xs : List Cell) : List Cell := cs.take off ++ (xs ++ cs.drop (off + xs.length))
def nthP : List (Nat × Nat) → Nat → Option (Nat × Nat)
  | [], _ => none
  | p :: _, 0 => some p
  | _ :: r, n + 1 => nthP r n
theorem nthP_get : ∀ {l : List (Nat × Nat)} {n : Nat}, nthP l n = l[n]?
  | [], n => by simp [nthP]
  | p :: l, 0 => rfl
  | _ :: r, n + 1 => by simpa [nthP] using nthP_get (l := r)
def bldA (places : List (Nat × Nat)) : List Cell → List Nat → List AVal → Option (List Cell)
  | cs, i :: is, X :: Xs => match nthP places i with
    | some (off, size) => match Nat.beq X.cells.length size, Nat.ble (off + size) cs.length with
      | true, true => bldA places (setCs cs off X.cells) is Xs
      | _, _ => none
    | none => none
  | cs, [], [] => some cs
  | _, _, _ => none
theorem fold_cells (off : Nat) (vs : List Value) (cs : Array Value) (h : off + vs.length ≤ cs.size) : (vs.toArray.zipIdx.foldl (fun cs (x : Value × Nat) => cs.setIfInBounds (off + x.2) x.1) cs).toList = cs.toList.take off ++ (vs ++ cs.toList.drop (off + vs.length)) := by
  obtain ⟨h1, h2⟩ := Great.foldl_set off vs 0 cs
  have e : (vs.toArray.zipIdx.foldl (fun cs (x : Value × Nat) => cs.setIfInBounds (off + x.2) x.1) cs) = ((vs.zipIdx 0).foldl (fun cs (x : Value × Nat) => cs.setIfInBounds (off + x.2) x.1) cs) := by simp
  rw [e]
  refine List.ext_getElem? fun k => ?_
  rw [Array.getElem?_toList, h2 k]
  simp only [Nat.add_zero]
  have hl : (cs.toList.take off).length = off := by simp; omega
  rcases Nat.lt_or_ge k off with hk | hk
  · rw [if_neg (by omega), List.getElem?_append_left (by omega), List.getElem?_take, if_pos hk]; simp
  · rw [List.getElem?_append_right (by omega), hl]
    rcases Nat.lt_or_ge k (off + vs.length) with hk2 | hk2
    · rw [if_pos ⟨hk, hk2, by omega⟩, List.getElem?_append_left (by omega)]
    · rw [if_neg (by omega), List.getElem?_append_right (by omega), List.getElem?_drop, show off + vs.length + (k - off - vs.length) = k by omega]; simp
theorem fill_bld {g : Gh} {l : Locs} {w : World} (m : MemR g l w) {places : List (Nat × Nat)} : ∀ {ps : List (Nat × Value)} {Xs : List AVal} {cells : Array Value} {cs ds : List Cell}, All2 (VR g l w) (ps.map (·.2)) Xs → flats Xs = true →
    (Xs.flatMap AVal.cells).all (solid l) = true → All2 (CellR g l w) cells.toList cs → bldA places cs (ps.map (·.1)) Xs = some ds → ∃ r, Instr.fill (places.toArray[·]?) cells ps = some r ∧ All2 (CellR g l w) r.toList ds
  | [], [], cells, cs, ds, _, _, _, hA, hb => by
    simp only [List.map_nil, bldA, Option.some.injEq] at hb
    subst hb
    exact ⟨cells, rfl, hA⟩
  | (i, v) :: ps, X :: Xs, cells, cs, ds, h, hf, hs, hA, hb => by
    simp only [flats, Bool.and_eq_true] at hf
    rw [List.flatMap_cons, List.all_append, Bool.and_eq_true] at hs
    have hv := vr1_cells hs.1 m h.1 hf.1
    simp only [List.map_cons, bldA] at hb
    split at hb
    · rename_i off size hp
      split at hb
      · rename_i h1 h2
        have h1 := Nat.eq_of_beq_eq_true h1
        have h2 := Nat.le_of_ble_eq_true h2
        have hvl : v.cells.toList.length = size := by rw [hv.len]; exact h1
        have hcl : cells.size = cs.length := by simpa using hA.len
        have hfc := fold_cells off v.cells.toList cells (by omega)
        have hA2 : All2 (CellR g l w) (v.cells.zipIdx.foldl (fun cs (x : Value × Nat) => cs.setIfInBounds (off + x.2) x.1) cells).toList (setCs cs off X.cells) := by
          have e : v.cells.toList.toArray = v.cells := by simp
          rw [e] at hfc
          rw [hfc]
          unfold setCs
          rw [← hv.len]
          exact (hA.take off).app (hv.app (hA.drop _))
        obtain ⟨r, r1, r2⟩ := fill_bld m h.2 hf.2 hs.2 hA2 hb
        refine ⟨r, ?_, r2⟩
        rw [nthP_get] at hp
        unfold Instr.fill
        simp only [List.getElem?_toArray, hp]
        rw [if_neg (by
          have : v.cells.size = size := by simpa using hvl
          simp [this]; omega)]
        simpa only [List.getElem?_toArray] using r1
      · cases hb
    · cases hb
def bldT (P : Program) (T : TypeId) : Option (List Value × List (Nat × Nat)) :=
  match P.info? T, P.underlying T with
  | some it, some (.struct fields) =>
    match it.zero, fields.toList.mapM (fun f => (P.info? f.type).map fun i => (f.offset, i.size)) with
    | some z, some places => some (z.cells.toList, places)
    | _, _ => none
  | _, _ => none
theorem bldT_spec {P : Program} {T : TypeId} {zs : List Value} {places : List (Nat × Nat)} (h : bldT P T = some (zs, places)) (parts : List (Nat × Value)) : P.built T parts = Instr.fill (places.toArray[·]?) zs.toArray parts := by
  unfold bldT at h
  split at h
  · rename_i it fields h1 h2
    split at h
    · rename_i z pl h3 h4
      cases h
      simp only [Program.built, h1, h2, h3, h4]
    · cases h
  · cases h
section ops
variable {P : Program} {N : Nat} {s : St} {d : Nat} {ty : TypeId} {pos : String} {after : Array Edge} {gd : Option (Nat × Bool)}
theorem x_build {T : TypeId} {parts : Array (Nat × Operand)} {zs : List Value} {places : List (Nat × Nat)} {Xs : List AVal} {cs ds : List Cell} (hN : Nat.blt d N = true) (hT : bldT P T = some (zs, places)) (hz : plainL zs = some cs)
    (hev : evl s.t (parts.toList.map (·.2)) = some Xs) (hfl : flats Xs = true) (hsol : (Xs.flatMap AVal.cells).all (solid s.l) = true) (hb : bldA places cs (parts.toList.map (·.1)) Xs = some ds) :
    Stp P N ⟨some d, .build T parts, ty, pos, after, gd⟩ s ⟨(d, .agg ds) :: s.t, s.l⟩ ⟨rdl s.t (parts.toList.map (·.2)), rlC s.l (Xs.flatMap AVal.cells), [(d, .agg ds)], [], []⟩ :=
  Stp.pure rfl hN (evl_ok (N := N) hev).1 rlC_self fun g s' a w p1 p2 r => by
    have hvs := (evl_ok hev).2 r p1
    have hs' : (Xs.flatMap AVal.cells).all (solid s'.l) = true := List.all_eq_true.2 fun x hx => solid_of p2 hx (List.all_eq_true.1 hsol x hx)
    have hps : (parts.toList.map fun x => (x.1, a.eval x.2)).map (·.2) = (parts.toList.map (·.2)).map a.eval := by simp
    have hps1 : (parts.toList.map fun x => (x.1, a.eval x.2)).map (·.1) = parts.toList.map (·.1) := by simp [Function.comp_def]
    obtain ⟨rr, r1, r2⟩ := fill_bld r.mem (ps := parts.toList.map fun x => (x.1, a.eval x.2)) (cells := zs.toArray) (by rw [hps]; exact hvs) hfl hs' (by simpa using plainL_ok hz) (by rw [hps1]; exact hb)
    have hrun := run_build (P := P) w T (parts.map fun (i, x) => (i, a.eval x)) rr (by
      rw [bldT_spec hT, Array.toList_map]
      exact r1)
    refine ⟨.agg rr, by simp only [execOp, Sem.run_bind, hrun, Result.andThen_ok]; rfl, rr.toList, by simp, r2⟩
/-- A new array with no element. -/
theorem x_bslice0 {α : Type} {e : Enc α} {f : α → List Cell} [hc : CellsOf e f] {T E n b : Nat} (k : Nat) (hN : Nat.blt d N = true) (hT : arrT P T = some (E, n, b)) (hk : lk s.l k = none) (hi : noId k s.ids = true) :
    Stp P N ⟨some d, .buildSlice T 0 #[], ty, pos, after, gd⟩ s ⟨(d, .one (.own k)) :: s.t, (k, some (.arr (α := α) E e [] true)) :: s.l⟩ ⟨[], [], [(d, .one (.own k))], [(k, some (.arr (α := α) E e [] true))], [k]⟩ := by
  refine ⟨fun K g s' a w hp r => ?_, ⟨by simp, by simp, fun j hj => by simp at hj; subst hj; exact ⟨hk, noId_of hi⟩⟩, rfl⟩
  obtain ⟨p1, p2, p3⟩ := hp
  obtain ⟨n1, n2⟩ := p3 k (by simp)
  obtain ⟨hu, hn0, ti, z, hti, hz, hzs, htis, htib⟩ := arrT_spec hT
  have hrun : (execOp a.eval ⟨some d, .buildSlice T 0 #[], ty, pos, after, gd⟩).run P w = .ok (.value (.slice (some ⟨w.heap.size, 0, none⟩) 0 0)) (w.alloc (.cells #[] E)) := by
    simp only [execOp, Instr.buildSlice, Sem.run_bind, run_underlying hu, sizeOf, typeInfo, Result.andThen_ok, Sem.run_pure]
    simp [Instr.fill, newRow, hti, show Array.range 0 = #[] from rfl]
  obtain ⟨g', q1, q2, q3, q4, q5, q6, q7⟩ := arr_new (w' := w.alloc (.cells #[] E)) r.mem n1 (fun h => n2 (List.mem_append_right _ h)) (js := []) (fz := []) (fun _ h => h) (fun j hj => by cases hj) (T := E) (e := e) (xs := ([] : List α)) (d := true) (blk := w.heap.size) (v := .slice (some ⟨w.heap.size, 0, none⟩) 0 0) (fp := [])
    rfl rfl rfl (by simp) (fun b hb _ => Below.heap_alloc w _ b hb)
    (ArrR.lay (cells := []) ⟨by simp, .inr ⟨w.heap.size, 0, #[], rfl, Nat.zero_le _, heap_alloc_new w _, Nat.le_refl _, by unfold maxLen; omega, by simp, by simp⟩⟩ (by rfl) (fun b hb => by cases hb) (fun b hb => by
      simp [Value.ownBlock] at hb
      subst hb
      refine ⟨rfl, fun hI => ?_⟩
      rcases hI with hI | ⟨j, hj, _⟩
      · have := r.mem.ilt _ hI; omega
      · cases hj))
    (fun _ => ⟨by simp, .inl (Nat.le_refl _)⟩) (fun _ => ⟨List.nodup_nil, fun b hb => by cases hb⟩)
  unfold Oper.wp
  rw [hrun, Oper.upon_value]
  refine ⟨g', r.next (blt_lt hN) q5 q6 (by simp) (fun j hj => q7 j fun e => n2 (e ▸ hj)) (fun β U e2 ys dd hc => ?_) q3, q4 K⟩
  exact q2.symm
end ops

/-! ### nil ars an array of one's own -/
section adopt
variable {P : Program} {N : Nat} {K : List Nat} {Kn : St → Prop} {Q : Exit → St → Prop} {s : St}
theorem nil_new {g : Gh} {l : Locs} {w : World} (m : MemR g l w) {k : Nat} (hk : lk l k = none) (hki : k ∉ l.ids) (α : Type) (T : TypeId) (e : Enc α) :
    ∃ g', g'.hd k = .slice none 0 0 ∧ MemR g' ((k, some (.arr (α := α) T e [] true)) :: l) w ∧ (∀ K, Step K g l w g' ((k, some (.arr (α := α) T e [] true)) :: l) w) ∧ (∀ b, g.I b → g'.I b) ∧ ∀ j, j ≠ k → okK g l g' ((k, some (.arr (α := α) T e [] true)) :: l) j := by
  obtain ⟨g', q1, q2, q3, q4, q5, q6, q7⟩ := arr_new (w' := w) m hk hki (js := []) (fz := []) (fun _ h => h) (fun j hj => by cases hj) (T := T) (e := e) (xs := ([] : List α)) (d := true) (blk := 0) (v := .slice none 0 0) (fp := [])
    rfl rfl rfl (Nat.le_refl _) (fun b hb _ => rfl) (.inl ⟨rfl, setAt_self, fun _ => setAt_self⟩) (fun h => absurd rfl h) (fun _ => ⟨List.nodup_nil, fun b hb => by cases hb⟩)
  exact ⟨g', q2, q3, q4, q6, q7⟩
/-- What a variable holds, said anew. -/
theorem box_re {g : Gh} {l : Locs} {w : World} (m : MemR g l w) {b : Nat} {cs cs' : List Cell} (hb : lkl l b = some (.box cs)) (h : ∀ vs, All2 (CellR g l w) vs cs → All2 (CellR g l w) vs cs') :
    MemR g ((b, some (.box cs')) :: l) w ∧ (∀ K, Step K g l w g ((b, some (.box cs')) :: l) w) ∧ ∀ j, okK g l g ((b, some (.box cs')) :: l) j := by
  obtain ⟨vs, t, h1, h2, h3⟩ := m.box b cs hb
  have h4 := box_set m hb (vs := vs.toList) (vs' := vs.toList) (T := t) (by simpa using h1) (h _ h2)
  have e : w.setRow (g.ρ b) vs.toList.toArray = w := by
    simp only [Array.toArray_toList]
    have hh : (w.setRow (g.ρ b) vs).heap = w.heap := Array.ext_getElem? fun i => by
      by_cases hi : i = g.ρ b
      · subst hi; rw [setRow_heap w _ _ _ t _ h1, h1]
      · exact setRow_other w _ i _ hi
    have h5 : w.setRow (g.ρ b) vs = { w with heap := (w.setRow (g.ρ b) vs).heap } := rfl
    rw [h5, hh]
  rw [e] at h4
  exact ⟨h4.1, h4.2.1, h4.2.2.2⟩
/-- A variable's cell that holds nil holds an array of one's own, with no element. -/
theorem AW_adopt {α : Type} {T : TypeId} {e : Enc α} {c : Code} (k b off : Nat) {cs cs' : List Cell} (hb : lkl s.l b = some (.box cs)) (hc : nthC cs off = some (.c (.slice none 0 0))) (hcs : cs.set off (.own k) = cs') (hk : lk s.l k = none) (hi : noId k s.ids = true)
    (h : AW P N K c Kn Q ⟨s.t, (b, some (.box cs')) :: (k, some (.arr (α := α) T e [] true)) :: s.l⟩) : AW P N K c Kn Q s := fun g a w r => by
  have hki := noId_of hi
  obtain ⟨g', q1, q2, q3, q4, q5⟩ := nil_new r.mem hk (fun h => hki (List.mem_append_right _ h)) α T e
  have hkb : k ≠ b := fun e => by subst e; unfold lkl at hb; rw [hk] at hb; cases hb
  have hb' : lkl ((k, some (.arr (α := α) T e [] true)) :: s.l) b = some (.box cs) := by rw [lkl_cons_ne hkb]; exact hb
  obtain ⟨m2, st2, ok2⟩ := box_re q2 hb' (cs' := cs') (fun vs hv => by
    obtain ⟨v, h1, h2⟩ := hv.get (nthC_get hc)
    have h3 := hv.set (i := off) (v := v) (x := .own k) (fun β U e2 ys dd hh => by
      rw [q1]; exact h2.1)
    rw [hcs] at h3
    have h4 : vs.set off v = vs := by
      obtain ⟨hl, rfl⟩ := List.getElem?_eq_some_iff.1 h1
      exact List.set_getElem_self hl
    rwa [h4] at h3)
  have r2 := r.next0 (g' := g') (l' := (b, some (.box cs')) :: (k, some (.arr (α := α) T e [] true)) :: s.l) (w' := w) (fun _ _ => rfl) q4 (Nat.le_refl _) (fun j hj => (q5 j fun e => hki (e ▸ hj)).trans (ok2 j)) m2
  exact Go.wp_mono (h g' a w r2) fun e a1 w1 h1 => h1.trans r.mem m2 ((q3 K).trans r.mem q2 (st2 K))
/-- .. a slot that holds nil. -/
theorem AW_adoptT {α : Type} {T : TypeId} {e : Enc α} {c : Code} (k t : Nat) (ht : lk s.t t = some (.one (.c (.slice none 0 0)))) (hk : lk s.l k = none) (hi : noId k s.ids = true)
    (h : AW P N K c Kn Q ⟨(t, .one (.own k)) :: s.t, (k, some (.arr (α := α) T e [] true)) :: s.l⟩) : AW P N K c Kn Q s := fun g a w r => by
  have hki := noId_of hi
  obtain ⟨g', q1, q2, q3, q4, q5⟩ := nil_new r.mem hk (fun h => hki (List.mem_append_right _ h)) α T e
  have r1 := r.next0 (g' := g') (l' := (k, some (.arr (α := α) T e [] true)) :: s.l) (w' := w) (fun _ _ => rfl) q4 (Nat.le_refl _) (fun j hj => q5 j fun e => hki (e ▸ hj)) q2
  have hv : VR g s.l w (a.tmps.getD t undef) (.one (.c (.slice none 0 0))) := r.tmp t _ ht
  have r2 : Rep N g' ⟨(t, .one (.own k)) :: s.t, (k, some (.arr (α := α) T e [] true)) :: s.l⟩ a w := ⟨r1.size, r1.defers, fun j x hj => by
    by_cases hjt : t = j
    · subst hjt
      rw [lk_cons_self] at hj; cases hj
      exact fun β U e2 ys dd hh => by rw [q1]; exact hv.1
    · rw [lk_cons_ne hjt] at hj
      exact r1.tmp j x hj, r1.mem⟩
  exact Go.wp_mono (h g' a w r2) fun e a1 w1 h1 => h1.trans r.mem q2 (q3 K)
end adopt

/-! ### Results in variables -/
section results
variable {P : Program} {f : FuncId} {fn : Func} {c : Code} {N : Nat} {args : List AVal} {L L' : Locs}
theorem AC_ofB {res : AVal} {T : Tmps} {Lf : Locs} (hf : P.funcs[f]? = some fn) (hb : fn.body = some c) (hn : (fn.name == "runtime.NumGoroutine") = false) (hN : fn.ntmps = N) (hA : Nat.ble args.length N = true)
    (hren : res.ren (rn []) = res) (hle : LeS (keys L) (rn []) ⟨T, Lf⟩ ⟨[], L'⟩)
    (hr : ∀ (g : Gh) (a : Act) (w : World), Rep N g ⟨T, Lf⟩ a w → ∃ v, (results fn a.tmps).run P w = .ok v w ∧ VR g Lf w v res)
    (h : AW P N (keys L) c (RetS (keys L) T Lf) (RetQ (keys L) T Lf) ⟨args0 args 0, L⟩) : AC P f args L res L' := by
  have h0 := AC_of (L' := Lf) hf hb hn hN hA hr h
  refine ⟨h0.fn, fun g w cargs m ha => (h0.run g w cargs m ha).mono ?_⟩
  rintro e w' ⟨v, g1, rfl, m1, hv, hs⟩
  exact ⟨v, g1.ren (rn []), rfl, m1.unren hle.l hle.inj, VR.unren hle.l (by rw [hren]; exact hv), hs.trans m m1 (Step.unren hle.l hle.k)⟩
theorem run_results_c {ty : TypeId} {r n k : Nat} {cs : List Cell} {T : Tmps} {Lf : Locs} {g : Gh} {a : Act} {w : World} (R : Rep N g ⟨T, Lf⟩ a w) (ht : lk T r = some (.one (.ptr k 0))) (hl : lkl Lf k = some (.box cs)) (hk : kindT P ty = some (some n)) (hn : cs.length = n) :
    ∃ ad v, (asAddr (a.tmps.getD r undef)).run P w = .ok ad w ∧ (loadVar ty ad).run P w = .ok v w ∧ VR1 g Lf w v (.agg cs) := by
  have hp : a.tmps.getD r undef = .pointer (some ⟨g.ρ k, 0, none⟩) := (R.tmp r _ ht : CellR g Lf w _ (.ptr k 0)) cs hl
  obtain ⟨vs, h1, h2, h3⟩ := box_loads R.mem hl (off := 0) (n := n) (xs := cs) (by rw [List.drop_zero, ← hn, List.take_length]) hn
  exact ⟨_, .agg vs.toArray, by rw [hp]; rfl, run_load_agg hk h1 h2, vs, rfl, h3⟩
theorem AC_bodyC {ty : TypeId} {r n k : Nat} {cs : List Cell} {T : Tmps} {Lf : Locs} (hf : P.funcs[f]? = some fn) (hb : fn.body = some c) (hn : (fn.name == "runtime.NumGoroutine") = false) (hN : fn.ntmps = N) (hA : Nat.ble args.length N = true) (hr : fn.results = #[.cell r ty])
    (ht : lk T r = some (.one (.ptr k 0))) (hl : lkl Lf k = some (.box cs)) (hk : kindT P ty = some (some n)) (hcn : cs.length = n) (hren : (AVal.agg cs).ren (rn []) = .agg cs) (hle : LeS (keys L) (rn []) ⟨T, Lf⟩ ⟨[], L'⟩)
    (h : AW P N (keys L) c (RetS (keys L) T Lf) (RetQ (keys L) T Lf) ⟨args0 args 0, L⟩) : AC P f args L (.agg cs) L' :=
  AC_ofB hf hb hn hN hA hren hle (fun g a w R => by
    obtain ⟨ad, v, h1, h2, h3⟩ := run_results_c R ht hl hk hcn
    refine ⟨v, ?_, h3⟩
    simp only [Array.getD_eq_getD_getElem?] at h1
    simp [results, hr, h1, h2]) h
theorem AC_bodyCT {ty : TypeId} {r q n k : Nat} {cs : List Cell} {x : AVal} {T : Tmps} {Lf : Locs} (hf : P.funcs[f]? = some fn) (hb : fn.body = some c) (hn : (fn.name == "runtime.NumGoroutine") = false) (hN : fn.ntmps = N) (hA : Nat.ble args.length N = true) (hr : fn.results = #[.cell r ty, .tmp q])
    (ht : lk T r = some (.one (.ptr k 0))) (hq : lk T q = some x) (hx : x.flat = true) (hl : lkl Lf k = some (.box cs)) (hk : kindT P ty = some (some n)) (hcn : cs.length = n) (hren : (AVal.tup [.agg cs, x]).ren (rn []) = .tup [.agg cs, x]) (hle : LeS (keys L) (rn []) ⟨T, Lf⟩ ⟨[], L'⟩)
    (h : AW P N (keys L) c (RetS (keys L) T Lf) (RetQ (keys L) T Lf) ⟨args0 args 0, L⟩) : AC P f args L (.tup [.agg cs, x]) L' :=
  AC_ofB hf hb hn hN hA hren hle (fun g a w R => by
    obtain ⟨ad, v, h1, h2, h3⟩ := run_results_c R ht hl hk hcn
    refine ⟨.tuple #[v, a.tmps.getD q undef], ?_, ⟨[v, a.tmps.getD q undef], rfl, h3, (R.tmp q x hq).vr1 hx, trivial⟩⟩
    simp only [Array.getD_eq_getD_getElem?] at h1
    simp [results, hr, h1, h2]) h
end results
end Go.Proofs.YtibhoanjglfaoaaGreat

/- The abstract walk: calls that lend and leave; rules with the element's size found by the kernel. -/
namespace Go.Proofs.YtibhoanjglfaoaaGreat
open Go.RowKit
set_option linter.unusedVariables false

def arrOk (P : Program) (T E n : Nat) : Bool := match arrT P T with
  | some (E', n', b) => Nat.beq E' E && Nat.beq n' n && Nat.ble b 100000
  | none => false
theorem arrOk_spec {P : Program} {T E n : Nat} (h : arrOk P T E n = true) : ∃ b, arrT P T = some (E, n, b) ∧ Nat.ble b 100000 = true := by
  unfold arrOk at h
  split at h
  · rename_i E' n' b hT
    simp only [Bool.and_eq_true] at h
    obtain ⟨⟨h1, h2⟩, h3⟩ := h
    have h1 := Nat.eq_of_beq_eq_true h1
    have h2 := Nat.eq_of_beq_eq_true h2
    subst h1; subst h2
    exact ⟨b, hT, h3⟩
  · cases h
section ops
variable {P : Program} {N : Nat} {s : St} {d : Nat} {ty : TypeId} {pos : String} {after : Array Edge} {gd : Option (Nat × Bool)}
theorem y_append {α : Type} {e : Enc α} {f : α → List Cell} [hc : CellsOf e f] {T E : Nat} {x y : Operand} {xs ys : List α} {d1 d2 : Bool} {k j : Nat} (k' : Nat) (hN : Nat.blt d N = true)
    (h : evo s.t x = some (.one (.own k))) (h2 : evo s.t y = some (.one (.own j))) (hl : lkl s.l k = some (.arr E e xs d1)) (hl2 : lkl s.l j = some (.arr E e ys d2)) (hkj : Nat.beq k j = false)
    (hk : lk s.l k' = none) (hi : noId k' s.ids = true) (hT : arrOk P T E e.size = true) (hbnd : xs.length + ys.length ≤ 1000000000) :
    Stp P N ⟨some d, .call { callee := .builtin .append, args := #[x, y], argTypes := #[T, T] }, ty, pos, after, gd⟩ s ⟨(d, .one (.own k')) :: s.t, (k', some (.arr E e (xs ++ ys) (d1 && d2))) :: (gones [k, j] ++ s.l)⟩
      ⟨rdo x (.one (.own k)) ++ rdo y (.one (.own j)), [(k, .arr E e xs d1), (j, .arr E e ys d2)], [(d, .one (.own k'))], (k', some (.arr E e (xs ++ ys) (d1 && d2))) :: gones [k, j], [k']⟩ := by
  obtain ⟨b, h3, h4⟩ := arrOk_spec hT
  exact x_append k' hN h h2 hl hl2 hkj h3 rfl hk hi hbnd h4
theorem y_append_sl {α : Type} {e : Enc α} {f : α → List Cell} [hc : CellsOf e f] {T E : Nat} {x y : Operand} {xs ys : List α} {d1 : Bool} {k : Nat} (k' : Nat) (d2 : Bool) (hd2 : d2 = false ∨ ∀ w cs y b, e.rep w cs y b → b = []) (hN : Nat.blt d N = true)
    (h : evo s.t x = some (.one (.own k))) (h2 : evo s.t y = some (.one (.sl e ys))) (hl : lkl s.l k = some (.arr E e xs d1)) (hk : lk s.l k' = none) (hi : noId k' s.ids = true) (hT : arrOk P T E e.size = true) (hbnd : xs.length + ys.length ≤ 1000000000) :
    Stp P N ⟨some d, .call { callee := .builtin .append, args := #[x, y], argTypes := #[T, T] }, ty, pos, after, gd⟩ s ⟨(d, .one (.own k')) :: s.t, (k', some (.arr E e (xs ++ ys) (d1 && d2))) :: (gones [k] ++ s.l)⟩
      ⟨rdo x (.one (.own k)) ++ rdo y (.one (.sl e ys)), [(k, .arr E e xs d1)], [(d, .one (.own k'))], (k', some (.arr E e (xs ++ ys) (d1 && d2))) :: gones [k], [k']⟩ := by
  obtain ⟨b, h3, h4⟩ := arrOk_spec hT
  exact x_append_sl k' d2 hd2 hN h h2 hl h3 rfl hk hi hbnd h4
theorem y_bslice0 {α : Type} {e : Enc α} {f : α → List Cell} [hc : CellsOf e f] {T E : Nat} (k : Nat) (hN : Nat.blt d N = true) (hk : lk s.l k = none) (hi : noId k s.ids = true) (hT : arrOk P T E e.size = true) :
    Stp P N ⟨some d, .buildSlice T 0 #[], ty, pos, after, gd⟩ s ⟨(d, .one (.own k)) :: s.t, (k, some (.arr (α := α) E e [] true)) :: s.l⟩ ⟨[], [], [(d, .one (.own k))], [(k, some (.arr (α := α) E e [] true))], [k]⟩ := by
  obtain ⟨b, h3, h4⟩ := arrOk_spec hT
  exact x_bslice0 (f := f) k hN h3 hk hi
theorem y_bslice {α : Type} {e : Enc α} {f : α → List Cell} [hc : CellsOf e f] {T E len : Nat} (ops : List Operand) {parts : Array (Nat × Operand)} {Xs : List AVal} (xs : List α) {ds : List Cell} {js : List Nat} {dp : Bool} (k : Nat) (hN : Nat.blt d N = true)
    (hparts : parts = ((ops.zipIdx 0).map fun x => (x.2, x.1)).toArray) (hev : evl s.t ops = some Xs) (hfl : flats Xs = true) (hsol : (Xs.flatMap AVal.cells).all (solid s.l) = true)
    (hlen : ops.length = len) (hsz : Xs.all (fun X => Nat.beq X.cells.length e.size) = true)
    (hmv : mvC s.l (Xs.flatMap AVal.cells) = some (ds, js, dp)) (hfit : FitL ds (xs.flatMap f)) (hnd : noDup js = true) (hxs : xs.length = len) (hpos : Nat.blt 0 len = true) (hsmall : Nat.ble (len * e.size) 16777216 = true)
    (hk : lk s.l k = none) (hi : noId k s.ids = true) (hT : arrOk P T E e.size = true) :
    Stp P N ⟨some d, .buildSlice T len parts, ty, pos, after, gd⟩ s ⟨(d, .one (.own k)) :: s.t, (k, some (.arr E e xs dp)) :: (gones js ++ s.l)⟩ ⟨rdl s.t ops, rlC s.l (Xs.flatMap AVal.cells), [(d, .one (.own k))], (k, some (.arr E e xs dp)) :: gones js, [k]⟩ := by
  obtain ⟨b, h3, h4⟩ := arrOk_spec hT
  exact x_bslice ops xs k hN hparts hev hfl hsol h3 hlen hsz rfl hmv hfit hnd hxs hpos hsmall hk hi
/-! calls -/
def newOk (s : St) (ks : List Nat) : Bool := ks.all fun k => (match lk s.l k with | none => true | some _ => false) && noId k s.ids
theorem newOk_of {s : St} {ks : List Nat} (h : newOk s ks = true) : ∀ k ∈ ks, lk s.l k = none ∧ k ∉ s.ids := fun k hk => by
  have h1 := List.all_eq_true.1 h k hk
  simp only [Bool.and_eq_true] at h1
  refine ⟨?_, noId_of h1.2⟩
  have h2 := h1.1
  split at h2
  · assumption
  · cases h2
/-- A call that lends the blocks L and leaves the blocks L'. -/
theorem x_call {fo : Operand} {f : FuncId} {ks : List Nat} {ars : Array Operand} {ats : Array TypeId} {xs ys : List AVal} {L L' : Locs} {res : AVal} (hN : Nat.blt d N = true) (hev : evo s.t fo = some (.one (.clo f ks)))
    (hxs : evl s.t ars.toList = some xs) (hac : AC P f ys L res L') (hfl : flats xs = true) (hle : AllV (xs ++ caps ks) ys) (hks : ∀ k ∈ ks, ∃ cs, (k, some (Blk.box cs)) ∈ L) (hLs : okL L = true) (hsc : closedIn (keys L') L'.ids = true) (hsr : closedIn (keys L') res.ids = true)
    (hsub : sub s.l L) (hnew : newOk s (newOf L L') = true) :
    Stp P N ⟨some d, .call { callee := .value fo, args := ars, argTypes := ats }, ty, pos, after, gd⟩ s ⟨(d, res) :: s.t, L' ++ (goneL L ++ s.l)⟩ ⟨rdo fo (.one (.clo f ks)) ++ rdl s.t ars.toList, rlOf L, [(d, res)], L' ++ goneL L, newOf L L'⟩ :=
  ⟨OpOK.call rfl rfl (blt_lt hN) hev hxs hfl hac hle hks hLs hsc hsr, ⟨fun p hp => by
      rcases List.mem_append.1 hp with hp | hp
      · exact rdo_of hev p hp
      · exact (evl_ok (N := N) hxs).1 p hp, sub_rlOf hsub, newOk_of hnew⟩, by simp [Cert.upd, List.append_assoc]⟩
/-- .. that lends nothing and leaves one array. -/
theorem x_call1 {fo : Operand} {f : FuncId} {ars : Array Operand} {ats : Array TypeId} {xs : List AVal} {k : Nat} {b : Option Blk} {res : AVal} (hN : Nat.blt d N = true) (hev : evo s.t fo = some (.one (.clo f [])))
    (hxs : evl s.t ars.toList = some xs) (hac : AC P f xs [] res [(k, b)]) (hfl : flats xs = true) (hsc : closedIn [k] (Locs.ids [(k, b)]) = true) (hsr : closedIn [k] res.ids = true) (hnew : newOk s [k] = true) :
    Stp P N ⟨some d, .call { callee := .value fo, args := ars, argTypes := ats }, ty, pos, after, gd⟩ s ⟨(d, res) :: s.t, (k, b) :: s.l⟩ ⟨rdo fo (.one (.clo f [])) ++ rdl s.t ars.toList, [], [(d, res)], [(k, b)], [k]⟩ :=
  x_call (L := []) (L' := [(k, b)]) hN hev hxs hac hfl (by rw [show caps [] = [] from rfl, List.append_nil]; exact AllV.rf) (fun k hk => by cases hk) rfl hsc hsr trivial hnew
end ops
theorem ble_eq {b b' : Blk} (h : b = b') : BLe b b' := .inl h
theorem BLe.arr {α : Type} {T : TypeId} {e : Enc α} {xs ys : List α} {d : Bool} (h : xs = ys) : BLe (.arr T e xs d) (.arr T e ys d) := by subst h; exact BLe.rf
/-- The array that is left, under another number. -/
theorem AC.at {P : Program} {f : FuncId} {args : List AVal} {res : AVal} {b : Blk} (h : AC P f args [] (res.ren fun _ => 0) [(0, some (b.ren fun _ => 0))]) (k : Nat) : AC P f args [] res [(k, some b)] :=
  ⟨h.fn, fun g w cargs m ha => (h.run g w cargs m ha).mono (by
    rintro e w' ⟨v, g1, rfl, m1, hv, hs⟩
    have hL : LeL (fun _ => 0) [(0, some (b.ren fun _ => 0))] [(k, some b)] := ⟨⟨_, rfl, BLe.rf⟩, trivial⟩
    have hi : injL (fun _ => 0) (keys [(k, some b)]) = true := by simp [injL, keys]
    exact ⟨v, g1.ren fun _ => 0, rfl, m1.unren hL hi, VR.unren hL hv, hs.trans m m1 (Step.unren hL trivial)⟩)⟩
end Go.Proofs.YtibhoanjglfaoaaGreat

/- The abstract walk: own arrays are read by a callee; own arrays are given up to be read alone. -/
namespace Go.Proofs.YtibhoanjglfaoaaGreat
open Go.RowKit
set_option linter.unusedVariables false

/-- A part of a slice. -/
theorem SliceRep.part {α : Type} {e : Enc α} {w : World} {a : Option Addr} {n cap : Nat} {xs : List α} {bs : List Nat} (h : SliceRep e w a n cap xs bs) {lo hi : Nat} (h1 : lo ≤ hi) (h2 : hi ≤ xs.length) :
    ∃ bs', SliceRep e w (if cap = lo then a else a.map (·.add (lo * e.size))) (hi - lo) (cap - lo) ((xs.drop lo).take (hi - lo)) bs' ∧ ∀ b ∈ bs', b ∈ bs := by
  obtain ⟨rfl, g1, g2, g3, g4⟩ := h
  by_cases he : lo = hi
  · subst he
    refine ⟨[], ⟨by simp, by omega, by omega, fun hn => ?_, .inl ⟨by simp, rfl⟩⟩, fun b hb => by cases hb⟩
    split at hn
    · omega
    · cases a with
      | none => have := g3 rfl; omega
      | some a => cases hn
  · have hne : xs ≠ [] := by intro e; subst e; simp at h2; omega
    rcases g4 with ⟨rfl, _⟩ | ⟨g, off, bss, _, rfl, hg, rfl, hE⟩
    · exact absurd rfl hne
    · have hc : ¬ cap = lo := by omega
      refine ⟨g :: ((bss.drop lo).take (hi - lo)).flatten, ⟨by simp; omega, by omega, by omega, fun hn => ?_, .inr ⟨g, off + lo * e.size, (bss.drop lo).take (hi - lo), ?_, ?_, hg, rfl, ?_, ?_⟩⟩, fun b hb => ?_⟩
      · rw [if_neg hc] at hn; cases hn
      · intro e0; have := congrArg List.length e0; simp at this; omega
      · rw [if_neg hc]; simp [addr_add]
      · simp [hE.1]
      · intro i x b hx hb
        rw [List.getElem?_take] at hx hb
        split at hx
        · rename_i hi
          rw [if_pos hi] at hb
          rw [List.getElem?_drop] at hx hb
          obtain ⟨cs, q1, q2⟩ := hE.2 (lo + i) x b hx hb
          exact ⟨cs, q1, fun j u hu => by rw [show off + lo * e.size + i * e.size + j = off + (lo + i) * e.size + j by rw [Nat.add_mul]; omega]; exact q2 j u hu⟩
        · cases hx
      · rcases List.mem_cons.1 hb with rfl | hb
        · exact List.mem_cons_self ..
        · obtain ⟨l, hl, hbl⟩ := List.mem_flatten.1 hb
          exact List.mem_cons_of_mem _ (List.mem_flatten.2 ⟨l, List.mem_of_mem_drop (List.mem_of_mem_take hl), hbl⟩)
/-- What a callee may read of a cell. -/
def rdC (l : Locs) : Cell → Option Cell
  | .own k => match lkl l k with | some (.arr _ e xs _) => some (.sl e xs) | _ => none
  | .slo _ e xs => some (.sl e xs)
  | .epo _ e x o => some (.ep e x o)
  | .c v => some (.c v)
  | .sl e xs => some (.sl e xs)
  | .ep e x o => some (.ep e x o)
  | .sn e xs => some (.sl e xs)
  | .osl k lo n => match lkl l k with | some (.arr _ e xs _) => some (.sl e ((xs.drop lo).take n)) | _ => none
  | _ => none
def rdCs (l : Locs) : List Cell → Option (List Cell)
  | [] => some []
  | c :: cs => match rdC l c, rdCs l cs with | some d, some ds => some (d :: ds) | _, _ => none
def rdA (l : Locs) : AVal → Option AVal
  | .one x => match rdC l x with | some y => some (.one y) | none => none
  | .agg xs => match rdCs l xs with | some ys => some (.agg ys) | none => none
  | .tup _ => none
def rdAs (l : Locs) : List AVal → Option (List AVal)
  | [] => some []
  | x :: xs => match rdA l x, rdAs l xs with | some y, some ys => some (y :: ys) | _, _ => none
/-- Cells that speak of no memory that is only read. -/
def cleanC : Cell → Bool
  | .c _ => true
  | .own _ => true
  | .any => true
  | _ => false
def cleanV : AVal → Bool
  | .one x => cleanC x
  | .agg xs => xs.all cleanC
  | .tup xs => xs.all fun | .one x => cleanC x | .agg ys => ys.all cleanC | .tup _ => false
def cleanL : Locs → Bool
  | [] => true
  | (_, some (.arr _ _ _ d)) :: r => d && cleanL r
  | (_, some (.box _)) :: _ => false
  | (_, none) :: r => cleanL r
/-- The arrays that are read. -/
def liveR (g : Gh) (l : Locs) (b : Nat) : Prop := ∃ k blk, lkl l k = some blk ∧ liv g k blk ∧ b = g.ρ k

theorem rdC_ok {g : Gh} {l : Locs} {w : World} (m : MemR g l w) {v : Value} {x y : Cell} (h : CellR g l w v x) (hr : rdC l x = some y) : CellR { g with I := fun b => g.I b ∨ liveR g l b } [] w v y := by
  cases x with
  | c u => cases hr; exact h
  | sl e xs => cases hr; obtain ⟨a, n, cap, bs, h1, h2, h3⟩ := h; exact ⟨a, n, cap, bs, h1, h2, fun b hb => .inl (h3 b hb)⟩
  | own k =>
    simp only [rdC] at hr
    split at hr
    · rename_i T e xs d hk
      cases hr
      obtain ⟨a, n, cap, bs, h1, h2, h3, _⟩ := (m.arr k _ _ _ _ _ hk).slice
      exact ⟨a, n, cap, bs, (h _ _ _ _ _ hk).trans h1, h2, fun b hb => by
        rcases h3 b hb with h4 | ⟨h4, h5⟩
        · exact .inl h4
        · exact .inr ⟨k, _, hk, h4, h5⟩⟩
    · cases hr
  | ep e z off => cases hr; obtain ⟨gb, o, cs, b, h1, h2, h3, h4, h5⟩ := h; exact ⟨gb, o, cs, b, h1, .inl h2, h3, fun c hc => .inl (h4 c hc), h5⟩
  | slo B e xs => cases hr; obtain ⟨a, n, cap, bs, h1, h2, h3⟩ := h; exact ⟨a, n, cap, bs, h1, h2, fun b hb => .inl (h3 b hb).1⟩
  | epo B e z off => cases hr; obtain ⟨gb, o, cs, b, h1, h2, h3, h4, h5⟩ := h; exact ⟨gb, o, cs, b, h1, .inl h2.1, h3, fun c hc => .inl (h4 c hc).1, h5⟩
  | sn e xs => cases hr; obtain ⟨a, n, cap, bs, h1, h2, h3⟩ := h; exact ⟨_, n, cap, bs, h1, h2, fun b hb => .inl (h3 b hb)⟩
  | osl k lo n =>
    simp only [rdC] at hr
    split at hr
    · rename_i T e xs d hk
      cases hr
      obtain ⟨a, m0, cap0, bs, h1, h2, h3, _⟩ := (m.arr k _ _ _ _ _ hk).slice
      have conv : ∀ b, b ∈ bs → g.I b ∨ liveR g l b := fun b hb => by
        rcases h3 b hb with h4 | ⟨h4, h5⟩
        · exact .inl h4
        · exact .inr ⟨k, _, hk, h4, h5⟩
      rcases h _ _ _ _ _ hk with ⟨f1, f2, rfl, rfl⟩ | ⟨len, cap, off, f1, f2, f3, f4, f5⟩
      · exact ⟨none, 0, 0, [], f2, ⟨by simp, Nat.le_refl _, by unfold maxLen; omega, fun _ => rfl, .inl ⟨by simp, rfl⟩⟩, fun b hb => by cases hb⟩
      · rw [f1] at h1; cases h1
        have hlen := h2.1
        have hcm := h2.2.2.1
        obtain ⟨bs', p1, p2⟩ := h2.part (lo := lo) (hi := lo + n) (by omega) (by omega)
        rw [Nat.add_sub_cancel_left] at p1
        by_cases hc : lo < cap0
        · rw [if_neg (by omega)] at p1
          refine ⟨_, _, _, bs', ?_, p1, fun b hb => conv b (p2 b hb)⟩
          rw [f2, f5 hc]; simp [addr_add]
        · have hn : n = 0 := by omega
          subst hn
          exact ⟨_, _, _, [], f2, ⟨by simp, Nat.zero_le _, by omega, (fun h => by cases h), .inl ⟨by simp, rfl⟩⟩, fun b hb => by cases hb⟩
    · cases hr
  | _ => cases hr
theorem rdCs_ok {g : Gh} {l : Locs} {w : World} (m : MemR g l w) : ∀ {vs : List Value} {xs ys : List Cell}, All2 (CellR g l w) vs xs → rdCs l xs = some ys → All2 (CellR { g with I := fun b => g.I b ∨ liveR g l b } [] w) vs ys
  | [], [], ys, _, hr => by cases hr; trivial
  | v :: vs, x :: xs, ys, h, hr => by
    simp only [rdCs] at hr
    split at hr
    · rename_i d ds h1 h2; cases hr; exact ⟨rdC_ok m h.1 h1, rdCs_ok m h.2 h2⟩
    · cases hr
theorem rdA_ok {g : Gh} {l : Locs} {w : World} (m : MemR g l w) {v : Value} {x y : AVal} (h : VR1 g l w v x) (hr : rdA l x = some y) : VR1 { g with I := fun b => g.I b ∨ liveR g l b } [] w v y := by
  cases x with
  | one x =>
    simp only [rdA] at hr
    split at hr
    · rename_i d h1; cases hr; exact rdC_ok m h h1
    · cases hr
  | agg xs =>
    simp only [rdA] at hr
    split at hr
    · rename_i ds h1; cases hr
      obtain ⟨vs, h2, h3⟩ := h
      exact ⟨vs, h2, rdCs_ok m h3 h1⟩
    · cases hr
  | tup xs => cases hr
theorem rdAs_ok {g : Gh} {l : Locs} {w : World} (m : MemR g l w) : ∀ {vs : List Value} {xs ys : List AVal}, All2 (VR1 g l w) vs xs → rdAs l xs = some ys → All2 (VR1 { g with I := fun b => g.I b ∨ liveR g l b } [] w) vs ys
  | [], [], ys, _, hr => by cases hr; trivial
  | v :: vs, x :: xs, ys, h, hr => by
    simp only [rdAs] at hr
    split at hr
    · rename_i d ds h1 h2; cases hr; exact ⟨rdA_ok m h.1 h1, rdAs_ok m h.2 h2⟩
    · cases hr
theorem rdAs_flats {l : Locs} : ∀ {xs ys : List AVal}, rdAs l xs = some ys → flats xs = true
  | [], _, _ => rfl
  | x :: xs, ys, h => by
    simp only [rdAs] at h
    split at h
    · rename_i d ds h1 h2
      simp only [flats, Bool.and_eq_true]
      refine ⟨?_, rdAs_flats h2⟩
      cases x <;> first | rfl | cases h1
    · cases h
/-- The reading depends on the blocks that the cells speak of alone. -/
theorem rdC_of {l l' : Locs} {xs : List Cell} (h : ∀ p ∈ rlC l xs, lkl l' p.1 = some p.2) {x y : Cell} (hx : x ∈ xs) (hr : rdC l x = some y) : rdC l' x = some y := by
  cases x with
  | own k =>
    simp only [rdC] at hr ⊢
    split at hr
    · rename_i T e zs d hk; cases hr; rw [rlC_get h hx (by simp [Cell.ids]) hk]
    · cases hr
  | osl k lo n =>
    simp only [rdC] at hr ⊢
    split at hr
    · rename_i T e zs d hk; cases hr; rw [rlC_get h hx (by simp [Cell.ids]) hk]
    · cases hr
  | _ => first | exact hr | cases hr
theorem rdCs_of {l l' : Locs} {zs : List Cell} (h : ∀ p ∈ rlC l zs, lkl l' p.1 = some p.2) : ∀ {xs ys : List Cell}, (∀ x ∈ xs, x ∈ zs) → rdCs l xs = some ys → rdCs l' xs = some ys
  | [], ys, _, hr => hr
  | x :: xs, ys, hx, hr => by
    simp only [rdCs] at hr ⊢
    split at hr
    · rename_i d ds h1 h2
      cases hr
      rw [rdC_of h (hx x (List.mem_cons_self ..)) h1, rdCs_of h (fun y hy => hx y (List.mem_cons_of_mem _ hy)) h2]
    · cases hr
theorem rdA_of {l l' : Locs} {zs : List Cell} (h : ∀ p ∈ rlC l zs, lkl l' p.1 = some p.2) {x y : AVal} (hx : ∀ c ∈ x.cells, c ∈ zs) (hr : rdA l x = some y) : rdA l' x = some y := by
  cases x with
  | one x =>
    simp only [rdA] at hr ⊢
    split at hr
    · rename_i d h1; rw [rdC_of h (hx x (List.mem_singleton.2 rfl)) h1]; exact hr
    · cases hr
  | agg xs =>
    simp only [rdA] at hr ⊢
    split at hr
    · rename_i ds h1; rw [rdCs_of (xs := xs) h hx h1]; exact hr
    · cases hr
  | tup xs => cases hr
theorem rdAs_of {l l' : Locs} {zs : List Cell} (h : ∀ p ∈ rlC l zs, lkl l' p.1 = some p.2) : ∀ {xs ys : List AVal}, (∀ c ∈ xs.flatMap AVal.cells, c ∈ zs) → rdAs l xs = some ys → rdAs l' xs = some ys
  | [], ys, _, hr => hr
  | x :: xs, ys, hx, hr => by
    simp only [rdAs] at hr ⊢
    split at hr
    · rename_i d ds h1 h2
      cases hr
      rw [rdA_of h (fun c hc => hx c (List.mem_flatMap.2 ⟨x, List.mem_cons_self .., hc⟩)) h1, rdAs_of h (fun c hc => by
        obtain ⟨y, hy, hcy⟩ := List.mem_flatMap.1 hc
        exact hx c (List.mem_flatMap.2 ⟨y, List.mem_cons_of_mem _ hy, hcy⟩)) h2]
    · cases hr

theorem cleanC_re {g : Gh} {I : Nat → Prop} {l : Locs} {w : World} {v : Value} {x : Cell} (hc : cleanC x = true) (h : CellR g l w v x) : CellR { g with I := I } l w v x := by
  cases x <;> first | exact h | cases hc
theorem cleanCs_re {g : Gh} {I : Nat → Prop} {l : Locs} {w : World} : ∀ {vs : List Value} {xs : List Cell}, xs.all cleanC = true → All2 (CellR g l w) vs xs → All2 (CellR { g with I := I } l w) vs xs
  | [], [], _, _ => trivial
  | v :: vs, x :: xs, hc, h => by
    simp only [List.all_cons, Bool.and_eq_true] at hc
    exact ⟨cleanC_re hc.1 h.1, cleanCs_re hc.2 h.2⟩
theorem cleanV1_re {g : Gh} {I : Nat → Prop} {l : Locs} {w : World} {v : Value} {x : AVal} (hc : cleanV x = true) (h : VR1 g l w v x) : VR1 { g with I := I } l w v x := by
  cases x with
  | one x => exact cleanC_re hc h
  | agg xs => obtain ⟨vs, h1, h2⟩ := h; exact ⟨vs, h1, cleanCs_re hc h2⟩
  | tup xs => exact h
theorem cleanV_re {g : Gh} {I : Nat → Prop} {l : Locs} {w : World} {v : Value} {x : AVal} (hc : cleanV x = true) (h : VR g l w v x) : VR { g with I := I } l w v x := by
  cases x with
  | one x => exact cleanC_re hc h
  | agg xs => exact cleanV1_re (x := .agg xs) hc h
  | tup xs =>
    obtain ⟨vs, h1, h2⟩ := h
    refine ⟨vs, h1, ?_⟩
    clear h1
    simp only [cleanV, List.all_eq_true] at hc
    exact h2.mono fun a b hb hr => by
      have := hc b hb
      cases b with
      | one x => exact cleanC_re this hr
      | agg ys => obtain ⟨vs, h3, h4⟩ := hr; exact ⟨vs, h3, cleanCs_re this h4⟩
      | tup _ => exact hr
theorem cleanL_arr : ∀ {L : Locs} {k : Nat} {b : Blk}, cleanL L = true → lkl L k = some b → ∃ (α : Type) (T : TypeId) (e : Enc α) (xs : List α), b = .arr T e xs true
  | [], k, b, _, h => by simp [lkl, lk] at h
  | (j, none) :: r, k, b, hc, h => by
    by_cases e : j = k
    · subst e; rw [lkl_cons_self] at h; cases h
    · rw [lkl_cons_ne e] at h; exact cleanL_arr (L := r) hc h
  | (j, some (.arr T e xs d)) :: r, k, b, hc, h => by
    simp only [cleanL, Bool.and_eq_true] at hc
    by_cases ek : j = k
    · subst ek; rw [lkl_cons_self] at h; cases h; obtain ⟨rfl, _⟩ := hc; exact ⟨_, T, e, xs, rfl⟩
    · rw [lkl_cons_ne ek] at h; exact cleanL_arr (L := r) hc.2 h
  | (j, some (.box cs)) :: r, k, b, hc, h => by cases hc

theorem liveR_lt {g : Gh} {l : Locs} {w : World} (m : MemR g l w) {b : Nat} (h : liveR g l b) : b < w.heap.size ∧ ¬ g.I b := by
  obtain ⟨k, blk, h1, h2, rfl⟩ := h
  exact ⟨m.lt h1 h2, m.notI h1 h2⟩
/-- What a callee that was lent nothing but reading leaves. -/
theorem read_back {g g' : Gh} {l L' : Locs} {w w' : World} (m : MemR g l w) (m' : MemR g' L' w') (hs : Step (keys ([] : Locs)) { g with I := fun b => g.I b ∨ liveR g l b } [] w g' L' w') (hc : cleanL L' = true) :
    MemR { g' with I := fun b => g'.I b ∧ ¬ liveR g l b } L' w' ∧ Step (keys ([] : Locs)) g [] w { g' with I := fun b => g'.I b ∧ ¬ liveR g l b } L' w' := by
  have own : ∀ b, OwnB g' L' b → w.heap.size ≤ b := fun b hb => by
    rcases hs.own b hb with ⟨k, blk, hk, _⟩ | h
    · simp [lkl, lk] at hk
    · exact h
  have nl : ∀ b, w.heap.size ≤ b → ¬ liveR g l b := fun b hb hl => by have := (liveR_lt m hl).1; omega
  refine ⟨⟨fun b hb => m'.ilt b hb.1, fun k cs hk => ?_, fun k α T e xs d hk => ?_, m'.dis, fun k α T e xs hk => ?_, m'.fd⟩, ⟨hs.os, hs.tape, hs.output, hs.size, fun b hb _ => hs.keep b hb fun k blk hk => (by simp [lkl, lk] at hk), fun b hb => ⟨hs.imm b (.inl hb), fun hl => (liveR_lt m hl).2 hb⟩, fun b hb => ?_, fun b hb => .inr (own b ?_), fun k hk => by cases hk⟩⟩
  · obtain ⟨_, _, _, _, h⟩ := cleanL_arr hc hk; cases h
  · obtain ⟨_, _, _, _, h⟩ := cleanL_arr hc hk
    cases h
    rcases m'.arr k α T e xs true hk with h1 | ⟨cap, vs, bss, a1, a2, a3, a4, a5, a6, a7, a8, a9⟩
    · exact .inl h1
    · refine .inr ⟨cap, vs, bss, a1, a2, a3, a4, a5, a6, fun b hb => ⟨a7 b hb, nl b (own b ⟨k, _, hk, .inr ⟨α, T, e, xs, rfl, by rw [a9 rfl]; exact hb⟩⟩)⟩, fun h => a8 h.1, a9⟩
  · obtain ⟨h1, h2⟩ := m'.fr k α T e xs hk
    exact ⟨h1, fun b hb => ⟨⟨(h2 b hb).1, nl b (own b ⟨k, _, hk, .inr ⟨α, T, e, xs, rfl, hb⟩⟩)⟩, (h2 b hb).2⟩⟩
  · rcases hs.imm' b hb.1 with (h | h) | h | h
    · exact .inl h
    · exact absurd h hb.2
    · exact .inr (.inl h)
    · obtain ⟨k, blk, hk, _⟩ := h; simp [lkl, lk] at hk
  · obtain ⟨k, blk, hk, h⟩ := hb
    exact ⟨k, blk, hk, h⟩
section ops
variable {P : Program} {N : Nat} {s : St} {d : Nat} {ty : TypeId} {pos : String} {after : Array Edge} {gd : Option (Nat × Bool)}
/-- A call that reads own arrays and leaves new ones. -/
theorem x_callR {fo : Operand} {f : FuncId} {ars : Array Operand} {ats : Array TypeId} {xs ys zs : List AVal} {L' : Locs} {res : AVal} (hN : Nat.blt d N = true) (hev : evo s.t fo = some (.one (.clo f [])))
    (hxs : evl s.t ars.toList = some xs) (hac : AC P f zs [] res L') (hrd : rdAs s.l xs = some ys) (hle : AllV ys zs) (hcr : cleanV res = true) (hcl : cleanL L' = true) (hsc : closedIn (keys L') L'.ids = true) (hsr : closedIn (keys L') res.ids = true) (hnew : newOk s (keys L') = true) :
    Stp P N ⟨some d, .call { callee := .value fo, args := ars, argTypes := ats }, ty, pos, after, gd⟩ s ⟨(d, res) :: s.t, L' ++ s.l⟩ ⟨rdo fo (.one (.clo f [])) ++ rdl s.t ars.toList, rlC s.l (xs.flatMap AVal.cells), [(d, res)], L', keys L'⟩ := by
  have nwe : newOf [] L' = keys L' := by simp [newOf, keys]
  refine ⟨fun K g s' a w hp R => ?_, ⟨fun p hp => by
      rcases List.mem_append.1 hp with hp | hp
      · exact rdo_of hev p hp
      · exact (evl_ok (N := N) hxs).1 p hp, rlC_self, newOk_of hnew⟩, rfl⟩
  obtain ⟨p1, p2, p3⟩ := hp
  have q1 : ∀ p ∈ rdo fo (.one (.clo f [])), lk s'.t p.1 = some p.2 := fun p hm => p1 p (List.mem_append_left _ hm)
  have q2 : ∀ p ∈ rdl s.t ars.toList, lk s'.t p.1 = some p.2 := fun p hm => p1 p (List.mem_append_right _ hm)
  have hfv : VR g s'.l w (a.eval fo) (.one (.clo f [])) := eval_ok R (evs_of hev) q1
  have hfe : a.eval fo = .func (.func f) #[] #[] := hfv (fun k hk => by cases hk)
  have hargs : All2 (VR1 { g with I := fun b => g.I b ∨ liveR g s'.l b } [] w) ((ars.map a.eval) ++ #[]).toList zs := by
    refine hle.all2 ?_
    rw [Array.append_empty, Array.toList_map]
    exact rdAs_ok R.mem (((evl_ok hxs).2 R q2).vr1 (rdAs_flats hrd)) (rdAs_of p2 (fun c hc => hc) hrd)
  have mc : MemR { g with I := fun b => g.I b ∨ liveR g s'.l b } [] w :=
    ⟨fun b hb => hb.elim (R.mem.ilt b) fun h => (liveR_lt R.mem h).1, fun k cs hk => (by simp [lkl, lk] at hk), fun k α T e xs d hk => (by simp [lkl, lk] at hk), fun j k b b' _ hj => (by simp [lkl, lk] at hj), fun k α T e xs hk => (by simp [lkl, lk] at hk), fun j k α β T U e f xs ys _ hj => (by simp [lkl, lk] at hj)⟩
  unfold Oper.wp
  rw [run_enter rfl hac.fn hfe, Oper.upon_enter]
  refine (hac.run _ w _ mc hargs).mono ?_
  rintro e w' ⟨v, g', rfl, m', hv, hs⟩
  obtain ⟨m2, s2⟩ := read_back R.mem m' hs hcl
  have hnw : ∀ k ∈ newOf [] L', lk s'.l k = none ∧ k ∉ s'.l.ids := fun k hk => by
    rw [nwe] at hk
    exact ⟨(p3 k hk).1, fun h => (p3 k hk).2 (List.mem_append_right _ h)⟩
  obtain ⟨c1, c2, c3, c4, c5⟩ := call_mem (L := []) R.mem trivial m2 s2 hsc rfl hnw K
  have hmm : ∀ b, g.I b → (g.mix { g' with I := fun b => g'.I b ∧ ¬ liveR g s'.l b } (keys L' ++ keys ([] : Locs))).I b := fun b hb => s2.imm b hb
  show ∃ g2, Rep N g2 ⟨[(d, res)] ++ s'.t, L' ++ s'.l⟩ (a.put (some d) v) w' ∧ Step K g s'.l w g2 (L' ++ s'.l) w'
  exact ⟨_, R.next (blt_lt hN) c3 hmm s2.size (fun k hk => c4 k fun h => (p3 k (by rw [← nwe]; exact h)).2 hk) (VR.step (g := { g' with I := fun b => g'.I b ∧ ¬ liveR g s'.l b }) (l := L') (fun _ _ => rfl) (fun b hb => hb) (Nat.le_refl _) (fun k hk => c5 k (closedIn_get hsr hk)) (cleanV_re hcr hv)) c1, c2⟩
end ops
end Go.Proofs.YtibhoanjglfaoaaGreat

/- Data that lead nowhere. -/
namespace Go.Proofs.YtibhoanjglfaoaaGreat
open Go.RowKit
set_option linter.unusedVariables false
theorem valE_nofp : ∀ w cs (y : Val) b, valE.rep w cs y b → b = [] := fun w cs y b h => (valE_rep.1 h).2.2.2
/-! truth values compared -/
section ops
variable {P : Program} {N : Nat} {s : St} {d : Nat} {ty : TypeId} {pos : String} {after : Array Edge} {gd : Option (Nat × Bool)}
end ops
/-! rows picked out -/
def filtTo {α : Type} (p : α → Bool) (rows : List α) (k : Nat) : List α := (rows.take k).filter p
theorem filtTo_zero {α : Type} {p : α → Bool} {rows : List α} : ([] : List α) = filtTo p rows 0 := rfl
theorem filtTo_yes {α : Type} {p : α → Bool} {rows : List α} {k : Nat} (hk : k < rows.length) (h : p rows[k] = true) : filtTo p rows k ++ [rows[k]] = filtTo p rows (k + 1) := by
  unfold filtTo; rw [List.take_succ_eq_append_getElem hk, List.filter_append]; simp [h]
theorem filtTo_no {α : Type} {p : α → Bool} {rows : List α} {k : Nat} (hk : k < rows.length) (h : p rows[k] = false) : filtTo p rows k = filtTo p rows (k + 1) := by
  unfold filtTo; rw [List.take_succ_eq_append_getElem hk, List.filter_append]; simp [h]
theorem filtTo_len {α : Type} {p : α → Bool} {rows : List α} {k : Nat} : (filtTo p rows k).length ≤ rows.length := by
  unfold filtTo; exact Nat.le_trans (List.length_filter_le ..) (by simp; omega)
theorem filtTo_all {α : Type} {p : α → Bool} {rows : List α} {k : Nat} (hk : rows.length ≤ k) : filtTo p rows k = rows.filter p := by
  unfold filtTo; rw [List.take_of_length_le hk]
end Go.Proofs.YtibhoanjglfaoaaGreat

/- The abstract walk: a slice is nil or it is not. -/
namespace Go.Proofs.YtibhoanjglfaoaaGreat
open Go.RowKit
set_option linter.unusedVariables false
def caught (L : Locs) (ks : List Nat) : Bool := ks.all fun k => L.any fun p => Nat.beq p.1 k && (match p.2 with | some (.box _) => true | _ => false)
theorem caught_of {L : Locs} {ks : List Nat} (h : caught L ks = true) : ∀ k ∈ ks, ∃ cs, (k, some (Blk.box cs)) ∈ L := fun k hk => by
  obtain ⟨⟨j, b⟩, h1, h2⟩ := List.any_eq_true.1 (List.all_eq_true.1 h k hk)
  simp only [Bool.and_eq_true] at h2
  have e := Nat.eq_of_beq_eq_true h2.1
  subst e
  match b, h2.2, h1 with
  | some (.box cs), _, h1 => exact ⟨cs, h1⟩
section rules
variable {P : Program} {N : Nat} {K : List Nat} {Kn : St → Prop} {Q : Exit → St → Prop} {s : St}
theorem AW_split {α : Type} {e : Enc α} {xs : List α} {c : Code} (t : Nat) (h : lk s.t t = some (.one (.sl e xs))) (h1 : xs = [] → AW P N K c Kn Q ⟨(t, .one (.c (.slice none 0 0))) :: s.t, s.l⟩)
    (h2 : AW P N K c Kn Q ⟨(t, .one (.sn e xs)) :: s.t, s.l⟩) : AW P N K c Kn Q s := fun g a w r => by
  obtain ⟨ad, n, cap, bs, hv, hS, hI⟩ : CellR g s.l w (a.tmps.getD t undef) (.sl e xs) := r.tmp t _ h
  have up : ∀ {x : AVal}, VR g s.l w (a.tmps.getD t undef) x → Rep N g ⟨(t, x) :: s.t, s.l⟩ a w := fun {x} hx => ⟨r.size, r.defers, fun j y hj => by
    by_cases e : t = j
    · subst e; rw [lk_cons_self] at hj; cases hj; exact hx
    · rw [lk_cons_ne e] at hj; exact r.tmp j y hj, r.mem⟩
  cases ad with
  | none =>
    have hc := hS.2.2.2.1 rfl
    have hn : n = 0 := by have := hS.2.1; omega
    have hx : xs = [] := List.eq_nil_of_length_eq_zero (by have := hS.1; omega)
    subst hc; subst hn
    exact h1 hx g a w (up (x := .one (.c (.slice none 0 0))) ⟨hv, trivial⟩)
  | some ad => exact h2 g a w (up (x := .one (.sn e xs)) ⟨ad, n, cap, bs, hv, hS, hI⟩)
end rules
section names
variable {P : Program} {N : Nat} {dr : Bool} {ops r : List Oper} {opsA : Array Oper} {Kn : St → Prop} {s : St} {acc : List Cert}
/-- A truth value that a call with lent blocks returns gets a name. -/
theorem AL_bc {d : Nat} {op : Op} {ty : TypeId} {pos : String} {after : Array Edge} {e : Bool} {l' wl : Locs} {nw : List Nat} {rt : List (Nat × AVal)} {rl : List (Nat × Blk)} (h : Stp P N ⟨some d, op, ty, pos, after, none⟩ s ⟨(d, .one (.c (.bool e))) :: s.t, l'⟩ ⟨rt, rl, [(d, .one (.c (.bool e)))], wl, nw⟩)
    (next : ∀ b, e = b → AL P N dr opsA Kn r ⟨(d, .one (.c (.bool b))) :: s.t, l'⟩ (⟨rt, rl, [(d, .one (.c (.bool b)))], wl, nw⟩ :: acc)) : AL P N dr opsA Kn (⟨some d, op, ty, pos, after, none⟩ :: r) s acc :=
  AL_p h (next e rfl)
end names
section ops
variable {P : Program} {N : Nat} {s : St} {d : Nat} {ty : TypeId} {pos : String} {after : Array Edge} {gd : Option (Nat × Bool)}
theorem guard_slice {op : BinOp} {T : TypeId} {x y : Operand} {a b : Option Addr} {n c m k : Nat} {w : World} : (eqGuard op T x y (.slice a n c) (.slice b m k)).run P w = .ok () w := by cases op <;> rfl
theorem x_nilnil {T T' E n : Nat} {x y : Operand} (hN : Nat.blt d N = true) (h : evo s.t x = some (.one (.c (.slice none 0 0)))) (h2 : evo s.t y = some (.one (.c (.slice none 0 0)))) (hT : sliceT P T = some (E, n)) :
    Stp P N ⟨some d, .binOp .eql T x y T', ty, pos, after, gd⟩ s ⟨(d, .one (.c (.bool true))) :: s.t, s.l⟩ ⟨rdo x (.one (.c (.slice none 0 0))) ++ rdo y (.one (.c (.slice none 0 0))), [], [(d, .one (.c (.bool true)))], [], []⟩ :=
  Stp.pure rfl hN (two_rd h h2) (by simp) fun g s' a w ht hl' r => by
    obtain ⟨⟨e1, _⟩, e2, _⟩ := two_c r (evs_of h) (evs_of h2) ht
    refine ⟨.bool true, run_binOp rfl ?_, rfl, trivial⟩
    rw [e1, e2]
    simp only [Sem.run_bind, guard_slice, Result.andThen_ok, Lib.run_eql_slice_nil w T E none 0 0 0 0 (sliceT_spec hT).1]; rfl
theorem x_snnil {α : Type} {e : Enc α} {xs : List α} {T T' E n : Nat} {x y : Operand} (hN : Nat.blt d N = true) (h : evo s.t x = some (.one (.sn e xs))) (h2 : evo s.t y = some (.one (.c (.slice none 0 0)))) (hT : sliceT P T = some (E, n)) :
    Stp P N ⟨some d, .binOp .eql T x y T', ty, pos, after, gd⟩ s ⟨(d, .one (.c (.bool false))) :: s.t, s.l⟩ ⟨rdo x (.one (.sn e xs)) ++ rdo y (.one (.c (.slice none 0 0))), [], [(d, .one (.c (.bool false)))], [], []⟩ :=
  Stp.pure rfl hN (two_rd h h2) (by simp) fun g s' a w ht hl' r => by
    obtain ⟨ad, m, cap, bs, e1, _⟩ : CellR g s'.l w (a.eval x) (.sn e xs) := eval_ok r (evs_of h) fun p hp => ht p (List.mem_append_left _ hp)
    obtain ⟨e2, _⟩ : a.eval y = .slice none 0 0 ∧ wfV _ := eval_ok r (evs_of h2) fun p hp => ht p (List.mem_append_right _ hp)
    refine ⟨.bool false, run_binOp rfl ?_, rfl, trivial⟩
    rw [e1, e2]
    simp only [Sem.run_bind, guard_slice, Result.andThen_ok, Lib.run_eql_slice_nil w T E (some ad) m cap 0 0 (sliceT_spec hT).1]; rfl
theorem x_move_sn {α : Type} {e : Enc α} {xs : List α} {x : Operand} (hN : Nat.blt d N = true) (h : evo s.t x = some (.one (.sn e xs))) : Stp P N ⟨some d, .move x, ty, pos, after, gd⟩ s ⟨(d, .one (.sl e xs)) :: s.t, s.l⟩ ⟨rdo x (.one (.sn e xs)), [], [(d, .one (.sl e xs))], [], []⟩ :=
  Stp.pure rfl hN (rdo_of h) (by simp) fun g s' a w ht hl' r => by
    obtain ⟨ad, m, cap, bs, e1, e2, e3⟩ : CellR g s'.l w (a.eval x) (.sn e xs) := eval_ok r (evs_of h) ht
    exact ⟨a.eval x, by simp [execOp], some ad, m, cap, bs, e1, e2, e3⟩
end ops
theorem AW_aggmax {P : Program} {N : Nat} {K : List Nat} {c : Code} {Kn : St → Prop} {Q : Exit → St → Prop} {s : St} {α : Type} {e : Enc α} {xs : List α} {cs : List Cell} (t i : Nat) (h : lk s.t t = some (.agg cs)) (hi : nthC cs i = some (.sl e xs)) (hA : xs.length ≤ 9223372036854775807 → AW P N K c Kn Q s) : AW P N K c Kn Q s := fun g a w r => by
  obtain ⟨vs, _, h2⟩ : ∃ vs : List Value, a.tmps.getD t undef = .agg vs.toArray ∧ All2 (CellR g s.l w) vs cs := r.tmp t _ h
  obtain ⟨v, _, h4⟩ := h2.get (nthC_get hi)
  obtain ⟨a0, n, cap, bs, _, h1, _⟩ := h4
  exact hA h1.max g a w r
end Go.Proofs.YtibhoanjglfaoaaGreat

/- Relations (printed by walk.py) -/
namespace Go.Proofs.YtibhoanjglfaoaaGreat
open Go.RowKit
set_option linter.unusedVariables false
set_option linter.unusedSimpArgs false
set_option maxRecDepth 100000

set_option maxHeartbeats 4000000 in
theorem sameRowS_c (a b : List Val) (ha : a.length ≤ 1048576) : AC Tryz.prog 113 [.agg (rowC a), .agg (rowC b)] [] (.one (.c (.bool (sameRow a b)))) [] := by
  refine AC_body1 Tryz.func113 rfl rfl Tryz.ntmps113 rfl Tryz.results113 ?_
  refine AW_seq ?_
  refine AW_region ?_
  refine AL_p (x_box 100 rfl rfl rfl rfl rfl rfl rfl) ?_
  refine AL_p (x_box 101 rfl rfl rfl rfl rfl rfl rfl) ?_
  refine AL_p (x_assign rfl rfl) ?_
  refine AL_nil ?_
  refine AW_seq ?_
  refine AW_seq ?_
  refine AW_region ?_
  refine AL_p (x_field (off := 0) (o' := 0) rfl rfl rfl (by kernel_rfl) rfl) ?_
  refine AL_p (x_load1 rfl rfl rfl (by kernel_rfl) rfl) ?_
  refine AL_p (x_len (E := 147) (n := 2) rfl rfl (by kernel_rfl)) ?_
  refine AL_p (x_field (off := 0) (o' := 0) rfl rfl rfl (by kernel_rfl) rfl) ?_
  refine AL_p (x_load1 rfl rfl rfl (by kernel_rfl) rfl) ?_
  refine AL_p (x_len (E := 147) (n := 2) rfl rfl (by kernel_rfl)) ?_
  refine AL_b (x_neq rfl rfl rfl) (fun b12 h12 => ?_)
  refine AL_nil ?_
  cases b12
  rotate_left
  · try simp only [tdy] at h12
    refine AW_condT rfl ?_
    refine AW_seq ?_
    refine AW_region ?_
    refine AL_p (x_assign rfl rfl) ?_
    refine AL_nil ?_
    refine AW_ret ?_
    exact ⟨rn [], ⟨⟨⟨_, rfl, vle_bool ((sameRow_len (by omega)).symm)⟩, trivial⟩, trivial, trivial, rfl⟩⟩
  try simp only [tdy] at h12
  refine AW_condF rfl ?_
  refine AW_skip ?_
  refine AW_seq ?_
  refine AW_seq ?_
  refine AW_region ?_
  refine AL_p (x_field (off := 0) (o' := 0) rfl rfl rfl (by kernel_rfl) rfl) ?_
  refine AL_p (x_load1 rfl rfl rfl (by kernel_rfl) rfl) ?_
  refine AL_p (x_len (E := 147) (n := 2) rfl rfl (by kernel_rfl)) ?_
  refine AL_p (x_move rfl rfl) ?_
  refine AL_nil ?_
  refine AW_block ?_
  refine AW_loop2 (ι := {q : Nat // q ≤ a.length ∧ SameTo a b q}) (fun p => [(16, .one (.c (.int .i64 ((p.1) : Int))))]) (fun p => []) [2, 3, 15] [100, 101] (fun p => a.length - (p.1)) ⟨0, ⟨by omega, .zero⟩⟩ (rn []) ?_ ?_
  exact ⟨by (repeat refine ⟨⟨_, rfl, by first | exact VLe.rf | exact vle_int (by dsimp only; omega)⟩, ?_⟩); exact trivial, by (repeat refine ⟨⟨_, rfl, by first | exact BLe.rf | exact BLe.box AllC.rf | exact BLe.arr (by exact rfl)⟩, ?_⟩); exact trivial, by repeat (first | exact trivial | refine ⟨⟨rfl, by first | (left; intro h; cases h) | (right; rfl), by first | exact (fun _ h => ⟨_, h⟩) | exact (fun _ _ => ⟨_, rfl⟩) | (intro _ h; cases h)⟩, ?_⟩), rfl⟩
  rintro ⟨k, hinv⟩
  dsimp only
  obtain ⟨hk, hs⟩ := hinv
  refine AW_seq ?_
  refine AW_region ?_
  refine AL_b (x_lss rfl rfl rfl) (fun b17 h17 => ?_)
  refine AL_nil ?_
  refine AW_seq ?_
  cases b17
  · try simp only [tdy] at h17
    refine AW_condF rfl ?_
    refine AW_exit (BQ_hit ?_)
    refine AW_seq ?_
    refine AW_region ?_
    refine AL_p (x_assign rfl rfl) ?_
    refine AL_nil ?_
    refine AW_ret ?_
    exact ⟨rn [], ⟨⟨⟨_, rfl, vle_bool ((sameRow_eq (hs.eq (by omega) (by omega))).symm)⟩, trivial⟩, trivial, trivial, rfl⟩⟩
  try simp only [tdy] at h17
  refine AW_condT rfl ?_
  refine AW_skip ?_
  refine AW_seq ?_
  refine AW_block ?_
  refine AW_seq ?_
  refine AW_region ?_
  refine AL_p (x_move rfl rfl) ?_
  refine AL_p (x_assign rfl rfl) ?_
  refine AL_nil ?_
  refine AW_seq ?_
  refine AW_draw rfl ?_
  refine AL_p (x_field (off := 0) (o' := 0) rfl rfl rfl (by kernel_rfl) rfl) ?_
  refine AL_p (x_load1 rfl rfl rfl (by kernel_rfl) rfl) ?_
  refine AL_p (x_move rfl rfl) ?_
  refine AL_p (x_index (E := 147) (n := 2) rfl rfl rfl (by kernel_rfl) rfl rfl (by omega)) ?_
  refine AL_p (x_eloadW (n := 2) rfl rfl (by kernel_rfl) rfl) ?_
  refine AL_p (x_field (off := 0) (o' := 0) rfl rfl rfl (by kernel_rfl) rfl) ?_
  refine AL_p (x_load1 rfl rfl rfl (by kernel_rfl) rfl) ?_
  refine AL_p (x_move rfl rfl) ?_
  refine AL_p (x_index (E := 147) (n := 2) rfl rfl rfl (by kernel_rfl) rfl rfl (by omega)) ?_
  refine AL_p (x_eloadW (n := 2) rfl rfl (by kernel_rfl) rfl) ?_
  refine AL_b (x_vneq rfl rfl rfl) (fun b29 h29 => ?_)
  refine AL_nild (by kernel_rfl) ?_
  cases b29
  rotate_left
  · try simp only [tdy] at h29
    refine AW_condT rfl ?_
    refine AW_seq ?_
    refine AW_region ?_
    refine AL_p (x_assign rfl rfl) ?_
    refine AL_nil ?_
    refine AW_ret (BQ_ret (BQ_ret ?_))
    exact ⟨rn [], ⟨⟨⟨_, rfl, vle_bool ((sameRow_at (k := k) (by omega) (by omega) h29).symm)⟩, trivial⟩, trivial, trivial, rfl⟩⟩
  try simp only [tdy] at h29
  refine AW_condF rfl ?_
  refine AW_skip ?_
  refine AW_region ?_
  refine AL_p (x_add rfl rfl rfl (IntWalk.i64_in _ (by omega))) ?_
  refine AL_p (x_move rfl rfl) ?_
  refine AL_nil ?_
  refine ⟨⟨k + 1, ⟨by omega, hs.succ (by omega) (by omega) h29⟩⟩, rn [], ?_, by dsimp only; omega⟩
  exact ⟨by (repeat refine ⟨⟨_, rfl, by first | exact VLe.rf | exact vle_int (by dsimp only; omega)⟩, ?_⟩); exact trivial, by (repeat refine ⟨⟨_, rfl, by first | exact BLe.rf | exact BLe.box AllC.rf | exact BLe.arr (by exact rfl)⟩, ?_⟩); exact trivial, by repeat (first | exact trivial | refine ⟨⟨rfl, by first | (left; intro h; cases h) | (right; rfl), by first | exact (fun _ h => ⟨_, h⟩) | exact (fun _ _ => ⟨_, rfl⟩) | (intro _ h; cases h)⟩, ?_⟩), rfl⟩

set_option maxHeartbeats 4000000 in
theorem upToI_c (n m : Int) : AC Tryz.prog 142 [.one (.c (.int .i64 n)), .one (.c (.int .i64 m))] [] (.one (.c (.bool (upToB n m)))) [] := by
  refine AC_body1 Tryz.func142 rfl rfl Tryz.ntmps142 rfl Tryz.results142 ?_
  refine AW_seq ?_
  refine AW_region ?_
  refine AL_p (x_assign rfl rfl) ?_
  refine AL_nil ?_
  refine AW_seq ?_
  refine AW_region ?_
  refine AL_p (x_move rfl rfl) ?_
  refine AL_b (x_geq rfl rfl rfl) (fun b6 h6 => ?_)
  refine AL_p (x_move rfl rfl) ?_
  cases b6
  · try simp only [tdy] at h6
    refine AL_o rfl rfl rfl rfl ?_
    refine AL_o rfl rfl rfl rfl ?_
    refine AL_o rfl rfl rfl rfl ?_
    refine AL_p (x_pickF rfl rfl rfl) ?_
    refine AL_p (x_assign rfl rfl) ?_
    refine AL_nil ?_
    refine AW_ret ?_
    exact ⟨rn [], ⟨⟨⟨_, rfl, vle_bool (by first | exact (decide_eq_true (by omega)).symm | exact (decide_eq_false (by omega)).symm)⟩, trivial⟩, trivial, trivial, rfl⟩⟩
  try simp only [tdy] at h6
  refine AL_g rfl rfl (x_move rfl rfl) ?_
  refine AL_g rfl rfl (x_move rfl rfl) ?_
  refine AL_gb rfl rfl (x_leq rfl rfl rfl) (fun b10 h10 => ?_)
  refine AL_p (x_pickT rfl rfl rfl) ?_
  refine AL_p (x_assign rfl rfl) ?_
  refine AL_nil ?_
  refine AW_ret ?_
  cases b10
  rotate_left
  · try simp only [tdy] at h10
    exact ⟨rn [], ⟨⟨⟨_, rfl, vle_bool (by first | exact (decide_eq_true (by omega)).symm | exact (decide_eq_false (by omega)).symm)⟩, trivial⟩, trivial, trivial, rfl⟩⟩
  try simp only [tdy] at h10
  exact ⟨rn [], ⟨⟨⟨_, rfl, vle_bool (by first | exact (decide_eq_true (by omega)).symm | exact (decide_eq_false (by omega)).symm)⟩, trivial⟩, trivial, trivial, rfl⟩⟩

set_option maxHeartbeats 4000000 in
theorem relOkS_c (r : Relt) (hl : r.rows.length ≤ 1048576) : AC Tryz.prog 106 [.agg (relC r)] [] (.one (.c (.bool (relOk r)))) [] := by
  refine AC_body1 Tryz.func106 rfl rfl Tryz.ntmps106 rfl Tryz.results106 ?_
  refine AW_seq ?_
  refine AW_region ?_
  refine AL_p (x_box 100 rfl rfl rfl rfl rfl rfl rfl) ?_
  refine AL_p (x_assign rfl rfl) ?_
  refine AL_nil ?_
  refine AW_seq ?_
  refine AW_seq ?_
  refine AW_region ?_
  refine AL_p (x_field (off := 0) (o' := 0) rfl rfl rfl (by kernel_rfl) rfl) ?_
  refine AL_p (x_load1 rfl rfl rfl (by kernel_rfl) rfl) ?_
  refine AL_b (x_lss rfl rfl rfl) (fun b6 h6 => ?_)
  refine AL_p (x_move rfl rfl) ?_
  cases b6
  rotate_left
  · try simp only [tdy] at h6
    refine AL_o rfl rfl rfl rfl ?_
    refine AL_o rfl rfl rfl rfl ?_
    refine AL_o rfl rfl rfl rfl ?_
    refine AL_p (x_pickT rfl rfl rfl) ?_
    refine AL_p (x_move rfl rfl) ?_
    refine AL_o rfl rfl rfl rfl ?_
    refine AL_o rfl rfl rfl rfl ?_
    refine AL_o rfl rfl rfl rfl ?_
    refine AL_o rfl rfl rfl rfl ?_
    refine AL_p (x_pickT rfl rfl rfl) ?_
    refine AL_nil ?_
    refine AW_condT rfl ?_
    refine AW_seq ?_
    refine AW_region ?_
    refine AL_p (x_assign rfl rfl) ?_
    refine AL_nil ?_
    refine AW_ret ?_
    exact ⟨rn [], ⟨⟨⟨_, rfl, vle_bool (by first | exact (relOk_range (by omega)).symm | exact (relOk_bad (k := k) (by omega) (rowAt_len (by omega) (by omega))).symm | exact (relOk_bad (k := k) (by omega) (rowAt_row (by omega) h40)).symm | exact (relOk_bad (k := k) (by omega) (rowAt_order (by omega) (by omega) (by rw [← rowOrder_lt hprev h40]; exact h58))).symm | exact (relOk_good hs (by omega) (by omega) (by omega) (by omega)).symm)⟩, trivial⟩, trivial, trivial, rfl⟩⟩
  try simp only [tdy] at h6
  refine AL_g rfl rfl (x_field (off := 0) (o' := 0) rfl rfl rfl (by kernel_rfl) rfl) ?_
  refine AL_g rfl rfl (x_load1 rfl rfl rfl (by kernel_rfl) rfl) ?_
  refine AL_gb rfl rfl (x_gtr rfl rfl rfl) (fun b10 h10 => ?_)
  refine AL_p (x_pickF rfl rfl rfl) ?_
  refine AL_p (x_move rfl rfl) ?_
  cases b10
  rotate_left
  · try simp only [tdy] at h10
    refine AL_o rfl rfl rfl rfl ?_
    refine AL_o rfl rfl rfl rfl ?_
    refine AL_o rfl rfl rfl rfl ?_
    refine AL_o rfl rfl rfl rfl ?_
    refine AL_p (x_pickT rfl rfl rfl) ?_
    refine AL_nil ?_
    refine AW_condT rfl ?_
    refine AW_seq ?_
    refine AW_region ?_
    refine AL_p (x_assign rfl rfl) ?_
    refine AL_nil ?_
    refine AW_ret ?_
    exact ⟨rn [], ⟨⟨⟨_, rfl, vle_bool (by first | exact (relOk_range (by omega)).symm | exact (relOk_bad (k := k) (by omega) (rowAt_len (by omega) (by omega))).symm | exact (relOk_bad (k := k) (by omega) (rowAt_row (by omega) h40)).symm | exact (relOk_bad (k := k) (by omega) (rowAt_order (by omega) (by omega) (by rw [← rowOrder_lt hprev h40]; exact h58))).symm | exact (relOk_good hs (by omega) (by omega) (by omega) (by omega)).symm)⟩, trivial⟩, trivial, trivial, rfl⟩⟩
  try simp only [tdy] at h10
  refine AL_g rfl rfl (x_field (off := 1) (o' := 1) rfl rfl rfl (by kernel_rfl) rfl) ?_
  refine AL_g rfl rfl (x_load1 rfl rfl rfl (by kernel_rfl) rfl) ?_
  refine AL_g rfl rfl (x_len (E := 72) (n := 1) rfl rfl (by kernel_rfl)) ?_
  refine AL_gb rfl rfl (x_gtr rfl rfl rfl) (fun b16 h16 => ?_)
  refine AL_p (x_pickF rfl rfl rfl) ?_
  refine AL_nil ?_
  cases b16
  rotate_left
  · try simp only [tdy] at h16
    refine AW_condT rfl ?_
    refine AW_seq ?_
    refine AW_region ?_
    refine AL_p (x_assign rfl rfl) ?_
    refine AL_nil ?_
    refine AW_ret ?_
    exact ⟨rn [], ⟨⟨⟨_, rfl, vle_bool (by first | exact (relOk_range (by omega)).symm | exact (relOk_bad (k := k) (by omega) (rowAt_len (by omega) (by omega))).symm | exact (relOk_bad (k := k) (by omega) (rowAt_row (by omega) h40)).symm | exact (relOk_bad (k := k) (by omega) (rowAt_order (by omega) (by omega) (by rw [← rowOrder_lt hprev h40]; exact h58))).symm | exact (relOk_good hs (by omega) (by omega) (by omega) (by omega)).symm)⟩, trivial⟩, trivial, trivial, rfl⟩⟩
  try simp only [tdy] at h16
  refine AW_condF rfl ?_
  refine AW_skip ?_
  refine AW_seq ?_
  refine AW_seq ?_
  refine AW_region ?_
  refine AL_p (x_field (off := 1) (o' := 1) rfl rfl rfl (by kernel_rfl) rfl) ?_
  refine AL_p (x_load1 rfl rfl rfl (by kernel_rfl) rfl) ?_
  refine AL_p (x_len (E := 72) (n := 1) rfl rfl (by kernel_rfl)) ?_
  refine AL_p (x_move rfl rfl) ?_
  refine AL_nil ?_
  refine AW_block ?_
  refine AW_loop2 (ι := {q : Nat // q ≤ r.rows.length ∧ GoodTo r.rows r.arity q}) (fun p => [(21, .one (.c (.int .i64 ((p.1) : Int))))]) (fun p => []) [1, 20] [100] (fun p => r.rows.length - (p.1)) ⟨0, ⟨by omega, .zero⟩⟩ (rn []) ?_ ?_
  exact ⟨by (repeat refine ⟨⟨_, rfl, by first | exact VLe.rf | exact vle_int (by dsimp only; omega)⟩, ?_⟩); exact trivial, by (repeat refine ⟨⟨_, rfl, by first | exact BLe.rf | exact BLe.box AllC.rf | exact BLe.arr (by exact rfl)⟩, ?_⟩); exact trivial, by repeat (first | exact trivial | refine ⟨⟨rfl, by first | (left; intro h; cases h) | (right; rfl), by first | exact (fun _ h => ⟨_, h⟩) | exact (fun _ _ => ⟨_, rfl⟩) | (intro _ h; cases h)⟩, ?_⟩), rfl⟩
  rintro ⟨k, hinv⟩
  dsimp only
  obtain ⟨hk, hs⟩ := hinv
  refine AW_seq ?_
  refine AW_region ?_
  refine AL_b (x_lss rfl rfl rfl) (fun b22 h22 => ?_)
  refine AL_nil ?_
  refine AW_seq ?_
  cases b22
  · try simp only [tdy] at h22
    refine AW_condF rfl ?_
    refine AW_exit (BQ_hit ?_)
    refine AW_seq ?_
    refine AW_region ?_
    refine AL_p (x_assign rfl rfl) ?_
    refine AL_nil ?_
    refine AW_ret ?_
    exact ⟨rn [], ⟨⟨⟨_, rfl, vle_bool (by first | exact (relOk_range (by omega)).symm | exact (relOk_bad (k := k) (by omega) (rowAt_len (by omega) (by omega))).symm | exact (relOk_bad (k := k) (by omega) (rowAt_row (by omega) h40)).symm | exact (relOk_bad (k := k) (by omega) (rowAt_order (by omega) (by omega) (by rw [← rowOrder_lt hprev h40]; exact h58))).symm | exact (relOk_good hs (by omega) (by omega) (by omega) (by omega)).symm)⟩, trivial⟩, trivial, trivial, rfl⟩⟩
  try simp only [tdy] at h22
  refine AW_condT rfl ?_
  refine AW_skip ?_
  refine AW_seq ?_
  refine AW_block ?_
  refine AW_seq ?_
  refine AW_region ?_
  refine AL_p (x_move rfl rfl) ?_
  refine AL_p (x_assign rfl rfl) ?_
  refine AL_nil ?_
  refine AW_seq ?_
  refine AW_seq ?_
  refine AW_draw rfl ?_
  refine AL_p (x_field (off := 1) (o' := 1) rfl rfl rfl (by kernel_rfl) rfl) ?_
  refine AL_p (x_load1 rfl rfl rfl (by kernel_rfl) rfl) ?_
  refine AL_p (x_move rfl rfl) ?_
  refine AL_p (x_index (E := 72) (n := 1) rfl rfl rfl (by kernel_rfl) rfl rfl (by omega)) ?_
  refine AL_p (x_efield (off := 0) (o' := 0) rfl rfl (by kernel_rfl) rfl) ?_
  refine AL_p (x_eload1 rfl rfl (by kernel_rfl) rfl) ?_
  refine AL_p (x_len (E := 147) (n := 2) rfl rfl (by kernel_rfl)) ?_
  refine AL_p (x_field (off := 0) (o' := 0) rfl rfl rfl (by kernel_rfl) rfl) ?_
  refine AL_p (x_load1 rfl rfl rfl (by kernel_rfl) rfl) ?_
  refine AL_b (x_neq rfl rfl rfl) (fun b33 h33 => ?_)
  refine AL_p (x_move rfl rfl) ?_
  cases b33
  rotate_left
  · try simp only [tdy] at h33
    refine AL_o rfl rfl rfl rfl ?_
    refine AL_o rfl rfl rfl rfl ?_
    refine AL_o rfl rfl rfl rfl ?_
    refine AL_o rfl rfl rfl rfl ?_
    refine AL_o rfl rfl rfl rfl ?_
    refine AL_o rfl rfl rfl rfl ?_
    refine AL_o rfl rfl rfl rfl ?_
    refine AL_p (x_pickT rfl rfl rfl) ?_
    refine AL_nild (by kernel_rfl) ?_
    refine AW_condT rfl ?_
    refine AW_seq ?_
    refine AW_region ?_
    refine AL_p (x_assign rfl rfl) ?_
    refine AL_nil ?_
    refine AW_ret (BQ_ret (BQ_ret ?_))
    exact ⟨rn [], ⟨⟨⟨_, rfl, vle_bool (by first | exact (relOk_range (by omega)).symm | exact (relOk_bad (k := k) (by omega) (rowAt_len (by omega) (by omega))).symm | exact (relOk_bad (k := k) (by omega) (rowAt_row (by omega) h40)).symm | exact (relOk_bad (k := k) (by omega) (rowAt_order (by omega) (by omega) (by rw [← rowOrder_lt hprev h40]; exact h58))).symm | exact (relOk_good hs (by omega) (by omega) (by omega) (by omega)).symm)⟩, trivial⟩, trivial, trivial, rfl⟩⟩
  try simp only [tdy] at h33
  refine AL_g rfl rfl (x_field (off := 1) (o' := 1) rfl rfl rfl (by kernel_rfl) rfl) ?_
  refine AL_g rfl rfl (x_load1 rfl rfl rfl (by kernel_rfl) rfl) ?_
  refine AL_g rfl rfl (x_move rfl rfl) ?_
  refine AL_g rfl rfl (x_index (E := 72) (n := 1) rfl rfl rfl (by kernel_rfl) rfl rfl (by omega)) ?_
  refine AL_g rfl rfl (x_eloadW (n := 1) rfl rfl (by kernel_rfl) rfl) ?_
  refine AL_gb rfl rfl (x_call0 rfl rfl rfl (rowOkS_c _) rfl rfl) (fun b40 h40 => ?_)
  refine AL_g rfl rfl (x_not rfl rfl) ?_
  refine AL_p (x_pickF rfl rfl rfl) ?_
  refine AL_nild (by kernel_rfl) ?_
  cases b40
  · try simp only [tdy] at h40
    refine AW_condT rfl ?_
    refine AW_seq ?_
    refine AW_region ?_
    refine AL_p (x_assign rfl rfl) ?_
    refine AL_nil ?_
    refine AW_ret (BQ_ret (BQ_ret ?_))
    exact ⟨rn [], ⟨⟨⟨_, rfl, vle_bool (by first | exact (relOk_range (by omega)).symm | exact (relOk_bad (k := k) (by omega) (rowAt_len (by omega) (by omega))).symm | exact (relOk_bad (k := k) (by omega) (rowAt_row (by omega) h40)).symm | exact (relOk_bad (k := k) (by omega) (rowAt_order (by omega) (by omega) (by rw [← rowOrder_lt hprev h40]; exact h58))).symm | exact (relOk_good hs (by omega) (by omega) (by omega) (by omega)).symm)⟩, trivial⟩, trivial, trivial, rfl⟩⟩
  try simp only [tdy] at h40
  refine AW_condF rfl ?_
  refine AW_skip ?_
  refine AW_seq ?_
  refine AW_draw rfl ?_
  refine AL_p (x_move rfl rfl) ?_
  refine AL_b (x_gtr rfl rfl rfl) (fun b44 h44 => ?_)
  refine AL_p (x_move rfl rfl) ?_
  cases b44
  · try simp only [tdy] at h44
    have hat := rowAt_first (ar := r.arity) (k := k) (by omega) (by omega) h40 (by omega)
    refine AL_o rfl rfl rfl rfl ?_
    refine AL_o rfl rfl rfl rfl ?_
    refine AL_o rfl rfl rfl rfl ?_
    refine AL_o rfl rfl rfl rfl ?_
    refine AL_o rfl rfl rfl rfl ?_
    refine AL_o rfl rfl rfl rfl ?_
    refine AL_o rfl rfl rfl rfl ?_
    refine AL_o rfl rfl rfl rfl ?_
    refine AL_o rfl rfl rfl rfl ?_
    refine AL_o rfl rfl rfl rfl ?_
    refine AL_o rfl rfl rfl rfl ?_
    refine AL_o rfl rfl rfl rfl ?_
    refine AL_o rfl rfl rfl rfl ?_
    refine AL_p (x_pickF rfl rfl rfl) ?_
    refine AL_nild (by kernel_rfl) ?_
    refine AW_condF rfl ?_
    refine AW_skip ?_
    refine AW_region ?_
    refine AL_p (x_add rfl rfl rfl (IntWalk.i64_in _ (by omega))) ?_
    refine AL_p (x_move rfl rfl) ?_
    refine AL_nil ?_
    refine ⟨⟨k + 1, ⟨by omega, hs.succ (by omega) hat⟩⟩, rn [], ?_, by dsimp only; omega⟩
    exact ⟨by (repeat refine ⟨⟨_, rfl, by first | exact VLe.rf | exact vle_int (by dsimp only; omega)⟩, ?_⟩); exact trivial, by (repeat refine ⟨⟨_, rfl, by first | exact BLe.rf | exact BLe.box AllC.rf | exact BLe.arr (by exact rfl)⟩, ?_⟩); exact trivial, by repeat (first | exact trivial | refine ⟨⟨rfl, by first | (left; intro h; cases h) | (right; rfl), by first | exact (fun _ h => ⟨_, h⟩) | exact (fun _ _ => ⟨_, rfl⟩) | (intro _ h; cases h)⟩, ?_⟩), rfl⟩
  try simp only [tdy] at h44
  refine AL_g rfl rfl (x_field (off := 1) (o' := 1) rfl rfl rfl (by kernel_rfl) rfl) ?_
  refine AL_g rfl rfl (x_load1 rfl rfl rfl (by kernel_rfl) rfl) ?_
  refine AL_g rfl rfl (x_move rfl rfl) ?_
  refine AL_g rfl rfl (x_sub rfl rfl rfl (IntWalk.i64_in _ (by omega))) ?_
  refine AL_g rfl rfl (x_index (E := 72) (n := 1) rfl rfl rfl (by kernel_rfl) rfl (k := k - 1) (by omega) (by omega)) ?_
  refine AL_g rfl rfl (x_eloadW (n := 1) rfl rfl (by kernel_rfl) rfl) ?_
  refine AL_g rfl rfl (x_field (off := 1) (o' := 1) rfl rfl rfl (by kernel_rfl) rfl) ?_
  refine AL_g rfl rfl (x_load1 rfl rfl rfl (by kernel_rfl) rfl) ?_
  refine AL_g rfl rfl (x_move rfl rfl) ?_
  refine AL_g rfl rfl (x_index (E := 72) (n := 1) rfl rfl rfl (by kernel_rfl) rfl rfl (by omega)) ?_
  refine AL_g rfl rfl (x_eloadW (n := 1) rfl rfl (by kernel_rfl) rfl) ?_
  refine AL_g rfl rfl (x_call0 rfl rfl rfl (rowOrderS_c _ _) rfl rfl) ?_
  refine AL_gb rfl rfl (x_neq rfl rfl rfl) (fun b58 h58 => ?_)
  refine AL_p (x_pickT rfl rfl rfl) ?_
  refine AL_nild (by kernel_rfl) ?_
  cases b58
  rotate_left
  · try simp only [tdy] at h58
    have hprev := hs.row (j := k - 1) (by omega) (by omega)
    refine AW_condT rfl ?_
    refine AW_seq ?_
    refine AW_region ?_
    refine AL_p (x_assign rfl rfl) ?_
    refine AL_nil ?_
    refine AW_ret (BQ_ret (BQ_ret ?_))
    exact ⟨rn [], ⟨⟨⟨_, rfl, vle_bool (by first | exact (relOk_range (by omega)).symm | exact (relOk_bad (k := k) (by omega) (rowAt_len (by omega) (by omega))).symm | exact (relOk_bad (k := k) (by omega) (rowAt_row (by omega) h40)).symm | exact (relOk_bad (k := k) (by omega) (rowAt_order (by omega) (by omega) (by rw [← rowOrder_lt hprev h40]; exact h58))).symm | exact (relOk_good hs (by omega) (by omega) (by omega) (by omega)).symm)⟩, trivial⟩, trivial, trivial, rfl⟩⟩
  try simp only [tdy] at h58
  have hprev := hs.row (j := k - 1) (by omega) (by omega)
  have hat := rowAt_next (ar := r.arity) (k := k) (by omega) (by omega) h40 (by omega) ((rowOrder_lt hprev h40).1 h58)
  refine AW_condF rfl ?_
  refine AW_skip ?_
  refine AW_region ?_
  refine AL_p (x_add rfl rfl rfl (IntWalk.i64_in _ (by omega))) ?_
  refine AL_p (x_move rfl rfl) ?_
  refine AL_nil ?_
  refine ⟨⟨k + 1, ⟨by omega, hs.succ (by omega) hat⟩⟩, rn [], ?_, by dsimp only; omega⟩
  exact ⟨by (repeat refine ⟨⟨_, rfl, by first | exact VLe.rf | exact vle_int (by dsimp only; omega)⟩, ?_⟩); exact trivial, by (repeat refine ⟨⟨_, rfl, by first | exact BLe.rf | exact BLe.box AllC.rf | exact BLe.arr (by exact rfl)⟩, ?_⟩); exact trivial, by repeat (first | exact trivial | refine ⟨⟨rfl, by first | (left; intro h; cases h) | (right; rfl), by first | exact (fun _ h => ⟨_, h⟩) | exact (fun _ _ => ⟨_, rfl⟩) | (intro _ h; cases h)⟩, ?_⟩), rfl⟩

set_option maxHeartbeats 4000000 in
theorem relOkI_c (r : Relt) (hl : r.rows.length ≤ 1048576) : AC Tryz.prog 111 [.agg (relC r)] [] (.one (.c (.bool (relOk r)))) [] := by
  refine AC_body1 Tryz.func111 rfl rfl Tryz.ntmps111 rfl Tryz.results111 ?_
  refine AW_seq ?_
  refine AW_region ?_
  refine AL_p (x_box 100 rfl rfl rfl rfl rfl rfl rfl) ?_
  refine AL_p (x_assign rfl rfl) ?_
  refine AL_nil ?_
  refine AW_seq ?_
  refine AW_seq ?_
  refine AW_region ?_
  refine AL_p (x_field (off := 1) (o' := 1) rfl rfl rfl (by kernel_rfl) rfl) ?_
  refine AL_p (x_load1 rfl rfl rfl (by kernel_rfl) rfl) ?_
  refine AL_p (x_len (E := 72) (n := 1) rfl rfl (by kernel_rfl)) ?_
  refine AL_p (x_move rfl rfl) ?_
  refine AL_nil ?_
  refine AW_block ?_
  refine AW_loop2 (ι := {q : Nat // q ≤ r.rows.length ∧ GoodTo r.rows r.arity q}) (fun p => [(8, .one (.c (.int .i64 ((p.1) : Int))))]) (fun p => []) [1, 6, 7] [100] (fun p => r.rows.length - (p.1)) ⟨0, ⟨by omega, .zero⟩⟩ (rn []) ?_ ?_
  exact ⟨by (repeat refine ⟨⟨_, rfl, by first | exact VLe.rf | exact vle_int (by dsimp only; omega)⟩, ?_⟩); exact trivial, by (repeat refine ⟨⟨_, rfl, by first | exact BLe.rf | exact BLe.box AllC.rf | exact BLe.arr (by exact rfl)⟩, ?_⟩); exact trivial, by repeat (first | exact trivial | refine ⟨⟨rfl, by first | (left; intro h; cases h) | (right; rfl), by first | exact (fun _ h => ⟨_, h⟩) | exact (fun _ _ => ⟨_, rfl⟩) | (intro _ h; cases h)⟩, ?_⟩), rfl⟩
  rintro ⟨k, hinv⟩
  dsimp only
  obtain ⟨hk, hs⟩ := hinv
  refine AW_seq ?_
  refine AW_region ?_
  refine AL_b (x_lss rfl rfl rfl) (fun b9 h9 => ?_)
  refine AL_nil ?_
  refine AW_seq ?_
  cases b9
  · try simp only [tdy] at h9
    refine AW_condF rfl ?_
    refine AW_exit (BQ_hit ?_)
    refine AW_seq ?_
    refine AW_region ?_
    refine AL_p (x_field (off := 0) (o' := 0) rfl rfl rfl (by kernel_rfl) rfl) ?_
    refine AL_p (x_load1 rfl rfl rfl (by kernel_rfl) rfl) ?_
    refine AL_b (x_call0 rfl rfl rfl (upToI_c _ _) rfl rfl) (fun b42 h42 => ?_)
    refine AL_p (x_move rfl rfl) ?_
    cases b42
    · try simp only [tdy] at h42
      refine AL_o rfl rfl rfl rfl ?_
      refine AL_o rfl rfl rfl rfl ?_
      refine AL_o rfl rfl rfl rfl ?_
      refine AL_o rfl rfl rfl rfl ?_
      refine AL_p (x_pickF rfl rfl rfl) ?_
      refine AL_p (x_assign rfl rfl) ?_
      refine AL_nil ?_
      refine AW_ret ?_
      exact ⟨rn [], ⟨⟨⟨_, rfl, vle_bool (by first | exact (relOk_bad (k := k) (by omega) (rowAt_row (by omega) h14)).symm | exact (relOk_bad (k := k) (by omega) (rowAt_len (by omega) h22)).symm | exact (relOk_bad (k := k) (by omega) (rowAt_order (by omega) (by omega) (by omega))).symm | exact (relOk_good hs (by omega) (upToB_iff.1 h42).1 (upToB_iff.1 h42).2 (by omega)).symm | exact (relOk_range (by omega)).symm | exact (relOk_range (upToB_not h42 (by omega))).symm)⟩, trivial⟩, trivial, trivial, rfl⟩⟩
    try simp only [tdy] at h42
    refine AL_g rfl rfl (x_field (off := 1) (o' := 1) rfl rfl rfl (by kernel_rfl) rfl) ?_
    refine AL_g rfl rfl (x_load1 rfl rfl rfl (by kernel_rfl) rfl) ?_
    refine AL_g rfl rfl (x_len (E := 72) (n := 1) rfl rfl (by kernel_rfl)) ?_
    refine AL_gb rfl rfl (x_leq rfl rfl rfl) (fun b47 h47 => ?_)
    refine AL_p (x_pickT rfl rfl rfl) ?_
    refine AL_p (x_assign rfl rfl) ?_
    refine AL_nil ?_
    refine AW_ret ?_
    cases b47
    rotate_left
    · try simp only [tdy] at h47
      exact ⟨rn [], ⟨⟨⟨_, rfl, vle_bool (by first | exact (relOk_bad (k := k) (by omega) (rowAt_row (by omega) h14)).symm | exact (relOk_bad (k := k) (by omega) (rowAt_len (by omega) h22)).symm | exact (relOk_bad (k := k) (by omega) (rowAt_order (by omega) (by omega) (by omega))).symm | exact (relOk_good hs (by omega) (upToB_iff.1 h42).1 (upToB_iff.1 h42).2 (by omega)).symm | exact (relOk_range (by omega)).symm | exact (relOk_range (upToB_not h42 (by omega))).symm)⟩, trivial⟩, trivial, trivial, rfl⟩⟩
    try simp only [tdy] at h47
    exact ⟨rn [], ⟨⟨⟨_, rfl, vle_bool (by first | exact (relOk_bad (k := k) (by omega) (rowAt_row (by omega) h14)).symm | exact (relOk_bad (k := k) (by omega) (rowAt_len (by omega) h22)).symm | exact (relOk_bad (k := k) (by omega) (rowAt_order (by omega) (by omega) (by omega))).symm | exact (relOk_good hs (by omega) (upToB_iff.1 h42).1 (upToB_iff.1 h42).2 (by omega)).symm | exact (relOk_range (by omega)).symm | exact (relOk_range (upToB_not h42 (by omega))).symm)⟩, trivial⟩, trivial, trivial, rfl⟩⟩
  try simp only [tdy] at h9
  refine AW_condT rfl ?_
  refine AW_skip ?_
  refine AW_seq ?_
  refine AW_block ?_
  refine AW_seq ?_
  refine AW_region ?_
  refine AL_p (x_move rfl rfl) ?_
  refine AL_p (x_index (E := 72) (n := 1) rfl rfl rfl (by kernel_rfl) rfl rfl (by omega)) ?_
  refine AL_p (x_eloadW (n := 1) rfl rfl (by kernel_rfl) rfl) ?_
  refine AL_p (x_alloc (z := .agg #[.slice none 0 0]) 101 rfl (by kernel_rfl) rfl rfl rfl rfl) ?_
  refine AL_p (x_assign rfl rfl) ?_
  refine AL_p (x_store (n := 1) rfl rfl rfl rfl (by kernel_rfl) rfl rfl rfl) ?_
  refine AL_nil ?_
  refine AW_seq ?_
  refine AW_draw rfl ?_
  refine AL_p (x_loadN (n := 1) rfl rfl rfl (by kernel_rfl) rfl rfl) ?_
  refine AL_b (x_call0 rfl rfl rfl (rowOkI_c _) rfl rfl) (fun b14 h14 => ?_)
  refine AL_p (x_not rfl rfl) ?_
  refine AL_p (x_move rfl rfl) ?_
  cases b14
  · try simp only [tdy] at h14
    refine AL_o rfl rfl rfl rfl ?_
    refine AL_o rfl rfl rfl rfl ?_
    refine AL_o rfl rfl rfl rfl ?_
    refine AL_o rfl rfl rfl rfl ?_
    refine AL_o rfl rfl rfl rfl ?_
    refine AL_o rfl rfl rfl rfl ?_
    refine AL_p (x_pickT rfl rfl rfl) ?_
    refine AL_p (x_move rfl rfl) ?_
    refine AL_o rfl rfl rfl rfl ?_
    refine AL_o rfl rfl rfl rfl ?_
    refine AL_o rfl rfl rfl rfl ?_
    refine AL_u rfl rfl rfl ?_
    refine AL_u rfl rfl rfl ?_
    refine AL_u rfl rfl rfl ?_
    refine AL_u rfl rfl rfl ?_
    refine AL_u rfl rfl rfl ?_
    refine AL_u rfl rfl rfl ?_
    refine AL_u rfl rfl rfl ?_
    refine AL_u rfl rfl rfl ?_
    refine AL_u rfl rfl rfl ?_
    refine AL_o rfl rfl rfl rfl ?_
    refine AL_p (x_pickT rfl rfl rfl) ?_
    refine AL_nild (by kernel_rfl) ?_
    refine AW_condT rfl ?_
    refine AW_seq ?_
    refine AW_region ?_
    refine AL_p (x_assign rfl rfl) ?_
    refine AL_nil ?_
    refine AW_ret (BQ_ret (BQ_ret ?_))
    exact ⟨rn [], ⟨⟨⟨_, rfl, vle_bool (by first | exact (relOk_bad (k := k) (by omega) (rowAt_row (by omega) h14)).symm | exact (relOk_bad (k := k) (by omega) (rowAt_len (by omega) h22)).symm | exact (relOk_bad (k := k) (by omega) (rowAt_order (by omega) (by omega) (by omega))).symm | exact (relOk_good hs (by omega) (upToB_iff.1 h42).1 (upToB_iff.1 h42).2 (by omega)).symm | exact (relOk_range (by omega)).symm | exact (relOk_range (upToB_not h42 (by omega))).symm)⟩, trivial⟩, trivial, trivial, rfl⟩⟩
  try simp only [tdy] at h14
  refine AL_g rfl rfl (x_field (off := 0) (o' := 0) rfl rfl rfl (by kernel_rfl) rfl) ?_
  refine AL_g rfl rfl (x_load1 rfl rfl rfl (by kernel_rfl) rfl) ?_
  refine AL_g rfl rfl (x_len (E := 147) (n := 2) rfl rfl (by kernel_rfl)) ?_
  refine AL_g rfl rfl (x_field (off := 0) (o' := 0) rfl rfl rfl (by kernel_rfl) rfl) ?_
  refine AL_g rfl rfl (x_load1 rfl rfl rfl (by kernel_rfl) rfl) ?_
  refine AL_gb rfl rfl (x_neq rfl rfl rfl) (fun b22 h22 => ?_)
  refine AL_p (x_pickF rfl rfl rfl) ?_
  refine AL_p (x_move rfl rfl) ?_
  cases b22
  rotate_left
  · try simp only [tdy] at h22
    refine AL_o rfl rfl rfl rfl ?_
    refine AL_o rfl rfl rfl rfl ?_
    refine AL_o rfl rfl rfl rfl ?_
    refine AL_u rfl rfl rfl ?_
    refine AL_u rfl rfl rfl ?_
    refine AL_u rfl rfl rfl ?_
    refine AL_u rfl rfl rfl ?_
    refine AL_u rfl rfl rfl ?_
    refine AL_u rfl rfl rfl ?_
    refine AL_u rfl rfl rfl ?_
    refine AL_u rfl rfl rfl ?_
    refine AL_u rfl rfl rfl ?_
    refine AL_o rfl rfl rfl rfl ?_
    refine AL_p (x_pickT rfl rfl rfl) ?_
    refine AL_nild (by kernel_rfl) ?_
    refine AW_condT rfl ?_
    refine AW_seq ?_
    refine AW_region ?_
    refine AL_p (x_assign rfl rfl) ?_
    refine AL_nil ?_
    refine AW_ret (BQ_ret (BQ_ret ?_))
    exact ⟨rn [], ⟨⟨⟨_, rfl, vle_bool (by first | exact (relOk_bad (k := k) (by omega) (rowAt_row (by omega) h14)).symm | exact (relOk_bad (k := k) (by omega) (rowAt_len (by omega) h22)).symm | exact (relOk_bad (k := k) (by omega) (rowAt_order (by omega) (by omega) (by omega))).symm | exact (relOk_good hs (by omega) (upToB_iff.1 h42).1 (upToB_iff.1 h42).2 (by omega)).symm | exact (relOk_range (by omega)).symm | exact (relOk_range (upToB_not h42 (by omega))).symm)⟩, trivial⟩, trivial, trivial, rfl⟩⟩
  try simp only [tdy] at h22
  refine AL_g rfl rfl (x_move rfl rfl) ?_
  refine AL_gb rfl rfl (x_gtr rfl rfl rfl) (fun b26 h26 => ?_)
  refine AL_g rfl rfl (x_move rfl rfl) ?_
  cases b26
  · try simp only [tdy] at h26
    have hat := rowAt_first (ar := r.arity) (k := k) (by omega) (by omega) h14 (by omega)
    refine AL_o rfl rfl rfl rfl ?_
    refine AL_o rfl rfl rfl rfl ?_
    refine AL_o rfl rfl rfl rfl ?_
    refine AL_o rfl rfl rfl rfl ?_
    refine AL_o rfl rfl rfl rfl ?_
    refine AL_o rfl rfl rfl rfl ?_
    refine AL_o rfl rfl rfl rfl ?_
    refine AL_o rfl rfl rfl rfl ?_
    refine AL_o rfl rfl rfl rfl ?_
    refine AL_g rfl rfl (x_pickF rfl rfl rfl) ?_
    refine AL_p (x_pickF rfl rfl rfl) ?_
    refine AL_nild (by kernel_rfl) ?_
    refine AW_condF rfl ?_
    refine AW_skip ?_
    refine AW_region ?_
    refine AL_p (x_add rfl rfl rfl (IntWalk.i64_in _ (by omega))) ?_
    refine AL_p (x_move rfl rfl) ?_
    refine AL_nil ?_
    refine ⟨⟨k + 1, ⟨by omega, hs.succ (by omega) hat⟩⟩, rn [], ?_, by dsimp only; omega⟩
    exact ⟨by (repeat refine ⟨⟨_, rfl, by first | exact VLe.rf | exact vle_int (by dsimp only; omega)⟩, ?_⟩); exact trivial, by (repeat refine ⟨⟨_, rfl, by first | exact BLe.rf | exact BLe.box AllC.rf | exact BLe.arr (by exact rfl)⟩, ?_⟩); exact trivial, by repeat (first | exact trivial | refine ⟨⟨rfl, by first | (left; intro h; cases h) | (right; rfl), by first | exact (fun _ h => ⟨_, h⟩) | exact (fun _ _ => ⟨_, rfl⟩) | (intro _ h; cases h)⟩, ?_⟩), rfl⟩
  try simp only [tdy] at h26
  refine AL_g rfl rfl (x_field (off := 1) (o' := 1) rfl rfl rfl (by kernel_rfl) rfl) ?_
  refine AL_g rfl rfl (x_load1 rfl rfl rfl (by kernel_rfl) rfl) ?_
  refine AL_g rfl rfl (x_move rfl rfl) ?_
  refine AL_g rfl rfl (x_sub rfl rfl rfl (IntWalk.i64_in _ (by omega))) ?_
  refine AL_g rfl rfl (x_index (E := 72) (n := 1) rfl rfl rfl (by kernel_rfl) rfl (k := k - 1) (by omega) (by omega)) ?_
  refine AL_g rfl rfl (x_eloadW (n := 1) rfl rfl (by kernel_rfl) rfl) ?_
  refine AL_g rfl rfl (x_loadN (n := 1) rfl rfl rfl (by kernel_rfl) rfl rfl) ?_
  refine AL_g rfl rfl (x_call0 rfl rfl rfl (byRow_c _ _ (rowOk_vals (hs.row (by omega) (by omega))) (rowOk_vals h14)) rfl rfl) ?_
  refine AL_gb rfl rfl (x_geq rfl rfl rfl) (fun b36 h36 => ?_)
  refine AL_g rfl rfl (x_pickT rfl rfl rfl) ?_
  refine AL_p (x_pickF rfl rfl rfl) ?_
  refine AL_nild (by kernel_rfl) ?_
  cases b36
  rotate_left
  · try simp only [tdy] at h36
    refine AW_condT rfl ?_
    refine AW_seq ?_
    refine AW_region ?_
    refine AL_p (x_assign rfl rfl) ?_
    refine AL_nil ?_
    refine AW_ret (BQ_ret (BQ_ret ?_))
    exact ⟨rn [], ⟨⟨⟨_, rfl, vle_bool (by first | exact (relOk_bad (k := k) (by omega) (rowAt_row (by omega) h14)).symm | exact (relOk_bad (k := k) (by omega) (rowAt_len (by omega) h22)).symm | exact (relOk_bad (k := k) (by omega) (rowAt_order (by omega) (by omega) (by omega))).symm | exact (relOk_good hs (by omega) (upToB_iff.1 h42).1 (upToB_iff.1 h42).2 (by omega)).symm | exact (relOk_range (by omega)).symm | exact (relOk_range (upToB_not h42 (by omega))).symm)⟩, trivial⟩, trivial, trivial, rfl⟩⟩
  try simp only [tdy] at h36
  have hat := rowAt_next (ar := r.arity) (k := k) (by omega) (by omega) h14 (by omega) (by omega)
  refine AW_condF rfl ?_
  refine AW_skip ?_
  refine AW_region ?_
  refine AL_p (x_add rfl rfl rfl (IntWalk.i64_in _ (by omega))) ?_
  refine AL_p (x_move rfl rfl) ?_
  refine AL_nil ?_
  refine ⟨⟨k + 1, ⟨by omega, hs.succ (by omega) hat⟩⟩, rn [], ?_, by dsimp only; omega⟩
  exact ⟨by (repeat refine ⟨⟨_, rfl, by first | exact VLe.rf | exact vle_int (by dsimp only; omega)⟩, ?_⟩); exact trivial, by (repeat refine ⟨⟨_, rfl, by first | exact BLe.rf | exact BLe.box AllC.rf | exact BLe.arr (by exact rfl)⟩, ?_⟩); exact trivial, by repeat (first | exact trivial | refine ⟨⟨rfl, by first | (left; intro h; cases h) | (right; rfl), by first | exact (fun _ h => ⟨_, h⟩) | exact (fun _ _ => ⟨_, rfl⟩) | (intro _ h; cases h)⟩, ?_⟩), rfl⟩
end Go.Proofs.YtibhoanjglfaoaaGreat
