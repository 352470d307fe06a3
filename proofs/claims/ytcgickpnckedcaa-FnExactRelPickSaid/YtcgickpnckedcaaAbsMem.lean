/- The abstract walk: variables and arrays of one's own. -/
import Derived.Test.YtcgickpnckedcaaAbsOps
import Derived.Laws.Tables
import Derived.Laws.Strings
namespace Go.Proofs.Ytcgickpnckedcaa
open Go.RowKit
set_option linter.unusedVariables false

def setAt {β : Type} (f : Nat → β) (k : Nat) (v : β) : Nat → β := fun j => if j = k then v else f j
theorem setAt_self {β : Type} {f : Nat → β} {k : Nat} {v : β} : setAt f k v k = v := if_pos rfl
theorem setAt_ne {β : Type} {f : Nat → β} {k j : Nat} {v : β} (h : j ≠ k) : setAt f k v j = f j := if_neg h
theorem key_ne {l : Locs} {j k : Nat} (hj : lk l j ≠ none) (hk : lk l k = none) : j ≠ k := fun e => hj (e ▸ hk)
/-- A value of one cell. -/
theorem one_of_wf {v : Value} (h : wfV v) : v.oneCell' = true := by
  cases v <;> first | rfl | exact h.elim
/-- A cell whose value is known for one of one cell. -/
def solid (l : Locs) : Cell → Bool
  | .c _ => true
  | .sl _ _ => true
  | .own k => match lkl l k with | some (.arr _ _ _ _) => true | _ => false
  | .ptr k _ => match lkl l k with | some (.box _) => true | _ => false
  | .ep _ _ _ => true
  | .clo _ [] => true
  | .slo _ _ _ => true
  | .epo _ _ _ _ => true
  | _ => false
theorem one_of_solid {g : Gh} {l : Locs} {w : World} (m : MemR g l w) {v : Value} {x : Cell} (hs : solid l x = true) (h : CellR g l w v x) : v.oneCell' = true := by
  cases x with
  | c u => rw [h.1]; exact one_of_wf h.2
  | sl e xs => obtain ⟨a, n, cap, bs, rfl, _⟩ := h; rfl
  | own k =>
    simp only [solid] at hs
    split at hs
    · rename_i T e xs d hk
      rw [h _ _ _ _ _ hk]
      rcases m.arr k _ _ _ _ _ hk with ⟨_, h1, _⟩ | ⟨_, _, _, h1, _⟩ <;> rw [h1] <;> rfl
    · cases hs
  | ptr k off =>
    simp only [solid] at hs
    split at hs
    · rename_i cs hk; rw [h cs hk]; rfl
    · cases hs
  | optr k i off => cases hs
  | ep e x off => obtain ⟨gb, o, cs, b, rfl, _⟩ := h; rfl
  | clo f ks =>
    cases ks with
    | nil => rw [h fun k hk => by cases hk]; rfl
    | cons _ _ => cases hs
  | any => cases hs
  | sn e xs => cases hs
  | slo B e xs => obtain ⟨a, n, cap, bs, rfl, _⟩ := h; rfl
  | epo B e x off => obtain ⟨gb, o, cs, b, rfl, _⟩ := h; rfl
/-- The blocks that the cells speak of. -/
def rlC (l : Locs) (xs : List Cell) : List (Nat × Blk) := (xs.flatMap Cell.ids).filterMap fun k => match lkl l k with | some b => some (k, b) | none => none
theorem rlC_get {l l' : Locs} {xs : List Cell} (h : ∀ p ∈ rlC l xs, lkl l' p.1 = some p.2) {x : Cell} (hx : x ∈ xs) {k : Nat} (hk : k ∈ x.ids) {b : Blk} (hb : lkl l k = some b) : lkl l' k = some b :=
  h (k, b) (List.mem_filterMap.2 ⟨k, List.mem_flatMap.2 ⟨x, hx, hk⟩, by rw [hb]⟩)
theorem rlC_self {l : Locs} {xs : List Cell} : ∀ p ∈ rlC l xs, lkl l p.1 = some p.2 := fun p hp => by
  obtain ⟨k, _, h2⟩ := List.mem_filterMap.1 hp
  split at h2
  · rename_i b hb; cases h2; exact hb
  · cases h2
theorem solid_of {l l' : Locs} {xs : List Cell} (h : ∀ p ∈ rlC l xs, lkl l' p.1 = some p.2) {x : Cell} (hx : x ∈ xs) (hs : solid l x = true) : solid l' x = true := by
  cases x with
  | own k =>
    simp only [solid] at hs ⊢
    split at hs
    · rename_i T e zs d hk; rw [rlC_get h hx (by simp [Cell.ids]) hk]
    · cases hs
  | ptr k off =>
    simp only [solid] at hs ⊢
    split at hs
    · rename_i cs hk; rw [rlC_get h hx (by simp [Cell.ids]) hk]
    · cases hs
  | clo f ks => cases ks <;> first | rfl | cases hs
  | _ => first | rfl | cases hs

section
variable {g : Gh} {l : Locs} {w : World}
/-- A new variable. -/
theorem box_new (m : MemR g l w) {k : Nat} (hk : lk l k = none) (hki : k ∉ l.ids) {vs : List Value} {cs : List Cell} (T : TypeId) (h : All2 (CellR g l w) vs cs) (hkc : k ∉ cs.flatMap Cell.ids) :
    MemR { g with ρ := setAt g.ρ k w.heap.size } ((k, some (.box cs)) :: l) (w.alloc (.cells vs.toArray T)) ∧
    (∀ K, Step K g l w { g with ρ := setAt g.ρ k w.heap.size } ((k, some (.box cs)) :: l) (w.alloc (.cells vs.toArray T))) ∧
    (∀ b, g.I b → (w.alloc (.cells vs.toArray T)).heap[b]? = w.heap[b]?) ∧ ∀ j, j ≠ k → okK g l { g with ρ := setAt g.ρ k w.heap.size } ((k, some (.box cs)) :: l) j := by
  have hi : ∀ b, g.I b → (w.alloc (.cells vs.toArray T)).heap[b]? = w.heap[b]? := fun b hb => Below.heap_alloc w _ b (m.ilt b hb)
  have hs : w.heap.size ≤ (w.alloc (.cells vs.toArray T)).heap.size := by simp
  have hu : ∀ j, j ≠ k → lkl ((k, some (.box cs)) :: l) j = none ∨ Untouched g l w { g with ρ := setAt g.ρ k w.heap.size } ((k, some (.box cs)) :: l) (w.alloc (.cells vs.toArray T)) j := fun j hj =>
    .inr ⟨lkl_cons_ne (Ne.symm hj), setAt_ne hj, rfl, rfl, fun b hb hl => ⟨Below.heap_alloc w _ _ (m.lt hb hl), m.notI hb hl⟩⟩
  have ok : ∀ j, j ≠ k → okK g l { g with ρ := setAt g.ρ k w.heap.size } ((k, some (.box cs)) :: l) j := fun j hj => okK.same (lkl_cons_ne (Ne.symm hj)) (setAt_ne hj) rfl
  refine ⟨m.set1 k hi (fun _ h => h) hs (fun b hb => Nat.lt_of_lt_of_le (m.ilt b hb) hs) hu (.inr hki) (fun cs' hc => ?_) (fun α T' e xs d hc => ?_) (fun j b b' hj h1 h2 h3 l1 l2 => ?_) (fun α T' e xs hc => ?_) (fun j α β T' U e f xs ys hj h1 h2 h3 => ?_), fun K => ?_, hi, ok⟩
  · rw [lkl_cons_self] at hc; cases hc
    refine ⟨vs.toArray, T, by rw [show ({ g with ρ := setAt g.ρ k w.heap.size } : Gh).ρ k = w.heap.size from setAt_self]; exact heap_alloc_new w _, ?_, ?_⟩
    · exact h.mono fun a x hx hr => hr.step hi (fun _ h => h) hs fun i hii => ok i fun e => hkc (List.mem_flatMap.2 ⟨x, hx, e ▸ hii⟩)
    · rw [show ({ g with ρ := setAt g.ρ k w.heap.size } : Gh).ρ k = w.heap.size from setAt_self]
      exact fun hI => absurd (m.ilt _ hI) (by omega)
  · rw [lkl_cons_self] at hc; cases hc
  · rw [show ({ g with ρ := setAt g.ρ k w.heap.size } : Gh).ρ k = w.heap.size from setAt_self]
    exact Nat.ne_of_lt (m.lt h2 l1)
  · rw [lkl_cons_self] at hc; cases hc
  · rw [lkl_cons_self] at h3; cases h3
  · refine ⟨rfl, rfl, rfl, hs, fun b hb _ => Below.heap_alloc w _ b hb, fun _ h => h, fun _ h => .inl h, own_set1 k hu (fun b hb hl => .inr ?_) (fun α T' e xs hc => ?_), fun j hj hn => ?_⟩
    · rw [show ({ g with ρ := setAt g.ρ k w.heap.size } : Gh).ρ k = w.heap.size from setAt_self]; exact Nat.le_refl _
    · rw [lkl_cons_self] at hc; cases hc
    · have hjk := key_ne hn hk
      exact ⟨by rw [lk_cons_ne (Ne.symm hjk)]; exact hn, ok j hjk, fun cs' hc => ⟨cs', by rw [lkl_cons_ne (Ne.symm hjk)]; exact hc⟩⟩
/-- A variable written anew. -/
theorem box_set (m : MemR g l w) {k : Nat} {cs cs' : List Cell} (hk : lkl l k = some (.box cs)) {vs vs' : List Value} {T : TypeId} (hh : w.heap[g.ρ k]? = some (.cells vs.toArray T (0, 0))) (h : All2 (CellR g l w) vs' cs') :
    MemR g ((k, some (.box cs')) :: l) (w.setRow (g.ρ k) vs'.toArray) ∧ (∀ K, Step K g l w g ((k, some (.box cs')) :: l) (w.setRow (g.ρ k) vs'.toArray)) ∧
    (∀ b, g.I b → (w.setRow (g.ρ k) vs'.toArray).heap[b]? = w.heap[b]?) ∧ ∀ j, okK g l g ((k, some (.box cs')) :: l) j := by
  have nI := m.notI hk trivial
  have hi : ∀ b, g.I b → (w.setRow (g.ρ k) vs'.toArray).heap[b]? = w.heap[b]? := fun b hb => setRow_other w _ b _ (fun e => nI (e ▸ hb))
  have hs : w.heap.size ≤ (w.setRow (g.ρ k) vs'.toArray).heap.size := by simp
  have ok : ∀ j, okK g l g ((k, some (.box cs')) :: l) j := fun j => by
    by_cases e : j = k
    · subst e
      exact ⟨fun _ _ => ⟨rfl, cs, hk⟩, fun α T e xs d hc => by rw [lkl_cons_self] at hc; cases hc⟩
    · exact okK.same (lkl_cons_ne (Ne.symm e)) rfl rfl
  have hu : ∀ j, j ≠ k → lkl ((k, some (.box cs')) :: l) j = none ∨ Untouched g l w g ((k, some (.box cs')) :: l) (w.setRow (g.ρ k) vs'.toArray) j := fun j hj =>
    .inr ⟨lkl_cons_ne (Ne.symm hj), rfl, rfl, rfl, fun b hb hl => ⟨setRow_other w _ _ _ (m.dis j k b _ hj hb hk hl trivial), m.notI hb hl⟩⟩
  refine ⟨m.set1 k hi (fun _ h => h) hs (fun b hb => Nat.lt_of_lt_of_le (m.ilt b hb) hs) hu (.inl (ok k)) (fun cs2 hc => ?_) (fun α T' e xs d hc => ?_) (fun j b b' hj h1 h2 h3 l1 l2 => m.dis j k b _ hj h2 hk l1 trivial) (fun α T' e xs hc => ?_) (fun j α β T' U e f xs ys hj h1 h2 h3 => ?_), fun K => ?_, hi, ok⟩
  · rw [lkl_cons_self] at hc; cases hc
    exact ⟨vs'.toArray, T, setRow_heap w _ _ _ T _ hh, h.mono fun a x hx hr => hr.step hi (fun _ h => h) hs fun i _ => ok i, nI⟩
  · rw [lkl_cons_self] at hc; cases hc
  · rw [lkl_cons_self] at hc; cases hc
  · rw [lkl_cons_self] at h3; cases h3
  · refine ⟨rfl, rfl, rfl, hs, fun b hb hn => setRow_other w _ b _ (hn k _ hk trivial), fun _ h => h, fun _ h => .inl h, own_set1 k hu (fun b hb hl => .inl (OwnB.of_live hk trivial)) (fun α T' e xs hc => ?_), fun j hj hn => ⟨?_, ok j, fun cs2 hc => ?_⟩⟩
    · rw [lkl_cons_self] at hc; cases hc
    · by_cases e : j = k
      · subst e; rw [lk_cons_self]; simp
      · rw [lk_cons_ne (Ne.symm e)]; exact hn
    · by_cases e : j = k
      · subst e; exact ⟨cs', lkl_cons_self⟩
      · exact ⟨cs2, by rw [lkl_cons_ne (Ne.symm e)]; exact hc⟩
end

section ops
variable {P : Program} {N : Nat} {s : St} {d : Nat} {ty : TypeId} {pos : String} {after : Array Edge} {gd : Option (Nat × Bool)}
def noId (k : Nat) (ids : List Nat) : Bool := ids.all fun i => !Nat.beq i k
theorem noId_of {k : Nat} {ids : List Nat} (h : noId k ids = true) : k ∉ ids := fun hm => by
  have := List.all_eq_true.1 h k hm
  simp at this
def AVal.cells : AVal → List Cell
  | .one x => [x]
  | .agg xs => xs
  | .tup _ => []
theorem vr1_cells {g : Gh} {l : Locs} {w : World} {v : Value} {X : AVal} (hs : X.cells.all (solid l) = true) (m : MemR g l w) (h : VR g l w v X) (hf : X.flat = true) : All2 (CellR g l w) v.cells.toList X.cells := by
  cases X with
  | one x =>
    simp only [AVal.cells, List.all_cons, List.all_nil, Bool.and_true] at hs
    have h1 := one_of_solid m hs h
    have : v.cells.toList = [v] := by cases v <;> first | rfl | cases h1
    rw [this]; exact ⟨h, trivial⟩
  | agg xs =>
    obtain ⟨vs, rfl, h2⟩ := h
    exact h2
  | tup xs => cases hf
/-- A new variable that holds X. -/
theorem x_box {T : TypeId} {x : Operand} {X : AVal} (k : Nat) (hN : Nat.blt d N = true) (h : evo s.t x = some X) (hf : X.flat = true) (hs : X.cells.all (solid s.l) = true) (hk : lk s.l k = none) (hi : noId k s.ids = true) (hX : noId k (X.cells.flatMap Cell.ids) = true) :
    Stp P N ⟨some d, .box T x, ty, pos, after, gd⟩ s ⟨(d, .one (.ptr k 0)) :: s.t, (k, some (.box X.cells)) :: s.l⟩ ⟨rdo x X, rlC s.l X.cells, [(d, .one (.ptr k 0))], [(k, some (.box X.cells))], [k]⟩ := by
  refine ⟨fun K g s' a w hp r => ?_, ⟨rdo_of h, rlC_self, fun j hj => by simp at hj; subst hj; exact ⟨hk, noId_of hi⟩⟩, rfl⟩
  obtain ⟨p1, p2, p3⟩ := hp
  have hv := eval_ok r (evs_of h) p1
  have hs' : X.cells.all (solid s'.l) = true := List.all_eq_true.2 fun x hx => solid_of p2 hx (List.all_eq_true.1 hs x hx)
  obtain ⟨n1, n2⟩ := p3 k (by simp)
  obtain ⟨b1, b2, b3, b4⟩ := box_new r.mem n1 (fun h => n2 (List.mem_append_right _ h)) T (vr1_cells hs' r.mem hv hf) (noId_of hX)
  unfold Oper.wp
  have hrun : (execOp a.eval ⟨some d, .box T x, ty, pos, after, gd⟩).run P w = .ok (.value (.pointer (some ⟨w.heap.size, 0, none⟩))) (w.alloc (.cells (a.eval x).cells T)) := by
    simp only [execOp, Instr.box, newVar, newRow, newObj, Sem.run_bind, Sem.run_pure]
    rfl
  rw [hrun, Oper.upon_value]
  have e1 : (a.eval x).cells.toList.toArray = (a.eval x).cells := by simp
  rw [e1] at b1 b2 b3
  refine ⟨{ g with ρ := setAt g.ρ k w.heap.size }, r.next (blt_lt hN) b3 (fun _ h => h) (b2 K).size (fun j hj => b4 j fun e => n2 (e ▸ hj)) (fun cs hc => ?_) b1, b2 K⟩
  rw [show ({ g with ρ := setAt g.ρ k w.heap.size } : Gh).ρ k = w.heap.size from setAt_self]
/-- A new variable at its zero. -/
def zeroT (P : Program) (T : TypeId) : Option Value := match P.info? T with | some i => i.zero | none => none
theorem x_alloc {T : TypeId} {z : Value} {X : AVal} (k : Nat) (hN : Nat.blt d N = true) (hz : zeroT P T = some z) (hX : cval z = some X) (hk : lk s.l k = none) (hi : noId k s.ids = true) (hXi : X.cells.flatMap Cell.ids = []) :
    Stp P N ⟨some d, .alloc T, ty, pos, after, gd⟩ s ⟨(d, .one (.ptr k 0)) :: s.t, (k, some (.box X.cells)) :: s.l⟩ ⟨[], [], [(d, .one (.ptr k 0))], [(k, some (.box X.cells))], [k]⟩ := by
  refine ⟨fun K g s' a w hp r => ?_, ⟨by simp, by simp, fun j hj => by simp at hj; subst hj; exact ⟨hk, noId_of hi⟩⟩, rfl⟩
  obtain ⟨p1, p2, p3⟩ := hp
  have hv : VR g s'.l w z X := cval_ok hX
  obtain ⟨n1, n2⟩ := p3 k (by simp)
  have hall : All2 (CellR g s'.l w) z.cells.toList X.cells := by
    unfold cval at hX
    split at hX
    · rename_i vs
      split at hX
      · rename_i cs hc; cases hX; exact plainL_ok hc
      · cases hX
    · split at hX
      · rename_i hb
        cases hX
        have h1 := one_of_wf (wf_of_plain hb)
        have : z.cells.toList = [z] := by cases z <;> first | rfl | cases h1
        rw [this]; exact ⟨⟨rfl, wf_of_plain hb⟩, trivial⟩
      · cases hX
  obtain ⟨b1, b2, b3, b4⟩ := box_new r.mem n1 (fun h => n2 (List.mem_append_right _ h)) T hall (by rw [hXi]; simp)
  unfold Oper.wp
  have hrun : (execOp a.eval ⟨some d, .alloc T, ty, pos, after, gd⟩).run P w = .ok (.value (.pointer (some ⟨w.heap.size, 0, none⟩))) (w.alloc (.cells z.cells T)) := by
    unfold zeroT at hz
    split at hz
    · rename_i i hi
      simp only [execOp, Instr.alloc, zeroValue, typeInfo, newVar, newRow, newObj, Sem.run_bind, Sem.run_pure, program, Sem.run, hi, hz, Result.andThen_ok]
      rfl
    · cases hz
  rw [hrun, Oper.upon_value]
  have e1 : z.cells.toList.toArray = z.cells := by simp
  rw [e1] at b1 b2 b3
  refine ⟨{ g with ρ := setAt g.ρ k w.heap.size }, r.next (blt_lt hN) b3 (fun _ h => h) (b2 K).size (fun j hj => b4 j fun e => n2 (e ▸ hj)) (fun cs hc => ?_) b1, b2 K⟩
  rw [show ({ g with ρ := setAt g.ρ k w.heap.size } : Gh).ρ k = w.heap.size from setAt_self]

def putC : Nat → List Cell → List Cell → Option (List Cell)
  | 0, [], l => some l
  | 0, _ :: _, [] => none
  | 0, x :: xs, _ :: l => match putC 0 xs l with | some m => some (x :: m) | none => none
  | _ + 1, _, [] => none
  | n + 1, xs, c :: l => match putC n xs l with | some m => some (c :: m) | none => none
theorem putC_all {R : Value → Cell → Prop} : ∀ {n : Nat} {us vs : List Value} {xs cs ds : List Cell}, putC n xs cs = some ds → All2 R us xs → All2 R vs cs → n + us.length ≤ vs.length ∧ All2 R (vs.take n ++ us ++ vs.drop (n + us.length)) ds
  | 0, [], vs, [], cs, ds, h, _, hv => by
    have h0 : putC 0 [] cs = some cs := by cases cs <;> rfl
    rw [h0] at h; cases h; exact ⟨by simp, by simpa using hv⟩
  | 0, u :: us, [], x :: xs, [], ds, h, _, _ => by cases h
  | 0, u :: us, v :: vs, x :: xs, c :: cs, ds, h, hu, hv => by
    simp only [putC] at h
    split at h
    · rename_i m hm
      cases h
      obtain ⟨h1, h2⟩ := putC_all hm hu.2 hv.2
      refine ⟨by simp only [List.length_cons]; omega, ?_⟩
      simp only [List.take_zero, List.nil_append, Nat.zero_add, List.length_cons, List.drop_succ_cons] at h2 ⊢
      exact ⟨hu.1, h2⟩
    · cases h
  | n + 1, us, [], xs, [], ds, h, _, _ => by cases h
  | n + 1, us, v :: vs, xs, c :: cs, ds, h, hu, hv => by
    simp only [putC] at h
    split at h
    · rename_i m hm
      cases h
      obtain ⟨h1, h2⟩ := putC_all hm hu hv.2
      refine ⟨by simp only [List.length_cons]; omega, ?_⟩
      rw [show n + 1 + us.length = n + us.length + 1 by omega, List.take_succ_cons, List.drop_succ_cons]
      exact ⟨hv.1, h2⟩
    · cases h
def sizeT (P : Program) (T : TypeId) : Option Nat := match P.info? T with | some i => some i.size | none => none
theorem x_store {T n k off : Nat} {x y : Operand} {X : AVal} {cs cs' : List Cell} (h : evo s.t x = some (.one (.ptr k off))) (hl : lkl s.l k = some (.box cs)) (h2 : evo s.t y = some X) (hf : X.flat = true) (hT : sizeT P T = some n) (hn : X.cells.length = n) (hs : X.cells.all (solid s.l) = true) (hp : putC off X.cells cs = some cs') :
    Stp P N ⟨none, .store T x y, ty, pos, after, gd⟩ s ⟨s.t, (k, some (.box cs')) :: s.l⟩ ⟨rdo x (.one (.ptr k off)) ++ rdo y X, (k, .box cs) :: rlC s.l X.cells, [], [(k, some (.box cs'))], []⟩ := by
  refine ⟨fun K g s' a w hpre r => ?_, ⟨two_rd h h2, fun p hp => by
    rcases List.mem_cons.1 hp with rfl | hp
    · exact hl
    · exact rlC_self p hp, by simp⟩, rfl⟩
  obtain ⟨p1, p2, _⟩ := hpre
  have hk : lkl s'.l k = some (.box cs) := p2 (k, .box cs) (List.mem_cons_self ..)
  have ha : a.eval x = .pointer (some ⟨g.ρ k, off, none⟩) := (eval_ok r (evs_of h) fun p hm => p1 p (List.mem_append_left _ hm) : CellR g s'.l w _ (.ptr k off)) cs hk
  have hv := eval_ok r (evs_of h2) fun p hm => p1 p (List.mem_append_right _ hm)
  have hs' : X.cells.all (solid s'.l) = true := List.all_eq_true.2 fun z hz => solid_of (fun p hp => p2 p (List.mem_cons_of_mem _ hp)) hz (List.all_eq_true.1 hs z hz)
  have hall := vr1_cells hs' r.mem hv hf
  obtain ⟨vs, t, b1, b2, b3⟩ := r.mem.box k cs hk
  obtain ⟨c1, c2⟩ := putC_all hp hall b2
  obtain ⟨d1, d2, d3, d4⟩ := box_set r.mem hk (vs := vs.toList) (T := t) (by simpa using b1) c2
  have one : ∀ v ∈ (a.eval y).cells.toList, v.oneCell' = true := fun v hv => by
    obtain ⟨i, hi, rfl⟩ := List.getElem_of_mem hv
    have hx : X.cells[i]? = some (X.cells[i]'(by rw [← hall.len]; exact hi)) := List.getElem?_eq_getElem _
    obtain ⟨u, e1, e2⟩ := hall.get hx
    rw [List.getElem?_eq_getElem hi] at e1
    cases e1
    exact one_of_solid r.mem (List.all_eq_true.1 hs' _ (List.getElem_mem _)) e2
  have hst := run_storeCells_at P (g.ρ k) off t (a.eval y).cells.toList 0 vs w b1 (by simpa using c1) one
  have hlen : (a.eval y).cells.size = n := by rw [← hn]; simpa using hall.len
  unfold Oper.wp
  have hrun : (execOp a.eval ⟨none, .store T x y, ty, pos, after, gd⟩).run P w = .ok .skip (w.setRow (g.ρ k) (vs.toList.take off ++ (a.eval y).cells.toList ++ vs.toList.drop (off + (a.eval y).cells.toList.length)).toArray) := by
    unfold sizeT at hT
    split at hT
    · rename_i i hi
      cases hT
      simp only [execOp, Instr.storeAt, ha, Instr.sureAddr, storeVar, sizeOf, typeInfo, Sem.run_bind, Sem.run_pure, program, Sem.run, hi, Result.andThen_ok, hlen, ne_eq, not_true_eq_false, if_false]
      simp only [Nat.add_zero] at hst
      rw [hst]; rfl
    · cases hT
  rw [hrun, Oper.upon_skip]
  exact ⟨g, r.next0 d3 (fun _ h => h) (d2 K).size (fun j _ => d4 j) d1, d2 K⟩
end ops

/-! ### The walk's own rules -/
section walk
variable {P : Program} {N : Nat} {dr : Bool} {ops : Array Oper} {Kn : St → Prop} {r : List Oper} {s s' : St} {acc : List Cert} {c : Cert}
theorem AL_p {dst : Option Nat} {op : Op} {ty : TypeId} {pos : String} {after : Array Edge} (h : Stp P N ⟨dst, op, ty, pos, after, none⟩ s s' c) (next : AL P N dr ops Kn r s' (c :: acc)) : AL P N dr ops Kn (⟨dst, op, ty, pos, after, none⟩ :: r) s acc :=
  ⟨c, OpG.plain rfl h.1, h.2.1, by rw [h.2.2]; exact next⟩
theorem AL_g {dst : Option Nat} {op : Op} {ty : TypeId} {pos : String} {after : Array Edge} {j t : Nat} {b : Bool} (hj : gslot ops j = some t) (hb : lk s.t t = some (.one (.c (.bool b)))) (h : Stp P N ⟨dst, op, ty, pos, after, some (j, b)⟩ s s' c)
    (next : AL P N dr ops Kn r s' ({ c with rt := (t, .one (.c (.bool b))) :: c.rt } :: acc)) : AL P N dr ops Kn (⟨dst, op, ty, pos, after, some (j, b)⟩ :: r) s acc :=
  ⟨{ c with rt := (t, .one (.c (.bool b))) :: c.rt }, OpG.on rfl hj h.1, ⟨fun p hp => by
    rcases List.mem_cons.1 hp with rfl | hp
    · exact hb
    · exact h.2.1.1 p hp, h.2.1.2⟩, by
    show AL P N dr ops Kn r (c.upd s) _
    rw [h.2.2]; exact next⟩
theorem AL_o {d : Nat} {op : Op} {ty : TypeId} {pos : String} {after : Array Edge} {j t : Nat} {b b' : Bool} (hN : Nat.blt d N = true) (hj : gslot ops j = some t) (hb : lk s.t t = some (.one (.c (.bool b')))) (hne : (b' == b) = false)
    (next : AL P N dr ops Kn r ⟨(d, .tup []) :: s.t, s.l⟩ (⟨[(t, .one (.c (.bool b')))], [], [(d, .tup [])], [], []⟩ :: acc)) : AL P N dr ops Kn (⟨some d, op, ty, pos, after, some (j, b)⟩ :: r) s acc :=
  ⟨_, OpG.off rfl hj (by simpa using hne) rfl (blt_lt hN), ⟨fun p hp => by simp at hp; subst hp; exact hb, by simp, by simp⟩, next⟩
theorem AL_o0 {op : Op} {ty : TypeId} {pos : String} {after : Array Edge} {j t : Nat} {b b' : Bool} (hj : gslot ops j = some t) (hb : lk s.t t = some (.one (.c (.bool b')))) (hne : (b' == b) = false)
    (next : AL P N dr ops Kn r s (⟨[(t, .one (.c (.bool b')))], [], [], [], []⟩ :: acc)) : AL P N dr ops Kn (⟨none, op, ty, pos, after, some (j, b)⟩ :: r) s acc :=
  ⟨_, OpG.off0 rfl hj (by simpa using hne) rfl, ⟨fun p hp => by simp at hp; subst hp; exact hb, by simp, by simp⟩, next⟩
theorem AL_u {d : Nat} {op : Op} {ty : TypeId} {pos : String} {after : Array Edge} {j t : Nat} {b : Bool} (hN : Nat.blt d N = true) (hj : gslot ops j = some t) (hb : lk s.t t = some (.tup []))
    (next : AL P N dr ops Kn r ⟨(d, .tup []) :: s.t, s.l⟩ (⟨[(t, .tup [])], [], [(d, .tup [])], [], []⟩ :: acc)) : AL P N dr ops Kn (⟨some d, op, ty, pos, after, some (j, b)⟩ :: r) s acc :=
  ⟨_, OpG.un rfl hj rfl (blt_lt hN), ⟨fun p hp => by simp at hp; subst hp; exact hb, by simp, by simp⟩, next⟩
theorem AL_u0 {op : Op} {ty : TypeId} {pos : String} {after : Array Edge} {j t : Nat} {b : Bool} (hj : gslot ops j = some t) (hb : lk s.t t = some (.tup []))
    (next : AL P N dr ops Kn r s (⟨[(t, .tup [])], [], [], [], []⟩ :: acc)) : AL P N dr ops Kn (⟨none, op, ty, pos, after, some (j, b)⟩ :: r) s acc :=
  ⟨_, OpG.un0 rfl hj rfl, ⟨fun p hp => by simp at hp; subst hp; exact hb, by simp, by simp⟩, next⟩
theorem AL_nil (h : Kn s) : AL P N false ops Kn [] s acc := ⟨fun h => (by cases h), h⟩
theorem AL_nild (hc : chk ops acc.reverse = true) (h : Kn s) : AL P N true ops Kn [] s acc := ⟨fun _ => hc, h⟩
/-- A truth value gets a name. -/
theorem AL_b {d : Nat} {op : Op} {ty : TypeId} {pos : String} {after : Array Edge} {e : Bool} {rt : List (Nat × AVal)} {rl : List (Nat × Blk)} (h : Stp P N ⟨some d, op, ty, pos, after, none⟩ s ⟨(d, .one (.c (.bool e))) :: s.t, s.l⟩ ⟨rt, rl, [(d, .one (.c (.bool e)))], [], []⟩)
    (next : ∀ b, e = b → AL P N dr ops Kn r ⟨(d, .one (.c (.bool b))) :: s.t, s.l⟩ (⟨rt, rl, [(d, .one (.c (.bool b)))], [], []⟩ :: acc)) : AL P N dr ops Kn (⟨some d, op, ty, pos, after, none⟩ :: r) s acc :=
  AL_p h (next e rfl)
theorem AL_gb {d : Nat} {op : Op} {ty : TypeId} {pos : String} {after : Array Edge} {j t : Nat} {g : Bool} {e : Bool} {rt : List (Nat × AVal)} {rl : List (Nat × Blk)} (hj : gslot ops j = some t) (hb : lk s.t t = some (.one (.c (.bool g)))) (h : Stp P N ⟨some d, op, ty, pos, after, some (j, g)⟩ s ⟨(d, .one (.c (.bool e))) :: s.t, s.l⟩ ⟨rt, rl, [(d, .one (.c (.bool e)))], [], []⟩)
    (next : ∀ b, e = b → AL P N dr ops Kn r ⟨(d, .one (.c (.bool b))) :: s.t, s.l⟩ (⟨(t, .one (.c (.bool g))) :: rt, rl, [(d, .one (.c (.bool b)))], [], []⟩ :: acc)) : AL P N dr ops Kn (⟨some d, op, ty, pos, after, some (j, g)⟩ :: r) s acc :=
  AL_g hj hb h (next e rfl)
/-- A truth value is one or the other. -/
theorem AL_case {l : List Oper} (t : Nat) {b : Bool} (h : lk s.t t = some (.one (.c (.bool b)))) (ht : b = true → AL P N dr ops Kn l s acc) (hf : b = false → AL P N dr ops Kn l s acc) : AL P N dr ops Kn l s acc := by
  cases b
  · exact hf rfl
  · exact ht rfl
/-- A call where nothing is lent. -/
theorem x_call0 {d : Nat} {fo : Operand} {f : FuncId} {as : Array Operand} {ats : Array TypeId} {xs : List AVal} {res : AVal} {ty : TypeId} {pos : String} {after : Array Edge} {gd : Option (Nat × Bool)} (hN : Nat.blt d N = true) (hev : evo s.t fo = some (.one (.clo f [])))
    (hxs : evl s.t as.toList = some xs) (hac : AC P f xs [] res []) (hfl : flats xs = true) (hsr : closedIn [] res.ids = true) :
    Stp P N ⟨some d, .call { callee := .value fo, args := as, argTypes := ats }, ty, pos, after, gd⟩ s ⟨(d, res) :: s.t, s.l⟩ ⟨rdo fo (.one (.clo f [])) ++ rdl s.t as.toList, [], [(d, res)], [], []⟩ :=
  ⟨OpOK.call (L := []) (L' := []) rfl rfl (blt_lt hN) hev hxs hfl hac (by rw [show caps [] = [] from rfl, List.append_nil]; exact AllV.rf) (fun k hk => by cases hk) rfl rfl hsr,
    ⟨fun p hp => by
      rcases List.mem_append.1 hp with hp | hp
      · exact rdo_of hev p hp
      · exact (evl_ok (N := N) hxs).1 p hp, by simp, by simp⟩, rfl⟩
end walk
end Go.Proofs.Ytcgickpnckedcaa
