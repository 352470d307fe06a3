/- Lemmas of the walks, part 2. -/
import Derived.Test.YtkemjhlbokldhaaGreatP1
import Derived.Laws.Tables
import Derived.Laws.Strings
import Derived.Laws.StructEq
import Derived.Deep.RegionHeld3
import Derived.Shelf.Strings.Builder1
import Derived.Shelf.Strings.Builder2
import Derived.Shelf.Strings.OnBuilder
import Derived.Shelf.Small.Strs
import Derived.Shelf.Strings.BuilderF
import Derived.Shelf.Strings.Builder2Cap
import Derived.Shelf.Strings.Search1
import Derived.Shelf.Strings.Prefix
import Derived.Test.YtkemjhlbokldhaaGreatRows
import Derived.Great.FillDense
import Derived.Great.BuildSlice
import Derived.Deep.Upon
import Derived.Lib.AppendStr
import Derived.Lib.ConvBytes
import Derived.Lib.BufferRead
import Derived.Laws.CopyRow
import Derived.Laws.NewBlocks
import Derived.Lib.AppendZerosOnto
import Derived.Lib.Overlaps
import Derived.Lib.SliceRun
import Derived.Lib.JoinLaws
import Derived.Shelf.Spec.SlicesInsert
import Derived.Deep.RegionLaw
namespace Go.Proofs.YtkemjhlbokldhaaGreat
open Go.RowKit
set_option linter.unusedVariables false

def Dt {β : Type} (f : Nat → β) (k : Nat) (v : β) : Nat → β := fun j => if j = k then v else f j
theorem setAt_self {β : Type} {f : Nat → β} {k : Nat} {v : β} : Dt f k v k = v := if_pos rfl
theorem GN {β : Type} {f : Nat → β} {k j : Nat} {v : β} (h : j ≠ k) : Dt f k v j = f j := if_neg h
theorem key_ne {l : Locs} {j k : Nat} (hj : lk l j ≠ none) (hk : lk l k = none) : j ≠ k := fun e => hj (e ▸ hk)
theorem one_of_wf {v : Value} (h : wfV v) : v.oneCell' = true := by
 cases v <;> first | rfl | exact h.elim
def Dm (l : Locs) : Cell → Bool
 | .c _ => true
 | .sl _ _ => true
 | .own k => match lkl l k with | some (.arr _ _ _ _) => true | _ => false
 | .ptr k _ => match lkl l k with | some (.box _) => true | _ => false
 | .ep _ _ _ => true
 | .clo _ [] => true
 | .slo _ _ _ => true
 | .epo _ _ _ _ => true
 | .rx _ _ _ _ _ => true
 | .en _ _ => true
 | _ => false
theorem one_of_solid {g : Gh} {l : Locs} {w : World} (m : MemR g l w) {v : Value} {x : Cell} (hs : Dm l x = true) (h : CellR g l w v x) : v.oneCell' = true := by
 cases x with
 | c u => rw [h.1]; exact one_of_wf h.2
 | sl e xs => obtain ⟨a, n, cap, bs, rfl, _⟩ := h; rfl
 | own k =>
   simp only [Dm] at hs
   split at hs
   · rename_i T e xs d hk
     rw [h _ _ _ _ _ hk]
     rcases m.arr k _ _ _ _ _ hk with ⟨_, h1, _⟩ | ⟨_, _, _, h1, _⟩ <;> rw [h1] <;> rfl
   · cases hs
 | ptr k off =>
   simp only [Dm] at hs
   split at hs
   · rename_i cs hk; rw [h cs hk]; rfl
   · cases hs
 | optr k i off => cases hs
 | ep e x off => obtain ⟨gb, o, cs, b, rfl, _⟩ := h; rfl
 | clo f ks =>
   cases ks with
   | nil => rw [h fun k hk => by cases hk]; rfl
   | cons _ _ => cases hs
 | any => cases hs
 | sn e xs => cases hs
 | slo B e xs => obtain ⟨a, n, cap, bs, rfl, _⟩ := h; rfl
 | epo B e x off => obtain ⟨gb, o, cs, b, rfl, _⟩ := h; rfl
 | osl k lo n => cases hs
 | rx e x vs b j => exact h.1.2
 | en e x => obtain ⟨b, h1, _⟩ := h; exact h1
 | hd k V => cases hs
def rlC (l : Locs) (xs : List Cell) : List (Nat × Blk) := (xs.flatMap Cell.ids).filterMap fun k => match lkl l k with | some b => some (k, b) | none => none
theorem HY {l l' : Locs} {xs : List Cell} (h : ∀ p ∈ rlC l xs, lkl l' p.1 = some p.2) {x : Cell} (hx : x ∈ xs) {k : Nat} (hk : k ∈ x.ids) {b : Blk} (hb : lkl l k = some b) : lkl l' k = some b :=
 h (k, b) (List.mem_filterMap.2 ⟨k, List.mem_flatMap.2 ⟨x, hx, hk⟩, by rw [hb]⟩)
theorem Fy {l : Locs} {xs : List Cell} : ∀ p ∈ rlC l xs, lkl l p.1 = some p.2 := fun p hp => by
 obtain ⟨k, _, h2⟩ := List.mem_filterMap.1 hp
 split at h2
 · rename_i b hb; cases h2; exact hb
 · cases h2
theorem GK {l l' : Locs} {xs : List Cell} (h : ∀ p ∈ rlC l xs, lkl l' p.1 = some p.2) {x : Cell} (hx : x ∈ xs) (hs : Dm l x = true) : Dm l' x = true := by
 cases x with
 | own k =>
   simp only [Dm] at hs ⊢
   split at hs
   · rename_i T e zs d hk; rw [HY h hx (by simp [Cell.ids]) hk]
   · cases hs
 | ptr k off =>
   simp only [Dm] at hs ⊢
   split at hs
   · rename_i cs hk; rw [HY h hx (by simp [Cell.ids]) hk]
   · cases hs
 | clo f ks => cases ks <;> first | rfl | cases hs
 | _ => first | rfl | cases hs

section
variable {g : Gh} {l : Locs} {w : World}
theorem box_new (m : MemR g l w) {k : Nat} (hk : lk l k = none) (hki : k ∉ l.ids) {vs : List Value} {cs : List Cell} (T : TypeId) (h : All2 (CellR g l w) vs cs) (hkc : k ∉ cs.flatMap Cell.ids) :
   MemR { g with ρ := Dt g.ρ k w.heap.size } ((k, some (.box cs)) :: l) (w.alloc (.cells vs.toArray T)) ∧
   (∀ K, Step K g l w { g with ρ := Dt g.ρ k w.heap.size } ((k, some (.box cs)) :: l) (w.alloc (.cells vs.toArray T))) ∧
   (∀ b, g.I b → (w.alloc (.cells vs.toArray T)).heap[b]? = w.heap[b]?) ∧ ∀ j, j ≠ k → okK g l { g with ρ := Dt g.ρ k w.heap.size } ((k, some (.box cs)) :: l) j := by
 have hi : ∀ b, g.I b → (w.alloc (.cells vs.toArray T)).heap[b]? = w.heap[b]? := fun b hb => Below.heap_alloc w _ b (m.ilt b hb)
 have hs : w.heap.size ≤ (w.alloc (.cells vs.toArray T)).heap.size := by simp
 have hu : ∀ j, j ≠ k → lkl ((k, some (.box cs)) :: l) j = none ∨ Untouched g l w { g with ρ := Dt g.ρ k w.heap.size } ((k, some (.box cs)) :: l) (w.alloc (.cells vs.toArray T)) j := fun j hj =>
   .inr ⟨Bs (Ne.symm hj), GN hj, rfl, rfl, fun b hb hl => ⟨Below.heap_alloc w _ _ (m.lt hb hl), m.notI hb hl⟩⟩
 have ok : ∀ j, j ≠ k → okK g l { g with ρ := Dt g.ρ k w.heap.size } ((k, some (.box cs)) :: l) j := fun j hj => okK.same (Bs (Ne.symm hj)) (GN hj) rfl
 refine ⟨m.set1 k hi (fun _ h => h) hs (fun b hb => Nat.lt_of_lt_of_le (m.ilt b hb) hs) hu (.inr hki) (fun cs' hc => ?_) (fun α T' e xs d hc => ?_) (fun j b b' hj h1 h2 h3 l1 l2 => ?_) (fun α T' e xs hc => ?_) (fun j α β T' U e f xs ys hj h1 h2 h3 => ?_), fun K => ?_, hi, ok⟩
 · rw [Bb] at hc; cases hc
   refine ⟨vs.toArray, T, by rw [show ({ g with ρ := Dt g.ρ k w.heap.size } : Gh).ρ k = w.heap.size from setAt_self]; exact heap_alloc_new w _, ?_, ?_⟩
   · exact h.mono fun a x hx hr => hr.step hi (fun _ h => h) hs fun i hii => ok i fun e => hkc (List.mem_flatMap.2 ⟨x, hx, e ▸ hii⟩)
   · rw [show ({ g with ρ := Dt g.ρ k w.heap.size } : Gh).ρ k = w.heap.size from setAt_self]
     exact fun hI => absurd (m.ilt _ hI) (by omega)
 · rw [Bb] at hc; cases hc
 · rw [show ({ g with ρ := Dt g.ρ k w.heap.size } : Gh).ρ k = w.heap.size from setAt_self]
   exact Nat.ne_of_lt (m.lt h2 l1)
 · rw [Bb] at hc; cases hc
 · rw [Bb] at h3; cases h3
 · refine ⟨rfl, rfl, rfl, hs, fun b hb _ => Below.heap_alloc w _ b hb, fun _ h => h, fun _ h => .inl h, Ic k hu (fun b hb hl => .inr ?_) (fun α T' e xs hc => ?_), fun j hj hn => ?_⟩
   · rw [show ({ g with ρ := Dt g.ρ k w.heap.size } : Gh).ρ k = w.heap.size from setAt_self]; exact Nat.le_refl _
   · rw [Bb] at hc; cases hc
   · have hjk := key_ne hn hk
     exact ⟨by rw [B6 (Ne.symm hjk)]; exact hn, ok j hjk, fun cs' hc => ⟨cs', by rw [Bs (Ne.symm hjk)]; exact hc⟩⟩
theorem box_set (m : MemR g l w) {k : Nat} {cs cs' : List Cell} (hk : lkl l k = some (.box cs)) {vs vs' : List Value} {T : TypeId} (hh : w.heap[g.ρ k]? = some (.cells vs.toArray T (0, 0))) (h : All2 (CellR g l w) vs' cs') :
   MemR g ((k, some (.box cs')) :: l) (w.setRow (g.ρ k) vs'.toArray) ∧ (∀ K, Step K g l w g ((k, some (.box cs')) :: l) (w.setRow (g.ρ k) vs'.toArray)) ∧
   (∀ b, g.I b → (w.setRow (g.ρ k) vs'.toArray).heap[b]? = w.heap[b]?) ∧ ∀ j, okK g l g ((k, some (.box cs')) :: l) j := by
 have nI := m.notI hk trivial
 have hi : ∀ b, g.I b → (w.setRow (g.ρ k) vs'.toArray).heap[b]? = w.heap[b]? := fun b hb => setRow_other w _ b _ (fun e => nI (e ▸ hb))
 have hs : w.heap.size ≤ (w.setRow (g.ρ k) vs'.toArray).heap.size := by simp
 have ok : ∀ j, okK g l g ((k, some (.box cs')) :: l) j := fun j => by
   by_cases e : j = k
   · subst e
     exact ⟨fun _ _ => ⟨rfl, cs, hk⟩, fun α T e xs d hc => by rw [Bb] at hc; cases hc⟩
   · exact okK.same (Bs (Ne.symm e)) rfl rfl
 have hu : ∀ j, j ≠ k → lkl ((k, some (.box cs')) :: l) j = none ∨ Untouched g l w g ((k, some (.box cs')) :: l) (w.setRow (g.ρ k) vs'.toArray) j := fun j hj =>
   .inr ⟨Bs (Ne.symm hj), rfl, rfl, rfl, fun b hb hl => ⟨setRow_other w _ _ _ (m.dis j k b _ hj hb hk hl trivial), m.notI hb hl⟩⟩
 refine ⟨m.set1 k hi (fun _ h => h) hs (fun b hb => Nat.lt_of_lt_of_le (m.ilt b hb) hs) hu (.inl (ok k)) (fun cs2 hc => ?_) (fun α T' e xs d hc => ?_) (fun j b b' hj h1 h2 h3 l1 l2 => m.dis j k b _ hj h2 hk l1 trivial) (fun α T' e xs hc => ?_) (fun j α β T' U e f xs ys hj h1 h2 h3 => ?_), fun K => ?_, hi, ok⟩
 · rw [Bb] at hc; cases hc
   exact ⟨vs'.toArray, T, setRow_heap w _ _ _ T _ hh, h.mono fun a x hx hr => hr.step hi (fun _ h => h) hs fun i _ => ok i, nI⟩
 · rw [Bb] at hc; cases hc
 · rw [Bb] at hc; cases hc
 · rw [Bb] at h3; cases h3
 · refine ⟨rfl, rfl, rfl, hs, fun b hb hn => setRow_other w _ b _ (hn k _ hk trivial), fun _ h => h, fun _ h => .inl h, Ic k hu (fun b hb hl => .inl (OwnB.of_live hk trivial)) (fun α T' e xs hc => ?_), fun j hj hn => ⟨?_, ok j, fun cs2 hc => ?_⟩⟩
   · rw [Bb] at hc; cases hc
   · by_cases e : j = k
     · subst e; rw [Bv]; simp
     · rw [B6 (Ne.symm e)]; exact hn
   · by_cases e : j = k
     · subst e; exact ⟨cs', Bb⟩
     · exact ⟨cs2, by rw [Bs (Ne.symm e)]; exact hc⟩
end

section ops
variable {P : Program} {N : Nat} {s : St} {d : Nat} {ty : TypeId} {pos : String} {after : Array Edge} {gd : Option (Nat × Bool)}
def FZ (k : Nat) (ids : List Nat) : Bool := ids.all fun i => !Nat.beq i k
theorem Er {k : Nat} {ids : List Nat} (h : FZ k ids = true) : k ∉ ids := fun hm => by
 have := List.all_eq_true.1 h k hm
 simp at this
def AVal.cells : AVal → List Cell
 | .one x => [x]
 | .agg xs => xs
 | .tup _ => []
theorem Gb {g : Gh} {l : Locs} {w : World} {v : Value} {X : AVal} (hs : X.cells.all (Dm l) = true) (m : MemR g l w) (h : VR g l w v X) (hf : X.flat = true) : All2 (CellR g l w) v.cells.toList X.cells := by
 cases X with
 | one x =>
   simp only [AVal.cells, List.all_cons, List.all_nil, Bool.and_true] at hs
   have h1 := one_of_solid m hs h
   have : v.cells.toList = [v] := by cases v <;> first | rfl | cases h1
   rw [this]; exact ⟨h, trivial⟩
 | agg xs =>
   obtain ⟨vs, rfl, h2⟩ := h
   exact h2
 | tup xs => cases hf
theorem Dr {T : TypeId} {x : Operand} {X : AVal} (k : Nat) (hN : Nat.blt d N = true) (h : evo s.t x = some X) (hf : X.flat = true) (hs : X.cells.all (Dm s.l) = true) (hk : lk s.l k = none) (hi : FZ k s.ids = true) (hX : FZ k (X.cells.flatMap Cell.ids) = true) :
   Stp P N ⟨some d, .box T x, ty, pos, after, gd⟩ s ⟨(d, .one (.ptr k 0)) :: s.t, (k, some (.box X.cells)) :: s.l⟩ ⟨rdo x X, rlC s.l X.cells, [(d, .one (.ptr k 0))], [(k, some (.box X.cells))], [k]⟩ := by
 refine ⟨fun K g s' a w hp r => ?_, ⟨Cg h, Fy, fun j hj => by simp at hj; subst hj; exact ⟨hk, Er hi⟩⟩, rfl⟩
 obtain ⟨p1, p2, p3⟩ := hp
 have hv := B4 r (BC h) p1
 have hs' : X.cells.all (Dm s'.l) = true := List.all_eq_true.2 fun x hx => GK p2 hx (List.all_eq_true.1 hs x hx)
 obtain ⟨n1, n2⟩ := p3 k (by simp)
 obtain ⟨b1, b2, b3, b4⟩ := box_new r.mem n1 (fun h => n2 (List.mem_append_right _ h)) T (Gb hs' r.mem hv hf) (Er hX)
 unfold Oper.wp
 have hrun : (execOp a.eval ⟨some d, .box T x, ty, pos, after, gd⟩).run P w = .ok (.value (.pointer (some ⟨w.heap.size, 0, none⟩))) (w.alloc (.cells (a.eval x).cells T)) := by
   simp only [execOp, Instr.box, newVar, newRow, newObj, Sem.run_bind, Sem.run_pure]
   rfl
 rw [hrun, Oper.upon_value]
 have e1 : (a.eval x).cells.toList.toArray = (a.eval x).cells := by simp
 rw [e1] at b1 b2 b3
 refine ⟨{ g with ρ := Dt g.ρ k w.heap.size }, r.next (DJ hN) b3 (fun _ h => h) (b2 K).size (fun j hj => b4 j fun e => n2 (e ▸ hj)) (fun cs hc => ?_) b1, b2 K⟩
 rw [show ({ g with ρ := Dt g.ρ k w.heap.size } : Gh).ρ k = w.heap.size from setAt_self]
def zeroT (P : Program) (T : TypeId) : Option Value := match P.info? T with | some i => i.zero | none => none
theorem x_alloc {T : TypeId} {z : Value} {X : AVal} (k : Nat) (hN : Nat.blt d N = true) (hz : zeroT P T = some z) (hX : cval z = some X) (hk : lk s.l k = none) (hi : FZ k s.ids = true) (hXi : X.cells.flatMap Cell.ids = []) :
   Stp P N ⟨some d, .alloc T, ty, pos, after, gd⟩ s ⟨(d, .one (.ptr k 0)) :: s.t, (k, some (.box X.cells)) :: s.l⟩ ⟨[], [], [(d, .one (.ptr k 0))], [(k, some (.box X.cells))], [k]⟩ := by
 refine ⟨fun K g s' a w hp r => ?_, ⟨by simp, by simp, fun j hj => by simp at hj; subst hj; exact ⟨hk, Er hi⟩⟩, rfl⟩
 obtain ⟨p1, p2, p3⟩ := hp
 have hv : VR g s'.l w z X := cval_ok hX
 obtain ⟨n1, n2⟩ := p3 k (by simp)
 have hall : All2 (CellR g s'.l w) z.cells.toList X.cells := by
   unfold cval at hX
   split at hX
   · rename_i vs
     split at hX
     · rename_i cs hc; cases hX; exact I7 hc
     · cases hX
   · split at hX
     · rename_i hb
       cases hX
       have h1 := one_of_wf (GG hb)
       have : z.cells.toList = [z] := by cases z <;> first | rfl | cases h1
       rw [this]; exact ⟨⟨rfl, GG hb⟩, trivial⟩
     · cases hX
 obtain ⟨b1, b2, b3, b4⟩ := box_new r.mem n1 (fun h => n2 (List.mem_append_right _ h)) T hall (by rw [hXi]; simp)
 unfold Oper.wp
 have hrun : (execOp a.eval ⟨some d, .alloc T, ty, pos, after, gd⟩).run P w = .ok (.value (.pointer (some ⟨w.heap.size, 0, none⟩))) (w.alloc (.cells z.cells T)) := by
   unfold zeroT at hz
   split at hz
   · rename_i i hi
     simp only [execOp, Instr.alloc, Go.zeroValue, typeInfo, newVar, newRow, newObj, Sem.run_bind, Sem.run_pure, program, Sem.run, hi, hz, Result.andThen_ok]
     rfl
   · cases hz
 rw [hrun, Oper.upon_value]
 have e1 : z.cells.toList.toArray = z.cells := by simp
 rw [e1] at b1 b2 b3
 refine ⟨{ g with ρ := Dt g.ρ k w.heap.size }, r.next (DJ hN) b3 (fun _ h => h) (b2 K).size (fun j hj => b4 j fun e => n2 (e ▸ hj)) (fun cs hc => ?_) b1, b2 K⟩
 rw [show ({ g with ρ := Dt g.ρ k w.heap.size } : Gh).ρ k = w.heap.size from setAt_self]

theorem Aw {T : TypeId} (z : Value) {X : AVal} (k : Nat) (hN : Nat.blt d N = true) (hz : zeroT P T = some z) (hX : cval z = some X) (hk : lk s.l k = none) (hi : FZ k s.ids = true) (hXi : X.cells.flatMap Cell.ids = []) : Stp P N ⟨some d, .alloc T, ty, pos, after, gd⟩ s ⟨(d, .one (.ptr k 0)) :: s.t, (k, some (.box X.cells)) :: s.l⟩ ⟨[], [], [(d, .one (.ptr k 0))], [(k, some (.box X.cells))], [k]⟩ := x_alloc (z := z) k hN hz hX hk hi hXi
def putC : Nat → List Cell → List Cell → Option (List Cell)
 | 0, [], l => some l
 | 0, _ :: _, [] => none
 | 0, x :: xs, _ :: l => match putC 0 xs l with | some m => some (x :: m) | none => none
 | _ + 1, _, [] => none
 | n + 1, xs, c :: l => match putC n xs l with | some m => some (c :: m) | none => none
theorem putC_all {R : Value → Cell → Prop} : ∀ {n : Nat} {us vs : List Value} {xs cs ds : List Cell}, putC n xs cs = some ds → All2 R us xs → All2 R vs cs → n + us.length ≤ vs.length ∧ All2 R (vs.take n ++ us ++ vs.drop (n + us.length)) ds
 | 0, [], vs, [], cs, ds, h, _, hv => by
   have h0 : putC 0 [] cs = some cs := by cases cs <;> rfl
   rw [h0] at h; cases h; exact ⟨by simp, by simpa using hv⟩
 | 0, u :: us, [], x :: xs, [], ds, h, _, _ => by cases h
 | 0, u :: us, v :: vs, x :: xs, c :: cs, ds, h, hu, hv => by
   simp only [putC] at h
   split at h
   · rename_i m hm
     cases h
     obtain ⟨h1, h2⟩ := putC_all hm hu.2 hv.2
     refine ⟨by simp only [List.length_cons]; omega, ?_⟩
     simp only [List.take_zero, List.nil_append, Nat.zero_add, List.length_cons, List.drop_succ_cons] at h2 ⊢
     exact ⟨hu.1, h2⟩
   · cases h
 | n + 1, us, [], xs, [], ds, h, _, _ => by cases h
 | n + 1, us, v :: vs, xs, c :: cs, ds, h, hu, hv => by
   simp only [putC] at h
   split at h
   · rename_i m hm
     cases h
     obtain ⟨h1, h2⟩ := putC_all hm hu hv.2
     refine ⟨by simp only [List.length_cons]; omega, ?_⟩
     rw [show n + 1 + us.length = n + us.length + 1 by omega, List.take_succ_cons, List.drop_succ_cons]
     exact ⟨hv.1, h2⟩
   · cases h
def sizeT (P : Program) (T : TypeId) : Option Nat := match P.info? T with | some i => some i.size | none => none
theorem x_store {T n k off : Nat} {x y : Operand} {X : AVal} {cs cs' : List Cell} (h : evo s.t x = some (.one (.ptr k off))) (hl : lkl s.l k = some (.box cs)) (h2 : evo s.t y = some X) (hf : X.flat = true) (hT : sizeT P T = some n) (hn : X.cells.length = n) (hs : X.cells.all (Dm s.l) = true) (hp : putC off X.cells cs = some cs') :
   Stp P N ⟨none, .store T x y, ty, pos, after, gd⟩ s ⟨s.t, (k, some (.box cs')) :: s.l⟩ ⟨rdo x (.one (.ptr k off)) ++ rdo y X, (k, .box cs) :: rlC s.l X.cells, [], [(k, some (.box cs'))], []⟩ := by
 refine ⟨fun K g s' a w hpre r => ?_, ⟨FU h h2, fun p hp => by
   rcases List.mem_cons.1 hp with rfl | hp
   · exact hl
   · exact Fy p hp, by simp⟩, rfl⟩
 obtain ⟨p1, p2, _⟩ := hpre
 have hk : lkl s'.l k = some (.box cs) := p2 (k, .box cs) (List.mem_cons_self ..)
 have ha : a.eval x = .pointer (some ⟨g.ρ k, off, none⟩) := (B4 r (BC h) fun p hm => p1 p (List.mem_append_left _ hm) : CellR g s'.l w _ (.ptr k off)) cs hk
 have hv := B4 r (BC h2) fun p hm => p1 p (List.mem_append_right _ hm)
 have hs' : X.cells.all (Dm s'.l) = true := List.all_eq_true.2 fun z hz => GK (fun p hp => p2 p (List.mem_cons_of_mem _ hp)) hz (List.all_eq_true.1 hs z hz)
 have hall := Gb hs' r.mem hv hf
 obtain ⟨vs, t, b1, b2, b3⟩ := r.mem.box k cs hk
 obtain ⟨c1, c2⟩ := putC_all hp hall b2
 obtain ⟨d1, d2, d3, d4⟩ := box_set r.mem hk (vs := vs.toList) (T := t) (by simpa using b1) c2
 have one : ∀ v ∈ (a.eval y).cells.toList, v.oneCell' = true := fun v hv => by
   obtain ⟨i, hi, rfl⟩ := List.getElem_of_mem hv
   have hx : X.cells[i]? = some (X.cells[i]'(by rw [← hall.len]; exact hi)) := List.getElem?_eq_getElem _
   obtain ⟨u, e1, e2⟩ := hall.get hx
   rw [List.getElem?_eq_getElem hi] at e1
   cases e1
   exact one_of_solid r.mem (List.all_eq_true.1 hs' _ (List.getElem_mem _)) e2
 have hst := run_storeCells_at P (g.ρ k) off t (a.eval y).cells.toList 0 vs w b1 (by simpa using c1) one
 have hlen : (a.eval y).cells.size = n := by rw [← hn]; simpa using hall.len
 unfold Oper.wp
 have hrun : (execOp a.eval ⟨none, .store T x y, ty, pos, after, gd⟩).run P w = .ok .skip (w.setRow (g.ρ k) (vs.toList.take off ++ (a.eval y).cells.toList ++ vs.toList.drop (off + (a.eval y).cells.toList.length)).toArray) := by
   unfold sizeT at hT
   split at hT
   · rename_i i hi
     cases hT
     simp only [execOp, Instr.storeAt, ha, Instr.sureAddr, storeVar, sizeOf, typeInfo, Sem.run_bind, Sem.run_pure, program, Sem.run, hi, Result.andThen_ok, hlen, ne_eq, not_true_eq_false, if_false]
     simp only [Nat.add_zero] at hst
     rw [hst]; rfl
   · cases hT
 rw [hrun, Oper.upon_skip]
 exact ⟨g, r.next0 d3 (fun _ h => h) (d2 K).size (fun j _ => d4 j) d1, d2 K⟩
theorem Ap {T k off : Nat} (n : Nat) {x y : Operand} {X : AVal} {cs cs' : List Cell} (h : evo s.t x = some (.one (.ptr k off))) (hl : lkl s.l k = some (.box cs)) (h2 : evo s.t y = some X) (hf : X.flat = true) (hT : sizeT P T = some n) (hn : X.cells.length = n) (hs : X.cells.all (Dm s.l) = true) (hp : putC off X.cells cs = some cs') : Stp P N ⟨none, .store T x y, ty, pos, after, gd⟩ s ⟨s.t, (k, some (.box cs')) :: s.l⟩ ⟨rdo x (.one (.ptr k off)) ++ rdo y X, (k, .box cs) :: rlC s.l X.cells, [], [(k, some (.box cs'))], []⟩ := x_store (n := n) h hl h2 hf hT hn hs hp
end ops

section walk
variable {P : Program} {N : Nat} {dr : Bool} {ops : Array Oper} {Kn : St → Prop} {r : List Oper} {s s' : St} {acc : List Cert} {c : Cert}
theorem Az {dst : Option Nat} {op : Op} {ty : TypeId} {pos : String} {after : Array Edge} (h : Stp P N ⟨dst, op, ty, pos, after, none⟩ s s' c) (next : AL P N dr ops Kn r s' (c :: acc)) : AL P N dr ops Kn (⟨dst, op, ty, pos, after, none⟩ :: r) s acc :=
 ⟨c, OpG.plain rfl h.1, h.2.1, by rw [h.2.2]; exact next⟩
theorem AB {dst : Option Nat} {op : Op} {ty : TypeId} {pos : String} {after : Array Edge} {j t : Nat} {b : Bool} (hj : FP ops j = some t) (hb : lk s.t t = some (.one (.c (.bool b)))) (h : Stp P N ⟨dst, op, ty, pos, after, some (j, b)⟩ s s' c)
   (next : AL P N dr ops Kn r s' ({ c with rt := (t, .one (.c (.bool b))) :: c.rt } :: acc)) : AL P N dr ops Kn (⟨dst, op, ty, pos, after, some (j, b)⟩ :: r) s acc :=
 ⟨{ c with rt := (t, .one (.c (.bool b))) :: c.rt }, OpG.on rfl hj h.1, ⟨fun p hp => by
   rcases List.mem_cons.1 hp with rfl | hp
   · exact hb
   · exact h.2.1.1 p hp, h.2.1.2⟩, by
   show AL P N dr ops Kn r (c.upd s) _
   rw [h.2.2]; exact next⟩
theorem A3 {d : Nat} {op : Op} {ty : TypeId} {pos : String} {after : Array Edge} {j t : Nat} {b b' : Bool} (hN : Nat.blt d N = true) (hj : FP ops j = some t) (hb : lk s.t t = some (.one (.c (.bool b')))) (hne : (b' == b) = false)
   (next : AL P N dr ops Kn r ⟨(d, .tup []) :: s.t, s.l⟩ (⟨[(t, .one (.c (.bool b')))], [], [(d, .tup [])], [], []⟩ :: acc)) : AL P N dr ops Kn (⟨some d, op, ty, pos, after, some (j, b)⟩ :: r) s acc :=
 ⟨_, OpG.off rfl hj (by simpa using hne) rfl (DJ hN), ⟨fun p hp => by simp at hp; subst hp; exact hb, by simp, by simp⟩, next⟩
theorem Dc {d : Nat} {op : Op} {ty : TypeId} {pos : String} {after : Array Edge} {j t : Nat} {b : Bool} (hN : Nat.blt d N = true) (hj : FP ops j = some t) (hb : lk s.t t = some (.tup []))
   (next : AL P N dr ops Kn r ⟨(d, .tup []) :: s.t, s.l⟩ (⟨[(t, .tup [])], [], [(d, .tup [])], [], []⟩ :: acc)) : AL P N dr ops Kn (⟨some d, op, ty, pos, after, some (j, b)⟩ :: r) s acc :=
 ⟨_, OpG.un rfl hj rfl (DJ hN), ⟨fun p hp => by simp at hp; subst hp; exact hb, by simp, by simp⟩, next⟩
theorem A2 (h : Kn s) : AL P N false ops Kn [] s acc := ⟨fun h => (by cases h), h⟩
theorem Ad {K : List Nat} {Q : Exit → St → Prop} {id : Nat} {l : List Oper} {y : Code} (h : AL P N false l.toArray (AW P N K y Kn Q) l s []) : AL P N false ops (AW P N K (.seq (.region id l.toArray false) y) Kn Q) [] s acc := A2 (A8 (AG h))
theorem Ae {K : List Nat} {Q : Exit → St → Prop} (h : Q .ret s) : AL P N false ops (AW P N K .ret Kn Q) [] s acc := A2 (AU h)
theorem Bj (hc : chk ops acc.reverse = true) (h : Kn s) : AL P N true ops Kn [] s acc := ⟨fun _ => hc, h⟩
theorem Bd {d : Nat} {op : Op} {ty : TypeId} {pos : String} {after : Array Edge} {e : Bool} {rt : List (Nat × AVal)} {rl : List (Nat × Blk)} (h : Stp P N ⟨some d, op, ty, pos, after, none⟩ s ⟨(d, .one (.c (.bool e))) :: s.t, s.l⟩ ⟨rt, rl, [(d, .one (.c (.bool e)))], [], []⟩)
   (next : ∀ b, e = b → AL P N dr ops Kn r ⟨(d, .one (.c (.bool b))) :: s.t, s.l⟩ (⟨rt, rl, [(d, .one (.c (.bool b)))], [], []⟩ :: acc)) : AL P N dr ops Kn (⟨some d, op, ty, pos, after, none⟩ :: r) s acc :=
 Az h (next e rfl)
theorem Bh {d : Nat} {op : Op} {ty : TypeId} {pos : String} {after : Array Edge} {j t : Nat} {g : Bool} {e : Bool} {rt : List (Nat × AVal)} {rl : List (Nat × Blk)} (hj : FP ops j = some t) (hb : lk s.t t = some (.one (.c (.bool g)))) (h : Stp P N ⟨some d, op, ty, pos, after, some (j, g)⟩ s ⟨(d, .one (.c (.bool e))) :: s.t, s.l⟩ ⟨rt, rl, [(d, .one (.c (.bool e)))], [], []⟩)
   (next : ∀ b, e = b → AL P N dr ops Kn r ⟨(d, .one (.c (.bool b))) :: s.t, s.l⟩ (⟨(t, .one (.c (.bool g))) :: rt, rl, [(d, .one (.c (.bool b)))], [], []⟩ :: acc)) : AL P N dr ops Kn (⟨some d, op, ty, pos, after, some (j, g)⟩ :: r) s acc :=
 AB hj hb h (next e rfl)
theorem AS {d : Nat} {fo : Operand} {f : FuncId} {ars : Array Operand} {ats : Array TypeId} {xs : List AVal} {res : AVal} {ty : TypeId} {pos : String} {after : Array Edge} {gd : Option (Nat × Bool)} (hN : Nat.blt d N = true) (hev : evo s.t fo = some (.one (.clo f [])))
   (hxs : evl s.t ars.toList = some xs) (hac : AC P f xs [] res []) (hfl : DC xs = true) (hsr : CO [] res.ids = true) :
   Stp P N ⟨some d, .call { callee := .value fo, args := ars, argTypes := ats }, ty, pos, after, gd⟩ s ⟨(d, res) :: s.t, s.l⟩ ⟨rdo fo (.one (.clo f [])) ++ rdl s.t ars.toList, [], [(d, res)], [], []⟩ :=
 ⟨OpOK.call (L := []) (L' := []) rfl rfl (DJ hN) hev hxs hfl hac (by rw [show caps [] = [] from rfl, List.append_nil]; exact AllV.rf) (fun k hk => by cases hk) rfl rfl hsr,
   ⟨fun p hp => by
     rcases List.mem_append.1 hp with hp | hp
     · exact Cg hev p hp
     · exact (EG (N := N) hxs).1 p hp, by simp, by simp⟩, rfl⟩
end walk
end Go.Proofs.YtkemjhlbokldhaaGreat

namespace Go.Proofs.YtkemjhlbokldhaaGreat
open Go.RowKit
set_option linter.unusedVariables false

def GA (v : Val) : List Cell := [.c (.int .i64 v.n), .c (.string v.s)]
instance : CellsOf valE GA := ⟨fun {w vs x b} => by
 rw [valE_rep]
 constructor
 · rintro ⟨rfl, h1, h2, rfl⟩; exact ⟨[], [], rfl, ⟨rfl, h1, rfl⟩, [], [], rfl, ⟨rfl, h2, rfl⟩, rfl⟩
 · intro h
   match vs, h with
   | [u, v], ⟨b1, b2, hb, ⟨h1, h2, h3⟩, b3, b4, hb', ⟨h4, h5, h6⟩, h7⟩ =>
     simp only [FR] at h7
     subst h3; subst h6; subst h7; subst h1; subst h4; subst hb'
     exact ⟨rfl, h2, h5, by simpa using hb⟩⟩
def Dq (x y : Val) : Bool := x.n == y.n && x.s == y.s
theorem sameVal_iff {x y : Val} : Dq x y = true ↔ x = y := by
 obtain ⟨n, ⟨⟨s⟩⟩⟩ := x
 obtain ⟨m, ⟨⟨r⟩⟩⟩ := y
 simp [Dq, beq_toListBytes, ByteArray.toList_eq]
instance : DecidableEq Val := fun x y => decidable_of_iff _ sameVal_iff
theorem equalIn_val (x y : Val) (w : World) : (Op.equalIn 10000 44 (.agg #[.int .i64 x.n, .string x.s]) (.agg #[.int .i64 y.n, .string y.s])).run Tryz.prog w = .ok (Dq x y) w := by
 have hS : Tryz.prog.underlying 44 = some (.struct (Tryz.prog.fieldsOf 44)) := by kernel_rfl
 have hp : Tryz.prog.stoodInHeld 44 = false := by kernel_rfl
 rw [show (10000 : Nat) = 9999 + 1 from rfl, run_equalIn_agg w 9999 44 _ _ hS hp]
 simp only [Program.fieldsOf, Tryz.underlying44]
 go_simp
 unfold Dq
 rw [beq_toListBytes]
 by_cases h1 : x.n = y.n <;> by_cases h2 : x.s.toList = y.s.toList <;> simp [h1, h2]
theorem guard_val (op : BinOp) (x y : Operand) (a b : Val) (w : World) : (eqGuard op 44 x y (.agg #[.int .i64 a.n, .string a.s]) (.agg #[.int .i64 b.n, .string b.s])).run Tryz.prog w = .ok () w := by
 have hg : Tryz.prog.eqGuardType Tryz.prog.depth 44 = false := by kernel_rfl
 unfold eqGuard
 cases op <;> simp [hg]
theorem x_val2 {P : Program} {N : Nat} {s : St} {d : Nat} {ty : TypeId} {pos : String} {after : Array Edge} {gd : Option (Nat × Bool)} {op : BinOp} {T T' : TypeId} {x y : Operand} {a b : Val} {v : Bool} (hN : Nat.blt d N = true) (h : evo s.t x = some (.agg (GA a))) (h2 : evo s.t y = some (.agg (GA b)))
   (hr : ∀ w, ((do eqGuard op T x y (.agg #[.int .i64 a.n, .string a.s]) (.agg #[.int .i64 b.n, .string b.s]); binOp op T (.agg #[.int .i64 a.n, .string a.s]) (.agg #[.int .i64 b.n, .string b.s])) : Sem Value).run P w = .ok (.bool v) w) :
   Stp P N ⟨some d, .binOp op T x y T', ty, pos, after, gd⟩ s ⟨(d, .one (.c (.bool v))) :: s.t, s.l⟩ ⟨rdo x (.agg (GA a)) ++ rdo y (.agg (GA b)), [], [(d, .one (.c (.bool v)))], [], []⟩ :=
 Stp.pure rfl hN (FU h h2) (by simp) fun g s' ac w ht hl' r => by
   have one : ∀ {o : Operand} {c : Val}, Evs o (.agg (GA c)) → (∀ p ∈ rdo o (.agg (GA c)), lk s'.t p.1 = some p.2) → ac.eval o = .agg #[.int .i64 c.n, .string c.s] := fun {o c} he hp => by
     obtain ⟨vs, e1, e2⟩ : VR g s'.l w (ac.eval o) (.agg (GA c)) := B4 r he hp
     match vs, e2 with
     | [u, v], ⟨⟨f1, _⟩, ⟨f2, _⟩, _⟩ => subst f1; subst f2; exact e1
   have e1 := one (BC h) fun p hp => ht p (List.mem_append_left _ hp)
   have e2 := one (BC h2) fun p hp => ht p (List.mem_append_right _ hp)
   refine ⟨.bool v, Gf rfl ?_, rfl, trivial⟩
   rw [e1, e2]; exact hr w
section
variable {N : Nat} {s : St} {d : Nat} {ty : TypeId} {pos : String} {after : Array Edge} {gd : Option (Nat × Bool)} {T' : TypeId} {x y : Operand} {a b : Val}
theorem x_veql (hN : Nat.blt d N = true) (h : evo s.t x = some (.agg (GA a))) (h2 : evo s.t y = some (.agg (GA b))) :
   Stp Tryz.prog N ⟨some d, .binOp .eql 44 x y T', ty, pos, after, gd⟩ s ⟨(d, .one (.c (.bool (Dq a b)))) :: s.t, s.l⟩ ⟨rdo x (.agg (GA a)) ++ rdo y (.agg (GA b)), [], [(d, .one (.c (.bool (Dq a b))))], [], []⟩ :=
 x_val2 hN h h2 fun w => by simp only [Sem.run_bind, guard_val, Result.andThen_ok, binOp, Op.equal, Op.maxDepth, equalIn_val, Sem.run_pure]
end
def SameTo (xs ys : List Val) (k : Nat) : Prop := ∀ j (h : j < xs.length) (h' : j < ys.length), j < k → xs[j] = ys[j]
theorem SameTo.zero {xs ys : List Val} : SameTo xs ys 0 := fun _ _ _ h => absurd h (by omega)
theorem SameTo.succ {xs ys : List Val} {k : Nat} (h : SameTo xs ys k) (hk : k < xs.length) (hk' : k < ys.length) (hs : Dq xs[k] ys[k] = true) : SameTo xs ys (k + 1) := fun j hj hj' hjk => by
 rcases Nat.lt_or_ge j k with h1 | h1
 · exact h j hj hj' h1
 · obtain rfl : j = k := by omega
   exact sameVal_iff.1 hs
theorem SameTo.eq {xs ys : List Val} {k : Nat} (hl : xs.length = ys.length) (hk : xs.length ≤ k) (h : SameTo xs ys k) : xs = ys :=
 List.ext_getElem hl fun j h1 h2 => h j h1 h2 (by omega)
end Go.Proofs.YtkemjhlbokldhaaGreat

namespace Go.Proofs.YtkemjhlbokldhaaGreat
open Go.RowKit
set_option linter.unusedVariables false

def CK : List Val → List Val → Int
 | [], [] => 0
 | [], _ :: _ => -1
 | _ :: _, [] => 1
 | x :: xs, y :: ys => if ER x y = 0 then CK xs ys else ER x y
end Go.Proofs.YtkemjhlbokldhaaGreat

namespace Go.Proofs.YtkemjhlbokldhaaGreat
open Go.RowKit
set_option linter.unusedVariables false

end Go.Proofs.YtkemjhlbokldhaaGreat

namespace Go.Proofs.YtkemjhlbokldhaaGreat
open Go.RowKit
set_option linter.unusedVariables false

def rowAt (rows : List (List Val)) (ar : Int) : (k : Nat) → k < rows.length → Bool
 | 0, hk => rowOk rows[0] && ((rows[0].length : Int) == ar)
 | j + 1, hk => rowOk rows[j + 1] && ((rows[j + 1].length : Int) == ar) && decide (CK rows[j] rows[j + 1] < 0)
def GoodTo (rows : List (List Val)) (ar : Int) (k : Nat) : Prop := ∀ j (h : j < rows.length), j < k → rowAt rows ar j h = true
theorem GoodTo.zero {rows : List (List Val)} {ar : Int} : GoodTo rows ar 0 := fun _ _ h => absurd h (by omega)
theorem GoodTo.succ {rows : List (List Val)} {ar : Int} {k : Nat} (h : GoodTo rows ar k) (hk : k < rows.length) (hp : rowAt rows ar k hk = true) : GoodTo rows ar (k + 1) := fun j hj hjk => by
 rcases Nat.lt_or_ge j k with h1 | h1
 · exact h j hj h1
 · obtain rfl : j = k := by omega
   exact hp
def relRows (rows : List (List Val)) (ar : Int) : Bool := (List.range rows.length).all fun k => if h : k < rows.length then rowAt rows ar k h else true
theorem GoodTo.all {rows : List (List Val)} {ar : Int} (h : GoodTo rows ar rows.length) : relRows rows ar = true := by
 unfold relRows
 rw [List.all_eq_true]
 intro k hk
 have hk' : k < rows.length := by simpa using hk
 rw [dif_pos hk']
 exact h k hk' hk'
theorem GoodTo.row {rows : List (List Val)} {ar : Int} {k j : Nat} (h : GoodTo rows ar k) (hj : j < rows.length) (hjk : j < k) : rowOk rows[j] = true := by
 have := h j hj hjk
 cases j with
 | zero => simp only [rowAt, Bool.and_eq_true] at this; exact this.1
 | succ j => simp only [rowAt, Bool.and_eq_true] at this; exact this.1.1
def E4 (n m : Int) : Bool := decide (0 ≤ n ∧ n ≤ m)
end Go.Proofs.YtkemjhlbokldhaaGreat

namespace Go.Proofs.YtkemjhlbokldhaaGreat
open Go.RowKit
set_option linter.unusedVariables false
set_option maxRecDepth 100000

theorem tdy : (∀ (p : Prop) [Decidable p], (decide p = true) = p) ∧ (∀ (p : Prop) [Decidable p], (decide p = false) = ¬ p) ∧ (∀ b : Bool, (¬ b = true) = (b = false)) ∧ (∀ b : Bool, (¬ b = false) = (b = true)) ∧ (∀ b : Bool, ((!b) = true) = (b = false)) ∧ (∀ b : Bool, ((!b) = false) = (b = true)) ∧
   (∀ {α : Type} [BEq α] [LawfulBEq α] (a b : α), ((a == b) = true) = (a = b)) ∧ (∀ {α : Type} [BEq α] [LawfulBEq α] (a b : α), ((a != b) = true) = (a ≠ b)) ∧ (∀ {α : Type} [BEq α] [LawfulBEq α] (a b : α), ((a == b) = false) = ¬ (a = b)) ∧ (∀ {α : Type} [BEq α] [LawfulBEq α] (a b : α), ((a != b) = false) = (a = b)) ∧
   (∀ a b : Int, (¬ a < b) = (b ≤ a)) ∧ (∀ a b : Int, (¬ a ≤ b) = (b < a)) ∧ (∀ a b : Int, (a ≥ b) = (b ≤ a)) ∧ (∀ a b : Int, (a > b) = (b < a)) ∧ (∀ a b : Nat, (a ≥ b) = (b ≤ a)) ∧ (∀ a b : Nat, (a > b) = (b < a)) :=
 ⟨fun p _ => by simp, fun p _ => by simp, fun b => by simp, fun b => by simp, fun b => by simp, fun b => by simp, fun a b => by simp, fun a b => by simp, fun a b => by simp, fun a b => by simp, fun a b => by simp, fun a b => by simp, fun a b => rfl, fun a b => rfl, fun a b => rfl, fun a b => rfl⟩
theorem Step.of_below {g : Gh} {w w' : World} (h : Below w.heap.size w w') : Step (Bi ([] : Locs)) g [] w g [] w' :=
 ⟨h.os, h.tape, h.output, h.size, fun b hb _ => h.block b hb, fun _ h => h, fun _ h => .inl h, fun b ⟨k, blk, hk, _⟩ => (by simp [lkl, lk] at hk), fun k hk => (by cases hk)⟩
theorem MemR.of_below {g : Gh} {w w' : World} (m : MemR g [] w) (h : Below w.heap.size w w') : MemR g [] w' :=
 ⟨fun b hb => Nat.lt_of_lt_of_le (m.ilt b hb) h.size, fun k cs hk => (by simp [lkl, lk] at hk), fun k α T e xs d hk => (by simp [lkl, lk] at hk), fun j k b b' _ hj => (by simp [lkl, lk] at hj), fun k α T e xs hk => (by simp [lkl, lk] at hk), fun j k α β T U e f xs ys _ hj => (by simp [lkl, lk] at hj)⟩
theorem AC.pure {P : Program} {f : FuncId} {args : List AVal} {v : Value} (hc : He P f) (hw : wfV v) (h : ∀ (w : World) (g : Gh) (cargs : Array Value), All2 (VR1 g [] w) cargs.toList args → Calls P f cargs w fun e w' => e = .returned v ∧ Below w.heap.size w w') : AC P f args [] (.one (.c v)) [] :=
 ⟨hc, fun g w cargs m ha => (h w g cargs ha).mono fun e w' ⟨he, hb⟩ => ⟨v, g, he, m.of_below hb, ⟨rfl, hw⟩, Step.of_below hb⟩⟩
theorem AC.pure2 {P : Program} {f : FuncId} {args : List AVal} {u v : Value} (hc : He P f) (hu : wfV u) (hw : wfV v) (h : ∀ (w : World) (g : Gh) (cargs : Array Value), All2 (VR1 g [] w) cargs.toList args → Calls P f cargs w fun e w' => e = .returned (.tuple #[u, v]) ∧ Below w.heap.size w w') : AC P f args [] (.tup [.one (.c u), .one (.c v)]) [] :=
 ⟨hc, fun g w cargs m ha => (h w g cargs ha).mono fun e w' ⟨he, hb⟩ => ⟨_, g, he, m.of_below hb, ⟨[u, v], rfl, ⟨rfl, hu⟩, ⟨rfl, hw⟩, trivial⟩, Step.of_below hb⟩⟩
theorem EI {w w' : World} (h : w = w') : Below w.heap.size w w' := by subst h; exact Below.refl _ _

section
variable {g : Gh} {l : Locs} {w : World}
theorem IG {R : Value → AVal → Prop} {a : Array Value} {x : AVal} (h : All2 R a.toList [x]) : ∃ v, a = #[v] ∧ R v x := by
 obtain ⟨a⟩ := a
 match a, h with
 | [v], h => exact ⟨v, rfl, h.1⟩
theorem inv2 {R : Value → AVal → Prop} {a : Array Value} {x y : AVal} (h : All2 R a.toList [x, y]) : ∃ u v, a = #[u, v] ∧ R u x ∧ R v y := by
 obtain ⟨a⟩ := a
 match a, h with
 | [u, v], h => exact ⟨u, v, rfl, h.1, h.2.1⟩
theorem inv_val {v : Value} {a : Val} (h : VR1 g l w v (.agg (GA a))) : v = .agg #[.int .i64 a.n, .string a.s] ∧ (Lit.int .i64 a.n).wf = true ∧ a.s.size ≤ maxLen := by
 obtain ⟨vs, e1, e2⟩ := h
 match vs, e2 with
 | [x, y], ⟨⟨f1, f2⟩, ⟨f3, f4⟩, _⟩ => subst f1; subst f3; exact ⟨e1, f2, f4⟩
theorem inv_c {v u : Value} (h : VR1 g l w v (.one (.c u))) : v = u ∧ wfV u := h
end

theorem valueOkI_c (v : Val) : AC Tryz.prog 109 [.agg (GA v)] [] (.one (.c (.bool (CV v)))) [] :=
 AC.pure ⟨_, _, Tryz.func109, rfl, rfl⟩ trivial fun w g cargs h => by
   obtain ⟨x, rfl, h1⟩ := IG h
   obtain ⟨rfl, _, hs⟩ := inv_val h1
   exact Gp v.n v.s w hs
theorem valueOkS_c (v : Val) : AC Tryz.prog 112 [.agg (GA v)] [] (.one (.c (.bool (CV v)))) [] :=
 AC.pure ⟨_, _, Tryz.func112, rfl, rfl⟩ trivial fun w g cargs h => by
   obtain ⟨x, rfl, h1⟩ := IG h
   obtain ⟨rfl, _, hs⟩ := inv_val h1
   exact Gn v.n v.s w hs
end Go.Proofs.YtkemjhlbokldhaaGreat

namespace Go.Proofs.YtkemjhlbokldhaaGreat
open Go.RowKit
set_option linter.unusedVariables false
set_option maxRecDepth 100000

structure Termt where
 var : ByteArray
 val : Val
def Bx : Enc Termt := isoE (C3 DM (C3 valE Gc)) (fun x => (x.var, x.val, ()))
def Fi (x : Termt) : List Cell := [.c (.string x.var), .c (.int .i64 x.val.n), .c (.string x.val.s)]
instance : CellsOf Bx Fi := GY (e := (C3 DM (C3 valE Gc))) (fun x : Termt => (x.var, x.val, ()))
structure Atomt where
 name : ByteArray
 args : List (Termt)
def atomE : Enc Atomt := isoE (C3 DM (C3 (Fh Bx) Gc)) (fun x => (x.name, x.args, ()))
def atomC (x : Atomt) : List Cell := [.c (.string x.name), .sl Bx x.args]
instance : CellsOf atomE atomC := GY (e := (C3 DM (C3 (Fh Bx) Gc))) (fun x : Atomt => (x.name, x.args, ()))
structure Litt where
 kind : Int
 atom : Atomt
 op : Int
 a : Termt
 b : Termt
def DI : Enc Litt := isoE (C3 (intE .i64) (C3 atomE (C3 (intE .i64) (C3 Bx (C3 Bx Gc))))) (fun x => (x.kind, x.atom, x.op, x.a, x.b, ()))
def litC (x : Litt) : List Cell := [.c (.int .i64 x.kind), .c (.string x.atom.name), .sl Bx x.atom.args, .c (.int .i64 x.op), .c (.string x.a.var), .c (.int .i64 x.a.val.n), .c (.string x.a.val.s), .c (.string x.b.var), .c (.int .i64 x.b.val.n), .c (.string x.b.val.s)]
instance : CellsOf DI litC := GY (e := (C3 (intE .i64) (C3 atomE (C3 (intE .i64) (C3 Bx (C3 Bx Gc)))))) (fun x : Litt => (x.kind, x.atom, x.op, x.a, x.b, ()))
structure Rulet where
 kind : Int
 head : Atomt
 body : List (Litt)
def ruleE : Enc Rulet := isoE (C3 (intE .i64) (C3 atomE (C3 (Fh DI) Gc))) (fun x => (x.kind, x.head, x.body, ()))
def ruleC (x : Rulet) : List Cell := [.c (.int .i64 x.kind), .c (.string x.head.name), .sl Bx x.head.args, .sl DI x.body]
instance : CellsOf ruleE ruleC := GY (e := (C3 (intE .i64) (C3 atomE (C3 (Fh DI) Gc)))) (fun x : Rulet => (x.kind, x.head, x.body, ()))
structure Declt where
 kind : Int
 name : ByteArray
 arity : Int
def CN : Enc Declt := isoE (C3 (intE .i64) (C3 DM (C3 (intE .i64) Gc))) (fun x => (x.kind, x.name, x.arity, ()))
def declC (x : Declt) : List Cell := [.c (.int .i64 x.kind), .c (.string x.name), .c (.int .i64 x.arity)]
instance : CellsOf CN declC := GY (e := (C3 (intE .i64) (C3 DM (C3 (intE .i64) Gc)))) (fun x : Declt => (x.kind, x.name, x.arity, ()))
structure Programt where
 decls : List (Declt)
 rules : List (Rulet)
def programC (x : Programt) : List Cell := [.sl CN x.decls, .sl ruleE x.rules]
end Go.Proofs.YtkemjhlbokldhaaGreat

namespace Go.Proofs.YtkemjhlbokldhaaGreat
open Go.RowKit
set_option linter.unusedVariables false
set_option maxRecDepth 100000

structure Namedt where
 name : ByteArray
 rel : Relt
structure Storet where
 rels : List (Namedt)
end Go.Proofs.YtkemjhlbokldhaaGreat

namespace Go.Proofs.YtkemjhlbokldhaaGreat
open Go.RowKit
set_option linter.unusedVariables false

def hasRow (rows : List (List Val)) (row : List Val) : Bool := decide (row ∈ rows)
theorem Jl : ∀ {a b : List UInt8}, Lib.compareBytes a b = 0 → a = b
 | [], [], _ => rfl
 | [], _ :: _, h => by simp [Lib.compareBytes] at h
 | _ :: _, [], h => by simp [Lib.compareBytes] at h
 | x :: a, y :: b, h => by
   unfold Lib.compareBytes at h
   by_cases h1 : x < y
   · simp [h1] at h
   · by_cases h2 : y < x
     · simp [h1, h2] at h
     · simp only [h1, h2, if_false] at h
       have e : x = y := UInt8.le_antisymm (UInt8.not_lt.1 h2) (UInt8.not_lt.1 h1)
       rw [e, Jl h]
theorem Iw : ∀ (a : List UInt8), Lib.compareBytes a a = 0
 | [] => by simp [Lib.compareBytes]
 | x :: a => by
   have := Iw a
   unfold Lib.compareBytes
   simp [UInt8.lt_irrefl, this]
theorem HH : ∀ {a b c : List UInt8}, Lib.compareBytes a b < 0 → Lib.compareBytes b c < 0 → Lib.compareBytes a c < 0
 | [], [], _, h, _ => by simp [Lib.compareBytes] at h
 | [], _ :: _, [], _, h => by simp [Lib.compareBytes] at h
 | [], _ :: _, _ :: _, _, _ => by simp [Lib.compareBytes]
 | _ :: _, [], _, h, _ => by simp [Lib.compareBytes] at h
 | _ :: _, _ :: _, [], _, h => by simp [Lib.compareBytes] at h
 | x :: a, y :: b, z :: c, h, h' => by
   unfold Lib.compareBytes at h h' ⊢
   by_cases h1 : x < y
   · by_cases h3 : y < z
     · simp [UInt8.lt_trans h1 h3]
     · by_cases h4 : z < y
       · simp [h3, h4] at h'
       · have e : y = z := UInt8.le_antisymm (UInt8.not_lt.1 h4) (UInt8.not_lt.1 h3)
         subst e; simp [h1]
   · by_cases h2 : y < x
     · simp [h1, h2] at h
     · have e : x = y := UInt8.le_antisymm (UInt8.not_lt.1 h2) (UInt8.not_lt.1 h1)
       subst e
       simp only [h1, if_false] at h
       by_cases h3 : x < z
       · simp [h3]
       · by_cases h4 : z < x
         · simp [h3, h4] at h'
         · simp only [h3, h4, if_false] at h' ⊢
           exact HH h h'

theorem valOk_zero {v : Val} (h : CV v = true) (hs : v.s.toList.isEmpty = false) : v.n = 0 := by
 rw [H2 hs] at h
 simp only [Bool.and_eq_true, beq_iff_eq] at h
 exact h.1
theorem bytes_ext {a b : ByteArray} (h : a.data.toList = b.data.toList) : a = b := by
 obtain ⟨⟨a⟩⟩ := a
 obtain ⟨⟨b⟩⟩ := b
 simp at h; rw [h]
theorem bytes_empty {a : ByteArray} (h : a.toList.isEmpty = true) : a.data.toList = [] := by
 rw [ByteArray.toList_eq] at h
 simpa using h
theorem cmpVal_eq {a b : Val} (ha : CV a = true) (hb : CV b = true) (h : ER a b = 0) : a = b := by
 obtain ⟨n, s⟩ := a
 obtain ⟨m, r⟩ := b
 unfold ER at h
 cases h1 : s.toList.isEmpty <;> cases h2 : r.toList.isEmpty
 · simp only [h1, h2] at h
   have hn := valOk_zero ha h1
   have hm := valOk_zero hb h2
   have := bytes_ext (Jl h)
   simp_all
 · simp [h1, h2] at h
 · simp [h1, h2] at h
 · simp only [h1, h2, if_true] at h
   have e : s = r := bytes_ext (by rw [bytes_empty h1, bytes_empty h2])
   have : n = m := by omega
   rw [e, this]
theorem cmpVal_self (a : Val) : ER a a = 0 := by
 unfold ER
 split
 · omega
 · exact Iw _
theorem cmpVal_trans {a b c : Val} (h : ER a b < 0) (h' : ER b c < 0) : ER a c < 0 := by
 unfold ER at *
 cases h1 : a.s.toList.isEmpty <;> cases h2 : b.s.toList.isEmpty <;> cases h3 : c.s.toList.isEmpty <;> simp only [h1, h2, h3, if_true, Bool.false_eq_true, if_false] at h h' ⊢ <;> first | omega | exact HH h h'

theorem cmpRow_self : ∀ a : List Val, CK a a = 0
 | [] => rfl
 | x :: a => by unfold CK; rw [if_pos (cmpVal_self x)]; exact cmpRow_self a
theorem cmpRow_eq : ∀ {a b : List Val}, (∀ v ∈ a, CV v = true) → (∀ v ∈ b, CV v = true) → CK a b = 0 → a = b
 | [], [], _, _, _ => rfl
 | [], _ :: _, _, _, h => by simp [CK] at h
 | _ :: _, [], _, _, h => by simp [CK] at h
 | x :: a, y :: b, ha, hb, h => by
   unfold CK at h
   by_cases hc : ER x y = 0
   · rw [if_pos hc] at h
     rw [cmpVal_eq (ha x (by simp)) (hb y (by simp)) hc, cmpRow_eq (fun v hv => ha v (by simp [hv])) (fun v hv => hb v (by simp [hv])) h]
   · rw [if_neg hc] at h; exact absurd h hc
theorem Ix : ∀ {a b c : List Val}, (∀ v ∈ a, CV v = true) → (∀ v ∈ b, CV v = true) → (∀ v ∈ c, CV v = true) → CK a b < 0 → CK b c < 0 → CK a c < 0
 | [], [], _, _, _, _, h, _ => by simp [CK] at h
 | [], _ :: _, [], _, _, _, _, h => by simp [CK] at h
 | [], _ :: _, _ :: _, _, _, _, _, _ => by simp [CK]
 | _ :: _, [], _, _, _, _, h, _ => by simp [CK] at h
 | _ :: _, _ :: _, [], _, _, _, _, h => by simp [CK] at h
 | x :: a, y :: b, z :: c, ha, hb, hc, h, h' => by
   unfold CK at h h' ⊢
   by_cases h1 : ER x y = 0
   · have e := cmpVal_eq (ha x (by simp)) (hb y (by simp)) h1
     subst e
     rw [if_pos h1] at h
     by_cases h2 : ER x z = 0
     · rw [if_pos h2] at h' ⊢
       exact Ix (fun v hv => ha v (by simp [hv])) (fun v hv => hb v (by simp [hv])) (fun v hv => hc v (by simp [hv])) h h'
     · rw [if_neg h2] at h' ⊢; exact h'
   · rw [if_neg h1] at h
     by_cases h2 : ER y z = 0
     · have e := cmpVal_eq (hb y (by simp)) (hc z (by simp)) h2
       subst e
       rw [if_neg h1]; exact h
     · rw [if_neg h2] at h'
       have h3 := cmpVal_trans h h'
       rw [if_neg (by omega)]; exact h3

def Sorted (rows : List (List Val)) : Prop := (∀ j (h : j < rows.length), ∀ v ∈ rows[j], CV v = true) ∧ ∀ i j (hi : i < rows.length) (hj : j < rows.length), i < j → CK rows[i] rows[j] < 0
def Between (rows : List (List Val)) (row : List Val) (i j : Nat) : Prop :=
 (∀ t (h : t < rows.length), t < i → CK rows[t] row < 0) ∧ ∀ t (h : t < rows.length), j ≤ t → ¬ CK rows[t] row < 0
theorem Between.right {rows : List (List Val)} {row : List Val} {i j h : Nat} (hs : Sorted rows) (hr : ∀ v ∈ row, CV v = true) (H : Between rows row i j) (hh : h < rows.length) (hc : CK rows[h] row < 0) : Between rows row (h + 1) j :=
 ⟨fun t ht hth => by
   rcases Nat.lt_or_ge t h with h1 | h1
   · exact Ix (hs.1 t ht) (hs.1 h hh) hr (hs.2 t h ht hh h1) hc
   · obtain rfl : t = h := by omega
     exact hc, H.2⟩
theorem Between.left {rows : List (List Val)} {row : List Val} {i j h : Nat} (hs : Sorted rows) (hr : ∀ v ∈ row, CV v = true) (H : Between rows row i j) (hh : h < rows.length) (hc : ¬ CK rows[h] row < 0) : Between rows row i h :=
 ⟨H.1, fun t ht hth hlt => by
   rcases Nat.lt_or_ge h t with h1 | h1
   · exact hc (Ix (hs.1 h hh) (hs.1 t ht) hr (hs.2 h t hh ht h1) hlt)
   · obtain rfl : t = h := by omega
     exact hc hlt⟩
def pos (rows : List (List Val)) (row : List Val) : Nat := rows.findIdx fun r => !decide (CK r row < 0)
theorem Between.pos {rows : List (List Val)} {row : List Val} {i : Nat} (hi : i ≤ rows.length) (H : Between rows row i i) : pos rows row = i := by
 unfold Proofs.YtkemjhlbokldhaaGreat.pos
 rcases Nat.lt_or_ge i rows.length with h1 | h1
 · rw [List.findIdx_eq h1]
   exact ⟨by simpa using H.2 i h1 (Nat.le_refl _), fun j hj => by simpa using H.1 j (by omega) hj⟩
 · obtain rfl : i = rows.length := by omega
   rw [List.findIdx_eq_length]
   intro r hr
   obtain ⟨j, hj, rfl⟩ := List.getElem_of_mem hr
   simpa using H.1 j hj hj
theorem Between.has {rows : List (List Val)} {row : List Val} {i : Nat} (hs : Sorted rows) (hr : ∀ v ∈ row, CV v = true) (hi : i < rows.length) (H : Between rows row i i) : hasRow rows row = (CK rows[i] row == 0) := by
 rw [hasRow]
 by_cases hc : CK rows[i] row = 0
 · have e := cmpRow_eq (hs.1 i hi) hr hc
   have : row ∈ rows := by rw [← e]; exact List.getElem_mem hi
   simp [hc, this]
 · have : row ∉ rows := by
     intro hm
     obtain ⟨j, hj, e⟩ := List.getElem_of_mem hm
     have h0 : CK rows[j] row = 0 := by rw [e]; exact cmpRow_self _
     have h1 : i ≤ j := by
       rcases Nat.lt_or_ge j i with h | h
       · have := H.1 j hj h; omega
       · exact h
     rcases Nat.lt_or_ge i j with h2 | h2
     · have := hs.2 i j hi hj h2
       rw [e] at this
       exact H.2 i hi (Nat.le_refl _) this
     · obtain rfl : i = j := by omega
       exact hc h0
   simp [hc, this]
end Go.Proofs.YtkemjhlbokldhaaGreat

namespace Go.Proofs.YtkemjhlbokldhaaGreat
open Go.RowKit
set_option linter.unusedVariables false

def LikeTo {α : Type} (xs ys : List α) (k : Nat) : Prop := ∀ j (h : j < xs.length) (h' : j < ys.length), j < k → xs[j] = ys[j]
theorem LikeTo.zero {α : Type} {xs ys : List α} : LikeTo xs ys 0 := fun _ _ _ h => absurd h (by omega)
theorem LikeTo.succ {α : Type} {xs ys : List α} {k : Nat} (h : LikeTo xs ys k) (hk : k < xs.length) (hk' : k < ys.length) (hs : xs[k] = ys[k]) : LikeTo xs ys (k + 1) := fun j hj hj' hjk => by
 rcases Nat.lt_or_ge j k with h1 | h1
 · exact h j hj hj' h1
 · obtain rfl : j = k := by omega
   exact hs
theorem LikeTo.eq {α : Type} {xs ys : List α} {k : Nat} (hl : xs.length = ys.length) (hk : xs.length ≤ k) (h : LikeTo xs ys k) : xs = ys :=
 List.ext_getElem hl fun j h1 h2 => h j h1 h2 (by omega)
def sameRows (a b : List (List Val)) : Bool := decide (a = b)
def likeRel (a b : Relt) : Bool := a.arity == b.arity && sameRows a.rows b.rows
end Go.Proofs.YtkemjhlbokldhaaGreat

namespace Go.Proofs.YtkemjhlbokldhaaGreat
open Go.RowKit
set_option linter.unusedVariables false

def AllAt {n : Nat} (p : (k : Nat) → k < n → Bool) (k : Nat) : Prop := ∀ j (h : j < n), j < k → p j h = true
theorem AllAt.zero {n : Nat} {p : (k : Nat) → k < n → Bool} : AllAt p 0 := fun _ _ h => absurd h (by omega)
theorem AllAt.succ {n : Nat} {p : (k : Nat) → k < n → Bool} {k : Nat} (h : AllAt p k) (hk : k < n) (hp : p k hk = true) : AllAt p (k + 1) := fun j hj hjk => by
 rcases Nat.lt_or_ge j k with h1 | h1
 · exact h j hj h1
 · obtain rfl : j = k := by omega
   exact hp
def everyB {n : Nat} (p : (k : Nat) → k < n → Bool) : Bool := (List.range n).all fun k => if h : k < n then p k h else true
theorem AllAt.all {n : Nat} {p : (k : Nat) → k < n → Bool} {k : Nat} (h : AllAt p k) (hk : n ≤ k) : everyB p = true := by
 unfold everyB
 rw [List.all_eq_true]
 intro j hj
 have hj' : j < n := by simpa using hj
 rw [dif_pos hj']
 exact h j hj' (by omega)
theorem FO {g : Gh} {l : Locs} {w : World} {v : Value} {s : ByteArray} (h : VR1 g l w v (.one (.c (.string s)))) : v = .string s ∧ s.size ≤ maxLen := h
theorem wordOkI_c (s : ByteArray) : AC Tryz.prog 58 [.one (.c (.string s))] [] (.one (.c (.bool (C7 s)))) [] :=
 AC.pure ⟨_, _, Tryz.func58, rfl, rfl⟩ trivial fun w g cargs h => by
   obtain ⟨x, rfl, h1⟩ := IG h
   obtain ⟨rfl, hs⟩ := FO h1
   exact (GD s w hs).mono fun e w' ⟨h1, h2⟩ => ⟨h1, EI h2⟩
theorem wordOkS_c (s : ByteArray) : AC Tryz.prog 68 [.one (.c (.string s))] [] (.one (.c (.bool (C7 s)))) [] :=
 AC.pure ⟨_, _, Tryz.func68, rfl, rfl⟩ trivial fun w g cargs h => by
   obtain ⟨x, rfl, h1⟩ := IG h
   obtain ⟨rfl, hs⟩ := FO h1
   exact (GC s w hs).mono fun e w' ⟨h1, h2⟩ => ⟨h1, EI h2⟩

def likeNamed (x y : Namedt) : Bool := x.name == y.name && likeRel x.rel y.rel
def LikeN (a b : List Namedt) (k : Nat) : Prop := ∀ j (h : j < a.length) (h' : j < b.length), j < k → likeNamed a[j] b[j] = true
theorem LikeN.zero {a b : List Namedt} : LikeN a b 0 := fun _ _ _ h => absurd h (by omega)
theorem LikeN.succ {a b : List Namedt} {k : Nat} (h : LikeN a b k) (hk : k < a.length) (hk' : k < b.length) (hs : likeNamed a[k] b[k] = true) : LikeN a b (k + 1) := fun j hj hj' hjk => by
 rcases Nat.lt_or_ge j k with h1 | h1
 · exact h j hj hj' h1
 · obtain rfl : j = k := by omega
   exact hs
end Go.Proofs.YtkemjhlbokldhaaGreat

namespace Go.Proofs.YtkemjhlbokldhaaGreat
open Go.RowKit
set_option linter.unusedVariables false
set_option linter.unusedSimpArgs false
set_option maxRecDepth 100000


set_option maxHeartbeats 4000000 in
theorem upToI_c (n m : Int) : AC Tryz.prog 30 [.one (.c (.int .i64 n)), .one (.c (.int .i64 m))] [] (.one (.c (.bool (E4 n m)))) [] := by
 refine Bn Tryz.func30 J J Tryz.ntmps30 J Tryz.results30 ?_
 refine Aa (Az (A1 J J) (Ad (Az (A0 J J) ?_)))
 refine Bd (Ee J J J) (fun b6 h6 => ?_)
 refine Az (A0 J J) ?_
 cases b6
 · try simp only [tdy] at h6
   refine A3 J J J J (A3 J J J J (A3 J J J J (Az (AD J J J) (Az (A1 J J) (Ae ?_)))))
   exact ⟨rn [], ⟨⟨⟨_, J, AH (by first | exact (decide_eq_true (by omega)).symm | exact (decide_eq_false (by omega)).symm)⟩, O⟩, O, O, J⟩⟩
 try simp only [tdy] at h6
 refine AB J J (A0 J J) (AB J J (A0 J J) ?_)
 refine Bh J J (E3 J J J) (fun b10 h10 => ?_)
 refine Az (AJ J J J) (Az (A1 J J) (Ae ?_))
 cases b10
 rotate_left
 · try simp only [tdy] at h10
   exact ⟨rn [], ⟨⟨⟨_, J, AH (by first | exact (decide_eq_true (by omega)).symm | exact (decide_eq_false (by omega)).symm)⟩, O⟩, O, O, J⟩⟩
 try simp only [tdy] at h10
 exact ⟨rn [], ⟨⟨⟨_, J, AH (by first | exact (decide_eq_true (by omega)).symm | exact (decide_eq_false (by omega)).symm)⟩, O⟩, O, O, J⟩⟩


end Go.Proofs.YtkemjhlbokldhaaGreat

namespace Go.Proofs.YtkemjhlbokldhaaGreat
open Go.RowKit
set_option linter.unusedVariables false

theorem keptI_c (s : ByteArray) : AC Tryz.prog 49 [.one (.c (.string s))] [] (.one (.c (.bool (E2 s)))) [] :=
 AC.pure ⟨_, _, Tryz.func49, rfl, rfl⟩ trivial fun w g cargs h => by
   obtain ⟨x, rfl, h1⟩ := IG h
   obtain ⟨rfl, hs⟩ := FO h1
   exact (keptI_any s w).mono fun e w' ⟨h1, h2⟩ => ⟨h1, EI h2⟩
theorem Ht (s : ByteArray) : AC Tryz.prog 69 [.one (.c (.string s))] [] (.one (.c (.bool (E2 s)))) [] :=
 AC.pure ⟨_, _, Tryz.func69, rfl, rfl⟩ trivial fun w g cargs h => by
   obtain ⟨x, rfl, h1⟩ := IG h
   obtain ⟨rfl, hs⟩ := FO h1
   exact (keptS_any s w).mono fun e w' ⟨h1, h2⟩ => ⟨h1, EI h2⟩
theorem varOkI_c (s : ByteArray) : AC Tryz.prog 108 [.one (.c (.string s))] [] (.one (.c (.bool (Eu s)))) [] :=
 AC.pure ⟨_, _, Tryz.func108, rfl, rfl⟩ trivial fun w g cargs h => by
   obtain ⟨x, rfl, h1⟩ := IG h
   obtain ⟨rfl, hs⟩ := FO h1
   exact (varOkI_any s w hs).mono fun e w' ⟨h1, h2⟩ => ⟨h1, EI h2⟩
theorem varOkS_c (s : ByteArray) : AC Tryz.prog 101 [.one (.c (.string s))] [] (.one (.c (.bool (Eu s)))) [] :=
 AC.pure ⟨_, _, Tryz.func101, rfl, rfl⟩ trivial fun w g cargs h => by
   obtain ⟨x, rfl, h1⟩ := IG h
   obtain ⟨rfl, hs⟩ := FO h1
   exact (varOkS_any s w hs).mono fun e w' ⟨h1, h2⟩ => ⟨h1, EI h2⟩

def EachTo {α : Type} (g : α → Bool) (l : List α) (k : Nat) : Prop := (l.take k).all g = true
theorem EachTo.zero {α : Type} {g : α → Bool} {l : List α} : EachTo g l 0 := rfl
theorem EachTo.succ {α : Type} {g : α → Bool} {l : List α} {k : Nat} (h : EachTo g l k) (hk : k < l.length) (hg : g l[k] = true) : EachTo g l (k + 1) := by
 unfold EachTo at *; rw [List.take_succ_eq_append_getElem hk, List.all_append, h]; simp [hg]
theorem EachTo.all {α : Type} {g : α → Bool} {l : List α} {k : Nat} (h : EachTo g l k) (hk : l.length ≤ k) : l.all g = true := by
 unfold EachTo at h; rwa [List.take_of_length_le hk] at h
theorem EachTo.bad {α : Type} {g : α → Bool} {l : List α} {k : Nat} (hk : k < l.length) (hg : g l[k] = false) : l.all g = false := by
 rw [List.all_eq_false]; exact ⟨_, List.getElem_mem hk, by simp [hg]⟩
theorem EachTo.get {α : Type} {g : α → Bool} {l : List α} {k : Nat} (h : EachTo g l k) {j : Nat} (hj : j < k) (hl : j < l.length) : g l[j] = true := by
 unfold EachTo at h; rw [List.all_eq_true] at h
 exact h _ (List.mem_take_iff_getElem.2 ⟨j, by omega, rfl⟩)
def Hb {α : Type} (g : α → Bool) (l : List α) : Int := if l.all g = true then -1 else (l.findIdx (fun x => !g x) : Nat)
theorem Gj {α : Type} {g : α → Bool} {l : List α} {k : Nat} (h : EachTo g l k) (hk : k < l.length) (hg : g l[k] = false) : Hb g l = k := by
 unfold Hb
 rw [EachTo.bad hk hg]
 have : l.findIdx (fun x => !g x) = k := (List.findIdx_eq hk).2 ⟨by simp [hg], fun j hj => by simp [h.get hj (by omega)]⟩
 simp [this]
theorem FD {α : Type} {g : α → Bool} {l : List α} {k : Nat} (h : EachTo g l k) (hk : l.length ≤ k) : Hb g l = -1 := by
 unfold Hb; rw [h.all hk]; rfl
theorem CZ {α : Type} {g : α → Bool} {l : List α} : decide (Hb g l ≥ 0) = !l.all g := by
 unfold Hb; cases h : l.all g
 · simp
 · simp

def noVal : Val := ⟨0, ⟨#[]⟩⟩
def BP : Termt := ⟨⟨#[]⟩, noVal⟩
def Cv (t : Termt) : Bool := if (t.var == (⟨#[]⟩ : ByteArray)) = true then CV t.val && !E2 t.val.s else Eu t.var && Dq t.val noVal
def DR (s : ByteArray) : Bool := C7 s && !E2 s
def Db (a : Atomt) : Bool := DR a.name && (decide (a.args.length ≤ 6) && a.args.all Cv)
def Dh (a b : Termt) : Bool := a.var == b.var && Dq a.val b.val
def Cs (l : Litt) : Bool := if l.kind = 1 ∨ l.kind = 2 then Db l.atom && (decide (l.op = 0) && (Dh l.a BP && Dh l.b BP))
 else if l.kind = 3 then decide (1 ≤ l.op ∧ l.op ≤ 4) && ((l.atom.name == (⟨#[]⟩ : ByteArray)) && (decide (l.atom.args.length = 0) && (Cv l.a && Cv l.b))) else false
def Cx (r : Rulet) : Bool := decide (1 ≤ r.kind ∧ r.kind ≤ 3) && (Db r.head && (decide (r.body.length ≤ 8) && r.body.all Cs))
def Cc (d : Declt) : Bool := decide (1 ≤ d.kind ∧ d.kind ≤ 3 ∧ 0 ≤ d.arity ∧ d.arity ≤ 6) && DR d.name
def Bm (p : Programt) : Bool := decide (p.decls.length ≤ 16 ∧ p.rules.length ≤ 24) && (p.decls.all Cc && p.rules.all Cx)

theorem equalIn_val' (x y : Val) (w : World) : (Op.equalIn 9999 44 (.agg #[.int .i64 x.n, .string x.s]) (.agg #[.int .i64 y.n, .string y.s])).run Tryz.prog w = .ok (Dq x y) w := by
 have hS : Tryz.prog.underlying 44 = some (.struct (Tryz.prog.fieldsOf 44)) := by kernel_rfl
 have hp : Tryz.prog.stoodInHeld 44 = false := by kernel_rfl
 rw [show (9999 : Nat) = 9998 + 1 from rfl, run_equalIn_agg w 9998 44 _ _ hS hp]
 simp only [Program.fieldsOf, Tryz.underlying44]
 go_simp
 unfold Dq
 rw [beq_toListBytes]
 by_cases h1 : x.n = y.n <;> by_cases h2 : x.s.toList = y.s.toList <;> simp [h1, h2]
theorem equalIn_str' (x y : ByteArray) (w : World) : (Op.equalIn 9999 9 (.string x) (.string y)).run Tryz.prog w = .ok (x == y) w := by
 rw [show (9999 : Nat) = 9998 + 1 from rfl]
 go_simp
 rw [beq_toListBytes]
theorem equalIn_term (x y : Termt) (w : World) : (Op.equalIn 10000 46 (.agg #[.string x.var, .int .i64 x.val.n, .string x.val.s]) (.agg #[.string y.var, .int .i64 y.val.n, .string y.val.s])).run Tryz.prog w = .ok (Dh x y) w := by
 have hS : Tryz.prog.underlying 46 = some (.struct (Tryz.prog.fieldsOf 46)) := by kernel_rfl
 have hp : Tryz.prog.stoodInHeld 46 = false := by kernel_rfl
 have hv := fun w => equalIn_val' x.val y.val w
 have hs := fun w => equalIn_str' x.var y.var w
 rw [show (10000 : Nat) = 9999 + 1 from rfl, run_equalIn_agg w 9999 46 _ _ hS hp]
 simp only [Program.fieldsOf, Tryz.underlying46]
 generalize (9999 : Nat) = n at *
 go_simp
 unfold Dh
 cases x.var == y.var <;> cases Dq x.val y.val <;> rfl
theorem guard_term (op : BinOp) (x y : Operand) (a b : Termt) (w : World) : (eqGuard op 46 x y (.agg #[.string a.var, .int .i64 a.val.n, .string a.val.s]) (.agg #[.string b.var, .int .i64 b.val.n, .string b.val.s])).run Tryz.prog w = .ok () w := by
 have hg : Tryz.prog.eqGuardType Tryz.prog.depth 46 = false := by kernel_rfl
 unfold eqGuard
 cases op <;> simp [hg]
section
variable {N : Nat} {s : St} {d : Nat} {ty : TypeId} {pos : String} {after : Array Edge} {gd : Option (Nat × Bool)} {T' : TypeId} {x y : Operand} {a b : Termt}
theorem Hz (hN : Nat.blt d N = true) (h : evo s.t x = some (.agg (Fi a))) (h2 : evo s.t y = some (.agg (Fi b))) :
   Stp Tryz.prog N ⟨some d, .binOp .eql 46 x y T', ty, pos, after, gd⟩ s ⟨(d, .one (.c (.bool (Dh a b)))) :: s.t, s.l⟩ ⟨rdo x (.agg (Fi a)) ++ rdo y (.agg (Fi b)), [], [(d, .one (.c (.bool (Dh a b))))], [], []⟩ :=
 Stp.pure rfl hN (FU h h2) (by simp) fun g s' ac w ht hl' r => by
   have one : ∀ {o : Operand} {c : Termt}, Evs o (.agg (Fi c)) → (∀ p ∈ rdo o (.agg (Fi c)), lk s'.t p.1 = some p.2) → ac.eval o = .agg #[.string c.var, .int .i64 c.val.n, .string c.val.s] := fun {o c} he hp => by
     obtain ⟨vs, e1, e2⟩ : VR g s'.l w (ac.eval o) (.agg (Fi c)) := B4 r he hp
     match vs, e2 with
     | [t, u, v], ⟨⟨f1, _⟩, ⟨f2, _⟩, ⟨f3, _⟩, _⟩ => subst f1; subst f2; subst f3; exact e1
   have e1 := one (BC h) fun p hp => ht p (List.mem_append_left _ hp)
   have e2 := one (BC h2) fun p hp => ht p (List.mem_append_right _ hp)
   refine ⟨.bool (Dh a b), Gf rfl ?_, rfl, trivial⟩
   rw [e1, e2]
   simp only [Sem.run_bind, guard_term, Result.andThen_ok, binOp, Op.equal, Op.maxDepth, equalIn_term, Sem.run_pure]
end
end Go.Proofs.YtkemjhlbokldhaaGreat

namespace Go.Proofs
open Go.Shelf
def Tryz.lays156_ren : Go.Shelf.Ren := ⟨fun | 156 => 37 | 165 => 65 | 166 => 66 | 169 => 67 | 240 => 91 | 241 => 92 | 276 => 110 | 277 => 111 | n => n, fun | 31 => 52 | 9 => 9 | 3 => 3 | 4 => 4 | 0 => 0 | 20 => 20 | 72 => 100 | 76 => 103 | 70 => 98 | 37 => 22 | 75 => 102 | 127 => 123 | 164 => 133 | 5 => 5 | 80 => 86 | n => n, fun | n => n⟩
theorem Tryz.lays156 : Go.Proofs.Lays.n156 Tryz.prog Tryz.lays156_ren := {
 mixed := by kernel_rfl
 f156 := Tryz.func37.trans (congrArg some (by kernel_rfl))
 f165 := Tryz.func65.trans (congrArg some (by kernel_rfl))
 f166 := Tryz.func66.trans (congrArg some (by kernel_rfl))
 f169 := Tryz.func67.trans (congrArg some (by kernel_rfl))
 f240 := Tryz.func91.trans (congrArg some (by kernel_rfl))
 f241 := Tryz.func92.trans (congrArg some (by kernel_rfl))
 f276 := Tryz.func110.trans (congrArg some (by kernel_rfl))
 f277 := Tryz.func111.trans (congrArg some (by kernel_rfl))
 t0 := Tryz.underlying0
 a0 := Tryz.isAgg0
 z0 := Tryz.sizeOf0
 v0 := Tryz.zeroValue0
 t3 := Tryz.underlying3
 a3 := Tryz.isAgg3
 z3 := Tryz.sizeOf3
 v3 := Tryz.zeroValue3
 t4 := Tryz.underlying4
 a4 := Tryz.isAgg4
 z4 := Tryz.sizeOf4
 v4 := Tryz.zeroValue4
 t9 := Tryz.underlying9
 a9 := Tryz.isAgg9
 z9 := Tryz.sizeOf9
 v9 := Tryz.zeroValue9
 t20 := Tryz.underlying20
 a20 := Tryz.isAgg20
 z20 := Tryz.sizeOf20
 v20 := Tryz.zeroValue20
 t31 := Tryz.underlying52
 a31 := Tryz.isAgg52
 z31 := Tryz.sizeOf52
 v31 := Tryz.zeroValue52
 t37 := Tryz.underlying22
 a37 := Tryz.isAgg22
 z37 := Tryz.sizeOf22
 v37 := Tryz.zeroValue22
 t70 := Tryz.underlying98
 a70 := Tryz.isAgg98
 z70 := Tryz.sizeOf98
 v70 := Tryz.zeroValue98
 t72 := Tryz.underlying100
 a72 := Tryz.isAgg100
 z72 := Tryz.sizeOf100
 v72 := Tryz.zeroValue100
 t75 := Tryz.underlying102
 a75 := Tryz.isAgg102
 z75 := Tryz.sizeOf102
 v75 := Tryz.zeroValue102
 t76 := Tryz.underlying103
 a76 := Tryz.isAgg103
 z76 := Tryz.sizeOf103
 v76 := Tryz.zeroValue103
 t127 := Tryz.underlying123
 a127 := Tryz.isAgg123
 z127 := Tryz.sizeOf123
 v127 := Tryz.zeroValue123
 t164 := Tryz.underlying133
 a164 := Tryz.isAgg133
 z164 := Tryz.sizeOf133
 v164 := Tryz.zeroValue133 }
theorem Tryz.Builder_Extra_156 : Builder.Extra Tryz.prog Tryz.lays156_ren := {
 sizeBuilder := by kernel_rfl
 liesBuilder := by kernel_rfl
 t5 := Tryz.underlying5
 a5 := Tryz.isAgg5
 z5 := Tryz.sizeOf5
 v5 := Tryz.zeroValue5
 infoByte := by kernel_rfl
 cellsByte := by kernel_rfl
 sizeByte := by kernel_rfl
 neB5 := by decide }
open Go.RowKit in
theorem Tryz.strings_Join_none (a : Option Addr) (c : Nat) (sep : ByteArray) (w : World) :
   Calls Tryz.prog 37 #[.slice a 0 c, .string sep] w fun e w' => e = .returned (.string ⟨#[]⟩) ∧ w' = w := Any.strings_Join_none Tryz.lays156 Tryz.Builder_Extra_156 a c sep w
open Go.RowKit in
theorem Tryz.strings_Join (bk o c : Nat) (xs : List ByteArray) (sep : ByteArray) (w : World) (hcells : ∀ (j : Nat) x, xs[j]? = some x → w.cell? ⟨bk, o + j, none⟩ = some (.string x)) (hbk : bk < w.heap.size) (hN : xs.length ≤ 140737488355328) (hcap : xs.length ≤ c) (hlen : (Lib.join (xs.map (·.data.toList)) sep.data.toList).length ≤ 140737488355328) :
   Calls Tryz.prog 37 #[.slice (some ⟨bk, o, none⟩) xs.length c, .string sep] w fun e w' => e = .returned (.string ⟨(Lib.join (xs.map (·.data.toList)) sep.data.toList).toArray⟩) ∧ Below w.heap.size w w' := Any.strings_Join Tryz.lays156 Tryz.Builder_Extra_156 bk o c xs sep w hcells hbk hN hcap hlen
end Go.Proofs

namespace Go.Proofs.YtkemjhlbokldhaaGreat
open Go.RowKit
set_option linter.unusedVariables false

theorem FR.keep {w w' : World} : ∀ {vs : List Value} {cs : List Cell} {b : List Nat}, FR w vs cs b → (∀ i ∈ b, w'.heap[i]? = w.heap[i]?) → w.heap.size ≤ w'.heap.size → FR w' vs cs b
 | [], [], b, h, _, _ => h
 | v :: vs, c :: cs, b, h, hk, hs => by
   obtain ⟨b1, b2, rfl, h1, h2⟩ := h
   refine ⟨b1, b2, rfl, ?_, FR.keep h2 (fun i hi => hk i (List.mem_append_right _ hi)) hs⟩
   cases c with
   | c u => exact h1
   | sl e xs =>
     obtain ⟨a, n, cap, h3, h4⟩ := h1
     exact ⟨a, n, cap, h3, h4.keep (fun i hi => hk i (List.mem_append_left _ hi)) hs⟩
   | rx e x us b j =>
     obtain ⟨h3, h4, rfl⟩ := h1
     exact ⟨h3, e.keep h4 (fun i hi => hk i (List.mem_append_left _ hi)) hs, rfl⟩
   | en e x => exact ⟨h1.1, e.keep h1.2 (fun i hi => hk i (List.mem_append_left _ hi)) hs⟩
   | _ => exact h1.elim
theorem FR.one {w : World} : ∀ {vs : List Value} {cs : List Cell} {b : List Nat}, FR w vs cs b → ∀ u ∈ vs, u.oneCell' = true
 | [], [], b, _, u, hu => by cases hu
 | v :: vs, c :: cs, b, h, u, hu => by
   obtain ⟨b1, b2, rfl, h1, h2⟩ := h
   rcases List.mem_cons.1 hu with rfl | hu
   · cases c with
     | c u => rw [h1.1]; exact one_of_wf h1.2.1
     | sl e xs => obtain ⟨a, n, cap, rfl, _⟩ := h1; rfl
     | rx e x us b j => exact h1.1.2
     | en e x => exact h1.1
     | _ => exact h1.elim
   · exact FR.one h2 u hu
theorem FR.length {w : World} : ∀ {vs : List Value} {cs : List Cell} {b : List Nat}, FR w vs cs b → vs.length = cs.length
 | [], [], b, _ => rfl
 | v :: vs, c :: cs, b, h => by
   obtain ⟨b1, b2, rfl, h1, h2⟩ := h
   simp [FR.length h2]

section
variable {α : Type} {e : Enc α} {f : α → List Cell} [hc : CellsOf e f] {w : World} {g : Nat}
theorem Elems.flat : ∀ {xs : List α} {bss : List (List Nat)} {off : Nat}, Elems e w g off xs bss →
   ∃ vs, FR w vs (xs.flatMap f) bss.flatten ∧ vs.length = xs.length * e.size ∧ ∀ j u, vs[j]? = some u → w.cell? ⟨g, off + j, none⟩ = some u
 | [], bss, off, h => by
   have : bss = [] := List.eq_nil_of_length_eq_zero h.1
   subst this
   exact ⟨[], rfl, by simp, fun j u hu => by simp at hu⟩
 | x :: xs, [], off, h => by have := h.1; simp at this
 | x :: xs, b :: bss, off, h => by
   obtain ⟨cs, h1, h2⟩ := h.2 0 x b rfl rfl
   have ht : Elems e w g (off + e.size) xs bss := ⟨by simpa using h.1, fun i y c hy hcc => by
     obtain ⟨ds, h3, h4⟩ := h.2 (i + 1) y c (by simpa using hy) (by simpa using hcc)
     exact ⟨ds, h3, fun j u hu => by rw [show off + e.size + i * e.size + j = off + (i + 1) * e.size + j by rw [Nat.add_mul]; omega]; exact h4 j u hu⟩⟩
   obtain ⟨vs, h5, h6, h7⟩ := Elems.flat ht
   have hl := e.len h1
   refine ⟨cs ++ vs, ?_, by rw [List.length_append, hl, h6, List.length_cons, Nat.add_mul]; omega, fun j u hu => ?_⟩
   · rw [List.flatMap_cons, List.flatten_cons]
     exact FR.app.2 ⟨cs, vs, b, bss.flatten, rfl, rfl, hc.iff.1 h1, h5⟩
   · rcases Nat.lt_or_ge j cs.length with hj | hj
     · rw [List.getElem?_append_left hj] at hu
       have := h2 j u hu
       simpa using this
     · rw [List.getElem?_append_right hj] at hu
       have := h7 _ u hu
       rw [hl] at this
       rw [show off + j = off + e.size + (j - e.size) by omega]
       exact this
theorem Elems.ofFlat : ∀ {xs : List α} {vs : List Value} {bs : List Nat} {off : Nat}, FR w vs (xs.flatMap f) bs → (∀ j u, vs[j]? = some u → w.cell? ⟨g, off + j, none⟩ = some u) →
   ∃ bss, bss.flatten = bs ∧ Elems e w g off xs bss
 | [], vs, bs, off, h, _ => by
   cases vs with
   | nil =>
     have : bs = [] := h
     subst this
     exact ⟨[], rfl, rfl, fun i x b hx => by simp at hx⟩
   | cons v vs => exact h.elim
 | x :: xs, vs, bs, off, h, hv => by
   rw [List.flatMap_cons] at h
   obtain ⟨v1, v2, b1, b2, rfl, rfl, h1, h2⟩ := FR.app.1 h
   have hr := hc.iff.2 h1
   have hl := e.len hr
   obtain ⟨bss, rfl, hE⟩ := Elems.ofFlat (off := off + e.size) h2 (fun j u hu => by
     rw [show off + e.size + j = off + (v1.length + j) by omega]
     exact hv _ u (by rw [List.getElem?_append_right (by omega)]; simpa using hu))
   refine ⟨b1 :: bss, by simp, by simp [hE.1], fun i y b hy hb => ?_⟩
   cases i with
   | zero =>
     simp at hy hb
     subst hy; subst hb
     exact ⟨v1, hr, fun j u hu => by
       have hj := (List.getElem?_eq_some_iff.1 hu).1
       have := hv j u (by rw [List.getElem?_append_left hj]; exact hu)
       simpa using this⟩
   | succ i =>
     obtain ⟨ds, h3, h4⟩ := hE.2 i y b (by simpa using hy) (by simpa using hb)
     exact ⟨ds, h3, fun j u hu => by rw [show off + (i + 1) * e.size + j = off + e.size + i * e.size + j by rw [Nat.add_mul]; omega]; exact h4 j u hu⟩
end

section
variable {α : Type} {e : Enc α} {g : Gh} {l : Locs} {w : World} {k : Nat} {T : TypeId} {xs : List α} {d : Bool}
theorem ArrR.row {f : α → List Cell} [hc : CellsOf e f] (h : ArrR g w k T e xs d) : ∃ cells bs, w.ownsRow 0 T e.size (g.hd k) xs.length cells ∧ FR w cells (xs.flatMap f) bs ∧ (∀ b ∈ bs, g.I b) ∧ (d = true → g.F k = bs) ∧
   (∀ b, (g.hd k).ownBlock = some b → b = g.ρ k) := by
 rcases h with ⟨rfl, h1, h2⟩ | ⟨cap, vs, bss, h1, h2, h3, h4, h5, h6, h7, h8, h9⟩
 · exact ⟨[], [], ⟨by simp, .inl ⟨h1, rfl⟩⟩, rfl, fun _ hb => (by cases hb), h2, fun b hb => by rw [h1] at hb; simp [Value.ownBlock] at hb⟩
 · obtain ⟨us, f1, f2, f3⟩ := h6.flat
   refine ⟨us, bss.flatten, ⟨f2, .inr ⟨g.ρ k, cap, vs, h1, Nat.zero_le _, h4, h2, h3, h5, ?_⟩⟩, f1, h7, h9, fun b hb => by rw [h1] at hb; simp [Value.ownBlock] at hb; exact hb.symm⟩
   have hle : xs.length * e.size ≤ vs.size := by rw [h5]; exact Nat.mul_le_mul_right _ h2
   refine List.ext_getElem? fun j => ?_
   rw [List.getElem?_take]
   split
   · rename_i hj
     have hj' : j < us.length := by rw [f2]; exact hj
     have := f3 j us[j] (List.getElem?_eq_getElem hj')
     rw [Cu h4, Nat.zero_add] at this
     rw [List.getElem?_eq_getElem hj', ← this]
     simp
   · rename_i hj
     rw [List.getElem?_eq_none (by omega)]
theorem ArrR.ofRow {f : α → List Cell} [hc : CellsOf e f] {cells : List Value} {bs : List Nat} (h : w.ownsRow 0 T e.size (g.hd k) xs.length cells) (hf : FR w cells (xs.flatMap f) bs) (hI : ∀ b ∈ bs, g.I b) (hF : d = true → g.F k = bs)
   (hb : ∀ b, (g.hd k).ownBlock = some b → b = g.ρ k ∧ ¬ g.I b) : ArrR g w k T e xs d := by
 rcases h.2 with ⟨h1, h2⟩ | ⟨b, cap, cur, h1, _, h3, h4, h5, h6, h7⟩
 · have hx : xs = [] := List.eq_nil_of_length_eq_zero h2
   subst hx
   refine .inl ⟨rfl, h1, fun hd => ?_⟩
   rw [hF hd]
   have hcl : cells = [] := List.eq_nil_of_length_eq_zero (by simpa using h.1)
   subst hcl
   exact hf
 · obtain ⟨rfl, hI'⟩ := hb b (by rw [h1]; rfl)
   obtain ⟨bss, rfl, hE⟩ := Elems.ofFlat (e := e) (g := g.ρ k) (off := 0) hf (fun j u hu => by
     rw [Cu h3, Nat.zero_add]
     rw [← h7, List.getElem?_take] at hu
     split at hu
     · simpa using hu
     · cases hu)
   exact .inr ⟨cap, cur, bss, h1, h4, h5, h3, h6, hE, hI, hI', hF⟩
theorem ArrR.slice (h : ArrR g w k T e xs d) : ∃ a n cap bs, g.hd k = .slice a n cap ∧ SliceRep e w a n cap xs bs ∧ (∀ b ∈ bs, g.I b ∨ (g.hd k ≠ .slice none 0 0 ∧ b = g.ρ k)) ∧
   (d = true → bs = [] ∨ (g.hd k ≠ .slice none 0 0 ∧ bs = g.ρ k :: g.F k)) := by
 rcases h with ⟨rfl, h1, h2⟩ | ⟨cap, vs, bss, h1, h2, h3, h4, h5, h6, h7, h8, h9⟩
 · exact ⟨none, 0, 0, [], h1, ⟨rfl, Nat.le_refl _, by unfold maxLen; omega, fun _ => rfl, .inl ⟨rfl, rfl⟩⟩, fun _ hb => (by cases hb), fun _ => .inl rfl⟩
 · have hne : g.hd k ≠ .slice none 0 0 := by rw [h1]; intro e; cases e
   by_cases hx : xs = []
   · subst hx
     exact ⟨_, _, cap, [], h1, ⟨rfl, h2, h3, (fun h => by cases h), .inl ⟨rfl, rfl⟩⟩, fun _ hb => (by cases hb), fun _ => .inl rfl⟩
   · refine ⟨_, _, cap, g.ρ k :: bss.flatten, h1, SliceRep.mk rfl h2 h3 hx (Array.getElem?_eq_some_iff.1 h4).1 h6, fun b hb => ?_, fun hd => .inr ⟨hne, by rw [h9 hd]⟩⟩
     rcases List.mem_cons.1 hb with rfl | hb
     · exact .inr ⟨hne, rfl⟩
     · exact .inl (h7 b hb)
end

def Via (g : Gh) (l : Locs) (j b : Nat) : Prop :=
 ∃ (α : Type) (T : TypeId) (e : Enc α) (xs : List α), lkl l j = some (.arr T e xs true) ∧ ((g.hd j ≠ .slice none 0 0 ∧ b = g.ρ j) ∨ b ∈ g.F j)
theorem Via.disj {g : Gh} {l : Locs} {w : World} (m : MemR g l w) {i j b : Nat} (hi : Via g l i b) (hj : Via g l j b) : i = j := by
 by_cases hij : i = j
 · exact hij
 · exfalso
   obtain ⟨α, T, e, xs, h1, h2⟩ := hi
   obtain ⟨β, U, e', ys, h3, h4⟩ := hj
   rcases h2 with ⟨h5, rfl⟩ | h5
   · rcases h4 with ⟨h6, h7⟩ | h6
     · exact m.dis i j _ _ hij h1 h3 h5 h6 h7
     · exact m.notI h1 h5 ((m.fr j β U e' ys h3).2 _ h6).1
   · rcases h4 with ⟨h6, rfl⟩ | h6
     · exact m.notI h3 h6 ((m.fr i α T e xs h1).2 _ h5).1
     · exact m.fd i j α β T U e e' xs ys hij h1 h3 b h5 h6
theorem Via.own {g : Gh} {l : Locs} {j b : Nat} (h : Via g l j b) : OwnB g l b := by
 obtain ⟨α, T, e, xs, h1, h2⟩ := h
 rcases h2 with ⟨h3, rfl⟩ | h3
 · exact ⟨j, _, h1, .inl ⟨h3, rfl⟩⟩
 · exact ⟨j, _, h1, .inr ⟨α, T, e, xs, rfl, h3⟩⟩
theorem Via.cells {g : Gh} {l : Locs} {w : World} (m : MemR g l w) {j b : Nat} (h : Via g l j b) : ∃ c t, w.heap[b]? = some (.cells c t (0, 0)) := by
 obtain ⟨α, T, e, xs, h1, h2⟩ := h
 rcases h2 with ⟨h3, rfl⟩ | h3
 · rcases m.arr j _ _ _ _ _ h1 with ⟨_, h4, _⟩ | ⟨_, vs, _, _, _, _, h4, _⟩
   · exact absurd h4 h3
   · exact ⟨_, _, h4⟩
 · exact ((m.fr j α T e xs h1).2 b h3).2
def mvC (l : Locs) : List Cell → Option (List Cell × List Nat × Bool)
 | [] => some ([], [], true)
 | c :: cs => match mvC l cs with
   | none => none
   | some (ds, js, d) => match c with
     | .c v => some (.c v :: ds, js, d)
     | .sl e xs => some (.sl e xs :: ds, js, false)
     | .rx e x us b i => some (.rx e x us b i :: ds, js, false)
     | .en e x => some (.en e x :: ds, js, false)
     | .own j => match lkl l j with
       | some (.arr _ e xs q) => some (.sl e xs :: ds, j :: js, d && q)
       | _ => none
     | _ => none
def Im (g : Gh) (js : List Nat) (b : Nat) : Prop := ∃ j ∈ js, g.hd j ≠ .slice none 0 0 ∧ b = g.ρ j
theorem IC {g : Gh} {l : Locs} {w : World} (m : MemR g l w) : ∀ {vs : List Value} {cs ds : List Cell} {js : List Nat} {d : Bool}, All2 (CellR g l w) vs cs → mvC l cs = some (ds, js, d) → js.Nodup →
   ∃ bs, FR w vs ds bs ∧ (∀ b ∈ bs, g.I b ∨ Im g js b) ∧ (d = true → bs.Nodup ∧ ∀ b ∈ bs, ∃ j ∈ js, Via g l j b)
 | [], [], ds, js, d, _, h, _ => by
   simp only [mvC, Option.some.injEq, Prod.mk.injEq] at h
   obtain ⟨rfl, rfl, rfl⟩ := h
   exact ⟨[], rfl, fun _ hb => (by cases hb), fun _ => ⟨List.nodup_nil, fun _ hb => by cases hb⟩⟩
 | v :: vs, c :: cs, ds, js, d, hA, h, hn => by
   simp only [mvC] at h
   split at h
   · cases h
   · rename_i ds1 js1 d1 h1
     cases c with
     | c u =>
       simp only [Option.some.injEq, Prod.mk.injEq] at h
       obtain ⟨rfl, rfl, rfl⟩ := h
       obtain ⟨bs, f1, f2, f3⟩ := IC m hA.2 h1 hn
       exact ⟨bs, ⟨[], bs, rfl, ⟨hA.1.1, hA.1.2, rfl⟩, f1⟩, f2, f3⟩
     | sl e xs =>
       simp only [Option.some.injEq, Prod.mk.injEq] at h
       obtain ⟨rfl, rfl, rfl⟩ := h
       obtain ⟨bs, f1, f2, f3⟩ := IC m hA.2 h1 hn
       obtain ⟨a, n, cap, b1, g1, g2, g3⟩ := hA.1
       refine ⟨b1 ++ bs, ⟨b1, bs, rfl, ⟨a, n, cap, g1, g2⟩, f1⟩, fun b hb => ?_, fun hd => by cases hd⟩
       rcases List.mem_append.1 hb with hb | hb
       · exact .inl (g3 b hb)
       · exact f2 b hb
     | rx e x us b1 i =>
       simp only [Option.some.injEq, Prod.mk.injEq] at h
       obtain ⟨rfl, rfl, rfl⟩ := h
       obtain ⟨bs, f1, f2, f3⟩ := IC m hA.2 h1 hn
       refine ⟨b1 ++ bs, ⟨b1, bs, rfl, ⟨hA.1.1, hA.1.2.1, rfl⟩, f1⟩, fun b hb => ?_, fun hd => by cases hd⟩
       rcases List.mem_append.1 hb with hb | hb
       · exact .inl (hA.1.2.2 b hb)
       · exact f2 b hb
     | en e x =>
       simp only [Option.some.injEq, Prod.mk.injEq] at h
       obtain ⟨rfl, rfl, rfl⟩ := h
       obtain ⟨bs, f1, f2, f3⟩ := IC m hA.2 h1 hn
       obtain ⟨b1, g1, g2, g3⟩ := hA.1
       refine ⟨b1 ++ bs, ⟨b1, bs, rfl, ⟨g1, g2⟩, f1⟩, fun b hb => ?_, fun hd => by cases hd⟩
       rcases List.mem_append.1 hb with hb | hb
       · exact .inl (g3 b hb)
       · exact f2 b hb
     | own j =>
       simp only at h
       split at h
       · rename_i T e xs q hj
         simp only [Option.some.injEq, Prod.mk.injEq] at h
         obtain ⟨rfl, rfl, rfl⟩ := h
         have hn' := List.nodup_cons.1 hn
         obtain ⟨bs, f1, f2, f3⟩ := IC m hA.2 h1 hn'.2
         have hv : v = g.hd j := hA.1 _ _ _ _ _ hj
         obtain ⟨a, n, cap, b1, g1, g2, g3, g4⟩ := (m.arr j _ _ _ _ _ hj).slice
         refine ⟨b1 ++ bs, ⟨b1, bs, rfl, ⟨a, n, cap, hv.trans g1, g2⟩, f1⟩, fun b hb => ?_, fun hd => ?_⟩
         · rcases List.mem_append.1 hb with hb | hb
           · rcases g3 b hb with h | ⟨h, h'⟩
             · exact .inl h
             · exact .inr ⟨j, List.mem_cons_self .., h, h'⟩
           · rcases f2 b hb with h | ⟨i, h, h'⟩
             · exact .inl h
             · exact .inr ⟨i, List.mem_cons_of_mem _ h, h'⟩
         · simp only [Bool.and_eq_true] at hd
           obtain ⟨rfl, rfl⟩ := hd
           obtain ⟨n1, n2⟩ := f3 rfl
           have hvia : ∀ b ∈ b1, Via g l j b := fun b hb => by
             rcases g4 rfl with rfl | ⟨g5, rfl⟩
             · cases hb
             · rcases List.mem_cons.1 hb with rfl | hb
               · exact ⟨_, T, e, xs, hj, .inl ⟨g5, rfl⟩⟩
               · exact ⟨_, T, e, xs, hj, .inr hb⟩
           have hnd : b1.Nodup := by
             rcases g4 rfl with rfl | ⟨g5, rfl⟩
             · exact List.nodup_nil
             · refine List.nodup_cons.2 ⟨fun hm => m.notI hj g5 ((m.fr j _ T e xs hj).2 _ hm).1, (m.fr j _ T e xs hj).1⟩
           refine ⟨List.nodup_append.2 ⟨hnd, n1, fun x hx y hy exy => ?_⟩, fun b hb => ?_⟩
           · subst exy
             obtain ⟨i, hi, hvi⟩ := n2 x hy
             exact hn'.1 ((hvia x hx).disj m hvi ▸ hi)
           · rcases List.mem_append.1 hb with hb | hb
             · exact ⟨j, List.mem_cons_self .., hvia b hb⟩
             · obtain ⟨i, hi, hvi⟩ := n2 b hb
               exact ⟨i, List.mem_cons_of_mem _ hi, hvi⟩
       · cases h
     | _ => cases h
end Go.Proofs.YtkemjhlbokldhaaGreat

namespace Go.Proofs.YtkemjhlbokldhaaGreat
open Go.RowKit
set_option linter.unusedVariables false

def C9 (js : List Nat) : Locs := js.map fun j => (j, none)
theorem lk_gones {js : List Nat} {l : Locs} {k : Nat} : lk (C9 js ++ l) k = if k ∈ js then some none else lk l k := by
 induction js with
 | nil => simp [C9]
 | cons j js ih =>
   show lk ((j, none) :: (C9 js ++ l)) k = _
   by_cases h : j = k
   · subst h; rw [Bv]; simp
   · rw [B6 h, ih]
     by_cases h2 : k ∈ js
     · simp [h2]
     · have : ¬ k = j := fun e => h e.symm
       simp [h2, this]
theorem lkl_gones {js : List Nat} {l : Locs} {k : Nat} : lkl (C9 js ++ l) k = if k ∈ js then none else lkl l k := by
 unfold lkl
 rw [lk_gones]
 by_cases h : k ∈ js <;> simp [h]

theorem ArrR.lay {I : Nat → Prop} {ρ : Nat → Nat} {hd : Nat → Value} {F : Nat → List Nat} {α : Type} {e : Enc α} {f : α → List Cell} [hc : CellsOf e f] {w : World} {k blk : Nat} {T : TypeId} {xs : List α} {d : Bool} {v : Value} {cells : List Value} {bs : List Nat}
   (h : w.ownsRow 0 T e.size v xs.length cells) (hf : FR w cells (xs.flatMap f) bs) (hI : ∀ b ∈ bs, I b) (hb : ∀ b, v.ownBlock = some b → b = blk ∧ ¬ I b) : ArrR ⟨I, Dt ρ k blk, Dt hd k v, Dt F k bs⟩ w k T e xs d := by
 refine ArrR.ofRow (cells := cells) (bs := bs) ?_ hf hI (fun _ => setAt_self) (fun b hb' => ?_)
 · show w.ownsRow 0 T e.size (Dt hd k v k) xs.length cells
   rw [setAt_self]; exact h
 · have h1 : (Dt hd k v k).ownBlock = some b := hb'
   rw [setAt_self] at h1
   obtain ⟨rfl, h2⟩ := hb b h1
   exact ⟨setAt_self.symm, h2⟩
section
variable {g : Gh} {l : Locs} {w w' : World}
theorem arr_new (m : MemR g l w) {k : Nat} (hk : lk l k = none) (hki : k ∉ l.ids) {js fz : List Nat} (hsub : ∀ j ∈ fz, j ∈ js) (hjs : ∀ j ∈ js, ∃ (α : Type) (T : TypeId) (e : Enc α) (xs : List α) (d : Bool), lkl l j = some (.arr T e xs d))
   {α : Type} {T : TypeId} {e : Enc α} {xs : List α} {d : Bool} {blk : Nat} {v : Value} {fp : List Nat}
   (hos : w'.os = w.os) (htp : w'.tape = w.tape) (hout : w'.output = w.output) (hs : w.heap.size ≤ w'.heap.size)
   (hkeep : ∀ b, b < w.heap.size → (∀ j ∈ js, j ∉ fz → g.hd j ≠ .slice none 0 0 → b ≠ g.ρ j) → w'.heap[b]? = w.heap[b]?)
   (hA : ArrR ⟨fun b => g.I b ∨ Im g fz b, Dt g.ρ k blk, Dt g.hd k v, Dt g.F k fp⟩ w' k T e xs d)
   (hblk : v ≠ .slice none 0 0 → blk < w'.heap.size ∧ (w.heap.size ≤ blk ∨ ∃ j ∈ js, j ∉ fz ∧ g.hd j ≠ .slice none 0 0 ∧ blk = g.ρ j))
   (hfp : d = true → fp.Nodup ∧ ∀ b ∈ fp, (g.I b ∨ Im g fz b) ∧ (∃ c t, w'.heap[b]? = some (.cells c t (0, 0))) ∧ ∃ j ∈ js, Via g l j b) :
   ∃ g', g'.ρ k = blk ∧ g'.hd k = v ∧ MemR g' ((k, some (.arr T e xs d)) :: (C9 js ++ l)) w' ∧ (∀ K, Step K g l w g' ((k, some (.arr T e xs d)) :: (C9 js ++ l)) w') ∧
     (∀ b, g.I b → w'.heap[b]? = w.heap[b]?) ∧ (∀ b, g.I b → g'.I b) ∧ ∀ j, j ≠ k → okK g l g' ((k, some (.arr T e xs d)) :: (C9 js ++ l)) j := by
 let g' : Gh := ⟨fun b => g.I b ∨ Im g fz b, Dt g.ρ k blk, Dt g.hd k v, Dt g.F k fp⟩
 have hkj : k ∉ js := fun h => by
   obtain ⟨_, _, _, _, _, h1⟩ := hjs k h
   have : lkl l k = none := by unfold lkl; rw [hk]
   rw [this] at h1; cases h1
 have hi : ∀ b, g.I b → w'.heap[b]? = w.heap[b]? := fun b hb => hkeep b (m.ilt b hb) fun j hj _ hl e => by
   obtain ⟨_, _, _, _, _, h1⟩ := hjs j hj
   exact m.notI h1 hl (e ▸ hb)
 have hl' : ∀ j, j ≠ k → lkl ((k, some (.arr T e xs d)) :: (C9 js ++ l)) j = if j ∈ js then none else lkl l j := fun j hj => by
   rw [Bs (Ne.symm hj), lkl_gones]
 have hu : ∀ j, j ≠ k → lkl ((k, some (.arr T e xs d)) :: (C9 js ++ l)) j = none ∨ Untouched g l w g' ((k, some (.arr T e xs d)) :: (C9 js ++ l)) w' j := fun j hj => by
   by_cases h : j ∈ js
   · left; rw [hl' j hj, if_pos h]
   · right
     refine ⟨by rw [hl' j hj, if_neg h], GN hj, GN hj, GN hj, fun b hb hlv => ⟨hkeep _ (m.lt hb hlv) fun i hi' _ hil e => ?_, fun hI => ?_⟩⟩
     · obtain ⟨_, _, _, _, _, h1⟩ := hjs i hi'
       exact m.dis j i _ _ (fun e => h (e ▸ hi')) hb h1 hlv hil e
     · rcases hI with hI | ⟨i, hif, hil, e⟩
       · exact m.notI hb hlv hI
       · obtain ⟨_, _, _, _, _, h1⟩ := hjs i (hsub i hif)
         exact m.dis j i _ _ (fun e => h (e ▸ hsub i hif)) hb h1 hlv hil e
 have ok : ∀ j, j ≠ k → okK g l g' ((k, some (.arr T e xs d)) :: (C9 js ++ l)) j := fun j hj => by
   rcases hu j hj with h | h
   · exact okK.gone h
   · exact h.ok
 have hlt : ∀ b, g'.I b → b < w'.heap.size := fun b hb => by
   rcases hb with hb | ⟨i, hif, hil, e⟩
   · exact Nat.lt_of_lt_of_le (m.ilt b hb) hs
   · obtain ⟨_, _, _, _, _, h1⟩ := hjs i (hsub i hif)
     rw [e]; exact Nat.lt_of_lt_of_le (m.lt h1 hil) hs
 refine ⟨g', setAt_self, setAt_self, m.set1 k hi (fun b hb => .inl hb) hs hlt hu (.inr hki) (fun cs hc => ?_) (fun β U e2 ys d2 hc => ?_) (fun j b b' hj h1 h2 h3 l1 l2 => ?_) (fun β U e2 ys hc => ?_) (fun j β γ U V e2 e3 ys zs hj h1 h2 h3 => ?_), fun K => ?_, hi, fun b hb => .inl hb, ok⟩
 · rw [Bb] at hc; cases hc
 · rw [Bb] at hc; cases hc; exact hA
 · rw [Bb] at h3; cases h3
   have hv : v ≠ .slice none 0 0 := by have := l2; show v ≠ _; rw [← (setAt_self (f := g.hd) (k := k) (v := v))]; exact this
   rw [show g'.ρ k = blk from setAt_self]
   rcases (hblk hv).2 with h | ⟨i, hij, _, hil, e⟩
   · have := m.lt h2 l1; omega
   · obtain ⟨_, _, _, _, _, h4⟩ := hjs i hij
     rw [e]
     refine m.dis j i _ _ (fun e => ?_) h2 h4 l1 hil
     subst e
     rw [hl' j hj, if_pos hij] at h1; cases h1
 · rw [Bb] at hc; cases hc
   rw [show g'.F k = fp from setAt_self]
   obtain ⟨n1, n2⟩ := hfp rfl
   exact ⟨n1, fun b hb => ⟨(n2 b hb).1, (n2 b hb).2.1⟩⟩
 · rw [Bb] at h3; cases h3
   rw [show g'.F k = fp from setAt_self]
   intro b hb hb'
   obtain ⟨i, hij, hvia⟩ := ((hfp rfl).2 b hb').2.2
   have : j = i := Via.disj m (b := b) ⟨β, U, e2, ys, h2, .inr hb⟩ hvia
   subst this
   rw [hl' j hj, if_pos hij] at h1; cases h1
 · refine ⟨hos, htp, hout, hs, fun b hb hn => hkeep b hb fun j hj _ hl e => ?_, fun b hb => .inl hb, fun b hb => ?_, Ic k hu (fun b hb hl => ?_) (fun β U e2 ys hc b hb => ?_), fun j hj hn => ?_⟩
   · obtain ⟨_, _, _, _, _, h1⟩ := hjs j hj
     exact hn j _ h1 hl e
   · rcases hb with hb | ⟨i, hif, hil, e⟩
     · exact .inl hb
     · obtain ⟨_, _, _, _, _, h1⟩ := hjs i (hsub i hif)
       exact .inr (.inr (e ▸ OwnB.of_live h1 hil))
   · rw [Bb] at hb; cases hb
     have hv : v ≠ .slice none 0 0 := by have := hl; rw [← (setAt_self (f := g.hd) (k := k) (v := v))]; exact this
     rw [show g'.ρ k = blk from setAt_self]
     rcases (hblk hv).2 with h | ⟨i, hij, _, hil, e⟩
     · exact .inr h
     · obtain ⟨_, _, _, _, _, h4⟩ := hjs i hij
       exact .inl (e ▸ OwnB.of_live h4 hil)
   · rw [Bb] at hc; cases hc
     rw [show g'.F k = fp from setAt_self] at hb
     obtain ⟨i, hij, hvia⟩ := ((hfp rfl).2 b hb).2.2
     exact .inl hvia.own
   · have hjk := key_ne hn hk
     refine ⟨?_, ok j hjk, fun cs hc => ?_⟩
     · rw [B6 (Ne.symm hjk), lk_gones]
       split
       · simp
       · exact hn
     · refine ⟨cs, ?_⟩
       rw [hl' j hjk, if_neg]
       · exact hc
       · intro hjj
         obtain ⟨_, _, _, _, _, h1⟩ := hjs j hjj
         rw [hc] at h1; cases h1
end

theorem run_app {P : Program} (w : World) (t ty e : TypeId) (i : TypeInfo) (z : Value) (size bytes : Nat) (ht : P.underlying t = some (.slice e)) (hi : P.info? e = some i) (hz : i.zero = some z)
   (hsize : i.size = size) (hby : i.bytes = bytes) (hzs : z.cells.size = size) (hsz : 0 < size)
   (v : Value) (n : Nat) (xs : List Value) (hown : w.ownsRow 0 e size v n xs)
   (a : Addr) (m c : Nat) (news : List Value) (hl : news.length = m * size) (hnews : ∀ j u, news[j]? = some u → w.cell? (a.add j) = some u) (h1 : ∀ u ∈ news, u.oneCell' = true)
   (h63 : n + m ≤ maxLen) (hbytes : (n + m) * bytes ≤ 140737488355328) :
   ∃ v' w', (Builtin.append_ #[t, t] ty #[v, .slice (some a) m c]).run P w = .ok v' w' ∧ w'.ownsRow 0 e size v' (n + m) (xs ++ news) ∧ w.grownBy w' v.ownBlock ∧
     ∀ b, v'.ownBlock = some b → v.ownBlock = some b ∨ w.heap.size ≤ b := by
 rcases hown.2 with ⟨rfl, rfl⟩ | ⟨g, cap, cur, rfl, hbg, hg, hnc, hcm, hcs, htake⟩
 · have h0 : w.ownsRow w.heap.size e size (.slice none 0 0) 0 xs := ⟨hown.1, .inl ⟨rfl, rfl⟩⟩
   obtain ⟨v', w', r1, r2, r3, _⟩ := run_append_own (P := P) w w.heap.size t ty e i z size bytes ht hi hz hsize hby hzs hsz _ _ _ h0 a m c news hl hnews h1 h63 hbytes (Nat.le_refl _)
   refine ⟨v', w', r1, ⟨r2.1, ?_⟩, r3, fun b hb => .inr (r2.lt b hb).1⟩
   rcases r2.2 with h | ⟨b, cap, cur, h2, _, h3⟩
   · exact .inl h
   · exact .inr ⟨b, cap, cur, h2, Nat.zero_le _, h3⟩
 · subst hsize
   subst hby
   by_cases hroom : n + m ≤ cap
   · have hfit : n * i.size + news.length ≤ cur.size := by rw [hl, hcs, ← Nat.add_mul]; exact Nat.mul_le_mul_right _ hroom
     obtain ⟨v', w', r1, r2, r3, _⟩ := run_append_own (P := P) w 0 t ty e i z i.size i.bytes ht hi hz rfl rfl hzs hsz _ _ _ hown a m c news hl hnews h1 h63 hbytes (Nat.zero_le _)
     have hr := run_append_room (P := P) w t ty e i ht hi g n cap cur hg a m c news hl hnews h1 hroom hfit
     rw [hr] at r1
     cases r1
     exact ⟨_, _, hr, r2, r3, fun b hb => .inl hb⟩
   · obtain ⟨v', w', r1, r2, r3, _⟩ := run_append_own (P := P) w 0 t ty e i z i.size i.bytes ht hi hz rfl rfl hzs hsz _ _ _ hown a m c news hl hnews h1 h63 hbytes (Nat.zero_le _)
     have holds : ∀ j u, xs[j]? = some u → w.cell? ((⟨g, 0, none⟩ : Addr).add j) = some u := hown.cells (g := g) rfl
     have hsmall : n + m ≤ 9223372036854775807 := by simp only [maxLen] at h63; omega
     have hr := run_append_grow (P := P) w t ty e i z ht hi hz ⟨g, 0, none⟩ n cap xs hown.1 holds a m c news hl hnews (by omega) (by omega) (growslice_fits (by omega) hbytes)
     rw [hr] at r1
     cases r1
     exact ⟨_, _, hr, r2, r3, fun b hb => .inr (by simp [Value.ownBlock] at hb; omega)⟩
theorem run_app_nil {P : Program} (w : World) (t ty e : TypeId) (i : TypeInfo) (ht : P.underlying t = some (.slice e)) (hi : P.info? e = some i) (base : Option Addr) (n cap : Nat) (hle : n ≤ cap) :
   (Builtin.append_ #[t, t] ty #[.slice base n cap, .slice none 0 0]).run P w = .ok (.slice base n cap) w := by
 cases base <;> simp [Builtin.append_, run_underlying ht, sizeOf, typeInfo, hi, Builtin.lenOf, Builtin.firstCells, loadCells, storeCells, hle]
end Go.Proofs.YtkemjhlbokldhaaGreat

namespace Go.Proofs.YtkemjhlbokldhaaGreat
open Go.RowKit
set_option linter.unusedVariables false

def FitL : List Cell → List Cell → Prop
 | [], [] => True
 | c :: cs, d :: ds => (c = d ∨ (c = .c (.slice none 0 0) ∧ ∃ (α : Type) (e : Enc α), d = .sl e [])) ∧ FitL cs ds
 | _, _ => False
theorem FitL.rf : ∀ {cs : List Cell}, FitL cs cs
 | [] => trivial
 | c :: cs => ⟨.inl rfl, FitL.rf⟩
theorem FR.fit {w : World} : ∀ {vs : List Value} {cs ds : List Cell} {b : List Nat}, FR w vs cs b → FitL cs ds → FR w vs ds b
 | [], [], [], b, h, _ => h
 | v :: vs, c :: cs, d :: ds, b, h, hf => by
   obtain ⟨b1, b2, rfl, h1, h2⟩ := h
   refine ⟨b1, b2, rfl, ?_, FR.fit h2 hf.2⟩
   rcases hf.1 with rfl | ⟨rfl, α, e, rfl⟩
   · exact h1
   · obtain ⟨h3, _, rfl⟩ := h1
     exact ⟨none, 0, 0, h3, rfl, Nat.le_refl _, by unfold maxLen; omega, fun _ => rfl, .inl ⟨rfl, rfl⟩⟩
def Ja : List Nat → Bool
 | [] => true
 | j :: js => FZ j js && Ja js
theorem noDup_of : ∀ {js : List Nat}, Ja js = true → js.Nodup
 | [], _ => List.nodup_nil
 | j :: js, h => by
   simp only [Ja, Bool.and_eq_true] at h
   exact List.nodup_cons.2 ⟨Er h.1, noDup_of h.2⟩
theorem mvC_of {l l' : Locs} : ∀ {cs : List Cell} {r : List Cell × List Nat × Bool}, mvC l cs = some r → (∀ p ∈ rlC l cs, lkl l' p.1 = some p.2) → mvC l' cs = some r
 | [], r, h, _ => h
 | c :: cs, r, h, hp => by
   have hp' : ∀ p ∈ rlC l cs, lkl l' p.1 = some p.2 := fun p hm => hp p (by
     unfold rlC at hm ⊢
     rw [List.flatMap_cons, List.filterMap_append]
     exact List.mem_append_right _ hm)
   simp only [mvC] at h ⊢
   split at h
   · cases h
   · rename_i ds js d h1
     rw [mvC_of h1 hp']
     cases c with
     | own j =>
       simp only at h ⊢
       split at h
       · rename_i T e xs q hj
         rw [HY hp (List.mem_cons_self ..) (by simp [Cell.ids]) hj]
         exact h
       · cases h
     | _ => exact h
theorem DS {l : Locs} : ∀ {cs : List Cell} {ds : List Cell} {js : List Nat} {d : Bool}, mvC l cs = some (ds, js, d) → ∀ j ∈ js, (∃ (α : Type) (T : TypeId) (e : Enc α) (xs : List α) (q : Bool), lkl l j = some (.arr T e xs q)) ∧ j ∈ cs.flatMap Cell.ids
 | [], ds, js, d, h, j, hj => by
   simp only [mvC, Option.some.injEq, Prod.mk.injEq] at h
   obtain ⟨_, rfl, _⟩ := h
   cases hj
 | c :: cs, ds, js, d, h, j, hj => by
   have up : ∀ {i : Nat}, i ∈ cs.flatMap Cell.ids → i ∈ (c :: cs).flatMap Cell.ids := fun hi => by rw [List.flatMap_cons]; exact List.mem_append_right _ hi
   simp only [mvC] at h
   split at h
   · cases h
   · rename_i ds1 js1 d1 h1
     cases c with
     | c u =>
       simp only [Option.some.injEq, Prod.mk.injEq] at h
       obtain ⟨_, rfl, _⟩ := h
       exact ⟨(DS h1 j hj).1, up (DS h1 j hj).2⟩
     | sl e xs =>
       simp only [Option.some.injEq, Prod.mk.injEq] at h
       obtain ⟨_, rfl, _⟩ := h
       exact ⟨(DS h1 j hj).1, up (DS h1 j hj).2⟩
     | rx e x us b i =>
       simp only [Option.some.injEq, Prod.mk.injEq] at h
       obtain ⟨_, rfl, _⟩ := h
       exact ⟨(DS h1 j hj).1, up (DS h1 j hj).2⟩
     | en e x =>
       simp only [Option.some.injEq, Prod.mk.injEq] at h
       obtain ⟨_, rfl, _⟩ := h
       exact ⟨(DS h1 j hj).1, up (DS h1 j hj).2⟩
     | own i =>
       simp only at h
       split at h
       · rename_i T e xs q hi
         simp only [Option.some.injEq, Prod.mk.injEq] at h
         obtain ⟨_, rfl, _⟩ := h
         rcases List.mem_cons.1 hj with rfl | hj
         · exact ⟨⟨_, T, e, xs, q, hi⟩, by rw [List.flatMap_cons]; exact List.mem_append_left _ (by simp [Cell.ids])⟩
         · exact ⟨(DS h1 j hj).1, up (DS h1 j hj).2⟩
       · cases h
     | _ => cases h

def arrT (P : Program) (T : TypeId) : Option (TypeId × Nat × Nat) :=
 match P.underlying T with
 | some (.slice e) => match P.info? e with
   | some i => match i.zero with
     | some z => if z.cells.size = i.size ∧ 0 < i.size then some (e, i.size, i.bytes) else none
     | none => none
   | none => none
 | _ => none
theorem IS {P : Program} {T E n b : Nat} (h : arrT P T = some (E, n, b)) : P.underlying T = some (.slice E) ∧ 0 < n ∧ ∃ i z, P.info? E = some i ∧ i.zero = some z ∧ z.cells.size = n ∧ i.size = n ∧ i.bytes = b := by
 unfold arrT at h
 split at h
 · rename_i e hu
   split at h
   · rename_i i hi
     split at h
     · rename_i z hz
       split at h
       · rename_i hc
         cases h
         exact ⟨hu, hc.2, i, z, hi, hz, hc.1, rfl, rfl⟩
       · cases h
     · cases h
   · cases h
 · cases h

section
variable {g : Gh} {l : Locs} {w : World}
theorem vr1s_cells : ∀ {vs : List Value} {Xs : List AVal}, (Xs.flatMap AVal.cells).all (Dm l) = true → MemR g l w → All2 (VR g l w) vs Xs → DC Xs = true → All2 (CellR g l w) (vs.flatMap fun v => v.cells.toList) (Xs.flatMap AVal.cells)
 | [], [], _, _, _, _ => trivial
 | v :: vs, X :: Xs, hs, m, h, hf => by
   simp only [DC, Bool.and_eq_true] at hf
   rw [List.flatMap_cons, List.all_append, Bool.and_eq_true] at hs
   rw [List.flatMap_cons, List.flatMap_cons]
   exact (Gb hs.1 m h.1 hf.1).app (vr1s_cells hs.2 m h.2 hf.2)
theorem vr1s_size {n : Nat} : ∀ {vs : List Value} {Xs : List AVal}, (Xs.flatMap AVal.cells).all (Dm l) = true → MemR g l w → All2 (VR g l w) vs Xs → DC Xs = true → Xs.all (fun X => Nat.beq X.cells.length n) = true → ∀ v ∈ vs, v.cells.size = n
 | [], [], _, _, _, _, _, v, hv => by cases hv
 | v :: vs, X :: Xs, hs, m, h, hf, hn, u, hu => by
   simp only [DC, Bool.and_eq_true] at hf
   rw [List.flatMap_cons, List.all_append, Bool.and_eq_true] at hs
   simp only [List.all_cons, Bool.and_eq_true] at hn
   rcases List.mem_cons.1 hu with rfl | hu
   · have := (Gb hs.1 m h.1 hf.1).len
     rw [Nat.eq_of_beq_eq_true hn.1] at this
     simpa using this
   · exact vr1s_size hs.2 m h.2 hf.2 hn.2 u hu
end

theorem FR.rows {α : Type} {e : Enc α} {f : α → List Cell} [hc : CellsOf e f] {w : World} : ∀ {xs : List α} {vs : List Value} {bs : List Nat}, FR w vs (xs.flatMap f) bs → vs.length = xs.length * e.size
 | [], [], bs, h => by simp
 | [], v :: vs, bs, h => h.elim
 | x :: xs, vs, bs, h => by
   rw [List.flatMap_cons] at h
   obtain ⟨v1, v2, b1, b2, rfl, rfl, h1, h2⟩ := FR.app.1 h
   rw [List.length_append, e.len (hc.iff.2 h1), FR.rows (e := e) h2, List.length_cons, Nat.add_mul]
   omega
section ops
variable {P : Program} {N : Nat} {s : St} {d : Nat} {ty : TypeId} {pos : String} {after : Array Edge} {gd : Option (Nat × Bool)}
theorem x_bslice {α : Type} {e : Enc α} {f : α → List Cell} [hc : CellsOf e f] {T E n b len : Nat} (ops : List Operand) {parts : Array (Nat × Operand)} {Xs : List AVal} (xs : List α) {ds : List Cell} {js : List Nat} {dp : Bool} (k : Nat) (hN : Nat.blt d N = true)
   (hparts : parts = ((ops.zipIdx 0).map fun x => (x.2, x.1)).toArray) (hev : evl s.t ops = some Xs) (hfl : DC Xs = true) (hsol : (Xs.flatMap AVal.cells).all (Dm s.l) = true)
   (hT : arrT P T = some (E, n, b)) (hlen : ops.length = len) (hsz : Xs.all (fun X => Nat.beq X.cells.length n) = true) (hes : e.size = n)
   (hmv : mvC s.l (Xs.flatMap AVal.cells) = some (ds, js, dp)) (hfit : FitL ds (xs.flatMap f)) (hnd : Ja js = true) (hxs : xs.length = len) (hpos : Nat.blt 0 len = true) (hsmall : Nat.ble (len * n) 16777216 = true)
   (hk : lk s.l k = none) (hi : FZ k s.ids = true) :
   Stp P N ⟨some d, .buildSlice T len parts, ty, pos, after, gd⟩ s ⟨(d, .one (.own k)) :: s.t, (k, some (.arr E e xs dp)) :: (C9 js ++ s.l)⟩ ⟨rdl s.t ops, rlC s.l (Xs.flatMap AVal.cells), [(d, .one (.own k))], (k, some (.arr E e xs dp)) :: C9 js, [k]⟩ := by
 refine ⟨fun K g s' a w hp r => ?_, ⟨(EG (N := N) hev).1, Fy, fun j hj => by simp at hj; subst hj; exact ⟨hk, Er hi⟩⟩, by simp [Cert.upd]⟩
 obtain ⟨p1, p2, p3⟩ := hp
 have hvs := (EG hev).2 r p1
 have hs' : (Xs.flatMap AVal.cells).all (Dm s'.l) = true := List.all_eq_true.2 fun x hx => GK p2 hx (List.all_eq_true.1 hsol x hx)
 have hmv' := mvC_of hmv p2
 obtain ⟨n1, n2⟩ := p3 k (by simp)
 obtain ⟨hu, hn0, ti, z, hti, hz, hzs, htis, htib⟩ := IS hT
 have hA := vr1s_cells hs' r.mem hvs hfl
 have hS := vr1s_size hs' r.mem hvs hfl hsz
 have hjn := noDup_of hnd
 obtain ⟨bs, f1, f2, f3⟩ := IC r.mem hA hmv' hjn
 replace f1 := f1.fit hfit
 have hln : (ops.map a.eval).length = len := by simpa using hlen
 have hpos' : 0 < len := DJ hpos
 have hsm' : len * n ≤ 16777216 := Nat.le_of_ble_eq_true hsmall
 have hfill := Great.fill_whole (s := n) hn0 (ops.map a.eval) ((Array.range (len * n)).map (z.cells[· % z.cells.size]!)) hS (by rw [hln]; simp)
 have hrun := run_buildSlice (P := P) w T E len (parts.map fun (i, x) => (i, a.eval x)) _ ti z hu hti hz (by rw [htis]; omega) (by rw [htis]; have := Nat.mul_pos hpos' hn0; omega) (by
   rw [htis, hparts]
   have : (((ops.zipIdx 0).map fun x => (x.2, x.1)).toArray.map fun (x : Nat × Operand) => (x.1, a.eval x.2)).toList = ((ops.map a.eval).zipIdx 0).map fun x => (x.2, x.1) := by
     simp [List.zipIdx_map, Function.comp_def]
   exact (congrArg _ this).trans hfill)
 generalize hflat : ((ops.map a.eval).flatMap fun v => v.cells.toList) = flat at *
 have hfl2 : flat.length = len * n := by rw [FR.rows (e := e) f1, hxs, hes]
 have hrow : (w.alloc (.cells flat.toArray E)).ownsRow 0 E e.size (.slice (some ⟨w.heap.size, 0, none⟩) len len) xs.length flat :=
   ⟨by rw [hfl2, hxs, hes], .inr ⟨w.heap.size, len, flat.toArray, by rw [hxs], Nat.zero_le _, heap_alloc_new w _, by rw [hxs]; exact Nat.le_refl _, by
     have : len ≤ len * n := Nat.le_mul_of_pos_right _ hn0
     unfold maxLen; omega, by simp [hfl2, hes], by rw [hxs, hes, ← hfl2]; simp⟩⟩
 have hgone : ∀ j ∈ js, ∃ (α : Type) (T : TypeId) (e : Enc α) (xs : List α) (d : Bool), lkl s'.l j = some (.arr T e xs d) := fun j hj => (DS hmv' j hj).1
 have hkeep : ∀ b, b < w.heap.size → (w.alloc (.cells flat.toArray E)).heap[b]? = w.heap[b]? := fun b hb => Below.heap_alloc w _ b hb
 have hbl : ∀ b ∈ bs, b < w.heap.size := fun b hb => by
   rcases f2 b hb with h | ⟨j, hj, h1, h2⟩
   · exact r.mem.ilt b h
   · obtain ⟨_, _, _, _, _, h3⟩ := hgone j hj
     rw [h2]; exact r.mem.lt h3 h1
 have hkl : lkl s'.l k = none := by unfold lkl; rw [n1]
 obtain ⟨g', q1, q2, q3, q4, q5, q6, q7⟩ := arr_new (w' := w.alloc (.cells flat.toArray E)) r.mem n1 (fun h => n2 (List.mem_append_right _ h)) (js := js) (fz := js) (fun _ h => h) hgone (T := E) (e := e) (xs := xs) (d := dp) (blk := w.heap.size) (v := .slice (some ⟨w.heap.size, 0, none⟩) len len) (fp := bs)
   rfl rfl rfl (by simp) (fun b hb _ => hkeep b hb)
   (ArrR.lay hrow (f1.keep (fun b hb => hkeep b (hbl b hb)) (by simp)) f2 (fun b hb => by
     simp [Value.ownBlock] at hb
     subst hb
     refine ⟨rfl, fun hI => ?_⟩
     rcases hI with hI | ⟨j, hj, h1, h2⟩
     · have := r.mem.ilt _ hI; omega
     · obtain ⟨_, _, _, _, _, h3⟩ := hgone j hj
       have := r.mem.lt h3 h1; omega))
   (fun _ => ⟨by simp, .inl (Nat.le_refl _)⟩)
   (fun hd => ⟨(f3 hd).1, fun b hb => ⟨f2 b hb, by
     obtain ⟨j, hj, hv⟩ := (f3 hd).2 b hb
     obtain ⟨c, t, h⟩ := hv.cells r.mem
     exact ⟨c, t, by rw [hkeep b (hbl b hb)]; exact h⟩, (f3 hd).2 b hb⟩⟩)
 unfold Oper.wp
 have hrun' : (execOp a.eval ⟨some d, .buildSlice T len parts, ty, pos, after, gd⟩).run P w = .ok (.value (.slice (some ⟨w.heap.size, 0, none⟩) len len)) (w.alloc (.cells flat.toArray E)) := by
   simp only [execOp, Sem.run_bind, hrun, Result.andThen_ok]; rfl
 rw [hrun', Oper.upon_value]
 refine ⟨g', r.next (DJ hN) q5 q6 (by simp) (fun j hj => q7 j fun e => n2 (e ▸ hj)) (fun β U e2 ys dd hc => ?_) q3, q4 K⟩
 exact q2.symm
end ops
end Go.Proofs.YtkemjhlbokldhaaGreat

namespace Go.Proofs.YtkemjhlbokldhaaGreat
open Go.RowKit
set_option linter.unusedVariables false

def Src2 (w : World) (v : Value) (m size : Nat) (news : List Value) : Prop :=
 news.length = m * size ∧ ((v = .slice none 0 0 ∧ m = 0) ∨ ∃ a c, v = .slice (some a) m c ∧ ∀ j u, news[j]? = some u → w.cell? (a.add j) = some u)
theorem run_app2 {P : Program} (w : World) (t ty e : TypeId) (i : TypeInfo) (z : Value) (size bytes : Nat) (ht : P.underlying t = some (.slice e)) (hi : P.info? e = some i) (hz : i.zero = some z)
   (hsize : i.size = size) (hby : i.bytes = bytes) (hzs : z.cells.size = size) (hsz : 0 < size)
   (v : Value) (n : Nat) (xs : List Value) (hown : w.ownsRow 0 e size v n xs) (u : Value) (m : Nat) (news : List Value) (hsrc : Src2 w u m size news) (h1 : ∀ u ∈ news, u.oneCell' = true)
   (h63 : n + m ≤ maxLen) (hbytes : (n + m) * bytes ≤ 140737488355328) :
   ∃ v' w', (Builtin.append_ #[t, t] ty #[v, u]).run P w = .ok v' w' ∧ w'.ownsRow 0 e size v' (n + m) (xs ++ news) ∧ w.grownBy w' v.ownBlock ∧
     ∀ b, v'.ownBlock = some b → v.ownBlock = some b ∨ w.heap.size ≤ b := by
 rcases hsrc.2 with ⟨rfl, rfl⟩ | ⟨a, c, rfl, hc⟩
 · have hn : news = [] := List.eq_nil_of_length_eq_zero (by simpa using hsrc.1)
   subst hn
   have : ∃ base n' cap, v = .slice base n' cap ∧ n' ≤ cap := by
     rcases hown.2 with ⟨rfl, _⟩ | ⟨g, cap, cur, rfl, _, _, hnc, _⟩
     · exact ⟨none, 0, 0, rfl, Nat.le_refl _⟩
     · exact ⟨_, _, _, rfl, hnc⟩
   obtain ⟨base, n', cap, rfl, hle⟩ := this
   exact ⟨_, w, run_app_nil w t ty e i ht hi base n' cap hle, by simpa using hown, ⟨rfl, rfl, rfl, Nat.le_refl _, fun _ _ _ => rfl⟩, fun b hb => .inl hb⟩
 · exact run_app w t ty e i z size bytes ht hi hz hsize hby hzs hsz v n xs hown a m c news hsrc.1 hc h1 h63 hbytes
theorem src_of_row {w : World} {T : TypeId} {size n : Nat} {v : Value} {cells : List Value} (h : w.ownsRow 0 T size v n cells) : Src2 w v n size cells := by
 refine ⟨h.1, ?_⟩
 rcases h.2 with h1 | ⟨g, cap, cur, rfl, _⟩
 · exact .inl h1
 · exact .inr ⟨_, cap, rfl, h.cells rfl⟩
theorem flatMap_app {α : Type} {f : α → List Cell} {xs ys : List α} : (xs ++ ys).flatMap f = xs.flatMap f ++ ys.flatMap f := List.flatMap_append

section
variable {g : Gh} {l : Locs} {w w' : World}
theorem app_lay (m : MemR g l w) {k k' : Nat} (hk' : lk l k' = none) (hki : k' ∉ l.ids) {js : List Nat} (hkj : k ∈ js) (hjs : ∀ j ∈ js, ∃ (α : Type) (T : TypeId) (e : Enc α) (xs : List α) (d : Bool), lkl l j = some (.arr T e xs d))
   {α : Type} {E : TypeId} {e : Enc α} {f : α → List Cell} [hc : CellsOf e f] {xs ys : List α} {d : Bool} {cells news : List Value} {b1 b2 : List Nat} {v' : Value}
   (hF : FR w cells (xs.flatMap f) b1) (hF2 : FR w news (ys.flatMap f) b2) (hI : ∀ b ∈ b1 ++ b2, g.I b) (hob : ∀ b, (g.hd k).ownBlock = some b → b = g.ρ k)
   (hrow : w'.ownsRow 0 E e.size v' (xs.length + ys.length) (cells ++ news)) (hgr : w.grownBy w' (g.hd k).ownBlock) (hblk : ∀ b, v'.ownBlock = some b → (g.hd k).ownBlock = some b ∨ w.heap.size ≤ b)
   (hd : d = true → (b1 ++ b2).Nodup ∧ ∀ b ∈ b1 ++ b2, ∃ j ∈ js, Via g l j b) :
   ∃ g', g'.hd k' = v' ∧ MemR g' ((k', some (.arr E e (xs ++ ys) d)) :: (C9 js ++ l)) w' ∧ (∀ K, Step K g l w g' ((k', some (.arr E e (xs ++ ys) d)) :: (C9 js ++ l)) w') ∧
     (∀ b, g.I b → w'.heap[b]? = w.heap[b]?) ∧ (∀ b, g.I b → g'.I b) ∧ ∀ j, j ≠ k' → okK g l g' ((k', some (.arr E e (xs ++ ys) d)) :: (C9 js ++ l)) j := by
 obtain ⟨α0, T0, e0, xs0, d0, hk0⟩ := hjs k hkj
 have hlive : ∀ b, (g.hd k).ownBlock = some b → g.hd k ≠ .slice none 0 0 := fun b hb e => by rw [e] at hb; cases hb
 have hnI : ∀ b, (g.hd k).ownBlock = some b → ¬ g.I b := fun b hb => by rw [hob b hb]; exact m.notI hk0 (hlive b hb)
 have hkeepI : ∀ b, g.I b → w'.heap[b]? = w.heap[b]? := fun b hb => hgr.block b (m.ilt b hb) fun e => hnI b e.symm hb
 have hFR := (FR.app.2 ⟨cells, news, b1, b2, rfl, rfl, hF, hF2⟩).keep (w' := w') (fun b hb => hkeepI b (hI b hb)) hgr.size
 rw [← flatMap_app] at hFR
 have hIb : ∀ b, v'.ownBlock = some b → ¬ (g.I b ∨ Im g [] b) := fun b hb h => by
   rcases h with h | ⟨j, hj, _⟩
   · rcases hblk b hb with h1 | h1
     · exact hnI b h1 h
     · have := m.ilt b h; omega
   · cases hj
 obtain ⟨g', q1, q2, q3, q4, q5, q6, q7⟩ := arr_new (w' := w') m hk' hki (js := js) (fz := []) (fun _ h => by cases h) hjs (T := E) (e := e) (xs := xs ++ ys) (d := d) (blk := (v'.ownBlock).getD 0) (v := v') (fp := b1 ++ b2)
   hgr.os hgr.tape hgr.output hgr.size (fun b hb hn => hgr.block b hb fun e => hn k hkj (by simp) (hlive b e.symm) (hob b e.symm))
   (ArrR.lay (by rw [List.length_append]; exact hrow) hFR (fun b hb => .inl (hI b hb)) (fun b hb => ⟨by rw [hb]; rfl, hIb b hb⟩))
   (fun hv => by
     rcases hrow.2 with ⟨h1, _⟩ | ⟨b, cap, cur, h1, _, h3, _⟩
     · exact absurd h1 hv
     · have hb : v'.ownBlock = some b := by rw [h1]; rfl
       rw [hb]
       refine ⟨(Array.getElem?_eq_some_iff.1 h3).1, ?_⟩
       rcases hblk b hb with h | h
       · exact .inr ⟨k, hkj, by simp, hlive b h, hob b h⟩
       · exact .inl h)
   (fun hdd => ⟨(hd hdd).1, fun b hb => ⟨.inl (hI b hb), by
     obtain ⟨j, hj, hv⟩ := (hd hdd).2 b hb
     obtain ⟨c, t, h⟩ := hv.cells m
     exact ⟨c, t, by rw [hkeepI b (hI b hb)]; exact h⟩, (hd hdd).2 b hb⟩⟩)
 exact ⟨g', q2, q3, q4, q5, q6, q7⟩
end

section ops
variable {P : Program} {N : Nat} {s : St} {d : Nat} {ty : TypeId} {pos : String} {after : Array Edge} {gd : Option (Nat × Bool)}
theorem run_appop {P : Program} {N : Nat} {a : Act} {w w' : World} {v' : Value} {x y : Operand} {T : TypeId} (h : (Builtin.append_ #[T, T] ty #[a.eval x, a.eval y]).run P w = .ok v' w') :
   (execOp a.eval ⟨some d, .call { callee := .builtin .append, args := #[x, y], argTypes := #[T, T] }, ty, pos, after, gd⟩).run P w = .ok (.value v') w' := by
 simp only [execOp, resolve, invoke, builtin, Sem.run_bind, Sem.run_pure, Result.andThen_ok, List.map_toArray, List.map_cons, List.map_nil, h]
theorem x_append {α : Type} {e : Enc α} {f : α → List Cell} [hc : CellsOf e f] {T E n b : Nat} {x y : Operand} {xs ys : List α} {d1 d2 : Bool} {k j : Nat} (k' : Nat) (hN : Nat.blt d N = true)
   (h : evo s.t x = some (.one (.own k))) (h2 : evo s.t y = some (.one (.own j))) (hl : lkl s.l k = some (.arr E e xs d1)) (hl2 : lkl s.l j = some (.arr E e ys d2)) (hkj : Nat.beq k j = false)
   (hT : arrT P T = some (E, n, b)) (hes : e.size = n) (hk : lk s.l k' = none) (hi : FZ k' s.ids = true) (hbnd : xs.length + ys.length ≤ 1000000000) (hb : Nat.ble b 100000 = true) :
   Stp P N ⟨some d, .call { callee := .builtin .append, args := #[x, y], argTypes := #[T, T] }, ty, pos, after, gd⟩ s ⟨(d, .one (.own k')) :: s.t, (k', some (.arr E e (xs ++ ys) (d1 && d2))) :: (C9 [k, j] ++ s.l)⟩
     ⟨rdo x (.one (.own k)) ++ rdo y (.one (.own j)), [(k, .arr E e xs d1), (j, .arr E e ys d2)], [(d, .one (.own k'))], (k', some (.arr E e (xs ++ ys) (d1 && d2))) :: C9 [k, j], [k']⟩ := by
 refine ⟨fun K g s' a w hp r => ?_, ⟨FU h h2, by simp [hl, hl2], fun j hj => by simp at hj; subst hj; exact ⟨hk, Er hi⟩⟩, by simp [Cert.upd]⟩
 obtain ⟨p1, p2, p3⟩ := hp
 have e1 : CellR g s'.l w (a.eval x) (.own k) := B4 r (BC h) fun p hp => p1 p (List.mem_append_left _ hp)
 have e2 : CellR g s'.l w (a.eval y) (.own j) := B4 r (BC h2) fun p hp => p1 p (List.mem_append_right _ hp)
 have hl' : lkl s'.l k = some (.arr E e xs d1) := p2 (k, .arr E e xs d1) (by simp)
 have hl2' : lkl s'.l j = some (.arr E e ys d2) := p2 (j, .arr E e ys d2) (by simp)
 replace e1 := e1 _ _ _ _ _ hl'
 replace e2 := e2 _ _ _ _ _ hl2'
 obtain ⟨n1, n2⟩ := p3 k' (by simp)
 obtain ⟨hu, hn0, ti, z, hti, hz, hzs, htis, htib⟩ := IS hT
 obtain ⟨cells, b1, r1, f1, i1, F1, ob1⟩ := (r.mem.arr k _ _ _ _ _ hl').row
 obtain ⟨news, b2, r2, f2, i2, F2, ob2⟩ := (r.mem.arr j _ _ _ _ _ hl2').row
 have hkj' : k ≠ j := fun e => by subst e; simp at hkj
 have hb' := Nat.le_of_ble_eq_true hb
 obtain ⟨v', w', q1, q2, q3, q4⟩ := run_app2 (P := P) w T ty E ti z e.size b hu hti hz (by rw [hes]; exact htis) htib (by rw [hes]; exact hzs) (by rw [hes]; exact hn0) _ _ _ r1 _ _ _ (src_of_row r2) (FR.one f2)
   (by unfold maxLen; omega) (by
     have : (xs.length + ys.length) * b ≤ 1000000000 * 100000 := Nat.mul_le_mul hbnd hb'
     omega)
 have hgone : ∀ i ∈ [k, j], ∃ (α : Type) (T : TypeId) (e : Enc α) (xs : List α) (d : Bool), lkl s'.l i = some (.arr T e xs d) := fun i hi => by
   simp at hi
   rcases hi with rfl | rfl
   · exact ⟨α, E, e, xs, d1, hl'⟩
   · exact ⟨α, E, e, ys, d2, hl2'⟩
 obtain ⟨g', s1, s2, s3, s4, s5, s6⟩ := app_lay (w' := w') r.mem n1 (fun h => n2 (List.mem_append_right _ h)) (js := [k, j]) (List.mem_cons_self ..) hgone (E := E) (e := e) (xs := xs) (ys := ys) (d := d1 && d2) f1 f2
   (fun b hb => (List.mem_append.1 hb).elim (i1 b) (i2 b)) ob1 q2 q3 q4 (fun hd => by
     simp only [Bool.and_eq_true] at hd
     obtain ⟨rfl, rfl⟩ := hd
     have v1 : ∀ b ∈ b1, Via g s'.l k b := fun b hb => ⟨α, E, e, xs, hl', .inr (by rw [F1 rfl]; exact hb)⟩
     have v2 : ∀ b ∈ b2, Via g s'.l j b := fun b hb => ⟨α, E, e, ys, hl2', .inr (by rw [F2 rfl]; exact hb)⟩
     refine ⟨List.nodup_append.2 ⟨by rw [← F1 rfl]; exact (r.mem.fr k _ _ _ _ hl').1, by rw [← F2 rfl]; exact (r.mem.fr j _ _ _ _ hl2').1, fun x hx y hy exy => ?_⟩, fun b hb => ?_⟩
     · subst exy
       exact hkj' ((v1 x hx).disj r.mem (v2 x hy))
     · rcases List.mem_append.1 hb with hb | hb
       · exact ⟨k, by simp, v1 b hb⟩
       · exact ⟨j, by simp, v2 b hb⟩)
 unfold Oper.wp
 rw [run_appop (N := N) (by rw [e1, e2]; exact q1), Oper.upon_value]
 refine ⟨g', r.next (DJ hN) s4 s5 q3.size (fun j hj => s6 j fun e => n2 (e ▸ hj)) (fun β U e2 ys dd hc => ?_) s2, s3 K⟩
 exact s1.symm
end ops
end Go.Proofs.YtkemjhlbokldhaaGreat

namespace Go.Proofs.YtkemjhlbokldhaaGreat
open Go.RowKit
set_option linter.unusedVariables false

def setCs (cs : List Cell) (off : Nat) (xs : List Cell) : List Cell := cs.take off ++ (xs ++ cs.drop (off + xs.length))
def nthP : List (Nat × Nat) → Nat → Option (Nat × Nat)
 | [], _ => none
 | p :: _, 0 => some p
 | _ :: r, n + 1 => nthP r n
theorem nthP_get : ∀ {l : List (Nat × Nat)} {n : Nat}, nthP l n = l[n]?
 | [], n => by simp [nthP]
 | p :: l, 0 => rfl
 | _ :: r, n + 1 => by simpa [nthP] using nthP_get (l := r)
def bldA (places : List (Nat × Nat)) : List Cell → List Nat → List AVal → Option (List Cell)
 | cs, i :: is, X :: Xs => match nthP places i with
   | some (off, size) => match Nat.beq X.cells.length size, Nat.ble (off + size) cs.length with
     | true, true => bldA places (setCs cs off X.cells) is Xs
     | _, _ => none
   | none => none
 | cs, [], [] => some cs
 | _, _, _ => none
theorem fold_cells (off : Nat) (vs : List Value) (cs : Array Value) (h : off + vs.length ≤ cs.size) : (vs.toArray.zipIdx.foldl (fun cs (x : Value × Nat) => cs.setIfInBounds (off + x.2) x.1) cs).toList = cs.toList.take off ++ (vs ++ cs.toList.drop (off + vs.length)) := by
 obtain ⟨h1, h2⟩ := Great.foldl_set off vs 0 cs
 have e : (vs.toArray.zipIdx.foldl (fun cs (x : Value × Nat) => cs.setIfInBounds (off + x.2) x.1) cs) = ((vs.zipIdx 0).foldl (fun cs (x : Value × Nat) => cs.setIfInBounds (off + x.2) x.1) cs) := by simp
 rw [e]
 refine List.ext_getElem? fun k => ?_
 rw [Array.getElem?_toList, h2 k]
 simp only [Nat.add_zero]
 have hl : (cs.toList.take off).length = off := by simp; omega
 rcases Nat.lt_or_ge k off with hk | hk
 · rw [if_neg (by omega), List.getElem?_append_left (by omega), List.getElem?_take, if_pos hk]; simp
 · rw [List.getElem?_append_right (by omega), hl]
   rcases Nat.lt_or_ge k (off + vs.length) with hk2 | hk2
   · rw [if_pos ⟨hk, hk2, by omega⟩, List.getElem?_append_left (by omega)]
   · rw [if_neg (by omega), List.getElem?_append_right (by omega), List.getElem?_drop, show off + vs.length + (k - off - vs.length) = k by omega]; simp
theorem fill_bld {g : Gh} {l : Locs} {w : World} (m : MemR g l w) {places : List (Nat × Nat)} : ∀ {ps : List (Nat × Value)} {Xs : List AVal} {cells : Array Value} {cs ds : List Cell}, All2 (VR g l w) (ps.map (·.2)) Xs → DC Xs = true →
   (Xs.flatMap AVal.cells).all (Dm l) = true → All2 (CellR g l w) cells.toList cs → bldA places cs (ps.map (·.1)) Xs = some ds → ∃ r, Instr.fill (places.toArray[·]?) cells ps = some r ∧ All2 (CellR g l w) r.toList ds
 | [], [], cells, cs, ds, _, _, _, hA, hb => by
   simp only [List.map_nil, bldA, Option.some.injEq] at hb
   subst hb
   exact ⟨cells, rfl, hA⟩
 | (i, v) :: ps, X :: Xs, cells, cs, ds, h, hf, hs, hA, hb => by
   simp only [DC, Bool.and_eq_true] at hf
   rw [List.flatMap_cons, List.all_append, Bool.and_eq_true] at hs
   have hv := Gb hs.1 m h.1 hf.1
   simp only [List.map_cons, bldA] at hb
   split at hb
   · rename_i off size hp
     split at hb
     · rename_i h1 h2
       have h1 := Nat.eq_of_beq_eq_true h1
       have h2 := Nat.le_of_ble_eq_true h2
       have hvl : v.cells.toList.length = size := by rw [hv.len]; exact h1
       have hcl : cells.size = cs.length := by simpa using hA.len
       have hfc := fold_cells off v.cells.toList cells (by omega)
       have hA2 : All2 (CellR g l w) (v.cells.zipIdx.foldl (fun cs (x : Value × Nat) => cs.setIfInBounds (off + x.2) x.1) cells).toList (setCs cs off X.cells) := by
         have e : v.cells.toList.toArray = v.cells := by simp
         rw [e] at hfc
         rw [hfc]
         unfold setCs
         rw [← hv.len]
         exact (hA.take off).app (hv.app (hA.drop _))
       obtain ⟨r, r1, r2⟩ := fill_bld m h.2 hf.2 hs.2 hA2 hb
       refine ⟨r, ?_, r2⟩
       rw [nthP_get] at hp
       unfold Instr.fill
       simp only [List.getElem?_toArray, hp]
       rw [if_neg (by
         have : v.cells.size = size := by simpa using hvl
         simp [this]; omega)]
       simpa only [List.getElem?_toArray] using r1
     · cases hb
   · cases hb
def bldT (P : Program) (T : TypeId) : Option (List Value × List (Nat × Nat)) :=
 match P.info? T, P.underlying T with
 | some it, some (.struct fields) =>
   match it.zero, fields.toList.mapM (fun f => (P.info? f.type).map fun i => (f.offset, i.size)) with
   | some z, some places => some (z.cells.toList, places)
   | _, _ => none
 | _, _ => none
theorem bldT_spec {P : Program} {T : TypeId} {zs : List Value} {places : List (Nat × Nat)} (h : bldT P T = some (zs, places)) (parts : List (Nat × Value)) : P.built T parts = Instr.fill (places.toArray[·]?) zs.toArray parts := by
 unfold bldT at h
 split at h
 · rename_i it fields h1 h2
   split at h
   · rename_i z pl h3 h4
     cases h
     simp only [Program.built, h1, h2, h3, h4]
   · cases h
 · cases h
section ops
variable {P : Program} {N : Nat} {s : St} {d : Nat} {ty : TypeId} {pos : String} {after : Array Edge} {gd : Option (Nat × Bool)}
theorem x_build {T : TypeId} {parts : Array (Nat × Operand)} {zs : List Value} {places : List (Nat × Nat)} {Xs : List AVal} {cs ds : List Cell} (hN : Nat.blt d N = true) (hT : bldT P T = some (zs, places)) (hz : plainL zs = some cs)
   (hev : evl s.t (parts.toList.map (·.2)) = some Xs) (hfl : DC Xs = true) (hsol : (Xs.flatMap AVal.cells).all (Dm s.l) = true) (hb : bldA places cs (parts.toList.map (·.1)) Xs = some ds) :
   Stp P N ⟨some d, .build T parts, ty, pos, after, gd⟩ s ⟨(d, .agg ds) :: s.t, s.l⟩ ⟨rdl s.t (parts.toList.map (·.2)), rlC s.l (Xs.flatMap AVal.cells), [(d, .agg ds)], [], []⟩ :=
 Stp.pure rfl hN (EG (N := N) hev).1 Fy fun g s' a w p1 p2 r => by
   have hvs := (EG hev).2 r p1
   have hs' : (Xs.flatMap AVal.cells).all (Dm s'.l) = true := List.all_eq_true.2 fun x hx => GK p2 hx (List.all_eq_true.1 hsol x hx)
   have hps : (parts.toList.map fun x => (x.1, a.eval x.2)).map (·.2) = (parts.toList.map (·.2)).map a.eval := by simp
   have hps1 : (parts.toList.map fun x => (x.1, a.eval x.2)).map (·.1) = parts.toList.map (·.1) := by simp [Function.comp_def]
   obtain ⟨rr, r1, r2⟩ := fill_bld r.mem (ps := parts.toList.map fun x => (x.1, a.eval x.2)) (cells := zs.toArray) (by rw [hps]; exact hvs) hfl hs' (by simpa using I7 hz) (by rw [hps1]; exact hb)
   have hrun := run_build (P := P) w T (parts.map fun (i, x) => (i, a.eval x)) rr (by
     rw [bldT_spec hT, Array.toList_map]
     exact r1)
   refine ⟨.agg rr, by simp only [execOp, Sem.run_bind, hrun, Result.andThen_ok]; rfl, rr.toList, by simp, r2⟩
theorem Al {T : TypeId} {parts : Array (Nat × Operand)} (zs : List Value) (places : List (Nat × Nat)) {Xs : List AVal} {cs ds : List Cell} (hN : Nat.blt d N = true) (hT : bldT P T = some (zs, places)) (hz : plainL zs = some cs) (hev : evl s.t (parts.toList.map (·.2)) = some Xs) (hfl : DC Xs = true) (hsol : (Xs.flatMap AVal.cells).all (Dm s.l) = true) (hb : bldA places cs (parts.toList.map (·.1)) Xs = some ds) : Stp P N ⟨some d, .build T parts, ty, pos, after, gd⟩ s ⟨(d, .agg ds) :: s.t, s.l⟩ ⟨rdl s.t (parts.toList.map (·.2)), rlC s.l (Xs.flatMap AVal.cells), [(d, .agg ds)], [], []⟩ := x_build (zs := zs) (places := places) hN hT hz hev hfl hsol hb
theorem x_bslice0 {α : Type} {e : Enc α} {f : α → List Cell} [hc : CellsOf e f] {T E n b : Nat} (k : Nat) (hN : Nat.blt d N = true) (hT : arrT P T = some (E, n, b)) (hk : lk s.l k = none) (hi : FZ k s.ids = true) :
   Stp P N ⟨some d, .buildSlice T 0 #[], ty, pos, after, gd⟩ s ⟨(d, .one (.own k)) :: s.t, (k, some (.arr (α := α) E e [] true)) :: s.l⟩ ⟨[], [], [(d, .one (.own k))], [(k, some (.arr (α := α) E e [] true))], [k]⟩ := by
 refine ⟨fun K g s' a w hp r => ?_, ⟨by simp, by simp, fun j hj => by simp at hj; subst hj; exact ⟨hk, Er hi⟩⟩, rfl⟩
 obtain ⟨p1, p2, p3⟩ := hp
 obtain ⟨n1, n2⟩ := p3 k (by simp)
 obtain ⟨hu, hn0, ti, z, hti, hz, hzs, htis, htib⟩ := IS hT
 have hrun : (execOp a.eval ⟨some d, .buildSlice T 0 #[], ty, pos, after, gd⟩).run P w = .ok (.value (.slice (some ⟨w.heap.size, 0, none⟩) 0 0)) (w.alloc (.cells #[] E)) := by
   simp only [execOp, Instr.buildSlice, Sem.run_bind, run_underlying hu, sizeOf, typeInfo, Result.andThen_ok, Sem.run_pure]
   simp [Instr.fill, newRow, hti, show Array.range 0 = #[] from rfl]
 obtain ⟨g', q1, q2, q3, q4, q5, q6, q7⟩ := arr_new (w' := w.alloc (.cells #[] E)) r.mem n1 (fun h => n2 (List.mem_append_right _ h)) (js := []) (fz := []) (fun _ h => h) (fun j hj => by cases hj) (T := E) (e := e) (xs := ([] : List α)) (d := true) (blk := w.heap.size) (v := .slice (some ⟨w.heap.size, 0, none⟩) 0 0) (fp := [])
   rfl rfl rfl (by simp) (fun b hb _ => Below.heap_alloc w _ b hb)
   (ArrR.lay (cells := []) ⟨by simp, .inr ⟨w.heap.size, 0, #[], rfl, Nat.zero_le _, heap_alloc_new w _, Nat.le_refl _, by unfold maxLen; omega, by simp, by simp⟩⟩ (by rfl) (fun b hb => by cases hb) (fun b hb => by
     simp [Value.ownBlock] at hb
     subst hb
     refine ⟨rfl, fun hI => ?_⟩
     rcases hI with hI | ⟨j, hj, _⟩
     · have := r.mem.ilt _ hI; omega
     · cases hj))
   (fun _ => ⟨by simp, .inl (Nat.le_refl _)⟩) (fun _ => ⟨List.nodup_nil, fun b hb => by cases hb⟩)
 unfold Oper.wp
 rw [hrun, Oper.upon_value]
 refine ⟨g', r.next (DJ hN) q5 q6 (by simp) (fun j hj => q7 j fun e => n2 (e ▸ hj)) (fun β U e2 ys dd hc => ?_) q3, q4 K⟩
 exact q2.symm
end ops

section adopt
variable {P : Program} {N : Nat} {K : List Nat} {Kn : St → Prop} {Q : Exit → St → Prop} {s : St}
theorem nil_new {g : Gh} {l : Locs} {w : World} (m : MemR g l w) {k : Nat} (hk : lk l k = none) (hki : k ∉ l.ids) (α : Type) (T : TypeId) (e : Enc α) :
   ∃ g', g'.hd k = .slice none 0 0 ∧ MemR g' ((k, some (.arr (α := α) T e [] true)) :: l) w ∧ (∀ K, Step K g l w g' ((k, some (.arr (α := α) T e [] true)) :: l) w) ∧ (∀ b, g.I b → g'.I b) ∧ ∀ j, j ≠ k → okK g l g' ((k, some (.arr (α := α) T e [] true)) :: l) j := by
 obtain ⟨g', q1, q2, q3, q4, q5, q6, q7⟩ := arr_new (w' := w) m hk hki (js := []) (fz := []) (fun _ h => h) (fun j hj => by cases hj) (T := T) (e := e) (xs := ([] : List α)) (d := true) (blk := 0) (v := .slice none 0 0) (fp := [])
   rfl rfl rfl (Nat.le_refl _) (fun b hb _ => rfl) (.inl ⟨rfl, setAt_self, fun _ => setAt_self⟩) (fun h => absurd rfl h) (fun _ => ⟨List.nodup_nil, fun b hb => by cases hb⟩)
 exact ⟨g', q2, q3, q4, q6, q7⟩
theorem box_re {g : Gh} {l : Locs} {w : World} (m : MemR g l w) {b : Nat} {cs cs' : List Cell} (hb : lkl l b = some (.box cs)) (h : ∀ vs, All2 (CellR g l w) vs cs → All2 (CellR g l w) vs cs') :
   MemR g ((b, some (.box cs')) :: l) w ∧ (∀ K, Step K g l w g ((b, some (.box cs')) :: l) w) ∧ ∀ j, okK g l g ((b, some (.box cs')) :: l) j := by
 obtain ⟨vs, t, h1, h2, h3⟩ := m.box b cs hb
 have h4 := box_set m hb (vs := vs.toList) (vs' := vs.toList) (T := t) (by simpa using h1) (h _ h2)
 have e : w.setRow (g.ρ b) vs.toList.toArray = w := by
   simp only [Array.toArray_toList]
   have hh : (w.setRow (g.ρ b) vs).heap = w.heap := Array.ext_getElem? fun i => by
     by_cases hi : i = g.ρ b
     · subst hi; rw [setRow_heap w _ _ _ t _ h1, h1]
     · exact setRow_other w _ i _ hi
   have h5 : w.setRow (g.ρ b) vs = { w with heap := (w.setRow (g.ρ b) vs).heap } := rfl
   rw [h5, hh]
 rw [e] at h4
 exact ⟨h4.1, h4.2.1, h4.2.2.2⟩
theorem Be {α : Type} {T : TypeId} {e : Enc α} {c : Code} (k b off : Nat) {cs cs' : List Cell} (hb : lkl s.l b = some (.box cs)) (hc : Jj cs off = some (.c (.slice none 0 0))) (hcs : cs.set off (.own k) = cs') (hk : lk s.l k = none) (hi : FZ k s.ids = true)
   (h : AW P N K c Kn Q ⟨s.t, (b, some (.box cs')) :: (k, some (.arr (α := α) T e [] true)) :: s.l⟩) : AW P N K c Kn Q s := fun g a w r => by
 have hki := Er hi
 obtain ⟨g', q1, q2, q3, q4, q5⟩ := nil_new r.mem hk (fun h => hki (List.mem_append_right _ h)) α T e
 have hkb : k ≠ b := fun e => by subst e; unfold lkl at hb; rw [hk] at hb; cases hb
 have hb' : lkl ((k, some (.arr (α := α) T e [] true)) :: s.l) b = some (.box cs) := by rw [Bs hkb]; exact hb
 obtain ⟨m2, st2, ok2⟩ := box_re q2 hb' (cs' := cs') (fun vs hv => by
   obtain ⟨v, h1, h2⟩ := hv.get (E9 hc)
   have h3 := hv.set (i := off) (v := v) (x := .own k) (fun β U e2 ys dd hh => by
     rw [q1]; exact h2.1)
   rw [hcs] at h3
   have h4 : vs.set off v = vs := by
     obtain ⟨hl, rfl⟩ := List.getElem?_eq_some_iff.1 h1
     exact List.set_getElem_self hl
   rwa [h4] at h3)
 have r2 := r.next0 (g' := g') (l' := (b, some (.box cs')) :: (k, some (.arr (α := α) T e [] true)) :: s.l) (w' := w) (fun _ _ => rfl) q4 (Nat.le_refl _) (fun j hj => (q5 j fun e => hki (e ▸ hj)).trans (ok2 j)) m2
 exact Go.wp_mono (h g' a w r2) fun e a1 w1 h1 => h1.trans r.mem m2 ((q3 K).trans r.mem q2 (st2 K))
theorem DG {α : Type} {T : TypeId} {e : Enc α} {c : Code} (k t : Nat) (ht : lk s.t t = some (.one (.c (.slice none 0 0)))) (hk : lk s.l k = none) (hi : FZ k s.ids = true)
   (h : AW P N K c Kn Q ⟨(t, .one (.own k)) :: s.t, (k, some (.arr (α := α) T e [] true)) :: s.l⟩) : AW P N K c Kn Q s := fun g a w r => by
 have hki := Er hi
 obtain ⟨g', q1, q2, q3, q4, q5⟩ := nil_new r.mem hk (fun h => hki (List.mem_append_right _ h)) α T e
 have r1 := r.next0 (g' := g') (l' := (k, some (.arr (α := α) T e [] true)) :: s.l) (w' := w) (fun _ _ => rfl) q4 (Nat.le_refl _) (fun j hj => q5 j fun e => hki (e ▸ hj)) q2
 have hv : VR g s.l w (a.tmps.getD t undef) (.one (.c (.slice none 0 0))) := r.tmp t _ ht
 have r2 : Rep N g' ⟨(t, .one (.own k)) :: s.t, (k, some (.arr (α := α) T e [] true)) :: s.l⟩ a w := ⟨r1.size, r1.defers, fun j x hj => by
   by_cases hjt : t = j
   · subst hjt
     rw [Bv] at hj; cases hj
     exact fun β U e2 ys dd hh => by rw [q1]; exact hv.1
   · rw [B6 hjt] at hj
     exact r1.tmp j x hj, r1.mem⟩
 exact Go.wp_mono (h g' a w r2) fun e a1 w1 h1 => h1.trans r.mem q2 (q3 K)
end adopt

section results
variable {P : Program} {f : FuncId} {fn : Func} {c : Code} {N : Nat} {args : List AVal} {L L' : Locs}
theorem AC_ofB {res : AVal} {T : DV} {Lf : Locs} (hf : P.funcs[f]? = some fn) (hb : fn.body = some c) (hn : (fn.name == "runtime.NumGoroutine") = false) (hN : fn.ntmps = N) (hA : Nat.ble args.length N = true)
   (hren : res.ren (rn []) = res) (hle : LeS (Bi L) (rn []) ⟨T, Lf⟩ ⟨[], L'⟩)
   (hr : ∀ (g : Gh) (a : Act) (w : World), Rep N g ⟨T, Lf⟩ a w → ∃ v, (results fn a.tmps).run P w = .ok v w ∧ VR g Lf w v res)
   (h : AW P N (Bi L) c (RetS (Bi L) T Lf) (RetQ (Bi L) T Lf) ⟨Ff args 0, L⟩) : AC P f args L res L' := by
 have h0 := AC_of (L' := Lf) hf hb hn hN hA hr h
 refine ⟨h0.fn, fun g w cargs m ha => (h0.run g w cargs m ha).mono ?_⟩
 rintro e w' ⟨v, g1, rfl, m1, hv, hs⟩
 exact ⟨v, g1.ren (rn []), rfl, m1.unren hle.l hle.inj, VR.unren hle.l (by rw [hren]; exact hv), hs.trans m m1 (Step.unren hle.l hle.k)⟩
theorem Hv {ty : TypeId} {r n k : Nat} {cs : List Cell} {T : DV} {Lf : Locs} {g : Gh} {a : Act} {w : World} (R : Rep N g ⟨T, Lf⟩ a w) (ht : lk T r = some (.one (.ptr k 0))) (hl : lkl Lf k = some (.box cs)) (hk : Fk P ty = some (some n)) (hn : cs.length = n) :
   ∃ ad v, (asAddr (a.tmps.getD r undef)).run P w = .ok ad w ∧ (loadVar ty ad).run P w = .ok v w ∧ VR1 g Lf w v (.agg cs) := by
 have hp : a.tmps.getD r undef = .pointer (some ⟨g.ρ k, 0, none⟩) := (R.tmp r _ ht : CellR g Lf w _ (.ptr k 0)) cs hl
 obtain ⟨vs, h1, h2, h3⟩ := box_loads R.mem hl (off := 0) (n := n) (xs := cs) (by rw [List.drop_zero, ← hn, List.take_length]) hn
 exact ⟨_, .agg vs.toArray, by rw [hp]; rfl, Gs hk h1 h2, vs, rfl, h3⟩
theorem En {ty : TypeId} {r n k : Nat} {cs : List Cell} {T : DV} {Lf : Locs} (hf : P.funcs[f]? = some fn) (hb : fn.body = some c) (hn : (fn.name == "runtime.NumGoroutine") = false) (hN : fn.ntmps = N) (hA : Nat.ble args.length N = true) (hr : fn.results = #[.cell r ty])
   (ht : lk T r = some (.one (.ptr k 0))) (hl : lkl Lf k = some (.box cs)) (hk : Fk P ty = some (some n)) (hcn : cs.length = n) (hren : (AVal.agg cs).ren (rn []) = .agg cs) (hle : LeS (Bi L) (rn []) ⟨T, Lf⟩ ⟨[], L'⟩)
   (h : AW P N (Bi L) c (RetS (Bi L) T Lf) (RetQ (Bi L) T Lf) ⟨Ff args 0, L⟩) : AC P f args L (.agg cs) L' :=
 AC_ofB hf hb hn hN hA hren hle (fun g a w R => by
   obtain ⟨ad, v, h1, h2, h3⟩ := Hv R ht hl hk hcn
   refine ⟨v, ?_, h3⟩
   simp only [Array.getD_eq_getD_getElem?] at h1
   simp [results, hr, h1, h2]) h
end results
end Go.Proofs.YtkemjhlbokldhaaGreat

namespace Go.Proofs.YtkemjhlbokldhaaGreat
open Go.RowKit
set_option linter.unusedVariables false
section ops
variable {P : Program} {N : Nat} {s : St} {d : Nat} {ty : TypeId} {pos : String} {after : Array Edge} {gd : Option (Nat × Bool)}

def intT (P : Program) (A B : TypeId) : Option IntKind :=
 match P.underlying A, P.underlying B with
 | some _, some (.int k) => some k
 | _, _ => none
theorem run_conv {A B : TypeId} {k k' : IntKind} {n : Int} (h : intT P A B = some k') (w : World) : (convert A B (.int k n)).run P w = .ok (.int k' (k'.wrap n)) w := by
 unfold intT at h
 split at h
 · rename_i a k0 h1 h2
   cases h
   simp only [convert, Sem.run_bind, run_underlying h1, run_underlying h2, Result.andThen_ok]
   cases a <;> rfl
 · cases h
theorem x_conv {A B : TypeId} {x : Operand} {k k' : IntKind} {n r : Int} (hN : Nat.blt d N = true) (h : evo s.t x = some (.one (.c (.int k n)))) (hk : intT P A B = some k') (hr : k'.wrap n = r) :
   Stp P N ⟨some d, .convert A B x, ty, pos, after, gd⟩ s ⟨(d, .one (.c (.int k' r))) :: s.t, s.l⟩ ⟨rdo x (.one (.c (.int k n))), [], [(d, .one (.c (.int k' r)))], [], []⟩ :=
 Stp.pure rfl hN (Cg h) (by simp) fun g s' a w ht hl' rp => by
   obtain ⟨e1, _⟩ : a.eval x = .int k n ∧ wfV (.int k n) := B4 rp (BC h) ht
   refine ⟨.int k' (k'.wrap n), by simp only [execOp, e1, Sem.run_bind, run_conv hk, Result.andThen_ok, Sem.run_pure], ?_, ?_⟩
   · rw [hr]
   · rw [← hr]; exact wf_wrap k' _
theorem x_shr {T T' : TypeId} {x y : Operand} {k k' : IntKind} {m n r : Int} (hN : Nat.blt d N = true) (h : evo s.t x = some (.one (.c (.int k m)))) (h2 : evo s.t y = some (.one (.c (.int k' n)))) (h0 : 0 ≤ n) (hr : m.fdiv (2 ^ (min n.toNat k.bits)) = r) (hw : (Lit.int k r).wf = true) :
   Stp P N ⟨some d, .binOp .shr T x y T', ty, pos, after, gd⟩ s ⟨(d, .one (.c (.int k r))) :: s.t, s.l⟩ ⟨rdo x (.one (.c (.int k m))) ++ rdo y (.one (.c (.int k' n))), [], [(d, .one (.c (.int k r)))], [], []⟩ :=
 Stp.pure rfl hN (FU h h2) (by simp) fun g s' a w ht hl' rp => by
   obtain ⟨⟨e1, w1⟩, e2, w2⟩ := two_c rp (BC h) (BC h2) ht
   refine ⟨.int k r, Gf rfl ?_, rfl, hw⟩
   rw [e1, e2]
   have : ¬ n < 0 := by omega
   simp only [Sem.run_bind, guard_int, Result.andThen_ok]
   simp only [binOp, Op.shift, this, if_false, hr]; rfl
end ops
end Go.Proofs.YtkemjhlbokldhaaGreat

namespace Go.Proofs.YtkemjhlbokldhaaGreat
open Go.RowKit
set_option linter.unusedVariables false

def arrOk (P : Program) (T E n : Nat) : Bool := match arrT P T with
 | some (E', n', b) => Nat.beq E' E && Nat.beq n' n && Nat.ble b 100000
 | none => false
theorem HM {P : Program} {T E n : Nat} (h : arrOk P T E n = true) : ∃ b, arrT P T = some (E, n, b) ∧ Nat.ble b 100000 = true := by
 unfold arrOk at h
 split at h
 · rename_i E' n' b hT
   simp only [Bool.and_eq_true] at h
   obtain ⟨⟨h1, h2⟩, h3⟩ := h
   have h1 := Nat.eq_of_beq_eq_true h1
   have h2 := Nat.eq_of_beq_eq_true h2
   subst h1; subst h2
   exact ⟨b, hT, h3⟩
 · cases h
section ops
variable {P : Program} {N : Nat} {s : St} {d : Nat} {ty : TypeId} {pos : String} {after : Array Edge} {gd : Option (Nat × Bool)}
theorem B9 {α : Type} {e : Enc α} {f : α → List Cell} [hc : CellsOf e f] {T E : Nat} {x y : Operand} {xs ys : List α} {d1 d2 : Bool} {k j : Nat} (k' : Nat) (hN : Nat.blt d N = true)
   (h : evo s.t x = some (.one (.own k))) (h2 : evo s.t y = some (.one (.own j))) (hl : lkl s.l k = some (.arr E e xs d1)) (hl2 : lkl s.l j = some (.arr E e ys d2)) (hkj : Nat.beq k j = false)
   (hk : lk s.l k' = none) (hi : FZ k' s.ids = true) (hT : arrOk P T E e.size = true) (hbnd : xs.length + ys.length ≤ 1000000000) :
   Stp P N ⟨some d, .call { callee := .builtin .append, args := #[x, y], argTypes := #[T, T] }, ty, pos, after, gd⟩ s ⟨(d, .one (.own k')) :: s.t, (k', some (.arr E e (xs ++ ys) (d1 && d2))) :: (C9 [k, j] ++ s.l)⟩
     ⟨rdo x (.one (.own k)) ++ rdo y (.one (.own j)), [(k, .arr E e xs d1), (j, .arr E e ys d2)], [(d, .one (.own k'))], (k', some (.arr E e (xs ++ ys) (d1 && d2))) :: C9 [k, j], [k']⟩ := by
 obtain ⟨b, h3, h4⟩ := HM hT
 exact x_append k' hN h h2 hl hl2 hkj h3 rfl hk hi hbnd h4
theorem Hh {α : Type} {e : Enc α} {f : α → List Cell} [hc : CellsOf e f] {T E : Nat} (k : Nat) (hN : Nat.blt d N = true) (hk : lk s.l k = none) (hi : FZ k s.ids = true) (hT : arrOk P T E e.size = true) :
   Stp P N ⟨some d, .buildSlice T 0 #[], ty, pos, after, gd⟩ s ⟨(d, .one (.own k)) :: s.t, (k, some (.arr (α := α) E e [] true)) :: s.l⟩ ⟨[], [], [(d, .one (.own k))], [(k, some (.arr (α := α) E e [] true))], [k]⟩ := by
 obtain ⟨b, h3, h4⟩ := HM hT
 exact x_bslice0 (f := f) k hN h3 hk hi
theorem y_bslice {α : Type} {e : Enc α} {f : α → List Cell} [hc : CellsOf e f] {T E len : Nat} (ops : List Operand) {parts : Array (Nat × Operand)} {Xs : List AVal} (xs : List α) {ds : List Cell} {js : List Nat} {dp : Bool} (k : Nat) (hN : Nat.blt d N = true)
   (hparts : parts = ((ops.zipIdx 0).map fun x => (x.2, x.1)).toArray) (hev : evl s.t ops = some Xs) (hfl : DC Xs = true) (hsol : (Xs.flatMap AVal.cells).all (Dm s.l) = true)
   (hlen : ops.length = len) (hsz : Xs.all (fun X => Nat.beq X.cells.length e.size) = true)
   (hmv : mvC s.l (Xs.flatMap AVal.cells) = some (ds, js, dp)) (hfit : FitL ds (xs.flatMap f)) (hnd : Ja js = true) (hxs : xs.length = len) (hpos : Nat.blt 0 len = true) (hsmall : Nat.ble (len * e.size) 16777216 = true)
   (hk : lk s.l k = none) (hi : FZ k s.ids = true) (hT : arrOk P T E e.size = true) :
   Stp P N ⟨some d, .buildSlice T len parts, ty, pos, after, gd⟩ s ⟨(d, .one (.own k)) :: s.t, (k, some (.arr E e xs dp)) :: (C9 js ++ s.l)⟩ ⟨rdl s.t ops, rlC s.l (Xs.flatMap AVal.cells), [(d, .one (.own k))], (k, some (.arr E e xs dp)) :: C9 js, [k]⟩ := by
 obtain ⟨b, h3, h4⟩ := HM hT
 exact x_bslice ops xs k hN hparts hev hfl hsol h3 hlen hsz rfl hmv hfit hnd hxs hpos hsmall hk hi
theorem Aq {α : Type} (e : Enc α) {f : α → List Cell} [hc : CellsOf e f] {T len : Nat} (E : Nat) (ops : List Operand) {parts : Array (Nat × Operand)} {Xs : List AVal} (xs : List α) {ds : List Cell} {js : List Nat} {dp : Bool} (k : Nat) (hN : Nat.blt d N = true) (hparts : parts = ((ops.zipIdx 0).map fun x => (x.2, x.1)).toArray) (hev : evl s.t ops = some Xs) (hfl : DC Xs = true) (hsol : (Xs.flatMap AVal.cells).all (Dm s.l) = true) (hlen : ops.length = len) (hsz : Xs.all (fun X => Nat.beq X.cells.length e.size) = true) (hmv : mvC s.l (Xs.flatMap AVal.cells) = some (ds, js, dp)) (hfit : FitL ds (xs.flatMap f)) (hnd : Ja js = true) (hxs : xs.length = len) (hpos : Nat.blt 0 len = true) (hsmall : Nat.ble (len * e.size) 16777216 = true) (hk : lk s.l k = none) (hi : FZ k s.ids = true) (hT : arrOk P T E e.size = true) : Stp P N ⟨some d, .buildSlice T len parts, ty, pos, after, gd⟩ s ⟨(d, .one (.own k)) :: s.t, (k, some (.arr E e xs dp)) :: (C9 js ++ s.l)⟩ ⟨rdl s.t ops, rlC s.l (Xs.flatMap AVal.cells), [(d, .one (.own k))], (k, some (.arr E e xs dp)) :: C9 js, [k]⟩ := y_bslice (e := e) (E := E) ops xs k hN hparts hev hfl hsol hlen hsz hmv hfit hnd hxs hpos hsmall hk hi hT
def newOk (s : St) (ks : List Nat) : Bool := ks.all fun k => (match lk s.l k with | none => true | some _ => false) && FZ k s.ids
theorem newOk_of {s : St} {ks : List Nat} (h : newOk s ks = true) : ∀ k ∈ ks, lk s.l k = none ∧ k ∉ s.ids := fun k hk => by
 have h1 := List.all_eq_true.1 h k hk
 simp only [Bool.and_eq_true] at h1
 refine ⟨?_, Er h1.2⟩
 have h2 := h1.1
 split at h2
 · assumption
 · cases h2
theorem x_call {fo : Operand} {f : FuncId} {ks : List Nat} {ars : Array Operand} {ats : Array TypeId} {xs ys : List AVal} {L L' : Locs} {res : AVal} (hN : Nat.blt d N = true) (hev : evo s.t fo = some (.one (.clo f ks)))
   (hxs : evl s.t ars.toList = some xs) (hac : AC P f ys L res L') (hfl : DC xs = true) (hle : AllV (xs ++ caps ks) ys) (hks : ∀ k ∈ ks, ∃ cs, (k, some (Blk.box cs)) ∈ L) (hLs : okL L = true) (hsc : CO (Bi L') L'.ids = true) (hsr : CO (Bi L') res.ids = true)
   (hsub : sub s.l L) (hnew : newOk s (Fj L L') = true) :
   Stp P N ⟨some d, .call { callee := .value fo, args := ars, argTypes := ats }, ty, pos, after, gd⟩ s ⟨(d, res) :: s.t, L' ++ (Ek L ++ s.l)⟩ ⟨rdo fo (.one (.clo f ks)) ++ rdl s.t ars.toList, rlOf L, [(d, res)], L' ++ Ek L, Fj L L'⟩ :=
 ⟨OpOK.call rfl rfl (DJ hN) hev hxs hfl hac hle hks hLs hsc hsr, ⟨fun p hp => by
     rcases List.mem_append.1 hp with hp | hp
     · exact Cg hev p hp
     · exact (EG (N := N) hxs).1 p hp, sub_rlOf hsub, newOk_of hnew⟩, by simp [Cert.upd, List.append_assoc]⟩
theorem Av {fo : Operand} {f : FuncId} (ks : List Nat) {ars : Array Operand} {ats : Array TypeId} {xs ys : List AVal} (L : Locs) (L' : Locs) {res : AVal} (hN : Nat.blt d N = true) (hev : evo s.t fo = some (.one (.clo f ks))) (hxs : evl s.t ars.toList = some xs) (hac : AC P f ys L res L') (hfl : DC xs = true) (hle : AllV (xs ++ caps ks) ys) (hks : ∀ k ∈ ks, ∃ cs, (k, some (Blk.box cs)) ∈ L) (hLs : okL L = true) (hsc : CO (Bi L') L'.ids = true) (hsr : CO (Bi L') res.ids = true) (hsub : sub s.l L) (hnew : newOk s (Fj L L') = true) : Stp P N ⟨some d, .call { callee := .value fo, args := ars, argTypes := ats }, ty, pos, after, gd⟩ s ⟨(d, res) :: s.t, L' ++ (Ek L ++ s.l)⟩ ⟨rdo fo (.one (.clo f ks)) ++ rdl s.t ars.toList, rlOf L, [(d, res)], L' ++ Ek L, Fj L L'⟩ := x_call (ks := ks) (L := L) (L' := L') hN hev hxs hac hfl hle hks hLs hsc hsr hsub hnew
theorem x_call1 {fo : Operand} {f : FuncId} {ars : Array Operand} {ats : Array TypeId} {xs : List AVal} {k : Nat} {b : Option Blk} {res : AVal} (hN : Nat.blt d N = true) (hev : evo s.t fo = some (.one (.clo f [])))
   (hxs : evl s.t ars.toList = some xs) (hac : AC P f xs [] res [(k, b)]) (hfl : DC xs = true) (hsc : CO [k] (Locs.ids [(k, b)]) = true) (hsr : CO [k] res.ids = true) (hnew : newOk s [k] = true) :
   Stp P N ⟨some d, .call { callee := .value fo, args := ars, argTypes := ats }, ty, pos, after, gd⟩ s ⟨(d, res) :: s.t, (k, b) :: s.l⟩ ⟨rdo fo (.one (.clo f [])) ++ rdl s.t ars.toList, [], [(d, res)], [(k, b)], [k]⟩ :=
 x_call (L := []) (L' := [(k, b)]) hN hev hxs hac hfl (by rw [show caps [] = [] from rfl, List.append_nil]; exact AllV.rf) (fun k hk => by cases hk) rfl hsc hsr trivial hnew
theorem Aj {fo : Operand} {f k : Nat} {ars : Array Operand} {ats : Array TypeId} {xs : List AVal} {b b' : Blk} {res : AVal} (hN : Nat.blt d N = true) (hev : evo s.t fo = some (.one (.clo f []))) (hxs : evl s.t ars.toList = some xs) (hac : AC P f xs [(k, some b)] res [(k, some b')]) (hfl : DC xs = true)
   (hsc : CO [k] (Locs.ids [(k, some b')]) = true) (hsr : CO [k] res.ids = true) (hl : lkl s.l k = some b) :
   Stp P N ⟨some d, .call { callee := .value fo, args := ars, argTypes := ats }, ty, pos, after, gd⟩ s ⟨(d, res) :: s.t, (k, some b') :: (k, none) :: s.l⟩ ⟨rdo fo (.one (.clo f [])) ++ rdl s.t ars.toList, [(k, b)], [(d, res)], [(k, some b'), (k, none)], []⟩ := by
 have hn : Fj [(k, some b)] [(k, some b')] = [] := by simp [Fj, Bi]
 have h := x_call (d := d) (ty := ty) (pos := pos) (after := after) (gd := gd) (N := N) (s := s) (ats := ats) (ks := []) (L := [(k, some b)]) (L' := [(k, some b')]) hN hev hxs hac hfl (by rw [show caps [] = [] from rfl, List.append_nil]; exact AllV.rf) (fun k hk => by cases hk) rfl hsc hsr ⟨hl, trivial⟩ (by rw [hn]; rfl)
 rw [hn] at h
 exact h
end ops
theorem AE {b b' : Blk} (h : b = b') : BLe b b' := .inl h
theorem BLe.arr {α : Type} {T : TypeId} {e : Enc α} {xs ys : List α} {d : Bool} (h : xs = ys) : BLe (.arr T e xs d) (.arr T e ys d) := by subst h; exact BLe.rf
theorem AC.at {P : Program} {f : FuncId} {args : List AVal} {res : AVal} {b : Blk} (h : AC P f args [] (res.ren fun _ => 0) [(0, some (b.ren fun _ => 0))]) (k : Nat) : AC P f args [] res [(k, some b)] :=
 ⟨h.fn, fun g w cargs m ha => (h.run g w cargs m ha).mono (by
   rintro e w' ⟨v, g1, rfl, m1, hv, hs⟩
   have hL : LeL (fun _ => 0) [(0, some (b.ren fun _ => 0))] [(k, some b)] := ⟨⟨_, rfl, BLe.rf⟩, trivial⟩
   have hi : injL (fun _ => 0) (Bi [(k, some b)]) = true := by simp [injL, Bi]
   exact ⟨v, g1.ren fun _ => 0, rfl, m1.unren hL hi, VR.unren hL hv, hs.trans m m1 (Step.unren hL trivial)⟩)⟩
theorem AC.renum {P : Program} {f : FuncId} {args : List AVal} {res : AVal} {L0 L : Locs} {r : Nat → Nat} (h : AC P f args [] (res.ren r) L0) (hL : LeL r L0 L) (hi : injL r (Bi L) = true) : AC P f args [] res L :=
 ⟨h.fn, fun g w cargs m ha => (h.run g w cargs m ha).mono (by
   rintro e w' ⟨v, g1, rfl, m1, hv, hs⟩
   exact ⟨v, g1.ren r, rfl, m1.unren hL hi, VR.unren hL hv, hs.trans m m1 (Step.unren hL trivial)⟩)⟩
end Go.Proofs.YtkemjhlbokldhaaGreat

namespace Go.Proofs.YtkemjhlbokldhaaGreat
open Go.RowKit
set_option linter.unusedVariables false
section ops
variable {P : Program} {N : Nat} {s : St} {d : Nat} {ty : TypeId} {pos : String} {after : Array Edge} {gd : Option (Nat × Bool)}
theorem x_bool2 {op : BinOp} {T T' : TypeId} {x y : Operand} {m n : Bool} {v : Value} (hN : Nat.blt d N = true) (h : evo s.t x = some (.one (.c (.bool m)))) (h2 : evo s.t y = some (.one (.c (.bool n))))
   (hr : ∀ w, (binOp op T (.bool m) (.bool n)).run P w = .ok v w) (hw : wfV v) :
   Stp P N ⟨some d, .binOp op T x y T', ty, pos, after, gd⟩ s ⟨(d, .one (.c v)) :: s.t, s.l⟩ ⟨rdo x (.one (.c (.bool m))) ++ rdo y (.one (.c (.bool n))), [], [(d, .one (.c v))], [], []⟩ :=
 Stp.pure rfl hN (FU h h2) (by simp) fun g s' a w ht hl' r => by
   obtain ⟨⟨e1, w1⟩, e2, w2⟩ := two_c r (BC h) (BC h2) ht
   refine ⟨v, Gf rfl ?_, rfl, hw⟩
   rw [e1, e2]
   have hg : (eqGuard op T x y (.bool m) (.bool n)).run P w = .ok () w := by cases op <;> rfl
   simp only [Sem.run_bind, hg, Result.andThen_ok, hr]
theorem x_bneq {T T' : TypeId} {x y : Operand} {m n : Bool} (hN : Nat.blt d N = true) (h : evo s.t x = some (.one (.c (.bool m)))) (h2 : evo s.t y = some (.one (.c (.bool n)))) (hT : P.underlying T = some .bool) :
   Stp P N ⟨some d, .binOp .neq T x y T', ty, pos, after, gd⟩ s ⟨(d, .one (.c (.bool (!(m == n))))) :: s.t, s.l⟩ ⟨rdo x (.one (.c (.bool m))) ++ rdo y (.one (.c (.bool n))), [], [(d, .one (.c (.bool (!(m == n)))))], [], []⟩ :=
 x_bool2 hN h h2 (fun w => run_neq_bool w T m n hT) trivial
end ops
end Go.Proofs.YtkemjhlbokldhaaGreat

namespace Go.Proofs.YtkemjhlbokldhaaGreat
open Go.RowKit
set_option linter.unusedVariables false
def caught (L : Locs) (ks : List Nat) : Bool := ks.all fun k => L.any fun p => Nat.beq p.1 k && (match p.2 with | some (.box _) => true | _ => false)
theorem BE {L : Locs} {ks : List Nat} (h : caught L ks = true) : ∀ k ∈ ks, ∃ cs, (k, some (Blk.box cs)) ∈ L := fun k hk => by
 obtain ⟨⟨j, b⟩, h1, h2⟩ := List.any_eq_true.1 (List.all_eq_true.1 h k hk)
 simp only [Bool.and_eq_true] at h2
 have e := Nat.eq_of_beq_eq_true h2.1
 subst e
 match b, h2.2, h1 with
 | some (.box cs), _, h1 => exact ⟨cs, h1⟩
section rules
variable {P : Program} {N : Nat} {K : List Nat} {Kn : St → Prop} {Q : Exit → St → Prop} {s : St}
end rules
section names
variable {P : Program} {N : Nat} {dr : Bool} {ops r : List Oper} {opsA : Array Oper} {Kn : St → Prop} {s : St} {acc : List Cert}
theorem Dk {d : Nat} {op : Op} {ty : TypeId} {pos : String} {after : Array Edge} {e : Bool} {l' wl : Locs} {nw : List Nat} {rt : List (Nat × AVal)} {rl : List (Nat × Blk)} (h : Stp P N ⟨some d, op, ty, pos, after, none⟩ s ⟨(d, .one (.c (.bool e))) :: s.t, l'⟩ ⟨rt, rl, [(d, .one (.c (.bool e)))], wl, nw⟩)
   (next : ∀ b, e = b → AL P N dr opsA Kn r ⟨(d, .one (.c (.bool b))) :: s.t, l'⟩ (⟨rt, rl, [(d, .one (.c (.bool b)))], wl, nw⟩ :: acc)) : AL P N dr opsA Kn (⟨some d, op, ty, pos, after, none⟩ :: r) s acc :=
 Az h (next e rfl)
theorem FF {d : Nat} {op : Op} {ty : TypeId} {pos : String} {after : Array Edge} {j t : Nat} {g : Bool} {e : Bool} {l' wl : Locs} {nw : List Nat} {rt : List (Nat × AVal)} {rl : List (Nat × Blk)} (hj : FP opsA j = some t) (hb : lk s.t t = some (.one (.c (.bool g))))
   (h : Stp P N ⟨some d, op, ty, pos, after, some (j, g)⟩ s ⟨(d, .one (.c (.bool e))) :: s.t, l'⟩ ⟨rt, rl, [(d, .one (.c (.bool e)))], wl, nw⟩)
   (next : ∀ b, e = b → AL P N dr opsA Kn r ⟨(d, .one (.c (.bool b))) :: s.t, l'⟩ (⟨(t, .one (.c (.bool g))) :: rt, rl, [(d, .one (.c (.bool b)))], wl, nw⟩ :: acc)) : AL P N dr opsA Kn (⟨some d, op, ty, pos, after, some (j, g)⟩ :: r) s acc :=
 AB hj hb h (next e rfl)
end names
section ops
variable {P : Program} {N : Nat} {s : St} {d : Nat} {ty : TypeId} {pos : String} {after : Array Edge} {gd : Option (Nat × Bool)}
end ops
theorem AW_slmax {P : Program} {N : Nat} {K : List Nat} {c : Code} {Kn : St → Prop} {Q : Exit → St → Prop} {s : St} {α : Type} {e : Enc α} {xs : List α} (t : Nat) (h : lk s.t t = some (.one (.sl e xs))) (hA : xs.length ≤ 9223372036854775807 → AW P N K c Kn Q s) : AW P N K c Kn Q s := fun g a w r => by
 obtain ⟨a0, n, cap, bs, _, h1, _⟩ : ∃ a0 n cap bs, a.tmps.getD t undef = .slice a0 n cap ∧ SliceRep e w a0 n cap xs bs ∧ ∀ b ∈ bs, g.I b := r.tmp t _ h
 exact hA h1.max g a w r
theorem Cz {P : Program} {N : Nat} {K : List Nat} {c : Code} {Kn : St → Prop} {Q : Exit → St → Prop} {s : St} {α : Type} {e : Enc α} {xs : List α} {cs : List Cell} (t i : Nat) (h : lk s.t t = some (.agg cs)) (hi : Jj cs i = some (.sl e xs)) (hA : xs.length ≤ 9223372036854775807 → AW P N K c Kn Q s) : AW P N K c Kn Q s := fun g a w r => by
 obtain ⟨vs, _, h2⟩ : ∃ vs : List Value, a.tmps.getD t undef = .agg vs.toArray ∧ All2 (CellR g s.l w) vs cs := r.tmp t _ h
 obtain ⟨v, _, h4⟩ := h2.get (E9 hi)
 obtain ⟨a0, n, cap, bs, _, h1, _⟩ := h4
 exact hA h1.max g a w r
theorem ba_beq_self (a : ByteArray) : (a == a) = true := by rw [beq_toListBytes]; simp
end Go.Proofs.YtkemjhlbokldhaaGreat

namespace Go.Proofs.YtkemjhlbokldhaaGreat
open Go.RowKit
set_option linter.unusedVariables false
def EX {α β : Type} (f : α → β) (xs : List α) (k : Nat) : List β := (xs.take k).map f
theorem H9 {α β : Type} {f : α → β} {xs : List α} : ([] : List β) = EX f xs 0 := rfl
theorem HC {α β : Type} {f : α → β} {xs : List α} {k : Nat} (hk : k < xs.length) : EX f xs k ++ [f xs[k]] = EX f xs (k + 1) := by
 unfold EX; rw [List.take_succ_eq_append_getElem hk, List.map_append]; rfl
theorem IE {α β : Type} {f : α → β} {xs : List α} {k : Nat} (hk : xs.length ≤ k) : EX f xs k = xs.map f := by unfold EX; rw [List.take_of_length_le hk]
theorem ID {α β : Type} {f : α → β} {xs : List α} {k : Nat} : (EX f xs k).length ≤ xs.length := by simp [EX]; omega
end Go.Proofs.YtkemjhlbokldhaaGreat

namespace Go.Proofs.YtkemjhlbokldhaaGreat
open Go.RowKit
set_option linter.unusedVariables false

def D2 (xs : List ByteArray) (sep : ByteArray) : ByteArray := ⟨(Lib.join (xs.map (·.data.toList)) sep.data.toList).toArray⟩
theorem Gd {a b : ByteArray} (h : a.data.toList = b.data.toList) : a = b := by
 obtain ⟨⟨a⟩⟩ := a
 obtain ⟨⟨b⟩⟩ := b
 simp at h; rw [h]
theorem CI (a : ByteArray) : a ++ (⟨#[]⟩ : ByteArray) = a := Gd (by simp [ByteArray.data_append])
theorem nil_app (a : ByteArray) : (⟨#[]⟩ : ByteArray) ++ a = a := Gd (by simp [ByteArray.data_append])
theorem join_more (l : List (List UInt8)) (x sep : List UInt8) : Lib.join (l ++ [x]) sep = if l = [] then x else Lib.join l sep ++ sep ++ x := by
 cases l with
 | nil => simp [Lib.join_one]
 | cons y r =>
   rw [List.cons_append, Lib.join_cons, Lib.join_cons, if_neg (by simp)]
   simp [Lib.joinTail, List.append_assoc]
theorem IF (sep : ByteArray) : D2 [] sep = ⟨#[]⟩ := by simp [D2, Lib.join_nil]
theorem Jb (x sep : ByteArray) : D2 [x] sep = x := by
 apply Gd; simp [D2, Lib.join_one]
theorem joinB_more {xs : List ByteArray} (x sep : ByteArray) (h : xs ≠ []) : D2 (xs ++ [x]) sep = D2 xs sep ++ sep ++ x := by
 apply Gd
 simp only [D2, List.map_append, List.map_cons, List.map_nil, join_more, ByteArray.data_append, Array.toList_append]
 rw [if_neg (by simpa using h)]
theorem joinB_size {xs : List ByteArray} {sep : ByteArray} : (D2 xs sep).size = (Lib.join (xs.map (·.data.toList)) sep.data.toList).length := List.size_toArray
theorem Bf (a b : ByteArray) : (a ++ b).size = a.size + b.size := ByteArray.size_append
theorem joinB_le {M : Nat} {sep : ByteArray} : ∀ (n : Nat) (xs : List ByteArray), xs.length = n → (∀ x ∈ xs, x.size ≤ M) → (D2 xs sep).size ≤ (M + sep.size) * n
 | 0, xs, hn, _ => by
   have : xs = [] := List.eq_nil_of_length_eq_zero hn
   subst this; rw [IF]; exact Nat.zero_le _
 | n + 1, xs, hn, h => by
   rcases List.eq_nil_or_concat xs with rfl | ⟨ys, x, rfl⟩
   · simp at hn
   · rw [List.concat_eq_append] at *
     have hl : ys.length = n := by simpa using hn
     have ih := joinB_le (sep := sep) n ys hl (fun y hy => h y (List.mem_append_left _ hy))
     have hx := h x (by simp)
     by_cases hy : ys = []
     · subst hy
       rw [List.nil_append, Jb, Nat.mul_succ]; omega
     · rw [joinB_more _ _ hy, Bf, Bf, Nat.mul_succ]; omega
theorem join_c (xs : List ByteArray) (sep : ByteArray) (h1 : xs.length ≤ 140737488355328) (h2 : (D2 xs sep).size ≤ 140737488355328) :
   AC Tryz.prog 37 [.one (.sl DM xs), .one (.c (.string sep))] [] (.one (.c (.string (D2 xs sep)))) [] :=
 AC.pure ⟨_, _, Tryz.func37, rfl, rfl⟩ (by show (D2 xs sep).size ≤ maxLen; unfold maxLen; omega) fun w g cargs h => by
   obtain ⟨v, u, rfl, h1', h2'⟩ := inv2 h
   obtain ⟨a, n, c, bs, rfl, hr, hI⟩ : CellR g [] w v (.sl DM xs) := h1'
   obtain ⟨rfl, -⟩ := FO h2'
   rw [joinB_size] at h2
   obtain rfl := hr.1
   by_cases hx : xs = []
   · subst hx
     refine (Tryz.strings_Join_none _ _ _ _).mono fun e w' ⟨he, hw⟩ => ⟨by rw [he, IF], by rw [hw]; exact Below.refl _ _⟩
   · obtain ⟨hpos⟩ : Nonempty (0 < xs.length) := ⟨List.length_pos_iff.2 hx⟩
     obtain ⟨gb, o, cs, b, rfl, -, -, -, hb⟩ := hr.get hpos
     refine (Tryz.strings_Join gb o c xs _ _ ?_ (hr.lt gb hb) h1 hr.2.1 h2).mono fun e w' h => h
     intro j x hj
     obtain ⟨hjl, rfl⟩ := List.getElem?_eq_some_iff.1 hj
     obtain ⟨gb', o', cs', b', e1, r1, r2, -, -⟩ := hr.get hjl
     cases e1
     obtain ⟨rfl, -⟩ := r1
     have := r2 0 _ rfl
     simpa [DM] using this

theorem vtext_size (v : Val) : (CA v).size ≤ 15 := by
 unfold CA
 by_cases h : CV v = true
 · rw [if_pos h]
   cases he : v.s.toList.isEmpty
   · rw [if_neg (by simp)]
     rw [H2 he] at h
     simp [C7, DO] at h
     omega
   · rw [if_pos rfl]; exact DZ _
 · rw [if_neg h]; exact Nat.zero_le _
theorem valueTextI_c (v : Val) : AC Tryz.prog 90 [.agg (GA v)] [] (.one (.c (.string (CA v)))) [] :=
 AC.pure ⟨_, _, Tryz.func90, rfl, rfl⟩ (by show (CA v).size ≤ maxLen; have := vtext_size v; unfold maxLen; omega) fun w g cargs h => by
   obtain ⟨x, rfl, h1⟩ := IG h
   obtain ⟨vs, rfl, h2⟩ : VR1 g [] w x (.agg (GA v)) := h1
   match vs, h2 with
   | [u, t], ⟨⟨f1, _⟩, ⟨f2, f3⟩, _⟩ => subst f1; subst f2; exact valueTextI_any v w f3
theorem valueTextS_c (v : Val) : AC Tryz.prog 94 [.agg (GA v)] [] (.one (.c (.string (CA v)))) [] :=
 AC.pure ⟨_, _, Tryz.func94, rfl, rfl⟩ (by show (CA v).size ≤ maxLen; have := vtext_size v; unfold maxLen; omega) fun w g cargs h => by
   obtain ⟨x, rfl, h1⟩ := IG h
   obtain ⟨vs, rfl, h2⟩ : VR1 g [] w x (.agg (GA v)) := h1
   match vs, h2 with
   | [u, t], ⟨⟨f1, _⟩, ⟨f2, f3⟩, _⟩ => subst f1; subst f2; exact valueTextS_any v w f3
theorem inv_i {g : Gh} {l : Locs} {w : World} {v : Value} {n : Int} (h : VR1 g l w v (.one (.c (.int .i64 n)))) : v = .int .i64 n := h.1
theorem numTextI_c (n : Int) : AC Tryz.prog 12 [.one (.c (.int .i64 n))] [] (.one (.c (.string (BR n)))) [] :=
 AC.pure ⟨_, _, Tryz.func12, rfl, rfl⟩ (by show (BR n).size ≤ maxLen; have := DZ n; unfold maxLen; omega) fun w g cargs h => by
   obtain ⟨x, rfl, h1⟩ := IG h
   obtain rfl := inv_i h1
   exact (Gx n w).mono fun e w' ⟨h1, h2⟩ => ⟨h1, EI h2⟩
theorem numTextS_c (n : Int) : AC Tryz.prog 15 [.one (.c (.int .i64 n))] [] (.one (.c (.string (BR n)))) [] :=
 AC.pure ⟨_, _, Tryz.func15, rfl, rfl⟩ (by show (BR n).size ≤ maxLen; have := DZ n; unfold maxLen; omega) fun w g cargs h => by
   obtain ⟨x, rfl, h1⟩ := IG h
   obtain rfl := inv_i h1
   exact (Fo n w).mono fun e w' h => h
def comma : ByteArray := ⟨#[44, 32]⟩
theorem G0 : comma.size = 2 := rfl
def EB {α : Type} (f : α → ByteArray) (xs : List α) (k : Nat) : ByteArray := D2 ((xs.take k).map f) comma
theorem GT {α : Type} {f : α → ByteArray} {xs : List α} : EB f xs 0 = ⟨#[]⟩ := IF _
theorem joinTo_one {α : Type} {f : α → ByteArray} {xs : List α} {k : Nat} (hk : k < xs.length) (h0 : k = 0) : EB f xs (k + 1) = f xs[k] := by
 subst h0
 unfold EB
 rw [List.take_succ_eq_append_getElem hk]
 exact Jb _ _
theorem joinTo_more {α : Type} {f : α → ByteArray} {xs : List α} {k : Nat} (hk : k < xs.length) (h0 : 0 < k) : EB f xs (k + 1) = EB f xs k ++ comma ++ f xs[k] := by
 unfold EB
 rw [List.take_succ_eq_append_getElem hk, List.map_append]
 exact joinB_more _ _ (by
   intro e
   have := congrArg List.length e
   rw [List.length_map, List.length_take, List.length_nil] at this; omega)
theorem Gy {α : Type} {f : α → ByteArray} {xs : List α} {k : Nat} (hk : xs.length ≤ k) : EB f xs k = D2 (xs.map f) comma := by unfold EB; rw [List.take_of_length_le hk]
theorem joinTo_le {α : Type} {f : α → ByteArray} {xs : List α} {k M : Nat} (h : ∀ x ∈ xs, (f x).size ≤ M) : (EB f xs k).size ≤ (M + 2) * xs.length := by
 have := joinB_le (sep := comma) (M := M) ((xs.take k).map f).length ((xs.take k).map f) rfl fun y hy => by
   obtain ⟨x, hx, rfl⟩ := List.mem_map.1 hy
   exact h x (List.mem_of_mem_take hx)
 have h2 : ((xs.take k).map f).length ≤ xs.length := by simp; omega
 rw [G0] at this
 exact Nat.le_trans this (Nat.mul_le_mul_left _ h2)
def BF (t : Termt) : ByteArray := if (t.var == (⟨#[]⟩ : ByteArray)) = true then CA t.val else t.var
theorem varB_size {s : ByteArray} (h : Eu s = true) : s.size ≤ 12 := by
 simp only [Eu, DO, Bool.and_eq_true, decide_eq_true_eq] at h; omega
theorem wordB_size {s : ByteArray} (h : C7 s = true) : s.size ≤ 12 := by
 simp only [C7, DO, Bool.and_eq_true, decide_eq_true_eq] at h; omega
theorem BV {t : Termt} (h : Cv t = true) : (BF t).size ≤ 15 := by
 unfold BF; unfold Cv at h
 split
 · exact vtext_size _
 · rename_i h1
   rw [if_neg h1] at h
   simp only [Bool.and_eq_true] at h
   have := varB_size h.1; omega
def Da (a : Atomt) : ByteArray := if Db a = true then a.name ++ ⟨#[40]⟩ ++ D2 (a.args.map BF) comma ++ ⟨#[41]⟩ else ⟨#[]⟩
theorem Hd {a : Atomt} (h : Db a = false) : Da a = ⟨#[]⟩ := by simp [Da, h]
theorem FT {a : Atomt} (h : Db a = true) : Da a = a.name ++ ⟨#[40]⟩ ++ D2 (a.args.map BF) comma ++ ⟨#[41]⟩ := by simp [Da, h]
theorem C8 {a : Atomt} (h : Db a = true) : a.name.size ≤ 12 ∧ a.args.length ≤ 6 ∧ ∀ t ∈ a.args, (BF t).size ≤ 15 := by
 simp only [Db, DR, Bool.and_eq_true, decide_eq_true_eq] at h
 exact ⟨wordB_size h.1.1, h.2.1, fun t ht => BV (List.all_eq_true.1 h.2.2 t ht)⟩
theorem G3 {a : Atomt} (h : Db a = true) (k : Nat) : (EB BF a.args k).size ≤ 102 := by
 obtain ⟨_, h2, h3⟩ := C8 h
 have := joinTo_le (k := k) h3
 omega
theorem args_all {a : Atomt} (h : Db a = true) : (D2 (a.args.map BF) comma).size ≤ 102 := by
 rw [← Gy (Nat.le_refl _)]; exact G3 h _
theorem Fd (a : Atomt) : (Da a).size ≤ 116 := by
 unfold Da; split
 · rename_i h
   have := args_all h
   have := (C8 h).1
   simp only [Bf]
   have e1 : (⟨#[40]⟩ : ByteArray).size = 1 := rfl
   have e2 : (⟨#[41]⟩ : ByteArray).size = 1 := rfl
   omega
 · have e1 : (⟨#[]⟩ : ByteArray).size = 0 := rfl
   omega
def opList : List ByteArray := [⟨#[]⟩, ⟨#[61]⟩, ⟨#[33, 61]⟩, ⟨#[60]⟩, ⟨#[60, 61]⟩]
def EQ (op : Int) : ByteArray := (opList[op.toNat]?).getD ⟨#[]⟩
theorem Fq {op : Int} {k : Nat} (hk : k < opList.length) (e : k = op.toNat) : opList[k] = EQ op := by
 subst e; unfold EQ; rw [List.getElem?_eq_getElem hk]; rfl
theorem opText_le {op : Int} : (EQ op).size ≤ 2 := by
 have h : ∀ x ∈ opList, x.size ≤ 2 := by unfold opList; simp; try decide
 unfold EQ
 cases e : opList[op.toNat]? with
 | none => exact Nat.zero_le _
 | some x => exact h x (List.mem_of_getElem? e)
def C0 (l : Litt) : ByteArray := if l.kind = 1 then Da l.atom else if l.kind = 2 then ⟨#[110, 111, 116, 32]⟩ ++ Da l.atom
 else BF l.a ++ ⟨#[32]⟩ ++ EQ l.op ++ ⟨#[32]⟩ ++ BF l.b
theorem CG {l : Litt} (h : Cs l = true) (h1 : ¬ l.kind = 1) (h2 : ¬ l.kind = 2) : 1 ≤ l.op ∧ l.op ≤ 4 ∧ Cv l.a = true ∧ Cv l.b = true := by
 simp only [Cs] at h
 rw [if_neg (by omega)] at h
 split at h
 · simp only [Bool.and_eq_true, decide_eq_true_eq] at h
   exact ⟨h.1.1, h.1.2, h.2.2.2.1, h.2.2.2.2⟩
 · cases h
theorem litText_le {l : Litt} (h : Cs l = true) : (C0 l).size ≤ 120 := by
 unfold C0
 have := Fd l.atom
 split
 · omega
 · rename_i h1
   split
   · have : (⟨#[110, 111, 116, 32]⟩ : ByteArray).size = 4 := rfl
     rw [Bf]; omega
   · rename_i h2
     obtain ⟨_, _, q1, q2⟩ := CG h h1 h2
     have := BV q1
     have := BV q2
     have := opText_le (op := l.op)
     have : (⟨#[32]⟩ : ByteArray).size = 1 := rfl
     simp only [Bf]; omega
def signList : List ByteArray := [⟨#[]⟩, ⟨#[]⟩, ⟨#[43]⟩, ⟨#[45]⟩]
def EV (k : Int) : ByteArray := (signList[k.toNat]?).getD ⟨#[]⟩
theorem IW {op : Int} {k : Nat} (hk : k < signList.length) (e : k = op.toNat) : signList[k] = EV op := by
 subst e; unfold EV; rw [List.getElem?_eq_getElem hk]; rfl
theorem E1 {op : Int} : (EV op).size ≤ 1 := by
 have h : ∀ x ∈ signList, x.size ≤ 1 := by unfold signList; simp; try decide
 unfold EV
 cases e : signList[op.toNat]? with
 | none => exact Nat.zero_le _
 | some x => exact h x (List.mem_of_getElem? e)
theorem Cy {k : Nat} (h : k < 5) : k < opList.length := h
theorem DN {k : Nat} (h : k < 4) : k < signList.length := h
theorem Ew {k : Nat} (h : k < opList.length) : opList[k].size ≤ 2 := by rw [Fq (op := (k : Int)) h (by simp)]; exact opText_le
theorem signList_get {k : Nat} (h : k < signList.length) : signList[k].size ≤ 1 := by rw [IW (op := (k : Int)) h (by simp)]; exact E1
theorem F7 {l : Litt} (h : l.kind = 1) : C0 l = Da l.atom := by simp [C0, h]
theorem EY {l : Litt} (h : l.kind = 2) : C0 l = ⟨#[110, 111, 116, 32]⟩ ++ Da l.atom := by simp [C0, h]
theorem EZ {l : Litt} (h1 : ¬ l.kind = 1) (h2 : ¬ l.kind = 2) : C0 l = BF l.a ++ ⟨#[32]⟩ ++ EQ l.op ++ ⟨#[32]⟩ ++ BF l.b := by simp [C0, h1, h2]
def Eg (l : List Litt) (k : Nat) : ByteArray := if k = 0 then ⟨#[]⟩ else ⟨#[32, 58, 45, 32]⟩ ++ EB C0 l k
theorem Jg {l : List Litt} : Eg l 0 = ⟨#[]⟩ := rfl
theorem bodyTo_one {l : List Litt} {k : Nat} (hk : k < l.length) (h0 : k = 0) : Eg l (k + 1) = Eg l k ++ ⟨#[32, 58, 45, 32]⟩ ++ C0 l[k] := by
 unfold Eg; rw [if_neg (by omega), if_pos h0, nil_app, joinTo_one hk h0]
theorem bodyTo_more {l : List Litt} {k : Nat} (hk : k < l.length) (h0 : ¬ k = 0) : Eg l (k + 1) = Eg l k ++ comma ++ C0 l[k] := by
 unfold Eg; rw [if_neg (by omega), if_neg h0, joinTo_more hk (by omega)]; simp only [ByteArray.append_assoc]
theorem Fc {l : List Litt} {k : Nat} (hk : l.length ≤ k) (h0 : 0 < l.length) : Eg l l.length = ⟨#[32, 58, 45, 32]⟩ ++ D2 (EX C0 l k) comma := by
 unfold Eg; rw [if_neg (by omega), Gy (Nat.le_refl _), IE hk]
theorem Jh {l : List Litt} (h0 : ¬ 0 < l.length) : Eg l l.length = ⟨#[]⟩ := by
 unfold Eg; rw [if_pos (by omega)]
theorem FM {r : Rulet} (h : Cx r = true) : 1 ≤ r.kind ∧ r.kind ≤ 3 ∧ r.body.length ≤ 8 ∧ ∀ l ∈ r.body, Cs l = true := by
 simp only [Cx, Bool.and_eq_true, decide_eq_true_eq] at h
 exact ⟨h.1.1, h.1.2, h.2.2.1, fun l hl => List.all_eq_true.1 h.2.2.2 l hl⟩
theorem lits_le {r : Rulet} (h : Cx r = true) (k : Nat) : (EB C0 r.body k).size ≤ 976 := by
 obtain ⟨_, _, h2, h3⟩ := FM h
 have := joinTo_le (k := k) (M := 120) (f := C0) (xs := r.body) fun l hl => litText_le (h3 l hl)
 omega
theorem Io {r : Rulet} (h : Cx r = true) (k : Nat) : (D2 (EX C0 r.body k) comma).size ≤ 976 := lits_le h k
theorem I0 {r : Rulet} (h : Cx r = true) (k : Nat) : (Eg r.body k).size ≤ 980 := by
 unfold Eg; split
 · exact Nat.zero_le _
 · have := lits_le h k
   have : (⟨#[32, 58, 45, 32]⟩ : ByteArray).size = 4 := rfl
   rw [Bf]; omega
def E5 (r : Rulet) : ByteArray := if Cx r = true then EV r.kind ++ Da r.head ++ Eg r.body r.body.length ++ ⟨#[46]⟩ else ⟨#[]⟩
theorem FK {r : Rulet} (h : Cx r = false) : E5 r = ⟨#[]⟩ := by simp [E5, h]
theorem CD {r : Rulet} (h : Cx r = true) : E5 r = EV r.kind ++ Da r.head ++ Eg r.body r.body.length ++ ⟨#[46]⟩ := by simp [E5, h]
theorem FL (r : Rulet) : (E5 r).size ≤ 1100 := by
 unfold E5; split
 · rename_i h
   have := I0 h r.body.length
   have := Fd r.head
   have := E1 (op := r.kind)
   have : (⟨#[46]⟩ : ByteArray).size = 1 := rfl
   simp only [Bf]; omega
 · exact Nat.zero_le _
def declList : List ByteArray := [⟨#[]⟩, ⟨#[115, 116, 97, 116, 101]⟩, ⟨#[101, 118, 101, 110, 116]⟩, ⟨#[118, 105, 101, 119]⟩]
def FB (k : Int) : ByteArray := (declList[k.toNat]?).getD ⟨#[]⟩
theorem Je {op : Int} {k : Nat} (hk : k < declList.length) (e : k = op.toNat) : declList[k] = FB op := by
 subst e; unfold FB; rw [List.getElem?_eq_getElem hk]; rfl
theorem declWord_le {op : Int} : (FB op).size ≤ 5 := by
 have h : ∀ x ∈ declList, x.size ≤ 5 := by unfold declList; simp; try decide
 unfold FB
 cases e : declList[op.toNat]? with
 | none => exact Nat.zero_le _
 | some x => exact h x (List.mem_of_getElem? e)
theorem DU {k : Nat} (h : k < 4) : k < declList.length := h
theorem declList_get {k : Nat} (h : k < declList.length) : declList[k].size ≤ 5 := by rw [Je (op := (k : Int)) h (by simp)]; exact declWord_le
def Dj (d : Declt) : ByteArray := FB d.kind ++ ⟨#[32]⟩ ++ d.name ++ ⟨#[47]⟩ ++ BR d.arity ++ ⟨#[46, 10]⟩
theorem Jf {d : Declt} (h : Cc d = true) : 1 ≤ d.kind ∧ d.kind ≤ 3 ∧ d.name.size ≤ 12 := by
 simp only [Cc, DR, Bool.and_eq_true, decide_eq_true_eq] at h
 exact ⟨h.1.1, h.1.2.1, wordB_size h.2.1⟩
theorem declText_le {d : Declt} (h : Cc d = true) : (Dj d).size ≤ 36 := by
 have := (Jf h).2.2
 have := declWord_le (op := d.kind)
 have := DZ d.arity
 have : (⟨#[32]⟩ : ByteArray).size = 1 := rfl
 have : (⟨#[47]⟩ : ByteArray).size = 1 := rfl
 have : (⟨#[46, 10]⟩ : ByteArray).size = 2 := rfl
 simp only [Dj, Bf]; omega
def Dy (r : Rulet) : ByteArray := E5 r ++ ⟨#[10]⟩
theorem lineText_le (r : Rulet) : (Dy r).size ≤ 1101 := by
 have := FL r
 have : (⟨#[10]⟩ : ByteArray).size = 1 := rfl
 simp only [Dy, Bf]; omega
def G9 {α : Type} (f : α → ByteArray) (xs : List α) : Nat → ByteArray
 | 0 => ⟨#[]⟩
 | k + 1 => G9 f xs k ++ (match xs[k]? with | some x => f x | none => ⟨#[]⟩)
theorem CY {α : Type} {f : α → ByteArray} {xs : List α} : G9 f xs 0 = ⟨#[]⟩ := rfl
theorem Ez {α : Type} {f : α → ByteArray} {xs : List α} {k : Nat} (hk : k < xs.length) : G9 f xs (k + 1) = G9 f xs k ++ f xs[k] := by
 simp [G9, List.getElem?_eq_getElem hk]
theorem catTo_le {α : Type} {f : α → ByteArray} {xs : List α} {M : Nat} (h : ∀ x ∈ xs, (f x).size ≤ M) : ∀ k, k ≤ xs.length → (G9 f xs k).size ≤ M * k
 | 0, _ => Nat.zero_le _
 | k + 1, hk => by
   have ih := catTo_le h k (by omega)
   have := h _ (List.getElem_mem (l := xs) (n := k) (by omega))
   rw [Ez (by omega), Bf, Nat.mul_succ]; omega
theorem F0 {p : Programt} (h : Bm p = true) : p.decls.length ≤ 16 ∧ p.rules.length ≤ 24 ∧ ∀ d ∈ p.decls, Cc d = true := by
 simp only [Bm, Bool.and_eq_true, decide_eq_true_eq] at h
 exact ⟨h.1.1, h.1.2, fun d hd => List.all_eq_true.1 h.2.1 d hd⟩
theorem decls_le {p : Programt} (h : Bm p = true) {k : Nat} (hk : k ≤ p.decls.length) : (G9 Dj p.decls k).size ≤ 576 := by
 obtain ⟨h1, h2, h3⟩ := F0 h
 have := catTo_le (f := Dj) (M := 36) (fun d hd => declText_le (h3 d hd)) k hk
 omega
theorem rules_le {p : Programt} (h : Bm p = true) {k : Nat} (hk : k ≤ p.rules.length) : (G9 Dy p.rules k).size ≤ 26424 := by
 obtain ⟨h1, h2, h3⟩ := F0 h
 have := catTo_le (f := Dy) (xs := p.rules) (M := 1101) (fun d hd => lineText_le d) k hk
 omega
def BU (p : Programt) (i j : Nat) : ByteArray := G9 Dj p.decls i ++ G9 Dy p.rules j
def BA (p : Programt) : ByteArray × Bool := if Bm p = true then (if 6000 < (BU p p.decls.length p.rules.length).size then (⟨#[]⟩, false) else (BU p p.decls.length p.rules.length, true)) else (⟨#[]⟩, false)
theorem programText_no {p : Programt} (h : Bm p = false) : BA p = (⟨#[]⟩, false) := by simp [BA, h]
theorem Ji {p : Programt} {i j : Nat} (h : Bm p = true) (hi : i = p.decls.length) (hj : j = p.rules.length) (hs : 6000 < ((BU p i j).size : Int)) : BA p = (⟨#[]⟩, false) := by
 subst hi; subst hj; unfold BA; rw [if_pos h, if_pos (by omega)]
theorem programText_ok {p : Programt} {i j : Nat} (h : Bm p = true) (hi : i = p.decls.length) (hj : j = p.rules.length) (hs : ¬ 6000 < ((BU p i j).size : Int)) : BA p = (BU p i j, true) := by
 subst hi; subst hj; unfold BA; rw [if_pos h, if_neg (by omega)]
end Go.Proofs.YtkemjhlbokldhaaGreat

namespace Go.Proofs.YtkemjhlbokldhaaGreat
open Go.RowKit
set_option linter.unusedVariables false
set_option maxRecDepth 100000

structure Tokent where
 kind : Int
 n : Int
 s : ByteArray
 pl : Int
def C1 : Enc Tokent := isoE (C3 (intE .i64) (C3 (intE .i64) (C3 DM (C3 (intE .i64) Gc)))) (fun x => (x.kind, x.n, x.s, x.pl, ()))
def tokenC (x : Tokent) : List Cell := [.c (.int .i64 x.kind), .c (.int .i64 x.n), .c (.string x.s), .c (.int .i64 x.pl)]
instance : CellsOf C1 tokenC := GY (e := (C3 (intE .i64) (C3 (intE .i64) (C3 DM (C3 (intE .i64) Gc))))) (fun x : Tokent => (x.kind, x.n, x.s, x.pl, ()))
end Go.Proofs.YtkemjhlbokldhaaGreat

namespace Go.Proofs.YtkemjhlbokldhaaGreat
open Go.RowKit
set_option linter.unusedVariables false
set_option linter.unusedSimpArgs false

theorem ba_iff {a b : ByteArray} : (a == b) = true ↔ a = b := by
 constructor
 · intro h
   rw [beq_toListBytes, ByteArray.toList_eq, ByteArray.toList_eq] at h
   have h2 : a.data.toList = b.data.toList := by simpa using h
   obtain ⟨⟨a⟩⟩ := a
   obtain ⟨⟨b⟩⟩ := b
   simp at h2; rw [h2]
 · rintro rfl; rw [beq_toListBytes]; simp
theorem ba_no {a b : ByteArray} : (a == b) = false ↔ ¬ a = b := by
 rw [← ba_iff, Bool.not_eq_true]
def cls (c : Int) : Int := if Ct c = true then 1 else if upB c = true then 2 else if Cf c = true then 3 else 0
theorem alnum_cls (c : Int) : B0 c = decide (0 < cls c) := by
 unfold B0 cls
 cases Ct c <;> cases upB c <;> cases Cf c <;> simp
def CH (c : Int) : Bool := decide (c = 9) || (decide (c = 10) || (decide (c = 13) || decide (c = 32)))
section
variable (s : ByteArray)
def Ce (i : Nat) : Nat := if h : i < s.size then (if (s[i].toNat : Int) = 10 then i else Ce (i + 1)) else i
termination_by s.size - i
def Bp (i : Nat) : Nat := if h : i < s.size then (if B0 s[i].toNat = true then Bp (i + 1) else i) else i
termination_by s.size - i
end
section
variable {s : ByteArray}
theorem F8 (i : Nat) : i ≤ Ce s i := by
 rw [Ce]
 split
 · split
   · exact Nat.le_refl _
   · have := F8 (i + 1); omega
 · exact Nat.le_refl _
termination_by s.size - i
theorem lineEnd_le (i : Nat) (h : i ≤ s.size) : Ce s i ≤ s.size := by
 rw [Ce]
 split
 · split
   · exact h
   · exact lineEnd_le (i + 1) (by omega)
 · exact h
termination_by s.size - i
theorem Ex {i : Nat} (h : i < s.size) (h2 : ¬ (s[i].toNat : Int) = 10) : Ce s i = Ce s (i + 1) := by
 rw [Ce, dif_pos h, if_neg h2]
theorem lineEnd_at {i : Nat} (h : i < s.size) (h2 : (s[i].toNat : Int) = 10) : Ce s i = i := by
 rw [Ce, dif_pos h, if_pos h2]
theorem lineEnd_end {i : Nat} (h : ¬ i < s.size) : Ce s i = i := by rw [Ce, dif_neg h]
theorem wordEnd_ge (i : Nat) : i ≤ Bp s i := by
 rw [Bp]
 split
 · split
   · have := wordEnd_ge (i + 1); omega
   · exact Nat.le_refl _
 · exact Nat.le_refl _
termination_by s.size - i
theorem D5 (i : Nat) (h : i ≤ s.size) : Bp s i ≤ s.size := by
 rw [Bp]
 split
 · split
   · exact D5 (i + 1) (by omega)
   · exact h
 · exact h
termination_by s.size - i
theorem EO {i : Nat} (h : i < s.size) (h2 : B0 s[i].toNat = true) : Bp s i = Bp s (i + 1) := by rw [Bp, dif_pos h, if_pos h2]
theorem GE {i : Nat} (h : i < s.size) (h2 : B0 s[i].toNat = false) : Bp s i = i := by rw [Bp, dif_pos h, if_neg (by rw [h2]; simp)]
theorem GF {i : Nat} (h : ¬ i < s.size) : Bp s i = i := by rw [Bp, dif_neg h]
theorem Et {i : Nat} (h : i < s.size) (h2 : B0 s[i].toNat = true) : i < Bp s i := by
 rw [EO h h2]
 have := wordEnd_ge (s := s) (i + 1); omega
theorem wordEnd_all {i : Nat} : ∀ j, i ≤ j → j < Bp s i → ∀ (h : j < s.size), B0 s[j].toNat = true := by
 intro j h1 h2 h
 by_cases hi : i < s.size
 · cases q : B0 s[i].toNat
   · rw [GE hi q] at h2; omega
   · by_cases e : i = j
     · subst e; exact q
     · rw [EO hi q] at h2
       exact wordEnd_all (i := i + 1) j (by omega) h2 h
 · rw [GF hi] at h2; omega
termination_by s.size - i
end
def B3 (s : ByteArray) (i : Nat) : Nat :=
 if h : i < s.size then (if CH s[i].toNat = true then B3 s (i + 1) else if (s[i].toNat : Int) = 35 then (have := F8 (s := s) (i + 1); B3 s (Ce s (i + 1))) else i) else i
termination_by s.size - i
section
variable {s : ByteArray}
theorem CJ {i : Nat} (h : i < s.size) (h2 : CH s[i].toNat = true) : B3 s i = B3 s (i + 1) := by rw [B3, dif_pos h, if_pos h2]
theorem Ge {i : Nat} (h : i < s.size) (h2 : CH s[i].toNat = false) (h3 : (s[i].toNat : Int) = 35) : B3 s i = B3 s (Ce s i) := by
 rw [B3, dif_pos h, if_neg (by rw [h2]; simp), if_pos h3, Ex h (by omega)]
theorem E0 {i : Nat} (h : i < s.size) (h2 : CH s[i].toNat = false) (h3 : ¬ (s[i].toNat : Int) = 35) : B3 s i = i := by rw [B3, dif_pos h, if_neg (by rw [h2]; simp), if_neg h3]
theorem GM {i : Nat} (h : ¬ i < s.size) : B3 s i = i := by rw [B3, dif_neg h]
theorem note_end {i : Nat} (h : i < s.size) (h2 : CH s[i].toNat = false) (h3 : (s[i].toNat : Int) = 35) (he : Ce s i = s.size) : B3 s i = s.size := by
 rw [Ge h h2 h3, he]; exact GM (Nat.lt_irrefl _)
theorem note_lt {i : Nat} (h : i < s.size) (h3 : (s[i].toNat : Int) = 35) : i < Ce s i := by
 rw [Ex h (by omega)]
 have := F8 (s := s) (i + 1); omega
theorem ET (i : Nat) : i ≤ B3 s i := by
 by_cases h : i < s.size
 · cases h2 : CH s[i].toNat
   · by_cases h3 : (s[i].toNat : Int) = 35
     · rw [Ge h h2 h3, Ex h (by omega)]
       have h4 := F8 (s := s) (i + 1)
       have := ET (Ce s (i + 1)); omega
     · rw [E0 h h2 h3]; exact Nat.le_refl _
   · rw [CJ h h2]
     have := ET (i + 1); omega
 · rw [GM h]; exact Nat.le_refl _
termination_by s.size - i
theorem Hm (i : Nat) (hi : i ≤ s.size) : B3 s i ≤ s.size := by
 by_cases h : i < s.size
 · cases h2 : CH s[i].toNat
   · by_cases h3 : (s[i].toNat : Int) = 35
     · rw [Ge h h2 h3, Ex h (by omega)]
       have h4 := F8 (s := s) (i + 1)
       exact Hm _ (lineEnd_le _ (by omega))
     · rw [E0 h h2 h3]; exact hi
   · rw [CJ h h2]
     exact Hm (i + 1) (by omega)
 · rw [GM h]; exact hi
termination_by s.size - i
theorem skip_there (i : Nat) (h : B3 s i < s.size) : CH s[B3 s i].toNat = false ∧ ¬ (s[B3 s i].toNat : Int) = 35 := by
 by_cases hi : i < s.size
 · cases h2 : CH s[i].toNat
   · by_cases h3 : (s[i].toNat : Int) = 35
     · have h4 := F8 (s := s) (i + 1)
       have e : B3 s i = B3 s (Ce s (i + 1)) := by rw [Ge hi h2 h3, Ex hi (by omega)]
       have := skip_there (Ce s (i + 1)) (by rw [← e]; exact h)
       simp only [e]; exact this
     · have e := E0 hi h2 h3
       simp only [e]; exact ⟨h2, h3⟩
   · have e := CJ hi h2
     have := skip_there (i + 1) (by rw [← e]; exact h)
     simp only [e]; exact this
 · rw [GM hi] at h; exact absurd h hi
termination_by s.size - i
end
def HW : List Int := [40, 41, 44, 46, 61, 60, 43, 45, 47]
def EM (y : ByteArray) : Bool := y == (⟨#[58, 45]⟩ : ByteArray) || (y == (⟨#[33, 61]⟩ : ByteArray) || y == (⟨#[60, 61]⟩ : ByteArray))
def C2 (s : ByteArray) (i : Nat) : ByteArray :=
 if h : i < s.size then (if i + 1 < s.size ∧ EM (s.extract i (i + 2)) = true then s.extract i (i + 2) else if (s[i].toNat : Int) ∈ HW then s.extract i (i + 1) else ⟨#[]⟩) else ⟨#[]⟩
theorem symAt_size {s : ByteArray} {i : Nat} (h : i < s.size) : i + (C2 s i).size ≤ s.size := by
 unfold C2
 rw [dif_pos h]
 split
 · simp; omega
 · split
   · simp; omega
   · show i + 0 ≤ _; omega
def DK (s : ByteArray) (i e : Nat) (c : Int) : Option Tokent × Int :=
 if Cf c = true then (if Ds (s.extract i e) = true then (some ⟨3, D9 (s.extract i e), ⟨#[]⟩, i⟩, 0) else (none, 3))
 else if C7 (s.extract i e) = true then (some ⟨1, 0, s.extract i e, i⟩, 0) else if Eu (s.extract i e) = true then (some ⟨2, 0, s.extract i e, i⟩, 0) else (none, 4)
abbrev IU : Type := List Tokent × Int × Int
def Fl (t : Tokent) (r : IU) : IU := if r.2.1 = 0 then (t :: r.1, r.2) else ([], r.2)
def Fb (out : List Tokent) (r : IU) : IU := if r.2.1 = 0 then (out ++ r.1, r.2) else ([], r.2)
theorem comb_cons (out : List Tokent) (t : Tokent) (r : IU) : Fb out (Fl t r) = Fb (out ++ [t]) r := by
 unfold Fb Fl
 by_cases h : r.2.1 = 0 <;> simp [h]
def lexR (s : ByteArray) (i : Nat) : IU :=
 if h : B3 s i < s.size then
   (if ha : B0 s[B3 s i].toNat = true then
     (match DK s (B3 s i) (Bp s (B3 s i)) s[B3 s i].toNat with
     | (some t, _) => (have := Et h ha; have := ET (s := s) i; Fl t (lexR s (Bp s (B3 s i))))
     | (none, c) => ([], c, B3 s i))
   else if hy : (C2 s (B3 s i)).size = 0 then ([], 2, B3 s i)
   else (have := ET (s := s) i; Fl ⟨4, 0, C2 s (B3 s i), B3 s i⟩ (lexR s (B3 s i + (C2 s (B3 s i)).size))))
 else ([], 0, 0)
termination_by s.size - i
def AF (s : ByteArray) : IU := if 6000 < s.size then ([], 1, 0) else lexR s 0
section
variable {s : ByteArray}
theorem lex_skip {i j : Nat} (h : B3 s i = B3 s j) : lexR s i = lexR s j := by
 rw [lexR.eq_def s i, lexR.eq_def s j]; simp only [h]
theorem DX (i : Nat) : B3 s (B3 s i) = B3 s i := by
 by_cases h : B3 s i < s.size
 · have := skip_there i h
   exact E0 h this.1 this.2
 · exact GM h
theorem lex_end {j : Nat} (h : ¬ j < s.size) : lexR s j = ([], 0, 0) := by
 rw [lexR, dif_neg (by have := ET (s := s) j; omega)]
theorem lex_word {j : Nat} (h : j < s.size) (hs : B3 s j = j) (ha : B0 s[j].toNat = true) {t : Tokent} {c : Int} (ht : DK s j (Bp s j) s[j].toNat = (some t, c)) : lexR s j = Fl t (lexR s (Bp s j)) := by
 rw [lexR]
 simp only [hs]
 rw [dif_pos h, dif_pos ha, ht]
theorem lex_wrong {j : Nat} (h : j < s.size) (hs : B3 s j = j) (ha : B0 s[j].toNat = true) {c : Int} (ht : DK s j (Bp s j) s[j].toNat = (none, c)) : lexR s j = ([], c, (j : Int)) := by
 rw [lexR]
 simp only [hs]
 rw [dif_pos h, dif_pos ha, ht]
theorem lex_sign {j : Nat} (h : j < s.size) (hs : B3 s j = j) (ha : B0 s[j].toNat = false) (hy : ¬ (C2 s j).size = 0) : lexR s j = Fl ⟨4, 0, C2 s j, j⟩ (lexR s (j + (C2 s j).size)) := by
 rw [lexR]
 simp only [hs]
 rw [dif_pos h, dif_neg (by rw [ha]; simp), dif_neg hy]
theorem lex_nosign {j : Nat} (h : j < s.size) (hs : B3 s j = j) (ha : B0 s[j].toNat = false) (hy : (C2 s j).size = 0) : lexR s j = ([], 2, (j : Int)) := by
 rw [lexR]
 simp only [hs]
 rw [dif_pos h, dif_neg (by rw [ha]; simp), dif_pos hy]
def BT (s : ByteArray) (j : Nat) (c : Int) : Tokent × Int × Int := match DK s j (Bp s j) c with | (some t, _) => (t, (Bp s j : Int), 0) | (none, k) => (⟨0, 0, ⟨#[]⟩, 0⟩, 0, k)
theorem EF {j e : Nat} (h : j < e) (he : e ≤ s.size) (h0 : 0 < (s.extract j e).size) : (s.extract j e)[0] = s[j] := by
 rw [ByteArray.getElem_extract]; simp
theorem word_al {j : Nat} (hj : j < s.size) : allB B0 (s.extract j (Bp s j)) = true := by
 have hle := D5 (s := s) j (by omega)
 have hge := wordEnd_ge (s := s) j
 refine Hu fun i hi _ => ?_
 have hi2 : j + i < Bp s j := by rw [ByteArray.size_extract] at hi; omega
 rw [ByteArray.getElem_extract]
 exact wordEnd_all (i := j) (j + i) (by omega) hi2 (by omega)
theorem word_hd {p : Int → Bool} {j : Nat} (hj : j < s.size) (hgt : j < Bp s j) : GV p (s.extract j (Bp s j)) = p s[j].toNat := by
 have hle := D5 (s := s) j (by omega)
 have h0 : 0 < (s.extract j (Bp s j)).size := by rw [ByteArray.size_extract]; omega
 rw [ED h0, EF hgt hle h0]
theorem H5 {j e : Nat} {c : Int} (he : e = Bp s j) (hd : Cf c = true) (ht : Ds (s.extract j e) = false) : BT s j c = (⟨0, 0, ⟨#[]⟩, 0⟩, 0, 3) := by
 subst he; simp [BT, DK, hd, ht]
theorem res_num {j e : Nat} {c : Int} (he : e = Bp s j) (hd : Cf c = true) (ht : Ds (s.extract j e) = true) : BT s j c = (⟨3, D9 (s.extract j e), ⟨#[]⟩, j⟩, (e : Int), 0) := by
 subst he; simp [BT, DK, hd, ht]
theorem HZ {j e : Nat} {c : Int} (he : e = Bp s j) (hd : Cf c = false) (hw : C7 (s.extract j e) = true) : BT s j c = (⟨1, 0, s.extract j e, j⟩, (e : Int), 0) := by
 subst he; simp [BT, DK, hd, hw]
theorem GR {j e : Nat} {c : Int} (he : e = Bp s j) (hd : Cf c = false) (hw : C7 (s.extract j e) = false) (hv : Eu (s.extract j e) = false) : BT s j c = (⟨0, 0, ⟨#[]⟩, 0⟩, 0, 4) := by
 subst he; simp [BT, DK, hd, hw, hv]
theorem res_var {j e : Nat} {c : Int} (he : e = Bp s j) (hd : Cf c = false) (hw : C7 (s.extract j e) = false) (hv : Eu (s.extract j e) = true) : BT s j c = (⟨2, 0, s.extract j e, j⟩, (e : Int), 0) := by
 subst he; simp [BT, DK, hd, hw, hv]
theorem var_not {j e : Nat} (he : e = Bp s j) (hj : j < s.size) (hgt : j < Bp s j) (h : Ct s[j].toNat = true) : Eu (s.extract j e) = false := by
 subst he
 unfold Eu
 rw [word_hd hj hgt]
 have : upB s[j].toNat = false := by
   unfold Ct at h; unfold upB
   simp only [decide_eq_true_eq, decide_eq_false_iff_not] at *; omega
 rw [this]; simp
theorem word_not {j e : Nat} (he : e = Bp s j) (hj : j < s.size) (hgt : j < Bp s j) (h : Ct s[j].toNat = false) : C7 (s.extract j e) = false := by
 subst he
 unfold C7
 rw [word_hd hj hgt, h]; simp
theorem long_not {w : ByteArray} (h : 12 < w.size) : C7 w = false ∧ Eu w = false := by
 have : DO w = false := by simp [DO]; omega
 unfold C7 Eu
 rw [this]; simp
theorem var_yes {j e : Nat} (he : e = Bp s j) (hj : j < s.size) (hgt : j < Bp s j) (ha : B0 s[j].toNat = true) (hl : Ct s[j].toNat = false) (hd : Cf s[j].toNat = false) (h : ¬ 12 < (s.extract j e).size) : Eu (s.extract j e) = true := by
 subst he
 have hle := D5 (s := s) j (by omega)
 unfold Eu
 rw [word_al hj, word_hd hj hgt]
 have hu : upB s[j].toNat = true := by simpa [B0, hl, hd] using ha
 have hs : 1 ≤ (s.extract j (Bp s j)).size := by rw [ByteArray.size_extract]; omega
 rw [hu]
 simp only [DO, Bool.true_and, Bool.and_true, Bool.and_eq_true, decide_eq_true_eq]
 omega
end
end Go.Proofs.YtkemjhlbokldhaaGreat

namespace Go.Proofs.YtkemjhlbokldhaaGreat
open Go.RowKit
set_option linter.unusedVariables false
set_option linter.unusedSimpArgs false
set_option maxRecDepth 100000

def classics : List ByteArray := [(ByteArray.mk (List.toArray (List.append [115, 116, 97, 116, 101, 32, 112, 111, 114, 116, 47, 50, 46, 10, 102, 111, 114, 119, 97, 114, 100, 40, 79, 41, 32, 58, 45, 32, 112, 97, 99, 107, 101, 116] [40, 83, 44, 32, 73, 44, 32, 65, 44, 32, 66, 41, 44, 32, 112, 111, 114, 116, 40, 83, 44, 32, 79, 41, 44, 32, 79, 32, 33, 61, 32, 73, 46, 10]))), (ByteArray.mk (List.toArray (List.append (List.append [115, 116, 97, 116, 101, 32, 112, 111, 114, 116, 47, 50, 46, 10, 115, 116, 97, 116, 101, 32, 115, 101, 101, 110, 47, 51, 46, 10, 118, 105, 101, 119, 32, 107, 110, 111, 119, 110, 47, 50, 46, 10, 107, 110, 111, 119, 110, 40, 83, 44, 32, 65, 41, 32, 58, 45, 32, 115, 101, 101, 110] [40, 83, 44, 32, 65, 44, 32, 80, 41, 46, 10, 102, 111, 114, 119, 97, 114, 100, 40, 79, 41, 32, 58, 45, 32, 112, 97, 99, 107, 101, 116, 40, 83, 44, 32, 73, 44, 32, 65, 44, 32, 66, 41, 44, 32, 115, 101, 101, 110, 40, 83, 44, 32, 66, 44, 32, 79, 41, 46, 10, 102, 111]) (List.append [114, 119, 97, 114, 100, 40, 79, 41, 32, 58, 45, 32, 112, 97, 99, 107, 101, 116, 40, 83, 44, 32, 73, 44, 32, 65, 44, 32, 66, 41, 44, 32, 110, 111, 116, 32, 107, 110, 111, 119, 110, 40, 83, 44, 32, 66, 41, 44, 32, 112, 111, 114, 116, 40, 83, 44, 32, 79, 41, 44, 32, 79] [32, 33, 61, 32, 73, 46, 10, 43, 115, 101, 101, 110, 40, 83, 44, 32, 65, 44, 32, 73, 41, 32, 58, 45, 32, 112, 97, 99, 107, 101, 116, 40, 83, 44, 32, 73, 44, 32, 65, 44, 32, 66, 41, 44, 32, 110, 111, 116, 32, 107, 110, 111, 119, 110, 40, 83, 44, 32, 65, 41, 46, 10])))), (ByteArray.mk (List.toArray (List.append (List.append [115, 116, 97, 116, 101, 32, 112, 111, 114, 116, 47, 50, 46, 10, 115, 116, 97, 116, 101, 32, 100, 101, 110, 121, 47, 50, 46, 10, 101, 118, 101, 110, 116, 32, 98, 108, 111, 99, 107, 47, 50, 46, 10, 101, 118, 101] [110, 116, 32, 97, 108, 108, 111, 119, 47, 50, 46, 10, 43, 100, 101, 110, 121, 40, 65, 44, 32, 66, 41, 32, 58, 45, 32, 98, 108, 111, 99, 107, 40, 65, 44, 32, 66, 41, 46, 10, 45, 100, 101, 110, 121, 40]) (List.append [65, 44, 32, 66, 41, 32, 58, 45, 32, 97, 108, 108, 111, 119, 40, 65, 44, 32, 66, 41, 46, 10, 102, 111, 114, 119, 97, 114, 100, 40, 79, 41, 32, 58, 45, 32, 112, 97, 99, 107, 101, 116, 40, 83, 44, 32] [73, 44, 32, 65, 44, 32, 66, 41, 44, 32, 110, 111, 116, 32, 100, 101, 110, 121, 40, 65, 44, 32, 66, 41, 44, 32, 112, 111, 114, 116, 40, 83, 44, 32, 79, 41, 44, 32, 79, 32, 33, 61, 32, 73, 46, 10])))), (ByteArray.mk (List.toArray (List.append (List.append (List.append [115, 116, 97, 116, 101, 32, 108, 105, 110, 107, 47, 51, 46, 10, 115, 116, 97, 116, 101, 32, 104, 111, 115, 116, 47, 51, 46, 10, 101, 118, 101, 110, 116, 32, 117, 112, 47, 51, 46, 10, 101, 118, 101, 110, 116, 32, 100, 111, 119, 110, 47, 51, 46, 10, 101] [118, 101, 110, 116, 32, 106, 111, 105, 110, 47, 51, 46, 10, 118, 105, 101, 119, 32, 112, 97, 116, 104, 47, 50, 46, 10, 118, 105, 101, 119, 32, 118, 105, 97, 47, 51, 46, 10, 112, 97, 116, 104, 40, 83, 44, 32, 84, 41, 32, 58, 45, 32, 108, 105, 110]) (List.append [107, 40, 83, 44, 32, 80, 44, 32, 84, 41, 46, 10, 112, 97, 116, 104, 40, 83, 44, 32, 84, 41, 32, 58, 45, 32, 108, 105, 110, 107, 40, 83, 44, 32, 80, 44, 32, 85, 41, 44, 32, 112, 97, 116, 104, 40, 85, 44, 32, 84, 41, 46, 10, 118, 105] [97, 40, 83, 44, 32, 80, 44, 32, 65, 41, 32, 58, 45, 32, 104, 111, 115, 116, 40, 83, 44, 32, 80, 44, 32, 65, 41, 46, 10, 118, 105, 97, 40, 83, 44, 32, 80, 44, 32, 65, 41, 32, 58, 45, 32, 108, 105, 110, 107, 40, 83, 44, 32, 80, 44, 32])) (List.append (List.append [84, 41, 44, 32, 118, 105, 97, 40, 84, 44, 32, 81, 44, 32, 65, 41, 44, 32, 110, 111, 116, 32, 110, 101, 97, 114, 40, 83, 44, 32, 65, 41, 46, 10, 118, 105, 101, 119, 32, 110, 101, 97, 114, 47, 50, 46, 10, 110, 101, 97, 114, 40, 83, 44, 32] [65, 41, 32, 58, 45, 32, 104, 111, 115, 116, 40, 83, 44, 32, 80, 44, 32, 65, 41, 46, 10, 102, 111, 114, 119, 97, 114, 100, 40, 80, 41, 32, 58, 45, 32, 112, 97, 99, 107, 101, 116, 40, 83, 44, 32, 73, 44, 32, 65, 44, 32, 66, 41, 44, 32]) (List.append [118, 105, 97, 40, 83, 44, 32, 80, 44, 32, 66, 41, 46, 10, 43, 108, 105, 110, 107, 40, 83, 44, 32, 80, 44, 32, 84, 41, 32, 58, 45, 32, 117, 112, 40, 83, 44, 32, 80, 44, 32, 84, 41, 46, 10, 45, 108, 105, 110, 107, 40, 83, 44, 32, 80] [44, 32, 84, 41, 32, 58, 45, 32, 100, 111, 119, 110, 40, 83, 44, 32, 80, 44, 32, 84, 41, 46, 10, 43, 104, 111, 115, 116, 40, 83, 44, 32, 80, 44, 32, 65, 41, 32, 58, 45, 32, 106, 111, 105, 110, 40, 83, 44, 32, 80, 44, 32, 65, 41, 46, 10]))))), (ByteArray.mk (List.toArray (List.append (List.append [115, 116, 97, 116, 101, 32, 109, 111, 100, 101, 47, 49, 46, 10, 101, 118, 101, 110, 116, 32, 115, 101, 116, 47, 49, 46, 10, 43, 109, 111, 100, 101, 40, 77, 41, 32, 58, 45, 32, 115, 101, 116, 40, 77, 41, 46, 10, 45] [109, 111, 100, 101, 40, 78, 41, 32, 58, 45, 32, 115, 101, 116, 40, 77, 41, 44, 32, 109, 111, 100, 101, 40, 78, 41, 44, 32, 78, 32, 33, 61, 32, 77, 46, 10, 102, 111, 114, 119, 97, 114, 100, 40, 49, 41, 32, 58]) (List.append [45, 32, 112, 97, 99, 107, 101, 116, 40, 83, 44, 32, 73, 44, 32, 65, 44, 32, 66, 41, 44, 32, 109, 111, 100, 101, 40, 111, 110, 41, 44, 32, 73, 32, 33, 61, 32, 49, 46, 10, 102, 111, 114, 119, 97, 114, 100, 40] [50, 41, 32, 58, 45, 32, 112, 97, 99, 107, 101, 116, 40, 83, 44, 32, 73, 44, 32, 65, 44, 32, 66, 41, 44, 32, 110, 111, 116, 32, 109, 111, 100, 101, 40, 111, 110, 41, 44, 32, 66, 32, 33, 61, 32, 55, 46, 10])))), (ByteArray.mk (List.toArray (List.append [115, 116, 97, 116, 101, 32, 112, 111, 114, 116, 47, 50, 46, 10, 102, 111, 114, 119, 97, 114, 100, 40, 79, 41, 32, 58, 45, 32, 112, 97, 99, 107, 101, 116, 40, 83, 44, 32, 73, 44, 32, 65, 44, 32, 65, 41, 44, 32, 112, 111, 114, 116, 40, 83, 44, 32] [79, 41, 46, 10, 102, 111, 114, 119, 97, 114, 100, 40, 79, 41, 32, 58, 45, 32, 112, 97, 99, 107, 101, 116, 40, 83, 44, 32, 73, 44, 32, 65, 44, 32, 66, 41, 44, 32, 65, 32, 60, 32, 66, 44, 32, 112, 111, 114, 116, 40, 83, 44, 32, 79, 41, 46, 10]))), (ByteArray.mk (List.toArray (List.append (List.append [115, 116, 97, 116, 101, 32, 97, 47, 49, 46, 10, 115, 116, 97, 116, 101, 32, 98, 47, 49, 46, 10, 101, 118, 101, 110, 116, 32, 116, 105, 99, 107, 47, 48, 46, 10, 118, 105, 101, 119, 32, 99, 47, 49, 46, 10, 118, 105, 101] [119, 32, 100, 47, 49, 46, 10, 99, 40, 88, 41, 32, 58, 45, 32, 97, 40, 88, 41, 44, 32, 110, 111, 116, 32, 98, 40, 88, 41, 46, 10, 100, 40, 88, 41, 32, 58, 45, 32, 97, 40, 88, 41, 44, 32, 110, 111, 116, 32, 99]) (List.append [40, 88, 41, 44, 32, 88, 32, 60, 61, 32, 51, 46, 10, 43, 98, 40, 88, 41, 32, 58, 45, 32, 116, 105, 99, 107, 40, 41, 44, 32, 99, 40, 88, 41, 46, 10, 45, 98, 40, 88, 41, 32, 58, 45, 32, 116, 105, 99, 107] [40, 41, 44, 32, 100, 40, 88, 41, 46, 10, 102, 111, 114, 119, 97, 114, 100, 40, 88, 41, 32, 58, 45, 32, 112, 97, 99, 107, 101, 116, 40, 83, 44, 32, 73, 44, 32, 65, 44, 32, 66, 41, 44, 32, 99, 40, 88, 41, 46, 10])))), (ByteArray.mk (List.toArray (List.append (List.append [115, 116, 97, 116, 101, 32, 97, 47, 50, 46, 10, 115, 116, 97, 116, 101, 32, 98, 47, 48, 46, 10, 101, 118, 101, 110, 116, 32, 101, 47, 49, 46, 10, 118, 105, 101, 119, 32, 99, 47, 50, 46, 10, 99, 40, 88, 44, 32, 89, 41, 32, 58, 45, 32] [97, 40, 88, 44, 32, 89, 41, 46, 10, 99, 40, 88, 44, 32, 89, 41, 32, 58, 45, 32, 99, 40, 88, 44, 32, 90, 41, 44, 32, 99, 40, 90, 44, 32, 89, 41, 46, 10, 43, 97, 40, 88, 44, 32, 89, 41, 32, 58, 45, 32, 101, 40, 88, 41, 44]) (List.append [32, 89, 32, 61, 32, 50, 46, 10, 45, 97, 40, 88, 44, 32, 88, 41, 32, 58, 45, 32, 101, 40, 88, 41, 46, 10, 43, 98, 40, 41, 32, 58, 45, 32, 112, 97, 99, 107, 101, 116, 40, 49, 44, 32, 73, 44, 32, 65, 44, 32, 53, 41, 44, 32] [110, 111, 116, 32, 98, 40, 41, 46, 10, 102, 111, 114, 119, 97, 114, 100, 40, 51, 41, 32, 58, 45, 32, 112, 97, 99, 107, 101, 116, 40, 83, 44, 32, 49, 44, 32, 65, 44, 32, 66, 41, 44, 32, 98, 40, 41, 44, 32, 65, 32, 61, 32, 52, 46, 10]))))]

def odds : List ByteArray := [(ByteArray.mk #[32]), (ByteArray.mk #[35]), (ByteArray.mk #[110, 111, 116, 32]), (ByteArray.mk #[40]), (ByteArray.mk #[41]), (ByteArray.mk #[44]), (ByteArray.mk #[46]), (ByteArray.mk #[58, 45]), (ByteArray.mk #[88]), (ByteArray.mk #[97, 98, 99]), (ByteArray.mk #[48]), (ByteArray.mk #[48, 49]), (ByteArray.mk #[33, 61]), (ByteArray.mk #[61]), (ByteArray.mk #[60]), (ByteArray.mk #[60, 61]), (ByteArray.mk #[43]), (ByteArray.mk #[45]), (ByteArray.mk #[47]), (ByteArray.mk #[10]), (ByteArray.mk #[63]), (ByteArray.mk #[65, 66, 67, 68, 69, 70, 71, 72, 73, 74, 75, 76, 77]), (ByteArray.mk #[97, 98, 99, 100, 101, 102, 103, 104, 105, 106, 107, 108, 109]), (ByteArray.mk #[50, 56, 49, 52, 55, 52, 57, 55, 54, 55, 49, 48, 54, 53, 54]), (ByteArray.mk #[57, 97]), (ByteArray.mk #[115, 116, 97, 116, 101, 32]), (ByteArray.mk #[112, 97, 99, 107, 101, 116]), (ByteArray.mk #[102, 111, 114, 119, 97, 114, 100]), (ByteArray.mk #[195, 169])]

theorem G2 : classics.length = 8 := rfl
theorem odds_len : odds.length = 29 := rfl

theorem classics_le {k : Nat} (hk : k < classics.length) : classics[k].size ≤ 700 := by
 have : classics.all (fun x => Nat.ble x.size 700) = true := by decide +kernel
 exact Nat.le_of_ble_eq_true (List.all_eq_true.1 this _ (List.getElem_mem hk))

theorem odds_le {k : Nat} (hk : k < odds.length) : odds[k].size ≤ 20 := by
 have : odds.all (fun x => Nat.ble x.size 20) = true := by decide +kernel
 exact Nat.le_of_ble_eq_true (List.all_eq_true.1 this _ (List.getElem_mem hk))

theorem ext_le {s : ByteArray} {a b : Nat} : (s.extract a b).size ≤ s.size := by rw [ByteArray.size_extract]; omega
end Go.Proofs.YtkemjhlbokldhaaGreat

namespace Go.Proofs.YtkemjhlbokldhaaGreat
open Go.RowKit
set_option linter.unusedVariables false

structure Only (bs : List Nat) (w w' : World) : Prop where
 os : w'.os = w.os
 tape : w'.tape = w.tape
 output : w'.output = w.output
 size : w.heap.size ≤ w'.heap.size
 keep : ∀ b, b < w.heap.size → b ∉ bs → w'.heap[b]? = w.heap[b]?
 shape : ∀ b ∈ bs, ∀ c t, w.heap[b]? = some (.cells c t (0, 0)) → ∃ c', w'.heap[b]? = some (.cells c' t (0, 0)) ∧ c'.size = c.size
theorem Only.refl (bs : List Nat) (w : World) : Only bs w w := ⟨rfl, rfl, rfl, Nat.le_refl _, fun _ _ _ => rfl, fun _ _ c t h => ⟨c, h, rfl⟩⟩
theorem Only.trans {bs : List Nat} {w w1 w2 : World} (h : Only bs w w1) (h' : Only bs w1 w2) : Only bs w w2 :=
 ⟨h'.os.trans h.os, h'.tape.trans h.tape, h'.output.trans h.output, Nat.le_trans h.size h'.size, fun b hb hn => (h'.keep b (Nat.lt_of_lt_of_le hb h.size) hn).trans (h.keep b hb hn), fun b hb c t hc => by
   obtain ⟨c1, h1, z1⟩ := h.shape b hb c t hc
   obtain ⟨c2, h2, z2⟩ := h'.shape b hb c1 t h1
   exact ⟨c2, h2, z2.trans z1⟩⟩
theorem Only.below {bs : List Nat} {w w' : World} (h : Below w.heap.size w w') : Only bs w w' :=
 ⟨h.os, h.tape, h.output, h.size, fun b hb _ => h.block b hb, fun b hb c t hc => ⟨c, (h.block b (Array.getElem?_eq_some_iff.1 hc).1).trans hc, rfl⟩⟩
theorem Only.mono {bs bs' : List Nat} {w w' : World} (h : Only bs' w w') (hs : ∀ b ∈ bs', b ∈ bs) : Only bs w w' :=
 ⟨h.os, h.tape, h.output, h.size, fun b hb hn => h.keep b hb fun hm => hn (hs b hm), fun b hb c t hc => by
   by_cases hm : b ∈ bs'
   · exact h.shape b hm c t hc
   · exact ⟨c, (h.keep b (Array.getElem?_eq_some_iff.1 hc).1 hm).trans hc, rfl⟩⟩
theorem Fresh.only {lo : Nat} {bs bs' : List Nat} {w w' : World} (h : Fresh lo w bs) (o : Only bs' w w') : Fresh lo w' bs :=
 ⟨h.1, fun b hb => by
   obtain ⟨h1, c, t, hc⟩ := h.2 b hb
   by_cases hm : b ∈ bs'
   · obtain ⟨c', h2, _⟩ := o.shape b hm c t hc
     exact ⟨h1, c', t, h2⟩
   · exact ⟨h1, c, t, (o.keep b (Array.getElem?_eq_some_iff.1 hc).1 hm).trans hc⟩⟩
theorem Enc.only {α : Type} {e : Enc α} {cs : List Value} {x : α} {b bs : List Nat} {w w' : World} (h : e.rep w cs x b) (o : Only bs w w') (hd : ∀ c ∈ b, c ∉ bs) : e.rep w' cs x b :=
 e.keep h (fun c hc => o.keep c (e.lt h c hc) (hd c hc)) o.size
theorem Below.only {lo : Nat} {bs : List Nat} {w0 w w' : World} (h : Below lo w0 w) (o : Only bs w w') (hl : ∀ b ∈ bs, lo ≤ b) (hlo : lo ≤ w.heap.size) : Below lo w0 w' :=
 ⟨o.os.trans h.os, o.tape.trans h.tape, o.output.trans h.output, Nat.le_trans h.size o.size, fun b hb => (o.keep b (by omega) fun hm => by have := hl b hm; omega).trans (h.block b hb)⟩
theorem Only.setCell {bs : List Nat} {w : World} {g : Nat} (hg : g ∈ bs) (o : Nat) (v : Value) : Only bs w (w.setCell ⟨g, o, none⟩ v) :=
 ⟨rfl, rfl, rfl, by simp [World.setCell], fun b hb hn => Below.heap_setCell w _ _ b (fun e => hn (by rw [e]; exact hg)), fun b hb c t hc => by
   by_cases e : b = g
   · subst e
     exact ⟨c.setIfInBounds o v, by simp [World.setCell, Array.getElem?_modify, hc], by simp⟩
   · exact ⟨c, (Below.heap_setCell w ⟨g, o, none⟩ v b e).trans hc, rfl⟩⟩

theorem FR.keepM {w w' : World} : ∀ {vs : List Value} {cs : List Cell} {b : List Nat}, FR w vs cs b → (∀ x ∈ b, w'.heap[x]? = w.heap[x]?) → w.heap.size ≤ w'.heap.size → FR w' vs cs b
 | [], [], b, h, _, _ => h
 | v :: vs, c :: cs, b, h, hk, hs => by
   obtain ⟨b1, b2, rfl, h1, h2⟩ := h
   refine ⟨b1, b2, rfl, ?_, FR.keepM h2 (fun x hx => hk x (List.mem_append_right _ hx)) hs⟩
   cases c with
   | c u => exact h1
   | sl e xs =>
     obtain ⟨a, n, cap, h3, h4⟩ := h1
     exact ⟨a, n, cap, h3, h4.keep (fun x hx => hk x (List.mem_append_left _ hx)) hs⟩
   | rx e x us b j =>
     obtain ⟨h3, h4, rfl⟩ := h1
     exact ⟨h3, e.keep h4 (fun x hx => hk x (List.mem_append_left _ hx)) hs, rfl⟩
   | en e x => exact ⟨h1.1, e.keep h1.2 (fun x hx => hk x (List.mem_append_left _ hx)) hs⟩
   | _ => exact h1.elim
theorem FR.get_c {w : World} : ∀ {vs : List Value} {cs : List Cell} {b : List Nat} {i : Nat} {u : Value}, FR w vs cs b → cs[i]? = some (.c u) → vs[i]? = some u
 | [], [], b, i, u, _, h => by simp at h
 | v :: vs, c :: cs, b, 0, u, h, hi => by
   obtain ⟨b1, b2, rfl, h1, h2⟩ := h
   simp only [List.getElem?_cons_zero, Option.some.injEq] at hi
   subst hi
   simp [h1.1]
 | v :: vs, c :: cs, b, i + 1, u, h, hi => by
   obtain ⟨b1, b2, rfl, h1, h2⟩ := h
   simpa using FR.get_c h2 (by simpa using hi)
theorem FR.set_c {w : World} : ∀ {vs : List Value} {cs : List Cell} {b : List Nat} {i : Nat} {u v : Value}, FR w vs cs b → cs[i]? = some (.c u) → wfV v → FR w (vs.set i v) (cs.set i (.c v)) b
 | [], [], b, i, u, v, _, h, _ => by simp at h
 | y :: vs, c :: cs, b, 0, u, v, h, hi, hv => by
   obtain ⟨b1, b2, rfl, h1, h2⟩ := h
   simp only [List.getElem?_cons_zero, Option.some.injEq] at hi
   subst hi
   obtain rfl := h1.2.2
   exact ⟨[], b2, rfl, ⟨rfl, hv, rfl⟩, h2⟩
 | y :: vs, c :: cs, b, i + 1, u, v, h, hi, hv => by
   obtain ⟨b1, b2, rfl, h1, h2⟩ := h
   exact ⟨b1, b2, rfl, h1, FR.set_c h2 (by simpa using hi) hv⟩
section
variable {α : Type} {e : Enc α} {f : α → List Cell} [he : CellsOf e f] {w : World} {lo g off n cap k : Nat} {xs : List α} {bs : List Nat}
theorem SliceRep.put (h : SliceRep e w (some ⟨g, off, none⟩) n cap xs bs) (hF : Fresh lo w bs) {x0 : α} (hx0 : xs[k]? = some x0) (c : Nat) {u : Value} (v : Value) (x' : α) (h0 : (f x0)[c]? = some (.c u)) (hv : wfV v) (hx : f x' = (f x0).set c (.c v)) :
   SliceRep e (w.setCell ⟨g, off + k * e.size + c, none⟩ v) (some ⟨g, off, none⟩) n cap (xs.set k x') bs ∧ Only bs w (w.setCell ⟨g, off + k * e.size + c, none⟩ v) := by
 obtain ⟨hk, rfl⟩ := List.getElem?_eq_some_iff.1 hx0
 have hne : xs ≠ [] := by intro e; subst e; simp at hk
 obtain ⟨g', off', bss, ha, hg, rfl, hE⟩ := h.parts hne
 simp only [Option.some.injEq, Addr.mk.injEq, and_true] at ha
 obtain ⟨rfl, rfl⟩ := ha
 have hkb : k < bss.length := by rw [hE.1]; exact hk
 have hnd : g ∉ bss.flatten ∧ bss.flatten.Nodup := List.nodup_cons.1 hF.1
 obtain ⟨_, ca, t, hblk⟩ := hF.2 g (List.mem_cons_self ..)
 obtain ⟨cs, hr, hcs⟩ := hE.2 k xs[k] bss[k] (List.getElem?_eq_getElem hk) (List.getElem?_eq_getElem hkb)
 have hfr := he.iff.1 hr
 have hcu := FR.get_c hfr h0
 have hc : c < e.size := by rw [← e.len hr]; exact (List.getElem?_eq_some_iff.1 hcu).1
 have hin := hcs c u hcu
 have hO : Only (g :: bss.flatten) w (w.setCell ⟨g, off + k * e.size + c, none⟩ v) := Only.setCell (List.mem_cons_self ..) _ _
 have hfl : ∀ x ∈ bss.flatten, (w.setCell ⟨g, off + k * e.size + c, none⟩ v).heap[x]? = w.heap[x]? := fun x hx => Below.heap_setCell w _ _ x (fun e => hnd.1 (by rw [← show x = g from e]; exact hx))
 have hbk : ∀ x ∈ bss[k], (w.setCell ⟨g, off + k * e.size + c, none⟩ v).heap[x]? = w.heap[x]? := fun x hx => hfl x (List.mem_flatten.2 ⟨_, List.getElem_mem hkb, hx⟩)
 have hr' : e.rep (w.setCell ⟨g, off + k * e.size + c, none⟩ v) (cs.set c v) x' bss[k] := he.iff.2 (by rw [hx]; exact (hfr.set_c h0 hv).keepM hbk hO.size)
 have hE' := hE.upd (k := k) (x' := x') hr' (fun j u' hu => ?_) (fun i hi => ?_) (fun i b hik hb x hx => hfl x (List.mem_flatten.2 ⟨b, List.mem_of_getElem? hb, hx⟩)) hO.size
 · rw [List.set_getElem_self] at hE'
   exact ⟨SliceRep.mk (by simpa using h.1) h.2.1 h.2.2.1 (by intro e; simp at e; exact hne e) (Nat.lt_of_lt_of_le hg hO.size) hE', hO⟩
 · by_cases ej : j = c
   · subst ej
     rw [List.getElem?_set_self (by rw [e.len hr]; exact hc)] at hu
     cases hu
     exact World.cell?_setCell_same _ _ _ hin
   · rw [List.getElem?_set_ne (Ne.symm ej)] at hu
     rw [World.cell?_setCell_other w _ _ v (fun e => ej (by injection e with _ e; omega))]
     exact hcs j u' hu
 · exact World.cell?_setCell_other w _ _ v (fun e => by injection e with _ e; rw [Nat.add_mul] at hi; omega)
end

section
variable {α : Type} {e : Enc α} {f : α → List Cell} [he : CellsOf e f] {w : World} {lo g off n cap k : Nat} {ys : List α} {bs : List Nat}
end
section
variable {α : Type} (f : α → Int → α × Int)
end
end Go.Proofs.YtkemjhlbokldhaaGreat

namespace Go.Proofs.YtkemjhlbokldhaaGreat
open Go.RowKit
set_option linter.unusedVariables false

end Go.Proofs.YtkemjhlbokldhaaGreat

namespace Go.Proofs.YtkemjhlbokldhaaGreat
open Go.RowKit
set_option linter.unusedVariables false
set_option linter.unusedSimpArgs false
set_option maxRecDepth 100000

end Go.Proofs.YtkemjhlbokldhaaGreat

namespace Go.Proofs.YtkemjhlbokldhaaGreat
open Go.RowKit
set_option linter.unusedVariables false

end Go.Proofs.YtkemjhlbokldhaaGreat

namespace Go.Proofs.YtkemjhlbokldhaaGreat
open Go.RowKit
set_option linter.unusedVariables false

end Go.Proofs.YtkemjhlbokldhaaGreat

namespace Go.Proofs.YtkemjhlbokldhaaGreat
open Go.RowKit
set_option linter.unusedVariables false

theorem GoodTo.len {rows : List (List Val)} {ar : Int} {k j : Nat} (h : GoodTo rows ar k) (hj : j < rows.length) (hjk : j < k) : (rows[j].length : Int) = ar := by
 have := h j hj hjk
 cases j with
 | zero => simp only [rowAt, Bool.and_eq_true, beq_iff_eq] at this; exact this.2
 | succ j => simp only [rowAt, Bool.and_eq_true, beq_iff_eq] at this; exact this.1.2
end Go.Proofs.YtkemjhlbokldhaaGreat

namespace Go.Proofs.YtkemjhlbokldhaaGreat
open Go.RowKit
set_option linter.unusedVariables false
set_option linter.unusedSimpArgs false

end Go.Proofs.YtkemjhlbokldhaaGreat

namespace Go.Proofs.YtkemjhlbokldhaaGreat
open Go.RowKit
set_option linter.unusedVariables false
set_option linter.unusedSimpArgs false

theorem Sorted.nil : Sorted [] := ⟨fun j hj => absurd hj (by simp), fun i j hi => absurd hi (by simp)⟩
end Go.Proofs.YtkemjhlbokldhaaGreat

namespace Go.Proofs.YtkemjhlbokldhaaGreat
open Go.RowKit
set_option linter.unusedVariables false

section
variable {P : Program} {N d : Nat} {s : St} {ty : TypeId} {pos : String} {after : Array Edge} {gd : Option (Nat × Bool)}
end
theorem wrap64 (n : Int) : IntKind.i64.wrap n = if 9223372036854775808 ≤ n % 18446744073709551616 then n % 18446744073709551616 - 18446744073709551616 else n % 18446744073709551616 := by
 simp [IntKind.wrap, IntKind.bits, IntKind.signed]
end Go.Proofs.YtkemjhlbokldhaaGreat

namespace Go.Proofs.YtkemjhlbokldhaaGreat
open Go.RowKit
set_option linter.unusedVariables false

def Ha (m n : Int) : Int := IntKind.i64.wrap ((BitVec.ofInt IntKind.i64.bits m &&& BitVec.ofInt IntKind.i64.bits n).toNat : Int)
def bitXor (m n : Int) : Int := IntKind.i64.wrap ((BitVec.ofInt IntKind.i64.bits m ^^^ BitVec.ofInt IntKind.i64.bits n).toNat : Int)
section
variable {P : Program} {N d : Nat} {s : St} {ty : TypeId} {pos : String} {after : Array Edge} {gd : Option (Nat × Bool)}
theorem x_and {T T' : TypeId} {x y : Operand} {m n : Int} (hN : Nat.blt d N = true) (h : evo s.t x = some (.one (.c (.int .i64 m)))) (h2 : evo s.t y = some (.one (.c (.int .i64 n)))) :
   Stp P N ⟨some d, .binOp .and T x y T', ty, pos, after, gd⟩ s ⟨(d, .one (.c (.int .i64 (Ha m n)))) :: s.t, s.l⟩ ⟨rdo x (.one (.c (.int .i64 m))) ++ rdo y (.one (.c (.int .i64 n))), [], [(d, .one (.c (.int .i64 (Ha m n))))], [], []⟩ :=
 Fv hN h h2 (fun w => by simp only [binOp, Op.intBits]; rfl) (fun _ _ => wf_wrap .i64 _)
theorem x_xor {T T' : TypeId} {x y : Operand} {m n : Int} (hN : Nat.blt d N = true) (h : evo s.t x = some (.one (.c (.int .i64 m)))) (h2 : evo s.t y = some (.one (.c (.int .i64 n)))) :
   Stp P N ⟨some d, .binOp .xor T x y T', ty, pos, after, gd⟩ s ⟨(d, .one (.c (.int .i64 (bitXor m n)))) :: s.t, s.l⟩ ⟨rdo x (.one (.c (.int .i64 m))) ++ rdo y (.one (.c (.int .i64 n))), [], [(d, .one (.c (.int .i64 (bitXor m n))))], [], []⟩ :=
 Fv hN h h2 (fun w => by simp only [binOp, Op.intBits]; rfl) (fun _ _ => wf_wrap .i64 _)
end
theorem bitAnd_255 (m : Int) : 0 ≤ Ha m 255 ∧ Ha m 255 ≤ 255 := by
 have h : (BitVec.ofInt 64 m &&& BitVec.ofInt 64 255).toNat ≤ 255 := by
   rw [BitVec.toNat_and]
   exact Nat.and_le_right
 have e : Ha m 255 = IntKind.i64.wrap ((BitVec.ofInt 64 m &&& BitVec.ofInt 64 255).toNat : Int) := rfl
 rw [e, wrap64]
 generalize (BitVec.ofInt 64 m &&& BitVec.ofInt 64 255).toNat = q at h
 split <;> omega
theorem w64_in (n : Int) : -9223372036854775808 ≤ IntKind.i64.wrap n ∧ IntKind.i64.wrap n ≤ 9223372036854775807 := by
 rw [wrap64]; split <;> omega
structure Cur where
 i : Nat
 h : Int
class Old where
 v : Value
 bl : List Nat
def DD [Old] (b : List Int) (c : Cur) : Blk := .box [.rx (Fh (intE .u8)) b [Old.v] Old.bl 0, .c (.int .i64 c.i), .c (.int .i64 c.h)]
def curB0 (b : List Int) (c : Cur) : Blk := .box [.sl (intE .u8) b, .c (.int .i64 c.i), .c (.int .i64 c.h)]
def w64 (n : Int) : Int := IntKind.i64.wrap n
def hashTo (b : List Int) : Nat → Int
 | 0 => w64 (391785 + (b.length : Int))
 | k + 1 => Ha (w64 (w64 (w64 (hashTo b k * 131) + w64 (b.getD k 0)) + 7)) 1073741823
def dNew (b : List Int) : Cur := ⟨0, hashTo b (min b.length 4000)⟩
def F5 (h : Int) : Int := w64 (w64 (h * 6364136223846793005) + 1442695040888963407)
theorem nextH_in (h : Int) : -9223372036854775808 ≤ F5 h ∧ F5 h ≤ 9223372036854775807 := w64_in _
theorem shr_33 (h : Int) : (Lit.int .i64 ((F5 h).fdiv (2 ^ 33))).wf = true := by
 have h1 := nextH_in h
 have e : (2 : Int) ^ 33 = 8589934592 := by decide
 rw [e, Int.fdiv_eq_ediv_of_nonneg _ (by decide)]
 exact WalkArith.wf_i64 (by omega)
theorem shr_45 (h : Int) : (Lit.int .i64 ((F5 h).fdiv (2 ^ 45))).wf = true := by
 have h1 := nextH_in h
 have e : (2 : Int) ^ 45 = 35184372088832 := by decide
 rw [e, Int.fdiv_eq_ediv_of_nonneg _ (by decide)]
 exact WalkArith.wf_i64 (by omega)
theorem getD_int {b : List Int} {k : Nat} (h : k < b.length) : b[k] = b.getD k 0 := by simp [List.getD, h]
def mixH (h : Int) : Int := Ha (bitXor (h.fdiv (2 ^ 33)) (h.fdiv (2 ^ 45))) 255
def Cw (b : List Int) (c : Cur) : Int × Cur :=
 if c.i < b.length then (Ha (w64 (mixH (F5 c.h) + w64 (b.getD c.i 0))) 255, ⟨c.i + 1, F5 c.h⟩) else (mixH (F5 c.h), ⟨c.i, F5 c.h⟩)
theorem EH (b : List Int) (c : Cur) : 0 ≤ (Cw b c).1 ∧ (Cw b c).1 ≤ 255 := by
 unfold Cw; split <;> exact bitAnd_255 _
theorem dByte_yes {b : List Int} {c : Cur} (h : c.i < b.length) : Cw b c = (Ha (w64 (mixH (F5 c.h) + w64 (b.getD c.i 0))) 255, ⟨c.i + 1, F5 c.h⟩) := if_pos h
theorem dByte_no {b : List Int} {c : Cur} (h : ¬ c.i < b.length) : Cw b c = (mixH (F5 c.h), ⟨c.i, F5 c.h⟩) := if_neg h
def dFour (b : List Int) (c : Cur) : Int × Cur :=
 ((Cw b c).1 * 16777216 + (Cw b (Cw b c).2).1 * 65536 + (Cw b (Cw b (Cw b c).2).2).1 * 256 + (Cw b (Cw b (Cw b (Cw b c).2).2).2).1, (Cw b (Cw b (Cw b (Cw b c).2).2).2).2)
def AY (b : List Int) (c : Cur) (n : Int) : Int × Cur :=
 if n ≤ 0 then (0, c) else if n ≤ 256 then ((Cw b c).1.tmod n, (Cw b c).2) else ((dFour b c).1.tmod n, (dFour b c).2)
theorem dFour_in (b : List Int) (c : Cur) : 0 ≤ (dFour b c).1 ∧ (dFour b c).1 ≤ 4294967295 := by
 have h1 := EH b c
 have h2 := EH b (Cw b c).2
 have h3 := EH b (Cw b (Cw b c).2).2
 have h4 := EH b (Cw b (Cw b (Cw b c).2).2).2
 simp only [dFour]; omega
theorem dBelow_in (b : List Int) (c : Cur) (n : Int) : 0 ≤ (AY b c n).1 ∧ ((AY b c n).1 < n ∨ (AY b c n).1 = 0) := by
 have h1 := EH b c
 have h2 := dFour_in b c
 unfold AY
 split
 · exact ⟨Int.le_refl 0, .inr rfl⟩
 · split
   · rw [Int.tmod_eq_emod_of_nonneg h1.1]
     exact ⟨Int.emod_nonneg _ (by omega), .inl (Int.emod_lt_of_pos _ (by omega))⟩
   · rw [Int.tmod_eq_emod_of_nonneg h2.1]
     exact ⟨Int.emod_nonneg _ (by omega), .inl (Int.emod_lt_of_pos _ (by omega))⟩
theorem Cj (b : List Int) (c : Cur) {n : Int} (h : 0 < n) : 0 ≤ (AY b c n).1 ∧ (AY b c n).1 < n := by
 have := dBelow_in b c n
 omega
theorem dBelow_0 {b : List Int} {c : Cur} {n : Int} (h : n ≤ 0) : AY b c n = (0, c) := if_pos h
theorem dBelow_1 {b : List Int} {c : Cur} {n : Int} (h : ¬ n ≤ 0) (h2 : n ≤ 256) : AY b c n = ((Cw b c).1.tmod n, (Cw b c).2) := by unfold AY; rw [if_neg h, if_pos h2]
theorem dBelow_2 {b : List Int} {c : Cur} {n : Int} (h : ¬ n ≤ 0) (h2 : ¬ n ≤ 256) : AY b c n = ((dFour b c).1.tmod n, (dFour b c).2) := by unfold AY; rw [if_neg h, if_neg h2]
end Go.Proofs.YtkemjhlbokldhaaGreat

namespace Go.Proofs.YtkemjhlbokldhaaGreat
open Go.RowKit
set_option linter.unusedVariables false

def dRawK (b : List Int) (k : Int) (c : Cur) : Int × Cur :=
 if k < 5 then AY b c 12 else if k = 5 then AY b c 256
 else if k = 6 then (281474976710655 - (AY b c 2).1 + (AY b (AY b c 2).2 3).1, (AY b (AY b c 2).2 3).2)
 else if k = 7 then (-1 - (AY b c 3).1, (AY b c 3).2)
 else if k = 8 then (9223372036854775807 - (AY b c 2).1, (AY b c 2).2)
 else if k = 9 then (-9223372036854775807 - (AY b c 2).1, (AY b c 2).2)
 else if k = 10 then (256 ^ (1 + (AY b c 6).1).toNat - (AY b (AY b c 6).2 2).1, (AY b (AY b c 6).2 2).2)
 else ((AY b c 65536).1 * (AY b (AY b c 65536).2 65536).1, (AY b (AY b c 65536).2 65536).2)
def IL (b : List Int) (c : Cur) : Int × Cur := dRawK b (AY b c 12).1 (AY b c 12).2
def dTexts : List ByteArray := [⟨#[]⟩, ⟨#[97]⟩, ⟨#[97, 98, 99, 100, 101, 102, 103, 104, 105, 106, 107, 108]⟩, ⟨#[97, 98, 99, 100, 101, 102, 103, 104, 105, 106, 107, 108, 109]⟩, ⟨#[57, 97]⟩, ⟨#[65]⟩, ⟨#[97, 95]⟩, ⟨#[48]⟩, ⟨#[48, 48]⟩, ⟨#[55]⟩, ⟨#[50, 56, 49, 52, 55, 52, 57, 55, 54, 55, 49, 48, 54, 53, 53]⟩, ⟨#[50, 56, 49, 52, 55, 52, 57, 55, 54, 55, 49, 48, 54, 53, 54]⟩, ⟨#[45, 49]⟩, ⟨#[49, 50, 51, 52, 53, 54, 55, 56, 57, 48, 49, 50, 51, 52, 53, 54]⟩, ⟨#[104, 111, 115, 116]⟩, ⟨#[120, 57]⟩, ⟨#[32, 49]⟩, ⟨#[195, 169]⟩]
def dText (b : List Int) (c : Cur) : ByteArray × Cur := (dTexts.getD (AY b c 18).1.toNat ⟨#[]⟩, (AY b c 18).2)
theorem pow_256 {m : Nat} (h : m ≤ 6) : 0 ≤ (256 : Int) ^ m ∧ (256 : Int) ^ m ≤ 281474976710656 := by
 have h1 : 256 ^ m ≤ 256 ^ 6 := Nat.pow_le_pow_right (by decide) h
 have e : (256 : Int) ^ m = ((256 ^ m : Nat) : Int) := by simp
 have e6 : (256 : Nat) ^ 6 = 281474976710656 := by decide
 rw [e6] at h1
 rw [e]
 generalize (256 : Nat) ^ m = q at *
 omega
end Go.Proofs.YtkemjhlbokldhaaGreat

namespace Go.Proofs.YtkemjhlbokldhaaGreat
open Go.RowKit
set_option linter.unusedVariables false

structure AT (P : Program) (f : FuncId) (args : List AVal) (L : Locs) (res : AVal) (L' : Locs) : Prop where
 fn : He P f
 run : ∀ (g : Gh) (w : World) (cargs : Array Value), MemR g L w → All2 (VR1 g L w) cargs.toList args →
   Calls P f cargs w fun e w' => ∃ v g', e = .returned v ∧ MemR g' L' w' ∧ VR g' L' w' v res ∧ Step [] g L w g' L' w'
section body
variable {P : Program} {N : Nat} {f : FuncId} {fn : Func} {c : Code} {args : List AVal} {L L' : Locs}
end body
end Go.Proofs.YtkemjhlbokldhaaGreat

namespace Go.Proofs.YtkemjhlbokldhaaGreat
open Go.RowKit
set_option linter.unusedVariables false

theorem u8_fine (b : UInt8) : (Lit.int .u8 (b.toNat : Int)).wf = true := by
 have := b.toNat_lt
 simp only [Lit.wf, Bool.and_eq_true, decide_eq_true_eq]
 have h1 : IntKind.u8.min = 0 := rfl
 have h2 : IntKind.u8.max = 255 := rfl
 rw [h1, h2]; omega
theorem FR.bytes {w : World} : ∀ (l : List UInt8), FR w (l.map fun b => Value.int .u8 b.toNat) ((l.map fun b => (b.toNat : Int)).flatMap fun n => [Cell.c (.int .u8 n)]) []
 | [] => rfl
 | b :: l => ⟨[], [], rfl, ⟨rfl, u8_fine b, rfl⟩, FR.bytes l⟩
section ops
variable {P : Program} {N : Nat} {s : St} {d : Nat} {ty : TypeId} {pos : String} {after : Array Edge} {gd : Option (Nat × Bool)}
end ops
end Go.Proofs.YtkemjhlbokldhaaGreat

namespace Go.Proofs.YtkemjhlbokldhaaGreat
open Go.RowKit
set_option linter.unusedVariables false

theorem SliceRep.part {α : Type} {e : Enc α} {w : World} {a : Option Addr} {n cap : Nat} {xs : List α} {bs : List Nat} (h : SliceRep e w a n cap xs bs) {lo hi : Nat} (h1 : lo ≤ hi) (h2 : hi ≤ xs.length) :
   ∃ bs', SliceRep e w (if cap = lo then a else a.map (·.add (lo * e.size))) (hi - lo) (cap - lo) ((xs.drop lo).take (hi - lo)) bs' ∧ ∀ b ∈ bs', b ∈ bs := by
 obtain ⟨rfl, g1, g2, g3, g4⟩ := h
 by_cases he : lo = hi
 · subst he
   refine ⟨[], ⟨by simp, by omega, by omega, fun hn => ?_, .inl ⟨by simp, rfl⟩⟩, fun b hb => by cases hb⟩
   split at hn
   · omega
   · cases a with
     | none => have := g3 rfl; omega
     | some a => cases hn
 · have hne : xs ≠ [] := by intro e; subst e; simp at h2; omega
   rcases g4 with ⟨rfl, _⟩ | ⟨g, off, bss, _, rfl, hg, rfl, hE⟩
   · exact absurd rfl hne
   · have hc : ¬ cap = lo := by omega
     refine ⟨g :: ((bss.drop lo).take (hi - lo)).flatten, ⟨by simp; omega, by omega, by omega, fun hn => ?_, .inr ⟨g, off + lo * e.size, (bss.drop lo).take (hi - lo), ?_, ?_, hg, rfl, ?_, ?_⟩⟩, fun b hb => ?_⟩
     · rw [if_neg hc] at hn; cases hn
     · intro e0; have := congrArg List.length e0; simp at this; omega
     · rw [if_neg hc]; simp [Gl]
     · simp [hE.1]
     · intro i x b hx hb
       rw [List.getElem?_take] at hx hb
       split at hx
       · rename_i hi
         rw [if_pos hi] at hb
         rw [List.getElem?_drop] at hx hb
         obtain ⟨cs, q1, q2⟩ := hE.2 (lo + i) x b hx hb
         exact ⟨cs, q1, fun j u hu => by rw [show off + lo * e.size + i * e.size + j = off + (lo + i) * e.size + j by rw [Nat.add_mul]; omega]; exact q2 j u hu⟩
       · cases hx
     · rcases List.mem_cons.1 hb with rfl | hb
       · exact List.mem_cons_self ..
       · obtain ⟨l, hl, hbl⟩ := List.mem_flatten.1 hb
         exact List.mem_cons_of_mem _ (List.mem_flatten.2 ⟨l, List.mem_of_mem_drop (List.mem_of_mem_take hl), hbl⟩)
def rdC (l : Locs) : Cell → Option Cell
 | .own k => match lkl l k with | some (.arr _ e xs _) => some (.sl e xs) | _ => none
 | .slo _ e xs => some (.sl e xs)
 | .epo _ e x o => some (.ep e x o)
 | .c v => some (.c v)
 | .sl e xs => some (.sl e xs)
 | .ep e x o => some (.ep e x o)
 | .sn e xs => some (.sl e xs)
 | .osl k lo n => match lkl l k with | some (.arr _ e xs _) => some (.sl e ((xs.drop lo).take n)) | _ => none
 | _ => none
def rdCs (l : Locs) : List Cell → Option (List Cell)
 | [] => some []
 | c :: cs => match rdC l c, rdCs l cs with | some d, some ds => some (d :: ds) | _, _ => none
def rdA (l : Locs) : AVal → Option AVal
 | .one x => match rdC l x with | some y => some (.one y) | none => none
 | .agg xs => match rdCs l xs with | some ys => some (.agg ys) | none => none
 | .tup _ => none
def rdAs (l : Locs) : List AVal → Option (List AVal)
 | [] => some []
 | x :: xs => match rdA l x, rdAs l xs with | some y, some ys => some (y :: ys) | _, _ => none
def HJ : Cell → Bool
 | .c _ => true
 | .own _ => true
 | .any => true
 | _ => false
def IM : AVal → Bool
 | .one x => HJ x
 | .agg xs => xs.all HJ
 | .tup xs => xs.all fun | .one x => HJ x | .agg ys => ys.all HJ | .tup _ => false
def cleanL : Locs → Bool
 | [] => true
 | (_, some (.arr _ _ _ d)) :: r => d && cleanL r
 | (_, some (.box _)) :: _ => false
 | (_, none) :: r => cleanL r
def Gg (g : Gh) (l : Locs) (b : Nat) : Prop := ∃ k blk, lkl l k = some blk ∧ liv g k blk ∧ b = g.ρ k

theorem rdC_ok {g : Gh} {l : Locs} {w : World} (m : MemR g l w) {v : Value} {x y : Cell} (h : CellR g l w v x) (hr : rdC l x = some y) : CellR { g with I := fun b => g.I b ∨ Gg g l b } [] w v y := by
 cases x with
 | c u => cases hr; exact h
 | sl e xs => cases hr; obtain ⟨a, n, cap, bs, h1, h2, h3⟩ := h; exact ⟨a, n, cap, bs, h1, h2, fun b hb => .inl (h3 b hb)⟩
 | own k =>
   simp only [rdC] at hr
   split at hr
   · rename_i T e xs d hk
     cases hr
     obtain ⟨a, n, cap, bs, h1, h2, h3, _⟩ := (m.arr k _ _ _ _ _ hk).slice
     exact ⟨a, n, cap, bs, (h _ _ _ _ _ hk).trans h1, h2, fun b hb => by
       rcases h3 b hb with h4 | ⟨h4, h5⟩
       · exact .inl h4
       · exact .inr ⟨k, _, hk, h4, h5⟩⟩
   · cases hr
 | ep e z off => cases hr; obtain ⟨gb, o, cs, b, h1, h2, h3, h4, h5⟩ := h; exact ⟨gb, o, cs, b, h1, .inl h2, h3, fun c hc => .inl (h4 c hc), h5⟩
 | slo B e xs => cases hr; obtain ⟨a, n, cap, bs, h1, h2, h3⟩ := h; exact ⟨a, n, cap, bs, h1, h2, fun b hb => .inl (h3 b hb).1⟩
 | epo B e z off => cases hr; obtain ⟨gb, o, cs, b, h1, h2, h3, h4, h5⟩ := h; exact ⟨gb, o, cs, b, h1, .inl h2.1, h3, fun c hc => .inl (h4 c hc).1, h5⟩
 | sn e xs => cases hr; obtain ⟨a, n, cap, bs, h1, h2, h3⟩ := h; exact ⟨_, n, cap, bs, h1, h2, fun b hb => .inl (h3 b hb)⟩
 | osl k lo n =>
   simp only [rdC] at hr
   split at hr
   · rename_i T e xs d hk
     cases hr
     obtain ⟨a, m0, cap0, bs, h1, h2, h3, _⟩ := (m.arr k _ _ _ _ _ hk).slice
     have conv : ∀ b, b ∈ bs → g.I b ∨ Gg g l b := fun b hb => by
       rcases h3 b hb with h4 | ⟨h4, h5⟩
       · exact .inl h4
       · exact .inr ⟨k, _, hk, h4, h5⟩
     rcases h _ _ _ _ _ hk with ⟨f1, f2, rfl, rfl⟩ | ⟨len, cap, off, f1, f2, f3, f4, f5⟩
     · exact ⟨none, 0, 0, [], f2, ⟨by simp, Nat.le_refl _, by unfold maxLen; omega, fun _ => rfl, .inl ⟨by simp, rfl⟩⟩, fun b hb => by cases hb⟩
     · rw [f1] at h1; cases h1
       have hlen := h2.1
       have hcm := h2.2.2.1
       obtain ⟨bs', p1, p2⟩ := h2.part (lo := lo) (hi := lo + n) (by omega) (by omega)
       rw [Nat.add_sub_cancel_left] at p1
       by_cases hc : lo < cap0
       · rw [if_neg (by omega)] at p1
         refine ⟨_, _, _, bs', ?_, p1, fun b hb => conv b (p2 b hb)⟩
         rw [f2, f5 hc]; simp [Gl]
       · have hn : n = 0 := by omega
         subst hn
         exact ⟨_, _, _, [], f2, ⟨by simp, Nat.zero_le _, by omega, (fun h => by cases h), .inl ⟨by simp, rfl⟩⟩, fun b hb => by cases hb⟩
   · cases hr
 | _ => cases hr
theorem rdCs_ok {g : Gh} {l : Locs} {w : World} (m : MemR g l w) : ∀ {vs : List Value} {xs ys : List Cell}, All2 (CellR g l w) vs xs → rdCs l xs = some ys → All2 (CellR { g with I := fun b => g.I b ∨ Gg g l b } [] w) vs ys
 | [], [], ys, _, hr => by cases hr; trivial
 | v :: vs, x :: xs, ys, h, hr => by
   simp only [rdCs] at hr
   split at hr
   · rename_i d ds h1 h2; cases hr; exact ⟨rdC_ok m h.1 h1, rdCs_ok m h.2 h2⟩
   · cases hr
theorem rdA_ok {g : Gh} {l : Locs} {w : World} (m : MemR g l w) {v : Value} {x y : AVal} (h : VR1 g l w v x) (hr : rdA l x = some y) : VR1 { g with I := fun b => g.I b ∨ Gg g l b } [] w v y := by
 cases x with
 | one x =>
   simp only [rdA] at hr
   split at hr
   · rename_i d h1; cases hr; exact rdC_ok m h h1
   · cases hr
 | agg xs =>
   simp only [rdA] at hr
   split at hr
   · rename_i ds h1; cases hr
     obtain ⟨vs, h2, h3⟩ := h
     exact ⟨vs, h2, rdCs_ok m h3 h1⟩
   · cases hr
 | tup xs => cases hr
theorem rdAs_ok {g : Gh} {l : Locs} {w : World} (m : MemR g l w) : ∀ {vs : List Value} {xs ys : List AVal}, All2 (VR1 g l w) vs xs → rdAs l xs = some ys → All2 (VR1 { g with I := fun b => g.I b ∨ Gg g l b } [] w) vs ys
 | [], [], ys, _, hr => by cases hr; trivial
 | v :: vs, x :: xs, ys, h, hr => by
   simp only [rdAs] at hr
   split at hr
   · rename_i d ds h1 h2; cases hr; exact ⟨rdA_ok m h.1 h1, rdAs_ok m h.2 h2⟩
   · cases hr
theorem rdAs_flats {l : Locs} : ∀ {xs ys : List AVal}, rdAs l xs = some ys → DC xs = true
 | [], _, _ => rfl
 | x :: xs, ys, h => by
   simp only [rdAs] at h
   split at h
   · rename_i d ds h1 h2
     simp only [DC, Bool.and_eq_true]
     refine ⟨?_, rdAs_flats h2⟩
     cases x <;> first | rfl | cases h1
   · cases h
theorem rdC_of {l l' : Locs} {xs : List Cell} (h : ∀ p ∈ rlC l xs, lkl l' p.1 = some p.2) {x y : Cell} (hx : x ∈ xs) (hr : rdC l x = some y) : rdC l' x = some y := by
 cases x with
 | own k =>
   simp only [rdC] at hr ⊢
   split at hr
   · rename_i T e zs d hk; cases hr; rw [HY h hx (by simp [Cell.ids]) hk]
   · cases hr
 | osl k lo n =>
   simp only [rdC] at hr ⊢
   split at hr
   · rename_i T e zs d hk; cases hr; rw [HY h hx (by simp [Cell.ids]) hk]
   · cases hr
 | _ => first | exact hr | cases hr
theorem rdCs_of {l l' : Locs} {zs : List Cell} (h : ∀ p ∈ rlC l zs, lkl l' p.1 = some p.2) : ∀ {xs ys : List Cell}, (∀ x ∈ xs, x ∈ zs) → rdCs l xs = some ys → rdCs l' xs = some ys
 | [], ys, _, hr => hr
 | x :: xs, ys, hx, hr => by
   simp only [rdCs] at hr ⊢
   split at hr
   · rename_i d ds h1 h2
     cases hr
     rw [rdC_of h (hx x (List.mem_cons_self ..)) h1, rdCs_of h (fun y hy => hx y (List.mem_cons_of_mem _ hy)) h2]
   · cases hr
theorem rdA_of {l l' : Locs} {zs : List Cell} (h : ∀ p ∈ rlC l zs, lkl l' p.1 = some p.2) {x y : AVal} (hx : ∀ c ∈ x.cells, c ∈ zs) (hr : rdA l x = some y) : rdA l' x = some y := by
 cases x with
 | one x =>
   simp only [rdA] at hr ⊢
   split at hr
   · rename_i d h1; rw [rdC_of h (hx x (List.mem_singleton.2 rfl)) h1]; exact hr
   · cases hr
 | agg xs =>
   simp only [rdA] at hr ⊢
   split at hr
   · rename_i ds h1; rw [rdCs_of (xs := xs) h hx h1]; exact hr
   · cases hr
 | tup xs => cases hr
theorem rdAs_of {l l' : Locs} {zs : List Cell} (h : ∀ p ∈ rlC l zs, lkl l' p.1 = some p.2) : ∀ {xs ys : List AVal}, (∀ c ∈ xs.flatMap AVal.cells, c ∈ zs) → rdAs l xs = some ys → rdAs l' xs = some ys
 | [], ys, _, hr => hr
 | x :: xs, ys, hx, hr => by
   simp only [rdAs] at hr ⊢
   split at hr
   · rename_i d ds h1 h2
     cases hr
     rw [rdA_of h (fun c hc => hx c (List.mem_flatMap.2 ⟨x, List.mem_cons_self .., hc⟩)) h1, rdAs_of h (fun c hc => by
       obtain ⟨y, hy, hcy⟩ := List.mem_flatMap.1 hc
       exact hx c (List.mem_flatMap.2 ⟨y, List.mem_cons_of_mem _ hy, hcy⟩)) h2]
   · cases hr

theorem IN {g : Gh} {I : Nat → Prop} {l : Locs} {w : World} {v : Value} {x : Cell} (hc : HJ x = true) (h : CellR g l w v x) : CellR { g with I := I } l w v x := by
 cases x <;> first | exact h | cases hc
theorem cleanCs_re {g : Gh} {I : Nat → Prop} {l : Locs} {w : World} : ∀ {vs : List Value} {xs : List Cell}, xs.all HJ = true → All2 (CellR g l w) vs xs → All2 (CellR { g with I := I } l w) vs xs
 | [], [], _, _ => trivial
 | v :: vs, x :: xs, hc, h => by
   simp only [List.all_cons, Bool.and_eq_true] at hc
   exact ⟨IN hc.1 h.1, cleanCs_re hc.2 h.2⟩
theorem cleanV1_re {g : Gh} {I : Nat → Prop} {l : Locs} {w : World} {v : Value} {x : AVal} (hc : IM x = true) (h : VR1 g l w v x) : VR1 { g with I := I } l w v x := by
 cases x with
 | one x => exact IN hc h
 | agg xs => obtain ⟨vs, h1, h2⟩ := h; exact ⟨vs, h1, cleanCs_re hc h2⟩
 | tup xs => exact h
theorem cleanV_re {g : Gh} {I : Nat → Prop} {l : Locs} {w : World} {v : Value} {x : AVal} (hc : IM x = true) (h : VR g l w v x) : VR { g with I := I } l w v x := by
 cases x with
 | one x => exact IN hc h
 | agg xs => exact cleanV1_re (x := .agg xs) hc h
 | tup xs =>
   obtain ⟨vs, h1, h2⟩ := h
   refine ⟨vs, h1, ?_⟩
   clear h1
   simp only [IM, List.all_eq_true] at hc
   exact h2.mono fun a b hb hr => by
     have := hc b hb
     cases b with
     | one x => exact IN this hr
     | agg ys => obtain ⟨vs, h3, h4⟩ := hr; exact ⟨vs, h3, cleanCs_re this h4⟩
     | tup _ => exact hr
theorem HI : ∀ {L : Locs} {k : Nat} {b : Blk}, cleanL L = true → lkl L k = some b → ∃ (α : Type) (T : TypeId) (e : Enc α) (xs : List α), b = .arr T e xs true
 | [], k, b, _, h => by simp [lkl, lk] at h
 | (j, none) :: r, k, b, hc, h => by
   by_cases e : j = k
   · subst e; rw [Bb] at h; cases h
   · rw [Bs e] at h; exact HI (L := r) hc h
 | (j, some (.arr T e xs d)) :: r, k, b, hc, h => by
   simp only [cleanL, Bool.and_eq_true] at hc
   by_cases ek : j = k
   · subst ek; rw [Bb] at h; cases h; obtain ⟨rfl, _⟩ := hc; exact ⟨_, T, e, xs, rfl⟩
   · rw [Bs ek] at h; exact HI (L := r) hc.2 h
 | (j, some (.box cs)) :: r, k, b, hc, h => by cases hc

theorem liveR_lt {g : Gh} {l : Locs} {w : World} (m : MemR g l w) {b : Nat} (h : Gg g l b) : b < w.heap.size ∧ ¬ g.I b := by
 obtain ⟨k, blk, h1, h2, rfl⟩ := h
 exact ⟨m.lt h1 h2, m.notI h1 h2⟩
theorem read_back {g g' : Gh} {l L' : Locs} {w w' : World} (m : MemR g l w) (m' : MemR g' L' w') (hs : Step (Bi ([] : Locs)) { g with I := fun b => g.I b ∨ Gg g l b } [] w g' L' w') (hc : cleanL L' = true) :
   MemR { g' with I := fun b => g'.I b ∧ ¬ Gg g l b } L' w' ∧ Step (Bi ([] : Locs)) g [] w { g' with I := fun b => g'.I b ∧ ¬ Gg g l b } L' w' := by
 have own : ∀ b, OwnB g' L' b → w.heap.size ≤ b := fun b hb => by
   rcases hs.own b hb with ⟨k, blk, hk, _⟩ | h
   · simp [lkl, lk] at hk
   · exact h
 have nl : ∀ b, w.heap.size ≤ b → ¬ Gg g l b := fun b hb hl => by have := (liveR_lt m hl).1; omega
 refine ⟨⟨fun b hb => m'.ilt b hb.1, fun k cs hk => ?_, fun k α T e xs d hk => ?_, m'.dis, fun k α T e xs hk => ?_, m'.fd⟩, ⟨hs.os, hs.tape, hs.output, hs.size, fun b hb _ => hs.keep b hb fun k blk hk => (by simp [lkl, lk] at hk), fun b hb => ⟨hs.imm b (.inl hb), fun hl => (liveR_lt m hl).2 hb⟩, fun b hb => ?_, fun b hb => .inr (own b ?_), fun k hk => by cases hk⟩⟩
 · obtain ⟨_, _, _, _, h⟩ := HI hc hk; cases h
 · obtain ⟨_, _, _, _, h⟩ := HI hc hk
   cases h
   rcases m'.arr k α T e xs true hk with h1 | ⟨cap, vs, bss, a1, a2, a3, a4, a5, a6, a7, a8, a9⟩
   · exact .inl h1
   · refine .inr ⟨cap, vs, bss, a1, a2, a3, a4, a5, a6, fun b hb => ⟨a7 b hb, nl b (own b ⟨k, _, hk, .inr ⟨α, T, e, xs, rfl, by rw [a9 rfl]; exact hb⟩⟩)⟩, fun h => a8 h.1, a9⟩
 · obtain ⟨h1, h2⟩ := m'.fr k α T e xs hk
   exact ⟨h1, fun b hb => ⟨⟨(h2 b hb).1, nl b (own b ⟨k, _, hk, .inr ⟨α, T, e, xs, rfl, hb⟩⟩)⟩, (h2 b hb).2⟩⟩
 · rcases hs.imm' b hb.1 with (h | h) | h | h
   · exact .inl h
   · exact absurd h hb.2
   · exact .inr (.inl h)
   · obtain ⟨k, blk, hk, _⟩ := h; simp [lkl, lk] at hk
 · obtain ⟨k, blk, hk, h⟩ := hb
   exact ⟨k, blk, hk, h⟩
section ops
variable {P : Program} {N : Nat} {s : St} {d : Nat} {ty : TypeId} {pos : String} {after : Array Edge} {gd : Option (Nat × Bool)}
theorem HP {fo : Operand} {f : FuncId} {ars : Array Operand} {ats : Array TypeId} {xs ys zs : List AVal} {L' : Locs} {res : AVal} (hN : Nat.blt d N = true) (hev : evo s.t fo = some (.one (.clo f [])))
   (hxs : evl s.t ars.toList = some xs) (hac : AC P f zs [] res L') (hrd : rdAs s.l xs = some ys) (hle : AllV ys zs) (hcr : IM res = true) (hcl : cleanL L' = true) (hsc : CO (Bi L') L'.ids = true) (hsr : CO (Bi L') res.ids = true) (hnew : newOk s (Bi L') = true) :
   Stp P N ⟨some d, .call { callee := .value fo, args := ars, argTypes := ats }, ty, pos, after, gd⟩ s ⟨(d, res) :: s.t, L' ++ s.l⟩ ⟨rdo fo (.one (.clo f [])) ++ rdl s.t ars.toList, rlC s.l (xs.flatMap AVal.cells), [(d, res)], L', Bi L'⟩ := by
 have nwe : Fj [] L' = Bi L' := by simp [Fj, Bi]
 refine ⟨fun K g s' a w hp R => ?_, ⟨fun p hp => by
     rcases List.mem_append.1 hp with hp | hp
     · exact Cg hev p hp
     · exact (EG (N := N) hxs).1 p hp, Fy, newOk_of hnew⟩, rfl⟩
 obtain ⟨p1, p2, p3⟩ := hp
 have q1 : ∀ p ∈ rdo fo (.one (.clo f [])), lk s'.t p.1 = some p.2 := fun p hm => p1 p (List.mem_append_left _ hm)
 have q2 : ∀ p ∈ rdl s.t ars.toList, lk s'.t p.1 = some p.2 := fun p hm => p1 p (List.mem_append_right _ hm)
 have hfv : VR g s'.l w (a.eval fo) (.one (.clo f [])) := B4 R (BC hev) q1
 have hfe : a.eval fo = .func (.func f) #[] #[] := hfv (fun k hk => by cases hk)
 have hargs : All2 (VR1 { g with I := fun b => g.I b ∨ Gg g s'.l b } [] w) ((ars.map a.eval) ++ #[]).toList zs := by
   refine hle.all2 ?_
   rw [Array.append_empty, Array.toList_map]
   exact rdAs_ok R.mem (((EG hxs).2 R q2).vr1 (rdAs_flats hrd)) (rdAs_of p2 (fun c hc => hc) hrd)
 have mc : MemR { g with I := fun b => g.I b ∨ Gg g s'.l b } [] w :=
   ⟨fun b hb => hb.elim (R.mem.ilt b) fun h => (liveR_lt R.mem h).1, fun k cs hk => (by simp [lkl, lk] at hk), fun k α T e xs d hk => (by simp [lkl, lk] at hk), fun j k b b' _ hj => (by simp [lkl, lk] at hj), fun k α T e xs hk => (by simp [lkl, lk] at hk), fun j k α β T U e f xs ys _ hj => (by simp [lkl, lk] at hj)⟩
 unfold Oper.wp
 rw [run_enter rfl hac.fn hfe, Oper.upon_enter]
 refine (hac.run _ w _ mc hargs).mono ?_
 rintro e w' ⟨v, g', rfl, m', hv, hs⟩
 obtain ⟨m2, s2⟩ := read_back R.mem m' hs hcl
 have hnw : ∀ k ∈ Fj [] L', lk s'.l k = none ∧ k ∉ s'.l.ids := fun k hk => by
   rw [nwe] at hk
   exact ⟨(p3 k hk).1, fun h => (p3 k hk).2 (List.mem_append_right _ h)⟩
 obtain ⟨c1, c2, c3, c4, c5⟩ := call_mem (L := []) R.mem trivial m2 s2 hsc rfl hnw K
 have hmm : ∀ b, g.I b → (g.mix { g' with I := fun b => g'.I b ∧ ¬ Gg g s'.l b } (Bi L' ++ Bi ([] : Locs))).I b := fun b hb => s2.imm b hb
 show ∃ g2, Rep N g2 ⟨[(d, res)] ++ s'.t, L' ++ s'.l⟩ (a.put (some d) v) w' ∧ Step K g s'.l w g2 (L' ++ s'.l) w'
 exact ⟨_, R.next (DJ hN) c3 hmm s2.size (fun k hk => c4 k fun h => (p3 k (by rw [← nwe]; exact h)).2 hk) (VR.step (g := { g' with I := fun b => g'.I b ∧ ¬ Gg g s'.l b }) (l := L') (fun _ _ => rfl) (fun b hb => hb) (Nat.le_refl _) (fun k hk => c5 k (G1 hsr hk)) (cleanV_re hcr hv)) c1, c2⟩
end ops
end Go.Proofs.YtkemjhlbokldhaaGreat

namespace Go.Proofs.YtkemjhlbokldhaaGreat
open Go.RowKit
set_option linter.unusedVariables false

inductive OB (t : DV) (dv : Nat) : Option Operand → List (Nat × AVal) → Nat → Prop
 | no : OB t dv none [] dv
 | yes {o : Operand} {k : IntKind} {v : Int} {l : Nat} (h : evo t o = some (.one (.c (.int k v)))) (hv : v = (l : Int)) : OB t dv (some o) (rdo o (.one (.c (.int k v)))) l
theorem OB.rd {t : DV} {dv : Nat} {o : Option Operand} {rd : List (Nat × AVal)} {l : Nat} (h : OB t dv o rd l) : ∀ p ∈ rd, lk t p.1 = some p.2 := by
 cases h with
 | no => intro p hp; cases hp
 | yes h hv => exact Cg h
theorem OB.ev {N : Nat} {t : DV} {dv : Nat} {o : Option Operand} {rd : List (Nat × AVal)} {l : Nat} (h : OB t dv o rd l) {g : Gh} {s : St} {a : Act} {w : World} (r : Rep N g s a w) (hr : ∀ p ∈ rd, lk s.t p.1 = some p.2) :
   (o.map a.eval = none ∧ l = dv) ∨ ∃ k, o.map a.eval = some (.int k (l : Int)) := by
 cases h with
 | no => exact .inl ⟨rfl, rfl⟩
 | yes h hv =>
   have e4 := (B4 r (BC h) hr : CellR g s.l w _ (.c _)).1
   subst hv
   exact .inr ⟨_, congrArg some e4⟩
section ops
variable {P : Program} {N : Nat} {s : St} {d : Nat} {ty : TypeId} {pos : String} {after : Array Edge} {gd : Option (Nat × Bool)}
theorem run_sliceS {P : Program} {T : Nat} (hT : P.underlying T = some .string) (w : World) (b : ByteArray) {lo hi : Option Value} {l h : Nat} (hlo : (lo = none ∧ l = 0) ∨ ∃ k, lo = some (.int k (l : Int))) (hhi : (hi = none ∧ h = b.size) ∨ ∃ k, hi = some (.int k (h : Int)))
   (h1 : l ≤ h) (h2 : h ≤ b.size) : (Instr.sliceAt T (.string b) lo hi none).run P w = .ok (.string (b.extract l h)) w := by
 have d1 : (0 : Int) ≤ (l : Int) ∧ (l : Int) ≤ (h : Int) := by omega
 have d2 : (0 : Int) ≤ (h : Int) ∧ (h : Int) ≤ (b.size : Int) := by omega
 rcases hlo with ⟨rfl, rfl⟩ | ⟨k, rfl⟩ <;> rcases hhi with ⟨rfl, rfl⟩ | ⟨k', rfl⟩ <;>
   simp [Instr.sliceAt, Instr.slice, run_underlying hT, Instr.sliceBounds, run_sliceBound, *]
theorem D8 {T l h : Nat} {x : Operand} {b b' : ByteArray} {lo hi : Option Operand} {rl rh : List (Nat × AVal)} (hN : Nat.blt d N = true) (hx : evo s.t x = some (.one (.c (.string b)))) (hT : P.underlying T = some .string) (ho : OB s.t 0 lo rl l) (hh : OB s.t b.size hi rh h)
   (h1 : l ≤ h) (h2 : h ≤ b.size) (hy : b.extract l h = b') :
   Stp P N ⟨some d, .slice T x lo hi none, ty, pos, after, gd⟩ s ⟨(d, .one (.c (.string b'))) :: s.t, s.l⟩ ⟨rdo x (.one (.c (.string b))) ++ (rl ++ rh), [], [(d, .one (.c (.string b')))], [], []⟩ :=
 Stp.pure rfl hN (fun p hp => by rcases List.mem_append.1 hp with hp | hp; exact Cg hx p hp; rcases List.mem_append.1 hp with hp | hp; exact ho.rd p hp; exact hh.rd p hp) (by simp) fun g s' a w ht hl' r => by
   obtain ⟨e1, e2⟩ : CellR g s'.l w (a.eval x) (.c (.string b)) := B4 r (BC hx) fun p hp => ht p (List.mem_append_left _ hp)
   have e2' : b.size ≤ maxLen := e2
   have q1 := ho.ev r fun p hp => ht p (List.mem_append_right _ (List.mem_append_left _ hp))
   have q2 := hh.ev r fun p hp => ht p (List.mem_append_right _ (List.mem_append_right _ hp))
   have d1 : (0 : Int) ≤ (l : Int) ∧ (l : Int) ≤ (h : Int) := by omega
   have d2 : (0 : Int) ≤ (h : Int) ∧ (h : Int) ≤ (b.size : Int) := by omega
   subst hy
   refine ⟨.string (b.extract l h), ?_, rfl, ?_⟩
   · simp only [execOp, e1, Sem.run_bind, Option.map_none, run_sliceS hT w b q1 q2 h1 h2, Result.andThen_ok, Sem.run_pure]
   · show (b.extract l h).size ≤ maxLen
     have : (b.extract l h).size = min h b.size - l := by simp
     omega
end ops
theorem box_re2 {g : Gh} {l : Locs} {w : World} (m : MemR g l w) {b : Nat} {cs cs' : List Cell} (hb : lkl l b = some (.box cs)) (h : ∀ (vs : Array Value) (t : TypeId), w.heap[g.ρ b]? = some (.cells vs t (0, 0)) → All2 (CellR g l w) vs.toList cs → All2 (CellR g l w) vs.toList cs') :
   MemR g ((b, some (.box cs')) :: l) w ∧ (∀ K, Step K g l w g ((b, some (.box cs')) :: l) w) ∧ ∀ j, okK g l g ((b, some (.box cs')) :: l) j := by
 obtain ⟨vs, t, h1, h2, h3⟩ := m.box b cs hb
 have h4 := box_set m hb (vs := vs.toList) (vs' := vs.toList) (T := t) (by simpa using h1) (h _ _ h1 h2)
 have e : w.setRow (g.ρ b) vs.toList.toArray = w := by
   simp only [Array.toArray_toList]
   have hh : (w.setRow (g.ρ b) vs).heap = w.heap := Array.ext_getElem? fun i => by
     by_cases hi : i = g.ρ b
     · subst hi; rw [setRow_heap w _ _ _ t _ h1, h1]
     · exact setRow_other w _ i _ hi
   have h5 : w.setRow (g.ρ b) vs = { w with heap := (w.setRow (g.ρ b) vs).heap } := rfl
   rw [h5, hh]
 rw [e] at h4
 exact ⟨h4.1, h4.2.1, h4.2.2.2⟩
def Gh.shut (g : Gh) (k : Nat) : Gh := { g with I := fun b => g.I b ∨ (g.hd k ≠ .slice none 0 0 ∧ b = g.ρ k) }
section shut
variable {g : Gh} {l : Locs} {w : World}
theorem HX (m : MemR g l w) {k : Nat} {α : Type} {T : TypeId} {e : Enc α} {xs : List α} {dp : Bool} (hk : lkl l k = some (.arr T e xs dp)) :
   MemR (g.shut k) ((k, none) :: l) w ∧ (∀ K, Step K g l w (g.shut k) ((k, none) :: l) w) ∧ CellR (g.shut k) ((k, none) :: l) w (g.hd k) (.sl e xs) ∧ ∀ j, okK g l (g.shut k) ((k, none) :: l) j := by
 have live : g.hd k ≠ .slice none 0 0 → liv g k (.arr T e xs dp) := fun h => h
 have hlt : ∀ b, (g.shut k).I b → b < w.heap.size := fun b hb => hb.elim (m.ilt b) fun h => by rw [h.2]; exact m.lt hk (live h.1)
 have hu : ∀ j, j ≠ k → lkl ((k, none) :: l) j = none ∨ Untouched g l w (g.shut k) ((k, none) :: l) w j := fun j hj =>
   .inr ⟨Bs (Ne.symm hj), rfl, rfl, rfl, fun b hb hl => ⟨rfl, fun h => h.elim (m.notI hb hl) fun h => m.dis j k b _ hj hb hk hl (live h.1) h.2⟩⟩
 have ok : ∀ j, okK g l (g.shut k) ((k, none) :: l) j := fun j => by
   by_cases e : j = k
   · subst e; exact okK.gone Bb
   · exact okK.same (Bs (Ne.symm e)) rfl rfl
 have no : ∀ {b : Blk}, lkl ((k, none) :: l) k = some b → False := fun h => by rw [Bb] at h; cases h
 refine ⟨m.set1 k (fun _ _ => rfl) (fun _ h => .inl h) (Nat.le_refl _) hlt hu (.inl (ok k)) (fun cs h => (no h).elim) (fun α T e xs d h => (no h).elim) (fun j b b' _ _ _ h => (no h).elim) (fun α T e xs h => (no h).elim) (fun j α β T U e f xs ys _ _ _ h => (no h).elim), fun K => ?_, ?_, ok⟩
 · refine ⟨rfl, rfl, rfl, Nat.le_refl _, fun _ _ _ => rfl, fun _ h => .inl h, fun b h => h.elim .inl fun h => .inr (.inr ⟨k, _, hk, .inl ⟨live h.1, h.2⟩⟩), Ic k hu (fun b h => (no h).elim) (fun α T e xs h => (no h).elim), fun j hj hn => ?_⟩
   refine ⟨?_, ok j, fun cs hc => ?_⟩
   · by_cases e : k = j
     · subst e; rw [Bv]; simp
     · rw [B6 e]; exact hn
   · by_cases e : k = j
     · subst e; rw [hk] at hc; cases hc
     · exact ⟨cs, by rw [Bs e]; exact hc⟩
 · obtain ⟨a, n, cap, bs, h1, h2, h3, _⟩ := (m.arr k _ _ _ _ _ hk).slice
   exact ⟨a, n, cap, bs, h1, h2, fun b hb => h3 b hb⟩
variable {P : Program} {N : Nat} {K : List Nat} {Kn : St → Prop} {Q : Exit → St → Prop} {s : St}
theorem G6 {α : Type} {T : TypeId} {e : Enc α} {xs : List α} {dp : Bool} {c : Code} (k t : Nat) (ht : lk s.t t = some (.one (.own k))) (hk : lkl s.l k = some (.arr T e xs dp))
   (h : AW P N K c Kn Q ⟨(t, .one (.sl e xs)) :: s.t, (k, none) :: s.l⟩) : AW P N K c Kn Q s := fun g a w r => by
 obtain ⟨m1, st1, c1, ok1⟩ := HX r.mem hk
 have r1 := r.next0 (g' := g.shut k) (l' := (k, none) :: s.l) (w' := w) (fun _ _ => rfl) (fun _ h => .inl h) (Nat.le_refl _) (fun j _ => ok1 j) m1
 have hv : a.tmps.getD t undef = g.hd k := (r.tmp t _ ht : CellR g s.l w _ (.own k)) _ _ _ _ _ hk
 have r2 : Rep N (g.shut k) ⟨(t, .one (.sl e xs)) :: s.t, (k, none) :: s.l⟩ a w := ⟨r1.size, r1.defers, fun j x hj => by
   by_cases hjt : t = j
   · subst hjt
     rw [Bv] at hj; cases hj
     rw [hv]; exact c1
   · rw [B6 hjt] at hj
     exact r1.tmp j x hj, m1⟩
 exact Go.wp_mono (h _ a w r2) fun e a1 w1 h1 => h1.trans r.mem m1 (st1 K)
theorem BD {α : Type} {T : TypeId} {e : Enc α} {xs : List α} {dp : Bool} {c : Code} (k b off : Nat) {cs cs' : List Cell} (hb : lkl s.l b = some (.box cs)) (hc : Jj cs off = some (.own k)) (hcs : cs.set off (.sl e xs) = cs') (hk : lkl s.l k = some (.arr T e xs dp))
   (h : AW P N K c Kn Q ⟨s.t, (b, some (.box cs')) :: (k, none) :: s.l⟩) : AW P N K c Kn Q s := fun g a w r => by
 obtain ⟨m1, st1, c1, ok1⟩ := HX r.mem hk
 have hkb : k ≠ b := fun e => by subst e; rw [hb] at hk; cases hk
 have hb' : lkl ((k, none) :: s.l) b = some (.box cs) := by rw [Bs hkb]; exact hb
 obtain ⟨m2, st2, ok2⟩ := box_re2 m1 hb' (cs' := cs') (fun vs ty hh hv => by
   obtain ⟨vs0, t0, z1, z2, z3⟩ := r.mem.box b cs hb
   have e0 : vs0 = vs := by
     have hh' : w.heap[g.ρ b]? = some (.cells vs ty (0, 0)) := hh
     rw [z1] at hh'; cases hh'; rfl
   subst e0
   obtain ⟨v, h1, h2⟩ := z2.get (E9 hc)
   have hvk : v = g.hd k := h2 _ _ _ _ _ hk
   have h3 := hv.set (i := off) (v := v) (x := .sl e xs) (hvk ▸ c1)
   rw [hcs] at h3
   have h4 : vs0.toList.set off v = vs0.toList := by
     obtain ⟨hl, rfl⟩ := List.getElem?_eq_some_iff.1 h1
     exact List.set_getElem_self hl
   rwa [h4] at h3)
 have r2 := r.next0 (g' := g.shut k) (l' := (b, some (.box cs')) :: (k, none) :: s.l) (w' := w) (fun _ _ => rfl) (fun _ h => .inl h) (Nat.le_refl _) (fun j hj => (ok1 j).trans (ok2 j)) m2
 exact Go.wp_mono (h _ a w r2) fun e a1 w1 h1 => h1.trans r.mem m2 ((st1 K).trans r.mem m1 (st2 K))
end shut
end Go.Proofs.YtkemjhlbokldhaaGreat

namespace Go.Proofs.YtkemjhlbokldhaaGreat
open Go.RowKit
set_option linter.unusedVariables false

theorem above : ∀ L : List Nat, ∃ k, ∀ i ∈ L, i < k
 | [] => ⟨0, fun i h => by cases h⟩
 | a :: L => by
   obtain ⟨k, hk⟩ := above L
   refine ⟨max (a + 1) k, fun i hi => ?_⟩
   rcases List.mem_cons.1 hi with rfl | hi
   · omega
   · have := hk i hi; omega
section
variable {g g' : Gh} {l l' : Locs} {w w' : World}
theorem okK.congr {l2 : Locs} (h : ∀ j, lkl l' j = lkl l2 j) {k : Nat} (hk : okK g l g' l' k) : okK g l g' l2 k :=
 ⟨fun cs hc => hk.1 cs (by rw [h]; exact hc), fun α T e xs d hc => hk.2 α T e xs d (by rw [h]; exact hc)⟩
theorem okK.back {l2 : Locs} (h : ∀ j, lkl l j = lkl l2 j) {k : Nat} : okK g l g l2 k := okK.same (h k).symm rfl rfl
theorem MemR.congr (h : ∀ j, lkl l j = lkl l' j) (m : MemR g l w) : MemR g l' w := by
 refine ⟨m.ilt, fun k cs hc => ?_, fun k α T e xs d hc => m.arr k _ _ _ _ _ (by rw [h]; exact hc), fun j k b b' hjk h1 h2 => m.dis j k _ _ hjk (by rw [h]; exact h1) (by rw [h]; exact h2), fun k α T e xs hc => m.fr k _ _ _ _ (by rw [h]; exact hc), fun j k α β T U e f xs ys hjk h1 h2 => m.fd j k _ _ _ _ _ _ _ _ hjk (by rw [h]; exact h1) (by rw [h]; exact h2)⟩
 obtain ⟨vs, t, h1, h2, h3⟩ := m.box k cs (by rw [h]; exact hc)
 exact ⟨vs, t, h1, h2.mono fun a c _ hr => CellR.step (fun _ _ => rfl) (fun _ h => h) (Nat.le_refl _) (fun i _ => okK.back h) hr, h3⟩
theorem VR.congr (h : ∀ j, lkl l j = lkl l' j) {v : Value} {x : AVal} (hv : VR g l w v x) : VR g l' w v x := hv.step (fun _ _ => rfl) (fun _ h => h) (Nat.le_refl _) (fun i _ => okK.back h)
theorem OwnB.congr (h : ∀ j, lkl l j = lkl l' j) {b : Nat} (hb : OwnB g l b) : OwnB g l' b := by
 obtain ⟨k, blk, h1, h2⟩ := hb
 exact ⟨k, blk, by rw [← h]; exact h1, h2⟩
end
theorem OpOK.frz {P : Program} {N d : Nat} {o : Oper} {rt : List (Nat × AVal)} {rl : List (Nat × Blk)} {α : Type} {T : TypeId} {e : Enc α} {xs : List α} {dp : Bool} {L : List Nat}
   (h : ∀ k, (∀ i ∈ L, i < k) → OpOK P N o ⟨rt, rl, [(d, .one (.own k))], [(k, some (.arr T e xs dp))], [k]⟩) : OpOK P N o ⟨rt, rl, [(d, .one (.sl e xs))], [], []⟩ := fun K g s a w hp r => by
 obtain ⟨k, hk⟩ := above (L ++ (Bi s.l ++ s.ids))
 have hkl : lk s.l k = none := by
   cases hq : lk s.l k with
   | none => rfl
   | some y =>
     have h1 : k ∈ Bi s.l := List.mem_map.2 ⟨_, HE hq, rfl⟩
     have := hk k (List.mem_append_right _ (List.mem_append_left _ h1))
     omega
 have hki : k ∉ s.ids := fun hm => by
   have := hk k (List.mem_append_right _ (List.mem_append_right _ hm))
   omega
 have hkk : lkl s.l k = none := by unfold lkl; rw [hkl]
 have h1 := h k (fun i hi => hk i (List.mem_append_left _ hi)) K g s a w ⟨hp.1, hp.2.1, fun j hj => by simp at hj; subst hj; exact ⟨hkl, hki⟩⟩ r
 refine Oper.wp_mono ?_ h1
 rintro a' w' ⟨g', r', st⟩
 have hu : (Cert.upd ⟨rt, rl, [(d, .one (.own k))], [(k, some (.arr T e xs dp))], [k]⟩ s) = ⟨(d, .one (.own k)) :: s.t, (k, some (.arr T e xs dp)) :: s.l⟩ := rfl
 rw [hu] at r' st
 have hka : lkl ((k, some (Blk.arr T e xs dp)) :: s.l) k = some (.arr T e xs dp) := Bb
 obtain ⟨m1, st1, c1, ok1⟩ := HX r'.mem hka
 have T2 := Step.trans r.mem r'.mem st (st1 K)
 have hl : ∀ j, lkl ((k, none) :: (k, some (Blk.arr T e xs dp)) :: s.l) j = lkl s.l j := fun j => by
   by_cases q : k = j
   · subst q; rw [Bb, hkk]
   · rw [Bs q, Bs q]
 have hv : a'.tmps.getD d undef = g'.hd k := (r'.tmp d _ (Bv ..) : CellR g' _ w' _ (.own k)) _ _ _ _ _ hka
 refine ⟨g'.shut k, ⟨r'.size, r'.defers, fun j x hj => ?_, m1.congr hl⟩, ⟨T2.os, T2.tape, T2.output, T2.size, T2.keep, T2.imm, T2.imm', fun b hb => T2.own b (OwnB.congr (fun j => (hl j).symm) hb), fun j hj hn => ?_⟩⟩
 · have hj : lk ((d, AVal.one (.sl e xs)) :: s.t) j = some x := hj
   by_cases hjt : d = j
   · subst hjt
     rw [Bv] at hj; cases hj
     rw [hv]; exact VR.congr (x := .one (.sl e xs)) hl c1
   · rw [B6 hjt] at hj
     have h2 := r'.tmp j x (by show lk ((d, AVal.one (.own k)) :: s.t) j = some x; rw [B6 hjt]; exact hj)
     have h3 : VR (g'.shut k) ((k, none) :: (k, some (Blk.arr T e xs dp)) :: s.l) w' (a'.tmps.getD j undef) x := h2.step (fun _ _ => rfl) (fun _ h => .inl h) (Nat.le_refl _) (fun i _ => ok1 i)
     exact VR.congr hl h3
 · obtain ⟨z1, z2, z3⟩ := T2.base j hj hn
   exact ⟨hn, okK.congr hl z2, fun cs hc => ⟨cs, hc⟩⟩
theorem noId_mk {k : Nat} {l : List Nat} (h : k ∉ l) : FZ k l = true := by
 unfold FZ
 rw [List.all_eq_true]
 intro i hi
 cases hq : Nat.beq i k
 · rfl
 · exact absurd (Nat.eq_of_beq_eq_true hq ▸ hi) h
section ops
variable {P : Program} {N : Nat} {s : St} {d : Nat} {ty : TypeId} {pos : String} {after : Array Edge} {gd : Option (Nat × Bool)}
theorem CR {α : Type} {e : Enc α} {f : α → List Cell} [hc : CellsOf e f] {T E len : Nat} (ops : List Operand) {parts : Array (Nat × Operand)} {Xs : List AVal} (xs : List α) {ds : List Cell} {dp : Bool} (hN : Nat.blt d N = true)
   (hparts : parts = ((ops.zipIdx 0).map fun x => (x.2, x.1)).toArray) (hev : evl s.t ops = some Xs) (hfl : DC Xs = true) (hsol : (Xs.flatMap AVal.cells).all (Dm s.l) = true)
   (hlen : ops.length = len) (hsz : Xs.all (fun X => Nat.beq X.cells.length e.size) = true)
   (hmv : mvC s.l (Xs.flatMap AVal.cells) = some (ds, [], dp)) (hfit : FitL ds (xs.flatMap f)) (hxs : xs.length = len) (hpos : Nat.blt 0 len = true) (hsmall : Nat.ble (len * e.size) 16777216 = true)
   (hT : arrOk P T E e.size = true) :
   Stp P N ⟨some d, .buildSlice T len parts, ty, pos, after, gd⟩ s ⟨(d, .one (.sl e xs)) :: s.t, s.l⟩ ⟨rdl s.t ops, rlC s.l (Xs.flatMap AVal.cells), [(d, .one (.sl e xs))], [], []⟩ :=
 ⟨OpOK.frz (T := E) (dp := dp) (L := Bi s.l ++ s.ids) fun k hk => (y_bslice ops xs k hN hparts hev hfl hsol hlen hsz hmv hfit rfl hxs hpos hsmall (by
     cases hq : lk s.l k with
     | none => rfl
     | some y =>
       have h1 : k ∈ Bi s.l := List.mem_map.2 ⟨_, HE hq, rfl⟩
       have := hk k (List.mem_append_left _ h1)
       omega) (noId_mk fun hm => by
       have := hk k (List.mem_append_right _ hm)
       omega) hT).1, ⟨(EG (N := N) hev).1, Fy, fun j hj => by cases hj⟩, rfl⟩
end ops
end Go.Proofs.YtkemjhlbokldhaaGreat

namespace Go.Proofs.YtkemjhlbokldhaaGreat
open Go.RowKit
set_option linter.unusedVariables false
section
variable {P : Program} {N d : Nat} {s : St} {ty : TypeId} {pos : String} {after : Array Edge} {gd : Option (Nat × Bool)}
theorem op_cells {α : Type} {e : Enc α} {f : α → List Cell} [hc : CellsOf e f] {g : Gh} {l : Locs} {w : World} (m : MemR g l w) {k i : Nat} {T : TypeId} {xs : List α} {dp : Bool} (hk : lkl l k = some (.arr T e xs dp)) (hi : i < xs.length) :
   ∃ cs : List Value, All2 (CellR g l w) cs (f xs[i]) ∧ ∀ j u, cs[j]? = some u → w.cell? ⟨g.ρ k, i * e.size + j, none⟩ = some u := by
 rcases m.arr k α T e xs dp hk with ⟨h1, _, _⟩ | ⟨cap, vs, bss, h1, h2, h3, h4, h5, h6, h7, h8, h9⟩
 · subst h1; simp at hi
 · have hi' : i < bss.length := by rw [h6.1]; exact hi
   obtain ⟨cs, q1, q2⟩ := h6.2 i xs[i] bss[i] (List.getElem?_eq_getElem hi) (List.getElem?_eq_getElem hi')
   exact ⟨cs, (hc.iff.1 q1).all2 (fun b hb => h7 b (List.mem_flatten.2 ⟨_, List.getElem_mem hi', hb⟩)), fun j u hu => by have := q2 j u hu; rwa [Nat.zero_add] at this⟩
theorem Ga {α : Type} {e : Enc α} {f : α → List Cell} [hc : CellsOf e f] {T E k i off : Nat} {x : Operand} {xs : List α} {dp : Bool} {y : Cell} (hN : Nat.blt d N = true) (h : evo s.t x = some (.one (.optr k i off))) (hl : lkl s.l k = some (.arr E e xs dp)) (hT : Fk P T = some none) (hi : i < xs.length) (hy : Jj (f xs[i]) off = some y) :
   Stp P N ⟨some d, .load T x, ty, pos, after, gd⟩ s ⟨(d, .one y) :: s.t, s.l⟩ ⟨rdo x (.one (.optr k i off)), [(k, .arr E e xs dp)], [(d, .one y)], [], []⟩ :=
 Stp.pure rfl hN (Cg h) (by simpa using hl) fun g s' a w ht hl' r => by
   have hk : lkl s'.l k = some (.arr E e xs dp) := hl' (k, .arr E e xs dp) (by simp)
   have hv : a.eval x = .pointer (some ⟨g.ρ k, i * e.size + off, none⟩) := B4 r (BC h) ht _ _ _ _ _ hk
   obtain ⟨cs, h2, h3⟩ := op_cells r.mem hk hi
   obtain ⟨v, h4, h5⟩ := h2.get (E9 hy)
   exact ⟨v, by simp only [execOp, Instr.loadAt, hv, Instr.sureAddr, Sem.run_bind, Sem.run_pure, Result.andThen_ok, Fm hT (h3 off v h4)], h5⟩
theorem x_oloadN {α : Type} {e : Enc α} {f : α → List Cell} [hc : CellsOf e f] {T E k i off n : Nat} {x : Operand} {xs : List α} {dp : Bool} {cs1 ys : List Cell} (hN : Nat.blt d N = true) (h : evo s.t x = some (.one (.optr k i off))) (hl : lkl s.l k = some (.arr E e xs dp)) (hT : Fk P T = some (some n)) (hi : i < xs.length) (hd : drC off (f xs[i]) = some cs1) (hy : tkC n cs1 = some ys) :
   Stp P N ⟨some d, .load T x, ty, pos, after, gd⟩ s ⟨(d, .agg ys) :: s.t, s.l⟩ ⟨rdo x (.one (.optr k i off)), [(k, .arr E e xs dp)], [(d, .agg ys)], [], []⟩ :=
 Stp.pure rfl hN (Cg h) (by simpa using hl) fun g s' a w ht hl' r => by
   have hk : lkl s'.l k = some (.arr E e xs dp) := hl' (k, .arr E e xs dp) (by simp)
   have hv : a.eval x = .pointer (some ⟨g.ρ k, i * e.size + off, none⟩) := B4 r (BC h) ht _ _ _ _ _ hk
   obtain ⟨cs, h2, h3⟩ := op_cells r.mem hk hi
   have h4 := (h2.drop off).take n
   rw [← drC_eq hd, ← (tkC_eq hy).1] at h4
   have hrun := Gs hT (w := w) (a := ⟨g.ρ k, i * e.size + off, none⟩) (vs := (cs.drop off).take n) (by rw [h4.len]; exact (tkC_eq hy).2) (fun j v hj => by
     rw [List.getElem?_take] at hj
     split at hj
     · rw [Gl, Nat.add_assoc]; exact h3 _ v (by simpa using hj)
     · cases hj)
   exact ⟨_, by simp only [execOp, Instr.loadAt, hv, Instr.sureAddr, Sem.run_bind, Sem.run_pure, Result.andThen_ok, hrun], ⟨_, rfl, h4⟩⟩
end
end Go.Proofs.YtkemjhlbokldhaaGreat

namespace Go.Proofs.YtkemjhlbokldhaaGreat
open Go.RowKit
set_option linter.unusedVariables false

def allI (w : World) : Gh := ⟨fun b => b < w.heap.size, id, fun _ => .slice none 0 0, fun _ => []⟩
theorem allI_mem (w : World) : MemR (allI w) [] w :=
 ⟨fun b hb => hb, fun k cs hk => (by simp [lkl, lk] at hk), fun k α T e xs d hk => (by simp [lkl, lk] at hk), fun j k b b' _ hj => (by simp [lkl, lk] at hj), fun k α T e xs hk => (by simp [lkl, lk] at hk), fun j k α β T U e f xs ys _ hj => (by simp [lkl, lk] at hj)⟩
theorem Step.below {g g' : Gh} {w w' : World} (h : Step (Bi ([] : Locs)) g [] w g' [] w') : Below w.heap.size w w' :=
 ⟨h.os, h.tape, h.output, h.size, fun b hb => h.keep b hb fun k blk hk => (by simp [lkl, lk] at hk)⟩
theorem AC.calls {P : Program} {f : FuncId} {args : List AVal} {v : Value} (h : AC P f args [] (.one (.c v)) []) (w : World) (cargs : Array Value) (ha : All2 (VR1 (allI w) [] w) cargs.toList args) :
   Calls P f cargs w fun e w' => e = .returned v ∧ Below w.heap.size w w' :=
 (h.run (allI w) w cargs (allI_mem w) ha).mono fun e w' ⟨u, g', he, _, hv, hs⟩ => ⟨by rw [he, show u = v from hv.1], hs.below⟩
theorem arg_sl {α : Type} {e : Enc α} {w : World} {a : Option Addr} {n cap : Nat} {xs : List α} {b : List Nat} (h : SliceRep e w a n cap xs b) (hb : ∀ i ∈ b, i < w.heap.size) : VR1 (allI w) [] w (.slice a n cap) (.one (.sl e xs)) := ⟨a, n, cap, b, rfl, h, hb⟩
end Go.Proofs.YtkemjhlbokldhaaGreat

namespace Go.Proofs.YtkemjhlbokldhaaGreat
open Go.RowKit
set_option linter.unusedVariables false

end Go.Proofs.YtkemjhlbokldhaaGreat

namespace Go.Proofs.YtkemjhlbokldhaaGreat
open Go.RowKit
set_option linter.unusedVariables false

section ops
variable {P : Program} {N : Nat} {s : St} {d : Nat} {ty : TypeId} {pos : String} {after : Array Edge} {gd : Option (Nat × Bool)}
end ops
end Go.Proofs.YtkemjhlbokldhaaGreat

namespace Go.Proofs.YtkemjhlbokldhaaGreat
open Go.RowKit
set_option linter.unusedVariables false
section
variable {g : Gh} {l : Locs} {w w' : World}
theorem arr_put (m : MemR g l w) {k : Nat} {α : Type} {T : TypeId} {e : Enc α} {xs0 xs : List α} {d0 d : Bool} (hk : lkl l k = some (.arr T e xs0 d0)) (hlv : g.hd k ≠ .slice none 0 0) {js : List Nat} (hkj : k ∉ js)
   (hjs : ∀ j ∈ js, ∃ (α : Type) (T : TypeId) (e : Enc α) (xs : List α) (d : Bool), lkl l j = some (.arr T e xs d)) {fp : List Nat}
   (hos : w'.os = w.os) (htp : w'.tape = w.tape) (hout : w'.output = w.output) (hs : w'.heap.size = w.heap.size) (hkeep : ∀ b, b ≠ g.ρ k → w'.heap[b]? = w.heap[b]?)
   (hA : ArrR ⟨fun b => g.I b ∨ Im g js b, g.ρ, g.hd, Dt g.F k fp⟩ w' k T e xs d)
   (hfp : d = true → fp.Nodup ∧ ∀ b ∈ fp, (g.I b ∨ Im g js b) ∧ (∃ c t, w'.heap[b]? = some (.cells c t (0, 0))) ∧ ((d0 = true ∧ b ∈ g.F k) ∨ ∃ j ∈ js, Via g l j b)) :
   ∃ g', g'.ρ k = g.ρ k ∧ g'.hd k = g.hd k ∧ MemR g' ((k, some (.arr T e xs d)) :: (C9 js ++ l)) w' ∧ (∀ K, Step K g l w g' ((k, some (.arr T e xs d)) :: (C9 js ++ l)) w') ∧
     (∀ b, g.I b → w'.heap[b]? = w.heap[b]?) ∧ (∀ b, g.I b → g'.I b) ∧ ∀ j, okK g l g' ((k, some (.arr T e xs d)) :: (C9 js ++ l)) j := by
 let g' : Gh := ⟨fun b => g.I b ∨ Im g js b, g.ρ, g.hd, Dt g.F k fp⟩
 have hnI := m.notI hk hlv
 have hi : ∀ b, g.I b → w'.heap[b]? = w.heap[b]? := fun b hb => hkeep b fun e => hnI (e ▸ hb)
 have hl' : ∀ j, j ≠ k → lkl ((k, some (.arr T e xs d)) :: (C9 js ++ l)) j = if j ∈ js then none else lkl l j := fun j hj => by
   rw [Bs (Ne.symm hj), lkl_gones]
 have hu : ∀ j, j ≠ k → lkl ((k, some (.arr T e xs d)) :: (C9 js ++ l)) j = none ∨ Untouched g l w g' ((k, some (.arr T e xs d)) :: (C9 js ++ l)) w' j := fun j hj => by
   by_cases h : j ∈ js
   · left; rw [hl' j hj, if_pos h]
   · right
     refine ⟨by rw [hl' j hj, if_neg h], rfl, rfl, GN hj, fun b hb hlv' => ⟨hkeep _ (m.dis j k _ _ hj hb hk hlv' hlv), fun hI => ?_⟩⟩
     rcases hI with hI | ⟨i, hij, hil, e⟩
     · exact m.notI hb hlv' hI
     · obtain ⟨_, _, _, _, _, h1⟩ := hjs i hij
       exact m.dis j i _ _ (fun e => h (e ▸ hij)) hb h1 hlv' hil e
 have ok : ∀ j, okK g l g' ((k, some (.arr T e xs d)) :: (C9 js ++ l)) j := fun j => by
   by_cases hj : j = k
   · subst hj
     refine ⟨fun cs hc => ?_, fun β U e2 ys dd hc => ?_⟩
     · rw [Bb] at hc; cases hc
     · rw [Bb] at hc; cases hc
       exact ⟨α, T, e, xs0, d0, hk, rfl, rfl, rfl⟩
   · rcases hu j hj with h | h
     · exact okK.gone h
     · exact h.ok
 have hlt : ∀ b, g'.I b → b < w'.heap.size := fun b hb => by
   rw [hs]
   rcases hb with hb | ⟨i, hij, hil, e⟩
   · exact m.ilt b hb
   · obtain ⟨_, _, _, _, _, h1⟩ := hjs i hij
     rw [e]; exact m.lt h1 hil
 refine ⟨g', rfl, rfl, m.set1 k hi (fun b hb => .inl hb) (Nat.le_of_eq hs.symm) hlt hu (.inl (ok k)) (fun cs hc => ?_) (fun β U e2 ys d2 hc => ?_) (fun j b b' hj h1 h2 h3 l1 l2 => m.dis j k _ _ hj h2 hk l1 hlv) (fun β U e2 ys hc => ?_) (fun j β γ U V e2 e3 ys zs hj h1 h2 h3 => ?_), fun K => ?_, hi, fun b hb => .inl hb, ok⟩
 · rw [Bb] at hc; cases hc
 · rw [Bb] at hc; cases hc; exact hA
 · rw [Bb] at hc; cases hc
   rw [show g'.F k = fp from setAt_self]
   obtain ⟨n1, n2⟩ := hfp rfl
   exact ⟨n1, fun b hb => ⟨(n2 b hb).1, (n2 b hb).2.1⟩⟩
 · rw [Bb] at h3; cases h3
   rw [show g'.F k = fp from setAt_self]
   intro b hb hb'
   rcases ((hfp rfl).2 b hb').2.2 with ⟨rfl, h5⟩ | ⟨i, hij, hvia⟩
   · exact m.fd j k _ _ _ _ _ _ _ _ hj h2 hk b hb h5
   · have : j = i := Via.disj m (b := b) ⟨β, U, e2, ys, h2, .inr hb⟩ hvia
     subst this
     rw [hl' j hj, if_pos hij] at h1; cases h1
 · refine ⟨hos, htp, hout, Nat.le_of_eq hs.symm, fun b hb hn => hkeep b (hn k _ hk hlv), fun b hb => .inl hb, fun b hb => ?_, Ic k hu (fun b hb hl => .inl (OwnB.of_live hk hlv)) (fun β U e2 ys hc b hb => ?_), fun j hj hn => ?_⟩
   · rcases hb with hb | ⟨i, hij, hil, e⟩
     · exact .inl hb
     · obtain ⟨_, _, _, _, _, h1⟩ := hjs i hij
       exact .inr (.inr (e ▸ OwnB.of_live h1 hil))
   · rw [Bb] at hc; cases hc
     rw [show g'.F k = fp from setAt_self] at hb
     rcases ((hfp rfl).2 b hb).2.2 with ⟨rfl, h5⟩ | ⟨i, hij, hvia⟩
     · exact .inl ⟨k, _, hk, .inr ⟨_, _, _, _, rfl, h5⟩⟩
     · exact .inl hvia.own
   · refine ⟨?_, ok j, fun cs hc => ?_⟩
     · by_cases hjk : j = k
       · subst hjk; rw [Bv]; simp
       · rw [B6 (Ne.symm hjk), lk_gones]
         split
         · simp
         · exact hn
     · have hjk : j ≠ k := fun e => by subst e; rw [hk] at hc; cases hc
       refine ⟨cs, ?_⟩
       rw [hl' j hjk, if_neg]
       · exact hc
       · intro hjj
         obtain ⟨_, _, _, _, _, h1⟩ := hjs j hjj
         rw [hc] at h1; cases h1
end
section ops
variable {P : Program} {N : Nat} {s : St} {ty : TypeId} {pos : String} {after : Array Edge} {gd : Option (Nat × Bool)}
end ops
end Go.Proofs.YtkemjhlbokldhaaGreat

namespace Go.Proofs.YtkemjhlbokldhaaGreat
open Go.RowKit
set_option linter.unusedVariables false

structure Raw (α : Type) where
 x : α
 vs : List Value
 b : List Nat
theorem CLe.rx {α : Type} {e : Enc α} {f : α → List Cell} [hc : CellsOf e f] {x : α} {vs : List Value} {b : List Nat} {j : Nat} {y : Cell} (h : Jj (f x) j = some y) : CLe (.rx e x vs b j) y := fun g l w v h1 => by
 obtain ⟨v', h2, h3⟩ := ((hc.iff.1 h1.2.1).all2 h1.2.2).get (E9 h)
 have h4 := h1.1.1
 rw [h4] at h2; cases h2
 exact h3
end Go.Proofs.YtkemjhlbokldhaaGreat

namespace Go.Proofs.YtkemjhlbokldhaaGreat
open Go.RowKit
set_option linter.unusedVariables false

section
variable {g : Gh} {l : Locs} {w w' : World}
end
theorem FR.flatLen {α : Type} {e : Enc α} {f : α → List Cell} [hc : CellsOf e f] {w : World} : ∀ {xs : List α} {vs : List Value} {b : List Nat}, FR w vs (xs.flatMap f) b → vs.length = xs.length * e.size
 | [], [], b, h => by simp
 | [], _ :: _, b, h => h.elim
 | x :: xs, vs, b, h => by
   rw [List.flatMap_cons] at h
   obtain ⟨v1, v2, b1, b2, rfl, rfl, h1, h2⟩ := FR.app.1 h
   have l1 := e.len (hc.iff.2 h1)
   have l2 := FR.flatLen (e := e) h2
   rw [List.length_append, l1, l2, List.length_cons, Nat.add_mul]; omega
theorem FR.parts {α : Type} {e : Enc α} {f : α → List Cell} [hc : CellsOf e f] {w : World} {xs : List α} {cells : List Value} {bs : List Nat} (h : FR w cells (xs.flatMap f) bs) {i : Nat} (hi : i ≤ xs.length) :
   ∃ b1 b3, bs = b1 ++ b3 ∧ FR w (cells.take (i * e.size)) ((xs.take i).flatMap f) b1 ∧ FR w (cells.drop (i * e.size)) ((xs.drop i).flatMap f) b3 := by
 have e0 : xs.flatMap f = (xs.take i).flatMap f ++ (xs.drop i).flatMap f := by rw [← List.flatMap_append, List.take_append_drop]
 rw [e0] at h
 obtain ⟨v1, v2, b1, b3, rfl, rfl, h1, h2⟩ := FR.app.1 h
 have l1 := FR.flatLen (e := e) h1
 rw [List.length_take, Nat.min_eq_left hi] at l1
 exact ⟨b1, b3, rfl, by rw [List.take_left' l1]; exact h1, by rw [List.drop_left' l1]; exact h2⟩
end Go.Proofs.YtkemjhlbokldhaaGreat

namespace Go.Proofs.YtkemjhlbokldhaaGreat
open Go.RowKit
set_option linter.unusedVariables false

section
variable {g : Gh} {l : Locs} {w : World}
theorem shallow_mem (m : MemR g l w) {k : Nat} {α : Type} {T : TypeId} {e : Enc α} {xs : List α} {dp : Bool} (hk : lkl l k = some (.arr T e xs dp)) :
   MemR g ((k, some (.arr T e xs false)) :: l) w ∧ (∀ K, Step K g l w g ((k, some (.arr T e xs false)) :: l) w) ∧ ∀ j, okK g l g ((k, some (.arr T e xs false)) :: l) j := by
 have ok : ∀ j, okK g l g ((k, some (.arr T e xs false)) :: l) j := fun j => by
   by_cases q : k = j
   · subst q
     exact ⟨fun cs h => (by rw [Bb] at h; cases h), fun β U e2 ys d h => by rw [Bb] at h; cases h; exact ⟨_, _, _, _, _, hk, rfl, rfl, rfl⟩⟩
   · exact okK.same (Bs q) rfl rfl
 have back : ∀ j b, lkl ((k, some (Blk.arr T e xs false)) :: l) j = some b → ∃ b', lkl l j = some b' ∧ (liv g j b ↔ liv g j b') ∧ (∀ (β : Type) (U : TypeId) (e2 : Enc β) (ys : List β), b = .arr U e2 ys true → b' = .arr U e2 ys true) := fun j b h => by
   by_cases q : k = j
   · subst q
     rw [Bb] at h; cases h
     exact ⟨_, hk, Iff.rfl, fun β U e2 ys h => by cases h⟩
   · rw [Bs q] at h
     exact ⟨b, h, Iff.rfl, fun _ _ _ _ h => h⟩
 refine ⟨⟨m.ilt, fun j cs h => ?_, fun j β U e2 ys d h => ?_, fun i j b b' hij h1 h2 l1 l2 => ?_, fun j β U e2 ys h => ?_, fun i j β γ U V e2 e3 ys zs hij h1 h2 => ?_⟩, fun K => ⟨rfl, rfl, rfl, Nat.le_refl _, fun _ _ _ => rfl, fun _ h => h, fun _ h => .inl h, fun b hb => ?_, fun j hj hn => ⟨?_, ok j, fun cs hc => ?_⟩⟩, ok⟩
 · by_cases q : k = j
   · subst q; rw [Bb] at h; cases h
   · rw [Bs q] at h
     obtain ⟨vs, t, h1, h2, h3⟩ := m.box j cs h
     exact ⟨vs, t, h1, h2.mono fun a c _ hr => CellR.step (fun _ _ => rfl) (fun _ h => h) (Nat.le_refl _) (fun i _ => ok i) hr, h3⟩
 · by_cases q : k = j
   · subst q
     rw [Bb] at h; cases h
     rcases m.arr k _ _ _ _ _ hk with ⟨h1, h2, _⟩ | ⟨cap, vs, bss, h1, h2, h3, h4, h5, h6, h7, h8, _⟩
     · exact .inl ⟨h1, h2, fun h => by cases h⟩
     · exact .inr ⟨cap, vs, bss, h1, h2, h3, h4, h5, h6, h7, h8, fun h => by cases h⟩
   · rw [Bs q] at h
     exact m.arr j _ _ _ _ _ h
 · obtain ⟨c, q1, q2, _⟩ := back i b h1
   obtain ⟨c', q3, q4, _⟩ := back j b' h2
   exact m.dis i j _ _ hij q1 q3 (q2.1 l1) (q4.1 l2)
 · obtain ⟨c, q1, _, q3⟩ := back j _ h
   rw [q3 _ _ _ _ rfl] at q1
   exact m.fr j _ _ _ _ q1
 · obtain ⟨c, q1, _, q3⟩ := back i _ h1
   obtain ⟨c', q4, _, q6⟩ := back j _ h2
   rw [q3 _ _ _ _ rfl] at q1
   rw [q6 _ _ _ _ rfl] at q4
   exact m.fd i j _ _ _ _ _ _ _ _ hij q1 q4
 · obtain ⟨j, blk, h1, h2⟩ := hb
   obtain ⟨c, q1, q2, q3⟩ := back j blk h1
   rcases h2 with ⟨h2, h3⟩ | ⟨β, U, e2, ys, h2, h3⟩
   · exact .inl ⟨j, c, q1, .inl ⟨q2.1 h2, h3⟩⟩
   · exact .inl ⟨j, c, q1, .inr ⟨β, U, e2, ys, q3 _ _ _ _ h2, h3⟩⟩
 · by_cases q : k = j
   · subst q; rw [Bv]; simp
   · rw [B6 q]; exact hn
 · by_cases q : k = j
   · subst q; rw [hk] at hc; cases hc
   · exact ⟨cs, by rw [Bs q]; exact hc⟩
variable {P : Program} {N : Nat} {K : List Nat} {Kn : St → Prop} {Q : Exit → St → Prop} {s : St}
theorem AW_shallow {α : Type} {T : TypeId} {e : Enc α} {xs : List α} {dp : Bool} {c : Code} (k : Nat) (hk : lkl s.l k = some (.arr T e xs dp))
   (h : AW P N K c Kn Q ⟨s.t, (k, some (.arr T e xs false)) :: s.l⟩) : AW P N K c Kn Q s := fun g a w r => by
 obtain ⟨m1, st1, ok1⟩ := shallow_mem r.mem hk
 have r1 := r.next0 (g' := g) (l' := (k, some (.arr T e xs false)) :: s.l) (w' := w) (fun _ _ => rfl) (fun _ h => h) (Nat.le_refl _) (fun j _ => ok1 j) m1
 exact Go.wp_mono (h g a w r1) fun e a1 w1 h1 => h1.trans r.mem m1 (st1 K)
end

def frzC {α : Type} (e : Enc α) (xs : List α) : Cell → Cell
 | .own _ => .sl e xs
 | c => c
def AVal.frz1 {α : Type} (e : Enc α) (xs : List α) : AVal → AVal
 | .one x => .one (frzC e xs x)
 | .agg xs' => .agg (xs'.map (frzC e xs))
 | .tup xs' => .tup xs'
def AVal.frz {α : Type} (e : Enc α) (xs : List α) : AVal → AVal
 | .tup xs' => .tup (xs'.map (AVal.frz1 e xs))
 | x => x.frz1 e xs
section
variable {g g' : Gh} {w : World} {α : Type} {T : TypeId} {e : Enc α} {xs : List α} {d : Bool}
theorem frzC_ok (hs : CellR g' [] w (g.hd 0) (.sl e xs)) {v : Value} {c : Cell} (hc : HJ c = true) (hi : ∀ k ∈ c.ids, k = 0) (h : CellR g [(0, some (.arr T e xs d))] w v c) : CellR g' [] w v (frzC e xs c) := by
 cases c with
 | c u => exact h
 | own k =>
   have hk0 : k = 0 := hi k (by simp [Cell.ids])
   subst hk0
   have : v = g.hd 0 := h _ _ _ _ _ rfl
   rw [this]; exact hs
 | any => trivial
 | _ => cases hc
theorem frz1_ok (hs : CellR g' [] w (g.hd 0) (.sl e xs)) : ∀ {v : Value} {x : AVal}, IM x = true → (∀ k ∈ x.ids1, k = 0) → VR1 g [(0, some (.arr T e xs d))] w v x → VR1 g' [] w v (x.frz1 e xs)
 | v, .one c, hc, hi, h => frzC_ok hs hc hi h
 | v, .agg cs, hc, hi, ⟨vs, h1, h2⟩ => by
   refine ⟨vs, h1, ?_⟩
   clear h1
   have hc' : ∀ c ∈ cs, HJ c = true := fun c hm => List.all_eq_true.1 hc c hm
   have hi' : ∀ c ∈ cs, ∀ k ∈ c.ids, k = 0 := fun c hm k hk => hi k (List.mem_flatMap.2 ⟨c, hm, hk⟩)
   clear hc hi
   induction cs generalizing vs with
   | nil => cases vs with | nil => trivial | cons _ _ => exact h2.elim
   | cons c cs ih =>
     cases vs with
     | nil => exact h2.elim
     | cons u us => exact ⟨frzC_ok hs (hc' c (by simp)) (hi' c (by simp)) h2.1, ih us h2.2 (fun c hm => hc' c (by simp [hm])) (fun c hm => hi' c (by simp [hm]))⟩
 | v, .tup _, _, _, h => h.elim
end
theorem AC.frz {P : Program} {f : FuncId} {args : List AVal} {res : AVal} {α : Type} {T : TypeId} {e : Enc α} {xs : List α} {d : Bool} (h : AC P f args [] res [(0, some (.arr T e xs d))]) (hc : IM res = true) (hi : ∀ k ∈ res.ids, k = 0) : AC P f args [] (res.frz e xs) [] := by
 refine ⟨h.fn, fun g w cargs m ha => (h.run g w cargs m ha).mono ?_⟩
 rintro r w' ⟨v, g1, rfl, m1, hv, hs⟩
 have hk : lkl [(0, some (Blk.arr T e xs d))] 0 = some (.arr T e xs d) := rfl
 obtain ⟨m2, s2, c2, _⟩ := HX m1 hk
 have T1 := Step.trans m m1 hs (s2 [])
 have no : ∀ k b, lkl [] k ≠ some b := fun k b h => by simp [lkl, lk] at h
 have m3 : MemR (g1.shut 0) [] w' := ⟨m2.ilt, fun k cs h => (no _ _ h).elim, fun k β T e2 ys d h => (no _ _ h).elim, fun j k b b' _ h => (no _ _ h).elim, fun k β T e2 ys h => (no _ _ h).elim, fun j k β γ T U e2 e3 ys zs _ h => (no _ _ h).elim⟩
 have hsl : CellR (g1.shut 0) [] w' (g1.hd 0) (.sl e xs) := c2
 refine ⟨v, g1.shut 0, rfl, m3, ?_, ⟨T1.os, T1.tape, T1.output, T1.size, T1.keep, T1.imm, T1.imm', fun b hb => ?_, fun k hk => by cases hk⟩⟩
 · cases res with
   | one x => exact frz1_ok (d := d) (T := T) hsl hc (fun k hk => hi k hk) hv
   | agg cs => exact frz1_ok (x := .agg cs) (d := d) (T := T) hsl hc (fun k hk => hi k hk) hv
   | tup ys =>
     obtain ⟨vs, h1, h2⟩ := hv
     refine ⟨vs, h1, ?_⟩
     clear h1
     have hc' : ∀ y ∈ ys, IM y = true := fun y hm => by
       have := List.all_eq_true.1 hc y hm
       cases y with
       | one _ => exact this
       | agg _ => exact this
       | tup _ => cases this
     have hi' : ∀ y ∈ ys, ∀ k ∈ y.ids1, k = 0 := fun y hm k hk => hi k (List.mem_flatMap.2 ⟨y, hm, hk⟩)
     clear hc hi h ha
     induction ys generalizing vs with
     | nil => cases vs with | nil => trivial | cons _ _ => exact h2.elim
     | cons y ys ih =>
       cases vs with
       | nil => exact h2.elim
       | cons u us => exact ⟨frz1_ok (d := d) (T := T) hsl (hc' y (by simp)) (hi' y (by simp)) h2.1, ih us h2.2 (fun y hm => hc' y (by simp [hm])) (fun y hm => hi' y (by simp [hm]))⟩
 · obtain ⟨k, blk, h1, _⟩ := hb
   exact (no _ _ h1).elim

end Go.Proofs.YtkemjhlbokldhaaGreat

namespace Go.Proofs.YtkemjhlbokldhaaGreat
open Go.RowKit
set_option linter.unusedVariables false

theorem AW_slot {P : Program} {N : Nat} {K : List Nat} {c : Code} {Kn : St → Prop} {Q : Exit → St → Prop} {s : St} {t : Nat} {x y : AVal} (ht : lk s.t t = some x) (h : x = y) (hA : AW P N K c Kn Q ⟨(t, y) :: s.t, s.l⟩) : AW P N K c Kn Q s := fun g a w r =>
 hA g a w ⟨r.size, r.defers, fun k z hk => by
   by_cases e : t = k
   · subst e; rw [Bv] at hk; cases hk; exact r.tmp _ _ (h ▸ ht)
   · rw [B6 e] at hk; exact r.tmp k z hk, r.mem⟩
theorem x_assign_any {P : Program} {N d : Nat} {s : St} {ty : TypeId} {pos : String} {after : Array Edge} {gd : Option (Nat × Bool)} {v : Value} (hN : Nat.blt d N = true) :
   Stp P N ⟨some d, .assign (.const v), ty, pos, after, gd⟩ s ⟨(d, .one .any) :: s.t, s.l⟩ ⟨[], [], [(d, .one .any)], [], []⟩ :=
 ⟨OpOK.pure rfl (DJ hN) fun g s a w ht hl r => ⟨a.eval (.const v), by simp [execOp], trivial⟩, ⟨by simp, by simp, by simp⟩, rfl⟩
end Go.Proofs.YtkemjhlbokldhaaGreat
