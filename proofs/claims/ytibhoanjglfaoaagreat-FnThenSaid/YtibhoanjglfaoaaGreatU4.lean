/- Lemmas of the walks, part 4. -/
import Derived.Test.YtibhoanjglfaoaaGreatU3
import Derived.Laws.CopyRow
import Derived.Laws.NewBlocks
import Derived.Lib.AppendZerosOnto
import Derived.Lib.Overlaps
import Derived.Lib.SliceRun
import Derived.Lib.JoinLaws
import Derived.Shelf.Spec.SlicesInsert
import Derived.Deep.RegionLaw
import Derived.Laws.Small
/- The abstract walk: an element of an own array written anew. -/
namespace Go.Proofs.YtibhoanjglfaoaaGreat
open Go.RowKit
set_option linter.unusedVariables false
section
variable {g : Gh} {l : Locs} {w w' : World}
/-- The array k holds other elements; the arrays js are gone into it. -/
theorem arr_put (m : MemR g l w) {k : Nat} {α : Type} {T : TypeId} {e : Enc α} {xs0 xs : List α} {d0 d : Bool} (hk : lkl l k = some (.arr T e xs0 d0)) (hlv : g.hd k ≠ .slice none 0 0) {js : List Nat} (hkj : k ∉ js)
    (hjs : ∀ j ∈ js, ∃ (α : Type) (T : TypeId) (e : Enc α) (xs : List α) (d : Bool), lkl l j = some (.arr T e xs d)) {fp : List Nat}
    (hos : w'.os = w.os) (htp : w'.tape = w.tape) (hout : w'.output = w.output) (hs : w'.heap.size = w.heap.size) (hkeep : ∀ b, b ≠ g.ρ k → w'.heap[b]? = w.heap[b]?)
    (hA : ArrR ⟨fun b => g.I b ∨ liveA g js b, g.ρ, g.hd, setAt g.F k fp⟩ w' k T e xs d)
    (hfp : d = true → fp.Nodup ∧ ∀ b ∈ fp, (g.I b ∨ liveA g js b) ∧ (∃ c t, w'.heap[b]? = some (.cells c t (0, 0))) ∧ ((d0 = true ∧ b ∈ g.F k) ∨ ∃ j ∈ js, Via g l j b)) :
    ∃ g', g'.ρ k = g.ρ k ∧ g'.hd k = g.hd k ∧ MemR g' ((k, some (.arr T e xs d)) :: (gones js ++ l)) w' ∧ (∀ K, Step K g l w g' ((k, some (.arr T e xs d)) :: (gones js ++ l)) w') ∧
      (∀ b, g.I b → w'.heap[b]? = w.heap[b]?) ∧ (∀ b, g.I b → g'.I b) ∧ ∀ j, okK g l g' ((k, some (.arr T e xs d)) :: (gones js ++ l)) j := by
  let g' : Gh := ⟨fun b => g.I b ∨ liveA g js b, g.ρ, g.hd, setAt g.F k fp⟩
  have hnI := m.notI hk hlv
  have hi : ∀ b, g.I b → w'.heap[b]? = w.heap[b]? := fun b hb => hkeep b fun e => hnI (e ▸ hb)
  have hl' : ∀ j, j ≠ k → lkl ((k, some (.arr T e xs d)) :: (gones js ++ l)) j = if j ∈ js then none else lkl l j := fun j hj => by
    rw [lkl_cons_ne (Ne.symm hj), lkl_gones]
  have hu : ∀ j, j ≠ k → lkl ((k, some (.arr T e xs d)) :: (gones js ++ l)) j = none ∨ Untouched g l w g' ((k, some (.arr T e xs d)) :: (gones js ++ l)) w' j := fun j hj => by
    by_cases h : j ∈ js
    · left; rw [hl' j hj, if_pos h]
    · right
      refine ⟨by rw [hl' j hj, if_neg h], rfl, rfl, setAt_ne hj, fun b hb hlv' => ⟨hkeep _ (m.dis j k _ _ hj hb hk hlv' hlv), fun hI => ?_⟩⟩
      rcases hI with hI | ⟨i, hij, hil, e⟩
      · exact m.notI hb hlv' hI
      · obtain ⟨_, _, _, _, _, h1⟩ := hjs i hij
        exact m.dis j i _ _ (fun e => h (e ▸ hij)) hb h1 hlv' hil e
  have ok : ∀ j, okK g l g' ((k, some (.arr T e xs d)) :: (gones js ++ l)) j := fun j => by
    by_cases hj : j = k
    · subst hj
      refine ⟨fun cs hc => ?_, fun β U e2 ys dd hc => ?_⟩
      · rw [lkl_cons_self] at hc; cases hc
      · rw [lkl_cons_self] at hc; cases hc
        exact ⟨α, T, e, xs0, d0, hk, rfl, rfl, rfl⟩
    · rcases hu j hj with h | h
      · exact okK.gone h
      · exact h.ok
  have hlt : ∀ b, g'.I b → b < w'.heap.size := fun b hb => by
    rw [hs]
    rcases hb with hb | ⟨i, hij, hil, e⟩
    · exact m.ilt b hb
    · obtain ⟨_, _, _, _, _, h1⟩ := hjs i hij
      rw [e]; exact m.lt h1 hil
  refine ⟨g', rfl, rfl, m.set1 k hi (fun b hb => .inl hb) (Nat.le_of_eq hs.symm) hlt hu (.inl (ok k)) (fun cs hc => ?_) (fun β U e2 ys d2 hc => ?_) (fun j b b' hj h1 h2 h3 l1 l2 => m.dis j k _ _ hj h2 hk l1 hlv) (fun β U e2 ys hc => ?_) (fun j β γ U V e2 e3 ys zs hj h1 h2 h3 => ?_), fun K => ?_, hi, fun b hb => .inl hb, ok⟩
  · rw [lkl_cons_self] at hc; cases hc
  · rw [lkl_cons_self] at hc; cases hc; exact hA
  · rw [lkl_cons_self] at hc; cases hc
    rw [show g'.F k = fp from setAt_self]
    obtain ⟨n1, n2⟩ := hfp rfl
    exact ⟨n1, fun b hb => ⟨(n2 b hb).1, (n2 b hb).2.1⟩⟩
  · rw [lkl_cons_self] at h3; cases h3
    rw [show g'.F k = fp from setAt_self]
    intro b hb hb'
    rcases ((hfp rfl).2 b hb').2.2 with ⟨rfl, h5⟩ | ⟨i, hij, hvia⟩
    · exact m.fd j k _ _ _ _ _ _ _ _ hj h2 hk b hb h5
    · have : j = i := Via.disj m (b := b) ⟨β, U, e2, ys, h2, .inr hb⟩ hvia
      subst this
      rw [hl' j hj, if_pos hij] at h1; cases h1
  · refine ⟨hos, htp, hout, Nat.le_of_eq hs.symm, fun b hb hn => hkeep b (hn k _ hk hlv), fun b hb => .inl hb, fun b hb => ?_, own_set1 k hu (fun b hb hl => .inl (OwnB.of_live hk hlv)) (fun β U e2 ys hc b hb => ?_), fun j hj hn => ?_⟩
    · rcases hb with hb | ⟨i, hij, hil, e⟩
      · exact .inl hb
      · obtain ⟨_, _, _, _, _, h1⟩ := hjs i hij
        exact .inr (.inr (e ▸ OwnB.of_live h1 hil))
    · rw [lkl_cons_self] at hc; cases hc
      rw [show g'.F k = fp from setAt_self] at hb
      rcases ((hfp rfl).2 b hb).2.2 with ⟨rfl, h5⟩ | ⟨i, hij, hvia⟩
      · exact .inl ⟨k, _, hk, .inr ⟨_, _, _, _, rfl, h5⟩⟩
      · exact .inl hvia.own
    · refine ⟨?_, ok j, fun cs hc => ?_⟩
      · by_cases hjk : j = k
        · subst hjk; rw [lk_cons_self]; simp
        · rw [lk_cons_ne (Ne.symm hjk), lk_gones]
          split
          · simp
          · exact hn
      · have hjk : j ≠ k := fun e => by subst e; rw [hk] at hc; cases hc
        refine ⟨cs, ?_⟩
        rw [hl' j hjk, if_neg]
        · exact hc
        · intro hjj
          obtain ⟨_, _, _, _, _, h1⟩ := hjs j hjj
          rw [hc] at h1; cases h1
end
section ops
variable {P : Program} {N : Nat} {s : St} {ty : TypeId} {pos : String} {after : Array Edge} {gd : Option (Nat × Bool)}
/-- A whole element written. -/
theorem x_ostore {α : Type} {e : Enc α} {f : α → List Cell} [hc : CellsOf e f] {T E n i k : Nat} {x y : Operand} {X : AVal} {xs : List α} (x' : α) {ds : List Cell} {js : List Nat} {d1 d2 : Bool} (h : evo s.t x = some (.one (.optr k i 0))) (hl : lkl s.l k = some (.arr E e xs d1)) (h2 : evo s.t y = some X) (hf : X.flat = true)
    (hT : sizeT P T = some n) (hn : X.cells.length = n) (hes : e.size = n) (hsol : X.cells.all (solid s.l) = true) (hmv : mvC s.l X.cells = some (ds, js, d2)) (hfit : FitL ds (f x')) (hnd : noDup js = true) (hkj : noId k js = true) (hi : i < xs.length) :
    Stp P N ⟨none, .store T x y, ty, pos, after, gd⟩ s ⟨s.t, (k, some (.arr E e (xs.set i x') (d1 && d2))) :: (gones js ++ s.l)⟩ ⟨rdo x (.one (.optr k i 0)) ++ rdo y X, (k, .arr E e xs d1) :: rlC s.l X.cells, [], (k, some (.arr E e (xs.set i x') (d1 && d2))) :: gones js, []⟩ := by
  refine ⟨fun K g s' a w hpre r => ?_, ⟨two_rd h h2, fun p hp => by
    rcases List.mem_cons.1 hp with rfl | hp
    · exact hl
    · exact rlC_self p hp, by simp⟩, by simp [Cert.upd]⟩
  obtain ⟨p1, p2, _⟩ := hpre
  have hk : lkl s'.l k = some (.arr E e xs d1) := p2 (k, .arr E e xs d1) (List.mem_cons_self ..)
  have p2' : ∀ p ∈ rlC s.l X.cells, lkl s'.l p.1 = some p.2 := fun p hp => p2 p (List.mem_cons_of_mem _ hp)
  have ha : a.eval x = .pointer (some ⟨g.ρ k, i * e.size + 0, none⟩) := (eval_ok r (evs_of h) fun p hm => p1 p (List.mem_append_left _ hm) : CellR g s'.l w _ (.optr k i 0)) _ _ _ _ _ hk
  have hv := eval_ok r (evs_of h2) fun p hm => p1 p (List.mem_append_right _ hm)
  have hs' : X.cells.all (solid s'.l) = true := List.all_eq_true.2 fun z hz => solid_of p2' hz (List.all_eq_true.1 hsol z hz)
  have hall := vr1_cells hs' r.mem hv hf
  have hmv' := mvC_of hmv p2'
  have hjn := noDup_of hnd
  have hkj' := noId_of hkj
  have hgone : ∀ j ∈ js, ∃ (α : Type) (T : TypeId) (e : Enc α) (xs : List α) (d : Bool), lkl s'.l j = some (.arr T e xs d) := fun j hj => (mvC_gone hmv' j hj).1
  obtain ⟨b', f1, f2, f3⟩ := mvC_ok r.mem hall hmv' hjn
  have hrep := hc.iff.2 (f1.fit hfit)
  have hlen : (a.eval y).cells.size = n := by rw [← hn]; simpa using hall.len
  have hll : (a.eval y).cells.toList.length = e.size := e.len hrep
  rcases r.mem.arr k _ _ _ _ _ hk with ⟨rfl, _⟩ | ⟨cap, vs, bss, g1, g2, g3, g4, g5, g6, g7, g8, g9⟩
  · simp at hi
  have hlv : g.hd k ≠ .slice none 0 0 := by rw [g1]; intro e; cases e
  have hib : i < bss.length := by rw [g6.1]; exact hi
  have hfitc : i * e.size + (a.eval y).cells.toList.length ≤ vs.size := by
    rw [hll, g5]
    have : (i + 1) * e.size ≤ cap * e.size := Nat.mul_le_mul_right _ (by omega)
    rw [Nat.add_mul] at this; omega
  have one : ∀ v ∈ (a.eval y).cells.toList, v.oneCell' = true := FR.one f1
  have hst := run_storeCells_at P (g.ρ k) (i * e.size) E (a.eval y).cells.toList 0 vs w g4 (by simpa using hfitc) one
  generalize hnew : (vs.toList.take (i * e.size) ++ (a.eval y).cells.toList ++ vs.toList.drop (i * e.size + (a.eval y).cells.toList.length)).toArray = new at *
  have hng : ∀ q, new[q]? = if i * e.size ≤ q ∧ q < i * e.size + e.size then (a.eval y).cells.toList[q - i * e.size]? else vs[q]? := fun q => by
    rw [← hnew, List.getElem?_toArray]
    have hl0 : (vs.toList.take (i * e.size)).length = i * e.size := by simp; omega
    rcases Nat.lt_or_ge q (i * e.size) with hq | hq
    · rw [if_neg (by omega), List.append_assoc, List.getElem?_append_left (by omega), List.getElem?_take, if_pos hq]; simp
    · rw [List.append_assoc, List.getElem?_append_right (by omega), hl0]
      rcases Nat.lt_or_ge q (i * e.size + e.size) with hq2 | hq2
      · rw [if_pos ⟨hq, hq2⟩, List.getElem?_append_left (by omega)]
      · rw [if_neg (by omega), List.getElem?_append_right (by omega), List.getElem?_drop, hll, show i * e.size + e.size + (q - i * e.size - e.size) = q by omega]; simp
  have hns : new.size = vs.size := by rw [← hnew]; simp; omega
  have hwk : (w.setRow (g.ρ k) new).heap[g.ρ k]? = some (.cells new E (0, 0)) := setRow_heap w _ _ _ E _ g4
  have hwo : ∀ b, b ≠ g.ρ k → (w.setRow (g.ρ k) new).heap[b]? = w.heap[b]? := fun b hb => setRow_other w _ b _ hb
  have hsz : (w.setRow (g.ρ k) new).heap.size = w.heap.size := by simp
  have hbk : ∀ b ∈ b', b ≠ g.ρ k := fun b hb eq => by
    rcases f2 b hb with h3 | ⟨j, hj, h3, h4⟩
    · exact g8 (eq ▸ h3)
    · obtain ⟨_, _, _, _, _, h5⟩ := hgone j hj
      exact r.mem.dis j k _ _ (fun e => hkj' (e ▸ hj)) h5 hk h3 hlv (h4 ▸ eq)
  have hE := g6.upd (w' := w.setRow (g.ρ k) new) (k := i) (x' := x') (b' := b') (e.keep hrep (fun b hb => hwo b (hbk b hb)) (Nat.le_of_eq hsz.symm)) (fun j u hu => by
      have hj := (List.getElem?_eq_some_iff.1 hu).1
      rw [cell_of_heap hwk, hng, if_pos (by omega), show 0 + i * e.size + j - i * e.size = j by omega, hu]) (fun q hq => by
      rw [cell_of_heap hwk, hng, cell_of_heap g4, if_neg (by rw [Nat.add_mul] at hq; omega)]) (fun q b hq hb c hcb => hwo c fun eq => g8 (eq ▸ g7 c (List.mem_flatten.2 ⟨b, List.mem_of_getElem? hb, hcb⟩))) (Nat.le_of_eq hsz.symm)
  have hmem : ∀ b ∈ (bss.set i b').flatten, g.I b ∨ liveA g js b := fun b hb => by
    rcases flatten_set bss hib b hb with h3 | h3
    · exact f2 b h3
    · exact .inl (g7 b h3)
  obtain ⟨g', q1, q2, q3, q4, q5, q6, q7⟩ := arr_put (w' := w.setRow (g.ρ k) new) r.mem hk hlv hkj' hgone (xs := xs.set i x') (d := d1 && d2) (fp := (bss.set i b').flatten) rfl rfl rfl hsz hwo
    (.inr ⟨cap, new, bss.set i b', by rw [List.length_set]; exact g1, by rw [List.length_set]; exact g2, g3, hwk, hns.trans g5, hE, hmem, (fun hI => by
      rcases hI with hI | ⟨j, hj, h3, h4⟩
      · exact g8 hI
      · obtain ⟨_, _, _, _, _, h5⟩ := hgone j hj
        exact r.mem.dis j k _ _ (fun e => hkj' (e ▸ hj)) h5 hk h3 hlv h4.symm), fun _ => setAt_self⟩)
    (fun hd => by
      simp only [Bool.and_eq_true] at hd
      obtain ⟨rfl, rfl⟩ := hd
      obtain ⟨n1, n2⟩ := f3 rfl
      have hF := g9 rfl
      have hvk : ∀ b ∈ bss.flatten, Via g s'.l k b := fun b hb => ⟨α, E, e, xs, hk, .inr (by rw [hF]; exact hb)⟩
      refine ⟨nodup_set n1 bss i hib (by rw [← hF]; exact (r.mem.fr k _ _ _ _ hk).1) (fun c hcb => .inr fun h3 => by
        obtain ⟨j, hj, hvj⟩ := n2 c hcb
        exact hkj' ((hvk c h3).disj r.mem hvj ▸ hj)), fun b hb => ⟨hmem b hb, ?_, ?_⟩⟩
      · rcases flatten_set bss hib b hb with h3 | h3
        · obtain ⟨j, hj, hvj⟩ := n2 b h3
          obtain ⟨c, t, h4⟩ := hvj.cells r.mem
          exact ⟨c, t, by rw [hwo b (hbk b h3)]; exact h4⟩
        · obtain ⟨c, t, h4⟩ := (hvk b h3).cells r.mem
          exact ⟨c, t, by rw [hwo b fun eq => g8 (eq ▸ g7 b h3)]; exact h4⟩
      · rcases flatten_set bss hib b hb with h3 | h3
        · exact .inr (n2 b h3)
        · exact .inl ⟨rfl, by rw [hF]; exact h3⟩)
  unfold Oper.wp
  have hrun : (execOp a.eval ⟨none, .store T x y, ty, pos, after, gd⟩).run P w = .ok .skip (w.setRow (g.ρ k) new) := by
    unfold sizeT at hT
    split at hT
    · rename_i ti hti
      cases hT
      simp only [execOp, Instr.storeAt, ha, Instr.sureAddr, storeVar, sizeOf, typeInfo, Sem.run_bind, Sem.run_pure, program, Sem.run, hti, Result.andThen_ok, hlen, ne_eq, not_true_eq_false, if_false]
      simp only [Nat.add_zero] at hst ⊢
      rw [hst]; rfl
    · cases hT
  rw [hrun, Oper.upon_skip]
  exact ⟨g', r.next0 q5 q6 (Nat.le_of_eq hsz.symm) (fun j _ => q7 j) q3, q4 K⟩
end ops
/-! filled from the front -/
def filledTo {α : Type} (xs : List α) (x0 : α) (k : Nat) : List α := xs.take k ++ List.replicate (xs.length - k) x0
theorem filledTo_len {α : Type} {xs : List α} {x0 : α} {k : Nat} (hk : k ≤ xs.length) : (filledTo xs x0 k).length = xs.length := by simp [filledTo]; omega
end Go.Proofs.YtibhoanjglfaoaaGreat

/- Elements ars the cells that hold them: what a function that moves elements about does with an array of one's own, footprint and all. -/
namespace Go.Proofs.YtibhoanjglfaoaaGreat
open Go.RowKit
set_option linter.unusedVariables false

/-- A datum, the cells that hold it, and its footprint. -/
structure Raw (α : Type) where
  x : α
  vs : List Value
  b : List Nat
def rxC {α : Type} (e : Enc α) (r : Raw α) (n j : Nat) : List Cell := match n with | 0 => [] | n + 1 => .rx e r.x r.vs r.b j :: rxC e r n (j + 1)
theorem rxC_len {α : Type} {e : Enc α} {r : Raw α} : ∀ {n j : Nat}, (rxC e r n j).length = n
  | 0, _ => rfl
  | n + 1, j => by rw [rxC, List.length_cons, rxC_len]
theorem rxC_lt {α : Type} {e : Enc α} {w : World} {r : Raw α} : ∀ {n j : Nat} {cs : List Value} {b : List Nat}, FR w cs (rxC e r n j) b → ∀ i ∈ b, i < w.heap.size
  | 0, j, [], b, h, i, hi => by
    have : b = [] := h
    subst this; cases hi
  | 0, j, _ :: _, b, h, i, hi => h.elim
  | n + 1, j, [], b, h, i, hi => h.elim
  | n + 1, j, c :: cs, b, h, i, hi => by
    obtain ⟨b1, b2, rfl, ⟨_, h1, rfl⟩, h2⟩ := h
    rcases List.mem_append.1 hi with hi | hi
    · exact e.lt h1 i hi
    · exact rxC_lt h2 i hi
/-- Raw elements of e. -/
def rawE {α : Type} (e : Enc α) : Enc (Raw α) where
  size := e.size
  rep := fun w cs r b => FR w cs (rxC e r e.size 0) b
  len := fun h => by rw [FR.length h, rxC_len]
  keep := fun h hk hs => FR.keep h hk hs
  lt := fun h => rxC_lt h
instance {α : Type} (e : Enc α) : CellsOf (rawE e) (fun r => rxC e r e.size 0) := ⟨Iff.rfl⟩
/-- A raw element's footprint ars its cells say it: once for each cell. -/
def rep3 (n : Nat) (b : List Nat) : List Nat := match n with | 0 => [] | n + 1 => b ++ rep3 n b
theorem rep3_mem {n : Nat} {b : List Nat} {i : Nat} : i ∈ rep3 n b → i ∈ b := by
  induction n with
  | zero => intro h; cases h
  | succ n ih => intro h; rcases List.mem_append.1 h with h | h; exact h; exact ih h
theorem FR.toRx {α : Type} {e : Enc α} {w : World} {r : Raw α} (hr : e.rep w r.vs r.x r.b) (h1 : ∀ u ∈ r.vs, u.oneCell' = true) : ∀ {n j : Nat}, n + j = r.vs.length → FR w (r.vs.drop j) (rxC e r n j) (rep3 n r.b)
  | 0, j, h => by rw [List.drop_eq_nil_of_le (by omega)]; exact rfl
  | n + 1, j, h => by
    rw [List.drop_eq_getElem_cons (by omega)]
    exact ⟨_, _, rfl, ⟨⟨List.getElem?_eq_getElem (by omega), h1 _ (List.getElem_mem _)⟩, hr, rfl⟩, FR.toRx hr h1 (by omega)⟩
theorem FR.ofRx {α : Type} {e : Enc α} {w : World} {r : Raw α} : ∀ {n j : Nat} {cs : List Value} {b : List Nat}, FR w cs (rxC e r n j) b → ∀ i u, cs[i]? = some u → r.vs[j + i]? = some u
  | 0, j, [], b, h, i, u, hu => by simp at hu
  | 0, j, _ :: _, b, h, i, u, hu => h.elim
  | n + 1, j, [], b, h, i, u, hu => h.elim
  | n + 1, j, c :: cs, b, h, i, u, hu => by
    obtain ⟨b1, b2, rfl, ⟨h0, h1, rfl⟩, h2⟩ := h
    cases i with
    | zero => simp at hu; subst hu; exact h0.1
    | succ i =>
      have := FR.ofRx h2 i u (by simpa using hu)
      rwa [show j + 1 + i = j + (i + 1) by omega] at this
theorem rx_rep {α : Type} {e : Enc α} (h0 : 0 < e.size) {w : World} {r : Raw α} {cs : List Value} {b : List Nat} (h : FR w cs (rxC e r e.size 0) b) : cs = r.vs ∧ e.rep w r.vs r.x r.b := by
  have hl := FR.length h
  rw [rxC_len] at hl
  have hrep : e.rep w r.vs r.x r.b := by
    obtain ⟨n, hn⟩ : ∃ n, e.size = n + 1 := ⟨e.size - 1, by omega⟩
    rw [hn] at h
    cases cs with
    | nil => exact h.elim
    | cons c cs =>
      obtain ⟨_, _, _, ⟨_, h1, _⟩, _⟩ := h
      exact h1
  refine ⟨List.ext_getElem? fun i => ?_, hrep⟩
  by_cases hi : i < cs.length
  · rw [List.getElem?_eq_getElem hi]
    have := FR.ofRx h i _ (List.getElem?_eq_getElem hi)
    rw [Nat.zero_add] at this
    exact this.symm
  · rw [List.getElem?_eq_none (by omega), List.getElem?_eq_none (by rw [e.len hrep]; omega)]
def feet {α : Type} (zs : List (Raw α)) : List Nat := (zs.map Raw.b).flatten
/-- An array's cells ars raw elements. -/
theorem raw_of {α : Type} {e : Enc α} {f : α → List Cell} [hc : CellsOf e f] {w : World} : ∀ {xs : List α} {cells : List Value} {bs : List Nat}, FR w cells (xs.flatMap f) bs →
    ∃ zs : List (Raw α), zs.map Raw.x = xs ∧ feet zs = bs ∧ ∃ b3, FR w cells (zs.flatMap fun r => rxC e r e.size 0) b3 ∧ ∀ i ∈ b3, i ∈ bs
  | [], [], bs, h => ⟨[], rfl, (show bs = [] from h).symm, [], rfl, fun i hi => by cases hi⟩
  | [], _ :: _, bs, h => h.elim
  | x :: xs, cells, bs, h => by
    rw [List.flatMap_cons] at h
    obtain ⟨v1, v2, b1, b2, rfl, rfl, h1, h2⟩ := FR.app.1 h
    obtain ⟨zs, q1, q2, b3, q3, q4⟩ := raw_of (e := e) h2
    have hr := hc.iff.2 h1
    refine ⟨⟨x, v1, b1⟩ :: zs, by rw [List.map_cons, q1], by unfold feet at *; rw [List.map_cons, List.flatten_cons, q2], rep3 e.size b1 ++ b3, ?_, fun i hi => ?_⟩
    · rw [List.flatMap_cons]
      refine FR.app.2 ⟨v1, v2, _, b3, rfl, rfl, ?_, q3⟩
      have := FR.toRx (r := ⟨x, v1, b1⟩) hr (FR.one h1) (n := e.size) (j := 0) (by simp [e.len hr])
      rwa [List.drop_zero] at this
    · rcases List.mem_append.1 hi with hi | hi
      · exact List.mem_append_left _ (rep3_mem hi)
      · exact List.mem_append_right _ (q4 i hi)
/-- .. and back. -/
theorem raw_to {α : Type} {e : Enc α} {f : α → List Cell} [hc : CellsOf e f] (h0 : 0 < e.size) {w : World} : ∀ {zs : List (Raw α)} {cells : List Value} {b3 : List Nat}, FR w cells (zs.flatMap fun r => rxC e r e.size 0) b3 → FR w cells ((zs.map Raw.x).flatMap f) (feet zs)
  | [], [], b3, h => rfl
  | [], _ :: _, b3, h => h.elim
  | r :: zs, cells, b3, h => by
    rw [List.flatMap_cons] at h
    obtain ⟨v1, v2, b1, b2, rfl, rfl, h1, h2⟩ := FR.app.1 h
    obtain ⟨rfl, hr⟩ := rx_rep h0 h1
    rw [List.map_cons, List.flatMap_cons]
    exact FR.app.2 ⟨_, _, r.b, feet zs, rfl, by simp [feet], hc.iff.1 hr, raw_to h0 h2⟩
theorem CLe.rx {α : Type} {e : Enc α} {f : α → List Cell} [hc : CellsOf e f] {x : α} {vs : List Value} {b : List Nat} {j : Nat} {y : Cell} (h : nthC (f x) j = some y) : CLe (.rx e x vs b j) y := fun g l w v h1 => by
  obtain ⟨v', h2, h3⟩ := ((hc.iff.1 h1.2.1).all2 h1.2.2).get (nthC_get h)
  have h4 := h1.1.1
  rw [h4] at h2; cases h2
  exact h3
theorem feet_sub {α : Type} {zs ys : List (Raw α)} (h : zs.Sublist ys) : (feet zs).Sublist (feet ys) := by
  unfold feet
  induction h with
  | slnil => exact List.Sublist.slnil
  | cons a h ih => rw [List.map_cons, List.flatten_cons]; exact ih.trans (List.sublist_append_right _ _)
  | cons_cons a h ih => rw [List.map_cons, List.map_cons, List.flatten_cons, List.flatten_cons]; exact (List.Sublist.refl _).append ih
theorem feet_perm {α : Type} {zs ys : List (Raw α)} (h : zs.Perm ys) : (feet zs).Perm (feet ys) := by
  unfold feet
  exact (h.map Raw.b).flatten
/-- What moves raw elements about moves the elements with all that is theirs. -/
theorem AT.raw {P : Program} {fid : FuncId} {rest : List AVal} {α : Type} {e : Enc α} {f : α → List Cell} [hc : CellsOf e f] (h0 : 0 < e.size) {E : TypeId} {xs ys : List α} (hfn : Callable P fid)
    (h : ∀ zs : List (Raw α), zs.map Raw.x = xs → ∃ us : List (Raw α), us.map Raw.x = ys ∧ ((feet zs).Nodup → (feet us).Nodup) ∧ (∀ b ∈ feet us, b ∈ feet zs) ∧
      AT P fid (.one (.own 0) :: rest) [(0, some (.arr E (rawE e) zs false))] (.one (.own 1)) [(1, some (.arr E (rawE e) us false))]) (hrest : rest.flatMap AVal.ids1 = []) :
    AT P fid (.one (.own 0) :: rest) [(0, some (.arr E e xs true))] (.one (.own 1)) [(1, some (.arr E e ys true))] := by
  refine ⟨hfn, fun g w cargs m ha => ?_⟩
  have hk : lkl [(0, some (Blk.arr E e xs true))] 0 = some (.arr E e xs true) := rfl
  have hA0 := m.arr 0 _ _ _ _ _ hk
  obtain ⟨cells, bs, r1, f1, i1, F1, ob1⟩ := hA0.row
  obtain ⟨zs, q1, q2, b3, q3, q4⟩ := raw_of (e := e) f1
  obtain ⟨us, u1, u2, u3, hus⟩ := h zs q1
  have hF : g.F 0 = feet zs := by rw [F1 rfl, q2]
  have hlen : zs.length = xs.length := by rw [← q1, List.length_map]
  have m1 : MemR g [(0, some (.arr E (rawE e) zs false))] w := by
    have hlk : ∀ k b, lkl [(0, some (Blk.arr E (rawE e) zs false))] k = some b → k = 0 ∧ b = .arr E (rawE e) zs false := fun k b hb => by
      by_cases hk0 : k = 0
      · subst hk0; exact ⟨rfl, by cases hb; rfl⟩
      · rw [lkl_cons_ne (Ne.symm hk0)] at hb; cases hb
    refine ⟨m.ilt, fun k cs hb => ?_, fun k β T e2 ys2 d hb => ?_, fun j k b b' hjk hj hk' => ?_, fun k β T e2 ys2 hb => ?_, fun j k β γ T U e2 e3 ys2 zs2 hjk hj hk' => ?_⟩
    · have := (hlk _ _ hb).2; cases this
    · obtain ⟨rfl, h2⟩ := hlk _ _ hb
      cases h2
      refine ArrR.ofRow (e := rawE e) (f := fun r => rxC e r e.size 0) (cells := cells) (bs := b3) (by rw [hlen]; exact r1) q3 (fun b hb => i1 b (q4 b hb)) (fun h => by cases h) fun b hb => ?_
      refine ⟨ob1 b hb, ?_⟩
      rw [ob1 b hb]
      exact m.notI hk (fun e0 => by rw [e0] at hb; cases hb)
    · obtain ⟨rfl, _⟩ := hlk _ _ hj
      obtain ⟨rfl, _⟩ := hlk _ _ hk'
      exact absurd rfl hjk
    · have := (hlk _ _ hb).2; cases this
    · have := (hlk _ _ hj).2; cases this
  have ha1 : All2 (VR1 g [(0, some (.arr E (rawE e) zs false))] w) cargs.toList (.one (.own 0) :: rest) := by
    generalize cargs.toList = vs at ha
    cases vs with
    | nil => exact ha
    | cons v vs =>
      have hv : v = g.hd 0 := ha.1 _ _ _ _ _ hk
      refine ⟨fun β U e2 ys dd hcx => hv, ha.2.mono fun a b hb hr => VR1.step (fun _ _ => rfl) (fun _ h => h) (Nat.le_refl _) (fun k hk => ?_) hr⟩
      have : k ∈ rest.flatMap AVal.ids1 := List.mem_flatMap.2 ⟨b, hb, hk⟩
      rw [hrest] at this; cases this
  refine (hus.run g w cargs m1 ha1).mono ?_
  rintro r w' ⟨v, g1, rfl, m2, hv, hs⟩
  have hk2 : lkl [(1, some (Blk.arr E (rawE e) us false))] 1 = some (.arr E (rawE e) us false) := rfl
  obtain ⟨cells', b4, t1, t2, t3, _, t5⟩ := (m2.arr 1 _ _ _ _ _ hk2).row
  have t6 := raw_to (f := f) h0 t2
  rw [u1] at t6
  have hul : us.length = ys.length := by rw [← u1, List.length_map]
  obtain ⟨n1, n2⟩ := m.fr 0 _ _ _ _ hk
  rw [hF] at n1 n2
  have hin : ∀ b ∈ feet us, g.I b ∧ g1.I b ∧ ∃ c t, w'.heap[b]? = some (.cells c t (0, 0)) := fun b hb => by
    obtain ⟨p1, c, t, p2⟩ := n2 b (u3 b hb)
    exact ⟨p1, hs.imm b p1, c, t, by rw [m1.imm_keep hs p1]; exact p2⟩
  let g2 : Gh := ⟨g1.I, g1.ρ, g1.hd, fun _ => feet us⟩
  have hlk : ∀ k b, lkl [(1, some (Blk.arr E e ys true))] k = some b → k = 1 ∧ b = .arr E e ys true := fun k b hb => by
    by_cases hk0 : k = 1
    · subst hk0; exact ⟨rfl, by cases hb; rfl⟩
    · rw [lkl_cons_ne (Ne.symm hk0)] at hb; cases hb
  have m3 : MemR g2 [(1, some (.arr E e ys true))] w' := by
    refine ⟨m2.ilt, fun k cs hb => ?_, fun k β T e2 ys2 d hb => ?_, fun j k b b' hjk hj hk' => ?_, fun k β T e2 ys2 hb => ?_, fun j k β γ T U e2 e3 ys2 zs2 hjk hj hk' => ?_⟩
    · have := (hlk _ _ hb).2; cases this
    · obtain ⟨rfl, h2⟩ := hlk _ _ hb
      cases h2
      refine ArrR.ofRow (g := g2) (e := e) (f := f) (cells := cells') (bs := feet us) (by rw [← hul]; exact t1) t6 (fun b hb => (hin b hb).2.1) (fun _ => rfl) fun b hb => ?_
      refine ⟨t5 b hb, ?_⟩
      show ¬ g1.I b
      rw [t5 b hb]
      exact m2.notI hk2 (fun e0 => by
        have hb' : (g1.hd 1).ownBlock = some b := hb
        rw [e0] at hb'; cases hb')
    · obtain ⟨rfl, _⟩ := hlk _ _ hj
      obtain ⟨rfl, _⟩ := hlk _ _ hk'
      exact absurd rfl hjk
    · exact ⟨u2 n1, fun b hb => (hin b hb).2⟩
    · obtain ⟨rfl, _⟩ := hlk _ _ hj
      obtain ⟨rfl, _⟩ := hlk _ _ hk'
      exact absurd rfl hjk
  have hown : ∀ b, OwnB g [(0, some (.arr E (rawE e) zs false))] b → OwnB g [(0, some (.arr E e xs true))] b := fun b hb => by
    obtain ⟨k, blk, h1, h2⟩ := hb
    by_cases hk0 : k = 0
    · subst hk0
      cases h1
      rcases h2 with ⟨h2, h3⟩ | ⟨_, _, _, _, h2, _⟩
      · exact ⟨0, _, rfl, .inl ⟨h2, h3⟩⟩
      · cases h2
    · rw [lkl_cons_ne (Ne.symm hk0)] at h1; cases h1
  refine ⟨v, g2, rfl, m3, fun β U e2 ys2 dd hcx => ?_, ⟨hs.os, hs.tape, hs.output, hs.size, fun b hb hn => hs.keep b hb fun k blk h1 h2 => ?_, hs.imm, fun b hb => ?_, fun b hb => ?_, fun k hk => by cases hk⟩⟩
  · show v = g1.hd 1
    exact hv _ _ _ _ _ hk2
  · by_cases hk0 : k = 0
    · subst hk0
      cases h1
      exact hn 0 _ rfl h2
    · rw [lkl_cons_ne (Ne.symm hk0)] at h1; cases h1
  · rcases hs.imm' b hb with h1 | h1 | h1
    · exact .inl h1
    · exact .inr (.inl h1)
    · exact .inr (.inr (hown b h1))
  · obtain ⟨k, blk, h1, h2⟩ := hb
    obtain ⟨rfl, rfl⟩ := hlk _ _ h1
    rcases h2 with ⟨h2, h3⟩ | ⟨β, T, e2, xs2, h2, h3⟩
    · rcases hs.own b ⟨1, _, rfl, .inl ⟨h2, h3⟩⟩ with h4 | h4
      · exact .inl (hown b h4)
      · exact .inr h4
    · left
      exact ⟨0, _, rfl, .inr ⟨_, _, _, _, rfl, by rw [hF]; exact u3 b h3⟩⟩
end Go.Proofs.YtibhoanjglfaoaaGreat

/- Contracts told of the cells of a row, ars contracts of arrays of one's own. -/
namespace Go.Proofs.YtibhoanjglfaoaaGreat
open Go.RowKit
set_option linter.unusedVariables false

section
variable {g : Gh} {l : Locs} {w w' : World}
/-- A row of one's own made anew out of others, ars it is seen from numbers. -/
theorem row_lay (m : MemR g l w) {k k' : Nat} (hk' : lk l k' = none) (hki : k' ∉ l.ids) {js : List Nat} (hkj : k ∈ js) (hjs : ∀ j ∈ js, ∃ (α : Type) (T : TypeId) (e : Enc α) (xs : List α) (d : Bool), lkl l j = some (.arr T e xs d))
    {α : Type} {E : TypeId} {e : Enc α} {f : α → List Cell} [hc : CellsOf e f] {zs : List α} {d : Bool} {cells : List Value} {b3 : List Nat} {v' : Value}
    (hF : FR w cells (zs.flatMap f) b3) (hI : ∀ b ∈ b3, g.I b) (hob : ∀ b, (g.hd k).ownBlock = some b → b = g.ρ k)
    (hrow : w'.ownsRow 0 E e.size v' zs.length cells) (hgr : w.grownBy w' (g.hd k).ownBlock) (hblk : ∀ b, v'.ownBlock = some b → (g.hd k).ownBlock = some b ∨ w.heap.size ≤ b)
    (hd : d = true → b3.Nodup ∧ ∀ b ∈ b3, ∃ j ∈ js, Via g l j b) :
    ∃ g', g'.hd k' = v' ∧ MemR g' ((k', some (.arr E e zs d)) :: (gones js ++ l)) w' ∧ (∀ K, Step K g l w g' ((k', some (.arr E e zs d)) :: (gones js ++ l)) w') := by
  obtain ⟨α0, T0, e0, xs0, d0, hk0⟩ := hjs k hkj
  have hlive : ∀ b, (g.hd k).ownBlock = some b → g.hd k ≠ .slice none 0 0 := fun b hb e => by rw [e] at hb; cases hb
  have hnI : ∀ b, (g.hd k).ownBlock = some b → ¬ g.I b := fun b hb => by rw [hob b hb]; exact m.notI hk0 (hlive b hb)
  have hkeepI : ∀ b, g.I b → w'.heap[b]? = w.heap[b]? := fun b hb => hgr.block b (m.ilt b hb) fun e => hnI b e.symm hb
  have hFR := hF.keep (w' := w') (fun b hb => hkeepI b (hI b hb)) hgr.size
  have hIb : ∀ b, v'.ownBlock = some b → ¬ (g.I b ∨ liveA g [] b) := fun b hb h => by
    rcases h with h | ⟨j, hj, _⟩
    · rcases hblk b hb with h1 | h1
      · exact hnI b h1 h
      · have := m.ilt b h; omega
    · cases hj
  obtain ⟨g', q1, q2, q3, q4, q5, q6, q7⟩ := arr_new (w' := w') m hk' hki (js := js) (fz := []) (fun _ h => by cases h) hjs (T := E) (e := e) (xs := zs) (d := d) (blk := (v'.ownBlock).getD 0) (v := v') (fp := b3)
    hgr.os hgr.tape hgr.output hgr.size (fun b hb hn => hgr.block b hb fun e => hn k hkj (by simp) (hlive b e.symm) (hob b e.symm))
    (ArrR.lay hrow hFR (fun b hb => .inl (hI b hb)) (fun b hb => ⟨by rw [hb]; rfl, hIb b hb⟩))
    (fun hv => by
      rcases hrow.2 with ⟨h1, _⟩ | ⟨b, cap, cur, h1, _, h3, _⟩
      · exact absurd h1 hv
      · have hb : v'.ownBlock = some b := by rw [h1]; rfl
        rw [hb]
        refine ⟨(Array.getElem?_eq_some_iff.1 h3).1, ?_⟩
        rcases hblk b hb with h | h
        · exact .inr ⟨k, hkj, by simp, hlive b h, hob b h⟩
        · exact .inl h)
    (fun hdd => ⟨(hd hdd).1, fun b hb => ⟨.inl (hI b hb), by
      obtain ⟨j, hj, hv⟩ := (hd hdd).2 b hb
      obtain ⟨c, t, h⟩ := hv.cells m
      exact ⟨c, t, by rw [hkeepI b (hI b hb)]; exact h⟩, (hd hdd).2 b hb⟩⟩)
  exact ⟨g', q2, q3, q4⟩
end
/-- Only the last-made array is left. -/
theorem MemR.last {g : Gh} {l : Locs} {w : World} {k : Nat} {b : Blk} (m : MemR g ((k, some b) :: l) w) : MemR g [(k, some b)] w := by
  have hlk : ∀ j c, lkl [(k, some b)] j = some c → lkl ((k, some b) :: l) j = some c := fun j c hc => by
    by_cases h : k = j
    · subst h; rw [lkl_cons_self] at hc ⊢; exact hc
    · rw [lkl_cons_ne h] at hc; cases hc
  refine ⟨m.ilt, fun j cs hc => ?_, fun j β T e2 ys2 d hc => m.arr j _ _ _ _ _ (hlk _ _ hc), fun i j b1 b2 hij h1 h2 => m.dis i j _ _ hij (hlk _ _ h1) (hlk _ _ h2), fun j β T e2 ys2 hc => m.fr j _ _ _ _ (hlk _ _ hc), fun i j β γ T U e2 e3 y2 z2 hij h1 h2 => m.fd i j _ _ _ _ _ _ _ _ hij (hlk _ _ h1) (hlk _ _ h2)⟩
  obtain ⟨vs, t, h1, h2, h3⟩ := m.box j cs (hlk _ _ hc)
  refine ⟨vs, t, h1, h2.mono fun a c hcm hr => ?_, h3⟩
  exact CellR.step (fun _ _ => rfl) (fun _ h => h) (Nat.le_refl _) (fun i _ => ⟨fun cs' h => ⟨rfl, cs', hlk _ _ h⟩, fun β T e2 xs d h => ⟨β, T, e2, xs, d, hlk _ _ h, rfl, rfl, rfl⟩⟩) hr
theorem Step.last {g g' : Gh} {l0 l : Locs} {w w' : World} {k : Nat} {b : Blk} (h : Step [] g l0 w g' ((k, some b) :: l) w') : Step [] g l0 w g' [(k, some b)] w' :=
  ⟨h.os, h.tape, h.output, h.size, h.keep, h.imm, h.imm', (fun c hc => by
    obtain ⟨j, blk, h1, h2⟩ := hc
    refine h.own c ⟨j, blk, ?_, h2⟩
    by_cases e : k = j
    · subst e; rw [lkl_cons_self] at h1 ⊢; exact h1
    · rw [lkl_cons_ne e] at h1; exact absurd h1 (by simp [lkl, lk])), fun k hk => by cases hk⟩
/-- .. of two rows: the second lies apart. -/
theorem AT.row2 {P : Program} {fid : FuncId} {rest : List AVal} {α : Type} {e : Enc α} {f : α → List Cell} [hc : CellsOf e f] {E : TypeId} {xs zs ys : List α} {d : Bool} (hfn : Callable P fid)
    (h : ∀ (w : World) (v u : Value) (vs : List Value) (cells news : List Value) (bs b2 : List Nat), All2 (fun v x => x = AVal.one (.c v)) vs rest → w.ownsRow 0 E e.size v xs.length cells → w.ownsRow 0 E e.size u zs.length news → FR w cells (xs.flatMap f) bs → FR w news (zs.flatMap f) b2 → (∀ u ∈ cells ++ news, u.oneCell' = true) →
      (∀ b, u.ownBlock = some b → v.ownBlock ≠ some b) →
      Calls P fid ((v :: vs) ++ [u]).toArray w fun en w' => ∃ v' cells', en = .returned v' ∧ w'.ownsRow 0 E e.size v' ys.length cells' ∧ w.grownBy w' v.ownBlock ∧ (∀ b, v'.ownBlock = some b → v.ownBlock = some b ∨ w.heap.size ≤ b) ∧
        ∃ bs', FR w cells' (ys.flatMap f) bs' ∧ ((bs ++ b2).Nodup → bs'.Nodup) ∧ ∀ b ∈ bs', b ∈ bs ++ b2)
    (hrest : ∀ x ∈ rest, ∃ v, x = AVal.one (.c v)) :
    AT P fid ((.one (.own 0) :: rest) ++ [.one (.own 2)]) [(0, some (.arr E e xs d)), (2, some (.arr E e zs d))] (.one (.own 1)) [(1, some (.arr E e ys d))] := by
  refine ⟨hfn, fun g w cargs m ha => ?_⟩
  have hk : lkl [(0, some (Blk.arr E e xs d)), (2, some (Blk.arr E e zs d))] 0 = some (.arr E e xs d) := rfl
  have hk2 : lkl [(0, some (Blk.arr E e xs d)), (2, some (Blk.arr E e zs d))] 2 = some (.arr E e zs d) := rfl
  obtain ⟨cells, bs, r1, f1, i1, F1, ob1⟩ := (m.arr 0 _ _ _ _ _ hk).row
  obtain ⟨news, b2, r2, f2, i2, F2, ob2⟩ := (m.arr 2 _ _ _ _ _ hk2).row
  have : ∃ v vs u, cargs = ((v :: vs) ++ [u]).toArray ∧ All2 (VR1 g [(0, some (Blk.arr E e xs d)), (2, some (Blk.arr E e zs d))] w) vs rest ∧ v = g.hd 0 ∧ u = g.hd 2 := by
    obtain ⟨l1, l2, h1, h2, h3⟩ := All2.split ha
    cases l1 with
    | nil => exact h2.elim
    | cons v vs =>
      cases l2 with
      | nil => exact h3.elim
      | cons u us =>
        cases us with
        | cons _ _ => exact h3.2.elim
        | nil => exact ⟨v, vs, u, by have q := congrArg List.toArray h1; simpa using q, h2.2, h2.1 _ _ _ _ _ hk, h3.1 _ _ _ _ _ hk2⟩
  obtain ⟨v, vs, u, rfl, ha2, rfl, rfl⟩ := this
  have hvs : All2 (fun v x => x = AVal.one (.c v)) vs rest := ha2.mono fun a x hx hr => by
    obtain ⟨y, rfl⟩ := hrest x hx
    have := (hr : CellR g _ w a (.c y)).1
    rw [this]
  have hlive : ∀ k b, (g.hd k).ownBlock = some b → g.hd k ≠ .slice none 0 0 := fun k b hb e => by rw [e] at hb; cases hb
  refine (h w _ _ vs cells news bs b2 hvs r1 r2 f1 f2 (fun u hu => (List.mem_append.1 hu).elim (FR.one f1 u) (FR.one f2 u)) (fun b hb e0 => ?_)).mono ?_
  · have q1 := ob1 b e0
    have q2 := ob2 b hb
    exact m.dis 0 2 _ _ (by decide) hk hk2 (hlive 0 b e0) (hlive 2 b hb) (q1.symm.trans q2)
  · rintro en w' ⟨v', cells', rfl, t1, t2, t3, bs', t4, t5, t6⟩
    obtain ⟨g', s1, s2, s3⟩ := row_lay (w' := w') m (k := 0) (k' := 1) rfl (by simp [Locs.ids]) (js := [0, 2]) (by simp) (fun j hj => by
        simp at hj
        rcases hj with rfl | rfl
        · exact ⟨α, E, e, xs, d, hk⟩
        · exact ⟨α, E, e, zs, d, hk2⟩) (zs := ys) (d := d) t4 (fun b hb => (List.mem_append.1 (t6 b hb)).elim (i1 b) (i2 b)) ob1 t1 t2 t3 (fun hd => by
      subst hd
      have v1 : ∀ b ∈ bs, Via g _ 0 b := fun b hb => ⟨α, E, e, xs, hk, .inr (by rw [F1 rfl]; exact hb)⟩
      have v2 : ∀ b ∈ b2, Via g _ 2 b := fun b hb => ⟨α, E, e, zs, hk2, .inr (by rw [F2 rfl]; exact hb)⟩
      refine ⟨t5 (List.nodup_append.2 ⟨by rw [← F1 rfl]; exact (m.fr 0 _ _ _ _ hk).1, by rw [← F2 rfl]; exact (m.fr 2 _ _ _ _ hk2).1, fun x hx y hy exy => ?_⟩), fun b hb => ?_⟩
      · subst exy
        have := (v1 x hx).disj m (v2 x hy)
        cases this
      · rcases List.mem_append.1 (t6 b hb) with hb | hb
        · exact ⟨0, by simp, v1 b hb⟩
        · exact ⟨2, by simp, v2 b hb⟩)
    exact ⟨v', g', rfl, s2.last, fun β U e2 ys2 dd hcx => s1.symm, (s3 []).last⟩
/-- .. under numbers of the caller's. -/
theorem AT.lend2 {P : Program} {f : FuncId} {rest : List AVal} {α : Type} {T : TypeId} {e : Enc α} {xs zs ys : List α} {d : Bool}
    (h : AT P f ((.one (.own 0) :: rest) ++ [.one (.own 2)]) [(0, some (.arr T e xs d)), (2, some (.arr T e zs d))] (.one (.own 1)) [(1, some (.arr T e ys d))]) (a b c : Nat) (hac : Nat.beq a c = false) (hbc : Nat.beq b c = false) (hab : Nat.beq a b = false) (hrest : ∀ r, rest.map (AVal.ren1 r) = rest) :
    AC P f ((.one (.own a) :: rest) ++ [.one (.own b)]) [(a, some (.arr T e xs d)), (b, some (.arr T e zs d))] (.one (.own c)) [(a, none), (b, none), (c, some (.arr T e ys d))] := by
  have key : ∀ {p q : Nat}, Nat.beq p q = false → Nat.beq q p = false := fun {p q} h => by
    cases e : Nat.beq q p
    · rfl
    · have h1 := Nat.eq_of_beq_eq_true e
      subst h1
      rw [Nat.beq_refl] at h; cases h
  have hcc : Nat.beq c c = true := Nat.beq_refl c
  have haa : Nat.beq a a = true := Nat.beq_refl a
  have hca := key hac
  have hcb := key hbc
  have hba := key hab
  let r1 : Nat → Nat := fun k => bif Nat.beq k 0 then a else b
  let s1 : Nat → Nat := fun k => bif Nat.beq k c then 1 else bif Nat.beq k a then 0 else 2
  have z20 : Nat.beq 2 0 = false := rfl
  have z10 : Nat.beq 1 0 = false := rfl
  have z12 : Nat.beq 1 2 = false := rfl
  have sc : s1 c = 1 := by show (bif Nat.beq c c then 1 else _) = 1; rw [hcc]; rfl
  have sa : s1 a = 0 := by show (bif Nat.beq a c then 1 else bif Nat.beq a a then 0 else 2) = 0; rw [hac, haa]; rfl
  have sb : s1 b = 2 := by show (bif Nat.beq b c then 1 else bif Nat.beq b a then 0 else 2) = 2; rw [hbc, hba]; rfl
  have := AT.lend (P := P) (f := f) (args := (.one (.own 0) :: rest) ++ [.one (.own 2)]) (res' := .one (.own c)) (l := [(a, some (.arr T e xs d)), (b, some (.arr T e zs d))]) (l' := [(a, none), (b, none), (c, some (.arr T e ys d))]) r1 s1 (L := [(0, some (.arr T e xs d)), (2, some (.arr T e zs d))]) (L' := [(1, some (.arr T e ys d))])
    (by show AT P f _ _ (.one (.own (s1 c))) _; rw [sc]; exact h)
    ⟨⟨.arr T e xs d, by show lkl _ a = _; rw [lkl_cons_self], BLe.rf⟩, ⟨.arr T e zs d, by show lkl _ b = _; rw [lkl_cons_ne (fun q => by subst q; rw [haa] at hab; cases hab), lkl_cons_self], BLe.rf⟩, trivial⟩ (by simp [injL, keys, r1, hba, z20])
    ⟨⟨_, by rw [sc]; rfl, BLe.rf⟩, trivial⟩ (by
      simp [injL, keys, sa, sb, sc, z20, z10, z12]) (fun k hk => by
      simp [keys] at hk
      rcases hk with rfl | rfl
      · rw [lk_cons_self]
      · rw [lk_cons_ne (fun q => by subst q; rw [haa] at hab; cases hab), lk_cons_self]) (fun k cs hc => by
        by_cases q : a = k
        · subst q; rw [lkl_cons_self] at hc; cases hc
        · rw [lkl_cons_ne q] at hc
          by_cases q : b = k
          · subst q; rw [lkl_cons_self] at hc; cases hc
          · rw [lkl_cons_ne q] at hc; cases hc)
  rw [List.map_append, List.map_cons, hrest] at this
  exact this
/-! ### Elements of some cells, copied and cleared -/
theorem run_copy_rowK {P : Program} (w : World) (dT sT ty elem : TypeId) (k g o dLen dCap : Nat) (a : Addr) (sLen sCap : Nat) (cur : Array Value) (t : TypeId) (cs : List Value)
    (hu : P.underlying dT = some (.slice elem)) (hs : (P.info? elem).map (·.size) = some k)
    (hg : w.heap[g]? = some (.cells cur t (0, 0))) (hn : cs.length = Nat.min sLen dLen * k)
    (hsrc : ∀ j v, cs[j]? = some v → w.cell? (a.add j) = some v) (hfit : o + cs.length ≤ cur.size) (h1 : ∀ v ∈ cs, v.oneCell' = true) :
    (Builtin.copy_ #[dT, sT] ty #[.slice (some ⟨g, o, none⟩) dLen dCap, .slice (some a) sLen sCap]).run P w =
      .ok (goInt (Nat.min sLen dLen)) (w.setRow g (cur.toList.take o ++ cs ++ cur.toList.drop (o + cs.length)).toArray) := by
  have hl := run_loadCells_list (P := P) w a cs hsrc
  have hst := run_storeCells_at P g o t cs 0 cur w hg (by simpa using hfit) h1
  cases hq : P.info? elem with
  | none => simp [hq] at hs
  | some i =>
    have hi : i.size = k := by simpa [hq] using hs
    simp [Builtin.copy_, run_underlying hu, Builtin.lenOf, Builtin.firstCells, sizeOf, typeInfo, hq, hi, ← hn, hl, hst]
theorem insRow {A C N : List Value} {x y z : Nat} (hx : x ≤ C.length) (hy : y = x + N.length) (hz : z = C.length + N.length) (hA : A.take C.length = C) (hlen : z ≤ A.length) :
    ((A.take y ++ C.drop x ++ A.drop z).take x ++ N ++ (A.take y ++ C.drop x ++ A.drop z).drop (x + N.length)) = C.take x ++ N ++ C.drop x ++ A.drop z := by
  subst hy; subst hz
  have e1 : (A.take (x + N.length) ++ C.drop x ++ A.drop (C.length + N.length)).take x = C.take x := by
    have e0 : C.take x = A.take x := by
      conv => lhs; rw [← hA]
      rw [List.take_take, Nat.min_eq_left hx]
    rw [List.append_assoc, List.take_append_of_le_length (by simp; omega), List.take_take, Nat.min_eq_left (by omega), e0]
  have e2 : (A.take (x + N.length) ++ C.drop x ++ A.drop (C.length + N.length)).drop (x + N.length) = C.drop x ++ A.drop (C.length + N.length) := by
    rw [List.append_assoc, List.drop_left' (by simp; omega)]
  rw [e1, e2, List.append_assoc, List.append_assoc, List.append_assoc]
theorem FR.flatLen {α : Type} {e : Enc α} {f : α → List Cell} [hc : CellsOf e f] {w : World} : ∀ {xs : List α} {vs : List Value} {b : List Nat}, FR w vs (xs.flatMap f) b → vs.length = xs.length * e.size
  | [], [], b, h => by simp
  | [], _ :: _, b, h => h.elim
  | x :: xs, vs, b, h => by
    rw [List.flatMap_cons] at h
    obtain ⟨v1, v2, b1, b2, rfl, rfl, h1, h2⟩ := FR.app.1 h
    have l1 := e.len (hc.iff.2 h1)
    have l2 := FR.flatLen (e := e) h2
    rw [List.length_append, l1, l2, List.length_cons, Nat.add_mul]; omega
theorem FR.parts {α : Type} {e : Enc α} {f : α → List Cell} [hc : CellsOf e f] {w : World} {xs : List α} {cells : List Value} {bs : List Nat} (h : FR w cells (xs.flatMap f) bs) {i : Nat} (hi : i ≤ xs.length) :
    ∃ b1 b3, bs = b1 ++ b3 ∧ FR w (cells.take (i * e.size)) ((xs.take i).flatMap f) b1 ∧ FR w (cells.drop (i * e.size)) ((xs.drop i).flatMap f) b3 := by
  have e0 : xs.flatMap f = (xs.take i).flatMap f ++ (xs.drop i).flatMap f := by rw [← List.flatMap_append, List.take_append_drop]
  rw [e0] at h
  obtain ⟨v1, v2, b1, b3, rfl, rfl, h1, h2⟩ := FR.app.1 h
  have l1 := FR.flatLen (e := e) h1
  rw [List.length_take, Nat.min_eq_left hi] at l1
  exact ⟨b1, b3, rfl, by rw [List.take_left' l1]; exact h1, by rw [List.drop_left' l1]; exact h2⟩
theorem FR.ins {α : Type} {e : Enc α} {f : α → List Cell} [hc : CellsOf e f] {w : World} {xs zs : List α} {cells news : List Value} {bs b2 : List Nat} (h : FR w cells (xs.flatMap f) bs) (h2 : FR w news (zs.flatMap f) b2) {i : Nat} (hi : i ≤ xs.length) :
    ∃ bs', FR w (cells.take (i * e.size) ++ news ++ cells.drop (i * e.size)) ((xs.take i ++ zs ++ xs.drop i).flatMap f) bs' ∧ ((bs ++ b2).Nodup → bs'.Nodup) ∧ ∀ b ∈ bs', b ∈ bs ++ b2 := by
  obtain ⟨b1, b3, rfl, q1, q3⟩ := FR.parts (e := e) h hi
  refine ⟨b1 ++ b2 ++ b3, ?_, fun hn => ?_, fun b hb => ?_⟩
  · rw [List.flatMap_append, List.flatMap_append]
    exact FR.app.2 ⟨_, _, _, _, rfl, rfl, FR.app.2 ⟨_, _, _, _, rfl, rfl, q1, h2⟩, q3⟩
  · have hp : (b1 ++ b3 ++ b2).Perm (b1 ++ b2 ++ b3) := by
      rw [List.append_assoc, List.append_assoc]
      exact List.Perm.append_left b1 List.perm_append_comm
    exact hp.nodup_iff.1 hn
  · simp only [List.mem_append] at hb ⊢
    rcases hb with (hb | hb) | hb <;> simp [hb]
end Go.Proofs.YtibhoanjglfaoaaGreat

/- Results that nobody writes any more; arrays whose elements are shared; appending and clearing in regions. -/
namespace Go.Proofs.YtibhoanjglfaoaaGreat
open Go.RowKit
set_option linter.unusedVariables false

/-! ### An array's elements are no longer its own alone -/
section
variable {g : Gh} {l : Locs} {w : World}
theorem shallow_mem (m : MemR g l w) {k : Nat} {α : Type} {T : TypeId} {e : Enc α} {xs : List α} {dp : Bool} (hk : lkl l k = some (.arr T e xs dp)) :
    MemR g ((k, some (.arr T e xs false)) :: l) w ∧ (∀ K, Step K g l w g ((k, some (.arr T e xs false)) :: l) w) ∧ ∀ j, okK g l g ((k, some (.arr T e xs false)) :: l) j := by
  have ok : ∀ j, okK g l g ((k, some (.arr T e xs false)) :: l) j := fun j => by
    by_cases q : k = j
    · subst q
      exact ⟨fun cs h => (by rw [lkl_cons_self] at h; cases h), fun β U e2 ys d h => by rw [lkl_cons_self] at h; cases h; exact ⟨_, _, _, _, _, hk, rfl, rfl, rfl⟩⟩
    · exact okK.same (lkl_cons_ne q) rfl rfl
  have back : ∀ j b, lkl ((k, some (Blk.arr T e xs false)) :: l) j = some b → ∃ b', lkl l j = some b' ∧ (liv g j b ↔ liv g j b') ∧ (∀ (β : Type) (U : TypeId) (e2 : Enc β) (ys : List β), b = .arr U e2 ys true → b' = .arr U e2 ys true) := fun j b h => by
    by_cases q : k = j
    · subst q
      rw [lkl_cons_self] at h; cases h
      exact ⟨_, hk, Iff.rfl, fun β U e2 ys h => by cases h⟩
    · rw [lkl_cons_ne q] at h
      exact ⟨b, h, Iff.rfl, fun _ _ _ _ h => h⟩
  refine ⟨⟨m.ilt, fun j cs h => ?_, fun j β U e2 ys d h => ?_, fun i j b b' hij h1 h2 l1 l2 => ?_, fun j β U e2 ys h => ?_, fun i j β γ U V e2 e3 ys zs hij h1 h2 => ?_⟩, fun K => ⟨rfl, rfl, rfl, Nat.le_refl _, fun _ _ _ => rfl, fun _ h => h, fun _ h => .inl h, fun b hb => ?_, fun j hj hn => ⟨?_, ok j, fun cs hc => ?_⟩⟩, ok⟩
  · by_cases q : k = j
    · subst q; rw [lkl_cons_self] at h; cases h
    · rw [lkl_cons_ne q] at h
      obtain ⟨vs, t, h1, h2, h3⟩ := m.box j cs h
      exact ⟨vs, t, h1, h2.mono fun a c _ hr => CellR.step (fun _ _ => rfl) (fun _ h => h) (Nat.le_refl _) (fun i _ => ok i) hr, h3⟩
  · by_cases q : k = j
    · subst q
      rw [lkl_cons_self] at h; cases h
      rcases m.arr k _ _ _ _ _ hk with ⟨h1, h2, _⟩ | ⟨cap, vs, bss, h1, h2, h3, h4, h5, h6, h7, h8, _⟩
      · exact .inl ⟨h1, h2, fun h => by cases h⟩
      · exact .inr ⟨cap, vs, bss, h1, h2, h3, h4, h5, h6, h7, h8, fun h => by cases h⟩
    · rw [lkl_cons_ne q] at h
      exact m.arr j _ _ _ _ _ h
  · obtain ⟨c, q1, q2, _⟩ := back i b h1
    obtain ⟨c', q3, q4, _⟩ := back j b' h2
    exact m.dis i j _ _ hij q1 q3 (q2.1 l1) (q4.1 l2)
  · obtain ⟨c, q1, _, q3⟩ := back j _ h
    rw [q3 _ _ _ _ rfl] at q1
    exact m.fr j _ _ _ _ q1
  · obtain ⟨c, q1, _, q3⟩ := back i _ h1
    obtain ⟨c', q4, _, q6⟩ := back j _ h2
    rw [q3 _ _ _ _ rfl] at q1
    rw [q6 _ _ _ _ rfl] at q4
    exact m.fd i j _ _ _ _ _ _ _ _ hij q1 q4
  · obtain ⟨j, blk, h1, h2⟩ := hb
    obtain ⟨c, q1, q2, q3⟩ := back j blk h1
    rcases h2 with ⟨h2, h3⟩ | ⟨β, U, e2, ys, h2, h3⟩
    · exact .inl ⟨j, c, q1, .inl ⟨q2.1 h2, h3⟩⟩
    · exact .inl ⟨j, c, q1, .inr ⟨β, U, e2, ys, q3 _ _ _ _ h2, h3⟩⟩
  · by_cases q : k = j
    · subst q; rw [lk_cons_self]; simp
    · rw [lk_cons_ne q]; exact hn
  · by_cases q : k = j
    · subst q; rw [hk] at hc; cases hc
    · exact ⟨cs, by rw [lkl_cons_ne q]; exact hc⟩
variable {P : Program} {N : Nat} {K : List Nat} {Kn : St → Prop} {Q : Exit → St → Prop} {s : St}
theorem AW_shallow {α : Type} {T : TypeId} {e : Enc α} {xs : List α} {dp : Bool} {c : Code} (k : Nat) (hk : lkl s.l k = some (.arr T e xs dp))
    (h : AW P N K c Kn Q ⟨s.t, (k, some (.arr T e xs false)) :: s.l⟩) : AW P N K c Kn Q s := fun g a w r => by
  obtain ⟨m1, st1, ok1⟩ := shallow_mem r.mem hk
  have r1 := r.next0 (g' := g) (l' := (k, some (.arr T e xs false)) :: s.l) (w' := w) (fun _ _ => rfl) (fun _ h => h) (Nat.le_refl _) (fun j _ => ok1 j) m1
  exact Go.wp_mono (h g a w r1) fun e a1 w1 h1 => h1.trans r.mem m1 (st1 K)
end

/-! ### A result that is given up to be read alone -/
section
variable {g g' : Gh} {w : World} {α : Type} {T : TypeId} {e : Enc α} {xs : List α} {d : Bool}
end
/-! ### append and clear, where their runs are known by equations -/
end Go.Proofs.YtibhoanjglfaoaaGreat

/- Rules for the draws' contracts: a cursor that is lent while an array is left, two results in variables. -/
namespace Go.Proofs.YtibhoanjglfaoaaGreat
open Go.RowKit
set_option linter.unusedVariables false

def rnC (j : Nat) : Nat := bif Nat.beq j 200 then 200 else 0
theorem rnC_k {k : Nat} (hk : Nat.beq k 200 = false) : rnC k = 0 := by unfold rnC; rw [hk]; rfl
theorem curB_ren (b : List Int) (c : Cur) (r : Nat → Nat) : (curB b c).ren r = curB b c := rfl
/-- The array that is left beside a cursor, under another number. -/
theorem AC.cur {P : Program} {f : FuncId} {args : List AVal} {bs : List Int} {c c' : Cur} {res res0 : AVal} {blk : Blk} (h : AC P f args [(200, some (curB bs c))] res0 [(200, some (curB bs c')), (0, some blk)]) (k : Nat) (hk : Nat.beq k 200 = false)
    (hres : ∀ r : Nat → Nat, r k = 0 → res.ren r = res0) (hbl : ∀ r : Nat → Nat, blk.ren r = blk) : AC P f args [(200, some (curB bs c))] res [(200, some (curB bs c')), (k, some blk)] := by
  have hL : LeL rnC [(200, some (curB bs c')), (0, some blk)] [(200, some (curB bs c')), (k, some blk)] :=
    ⟨⟨curB bs c', rfl, by rw [curB_ren]; exact BLe.rf⟩, ⟨blk, by rw [rnC_k hk]; rfl, by rw [hbl]; exact BLe.rf⟩, trivial⟩
  have hi : injL rnC (keys [(200, some (curB bs c')), (k, some blk)]) = true := by
    have h2 : rnC 200 = 200 := rfl
    simp [injL, keys, rnC_k hk, h2]
    exact .inr rfl
  have hK : LeK rnC [(200, some (curB bs c')), (0, some blk)] [(200, some (curB bs c')), (k, some blk)] (keys [(200, some (curB bs c))]) :=
    ⟨⟨rfl, .inl (by simp [lk]), fun cs _ => ⟨_, rfl⟩⟩, trivial⟩
  refine ⟨h.fn, fun g w cargs m ha => (h.run g w cargs m ha).mono ?_⟩
  rintro e w' ⟨v, g1, rfl, m1, hv, hs⟩
  exact ⟨v, g1.ren rnC, rfl, m1.unren hL hi, VR.unren hL (by rw [hres rnC (rnC_k hk)]; exact hv), hs.trans m m1 (Step.unren hL hK)⟩
theorem aggOwn {k : Nat} (r : Nat → Nat) (h : r k = 0) : (AVal.agg [.own k]).ren r = .agg [.own 0] := by
  show AVal.agg [.own (r k)] = _
  rw [h]
theorem aggRel {k : Nat} {n : Int} (r : Nat → Nat) (h : r k = 0) : (AVal.agg [.c (.int .i64 n), .own k]).ren r = .agg [.c (.int .i64 n), .own 0] := by
  show AVal.agg [.c (.int .i64 n), .own (r k)] = _
  rw [h]
/-- What a slot holds, said in other words. -/
theorem AW_slot {P : Program} {N : Nat} {K : List Nat} {c : Code} {Kn : St → Prop} {Q : Exit → St → Prop} {s : St} {t : Nat} {x y : AVal} (ht : lk s.t t = some x) (h : x = y) (hA : AW P N K c Kn Q ⟨(t, y) :: s.t, s.l⟩) : AW P N K c Kn Q s := fun g a w r =>
  hA g a w ⟨r.size, r.defers, fun k z hk => by
    by_cases e : t = k
    · subst e; rw [lk_cons_self] at hk; cases hk; exact r.tmp _ _ (h ▸ ht)
    · rw [lk_cons_ne e] at hk; exact r.tmp k z hk, r.mem⟩
theorem x_assign_any {P : Program} {N d : Nat} {s : St} {ty : TypeId} {pos : String} {after : Array Edge} {gd : Option (Nat × Bool)} {v : Value} (hN : Nat.blt d N = true) :
    Stp P N ⟨some d, .assign (.const v), ty, pos, after, gd⟩ s ⟨(d, .one .any) :: s.t, s.l⟩ ⟨[], [], [(d, .one .any)], [], []⟩ :=
  ⟨OpOK.pure rfl (blt_lt hN) fun g s a w ht hl r => ⟨a.eval (.const v), by simp [execOp], trivial⟩, ⟨by simp, by simp, by simp⟩, rfl⟩
section results
variable {P : Program} {f : FuncId} {fn : Func} {c : Code} {N : Nat} {args : List AVal} {L L' : Locs}
end results
theorem rem_wf {m n : Int} (h0 : 0 ≤ m) (h1 : m ≤ 4294967295) (hn : 0 < n) : (Lit.int .i64 (m.tmod n)).wf = true := by
  rw [Int.tmod_eq_emod_of_nonneg h0]
  have h2 := Int.emod_nonneg m (show n ≠ 0 by omega)
  have h3 : m % n ≤ m := by
    by_cases h : m < n
    · rw [Int.emod_eq_of_lt h0 h]; exact Int.le_refl _
    · have := Int.emod_lt_of_pos m hn; omega
  exact WalkArith.wf_i64 (by omega)
theorem getD_row {xs : List (List Val)} {k : Nat} (h : k < xs.length) : xs[k] = xs.getD k [] := by simp [List.getD, h]
theorem getD_txt {xs : List ByteArray} {k : Nat} (h : k < xs.length) : xs[k] = xs.getD k ⟨#[]⟩ := by simp [List.getD, h]
end Go.Proofs.YtibhoanjglfaoaaGreat

/- Numbers copied into a part of an own array; nil ars an array that is taken; numbers in memory are not too great. -/
namespace Go.Proofs.YtibhoanjglfaoaaGreat
open Go.RowKit
set_option linter.unusedVariables false
set_option linter.unusedSimpArgs false

section ops
variable {P : Program} {N : Nat} {s : St} {d : Nat} {ty : TypeId} {pos : String} {after : Array Edge} {gd : Option (Nat × Bool)}
end ops
/-- A contract that takes an array takes nil, too. -/
theorem AT.nil {P : Program} {f : FuncId} {rest : List AVal} {α β : Type} {T U : TypeId} {e : Enc α} {e' : Enc β} {ys : List β} {d' : Bool}
    (h : AT P f (.one (.own 0) :: rest) [(0, some (.arr T e [] true))] (.one (.own 1)) [(1, some (.arr U e' ys d'))]) (hrest : rest.flatMap AVal.ids1 = []) (c : Nat) :
    AC P f (.one (.c (.slice none 0 0)) :: rest) [] (.one (.own c)) [(c, some (.arr U e' ys d'))] := by
  refine ⟨h.fn, fun g w cargs m ha => ?_⟩
  obtain ⟨g', q1, q2, q3, q4, q5⟩ := nil_new m (k := 0) rfl (by simp [Locs.ids]) α T e
  have ha' : All2 (VR1 g' [(0, some (.arr (α := α) T e [] true))] w) cargs.toList (.one (.own 0) :: rest) := by
    generalize cargs.toList = vs at ha
    cases vs with
    | nil => exact ha
    | cons v vs =>
      refine ⟨fun β U e2 ys dd hc => by rw [q1]; exact ha.1.1, ha.2.mono fun a b hb hr => VR1.step (fun _ _ => rfl) q4 (Nat.le_refl _) (fun k hk => ?_) hr⟩
      have : k ∈ rest.flatMap AVal.ids1 := List.mem_flatMap.2 ⟨b, hb, hk⟩
      rw [hrest] at this; cases this
  refine (h.run g' w cargs q2 ha').mono ?_
  rintro r w' ⟨v, g1, rfl, m1, hv, hs⟩
  have hle : LeL (fun _ => 1) [(1, some (.arr U e' ys d'))] [(c, some (.arr U e' ys d'))] := ⟨⟨_, rfl, BLe.rf⟩, trivial⟩
  have T1 := ((q3 []).trans m q2 hs).trans m m1 (Step.unren hle trivial)
  exact ⟨v, g1.ren _, rfl, m1.unren hle (by simp [injL, keys]), VR.unren (x := .one (.own c)) hle hv, T1⟩
end Go.Proofs.YtibhoanjglfaoaaGreat

/- Smaller numbers of two; pointers that are not nil; bytes in memory are bytes. -/
namespace Go.Proofs.YtibhoanjglfaoaaGreat
open Go.RowKit
set_option linter.unusedVariables false
section ops
variable {P : Program} {N : Nat} {s : St} {d : Nat} {ty : TypeId} {pos : String} {after : Array Edge} {gd : Option (Nat × Bool)}
theorem x_nilc {x : Operand} {k off : Nat} {cs : List Cell} (hN : Nat.blt d N = true) (h : evo s.t x = some (.one (.ptr k off))) (hk : lkl s.l k = some (.box cs)) :
    Stp P N ⟨some d, .nilCheck x, ty, pos, after, gd⟩ s ⟨(d, .one (.ptr k off)) :: s.t, s.l⟩ ⟨rdo x (.one (.ptr k off)), [(k, .box cs)], [(d, .one (.ptr k off))], [], []⟩ :=
  Stp.pure rfl hN (rdo_of h) (by simpa using hk) fun g s' a w ht hl' r => by
    have hk' : lkl s'.l k = some (.box cs) := hl' (k, .box cs) (by simp)
    have hv : a.eval x = .pointer (some ⟨g.ρ k, off, none⟩) := (eval_ok r (evs_of h) ht : CellR g s'.l w _ (.ptr k off)) cs hk'
    exact ⟨_, by simp only [execOp, hv, Sem.run_pure], fun cs' hc => rfl⟩
end ops
theorem byte_wf {x : Int} (h : (Lit.int .u8 x).wf = true) : 0 ≤ x ∧ x ≤ 255 := by
  simp only [Lit.wf, Bool.and_eq_true, decide_eq_true_eq] at h
  exact h
theorem SliceRep.bytes {w : World} {a : Option Addr} {n cap : Nat} {xs : List Int} {bs : List Nat} (h : SliceRep (intE .u8) w a n cap xs bs) : ∀ x ∈ xs, 0 ≤ x ∧ x ≤ 255 := fun x hx => by
  obtain ⟨j, hj, rfl⟩ := List.getElem_of_mem hx
  obtain ⟨gb, o, cs, b, _, f1, _⟩ := h.get hj
  exact byte_wf f1.2.1
end Go.Proofs.YtibhoanjglfaoaaGreat

/- Draws (printed by walk.py) -/
namespace Go.Proofs.YtibhoanjglfaoaaGreat
open Go.RowKit
set_option linter.unusedVariables false
set_option linter.unusedSimpArgs false
set_option maxRecDepth 100000

set_option maxHeartbeats 4000000 in
theorem new_c (b : List Int) (hb : b.length ≤ 1048576) : AC Tryz.prog 62 [.one (.sl (intE .u8) b)] [] (.one (.ptr 200 0)) [(200, some (curB b (dNew b)))] := by
  refine AC_body1 Tryz.func62 rfl rfl Tryz.ntmps62 rfl Tryz.results62 ?_
  refine AW_seq ?_
  refine AW_region ?_
  refine AL_p (x_assign_any rfl) ?_
  refine AL_nil ?_
  refine AW_seq ?_
  refine AW_region ?_
  refine AL_p (x_move rfl rfl) ?_
  refine AL_p (x_len (E := 5) (n := 1) rfl rfl (by kernel_rfl)) ?_
  refine AL_p (x_add rfl rfl rfl (r := w64 (391785 + (b.length : Int))) rfl) ?_
  refine AL_p (x_assign rfl rfl) ?_
  refine AL_nil ?_
  refine AW_seq ?_
  refine AW_seq ?_
  refine AW_region ?_
  refine AL_p (x_assign rfl rfl) ?_
  refine AL_nil ?_
  refine AW_block ?_
  refine AW_loop2 (ι := {q : Nat // q ≤ min b.length 4000}) (fun p => [(3, .one (.c (.int .i64 (hashTo b (p.1))))), (4, .one (.c (.int .i64 (((p.1) : Int)))))]) (fun p => []) [0] [] (fun p => 4000 - (p.1)) ⟨0, by omega⟩ (rn []) ?_ ?_
  exact ⟨by (repeat refine ⟨⟨_, rfl, by first | exact VLe.rf | exact vle_int (by dsimp only; omega)⟩, ?_⟩); exact trivial, by (repeat refine ⟨⟨_, rfl, by first | exact BLe.rf | exact BLe.box AllC.rf | exact BLe.arr (by exact rfl)⟩, ?_⟩); exact trivial, by repeat (first | exact trivial | refine ⟨⟨rfl, by first | (left; intro h; cases h) | (right; rfl), by first | exact (fun _ h => ⟨_, h⟩) | exact (fun _ _ => ⟨_, rfl⟩) | (intro _ h; cases h)⟩, ?_⟩), rfl⟩
  rintro ⟨k, hinv⟩
  dsimp only
  have hk := hinv
  refine AW_seq ?_
  refine AW_seq ?_
  refine AW_region ?_
  refine AL_p (x_move rfl rfl) ?_
  refine AL_p (x_move rfl rfl) ?_
  refine AL_p (x_len (E := 5) (n := 1) rfl rfl (by kernel_rfl)) ?_
  refine AL_b (x_lss rfl rfl rfl) (fun b11 h11 => ?_)
  refine AL_p (x_move rfl rfl) ?_
  cases b11
  · try simp only [tdy] at h11
    obtain rfl : k = min b.length 4000 := by omega
    refine AL_o rfl rfl rfl rfl ?_
    refine AL_o rfl rfl rfl rfl ?_
    refine AL_p (x_pickF rfl rfl rfl) ?_
    refine AL_nil ?_
    refine AW_condF rfl ?_
    refine AW_exit (BQ_hit ?_)
    refine AW_seq ?_
    refine AW_region ?_
    refine AL_p (x_move rfl rfl) ?_
    refine AL_p (x_move rfl rfl) ?_
    refine AL_p (x_build (zs := [.slice none 0 0, .int .i64 0, .int .i64 0]) (places := [(0, 1), (1, 1), (2, 1)]) rfl (by kernel_rfl) rfl rfl rfl rfl rfl) ?_
    refine AL_p (x_box 200 rfl rfl rfl rfl rfl rfl rfl) ?_
    refine AL_p (x_assign rfl rfl) ?_
    refine AL_nil ?_
    refine AW_ret ?_
    exact ⟨rn [], ⟨⟨⟨_, rfl, VLe.rf⟩, trivial⟩, ⟨⟨_, rfl, ble_eq rfl⟩, trivial⟩, trivial, rfl⟩⟩
  try simp only [tdy] at h11
  refine AL_g rfl rfl (x_move rfl rfl) ?_
  refine AL_gb rfl rfl (x_lss rfl rfl rfl) (fun b14 h14 => ?_)
  refine AL_p (x_pickT rfl rfl rfl) ?_
  refine AL_nil ?_
  cases b14
  · try simp only [tdy] at h14
    obtain rfl : k = min b.length 4000 := by omega
    refine AW_condF rfl ?_
    refine AW_exit (BQ_hit ?_)
    refine AW_seq ?_
    refine AW_region ?_
    refine AL_p (x_move rfl rfl) ?_
    refine AL_p (x_move rfl rfl) ?_
    refine AL_p (x_build (zs := [.slice none 0 0, .int .i64 0, .int .i64 0]) (places := [(0, 1), (1, 1), (2, 1)]) rfl (by kernel_rfl) rfl rfl rfl rfl rfl) ?_
    refine AL_p (x_box 200 rfl rfl rfl rfl rfl rfl rfl) ?_
    refine AL_p (x_assign rfl rfl) ?_
    refine AL_nil ?_
    refine AW_ret ?_
    exact ⟨rn [], ⟨⟨⟨_, rfl, VLe.rf⟩, trivial⟩, ⟨⟨_, rfl, ble_eq rfl⟩, trivial⟩, trivial, rfl⟩⟩
  try simp only [tdy] at h14
  refine AW_condT rfl ?_
  refine AW_skip ?_
  refine AW_seq ?_
  refine AW_block ?_
  refine AW_region ?_
  refine AL_p (x_move rfl rfl) ?_
  refine AL_p (x_mul rfl rfl rfl (r := w64 (hashTo b k * 131)) rfl) ?_
  refine AL_p (x_move rfl rfl) ?_
  refine AL_p (x_move rfl rfl) ?_
  refine AL_p (x_index (E := 5) (n := 1) rfl rfl rfl (by kernel_rfl) rfl (k := k) rfl (by omega)) ?_
  refine AL_p (x_eload1 rfl rfl (by kernel_rfl) rfl) ?_
  refine AL_p (x_conv (k' := .i64) rfl rfl (by kernel_rfl) (r := w64 (b.getD k 0)) (congrArg w64 (getD_int (by omega)))) ?_
  refine AL_p (x_add rfl rfl rfl (r := w64 (w64 (hashTo b k * 131) + w64 (b.getD k 0))) rfl) ?_
  refine AL_p (x_add rfl rfl rfl (r := w64 (w64 (w64 (hashTo b k * 131) + w64 (b.getD k 0)) + 7)) rfl) ?_
  refine AL_p (x_and rfl rfl rfl ) ?_
  refine AL_p (x_assign rfl rfl) ?_
  refine AL_nil ?_
  refine AW_region ?_
  refine AL_p (x_move rfl rfl) ?_
  refine AL_p (x_add rfl rfl rfl (IntWalk.i64_in _ (by omega))) ?_
  refine AL_p (x_assign rfl rfl) ?_
  refine AL_nil ?_
  refine ⟨⟨k + 1, by omega⟩, rn [], ?_, by dsimp only; omega⟩
  exact ⟨by (repeat refine ⟨⟨_, rfl, by first | exact VLe.rf | exact vle_int (by dsimp only; omega)⟩, ?_⟩); exact trivial, by (repeat refine ⟨⟨_, rfl, by first | exact BLe.rf | exact BLe.box AllC.rf | exact BLe.arr (by exact rfl)⟩, ?_⟩); exact trivial, by repeat (first | exact trivial | refine ⟨⟨rfl, by first | (left; intro h; cases h) | (right; rfl), by first | exact (fun _ h => ⟨_, h⟩) | exact (fun _ _ => ⟨_, rfl⟩) | (intro _ h; cases h)⟩, ?_⟩), rfl⟩

set_option maxHeartbeats 4000000 in
theorem byte_c (b : List Int) (c : Cur) (hb : b.length ≤ 1048576) : AC Tryz.prog 110 [.one (.ptr 200 0)] [(200, some (curB b c))] (.one (.c (.int .i64 ((dByte b c).1)))) [(200, some (curB b (dByte b c).2))] := by
  refine AC_body1 Tryz.func110 rfl rfl Tryz.ntmps110 rfl Tryz.results110 ?_
  refine AW_seq ?_
  refine AW_region ?_
  refine AL_p (x_assign rfl rfl) ?_
  refine AL_nil ?_
  refine AW_seq ?_
  refine AW_region ?_
  refine AL_p (x_move rfl rfl) ?_
  refine AL_p (x_move rfl rfl) ?_
  refine AL_p (x_nilc rfl rfl rfl) ?_
  refine AL_p (x_field (off := 2) (o' := 2) rfl rfl rfl (by kernel_rfl) rfl) ?_
  refine AL_p (x_load1 rfl rfl rfl (by kernel_rfl) rfl) ?_
  refine AL_p (x_mul rfl rfl rfl (r := w64 (c.h * 6364136223846793005)) rfl) ?_
  refine AL_p (x_add rfl rfl rfl (r := nextH c.h) rfl) ?_
  refine AL_p (x_nilc rfl rfl rfl) ?_
  refine AL_p (x_field (off := 2) (o' := 2) rfl rfl rfl (by kernel_rfl) rfl) ?_
  refine AL_p (x_store (n := 1) rfl rfl rfl rfl (by kernel_rfl) rfl rfl rfl) ?_
  refine AL_nil ?_
  refine AW_seq ?_
  refine AW_draw rfl ?_
  refine AL_p (x_move rfl rfl) ?_
  refine AL_p (x_nilc rfl rfl rfl) ?_
  refine AL_p (x_field (off := 2) (o' := 2) rfl rfl rfl (by kernel_rfl) rfl) ?_
  refine AL_p (x_load1 rfl rfl rfl (by kernel_rfl) rfl) ?_
  refine AL_p (x_shr rfl rfl rfl (r := (nextH c.h).fdiv (2 ^ 33)) (by decide) rfl (shr_33 _)) ?_
  refine AL_p (x_move rfl rfl) ?_
  refine AL_p (x_nilc rfl rfl rfl) ?_
  refine AL_p (x_field (off := 2) (o' := 2) rfl rfl rfl (by kernel_rfl) rfl) ?_
  refine AL_p (x_load1 rfl rfl rfl (by kernel_rfl) rfl) ?_
  refine AL_p (x_shr rfl rfl rfl (r := (nextH c.h).fdiv (2 ^ 45)) (by decide) rfl (shr_45 _)) ?_
  refine AL_p (x_xor rfl rfl rfl ) ?_
  refine AL_p (x_and rfl rfl rfl ) ?_
  refine AL_p (x_assign rfl rfl) ?_
  refine AL_nild (by kernel_rfl) ?_
  refine AW_seq ?_
  refine AW_seq ?_
  refine AW_draw rfl ?_
  refine AL_p (x_move rfl rfl) ?_
  refine AL_p (x_nilc rfl rfl rfl) ?_
  refine AL_p (x_field (off := 1) (o' := 1) rfl rfl rfl (by kernel_rfl) rfl) ?_
  refine AL_p (x_load1 rfl rfl rfl (by kernel_rfl) rfl) ?_
  refine AL_p (x_move rfl rfl) ?_
  refine AL_p (x_nilc rfl rfl rfl) ?_
  refine AL_p (x_field (off := 0) (o' := 0) rfl rfl rfl (by kernel_rfl) rfl) ?_
  refine AL_p (x_load1 rfl rfl rfl (by kernel_rfl) rfl) ?_
  refine AL_p (x_len (E := 5) (n := 1) rfl rfl (by kernel_rfl)) ?_
  refine AL_b (x_lss rfl rfl rfl) (fun b34 h34 => ?_)
  refine AL_nild (by kernel_rfl) ?_
  cases b34
  · try simp only [tdy] at h34
    have hno := dByte_no (b := b) (c := c) (by omega)
    refine AW_condF rfl ?_
    refine AW_skip ?_
    refine AW_seq ?_
    refine AW_region ?_
    refine AL_p (x_move rfl rfl) ?_
    refine AL_p (x_assign rfl rfl) ?_
    refine AL_nil ?_
    refine AW_ret ?_
    exact ⟨rn [], ⟨⟨⟨_, rfl, vle_int (by rw [hno]; first | done | rfl)⟩, trivial⟩, ⟨⟨_, rfl, by first | exact BLe.rf | exact ble_eq (by rw [hno]; first | done | rfl)⟩, trivial⟩, by repeat (first | exact trivial | refine ⟨⟨rfl, by first | (left; intro h; cases h) | (right; rfl), by first | exact (fun _ h => ⟨_, h⟩) | exact (fun _ _ => ⟨_, rfl⟩) | (intro _ h; cases h)⟩, ?_⟩), rfl⟩⟩
  try simp only [tdy] at h34
  have hno := dByte_yes (b := b) (c := c) (by omega)
  refine AW_condT rfl ?_
  refine AW_seq ?_
  refine AW_draw rfl ?_
  refine AL_p (x_move rfl rfl) ?_
  refine AL_p (x_move rfl rfl) ?_
  refine AL_p (x_nilc rfl rfl rfl) ?_
  refine AL_p (x_field (off := 0) (o' := 0) rfl rfl rfl (by kernel_rfl) rfl) ?_
  refine AL_p (x_load1 rfl rfl rfl (by kernel_rfl) rfl) ?_
  refine AL_p (x_move rfl rfl) ?_
  refine AL_p (x_nilc rfl rfl rfl) ?_
  refine AL_p (x_field (off := 1) (o' := 1) rfl rfl rfl (by kernel_rfl) rfl) ?_
  refine AL_p (x_load1 rfl rfl rfl (by kernel_rfl) rfl) ?_
  refine AL_p (x_index (E := 5) (n := 1) rfl rfl rfl (by kernel_rfl) rfl (k := c.i) rfl (by omega)) ?_
  refine AL_p (x_eload1 rfl rfl (by kernel_rfl) rfl) ?_
  refine AL_p (x_conv (k' := .i64) rfl rfl (by kernel_rfl) (r := w64 (b.getD c.i 0)) (congrArg w64 (getD_int (by omega)))) ?_
  refine AL_p (x_add rfl rfl rfl (r := w64 (mixH (nextH c.h) + w64 (b.getD c.i 0))) rfl) ?_
  refine AL_p (x_and rfl rfl rfl ) ?_
  refine AL_p (x_assign rfl rfl) ?_
  refine AL_nild (by kernel_rfl) ?_
  refine AW_region ?_
  refine AL_p (x_move rfl rfl) ?_
  refine AL_p (x_move rfl rfl) ?_
  refine AL_p (x_nilc rfl rfl rfl) ?_
  refine AL_p (x_field (off := 1) (o' := 1) rfl rfl rfl (by kernel_rfl) rfl) ?_
  refine AL_p (x_load1 rfl rfl rfl (by kernel_rfl) rfl) ?_
  refine AL_p (x_add rfl rfl rfl (IntWalk.i64_in _ (by omega))) ?_
  refine AL_p (x_nilc rfl rfl rfl) ?_
  refine AL_p (x_field (off := 1) (o' := 1) rfl rfl rfl (by kernel_rfl) rfl) ?_
  refine AL_p (x_store (n := 1) rfl rfl rfl rfl (by kernel_rfl) rfl rfl rfl) ?_
  refine AL_nil ?_
  refine AW_seq ?_
  refine AW_region ?_
  refine AL_p (x_move rfl rfl) ?_
  refine AL_p (x_assign rfl rfl) ?_
  refine AL_nil ?_
  refine AW_ret ?_
  exact ⟨rn [], ⟨⟨⟨_, rfl, vle_int (by rw [hno]; first | done | rfl)⟩, trivial⟩, ⟨⟨_, rfl, by first | exact BLe.rf | exact ble_eq (by rw [hno]; first | done | rfl)⟩, trivial⟩, by repeat (first | exact trivial | refine ⟨⟨rfl, by first | (left; intro h; cases h) | (right; rfl), by first | exact (fun _ h => ⟨_, h⟩) | exact (fun _ _ => ⟨_, rfl⟩) | (intro _ h; cases h)⟩, ?_⟩), rfl⟩⟩

set_option maxHeartbeats 4000000 in
theorem below_c (b : List Int) (c : Cur) (hb : b.length ≤ 1048576) (n : Int) : AC Tryz.prog 66 [.one (.ptr 200 0), .one (.c (.int .i64 n))] [(200, some (curB b c))] (.one (.c (.int .i64 ((dBelow b c n).1)))) [(200, some (curB b (dBelow b c n).2))] := by
  refine AC_body1 Tryz.func66 rfl rfl Tryz.ntmps66 rfl Tryz.results66 ?_
  refine AW_seq ?_
  refine AW_region ?_
  refine AL_p (x_assign rfl rfl) ?_
  refine AL_nil ?_
  refine AW_seq ?_
  refine AW_seq ?_
  refine AW_region ?_
  refine AL_p (x_move rfl rfl) ?_
  refine AL_b (x_leq rfl rfl rfl) (fun b10 h10 => ?_)
  refine AL_nil ?_
  cases b10
  rotate_left
  · try simp only [tdy] at h10
    have hno := dBelow_0 (b := b) (c := c) (n := n) (by omega)
    refine AW_condT rfl ?_
    refine AW_seq ?_
    refine AW_region ?_
    refine AL_p (x_assign rfl rfl) ?_
    refine AL_nil ?_
    refine AW_ret ?_
    exact ⟨rn [], ⟨⟨⟨_, rfl, vle_int (by rw [hno]; first | done | rfl)⟩, trivial⟩, ⟨⟨_, rfl, by first | exact BLe.rf | exact ble_eq (by rw [hno]; first | done | rfl)⟩, trivial⟩, by repeat (first | exact trivial | refine ⟨⟨rfl, by first | (left; intro h; cases h) | (right; rfl), by first | exact (fun _ h => ⟨_, h⟩) | exact (fun _ _ => ⟨_, rfl⟩) | (intro _ h; cases h)⟩, ?_⟩), rfl⟩⟩
  try simp only [tdy] at h10
  refine AW_condF rfl ?_
  refine AW_skip ?_
  refine AW_seq ?_
  refine AW_seq ?_
  refine AW_region ?_
  refine AL_p (x_move rfl rfl) ?_
  refine AL_b (x_leq rfl rfl rfl) (fun b12 h12 => ?_)
  refine AL_nil ?_
  cases b12
  rotate_left
  · try simp only [tdy] at h12
    have hno := dBelow_1 (b := b) (c := c) (n := n) (by omega) (by omega)
    have hd1 := dByte_in b c
    refine AW_condT rfl ?_
    refine AW_seq ?_
    refine AW_region ?_
    refine AL_p (x_move rfl rfl) ?_
    refine AL_p (x_call (ks := []) (L := [(200, some _)]) (L' := [(200, some _)]) rfl rfl rfl (byte_c b c hb) rfl AllV.rf (caught_of rfl) rfl rfl rfl ⟨rfl, trivial⟩ rfl) ?_
    refine AL_p (x_move rfl rfl) ?_
    refine AL_p (x_rem rfl rfl rfl (by omega) rfl (rem_wf hd1.1 (by omega) (by omega))) ?_
    refine AL_p (x_assign rfl rfl) ?_
    refine AL_nil ?_
    refine AW_ret ?_
    exact ⟨rn [], ⟨⟨⟨_, rfl, vle_int (by rw [hno]; first | done | rfl)⟩, trivial⟩, ⟨⟨_, rfl, by first | exact BLe.rf | exact ble_eq (by rw [hno]; first | done | rfl)⟩, trivial⟩, by repeat (first | exact trivial | refine ⟨⟨rfl, by first | (left; intro h; cases h) | (right; rfl), by first | exact (fun _ h => ⟨_, h⟩) | exact (fun _ _ => ⟨_, rfl⟩) | (intro _ h; cases h)⟩, ?_⟩), rfl⟩⟩
  try simp only [tdy] at h12
  have hno := dBelow_2 (b := b) (c := c) (n := n) (by omega) (by omega)
  have hd2 := dFour_in b c
  have g1 := dByte_in b c
  have g2 := dByte_in b (dByte b c).2
  have g3 := dByte_in b (dByte b (dByte b c).2).2
  have g4 := dByte_in b (dByte b (dByte b (dByte b c).2).2).2
  refine AW_condF rfl ?_
  refine AW_skip ?_
  refine AW_seq ?_
  refine AW_region ?_
  refine AL_p (x_move rfl rfl) ?_
  refine AL_p (x_call (ks := []) (L := [(200, some _)]) (L' := [(200, some _)]) rfl rfl rfl (byte_c b c hb) rfl AllV.rf (caught_of rfl) rfl rfl rfl ⟨rfl, trivial⟩ rfl) ?_
  refine AL_p (x_assign rfl rfl) ?_
  refine AL_nil ?_
  refine AW_seq ?_
  refine AW_region ?_
  refine AL_p (x_move rfl rfl) ?_
  refine AL_p (x_call (ks := []) (L := [(200, some _)]) (L' := [(200, some _)]) rfl rfl rfl (byte_c b (dByte b c).2 hb) rfl AllV.rf (caught_of rfl) rfl rfl rfl ⟨rfl, trivial⟩ rfl) ?_
  refine AL_p (x_assign rfl rfl) ?_
  refine AL_nil ?_
  refine AW_seq ?_
  refine AW_region ?_
  refine AL_p (x_move rfl rfl) ?_
  refine AL_p (x_call (ks := []) (L := [(200, some _)]) (L' := [(200, some _)]) rfl rfl rfl (byte_c b (dByte b (dByte b c).2).2 hb) rfl AllV.rf (caught_of rfl) rfl rfl rfl ⟨rfl, trivial⟩ rfl) ?_
  refine AL_p (x_assign rfl rfl) ?_
  refine AL_nil ?_
  refine AW_seq ?_
  refine AW_region ?_
  refine AL_p (x_move rfl rfl) ?_
  refine AL_p (x_call (ks := []) (L := [(200, some _)]) (L' := [(200, some _)]) rfl rfl rfl (byte_c b (dByte b (dByte b (dByte b c).2).2).2 hb) rfl AllV.rf (caught_of rfl) rfl rfl rfl ⟨rfl, trivial⟩ rfl) ?_
  refine AL_p (x_assign rfl rfl) ?_
  refine AL_nil ?_
  refine AW_seq ?_
  refine AW_region ?_
  refine AL_p (x_move rfl rfl) ?_
  refine AL_p (x_mul rfl rfl rfl (IntWalk.i64_in _ (by omega))) ?_
  refine AL_p (x_move rfl rfl) ?_
  refine AL_p (x_mul rfl rfl rfl (IntWalk.i64_in _ (by omega))) ?_
  refine AL_p (x_add rfl rfl rfl (IntWalk.i64_in _ (by omega))) ?_
  refine AL_p (x_move rfl rfl) ?_
  refine AL_p (x_mul rfl rfl rfl (IntWalk.i64_in _ (by omega))) ?_
  refine AL_p (x_add rfl rfl rfl (IntWalk.i64_in _ (by omega))) ?_
  refine AL_p (x_move rfl rfl) ?_
  refine AL_p (x_add rfl rfl rfl (IntWalk.i64_in _ (by omega))) ?_
  refine AL_p (x_move rfl rfl) ?_
  refine AL_p (x_rem rfl rfl rfl (by omega) rfl (rem_wf (m := (dFour b c).1) hd2.1 (by omega) (by omega))) ?_
  refine AL_p (x_assign rfl rfl) ?_
  refine AL_nil ?_
  refine AW_ret ?_
  exact ⟨rn [], ⟨⟨⟨_, rfl, vle_int (by rw [hno]; first | done | rfl)⟩, trivial⟩, ⟨⟨_, rfl, by first | exact BLe.rf | exact ble_eq (by rw [hno]; first | done | rfl)⟩, trivial⟩, by repeat (first | exact trivial | refine ⟨⟨rfl, by first | (left; intro h; cases h) | (right; rfl), by first | exact (fun _ h => ⟨_, h⟩) | exact (fun _ _ => ⟨_, rfl⟩) | (intro _ h; cases h)⟩, ?_⟩), rfl⟩⟩

set_option maxHeartbeats 4000000 in
theorem num6_c (b : List Int) (c : Cur) (hb : b.length ≤ 1048576) : AC Tryz.prog 164 [.one (.ptr 200 0)] [(200, some (curB b c))] (.one (.c (.int .i64 ((dNum6 b c).1)))) [(200, some (curB b (dNum6 b c).2))] := by
  refine AC_body1 Tryz.func164 rfl rfl Tryz.ntmps164 rfl Tryz.results164 ?_
  refine AW_seq ?_
  refine AW_region ?_
  refine AL_p (x_assign rfl rfl) ?_
  refine AL_nil ?_
  refine AW_seq ?_
  refine AW_region ?_
  refine AL_p (x_move rfl rfl) ?_
  refine AL_p (x_call (ks := []) (L := [(200, some _)]) (L' := [(200, some _)]) rfl rfl rfl (below_c b c hb 8) rfl AllV.rf (caught_of rfl) rfl rfl rfl ⟨rfl, trivial⟩ rfl) ?_
  refine AL_p (x_assign rfl rfl) ?_
  refine AL_nil ?_
  refine AW_seq ?_
  refine AW_seq ?_
  refine AW_region ?_
  refine AL_p (x_move rfl rfl) ?_
  refine AL_b (x_lss rfl rfl rfl) (fun b7 h7 => ?_)
  refine AL_nil ?_
  cases b7
  rotate_left
  · try simp only [tdy] at h7
    have hno : dNum6 b c = _ := if_pos (by omega)
    refine AW_condT rfl ?_
    refine AW_seq ?_
    refine AW_region ?_
    refine AL_p (x_move rfl rfl) ?_
    refine AL_p (x_call (ks := []) (L := [(200, some _)]) (L' := [(200, some _)]) rfl rfl rfl (below_c b (dBelow b c 8).2 hb 9) rfl AllV.rf (caught_of rfl) rfl rfl rfl ⟨rfl, trivial⟩ rfl) ?_
    refine AL_p (x_assign rfl rfl) ?_
    refine AL_nil ?_
    refine AW_ret ?_
    exact ⟨rn [], ⟨⟨⟨_, rfl, vle_int (by rw [hno]; first | done | rfl)⟩, trivial⟩, ⟨⟨_, rfl, by first | exact BLe.rf | exact ble_eq (by rw [hno]; first | done | rfl)⟩, trivial⟩, by repeat (first | exact trivial | refine ⟨⟨rfl, by first | (left; intro h; cases h) | (right; rfl), by first | exact (fun _ h => ⟨_, h⟩) | exact (fun _ _ => ⟨_, rfl⟩) | (intro _ h; cases h)⟩, ?_⟩), rfl⟩⟩
  try simp only [tdy] at h7
  refine AW_condF rfl ?_
  refine AW_skip ?_
  refine AW_seq ?_
  refine AW_seq ?_
  refine AW_region ?_
  refine AL_p (x_move rfl rfl) ?_
  refine AL_b (x_eql rfl rfl rfl) (fun b11 h11 => ?_)
  refine AL_nil ?_
  cases b11
  rotate_left
  · try simp only [tdy] at h11
    have hno : dNum6 b c = _ := (if_neg (by omega)).trans (if_pos (by omega))
    refine AW_condT rfl ?_
    refine AW_seq ?_
    refine AW_region ?_
    refine AL_p (x_assign rfl rfl) ?_
    refine AL_nil ?_
    refine AW_ret ?_
    exact ⟨rn [], ⟨⟨⟨_, rfl, vle_int (by rw [hno]; first | done | rfl)⟩, trivial⟩, ⟨⟨_, rfl, by first | exact BLe.rf | exact ble_eq (by rw [hno]; first | done | rfl)⟩, trivial⟩, by repeat (first | exact trivial | refine ⟨⟨rfl, by first | (left; intro h; cases h) | (right; rfl), by first | exact (fun _ h => ⟨_, h⟩) | exact (fun _ _ => ⟨_, rfl⟩) | (intro _ h; cases h)⟩, ?_⟩), rfl⟩⟩
  try simp only [tdy] at h11
  have hno : dNum6 b c = _ := (if_neg (by omega)).trans (if_neg (by omega))
  have hd1 := dBelow_lt b (dBelow b c 8).2 (n := 1000000) (by decide)
  refine AW_condF rfl ?_
  refine AW_skip ?_
  refine AW_seq ?_
  refine AW_region ?_
  refine AL_p (x_move rfl rfl) ?_
  refine AL_p (x_call (ks := []) (L := [(200, some _)]) (L' := [(200, some _)]) rfl rfl rfl (below_c b (dBelow b c 8).2 hb 1000000) rfl AllV.rf (caught_of rfl) rfl rfl rfl ⟨rfl, trivial⟩ rfl) ?_
  refine AL_p (x_mul rfl rfl rfl (IntWalk.i64_in _ (by omega))) ?_
  refine AL_p (x_assign rfl rfl) ?_
  refine AL_nil ?_
  refine AW_ret ?_
  exact ⟨rn [], ⟨⟨⟨_, rfl, vle_int (by rw [hno]; first | done | rfl)⟩, trivial⟩, ⟨⟨_, rfl, by first | exact BLe.rf | exact ble_eq (by rw [hno]; first | done | rfl)⟩, trivial⟩, by repeat (first | exact trivial | refine ⟨⟨rfl, by first | (left; intro h; cases h) | (right; rfl), by first | exact (fun _ h => ⟨_, h⟩) | exact (fun _ _ => ⟨_, rfl⟩) | (intro _ h; cases h)⟩, ?_⟩), rfl⟩⟩

set_option maxHeartbeats 4000000 in
theorem word_c (b : List Int) (c : Cur) (hb : b.length ≤ 1048576) : AC Tryz.prog 116 [.one (.ptr 200 0)] [(200, some (curB b c))] (.one (.c (.string (dWord b c).1))) [(200, some (curB b (dWord b c).2))] := by
  have hd1 := dBelow_lt b c (n := 10) (by decide)
  have hln : dWords.length = 10 := by decide
  have hno : dWord b c = (dWords.getD (dBelow b c 10).1.toNat ⟨#[]⟩, (dBelow b c 10).2) := rfl
  have hat := getD_txt (xs := dWords) (k := (dBelow b c 10).1.toNat) (by omega)
  refine AC_body1 Tryz.func116 rfl rfl Tryz.ntmps116 rfl Tryz.results116 ?_
  refine AW_seq ?_
  refine AW_region ?_
  refine AL_p (x_assign rfl rfl) ?_
  refine AL_nil ?_
  refine AW_seq ?_
  refine AW_region ?_
  refine AL_p (y_bslice (E := 9) (e := strE) [.const (.string ⟨#[97]⟩), .const (.string ⟨#[98]⟩), .const (.string ⟨#[99]⟩), .const (.string ⟨#[104, 111, 115, 116]⟩), .const (.string ⟨#[108, 105, 110, 107]⟩), .const (.string ⟨#[115, 101, 101, 110]⟩), .const (.string ⟨#[112, 97, 116, 104]⟩), .const (.string ⟨#[100, 101, 110, 121]⟩), .const (.string ⟨#[120, 57]⟩), .const (.string ⟨#[97, 98, 99, 100, 101, 102, 103, 104, 105, 106, 107, 108]⟩)] (dWords) 100 rfl rfl rfl rfl rfl rfl rfl rfl FitL.rf rfl rfl rfl rfl rfl rfl (by kernel_rfl)) ?_
  refine AL_p (x_move rfl rfl) ?_
  refine AL_p (x_call (ks := []) (L := [(200, some _)]) (L' := [(200, some _)]) rfl rfl rfl (below_c b c hb 10) rfl AllV.rf (caught_of rfl) rfl rfl rfl ⟨rfl, trivial⟩ rfl) ?_
  refine AL_p (x_oindex (n := 1) rfl rfl rfl rfl (by kernel_rfl) rfl (k := (dBelow b c 10).1.toNat) (by omega) (by omega)) ?_
  refine AL_p (x_oload1 rfl rfl rfl (by kernel_rfl) (by omega) rfl) ?_
  refine AL_p (x_assign rfl rfl) ?_
  refine AL_nil ?_
  refine AW_ret ?_
  exact ⟨rn [], ⟨⟨⟨_, rfl, vle_str hat⟩, trivial⟩, ⟨⟨_, rfl, by first | exact BLe.rf | exact ble_eq (by rw [hno]; first | done | rfl)⟩, trivial⟩, by repeat (first | exact trivial | refine ⟨⟨rfl, by first | (left; intro h; cases h) | (right; rfl), by first | exact (fun _ h => ⟨_, h⟩) | exact (fun _ _ => ⟨_, rfl⟩) | (intro _ h; cases h)⟩, ?_⟩), rfl⟩⟩

set_option maxHeartbeats 4000000 in
theorem value_c (b : List Int) (c : Cur) (hb : b.length ≤ 1048576) : AC Tryz.prog 140 [.one (.ptr 200 0)] [(200, some (curB b c))] (.agg (valC (dValue b c).1)) [(200, some (curB b (dValue b c).2))] := by
  refine AC_bodyC (n := 2) (k := 9) (T := [(2, .one (.ptr 9 0))]) (Lf := ((9, some (.box (valC (dValue b c).1))) :: [(200, some (curB b (dValue b c).2))])) Tryz.func140 rfl rfl Tryz.ntmps140 rfl Tryz.results140 rfl rfl (by kernel_rfl) rfl rfl ⟨trivial, (by repeat (first | exact trivial | refine ⟨⟨_, rfl, BLe.rf⟩, ?_⟩)), (by repeat (first | exact trivial | refine ⟨⟨rfl, by first | (left; intro h; cases h) | (right; rfl), by first | exact (fun _ h => ⟨_, h⟩) | exact (fun _ _ => ⟨_, rfl⟩) | (intro _ h; cases h)⟩, ?_⟩)), rfl⟩ ?_
  refine AW_seq ?_
  refine AW_region ?_
  refine AL_p (x_alloc (z := .agg #[.int .i64 0, .string ⟨#[]⟩]) 100 rfl (by kernel_rfl) rfl rfl rfl rfl) ?_
  refine AL_nil ?_
  refine AW_seq ?_
  refine AW_region ?_
  refine AL_p (x_move rfl rfl) ?_
  refine AL_p (x_call (ks := []) (L := [(200, some _)]) (L' := [(200, some _)]) rfl rfl rfl (below_c b c hb 6) rfl AllV.rf (caught_of rfl) rfl rfl rfl ⟨rfl, trivial⟩ rfl) ?_
  refine AL_p (x_assign rfl rfl) ?_
  refine AL_nil ?_
  refine AW_seq ?_
  refine AW_seq ?_
  refine AW_region ?_
  refine AL_p (x_move rfl rfl) ?_
  refine AL_b (x_lss rfl rfl rfl) (fun b7 h7 => ?_)
  refine AL_nil ?_
  cases b7
  rotate_left
  · try simp only [tdy] at h7
    have hno : dValue b c = _ := if_pos (by omega)
    refine AW_condT rfl ?_
    refine AW_seq ?_
    refine AW_region ?_
    refine AL_p (x_move rfl rfl) ?_
    refine AL_p (x_call (ks := []) (L := [(200, some _)]) (L' := [(200, some _)]) rfl rfl rfl (below_c b (dBelow b c 6).2 hb 5) rfl AllV.rf (caught_of rfl) rfl rfl rfl ⟨rfl, trivial⟩ rfl) ?_
    refine AL_p (x_build (zs := [.int .i64 0, .string ⟨#[]⟩]) (places := [(0, 1), (1, 1)]) rfl (by kernel_rfl) rfl rfl rfl rfl rfl) ?_
    refine AL_p (x_store (n := 2) rfl rfl rfl rfl (by kernel_rfl) rfl rfl rfl) ?_
    refine AL_nil ?_
    refine AW_ret ?_
    exact ⟨rn [(9, 100)], ⟨⟨⟨_, rfl, VLe.rf⟩, trivial⟩, ⟨⟨_, rfl, by first | exact BLe.rf | exact ble_eq (by rw [hno]; first | done | rfl)⟩, ⟨_, rfl, by first | exact BLe.rf | exact ble_eq (by rw [hno]; first | done | rfl)⟩, trivial⟩, by repeat (first | exact trivial | refine ⟨⟨rfl, by first | (left; intro h; cases h) | (right; rfl), by first | exact (fun _ h => ⟨_, h⟩) | exact (fun _ _ => ⟨_, rfl⟩) | (intro _ h; cases h)⟩, ?_⟩), rfl⟩⟩
  try simp only [tdy] at h7
  refine AW_condF rfl ?_
  refine AW_skip ?_
  refine AW_seq ?_
  refine AW_seq ?_
  refine AW_region ?_
  refine AL_p (x_move rfl rfl) ?_
  refine AL_b (x_eql rfl rfl rfl) (fun b12 h12 => ?_)
  refine AL_nil ?_
  cases b12
  rotate_left
  · try simp only [tdy] at h12
    have hno : dValue b c = _ := (if_neg (by omega)).trans (if_pos (by omega))
    refine AW_condT rfl ?_
    refine AW_seq ?_
    refine AW_region ?_
    refine AL_p (x_move rfl rfl) ?_
    refine AL_p (x_call (ks := []) (L := [(200, some _)]) (L' := [(200, some _)]) rfl rfl rfl (word_c b (dBelow b c 6).2 hb) rfl AllV.rf (caught_of rfl) rfl rfl rfl ⟨rfl, trivial⟩ rfl) ?_
    refine AL_p (x_build (zs := [.int .i64 0, .string ⟨#[]⟩]) (places := [(0, 1), (1, 1)]) rfl (by kernel_rfl) rfl rfl rfl rfl rfl) ?_
    refine AL_p (x_store (n := 2) rfl rfl rfl rfl (by kernel_rfl) rfl rfl rfl) ?_
    refine AL_nil ?_
    refine AW_ret ?_
    exact ⟨rn [(9, 100)], ⟨⟨⟨_, rfl, VLe.rf⟩, trivial⟩, ⟨⟨_, rfl, by first | exact BLe.rf | exact ble_eq (by rw [hno]; first | done | rfl)⟩, ⟨_, rfl, by first | exact BLe.rf | exact ble_eq (by rw [hno]; first | done | rfl)⟩, trivial⟩, by repeat (first | exact trivial | refine ⟨⟨rfl, by first | (left; intro h; cases h) | (right; rfl), by first | exact (fun _ h => ⟨_, h⟩) | exact (fun _ _ => ⟨_, rfl⟩) | (intro _ h; cases h)⟩, ?_⟩), rfl⟩⟩
  try simp only [tdy] at h12
  have hno : dValue b c = _ := (if_neg (by omega)).trans (if_neg (by omega))
  refine AW_condF rfl ?_
  refine AW_skip ?_
  refine AW_seq ?_
  refine AW_region ?_
  refine AL_p (x_move rfl rfl) ?_
  refine AL_p (x_call (ks := []) (L := [(200, some _)]) (L' := [(200, some _)]) rfl rfl rfl (num6_c b (dBelow b c 6).2 hb) rfl AllV.rf (caught_of rfl) rfl rfl rfl ⟨rfl, trivial⟩ rfl) ?_
  refine AL_p (x_build (zs := [.int .i64 0, .string ⟨#[]⟩]) (places := [(0, 1), (1, 1)]) rfl (by kernel_rfl) rfl rfl rfl rfl rfl) ?_
  refine AL_p (x_store (n := 2) rfl rfl rfl rfl (by kernel_rfl) rfl rfl rfl) ?_
  refine AL_nil ?_
  refine AW_ret ?_
  exact ⟨rn [(9, 100)], ⟨⟨⟨_, rfl, VLe.rf⟩, trivial⟩, ⟨⟨_, rfl, by first | exact BLe.rf | exact ble_eq (by rw [hno]; first | done | rfl)⟩, ⟨_, rfl, by first | exact BLe.rf | exact ble_eq (by rw [hno]; first | done | rfl)⟩, trivial⟩, by repeat (first | exact trivial | refine ⟨⟨rfl, by first | (left; intro h; cases h) | (right; rfl), by first | exact (fun _ h => ⟨_, h⟩) | exact (fun _ _ => ⟨_, rfl⟩) | (intro _ h; cases h)⟩, ?_⟩), rfl⟩⟩

end Go.Proofs.YtibhoanjglfaoaaGreat

/- Draws (printed by walk.py) -/
namespace Go.Proofs.YtibhoanjglfaoaaGreat
open Go.RowKit
set_option linter.unusedVariables false
set_option linter.unusedSimpArgs false
set_option maxRecDepth 100000

set_option maxHeartbeats 4000000 in
theorem putO_t (rows : List (List Val)) (row : List Val) (hl : rows.length ≤ 1048575) (hm : ∀ r ∈ rows, r.length ≤ 1048576) (hr : row.length ≤ 1048576) (hs : Sorted rows) (hv : ∀ v ∈ row, valOk v = true) : AT Tryz.prog 34 [.one (.own 0), .agg (rowC row)] [(0, some (.arr 72 rowE (rows) false))] (.one (.own 1)) [(1, some (.arr 72 rowE (putRow rows row) false))] := by
  refine AT_body1 Tryz.func34 rfl rfl Tryz.ntmps34 rfl Tryz.results34 ?_
  refine AW_seq ?_
  refine AW_region ?_
  refine AL_p (x_box 100 rfl rfl rfl rfl rfl rfl rfl) ?_
  refine AL_p (x_assign rfl rfl) ?_
  refine AL_nil ?_
  refine AW_seq ?_
  refine AW_seq ?_
  refine AW_region ?_
  refine AL_p (x_move rfl rfl) ?_
  refine AL_p (x_loadN (n := 1) rfl rfl rfl (by kernel_rfl) rfl rfl) ?_
  refine AL_bc (x_callR rfl rfl rfl (hasS_c rows row (by omega) hm) rfl AllV.rf rfl rfl rfl rfl rfl) (fun b10 h10 => ?_)
  refine AL_nil ?_
  cases b10
  rotate_left
  · try simp only [tdy] at h10
    have hno := putRow_has h10
    refine AW_condT rfl ?_
    refine AW_seq ?_
    refine AW_region ?_
    refine AL_p (x_move rfl rfl) ?_
    refine AL_p (x_assign rfl rfl) ?_
    refine AL_nil ?_
    refine AW_ret ?_
    exact ⟨rn [(1, 0)], ⟨⟨⟨_, rfl, VLe.rf⟩, trivial⟩, ⟨⟨_, rfl, by first | (refine BLe.arr ?_; rw [hno]; done) | (refine BLe.arr ?_; rw [hno]; first | exact putTo_done (by omega) (by omega) (by omega) | exact putTo_end (by omega) (by omega) (by omega))⟩, trivial⟩, trivial, rfl⟩⟩
  try simp only [tdy] at h10
  have hno := putRow_no h10
  refine AW_condF rfl ?_
  refine AW_skip ?_
  refine AW_seq ?_
  refine AW_region ?_
  refine AL_p (y_bslice0 (E := 72) (e := rowE) 101 rfl rfl rfl (by kernel_rfl)) ?_
  refine AL_p (x_assign rfl rfl) ?_
  refine AL_nil ?_
  refine AW_seq ?_
  refine AW_region ?_
  refine AL_p (x_assign rfl rfl) ?_
  refine AL_nil ?_
  refine AW_seq ?_
  refine AW_seq ?_
  refine AW_region ?_
  refine AL_p (x_move rfl rfl) ?_
  refine AL_p (x_olen (E := 72) (n := 1) rfl rfl rfl (by kernel_rfl)) ?_
  refine AL_p (x_move rfl rfl) ?_
  refine AL_nil ?_
  refine AW_block ?_
  refine AW_shallow 101 rfl ?_
  refine AW_loop2 (ι := {q : Nat × Bool // (q.1) ≤ rows.length ∧ decide (pos rows row < (q.1)) = (q.2)}) (fun p => [(5, .one (.own 101)), (6, .one (.c (.bool (p.1.2)))), (15, .one (.c (.int .i64 ((p.1.1) : Int))))]) (fun p => [(101, some (.arr 72 rowE (putTo rows row (p.1.1)) false))]) [0, 3, 14] [0, 100] (fun p => rows.length - (p.1.1)) ⟨⟨0, false⟩, ⟨by omega, by simp⟩⟩ (rn []) ?_ ?_
  exact ⟨by (repeat refine ⟨⟨_, rfl, by first | exact VLe.rf | exact vle_int (by dsimp only; omega)⟩, ?_⟩); exact trivial, by (repeat refine ⟨⟨_, rfl, by first | exact BLe.rf | exact BLe.box AllC.rf | exact BLe.arr (by first | exact putTo_zero | exact putTo_behind (by omega) (by omega) | exact putTo_here (by omega) (by omega) | exact putTo_before (by omega) (by omega))⟩, ?_⟩); exact trivial, by repeat (first | exact trivial | refine ⟨⟨rfl, by first | (left; intro h; cases h) | (right; rfl), by first | exact (fun _ h => ⟨_, h⟩) | exact (fun _ _ => ⟨_, rfl⟩) | (intro _ h; cases h)⟩, ?_⟩), rfl⟩
  rintro ⟨⟨k, b900⟩, hinv⟩
  dsimp only
  obtain ⟨hk, h900⟩ := hinv
  have hk : k ≤ rows.length := hk
  refine AW_seq ?_
  refine AW_region ?_
  refine AL_b (x_lss rfl rfl rfl) (fun b16 h16 => ?_)
  refine AL_nil ?_
  refine AW_seq ?_
  cases b16
  · try simp only [tdy] at h16
    refine AW_condF rfl ?_
    refine AW_exit (BQ_hit ?_)
    refine AW_seq ?_
    refine AW_seq ?_
    refine AW_region ?_
    refine AL_p (x_move rfl rfl) ?_
    refine AL_p (x_not rfl rfl) ?_
    refine AL_nil ?_
    cases b900
    rotate_left
    · try simp only [tdy] at h900
      refine AW_condF rfl ?_
      refine AW_skip ?_
      refine AW_seq ?_
      refine AW_region ?_
      refine AL_p (x_move rfl rfl) ?_
      refine AL_p (x_assign rfl rfl) ?_
      refine AL_nil ?_
      refine AW_ret ?_
      exact ⟨rn [(1, 101)], ⟨⟨⟨_, rfl, VLe.rf⟩, trivial⟩, ⟨⟨_, rfl, by first | (refine BLe.arr ?_; rw [hno]; done) | (refine BLe.arr ?_; rw [hno]; first | exact putTo_done (by omega) (by omega) (by omega) | exact putTo_end (by omega) (by omega) (by omega))⟩, trivial⟩, trivial, rfl⟩⟩
    try simp only [tdy] at h900
    refine AW_condT rfl ?_
    refine AW_region ?_
    refine AL_p (x_move rfl rfl) ?_
    refine AL_p (x_loadN (n := 1) rfl rfl rfl (by kernel_rfl) rfl rfl) ?_
    refine AL_p (x_call1 rfl rfl rfl (rowS_c row hr 107) rfl rfl rfl rfl) ?_
    refine AL_p (y_bslice (E := 72) (e := rowE) [.tmp 46] ([row]) 108 rfl rfl rfl rfl rfl rfl rfl rfl FitL.rf rfl rfl rfl rfl rfl rfl (by kernel_rfl)) ?_
    refine AL_p (y_append 109 rfl rfl rfl rfl rfl rfl rfl rfl (by kernel_rfl) (by have := putTo_len (rows := rows) (row := row) (k := k) (by omega); simp only [List.length_append, List.length_cons, List.length_nil]; omega)) ?_
    refine AL_p (x_assign rfl rfl) ?_
    refine AL_nil ?_
    refine AW_seq ?_
    refine AW_region ?_
    refine AL_p (x_move rfl rfl) ?_
    refine AL_p (x_assign rfl rfl) ?_
    refine AL_nil ?_
    refine AW_ret ?_
    exact ⟨rn [(1, 109)], ⟨⟨⟨_, rfl, VLe.rf⟩, trivial⟩, ⟨⟨_, rfl, by first | (refine BLe.arr ?_; rw [hno]; done) | (refine BLe.arr ?_; rw [hno]; first | exact putTo_done (by omega) (by omega) (by omega) | exact putTo_end (by omega) (by omega) (by omega))⟩, trivial⟩, trivial, rfl⟩⟩
  try simp only [tdy] at h16
  refine AW_condT rfl ?_
  refine AW_skip ?_
  refine AW_seq ?_
  refine AW_block ?_
  refine AW_seq ?_
  refine AW_region ?_
  refine AL_p (x_move rfl rfl) ?_
  refine AL_p (x_assign rfl rfl) ?_
  refine AL_nil ?_
  refine AW_seq ?_
  refine AW_seq ?_
  refine AW_draw rfl ?_
  refine AL_p (x_move rfl rfl) ?_
  refine AL_p (x_not rfl rfl) ?_
  refine AL_p (x_move rfl rfl) ?_
  cases b900
  rotate_left
  · try simp only [tdy] at h900
    refine AL_o rfl rfl rfl rfl ?_
    refine AL_o rfl rfl rfl rfl ?_
    refine AL_o rfl rfl rfl rfl ?_
    refine AL_o rfl rfl rfl rfl ?_
    refine AL_o rfl rfl rfl rfl ?_
    refine AL_o rfl rfl rfl rfl ?_
    refine AL_o rfl rfl rfl rfl ?_
    refine AL_p (x_pickF rfl rfl rfl) ?_
    refine AL_nild (by kernel_rfl) ?_
    refine AW_condF rfl ?_
    refine AW_skip ?_
    refine AW_region ?_
    refine AL_p (x_move rfl rfl) ?_
    refine AL_p (x_move rfl rfl) ?_
    refine AL_p (x_move rfl rfl) ?_
    refine AL_p (x_oindex (n := 1) rfl rfl rfl rfl (by kernel_rfl) rfl (k := k) rfl (by omega)) ?_
    refine AL_p (x_oloadN (n := 1) rfl rfl rfl (by kernel_rfl) (by omega) rfl rfl) ?_
    refine AL_p (y_bslice (E := 72) (e := rowE) [.tmp 38] ([(rows[k]'(by omega))]) 102 rfl rfl rfl rfl rfl rfl rfl rfl FitL.rf rfl rfl rfl rfl rfl rfl (by kernel_rfl)) ?_
    refine AL_p (y_append 103 rfl rfl rfl rfl rfl rfl rfl rfl (by kernel_rfl) (by have := putTo_len (rows := rows) (row := row) (k := k) (by omega); simp only [List.length_append, List.length_cons, List.length_nil]; omega)) ?_
    refine AL_p (x_assign rfl rfl) ?_
    refine AL_nil ?_
    refine AW_region ?_
    refine AL_p (x_add rfl rfl rfl (IntWalk.i64_in _ (by omega))) ?_
    refine AL_p (x_move rfl rfl) ?_
    refine AL_nil ?_
    refine ⟨⟨⟨k + 1, true⟩, ⟨by omega, by rw [decide_eq_true_eq]; omega⟩⟩, rn [(101, 103)], ?_, by dsimp only; omega⟩
    exact ⟨by (repeat refine ⟨⟨_, rfl, by first | exact VLe.rf | exact vle_int (by dsimp only; omega)⟩, ?_⟩); exact trivial, by (repeat refine ⟨⟨_, rfl, by first | exact BLe.rf | exact BLe.box AllC.rf | exact BLe.arr (by first | exact putTo_zero | exact putTo_behind (by omega) (by omega) | exact putTo_here (by omega) (by omega) | exact putTo_before (by omega) (by omega))⟩, ?_⟩); exact trivial, by repeat (first | exact trivial | refine ⟨⟨rfl, by first | (left; intro h; cases h) | (right; rfl), by first | exact (fun _ h => ⟨_, h⟩) | exact (fun _ _ => ⟨_, rfl⟩) | (intro _ h; cases h)⟩, ?_⟩), rfl⟩
  try simp only [tdy] at h900
  refine AL_g rfl rfl (x_loadN (n := 1) rfl rfl rfl (by kernel_rfl) rfl rfl) ?_
  refine AL_g rfl rfl (x_move rfl rfl) ?_
  refine AL_g rfl rfl (x_move rfl rfl) ?_
  refine AL_g rfl rfl (x_oindex (n := 1) rfl rfl rfl rfl (by kernel_rfl) rfl (k := k) rfl (by omega)) ?_
  refine AL_g rfl rfl (x_oloadN (n := 1) rfl rfl rfl (by kernel_rfl) (by omega) rfl rfl) ?_
  refine AL_g rfl rfl (x_call0 rfl rfl rfl (orderS_c _ _) rfl rfl) ?_
  refine AL_gb rfl rfl (x_eql rfl rfl rfl) (fun b27 h27 => ?_)
  refine AL_p (x_pickT rfl rfl rfl) ?_
  refine AL_nild (by kernel_rfl) ?_
  cases b27
  · try simp only [tdy] at h27
    have hp : ¬ k = pos rows row := of_decide_eq_false ((putTo_lt hs hv h10 (k := k) (by omega) (by omega)).symm.trans (by simp [h27]))
    refine AW_condF rfl ?_
    refine AW_skip ?_
    refine AW_region ?_
    refine AL_p (x_move rfl rfl) ?_
    refine AL_p (x_move rfl rfl) ?_
    refine AL_p (x_move rfl rfl) ?_
    refine AL_p (x_oindex (n := 1) rfl rfl rfl rfl (by kernel_rfl) rfl (k := k) rfl (by omega)) ?_
    refine AL_p (x_oloadN (n := 1) rfl rfl rfl (by kernel_rfl) (by omega) rfl rfl) ?_
    refine AL_p (y_bslice (E := 72) (e := rowE) [.tmp 38] ([(rows[k]'(by omega))]) 102 rfl rfl rfl rfl rfl rfl rfl rfl FitL.rf rfl rfl rfl rfl rfl rfl (by kernel_rfl)) ?_
    refine AL_p (y_append 103 rfl rfl rfl rfl rfl rfl rfl rfl (by kernel_rfl) (by have := putTo_len (rows := rows) (row := row) (k := k) (by omega); simp only [List.length_append, List.length_cons, List.length_nil]; omega)) ?_
    refine AL_p (x_assign rfl rfl) ?_
    refine AL_nil ?_
    refine AW_region ?_
    refine AL_p (x_add rfl rfl rfl (IntWalk.i64_in _ (by omega))) ?_
    refine AL_p (x_move rfl rfl) ?_
    refine AL_nil ?_
    refine ⟨⟨⟨k + 1, false⟩, ⟨by omega, by rw [decide_eq_false_iff_not]; omega⟩⟩, rn [(101, 103)], ?_, by dsimp only; omega⟩
    exact ⟨by (repeat refine ⟨⟨_, rfl, by first | exact VLe.rf | exact vle_int (by dsimp only; omega)⟩, ?_⟩); exact trivial, by (repeat refine ⟨⟨_, rfl, by first | exact BLe.rf | exact BLe.box AllC.rf | exact BLe.arr (by first | exact putTo_zero | exact putTo_behind (by omega) (by omega) | exact putTo_here (by omega) (by omega) | exact putTo_before (by omega) (by omega))⟩, ?_⟩); exact trivial, by repeat (first | exact trivial | refine ⟨⟨rfl, by first | (left; intro h; cases h) | (right; rfl), by first | exact (fun _ h => ⟨_, h⟩) | exact (fun _ _ => ⟨_, rfl⟩) | (intro _ h; cases h)⟩, ?_⟩), rfl⟩
  try simp only [tdy] at h27
  have hp : k = pos rows row := of_decide_eq_true ((putTo_lt hs hv h10 (k := k) (by omega) (by omega)).symm.trans (by simp [h27]))
  refine AW_condT rfl ?_
  refine AW_seq ?_
  refine AW_region ?_
  refine AL_p (x_move rfl rfl) ?_
  refine AL_p (x_loadN (n := 1) rfl rfl rfl (by kernel_rfl) rfl rfl) ?_
  refine AL_p (x_call1 rfl rfl rfl (rowS_c row hr 104) rfl rfl rfl rfl) ?_
  refine AL_p (y_bslice (E := 72) (e := rowE) [.tmp 31] ([row]) 105 rfl rfl rfl rfl rfl rfl rfl rfl FitL.rf rfl rfl rfl rfl rfl rfl (by kernel_rfl)) ?_
  refine AL_p (y_append 106 rfl rfl rfl rfl rfl rfl rfl rfl (by kernel_rfl) (by have := putTo_len (rows := rows) (row := row) (k := k) (by omega); simp only [List.length_append, List.length_cons, List.length_nil]; omega)) ?_
  refine AL_p (x_assign rfl rfl) ?_
  refine AL_nil ?_
  refine AW_region ?_
  refine AL_p (x_assign rfl rfl) ?_
  refine AL_nil ?_
  refine AW_region ?_
  refine AL_p (x_move rfl rfl) ?_
  refine AL_p (x_move rfl rfl) ?_
  refine AL_p (x_move rfl rfl) ?_
  refine AL_p (x_oindex (n := 1) rfl rfl rfl rfl (by kernel_rfl) rfl (k := k) rfl (by omega)) ?_
  refine AL_p (x_oloadN (n := 1) rfl rfl rfl (by kernel_rfl) (by omega) rfl rfl) ?_
  refine AL_p (y_bslice (E := 72) (e := rowE) [.tmp 38] ([(rows[k]'(by omega))]) 102 rfl rfl rfl rfl rfl rfl rfl rfl FitL.rf rfl rfl rfl rfl rfl rfl (by kernel_rfl)) ?_
  refine AL_p (y_append 103 rfl rfl rfl rfl rfl rfl rfl rfl (by kernel_rfl) (by have := putTo_len (rows := rows) (row := row) (k := k) (by omega); simp only [List.length_append, List.length_cons, List.length_nil]; omega)) ?_
  refine AL_p (x_assign rfl rfl) ?_
  refine AL_nil ?_
  refine AW_region ?_
  refine AL_p (x_add rfl rfl rfl (IntWalk.i64_in _ (by omega))) ?_
  refine AL_p (x_move rfl rfl) ?_
  refine AL_nil ?_
  refine ⟨⟨⟨k + 1, true⟩, ⟨by omega, by rw [decide_eq_true_eq]; omega⟩⟩, rn [(101, 103)], ?_, by dsimp only; omega⟩
  exact ⟨by (repeat refine ⟨⟨_, rfl, by first | exact VLe.rf | exact vle_int (by dsimp only; omega)⟩, ?_⟩); exact trivial, by (repeat refine ⟨⟨_, rfl, by first | exact BLe.rf | exact BLe.box AllC.rf | exact BLe.arr (by first | exact putTo_zero | exact putTo_behind (by omega) (by omega) | exact putTo_here (by omega) (by omega) | exact putTo_before (by omega) (by omega))⟩, ?_⟩); exact trivial, by repeat (first | exact trivial | refine ⟨⟨rfl, by first | (left; intro h; cases h) | (right; rfl), by first | exact (fun _ h => ⟨_, h⟩) | exact (fun _ _ => ⟨_, rfl⟩) | (intro _ h; cases h)⟩, ?_⟩), rfl⟩

set_option maxHeartbeats 4000000 in
theorem drawRowF_c (b : List Int) (c : Cur) (ar : Int) (ha : ar ≤ 8) (hb : b.length ≤ 1048576) : AC Tryz.prog 109 [.one (.ptr 200 0), .one (.c (.int .i64 ar))] [(200, some (curB b c))] (.agg [.sl valE (dVals b ar.toNat c).1]) [(200, some (curB b (dVals b ar.toNat c).2))] := by
  have hno : True := trivial
  refine AC_bodyC (n := 1) (k := 9) (T := [(4, .one (.ptr 9 0))]) (Lf := ((9, some (.box [.sl valE (dVals b ar.toNat c).1])) :: [(200, some (curB b (dVals b ar.toNat c).2))])) Tryz.func109 rfl rfl Tryz.ntmps109 rfl Tryz.results109 rfl rfl (by kernel_rfl) rfl rfl ⟨trivial, (by repeat (first | exact trivial | refine ⟨⟨_, rfl, BLe.rf⟩, ?_⟩)), (by repeat (first | exact trivial | refine ⟨⟨rfl, by first | (left; intro h; cases h) | (right; rfl), by first | exact (fun _ h => ⟨_, h⟩) | exact (fun _ _ => ⟨_, rfl⟩) | (intro _ h; cases h)⟩, ?_⟩)), rfl⟩ ?_
  refine AW_seq ?_
  refine AW_region ?_
  refine AL_p (x_alloc (z := .agg #[.slice none 0 0]) 100 rfl (by kernel_rfl) rfl rfl rfl rfl) ?_
  refine AL_nil ?_
  refine AW_seq ?_
  refine AW_region ?_
  refine AL_p (x_build (zs := [.slice none 0 0]) (places := [(0, 1)]) rfl (by kernel_rfl) rfl rfl rfl rfl rfl) ?_
  refine AL_p (x_alloc (z := .agg #[.slice none 0 0]) 101 rfl (by kernel_rfl) rfl rfl rfl rfl) ?_
  refine AL_p (x_store (n := 1) rfl rfl rfl rfl (by kernel_rfl) rfl rfl rfl) ?_
  refine AL_nil ?_
  refine AW_seq ?_
  refine AW_seq ?_
  refine AW_region ?_
  refine AL_p (x_assign rfl rfl) ?_
  refine AL_nil ?_
  refine AW_block ?_
  refine AW_adopt (T := 147) (e := valE) 102 101 0 rfl rfl rfl rfl rfl ?_
  refine AW_loop2 (ι := {q : Nat // q ≤ ar.toNat}) (fun p => [(6, .one (.c (.int .i64 (((p.1) : Int)))))]) (fun p => [(102, some (.arr 147 valE (dVals b (p.1) c).1 true)), (200, some (curB b (dVals b (p.1) c).2))]) [0, 1, 4, 5] [100, 101] (fun p => 9 - (p.1)) ⟨0, by omega⟩ (rn []) ?_ ?_
  exact ⟨by (repeat refine ⟨⟨_, rfl, by first | exact VLe.rf | exact vle_int (by dsimp only; omega)⟩, ?_⟩); exact trivial, by (repeat refine ⟨⟨_, rfl, by first | exact BLe.rf | exact BLe.box AllC.rf | exact BLe.arr (by exact rfl)⟩, ?_⟩); exact trivial, by repeat (first | exact trivial | refine ⟨⟨rfl, by first | (left; intro h; cases h) | (right; rfl), by first | exact (fun _ h => ⟨_, h⟩) | exact (fun _ _ => ⟨_, rfl⟩) | (intro _ h; cases h)⟩, ?_⟩), rfl⟩
  rintro ⟨k, hinv⟩
  dsimp only
  have hk := hinv
  have hln := (dVals_ok b k c).1
  refine AW_seq ?_
  refine AW_seq ?_
  refine AW_region ?_
  refine AL_p (x_move rfl rfl) ?_
  refine AL_p (x_move rfl rfl) ?_
  refine AL_b (x_lss rfl rfl rfl) (fun b10 h10 => ?_)
  refine AL_nil ?_
  cases b10
  · try simp only [tdy] at h10
    obtain rfl : k = ar.toNat := by omega
    refine AW_condF rfl ?_
    refine AW_exit (BQ_hit ?_)
    refine AW_seq ?_
    refine AW_region ?_
    refine AL_p (x_loadN (n := 1) rfl rfl rfl (by kernel_rfl) rfl rfl) ?_
    refine AL_p (x_store (n := 1) rfl rfl rfl rfl (by kernel_rfl) rfl rfl rfl) ?_
    refine AL_nil ?_
    refine AW_shutB 102 100 0 rfl rfl rfl rfl ?_
    refine AW_ret ?_
    exact ⟨rn [(9, 100)], ⟨⟨⟨_, rfl, VLe.rf⟩, trivial⟩, ⟨⟨_, rfl, by first | exact BLe.rf | exact ble_eq (by rw [hno]; first | done | rfl)⟩, ⟨_, rfl, by first | exact BLe.rf | exact ble_eq (by rw [hno]; first | done | rfl)⟩, trivial⟩, by repeat (first | exact trivial | refine ⟨⟨rfl, by first | (left; intro h; cases h) | (right; rfl), by first | exact (fun _ h => ⟨_, h⟩) | exact (fun _ _ => ⟨_, rfl⟩) | (intro _ h; cases h)⟩, ?_⟩), rfl⟩⟩
  try simp only [tdy] at h10
  refine AW_condT rfl ?_
  refine AW_skip ?_
  refine AW_seq ?_
  refine AW_block ?_
  refine AW_draw rfl ?_
  refine AL_p (x_field (off := 0) (o' := 0) rfl rfl rfl (by kernel_rfl) rfl) ?_
  refine AL_p (x_load1 rfl rfl rfl (by kernel_rfl) rfl) ?_
  refine AL_p (x_move rfl rfl) ?_
  refine AL_p (x_call (ks := []) (L := [(200, some _)]) (L' := [(200, some _)]) rfl rfl rfl (value_c b (dVals b k c).2 hb) rfl AllV.rf (caught_of rfl) rfl rfl rfl ⟨rfl, trivial⟩ rfl) ?_
  refine AL_p (y_bslice (E := 147) (e := valE) [.tmp 16] ([(dValue b (dVals b k c).2).1]) 103 rfl rfl rfl rfl rfl rfl rfl rfl FitL.rf rfl rfl rfl rfl rfl rfl (by kernel_rfl)) ?_
  refine AL_p (y_append 104 rfl rfl rfl rfl rfl rfl rfl rfl (by kernel_rfl) (by simp only [List.length_append, hln, List.length_cons, List.length_nil]; omega)) ?_
  refine AL_p (x_field (off := 0) (o' := 0) rfl rfl rfl (by kernel_rfl) rfl) ?_
  refine AL_p (x_store (n := 1) rfl rfl rfl rfl (by kernel_rfl) rfl rfl rfl) ?_
  refine AL_nild (by kernel_rfl) ?_
  refine AW_region ?_
  refine AL_p (x_move rfl rfl) ?_
  refine AL_p (x_add rfl rfl rfl (IntWalk.i64_in _ (by omega))) ?_
  refine AL_p (x_assign rfl rfl) ?_
  refine AL_nil ?_
  refine ⟨⟨k + 1, by omega⟩, rn [(102, 104)], ?_, by dsimp only; omega⟩
  exact ⟨by (repeat refine ⟨⟨_, rfl, by first | exact VLe.rf | exact vle_int (by dsimp only; omega)⟩, ?_⟩); exact trivial, by (repeat refine ⟨⟨_, rfl, by first | exact BLe.rf | exact BLe.box AllC.rf | exact BLe.arr (by exact rfl)⟩, ?_⟩); exact trivial, by repeat (first | exact trivial | refine ⟨⟨rfl, by first | (left; intro h; cases h) | (right; rfl), by first | exact (fun _ h => ⟨_, h⟩) | exact (fun _ _ => ⟨_, rfl⟩) | (intro _ h; cases h)⟩, ?_⟩), rfl⟩

set_option maxHeartbeats 4000000 in
theorem drawRel0 (b : List Int) (c : Cur) (ar : Int) (ha : ar ≤ 8) (hb : b.length ≤ 1048576) : AC Tryz.prog 117 [.one (.ptr 200 0), .one (.c (.int .i64 ar))] [(200, some (curB b c))] (.agg [.c (.int .i64 ar), .own 0]) [(200, some (curB b (dRel b ar c).2)), (0, some (.arr 72 rowE (dRel b ar c).1.rows false))] := by
  have hd0 := dBelow_lt b c (n := 6) (by decide)
  have hno : dRel b ar c = (⟨ar, (dPuts b ar (dBelow b c 6).1.toNat (dBelow b c 6).2).1⟩, (dPuts b ar (dBelow b c 6).1.toNat (dBelow b c 6).2).2) := rfl
  refine AC_bodyC (n := 2) (k := 9) (T := [(4, .one (.ptr 9 0))]) (Lf := ((9, some (.box [.c (.int .i64 ar), .own 0])) :: [(200, some (curB b (dRel b ar c).2)), (0, some (.arr 72 rowE (dRel b ar c).1.rows false))])) Tryz.func117 rfl rfl Tryz.ntmps117 rfl Tryz.results117 rfl rfl (by kernel_rfl) rfl rfl ⟨trivial, (by repeat (first | exact trivial | refine ⟨⟨_, rfl, BLe.rf⟩, ?_⟩)), (by repeat (first | exact trivial | refine ⟨⟨rfl, by first | (left; intro h; cases h) | (right; rfl), by first | exact (fun _ h => ⟨_, h⟩) | exact (fun _ _ => ⟨_, rfl⟩) | (intro _ h; cases h)⟩, ?_⟩)), rfl⟩ ?_
  refine AW_seq ?_
  refine AW_region ?_
  refine AL_p (x_alloc (z := .agg #[.int .i64 0, .slice none 0 0]) 100 rfl (by kernel_rfl) rfl rfl rfl rfl) ?_
  refine AL_nil ?_
  refine AW_seq ?_
  refine AW_region ?_
  refine AL_p (x_move rfl rfl) ?_
  refine AL_p (x_build (zs := [.int .i64 0, .slice none 0 0]) (places := [(0, 1), (1, 1)]) rfl (by kernel_rfl) rfl rfl rfl rfl rfl) ?_
  refine AL_p (x_alloc (z := .agg #[.int .i64 0, .slice none 0 0]) 101 rfl (by kernel_rfl) rfl rfl rfl rfl) ?_
  refine AL_p (x_store (n := 2) rfl rfl rfl rfl (by kernel_rfl) rfl rfl rfl) ?_
  refine AL_nil ?_
  refine AW_seq ?_
  refine AW_seq ?_
  refine AW_region ?_
  refine AL_p (x_move rfl rfl) ?_
  refine AL_p (x_call (ks := []) (L := [(200, some _)]) (L' := [(200, some _)]) rfl rfl rfl (below_c b c hb 6) rfl AllV.rf (caught_of rfl) rfl rfl rfl ⟨rfl, trivial⟩ rfl) ?_
  refine AL_p (x_assign rfl rfl) ?_
  refine AL_nil ?_
  refine AW_block ?_
  refine AW_adopt (T := 72) (e := rowE) 102 101 1 rfl rfl rfl rfl rfl ?_
  refine AW_shallow 102 rfl ?_
  refine AW_loop2 (ι := {q : Nat // (q : Int) ≤ (dBelow b c 6).1}) (fun p => [(6, .one (.c (.int .i64 ((dBelow b c 6).1 - ((p.1) : Int)))))]) (fun p => [(102, some (.arr 72 rowE (dPuts b ar (p.1) (dBelow b c 6).2).1 false)), (200, some (curB b (dPuts b ar (p.1) (dBelow b c 6).2).2))]) [0, 1, 4, 5] [100, 101] (fun p => (dBelow b c 6).1.toNat - (p.1)) ⟨0, by omega⟩ (rn []) ?_ ?_
  exact ⟨by (repeat refine ⟨⟨_, rfl, by first | exact VLe.rf | exact vle_int (by dsimp only; omega)⟩, ?_⟩); exact trivial, by (repeat refine ⟨⟨_, rfl, by first | exact BLe.rf | exact BLe.box AllC.rf | exact BLe.arr (by exact rfl)⟩, ?_⟩); exact trivial, by repeat (first | exact trivial | refine ⟨⟨rfl, by first | (left; intro h; cases h) | (right; rfl), by first | exact (fun _ h => ⟨_, h⟩) | exact (fun _ _ => ⟨_, rfl⟩) | (intro _ h; cases h)⟩, ?_⟩), rfl⟩
  rintro ⟨j, hinv⟩
  dsimp only
  have hj := hinv
  obtain ⟨s1, s2, s3, s4⟩ := dPuts_ok b ar j (dBelow b c 6).2
  obtain ⟨g1, g2, g3⟩ := dVals_ok b ar.toNat (dPuts b ar j (dBelow b c 6).2).2
  refine AW_seq ?_
  refine AW_seq ?_
  refine AW_region ?_
  refine AL_p (x_move rfl rfl) ?_
  refine AL_b (x_gtr rfl rfl rfl) (fun b12 h12 => ?_)
  refine AL_nil ?_
  cases b12
  · try simp only [tdy] at h12
    obtain rfl : j = (dBelow b c 6).1.toNat := by omega
    refine AW_condF rfl ?_
    refine AW_exit (BQ_hit ?_)
    refine AW_seq ?_
    refine AW_region ?_
    refine AL_p (x_loadN (n := 2) rfl rfl rfl (by kernel_rfl) rfl rfl) ?_
    refine AL_p (x_store (n := 2) rfl rfl rfl rfl (by kernel_rfl) rfl rfl rfl) ?_
    refine AL_nil ?_
    refine AW_ret ?_
    exact ⟨rn [(9, 100), (0, 102)], ⟨⟨⟨_, rfl, VLe.rf⟩, trivial⟩, ⟨⟨_, rfl, by first | exact BLe.rf | exact ble_eq (by rw [hno]; first | done | rfl)⟩, ⟨_, rfl, by first | exact BLe.rf | exact ble_eq (by rw [hno]; first | done | rfl)⟩, ⟨_, rfl, by first | exact BLe.rf | (refine BLe.arr ?_; rw [hno]; first | done | rfl)⟩, trivial⟩, by repeat (first | exact trivial | refine ⟨⟨rfl, by first | (left; intro h; cases h) | (right; rfl), by first | exact (fun _ h => ⟨_, h⟩) | exact (fun _ _ => ⟨_, rfl⟩) | (intro _ h; cases h)⟩, ?_⟩), rfl⟩⟩
  try simp only [tdy] at h12
  refine AW_condT rfl ?_
  refine AW_skip ?_
  refine AW_seq ?_
  refine AW_block ?_
  refine AW_draw rfl ?_
  refine AL_p (x_field (off := 1) (o' := 1) rfl rfl rfl (by kernel_rfl) rfl) ?_
  refine AL_p (x_load1 rfl rfl rfl (by kernel_rfl) rfl) ?_
  refine AL_p (x_move rfl rfl) ?_
  refine AL_p (x_move rfl rfl) ?_
  refine AL_p (x_call (ks := []) (L := [(200, some _)]) (L' := [(200, some _)]) rfl rfl rfl (drawRowF_c b (dPuts b ar j (dBelow b c 6).2).2 ar ha hb) rfl AllV.rf (caught_of rfl) rfl rfl rfl ⟨rfl, trivial⟩ rfl) ?_
  refine AL_p (x_call (ks := []) (L := [(102, some _)]) (L' := [(102, none), (103, some _)]) rfl rfl rfl (AT.lend1 (putO_t (dPuts b ar j (dBelow b c 6).2).1 (dVals b ar.toNat (dPuts b ar j (dBelow b c 6).2).2).1 (by omega) (fun x hx => by rw [s3 x hx]; omega) (by omega) s1 g2) 102 103 rfl (fun _ => rfl)) rfl AllV.rf (caught_of rfl) rfl rfl rfl ⟨rfl, trivial⟩ rfl) ?_
  refine AL_p (x_field (off := 1) (o' := 1) rfl rfl rfl (by kernel_rfl) rfl) ?_
  refine AL_p (x_store (n := 1) rfl rfl rfl rfl (by kernel_rfl) rfl rfl rfl) ?_
  refine AL_nild (by kernel_rfl) ?_
  refine AW_region ?_
  refine AL_p (x_move rfl rfl) ?_
  refine AL_p (x_sub rfl rfl rfl (IntWalk.i64_in _ (by omega))) ?_
  refine AL_p (x_assign rfl rfl) ?_
  refine AL_nil ?_
  refine ⟨⟨j + 1, by omega⟩, rn [(102, 103)], ?_, by dsimp only; omega⟩
  exact ⟨by (repeat refine ⟨⟨_, rfl, by first | exact VLe.rf | exact vle_int (by dsimp only; omega)⟩, ?_⟩); exact trivial, by (repeat refine ⟨⟨_, rfl, by first | exact BLe.rf | exact BLe.box AllC.rf | exact BLe.arr (by exact rfl)⟩, ?_⟩); exact trivial, by repeat (first | exact trivial | refine ⟨⟨rfl, by first | (left; intro h; cases h) | (right; rfl), by first | exact (fun _ h => ⟨_, h⟩) | exact (fun _ _ => ⟨_, rfl⟩) | (intro _ h; cases h)⟩, ?_⟩), rfl⟩
theorem drawRel_c (b : List Int) (c : Cur) (ar : Int) (ha : ar ≤ 8) (hb : b.length ≤ 1048576) (k : Nat) (hk : Nat.beq k 200 = false) : AC Tryz.prog 117 [.one (.ptr 200 0), .one (.c (.int .i64 ar))] [(200, some (curB b c))] (.agg [.c (.int .i64 ar), .own k]) [(200, some (curB b (dRel b ar c).2)), (k, some (.arr 72 rowE (dRel b ar c).1.rows false))] := AC.cur (drawRel0 b c ar ha hb) k hk aggRel (fun _ => rfl)

set_option maxHeartbeats 4000000 in
theorem full_c (ar n : Int) (ha : ar ≤ 8) (hn : n ≤ 400) : AC Tryz.prog 118 [.one (.c (.int .i64 ar)), .one (.c (.int .i64 n))] [] (.agg [.c (.int .i64 (dFull ar n).arity), .sl rowE (dFull ar n).rows]) [] := by
  refine AC_bodyC (n := 2) (k := 9) (T := [(4, .one (.ptr 9 0))]) (Lf := ((9, some (.box [.c (.int .i64 (dFull ar n).arity), .sl rowE (dFull ar n).rows])) :: [])) Tryz.func118 rfl rfl Tryz.ntmps118 rfl Tryz.results118 rfl rfl (by kernel_rfl) rfl rfl ⟨trivial, (by repeat (first | exact trivial | refine ⟨⟨_, rfl, BLe.rf⟩, ?_⟩)), (by repeat (first | exact trivial | refine ⟨⟨rfl, by first | (left; intro h; cases h) | (right; rfl), by first | exact (fun _ h => ⟨_, h⟩) | exact (fun _ _ => ⟨_, rfl⟩) | (intro _ h; cases h)⟩, ?_⟩)), rfl⟩ ?_
  refine AW_seq ?_
  refine AW_region ?_
  refine AL_p (x_alloc (z := .agg #[.int .i64 0, .slice none 0 0]) 100 rfl (by kernel_rfl) rfl rfl rfl rfl) ?_
  refine AL_nil ?_
  refine AW_seq ?_
  refine AW_region ?_
  refine AL_p (x_move rfl rfl) ?_
  refine AL_p (x_build (zs := [.int .i64 0, .slice none 0 0]) (places := [(0, 1), (1, 1)]) rfl (by kernel_rfl) rfl rfl rfl rfl rfl) ?_
  refine AL_p (x_alloc (z := .agg #[.int .i64 0, .slice none 0 0]) 101 rfl (by kernel_rfl) rfl rfl rfl rfl) ?_
  refine AL_p (x_store (n := 2) rfl rfl rfl rfl (by kernel_rfl) rfl rfl rfl) ?_
  refine AL_nil ?_
  refine AW_seq ?_
  refine AW_seq ?_
  refine AW_region ?_
  refine AL_p (x_assign rfl rfl) ?_
  refine AL_nil ?_
  refine AW_block ?_
  refine AW_adopt (T := 72) (e := rowE) 102 101 1 rfl rfl rfl rfl rfl ?_
  refine AW_loop2 (ι := {q : Nat // q ≤ n.toNat}) (fun p => [(6, .one (.c (.int .i64 (((p.1) : Int)))))]) (fun p => [(102, some (.arr 72 rowE ((List.range (p.1)).map fun (q : Nat) => List.replicate ar.toNat (⟨(q : Int), ⟨#[]⟩⟩ : Val)) true))]) [0, 1, 4, 5] [100, 101] (fun p => 401 - (p.1)) ⟨0, by omega⟩ (rn []) ?_ ?_
  exact ⟨by (repeat refine ⟨⟨_, rfl, by first | exact VLe.rf | exact vle_int (by dsimp only; omega)⟩, ?_⟩); exact trivial, by (repeat refine ⟨⟨_, rfl, by first | exact BLe.rf | exact BLe.box AllC.rf | exact BLe.arr (by first | rfl | simp [List.range_succ])⟩, ?_⟩); exact trivial, by repeat (first | exact trivial | refine ⟨⟨rfl, by first | (left; intro h; cases h) | (right; rfl), by first | exact (fun _ h => ⟨_, h⟩) | exact (fun _ _ => ⟨_, rfl⟩) | (intro _ h; cases h)⟩, ?_⟩), rfl⟩
  rintro ⟨k, hinv⟩
  dsimp only
  have hk := hinv
  refine AW_seq ?_
  refine AW_seq ?_
  refine AW_region ?_
  refine AL_p (x_move rfl rfl) ?_
  refine AL_p (x_move rfl rfl) ?_
  refine AL_b (x_lss rfl rfl rfl) (fun b13 h13 => ?_)
  refine AL_nil ?_
  cases b13
  · try simp only [tdy] at h13
    obtain rfl : k = n.toNat := by omega
    have hno : True := trivial
    refine AW_condF rfl ?_
    refine AW_exit (BQ_hit ?_)
    refine AW_seq ?_
    refine AW_region ?_
    refine AL_p (x_loadN (n := 2) rfl rfl rfl (by kernel_rfl) rfl rfl) ?_
    refine AL_p (x_store (n := 2) rfl rfl rfl rfl (by kernel_rfl) rfl rfl rfl) ?_
    refine AL_nil ?_
    refine AW_shutB 102 100 1 rfl rfl rfl rfl ?_
    refine AW_ret ?_
    exact ⟨rn [(9, 100)], ⟨⟨⟨_, rfl, VLe.rf⟩, trivial⟩, ⟨⟨_, rfl, by first | exact BLe.rf | exact ble_eq (by rw [hno]; first | done | rfl)⟩, trivial⟩, by repeat (first | exact trivial | refine ⟨⟨rfl, by first | (left; intro h; cases h) | (right; rfl), by first | exact (fun _ h => ⟨_, h⟩) | exact (fun _ _ => ⟨_, rfl⟩) | (intro _ h; cases h)⟩, ?_⟩), rfl⟩⟩
  try simp only [tdy] at h13
  refine AW_condT rfl ?_
  refine AW_skip ?_
  refine AW_seq ?_
  refine AW_block ?_
  refine AW_seq ?_
  refine AW_region ?_
  refine AL_p (x_build (zs := [.slice none 0 0]) (places := [(0, 1)]) rfl (by kernel_rfl) rfl rfl rfl rfl rfl) ?_
  refine AL_p (x_alloc (z := .agg #[.slice none 0 0]) 103 rfl (by kernel_rfl) rfl rfl rfl rfl) ?_
  refine AL_p (x_store (n := 1) rfl rfl rfl rfl (by kernel_rfl) rfl rfl rfl) ?_
  refine AL_nil ?_
  refine AW_seq ?_
  refine AW_seq ?_
  refine AW_region ?_
  refine AL_p (x_assign rfl rfl) ?_
  refine AL_nil ?_
  refine AW_block ?_
  refine AW_adopt (T := 147) (e := valE) 104 103 0 rfl rfl rfl rfl rfl ?_
  refine AW_loop2 (ι := {q : Nat // q ≤ ar.toNat}) (fun p => [(8, .one (.c (.int .i64 (((p.1) : Int)))))]) (fun p => [(104, some (.arr 147 valE (List.replicate (p.1) (⟨(k : Int), ⟨#[]⟩⟩ : Val)) true))]) [0, 1, 4, 5, 6, 7] [100, 101, 102, 103] (fun p => 9 - (p.1)) ⟨0, by omega⟩ (rn []) ?_ ?_
  exact ⟨by (repeat refine ⟨⟨_, rfl, by first | exact VLe.rf | exact vle_int (by dsimp only; omega)⟩, ?_⟩); exact trivial, by (repeat refine ⟨⟨_, rfl, by first | exact BLe.rf | exact BLe.box AllC.rf | exact BLe.arr (by first | rfl | exact List.replicate_succ'.symm)⟩, ?_⟩); exact trivial, by repeat (first | exact trivial | refine ⟨⟨rfl, by first | (left; intro h; cases h) | (right; rfl), by first | exact (fun _ h => ⟨_, h⟩) | exact (fun _ _ => ⟨_, rfl⟩) | (intro _ h; cases h)⟩, ?_⟩), rfl⟩
  rintro ⟨i, hinv⟩
  dsimp only
  have hi := hinv
  refine AW_seq ?_
  refine AW_seq ?_
  refine AW_region ?_
  refine AL_p (x_move rfl rfl) ?_
  refine AL_p (x_move rfl rfl) ?_
  refine AL_b (x_lss rfl rfl rfl) (fun b19 h19 => ?_)
  refine AL_nil ?_
  cases b19
  · try simp only [tdy] at h19
    obtain rfl : i = ar.toNat := by omega
    refine AW_condF rfl ?_
    refine AW_exit (BQ_hit ?_)
    refine AW_region ?_
    refine AL_p (x_field (off := 1) (o' := 1) rfl rfl rfl (by kernel_rfl) rfl) ?_
    refine AL_p (x_load1 rfl rfl rfl (by kernel_rfl) rfl) ?_
    refine AL_p (x_loadN (n := 1) rfl rfl rfl (by kernel_rfl) rfl rfl) ?_
    refine AL_p (y_bslice (E := 72) (e := rowE) [.tmp 31] ([List.replicate ar.toNat ⟨(k : Int), ⟨#[]⟩⟩]) 107 rfl rfl rfl rfl rfl rfl rfl rfl FitL.rf rfl rfl rfl rfl rfl rfl (by kernel_rfl)) ?_
    refine AL_p (y_append 108 rfl rfl rfl rfl rfl rfl rfl rfl (by kernel_rfl) (by simp; omega)) ?_
    refine AL_p (x_field (off := 1) (o' := 1) rfl rfl rfl (by kernel_rfl) rfl) ?_
    refine AL_p (x_store (n := 1) rfl rfl rfl rfl (by kernel_rfl) rfl rfl rfl) ?_
    refine AL_nil ?_
    refine AW_region ?_
    refine AL_p (x_move rfl rfl) ?_
    refine AL_p (x_add rfl rfl rfl (IntWalk.i64_in _ (by omega))) ?_
    refine AL_p (x_assign rfl rfl) ?_
    refine AL_nil ?_
    refine ⟨⟨k + 1, by omega⟩, rn [(102, 108)], ?_, by dsimp only; omega⟩
    exact ⟨by (repeat refine ⟨⟨_, rfl, by first | exact VLe.rf | exact vle_int (by dsimp only; omega)⟩, ?_⟩); exact trivial, by (repeat refine ⟨⟨_, rfl, by first | exact BLe.rf | exact BLe.box AllC.rf | exact BLe.arr (by first | rfl | simp [List.range_succ])⟩, ?_⟩); exact trivial, by repeat (first | exact trivial | refine ⟨⟨rfl, by first | (left; intro h; cases h) | (right; rfl), by first | exact (fun _ h => ⟨_, h⟩) | exact (fun _ _ => ⟨_, rfl⟩) | (intro _ h; cases h)⟩, ?_⟩), rfl⟩
  try simp only [tdy] at h19
  refine AW_condT rfl ?_
  refine AW_skip ?_
  refine AW_seq ?_
  refine AW_block ?_
  refine AW_region ?_
  refine AL_p (x_field (off := 0) (o' := 0) rfl rfl rfl (by kernel_rfl) rfl) ?_
  refine AL_p (x_load1 rfl rfl rfl (by kernel_rfl) rfl) ?_
  refine AL_p (x_move rfl rfl) ?_
  refine AL_p (x_build (zs := [.int .i64 0, .string ⟨#[]⟩]) (places := [(0, 1), (1, 1)]) rfl (by kernel_rfl) rfl rfl rfl rfl rfl) ?_
  refine AL_p (y_bslice (E := 147) (e := valE) [.tmp 25] ([⟨(k : Int), ⟨#[]⟩⟩]) 105 rfl rfl rfl rfl rfl rfl rfl rfl FitL.rf rfl rfl rfl rfl rfl rfl (by kernel_rfl)) ?_
  refine AL_p (y_append 106 rfl rfl rfl rfl rfl rfl rfl rfl (by kernel_rfl) (by simp; omega)) ?_
  refine AL_p (x_field (off := 0) (o' := 0) rfl rfl rfl (by kernel_rfl) rfl) ?_
  refine AL_p (x_store (n := 1) rfl rfl rfl rfl (by kernel_rfl) rfl rfl rfl) ?_
  refine AL_nil ?_
  refine AW_region ?_
  refine AL_p (x_move rfl rfl) ?_
  refine AL_p (x_add rfl rfl rfl (IntWalk.i64_in _ (by omega))) ?_
  refine AL_p (x_assign rfl rfl) ?_
  refine AL_nil ?_
  refine ⟨⟨i + 1, by omega⟩, rn [(104, 106)], ?_, by dsimp only; omega⟩
  exact ⟨by (repeat refine ⟨⟨_, rfl, by first | exact VLe.rf | exact vle_int (by dsimp only; omega)⟩, ?_⟩); exact trivial, by (repeat refine ⟨⟨_, rfl, by first | exact BLe.rf | exact BLe.box AllC.rf | exact BLe.arr (by first | rfl | exact List.replicate_succ'.symm)⟩, ?_⟩); exact trivial, by repeat (first | exact trivial | refine ⟨⟨rfl, by first | (left; intro h; cases h) | (right; rfl), by first | exact (fun _ h => ⟨_, h⟩) | exact (fun _ _ => ⟨_, rfl⟩) | (intro _ h; cases h)⟩, ?_⟩), rfl⟩
end Go.Proofs.YtibhoanjglfaoaaGreat

/- Draws (printed by walk.py) -/
namespace Go.Proofs.YtibhoanjglfaoaaGreat
open Go.RowKit
set_option linter.unusedVariables false
set_option linter.unusedSimpArgs false
set_option maxRecDepth 100000

end Go.Proofs.YtibhoanjglfaoaaGreat

/- The abstract walk: a field of an element of an own array written anew. -/
namespace Go.Proofs.YtibhoanjglfaoaaGreat
open Go.RowKit
set_option linter.unusedVariables false
section ops
variable {P : Program} {N : Nat} {s : St} {ty : TypeId} {pos : String} {after : Array Edge} {gd : Option (Nat × Bool)}
theorem x_ofstore {α : Type} {e : Enc α} {f : α → List Cell} [hc : CellsOf e f] {T E n i k o : Nat} {x y : Operand} {X : AVal} {xs : List α} (x' : α) {A B C ds ds' : List Cell} {js : List Nat} {d1 d2 : Bool} (h : evo s.t x = some (.one (.optr k i o))) (hl : lkl s.l k = some (.arr E e xs d1)) (h2 : evo s.t y = some X) (hf : X.flat = true)
    (hT : sizeT P T = some n) (hn : X.cells.length = n) (hsol : X.cells.all (solid s.l) = true) (hmv : mvC s.l X.cells = some (ds, js, d2)) (hfit : FitL ds ds') (hnd : noDup js = true) (hkj : noId k js = true) (hi : i < xs.length)
    (hA : f xs[i] = A ++ (B ++ C)) (hAo : A.length = o) (hB : B.length = n) (hx' : f x' = A ++ (ds' ++ C)) :
    Stp P N ⟨none, .store T x y, ty, pos, after, gd⟩ s ⟨s.t, (k, some (.arr E e (xs.set i x') (d1 && d2))) :: (gones js ++ s.l)⟩ ⟨rdo x (.one (.optr k i o)) ++ rdo y X, (k, .arr E e xs d1) :: rlC s.l X.cells, [], (k, some (.arr E e (xs.set i x') (d1 && d2))) :: gones js, []⟩ := by
  refine ⟨fun K g s' a w hpre r => ?_, ⟨two_rd h h2, fun p hp => by
    rcases List.mem_cons.1 hp with rfl | hp
    · exact hl
    · exact rlC_self p hp, by simp⟩, by simp [Cert.upd]⟩
  obtain ⟨p1, p2, _⟩ := hpre
  have hk : lkl s'.l k = some (.arr E e xs d1) := p2 (k, .arr E e xs d1) (List.mem_cons_self ..)
  have p2' : ∀ p ∈ rlC s.l X.cells, lkl s'.l p.1 = some p.2 := fun p hp => p2 p (List.mem_cons_of_mem _ hp)
  have ha : a.eval x = .pointer (some ⟨g.ρ k, i * e.size + o, none⟩) := (eval_ok r (evs_of h) fun p hm => p1 p (List.mem_append_left _ hm) : CellR g s'.l w _ (.optr k i o)) _ _ _ _ _ hk
  have hv := eval_ok r (evs_of h2) fun p hm => p1 p (List.mem_append_right _ hm)
  have hs' : X.cells.all (solid s'.l) = true := List.all_eq_true.2 fun z hz => solid_of p2' hz (List.all_eq_true.1 hsol z hz)
  have hall := vr1_cells hs' r.mem hv hf
  have hmv' := mvC_of hmv p2'
  have hjn := noDup_of hnd
  have hkj' := noId_of hkj
  have hgone : ∀ j ∈ js, ∃ (α : Type) (T : TypeId) (e : Enc α) (xs : List α) (d : Bool), lkl s'.l j = some (.arr T e xs d) := fun j hj => (mvC_gone hmv' j hj).1
  obtain ⟨b', f1, f2, f3⟩ := mvC_ok r.mem hall hmv' hjn
  have hlen : (a.eval y).cells.size = n := by rw [← hn]; simpa using hall.len
  have hll : (a.eval y).cells.toList.length = n := by simpa using hlen
  rcases r.mem.arr k _ _ _ _ _ hk with ⟨rfl, _⟩ | ⟨cap, vs, bss, g1, g2, g3, g4, g5, g6, g7, g8, g9⟩
  · simp at hi
  have hlv : g.hd k ≠ .slice none 0 0 := by rw [g1]; intro e; cases e
  have hib : i < bss.length := by rw [g6.1]; exact hi
  obtain ⟨us, hus, hcell⟩ := g6.2 i xs[i] bss[i] (List.getElem?_eq_getElem hi) (List.getElem?_eq_getElem hib)
  have hul := e.len hus
  have hfr := hc.iff.1 hus
  rw [hA] at hfr
  obtain ⟨u1, ur, c1, cr, eu, ec, fr1, fr2⟩ := FR.app.1 hfr
  obtain ⟨u2, u3, c2, c3, eu2, ec2, fr3, fr4⟩ := FR.app.1 fr2
  have l1 : u1.length = o := by rw [fr1.length]; exact hAo
  have l2 : u2.length = n := by rw [fr3.length]; exact hB
  subst eu; subst eu2
  have l3 : o + n + u3.length = e.size := by rw [← hul]; simp [l1, l2]; omega
  have hfitc : i * e.size + o + n ≤ vs.size := by
    rw [g5]
    have : (i + 1) * e.size ≤ cap * e.size := Nat.mul_le_mul_right _ (by omega)
    rw [Nat.add_mul] at this; omega
  have one : ∀ v ∈ (a.eval y).cells.toList, v.oneCell' = true := FR.one f1
  have hst := run_storeCells_at P (g.ρ k) (i * e.size + o) E (a.eval y).cells.toList 0 vs w g4 (by rw [hll]; simpa using hfitc) one
  generalize hnew : (vs.toList.take (i * e.size + o) ++ (a.eval y).cells.toList ++ vs.toList.drop (i * e.size + o + (a.eval y).cells.toList.length)).toArray = new at *
  have hng : ∀ q, new[q]? = if i * e.size + o ≤ q ∧ q < i * e.size + o + n then (a.eval y).cells.toList[q - (i * e.size + o)]? else vs[q]? := fun q => by
    rw [← hnew, List.getElem?_toArray]
    have hl0 : (vs.toList.take (i * e.size + o)).length = i * e.size + o := by simp; omega
    rcases Nat.lt_or_ge q (i * e.size + o) with hq | hq
    · rw [if_neg (by omega), List.append_assoc, List.getElem?_append_left (by omega), List.getElem?_take, if_pos hq]; simp
    · rw [List.append_assoc, List.getElem?_append_right (by omega), hl0]
      rcases Nat.lt_or_ge q (i * e.size + o + n) with hq2 | hq2
      · rw [if_pos ⟨hq, hq2⟩, List.getElem?_append_left (by omega)]
      · rw [if_neg (by omega), List.getElem?_append_right (by omega), List.getElem?_drop, hll, show i * e.size + o + n + (q - (i * e.size + o) - n) = q by omega]; simp
  have hns : new.size = vs.size := by rw [← hnew]; simp; omega
  have hwk : (w.setRow (g.ρ k) new).heap[g.ρ k]? = some (.cells new E (0, 0)) := setRow_heap w _ _ _ E _ g4
  have hwo : ∀ b, b ≠ g.ρ k → (w.setRow (g.ρ k) new).heap[b]? = w.heap[b]? := fun b hb => setRow_other w _ b _ hb
  have hsz : (w.setRow (g.ρ k) new).heap.size = w.heap.size := by simp
  have hbk' : ∀ b ∈ b', b ≠ g.ρ k := fun b hb eq => by
    rcases f2 b hb with h3 | ⟨j, hj, h3, h4⟩
    · exact g8 (eq ▸ h3)
    · obtain ⟨_, _, _, _, _, h5⟩ := hgone j hj
      exact r.mem.dis j k _ _ (fun e => hkj' (e ▸ hj)) h5 hk h3 hlv (h4 ▸ eq)
  have hold : ∀ b ∈ bss[i], b ∈ bss.flatten := fun b hb => List.mem_flatten.2 ⟨_, List.getElem_mem hib, hb⟩
  have hc1 : ∀ b ∈ c1, b ∈ bss[i] := fun b hb => by rw [ec]; exact List.mem_append_left _ hb
  have hc3 : ∀ b ∈ c3, b ∈ bss[i] := fun b hb => by rw [ec, ec2]; exact List.mem_append_right _ (List.mem_append_right _ hb)
  have hbn : ∀ b ∈ c1 ++ (b' ++ c3), b ∈ b' ∨ b ∈ bss[i] := fun b hb => by
    rcases List.mem_append.1 hb with hb | hb
    · exact .inr (hc1 b hb)
    · rcases List.mem_append.1 hb with hb | hb
      · exact .inl hb
      · exact .inr (hc3 b hb)
  have hbk : ∀ b ∈ c1 ++ (b' ++ c3), b ≠ g.ρ k := fun b hb eq => by
    rcases hbn b hb with hb | hb
    · exact hbk' b hb eq
    · exact g8 (eq ▸ g7 b (hold b hb))
  have hrep : e.rep w (u1 ++ ((a.eval y).cells.toList ++ u3)) x' (c1 ++ (b' ++ c3)) := hc.iff.2 (by
    rw [hx']
    exact FR.app.2 ⟨u1, _, c1, _, rfl, rfl, fr1, FR.app.2 ⟨_, u3, b', c3, rfl, rfl, f1.fit hfit, fr4⟩⟩)
  have hE := g6.upd (w' := w.setRow (g.ρ k) new) (k := i) (x' := x') (b' := c1 ++ (b' ++ c3)) (e.keep hrep (fun b hb => hwo b (hbk b hb)) (Nat.le_of_eq hsz.symm)) (fun j u hu => by
      have hj := (List.getElem?_eq_some_iff.1 hu).1
      simp only [List.length_append, l1, hll] at hj
      rw [cell_of_heap hwk, hng]
      by_cases h1 : j < o
      · rw [if_neg (by omega)]
        rw [List.getElem?_append_left (by omega)] at hu
        have := hcell j u (by rw [List.getElem?_append_left (by omega)]; exact hu)
        rw [cell_of_heap g4] at this; exact this
      · rw [List.getElem?_append_right (by omega), l1] at hu
        by_cases h2 : j - o < n
        · rw [if_pos (by omega), show 0 + i * e.size + j - (i * e.size + o) = j - o by omega]
          rw [List.getElem?_append_left (by omega)] at hu; exact hu
        · rw [if_neg (by omega)]
          rw [List.getElem?_append_right (by omega), hll] at hu
          have := hcell j u (by rw [List.getElem?_append_right (by omega), List.getElem?_append_right (by omega), l1, l2]; exact hu)
          rw [cell_of_heap g4] at this; exact this) (fun q hq => by
      rw [cell_of_heap hwk, hng, cell_of_heap g4, if_neg (by rw [Nat.add_mul] at hq; omega)]) (fun q b hq hb c hcb => hwo c fun eq => g8 (eq ▸ g7 c (List.mem_flatten.2 ⟨b, List.mem_of_getElem? hb, hcb⟩))) (Nat.le_of_eq hsz.symm)
  have hmem : ∀ b ∈ (bss.set i (c1 ++ (b' ++ c3))).flatten, g.I b ∨ liveA g js b := fun b hb => by
    rcases flatten_set bss hib b hb with h3 | h3
    · rcases hbn b h3 with h3 | h3
      · exact f2 b h3
      · exact .inl (g7 b (hold b h3))
    · exact .inl (g7 b h3)
  obtain ⟨g', q1, q2, q3, q4, q5, q6, q7⟩ := arr_put (w' := w.setRow (g.ρ k) new) r.mem hk hlv hkj' hgone (xs := xs.set i x') (d := d1 && d2) (fp := (bss.set i (c1 ++ (b' ++ c3))).flatten) rfl rfl rfl hsz hwo
    (.inr ⟨cap, new, bss.set i (c1 ++ (b' ++ c3)), by rw [List.length_set]; exact g1, by rw [List.length_set]; exact g2, g3, hwk, hns.trans g5, hE, hmem, (fun hI => by
      rcases hI with hI | ⟨j, hj, h3, h4⟩
      · exact g8 hI
      · obtain ⟨_, _, _, _, _, h5⟩ := hgone j hj
        exact r.mem.dis j k _ _ (fun e => hkj' (e ▸ hj)) h5 hk h3 hlv h4.symm), fun _ => setAt_self⟩)
    (fun hd => by
      simp only [Bool.and_eq_true] at hd
      obtain ⟨rfl, rfl⟩ := hd
      obtain ⟨n1, n2⟩ := f3 rfl
      have hF := g9 rfl
      have hvk : ∀ b ∈ bss.flatten, Via g s'.l k b := fun b hb => ⟨α, E, e, xs, hk, .inr (by rw [hF]; exact hb)⟩
      have hfn : bss.flatten.Nodup := by rw [← hF]; exact (r.mem.fr k _ _ _ _ hk).1
      have hin : bss[i].Nodup := (List.pairwise_flatten.1 hfn).1 _ (List.getElem_mem hib)
      have hdj : ∀ c ∈ b', c ∉ bss.flatten := fun c hcb h3 => by
        obtain ⟨j, hj, hvj⟩ := n2 c hcb
        exact hkj' ((hvk c h3).disj r.mem hvj ▸ hj)
      have hnn : (c1 ++ (b' ++ c3)).Nodup := by
        rw [ec, ec2] at hin
        have h1 := List.nodup_append.1 hin
        have h2 := List.nodup_append.1 h1.2.1
        refine List.nodup_append.2 ⟨h1.1, List.nodup_append.2 ⟨n1, h2.2.1, fun x hx y hy e => ?_⟩, fun x hx y hy e => ?_⟩
        · subst e; exact hdj x hx (hold x (hc3 x hy))
        · subst e
          rcases List.mem_append.1 hy with hy | hy
          · exact hdj x hy (hold x (hc1 x hx))
          · exact h1.2.2 x hx x (List.mem_append_right _ hy) rfl
      refine ⟨nodup_set hnn bss i hib hfn (fun c hcb => by
        rcases hbn c hcb with h3 | h3
        · exact .inr (hdj c h3)
        · exact .inl h3), fun b hb => ⟨hmem b hb, ?_, ?_⟩⟩
      · rcases flatten_set bss hib b hb with h3 | h3
        · rcases hbn b h3 with h4 | h4
          · obtain ⟨j, hj, hvj⟩ := n2 b h4
            obtain ⟨c, t, h5⟩ := hvj.cells r.mem
            exact ⟨c, t, by rw [hwo b (hbk b h3)]; exact h5⟩
          · obtain ⟨c, t, h5⟩ := (hvk b (hold b h4)).cells r.mem
            exact ⟨c, t, by rw [hwo b (hbk b h3)]; exact h5⟩
        · obtain ⟨c, t, h4⟩ := (hvk b h3).cells r.mem
          exact ⟨c, t, by rw [hwo b fun eq => g8 (eq ▸ g7 b h3)]; exact h4⟩
      · rcases flatten_set bss hib b hb with h3 | h3
        · rcases hbn b h3 with h4 | h4
          · exact .inr (n2 b h4)
          · exact .inl ⟨rfl, by rw [hF]; exact hold b h4⟩
        · exact .inl ⟨rfl, by rw [hF]; exact h3⟩)
  unfold Oper.wp
  have hrun : (execOp a.eval ⟨none, .store T x y, ty, pos, after, gd⟩).run P w = .ok .skip (w.setRow (g.ρ k) new) := by
    unfold sizeT at hT
    split at hT
    · rename_i ti hti
      cases hT
      simp only [execOp, Instr.storeAt, ha, Instr.sureAddr, storeVar, sizeOf, typeInfo, Sem.run_bind, Sem.run_pure, program, Sem.run, hti, Result.andThen_ok, hlen, ne_eq, not_true_eq_false, if_false]
      rw [hst]; rfl
    · cases hT
  rw [hrun, Oper.upon_skip]
  exact ⟨g', r.next0 q5 q6 (Nat.le_of_eq hsz.symm) (fun j _ => q7 j) q3, q4 K⟩
end ops
end Go.Proofs.YtibhoanjglfaoaaGreat

/- Stores that are drawn (printed by walk.py) -/
namespace Go.Proofs.YtibhoanjglfaoaaGreat
open Go.RowKit
set_option linter.unusedVariables false
set_option linter.unusedSimpArgs false
set_option maxRecDepth 100000

set_option maxHeartbeats 4000000 in
theorem drawStore0 (b : List Int) (c : Cur) (hb : b.length ≤ 1048576) : AC Tryz.prog 72 [.one (.ptr 200 0)] [(200, some (curB b c))] (.agg [.own 0]) [(200, some (curB b (dStore b c).2)), (0, some (.arr 84 namedE (dStore b c).1 true))] := by
  have hd0 := dBelow_lt b c (n := 4) (by decide)
  have hsm := drawSt_sm b (dBelow b c 4).1.toNat (dBelow b c 4).2
  have hsl := hsm.len
  refine AC_bodyC (n := 1) (k := 9) (T := [(2, .one (.ptr 9 0))]) (Lf := ((9, some (.box [.own 0])) :: [(200, some (curB b (dStore b c).2)), (0, some (.arr 84 namedE (dStore b c).1 true))])) Tryz.func72 rfl rfl Tryz.ntmps72 rfl Tryz.results72 rfl rfl (by kernel_rfl) rfl rfl ⟨trivial, (by repeat (first | exact trivial | refine ⟨⟨_, rfl, BLe.rf⟩, ?_⟩)), (by repeat (first | exact trivial | refine ⟨⟨rfl, by first | (left; intro h; cases h) | (right; rfl), by first | exact (fun _ h => ⟨_, h⟩) | exact (fun _ _ => ⟨_, rfl⟩) | (intro _ h; cases h)⟩, ?_⟩)), rfl⟩ ?_
  refine AW_seq ?_
  refine AW_region ?_
  refine AL_p (x_alloc (z := .agg #[.slice none 0 0]) 100 rfl (by kernel_rfl) rfl rfl rfl rfl) ?_
  refine AL_nil ?_
  refine AW_seq ?_
  refine AW_region ?_
  refine AL_p (x_build (zs := [.slice none 0 0]) (places := [(0, 1)]) rfl (by kernel_rfl) rfl rfl rfl rfl rfl) ?_
  refine AL_p (x_alloc (z := .agg #[.slice none 0 0]) 101 rfl (by kernel_rfl) rfl rfl rfl rfl) ?_
  refine AL_p (x_store (n := 1) rfl rfl rfl rfl (by kernel_rfl) rfl rfl rfl) ?_
  refine AL_nil ?_
  refine AW_seq ?_
  refine AW_seq ?_
  refine AW_region ?_
  refine AL_p (x_move rfl rfl) ?_
  refine AL_p (x_call (ks := []) (L := [(200, some _)]) (L' := [(200, some _)]) rfl rfl rfl (below_c b c hb 4) rfl AllV.rf (caught_of rfl) rfl rfl rfl ⟨rfl, trivial⟩ rfl) ?_
  refine AL_p (x_assign rfl rfl) ?_
  refine AL_nil ?_
  refine AW_block ?_
  refine AW_adopt (T := 84) (e := namedE) 102 101 0 rfl rfl rfl rfl rfl ?_
  refine AW_loop2 (ι := {q : Nat // (q : Int) ≤ (dBelow b c 4).1}) (fun p => [(4, .one (.c (.int .i64 ((dBelow b c 4).1 - ((p.1) : Int)))))]) (fun p => [(102, some (.arr 84 namedE (drawSt b (p.1) (dBelow b c 4).2).1 true)), (200, some (curB b (drawSt b (p.1) (dBelow b c 4).2).2))]) [0, 2, 3] [100, 101] (fun p => (dBelow b c 4).1.toNat - (p.1)) ⟨0, by omega⟩ (rn []) ?_ ?_
  exact ⟨by (repeat refine ⟨⟨_, rfl, by first | exact VLe.rf | exact vle_int (by dsimp only; omega)⟩, ?_⟩); exact trivial, by (repeat refine ⟨⟨_, rfl, by first | exact BLe.rf | exact BLe.box AllC.rf | exact BLe.arr (by exact rfl)⟩, ?_⟩); exact trivial, by repeat (first | exact trivial | refine ⟨⟨rfl, by first | (left; intro h; cases h) | (right; rfl), by first | exact (fun _ h => ⟨_, h⟩) | exact (fun _ _ => ⟨_, rfl⟩) | (intro _ h; cases h)⟩, ?_⟩), rfl⟩
  rintro ⟨j, hinv⟩
  dsimp only
  have hj := hinv
  have hj2 := drawSt_sm b j (dBelow b c 4).2
  have hj3 := hj2.len
  have hje := dBelow_lt b (dWord b (drawSt b j (dBelow b c 4).2).2).2 (n := 3) (by decide)
  refine AW_seq ?_
  refine AW_seq ?_
  refine AW_region ?_
  refine AL_p (x_move rfl rfl) ?_
  refine AL_b (x_gtr rfl rfl rfl) (fun b9 h9 => ?_)
  refine AL_nil ?_
  cases b9
  rotate_left
  · try simp only [tdy] at h9
    refine AW_condT rfl ?_
    refine AW_skip ?_
    refine AW_seq ?_
    refine AW_block ?_
    refine AW_draw rfl ?_
    refine AL_p (x_loadN (n := 1) rfl rfl rfl (by kernel_rfl) rfl rfl) ?_
    refine AL_p (x_move rfl rfl) ?_
    refine AL_p (x_call (ks := []) (L := [(200, some _)]) (L' := [(200, some _)]) rfl rfl rfl (word_c b (drawSt b j (dBelow b c 4).2).2 hb) rfl AllV.rf (caught_of rfl) rfl rfl rfl ⟨rfl, trivial⟩ rfl) ?_
    refine AL_p (x_move rfl rfl) ?_
    refine AL_p (x_move rfl rfl) ?_
    refine AL_p (x_call (ks := []) (L := [(200, some _)]) (L' := [(200, some _)]) rfl rfl rfl (below_c b (dWord b (drawSt b j (dBelow b c 4).2).2).2 hb 3) rfl AllV.rf (caught_of rfl) rfl rfl rfl ⟨rfl, trivial⟩ rfl) ?_
    refine AL_p (x_call (ks := []) (L := [(200, some _)]) (L' := [(200, some _), (103, some _)]) rfl rfl rfl (drawRel_c b (dBelow b (dWord b (drawSt b j (dBelow b c 4).2).2).2 3).2 (dBelow b (dWord b (drawSt b j (dBelow b c 4).2).2).2 3).1 (by omega) hb 103 rfl) rfl AllV.rf (caught_of rfl) rfl rfl rfl ⟨rfl, trivial⟩ rfl) ?_
    refine AL_p (x_callR rfl rfl rfl (l12Set_c (drawSt b j (dBelow b c 4).2).1 (dWord b (drawSt b j (dBelow b c 4).2).2).1 (dRel b (dBelow b (dWord b (drawSt b j (dBelow b c 4).2).2).2 3).1 (dBelow b (dWord b (drawSt b j (dBelow b c 4).2).2).2 3).2).1 (by omega) (fun y hy => namedSm_small (hj2.all y hy)) (relSm_small (dRel_sm b (dBelow b (dWord b (drawSt b j (dBelow b c 4).2).2).2 3).2 (by omega))) 104) rfl ⟨V1Le.rf, V1Le.rf, V1Le.rf, trivial⟩ rfl rfl rfl rfl rfl) ?_
    refine AL_p (x_store (n := 1) rfl rfl rfl rfl (by kernel_rfl) rfl rfl rfl) ?_
    refine AL_nild (by kernel_rfl) ?_
    refine AW_region ?_
    refine AL_p (x_move rfl rfl) ?_
    refine AL_p (x_sub rfl rfl rfl (IntWalk.i64_in _ (by omega))) ?_
    refine AL_p (x_assign rfl rfl) ?_
    refine AL_nil ?_
    refine ⟨⟨j + 1, by omega⟩, rn [(102, 104)], ?_, by dsimp only; omega⟩
    exact ⟨by (repeat refine ⟨⟨_, rfl, by first | exact VLe.rf | exact vle_int (by dsimp only; omega)⟩, ?_⟩); exact trivial, by (repeat refine ⟨⟨_, rfl, by first | exact BLe.rf | exact BLe.box AllC.rf | exact BLe.arr (by exact rfl)⟩, ?_⟩); exact trivial, by repeat (first | exact trivial | refine ⟨⟨rfl, by first | (left; intro h; cases h) | (right; rfl), by first | exact (fun _ h => ⟨_, h⟩) | exact (fun _ _ => ⟨_, rfl⟩) | (intro _ h; cases h)⟩, ?_⟩), rfl⟩
  try simp only [tdy] at h9
  obtain rfl : j = (dBelow b c 4).1.toNat := by omega
  refine AW_condF rfl ?_
  refine AW_exit (BQ_hit ?_)
  refine AW_seq ?_
  refine AW_seq ?_
  refine AW_region ?_
  refine AL_p (x_move rfl rfl) ?_
  refine AL_p (x_call (ks := []) (L := [(200, some _)]) (L' := [(200, some _)]) rfl rfl rfl (below_c b (drawSt b (dBelow b c 4).1.toNat (dBelow b c 4).2).2 hb 25) rfl AllV.rf (caught_of rfl) rfl rfl rfl ⟨rfl, trivial⟩ rfl) ?_
  refine AL_b (x_eql rfl rfl rfl) (fun b22 h22 => ?_)
  refine AL_nil ?_
  cases b22
  · try simp only [tdy] at h22
    have hno : dStore b c = ((drawSt b (dBelow b c 4).1.toNat (dBelow b c 4).2).1, (dBelow b (drawSt b (dBelow b c 4).1.toNat (dBelow b c 4).2).2 25).2) := if_neg (by omega)
    refine AW_condF rfl ?_
    refine AW_skip ?_
    refine AW_seq ?_
    refine AW_region ?_
    refine AL_p (x_loadN (n := 1) rfl rfl rfl (by kernel_rfl) rfl rfl) ?_
    refine AL_p (x_store (n := 1) rfl rfl rfl rfl (by kernel_rfl) rfl rfl rfl) ?_
    refine AL_nil ?_
    refine AW_ret ?_
    exact ⟨rn [(9, 100), (0, 102)], ⟨⟨⟨_, rfl, VLe.rf⟩, trivial⟩, ⟨⟨_, rfl, by first | exact BLe.rf | exact ble_eq (by rw [hno]; first | done | rfl)⟩, ⟨_, rfl, by first | exact BLe.rf | exact ble_eq (by rw [hno]; first | done | rfl)⟩, ⟨_, rfl, by first | exact BLe.rf | (refine BLe.arr ?_; rw [hno]; first | done | rfl)⟩, trivial⟩, by repeat (first | exact trivial | refine ⟨⟨rfl, by first | (left; intro h; cases h) | (right; rfl), by first | exact (fun _ h => ⟨_, h⟩) | exact (fun _ _ => ⟨_, rfl⟩) | (intro _ h; cases h)⟩, ?_⟩), rfl⟩⟩
  try simp only [tdy] at h22
  have hno : dStore b c = (setRel (drawSt b (dBelow b c 4).1.toNat (dBelow b c 4).2).1 ⟨bigName, dFull 2 300⟩, (dBelow b (drawSt b (dBelow b c 4).1.toNat (dBelow b c 4).2).2 25).2) := if_pos (by omega)
  refine AW_condT rfl ?_
  refine AW_draw rfl ?_
  refine AL_p (x_loadN (n := 1) rfl rfl rfl (by kernel_rfl) rfl rfl) ?_
  refine AL_p (x_call0 rfl rfl rfl (full_c 2 300 (by decide) (by decide)) rfl rfl) ?_
  refine AL_p (x_callR rfl rfl rfl (l12Set_c (drawSt b (dBelow b c 4).1.toNat (dBelow b c 4).2).1 bigName (dFull 2 300) (by omega) (fun y hy => namedSm_small (hsm.all y hy)) (relSm_small (dFull_sm (by decide) (by decide))) 105) rfl ⟨V1Le.rf, V1Le.rf, V1Le.rf, trivial⟩ rfl rfl rfl rfl rfl) ?_
  refine AL_p (x_store (n := 1) rfl rfl rfl rfl (by kernel_rfl) rfl rfl rfl) ?_
  refine AL_nild (by kernel_rfl) ?_
  refine AW_seq ?_
  refine AW_region ?_
  refine AL_p (x_loadN (n := 1) rfl rfl rfl (by kernel_rfl) rfl rfl) ?_
  refine AL_p (x_store (n := 1) rfl rfl rfl rfl (by kernel_rfl) rfl rfl rfl) ?_
  refine AL_nil ?_
  refine AW_ret ?_
  exact ⟨rn [(9, 100), (0, 105)], ⟨⟨⟨_, rfl, VLe.rf⟩, trivial⟩, ⟨⟨_, rfl, by first | exact BLe.rf | exact ble_eq (by rw [hno]; first | done | rfl)⟩, ⟨_, rfl, by first | exact BLe.rf | exact ble_eq (by rw [hno]; first | done | rfl)⟩, ⟨_, rfl, by first | exact BLe.rf | (refine BLe.arr ?_; rw [hno]; first | done | rfl)⟩, trivial⟩, by repeat (first | exact trivial | refine ⟨⟨rfl, by first | (left; intro h; cases h) | (right; rfl), by first | exact (fun _ h => ⟨_, h⟩) | exact (fun _ _ => ⟨_, rfl⟩) | (intro _ h; cases h)⟩, ?_⟩), rfl⟩⟩
theorem drawStore_c (b : List Int) (c : Cur) (hb : b.length ≤ 1048576) (k : Nat) (hk : Nat.beq k 200 = false) : AC Tryz.prog 72 [.one (.ptr 200 0)] [(200, some (curB b c))] (.agg [.own k]) [(200, some (curB b (dStore b c).2)), (k, some (.arr 84 namedE (dStore b c).1 true))] := AC.cur (drawStore0 b c hb) k hk aggOwn (fun _ => rfl)

end Go.Proofs.YtibhoanjglfaoaaGreat

/- Functions of the library on rows (printed by walk.py) -/
namespace Go.Proofs.YtibhoanjglfaoaaGreat
open Go.RowKit
set_option linter.unusedVariables false
set_option linter.unusedSimpArgs false
set_option maxRecDepth 100000


theorem insNamed_T : ∃ i z, Tryz.prog.underlying 30 = some (.slice 84) ∧ Tryz.prog.info? 84 = some i ∧ i.zero = some z ∧ z.cells.size = 3 ∧ i.size = 3 ∧ i.bytes = 48 := by
  obtain ⟨hu, hn0, ti, z, hti, hz, hzs, htis, htib⟩ := arrT_spec (P := Tryz.prog) (T := 30) (E := 84) (n := 3) (b := 48) (by kernel_rfl)
  exact ⟨ti, z, hu, hti, hz, hzs, htis, htib⟩
set_option maxHeartbeats 4000000 in
set_option maxRecDepth 100000 in
theorem insNamed_end (w : World) (base : Option Addr) (n c i : Nat) (cells news : List Value) (vb vc m : Nat) (hown : w.ownsRow 0 84 3 (.slice base n c) n cells) (hu : w.ownsRow 0 84 3 (.slice (some ⟨vb, 0, none⟩) m vc) m news) (hin : i = n) (hm : 0 < m) (hm1 : m ≤ 1000) (hn : n ≤ 100000000) (hc63 : c ≤ 9223372036854775807) (h1 : ∀ u ∈ news, u.oneCell' = true) (hnc : n ≤ c) :
    Calls Tryz.prog 92 #[.slice base n c, .int .i64 (i : Int), .slice (some ⟨vb, 0, none⟩) m vc] w fun en w' => ∃ v', en = .returned v' ∧ w'.ownsRow 0 84 3 v' (n + m) (cells ++ news) ∧ w.grownBy w' (Value.slice base n c).ownBlock ∧ ∀ b, v'.ownBlock = some b → (Value.slice base n c).ownBlock = some b ∨ w.heap.size ≤ b := by
  subst hin
  obtain ⟨ti, z, hT, hti, hz, hzs, htis, htib⟩ := insNamed_T
  obtain ⟨v', w', q1, q2, q3, q4⟩ := run_app (P := Tryz.prog) w 30 30 84 ti z 3 48 hT hti hz htis htib hzs (by decide) _ _ _ hown ⟨vb, 0, none⟩ m vc news hu.1 (hu.cells rfl) h1 (by unfold maxLen; omega) (by omega)
  have hi : (0 : Int) ≤ (i : Int) := by omega
  have hz1 : ¬ ((m : Int) = 0) := by omega
  clear hown hu
  by_cases hci : c = i
  · subst hci
    go_enter Tryz.func92, Tryz.ntmps92
    go_wp2_with (at_builtin; refine Lib.wpList_append_run _ rfl _ _ _ _ rfl _ _ rfl rfl _ _ q1 ?_)
    go_ret
    exact ⟨v', rfl, q2, q3, q4⟩
  · go_enter Tryz.func92, Tryz.ntmps92
    go_wp2_with (at_builtin; refine Lib.wpList_append_run _ rfl _ _ _ _ rfl _ _ rfl rfl _ _ q1 ?_)
    go_ret
    exact ⟨v', rfl, q2, q3, q4⟩
set_option maxHeartbeats 4000000 in
set_option maxRecDepth 100000 in
theorem insNamed_shift (w : World) (g n c i : Nat) (cur : Array Value) (cells news : List Value) (vb vc m : Nat) (vcur : Array Value) (hg : w.heap[g]? = some (.cells cur 84 (0, 0))) (hgv : w.heap[vb]? = some (.cells vcur 84 (0, 0))) (hne : vb ≠ g) (hcs : cur.size = c * 3) (htk : cur.toList.take (n * 3) = cells) (hl : cells.length = n * 3) (hnv : ∀ j u, news[j]? = some u → w.cell? ((⟨vb, 0, none⟩ : Addr).add j) = some u) (hnl : news.length = m * 3)
    (hin : i < n) (hroom : n + m ≤ c) (hm : 0 < m) (hc63 : c ≤ 9223372036854775807) (h1 : ∀ u ∈ cells ++ news, u.oneCell' = true) (hvs : vcur.size = vc * 3) (hv1 : m ≤ vc) :
    Calls Tryz.prog 92 #[.slice (some ⟨g, 0, none⟩) n c, .int .i64 (i : Int), .slice (some ⟨vb, 0, none⟩) m vc] w fun en w' => en = .returned (.slice (some ⟨g, 0, none⟩) (n + m) c) ∧ w'.heap[g]? = some (.cells (cells.take (i * 3) ++ news ++ cells.drop (i * 3) ++ cur.toList.drop ((n + m) * 3)).toArray 84 (0, 0)) ∧ w.grownBy w' (some g) := by
  obtain ⟨ti, z, hT, hti, hz, hzs, htis, htib⟩ := insNamed_T
  have hsz : (Tryz.prog.info? 84).map (·.size) = some 3 := by rw [hti]; simp [htis]
  have hov : ∀ (W : World), W.heap = w.heap → ∀ lb cb, (callFunc 128 #[.slice (some ⟨vb, 0, none⟩) m vc, .slice (some ⟨g, ((i + m) * 3), none⟩) lb cb]).run Tryz.prog W = .ok (.value (.bool false)) W := fun W hW lb cb => by
    rw [run_callFunc_extern Tryz.func128 (by kernel_rfl) (by kernel_rfl) (by kernel_rfl) (e := Extern.SlicesOverlaps.overlaps #[30, 30] #[4]) (by kernel_rfl),
      Lib.run_overlaps_apart W 30 4 84 hT 3 (by intro w; simp [Go.sizeOf, typeInfo, hti, htis]) ⟨vb, 0, none⟩ ⟨g, ((i + m) * 3), none⟩ m vc lb cb hne 84 84 vcur.size cur.size (by simp [World.shape?, hW, hgv]) (by simp [World.shape?, hW, hg]) (by rw [hcs]; omega) (by simp [World.frozen?, hW, hgv]) (by simp [World.frozen?, hW, hgv])]
    rfl
  obtain ⟨A1, hA1⟩ : ∃ A1, A1 = (cur.toList.take ((i + m) * 3) ++ cells.drop (i * 3) ++ cur.toList.drop ((n + m) * 3)) := ⟨_, rfl⟩
  have hcur : cur.toList.length = c * 3 := by rw [← hcs, Array.length_toList]
  have hdl : (cells.drop (i * 3)).length = (n - i) * 3 := by rw [List.length_drop, hl]; omega
  have hcp1 : ∀ W : World, W.heap = w.heap → ∀ ty dc sc, (Builtin.copy_ #[30, 30] ty #[.slice (some ⟨g, ((i + m) * 3), none⟩) (n + m - (i + m)) dc, .slice (some ⟨g, ((i) * 3), none⟩) (n + m - i) sc]).run Tryz.prog W = .ok (goInt (n - i : Nat)) (W.setRow g A1.toArray) := fun W hW ty dc sc => by
    have hmn : Nat.min (n + m - i) (n + m - (i + m)) = n - i := by simp only [Nat.min_def]; split <;> omega
    have := run_copy_rowK (P := Tryz.prog) W 30 30 ty 84 3 g ((i + m) * 3) (n + m - (i + m)) dc ⟨g, ((i) * 3), none⟩ (n + m - i) sc cur 84 (cells.drop (i * 3)) hT hsz (by rw [hW]; exact hg) (by rw [hmn, hdl])
      (fun j v hj => by
        rw [Addr.add_lit, cell_of_row W g _ cur 84 (0, 0) (by rw [hW]; exact hg)]
        rw [List.getElem?_drop, ← htk, List.getElem?_take] at hj
        split at hj
        · simpa using hj
        · cases hj) (by rw [hdl, hcs]; omega) (fun v hv => h1 v (List.mem_append_left _ (List.mem_of_mem_drop hv)))
    rw [hmn] at this
    rw [this, hA1, hdl]
    have e : ((i + m) * 3) + (n - i) * 3 = (n + m) * 3 := by omega
    rw [e]
    try simp only [Nat.mul_one]
  have hA1l : A1.length = c * 3 := by rw [hA1]; simp [hdl, hcur]; omega
  have hcp2 : ∀ W0 : World, W0.heap = w.heap → ∀ ty dc, (Builtin.copy_ #[30, 30] ty #[.slice (some ⟨g, ((i) * 3), none⟩) (n + m - i) dc, .slice (some ⟨vb, 0, none⟩) m vc]).run Tryz.prog (W0.setRow g A1.toArray) = .ok (goInt m) ((W0.setRow g A1.toArray).setRow g (cells.take (i * 3) ++ news ++ cells.drop (i * 3) ++ cur.toList.drop ((n + m) * 3)).toArray) := fun W0 hW0 ty dc => by
    have hW : (W0.setRow g A1.toArray).heap[g]? = some (.cells A1.toArray 84 (0, 0)) := setRow_heap W0 g cur _ _ _ (by rw [hW0]; exact hg)
    have hWv : (W0.setRow g A1.toArray).heap[vb]? = w.heap[vb]? := (setRow_other W0 g vb _ hne).trans (by rw [hW0])
    generalize W0.setRow g A1.toArray = W at *
    have hmn : Nat.min m (n + m - i) = m := by simp only [Nat.min_def]; split <;> omega
    have := run_copy_rowK (P := Tryz.prog) W 30 30 ty 84 3 g ((i) * 3) (n + m - i) dc ⟨vb, 0, none⟩ m vc A1.toArray 84 news hT hsz hW (by rw [hmn, hnl]) (fun j v hj => by
        have h2 := hnv j v hj
        rw [Addr.add_lit] at h2 ⊢
        simp only [World.cell?, hWv] at h2 ⊢
        exact h2) (by rw [hnl, List.size_toArray, hA1l]; omega) (fun v hv => h1 v (List.mem_append_right _ hv))
    rw [hmn] at this
    rw [this]
    congr 3
    have hx := insRow (A := cur.toList) (C := cells) (N := news) (x := i * 3) (y := (i + m) * 3) (z := (n + m) * 3) (by rw [hl]; omega) (by rw [hnl]; omega) (by rw [hl, hnl]; omega) (by rw [hl]; exact htk) (by rw [hcur]; omega)
    rw [hA1]
    first | exact hx | simpa only [Nat.mul_one] using hx
  have hz1 : ¬ ((m : Int) = 0) := by omega
  have hz2 : ¬ ((i : Int) = (n : Int)) := by omega
  have hw1 : IntKind.i64.wrap ((i : Int) + (m : Int)) = (i : Int) + (m : Int) := by rw [IntKind.wrap_i64]; omega
  have hw2 : IntKind.i64.wrap ((n : Int) + (m : Int)) = (n : Int) + (m : Int) := by rw [IntKind.wrap_i64]; omega
  have hw3 : ¬ ((c : Int) < (n : Int) + (m : Int)) := by omega
  have hb1 : (0 : Int) ≤ (i : Int) + (m : Int) := by omega
  have hb1' : (0 : Int) ≤ (n : Int) + (m : Int) := by omega
  have hin' : i ≤ n := by omega
  have htn : ((i : Int) + (m : Int)).toNat = i + m := by omega
  have htn2 : ((n : Int) + (m : Int)).toNat = n + m := by omega
  have hb2 : ¬ (c = i + m) := by omega
  have hb3 : (i : Int) ≤ (n : Int) + (m : Int) := by omega
  have hb3' : (i : Int) + (m : Int) ≤ (n : Int) + (m : Int) := by omega
  have hb5 : (n : Int) + (m : Int) ≤ (c : Int) := by omega
  have hb4 : ¬ (c = i) := by omega
  have hgw : (w.setRow g A1.toArray).heap[g]? = some (.cells A1.toArray 84 (0, 0)) := setRow_heap w g cur _ _ _ hg
  have hgo : (w.setRow g A1.toArray).heap[vb]? = w.heap[vb]? := setRow_other w g vb _ hne
  clear hA1
  go_enter Tryz.func92, Tryz.ntmps92
  go_wp2_with (simp only [hov _ rfl])
  go_region_law (refine step_copy_runI rfl (.tmp 73) (.tmp 76) 30 30 rfl (.slice (some ⟨g, ((i + m) * 3), none⟩) (n + m - (i + m)) (c - (i + m))) (.slice (some ⟨g, ((i) * 3), none⟩) (n + m - i) (c - i)) (by simp [Act.eval, Act.put]) (by simp [Act.eval, Act.put]) (hcp1 _ (by rfl) _ _ _) ?_)
  go_wp2
  rw [hcp2 w.drew rfl]
  go_wp2
  go_ret
  refine ⟨rfl, ?_, ?_⟩
  · have hh := setRow_heap (w.drew.setRow g A1.toArray) g A1.toArray (cells.take (i * 3) ++ news ++ cells.drop (i * 3) ++ cur.toList.drop ((n + m) * 3)).toArray 84 (0, 0) hgw
    simpa only [List.append_assoc, Nat.mul_one] using hh
  · exact ⟨rfl, rfl, rfl, by simp, fun b hb hne => by
      have hb2 : b ≠ g := fun e => hne (by rw [e])
      exact (setRow_other _ g b _ hb2).trans (setRow_other w g b _ hb2)⟩

set_option maxHeartbeats 4000000 in
set_option maxRecDepth 100000 in
theorem insNamed_grow (w : World) (g n c i : Nat) (cur : Array Value) (cells news : List Value) (vb vc m : Nat) (hg : w.heap[g]? = some (.cells cur 84 (0, 0))) (hvbl : vb < w.heap.size) (hcs : cur.size = c * 3) (htk : cur.toList.take (n * 3) = cells) (hl : cells.length = n * 3) (hnv : ∀ j u, news[j]? = some u → w.cell? ((⟨vb, 0, none⟩ : Addr).add j) = some u) (hnl : news.length = m * 3)
    (hin : i < n) (hnc : n ≤ c) (hroom : c < n + m) (hm : 0 < m) (hm1 : m ≤ 1000) (hn : n ≤ 100000000) (hc63 : c ≤ 9223372036854775807) (h1 : ∀ u ∈ cells ++ news, u.oneCell' = true) :
    Calls Tryz.prog 92 #[.slice (some ⟨g, 0, none⟩) n c, .int .i64 (i : Int), .slice (some ⟨vb, 0, none⟩) m vc] w fun en w' => ∃ (G : Nat) (T : List Value), en = .returned (.slice (some ⟨w.heap.size, 0, none⟩) (n + m) G) ∧ n + m ≤ G ∧ G ≤ maxLen ∧ T.length = G * 3 ∧ T.take ((n + m) * 3) = cells.take (i * 3) ++ news ++ cells.drop (i * 3) ∧ w'.heap[w.heap.size]? = some (.cells T.toArray 84 (0, 0)) ∧ w.grownBy w' none := by
  obtain ⟨ti, z, hT, hti, hz, hzs, htis, htib⟩ := insNamed_T
  have hsz : (Tryz.prog.info? 84).map (·.size) = some 3 := by rw [hti]; simp [htis]
  have hgl : g < w.heap.size := (Array.getElem?_eq_some_iff.1 hg).1
  have hcell : ∀ j v, cells[j]? = some v → w.cell? ⟨g, j, none⟩ = some v := fun j v hj => by
    rw [cell_of_row w g _ cur 84 (0, 0) hg]
    rw [← htk, List.getElem?_take] at hj
    split at hj
    · simpa using hj
    · cases hj
  have hkk : (n : Int) + (m : Int) - (i : Int) = ((n + m - i : Nat) : Int) := by omega
  have hik : i + (n + m - i) = n + m := by omega
  have hold : (Builtin.firstCells ti.size i (.slice (some ⟨g, 0, none⟩) i c)).run Tryz.prog w.drew = .ok (cells.take (i * 3)).toArray w.drew := by
    rw [htis]
    exact run_firstCells_some w.drew 3 i ⟨g, 0, none⟩ i c (cells.take (i * 3)) (by rw [List.length_take, hl]; omega) (fun j v hj => by
      rw [Addr.add_lit, Nat.zero_add]
      rw [List.getElem?_take] at hj
      split at hj
      · exact hcell j v hj
      · cases hj)
  obtain ⟨G, hG⟩ : ∃ G, G = grownCap w (n + m) c 84 := ⟨_, rfl⟩
  obtain ⟨ROW, hROW⟩ : ∃ ROW : Array Value, ROW = (cells.take (i * 3)).toArray ++ Builtin.zeroCells z.cells (n + m - i) ++ Builtin.zeroCells z.cells (G - (n + m)) := ⟨_, rfl⟩
  have hrz : ∀ ty, (Builtin.append_ #[30, 3] ty #[.slice (some ⟨g, 0, none⟩) i c, .int .i64 ((n : Int) + (m : Int) - (i : Int))]).run Tryz.prog w = .ok (.slice (some ⟨w.heap.size, 0, none⟩) (n + m) G) (w.drew.alloc (.cells ROW 84)) := fun ty => by
    have h := Lib.run_append_grow_zeros (P := Tryz.prog) w 30 3 ty 84 ti z .i64 .i64 hT Tryz.underlying3 hti hz (some ⟨g, 0, none⟩) i c (cells.take (i * 3)).toArray.toList hold (n + m - i) (by omega) (by rw [htis]; decide) (by omega) (by omega) (by rw [htib]; omega) (by rw [htib, hik]; exact growslice_fits hroom (by omega))
    rw [hik, ← hG] at h
    rw [hkk, hROW]
    exact h
  have hGn : n + m ≤ G := by rw [hG]; exact grownCap_ge w _ _ _
  have hGm : G ≤ maxLen := by rw [hG]; exact grownCap_le_maxLen w (n + m) c 84 (by unfold maxLen; omega)
  have hG63 : G ≤ 9223372036854775807 := by unfold maxLen at hGm; omega
  have hRl : ROW.size = G * 3 := by
    rw [hROW, Array.size_append, Array.size_append, size_zeroCells, size_zeroCells, List.size_toArray, List.length_take, hl, hzs]
    omega
  have hRt : ROW.toList.take (i * 3) = cells.take (i * 3) := by
    rw [hROW]
    simp only [Array.toList_append, List.append_assoc]
    exact List.take_left' (by rw [List.length_take, hl]; omega)
  have hdl : (cells.drop (i * 3)).length = (n - i) * 3 := by rw [List.length_drop, hl]; omega
  obtain ⟨A1, hA1⟩ : ∃ A1, A1 = (ROW.toList.take (i * 3) ++ news ++ ROW.toList.drop ((i + m) * 3)) := ⟨_, rfl⟩
  have hrl : ROW.toList.length = G * 3 := by rw [← hRl, Array.length_toList]
  have hA1l : A1.length = G * 3 := by rw [hA1]; simp [hnl, hrl]; omega
  obtain ⟨A2, hA2⟩ : ∃ A2, A2 = (A1.take ((i + m) * 3) ++ cells.drop (i * 3) ++ A1.drop ((n + m) * 3)) := ⟨_, rfl⟩
  have hA2l : A2.length = G * 3 := by rw [hA2]; simp [hdl, hA1l]; omega
  have hcpA : ∀ W : World, W.heap[w.heap.size]? = some (.cells ROW 84 (0, 0)) → (∀ b, b < w.heap.size → W.heap[b]? = w.heap[b]?) → ∀ ty dc, (Builtin.copy_ #[30, 30] ty #[.slice (some ⟨w.heap.size, ((i) * 3), none⟩) (n + m - i) dc, .slice (some ⟨vb, 0, none⟩) m vc]).run Tryz.prog W = .ok (goInt m) (W.setRow w.heap.size A1.toArray) := fun W hW hWv ty dc => by
    have hmn : Nat.min m (n + m - i) = m := by simp only [Nat.min_def]; split <;> omega
    have := run_copy_rowK (P := Tryz.prog) W 30 30 ty 84 3 w.heap.size ((i) * 3) (n + m - i) dc ⟨vb, 0, none⟩ m vc ROW 84 news hT hsz hW (by rw [hmn, hnl]) (fun j v hj => by
        have h2 := hnv j v hj
        rw [Addr.add_lit] at h2 ⊢
        simp only [World.cell?, hWv vb hvbl] at h2 ⊢
        exact h2) (by rw [hnl, hRl]; omega) (fun v hv => h1 v (List.mem_append_right _ hv))
    rw [hmn] at this
    rw [this, hA1, hnl]
    have e : ((i) * 3) + m * 3 = (i + m) * 3 := by omega
    rw [e]
    try simp only [Nat.mul_one]
  have hcpB : ∀ W : World, W.heap[w.heap.size]? = some (.cells A1.toArray 84 (0, 0)) → (∀ b, b < w.heap.size → W.heap[b]? = w.heap[b]?) → ∀ ty dc sc, (Builtin.copy_ #[30, 30] ty #[.slice (some ⟨w.heap.size, ((i + m) * 3), none⟩) (n + m - (i + m)) dc, .slice (some ⟨g, ((i) * 3), none⟩) (n - i) sc]).run Tryz.prog W = .ok (goInt (n - i : Nat)) (W.setRow w.heap.size A2.toArray) := fun W hW hWv ty dc sc => by
    have hmn : Nat.min (n - i) (n + m - (i + m)) = n - i := by simp only [Nat.min_def]; split <;> omega
    have := run_copy_rowK (P := Tryz.prog) W 30 30 ty 84 3 w.heap.size ((i + m) * 3) (n + m - (i + m)) dc ⟨g, ((i) * 3), none⟩ (n - i) sc A1.toArray 84 (cells.drop (i * 3)) hT hsz hW (by rw [hmn, hdl]) (fun j v hj => by
        rw [List.getElem?_drop] at hj
        have h2 := hcell _ v hj
        rw [Addr.add_lit]
        simp only [World.cell?, hWv g hgl] at h2 ⊢
        first | exact h2 | simpa only [Nat.mul_one] using h2) (by rw [hdl, List.size_toArray, hA1l]; omega) (fun v hv => h1 v (List.mem_append_left _ (List.mem_of_mem_drop hv)))
    rw [hmn] at this
    rw [this, hA2, hdl]
    have e : ((i + m) * 3) + (n - i) * 3 = (n + m) * 3 := by omega
    rw [e]
    try simp only [Nat.mul_one]
  have hfin : A2.take ((n + m) * 3) = cells.take (i * 3) ++ news ++ cells.drop (i * 3) := by
    rw [hA2, List.take_left' (by rw [List.length_append, List.length_take, hA1l, hdl]; omega)]
    congr 1
    rw [hA1, hRt, List.take_left' (by rw [List.length_append, List.length_take, hl, hnl]; omega)]
  have hz1 : ¬ ((m : Int) = 0) := by omega
  have hz2 : ¬ ((i : Int) = (n : Int)) := by omega
  have hz3 : (c : Int) < (n : Int) + (m : Int) := by omega
  have hw1 : IntKind.i64.wrap ((i : Int) + (m : Int)) = (i : Int) + (m : Int) := by rw [IntKind.wrap_i64]; omega
  have hw2 : IntKind.i64.wrap ((n : Int) + (m : Int)) = (n : Int) + (m : Int) := by rw [IntKind.wrap_i64]; omega
  have hw3 : IntKind.i64.wrap ((n : Int) + (m : Int) - (i : Int)) = (n : Int) + (m : Int) - (i : Int) := by rw [IntKind.wrap_i64]; omega
  have hb1 : (0 : Int) ≤ (i : Int) + (m : Int) := by omega
  have hin' : i ≤ n := by omega
  have hic : i ≤ c := by omega
  have htn : ((i : Int) + (m : Int)).toNat = i + m := by omega
  have hb3 : (i : Int) ≤ (n : Int) + (m : Int) := by omega
  have hb3' : (i : Int) + (m : Int) ≤ (n : Int) + (m : Int) := by omega
  have hGi : ¬ (G = i) := by omega
  have hGim : ¬ (G = i + m) := by omega
  have hci : ¬ (c = i) := by omega
  have hA0 : ∀ W : World, W.heap = w.heap → ((W.alloc (.cells ROW 84)).heap[w.heap.size]? = some (.cells ROW 84 (0, 0)) ∧ ∀ b, b < w.heap.size → (W.alloc (.cells ROW 84)).heap[b]? = w.heap[b]?) := fun W hW => ⟨by rw [← hW]; exact heap_alloc_new W _, fun b hb => by rw [← hW] at hb ⊢; show (W.heap.push _)[b]? = _; rw [Array.getElem?_push, if_neg (Nat.ne_of_lt hb)]⟩
  have hB0 : ∀ W : World, W.heap[w.heap.size]? = some (.cells ROW 84 (0, 0)) → (∀ b, b < w.heap.size → W.heap[b]? = w.heap[b]?) → ((W.setRow w.heap.size A1.toArray).heap[w.heap.size]? = some (.cells A1.toArray 84 (0, 0)) ∧ ∀ b, b < w.heap.size → (W.setRow w.heap.size A1.toArray).heap[b]? = w.heap[b]?) := fun W h1 h2 => ⟨setRow_heap W _ _ _ _ _ h1, fun b hb => by rw [setRow_other W _ b _ (by omega)]; exact h2 b hb⟩
  obtain ⟨a1, a2⟩ := hA0 w.drew rfl
  obtain ⟨b1, b2⟩ := hB0 (w.drew.alloc (.cells ROW 84)) a1 a2
  have hcA := hcpA (w.alloc (.cells ROW 84)).drew a1 a2
  clear hkk hik hold hROW hG hA1 hA2 hcpA hA0 hB0 hRt hRl
  go_enter Tryz.func92, Tryz.ntmps92
  go_wp2_with (at_builtin; refine Lib.wpList_append_run _ rfl _ _ _ _ rfl _ _ rfl rfl _ _ (hrz _) ?_)
  first | (rw [hcA]; go_wp2_with fail) | skip
  go_region_law (refine step_copy_runI rfl (.tmp 50) (.tmp 53) 30 30 rfl (.slice (some ⟨w.heap.size, ((i + m) * 3), none⟩) (n + m - (i + m)) (G - (i + m))) (.slice (some ⟨g, ((i) * 3), none⟩) (n - i) (c - i)) (by simp [Act.eval, Act.put]) (by simp [Act.eval, Act.put]) (hcpB _ (by exact b1) (by exact b2) _ _ _) ?_)
  go_wp2
  go_ret
  refine ⟨G, A2, rfl, hGn, hGm, hA2l, hfin, ?_, ?_⟩
  · exact setRow_heap _ _ A1.toArray A2.toArray 84 (0, 0) b1
  · exact ⟨rfl, rfl, rfl, by simp, fun b hb _ => (setRow_other _ _ b _ (by omega)).trans (b2 b hb)⟩
theorem insNamed_t {α : Type} {e : Enc α} {f : α → List Cell} [hc : CellsOf e f] (he : e.size = 3) {d : Bool} {xs zs : List α} {i : Nat} (hi : i ≤ xs.length) (hz : 0 < zs.length) (hz1 : zs.length ≤ 1000) (hx : xs.length ≤ 100000000) :
    AT Tryz.prog 92 ([.one (.own 0), .one (.c (.int .i64 (i : Int)))] ++ [.one (.own 2)]) [(0, some (.arr 84 e xs d)), (2, some (.arr 84 e zs d))] (.one (.own 1)) [(1, some (.arr 84 e (xs.take i ++ zs ++ xs.drop i) d))] := by
  refine AT.row2 (rest := [.one (.c (.int .i64 (i : Int)))]) ⟨_, _, Tryz.func92, rfl, rfl⟩ (fun w v u vs cells news bs b2 hvs hown hu hF hF2 h1 hap => ?_) (fun x hx => by simp at hx; exact ⟨_, hx⟩)
  have hv1 : vs = [.int .i64 (i : Int)] := by
    cases vs with
    | nil => exact hvs.elim
    | cons a as' =>
      cases as' with
      | nil => have := hvs.1; cases this; rfl
      | cons _ _ => exact hvs.2.elim
  subst hv1
  obtain ⟨bs', q1, q2, q3⟩ := FR.ins (e := e) hF hF2 hi
  rw [he] at hown hu q1 ⊢
  have hln : (xs.take i ++ zs ++ xs.drop i).length = xs.length + zs.length := by simp; omega
  rw [hln]
  have hcl := hown.1
  rcases hu.2 with ⟨_, h0⟩ | ⟨vb, vc, vcur, rfl, _, g2, g3, g4, g5, g6⟩
  · omega
  have hap' : v.ownBlock ≠ some vb := hap vb rfl
  have hcut : i = xs.length → cells.take (i * 3) ++ news ++ cells.drop (i * 3) = cells ++ news := fun e0 => by
    rw [e0, ← hcl, List.take_length, List.drop_length, List.append_nil]
  show Calls Tryz.prog 92 #[v, .int .i64 (i : Int), .slice (some ⟨vb, 0, none⟩) zs.length vc] w _
  rcases hown.2 with ⟨rfl, h0⟩ | ⟨g, c, cur, rfl, _, r3, r4, r5, r6, r7⟩
  · rw [h0]
    refine (insNamed_end w none 0 0 i cells news vb vc zs.length (by rw [h0] at hown; exact hown) hu (by omega) hz hz1 (by omega) (by omega) (fun u hu => h1 u (List.mem_append_right _ hu)) (by omega)).mono ?_
    rintro en w' ⟨v', rfl, t1, t2, t3⟩
    exact ⟨v', _, rfl, by rw [hcut (by omega)]; exact t1, t2, t3, bs', q1, q2, q3⟩
  · have hne : vb ≠ g := fun e0 => hap' (by rw [e0]; rfl)
    have hc63 : c ≤ 9223372036854775807 := by unfold maxLen at r5; omega
    by_cases hin : i = xs.length
    · refine (insNamed_end w (some ⟨g, 0, none⟩) xs.length c i cells news vb vc zs.length hown hu hin hz hz1 hx hc63 (fun u hu => h1 u (List.mem_append_right _ hu)) r4).mono ?_
      rintro en w' ⟨v', rfl, t1, t2, t3⟩
      exact ⟨v', _, rfl, by rw [hcut hin]; exact t1, t2, t3, bs', q1, q2, q3⟩
    · have hnv := hu.cells (g := vb) rfl
      by_cases hroom : xs.length + zs.length ≤ c
      · refine (insNamed_shift w g xs.length c i cur cells news vb vc zs.length vcur r3 g2 hne r6 r7 hcl hnv hu.1 (by omega) hroom hz hc63 h1 g5 g3).mono ?_
        rintro en w' ⟨rfl, t1, t2⟩
        refine ⟨_, cells.take (i * 3) ++ news ++ cells.drop (i * 3), rfl, ⟨?_, .inr ⟨g, c, _, rfl, Nat.zero_le _, t1, hroom, r5, ?_, ?_⟩⟩, t2, fun b hb => .inl hb, bs', q1, q2, q3⟩
        · simp [hcl, hu.1]; omega
        · have hz := hu.1
          have hsz : cur.toList.length = c * 3 := by rw [Array.length_toList]; exact r6
          simp [hcl, hz, hsz]; omega
        · have hz := hu.1
          simp only [List.toList_toArray]
          exact List.take_left' (by simp [hcl, hz]; omega)
      · refine (insNamed_grow w g xs.length c i cur cells news vb vc zs.length r3 (Array.getElem?_eq_some_iff.1 g2).1 r6 r7 hcl hnv hu.1 (by omega) r4 (by omega) hz hz1 hx hc63 h1).mono ?_
        rintro en w' ⟨G, T, rfl, t1, t2, t3, t4, t5, t6⟩
        refine ⟨_, cells.take (i * 3) ++ news ++ cells.drop (i * 3), rfl, ⟨?_, .inr ⟨_, G, _, rfl, Nat.zero_le _, t5, t1, t2, ?_, ?_⟩⟩, ⟨t6.os, t6.tape, t6.output, t6.size, fun b hb _ => t6.block b hb (by simp)⟩, fun b hb => .inr ?_, bs', q1, q2, q3⟩
        · simp [hcl, hu.1]; omega
        · simp [t3]
        · simpa using t4
        · have hb' : some w.heap.size = some b := hb
          cases hb'; exact Nat.le_refl _
end Go.Proofs.YtibhoanjglfaoaaGreat

/- A row taken out, or put in (printed by walk.py) -/
namespace Go.Proofs.YtibhoanjglfaoaaGreat
open Go.RowKit
set_option linter.unusedVariables false
set_option linter.unusedSimpArgs false
set_option maxRecDepth 100000

set_option maxHeartbeats 4000000 in
theorem relDropS_c0 (r : Relt) (row : List Val) (hr : smallRel r) (hw : smallRow row) : AC Tryz.prog 107 [.agg (relC r), .agg (rowC row)] [] (.tup [.agg [.c (.int .i64 (relDrop r row).1.arity), .own 0], .one (.c (.int .i64 (relDrop r row).2))]) [(0, some (.arr 72 rowE (relDrop r row).1.rows true))] := by
  refine AC_bodyCT (n := 2) (k := 9) (T := [(4, .one (.ptr 9 0)), (5, .one (.c (.int .i64 (relDrop r row).2)))]) (Lf := ((9, some (.box [.c (.int .i64 (relDrop r row).1.arity), .own 0])) :: [(0, some (.arr 72 rowE (relDrop r row).1.rows true))])) Tryz.func107 rfl rfl Tryz.ntmps107 rfl Tryz.results107 rfl rfl rfl rfl (by kernel_rfl) rfl rfl ⟨trivial, (by repeat (first | exact trivial | refine ⟨⟨_, rfl, BLe.rf⟩, ?_⟩)), (by repeat (first | exact trivial | refine ⟨⟨rfl, by first | (left; intro h; cases h) | (right; rfl), by first | exact (fun _ h => ⟨_, h⟩) | exact (fun _ _ => ⟨_, rfl⟩) | (intro _ h; cases h)⟩, ?_⟩)), rfl⟩ ?_
  refine AW_aggmax 1 0 rfl rfl (fun hm1_0 => ?_)
  refine AW_seq ?_
  refine AW_region ?_
  refine AL_p (x_box 100 rfl rfl rfl rfl rfl rfl rfl) ?_
  refine AL_p (x_box 101 rfl rfl rfl rfl rfl rfl rfl) ?_
  refine AL_p (x_alloc (z := .agg #[.int .i64 0, .slice none 0 0]) 102 rfl (by kernel_rfl) rfl rfl rfl rfl) ?_
  refine AL_p (x_assign rfl rfl) ?_
  refine AL_nil ?_
  refine AW_seq ?_
  refine AW_seq ?_
  refine AW_region ?_
  refine AL_p (x_loadN (n := 2) rfl rfl rfl (by kernel_rfl) rfl rfl) ?_
  refine AL_b (x_call0 rfl rfl rfl (relOkS_c _ hr.1) rfl rfl) (fun b9 h9 => ?_)
  refine AL_p (x_not rfl rfl) ?_
  refine AL_p (x_move rfl rfl) ?_
  cases b9
  · try simp only [tdy] at h9
    have hno := relDrop_no (row := row) (fits_r h9)
    refine AL_o rfl rfl rfl rfl ?_
    refine AL_o rfl rfl rfl rfl ?_
    refine AL_o rfl rfl rfl rfl ?_
    refine AL_p (x_pickT rfl rfl rfl) ?_
    refine AL_p (x_move rfl rfl) ?_
    refine AL_o rfl rfl rfl rfl ?_
    refine AL_o rfl rfl rfl rfl ?_
    refine AL_o rfl rfl rfl rfl ?_
    refine AL_o rfl rfl rfl rfl ?_
    refine AL_o rfl rfl rfl rfl ?_
    refine AL_o rfl rfl rfl rfl ?_
    refine AL_p (x_pickT rfl rfl rfl) ?_
    refine AL_nil ?_
    refine AW_condT rfl ?_
    refine AW_seq ?_
    refine AW_region ?_
    refine AL_p (x_build (zs := [.int .i64 0, .slice none 0 0]) (places := [(0, 1), (1, 1)]) rfl (by kernel_rfl) rfl rfl rfl rfl rfl) ?_
    refine AL_p (x_store (n := 2) rfl rfl rfl rfl (by kernel_rfl) rfl rfl rfl) ?_
    refine AL_p (x_assign rfl rfl) ?_
    refine AL_nil ?_
    refine AW_adopt (T := 72) (e := rowE) 103 102 1 rfl rfl rfl rfl rfl ?_
    refine AW_ret ?_
    exact ⟨rn [(9, 102), (0, 103)], ⟨⟨⟨_, rfl, VLe.rf⟩, ⟨_, rfl, by first | (refine vle_int ?_; rw [hno]; done) | exact VLe.rf | (refine vle_int ?_; rw [hno]; apply Eq.symm; assumption) | exact vle_int (by rw [hno])⟩, trivial⟩, ⟨⟨_, rfl, by first | (refine ble_eq ?_; rw [hno]; done) | (refine ble_eq ?_; rw [hno]; rfl) | exact BLe.rf⟩, ⟨_, rfl, by first | (refine BLe.arr ?_; rw [hno]; done) | (refine BLe.arr ?_; rw [hno]; exact filtTo_all (by omega)) | (refine BLe.arr ?_; rw [hno]; rfl) | exact BLe.rf⟩, trivial⟩, trivial, rfl⟩⟩
  try simp only [tdy] at h9
  refine AL_g rfl rfl (x_loadN (n := 1) rfl rfl rfl (by kernel_rfl) rfl rfl) ?_
  refine AL_gb rfl rfl (x_call0 rfl rfl rfl (rowOkS_c _) rfl rfl) (fun b13 h13 => ?_)
  refine AL_g rfl rfl (x_not rfl rfl) ?_
  refine AL_p (x_pickF rfl rfl rfl) ?_
  refine AL_p (x_move rfl rfl) ?_
  cases b13
  · try simp only [tdy] at h13
    have hno := relDrop_no (r := r) (fits_row h13)
    refine AL_o rfl rfl rfl rfl ?_
    refine AL_o rfl rfl rfl rfl ?_
    refine AL_o rfl rfl rfl rfl ?_
    refine AL_o rfl rfl rfl rfl ?_
    refine AL_o rfl rfl rfl rfl ?_
    refine AL_o rfl rfl rfl rfl ?_
    refine AL_p (x_pickT rfl rfl rfl) ?_
    refine AL_nil ?_
    refine AW_condT rfl ?_
    refine AW_seq ?_
    refine AW_region ?_
    refine AL_p (x_build (zs := [.int .i64 0, .slice none 0 0]) (places := [(0, 1), (1, 1)]) rfl (by kernel_rfl) rfl rfl rfl rfl rfl) ?_
    refine AL_p (x_store (n := 2) rfl rfl rfl rfl (by kernel_rfl) rfl rfl rfl) ?_
    refine AL_p (x_assign rfl rfl) ?_
    refine AL_nil ?_
    refine AW_adopt (T := 72) (e := rowE) 103 102 1 rfl rfl rfl rfl rfl ?_
    refine AW_ret ?_
    exact ⟨rn [(9, 102), (0, 103)], ⟨⟨⟨_, rfl, VLe.rf⟩, ⟨_, rfl, by first | (refine vle_int ?_; rw [hno]; done) | exact VLe.rf | (refine vle_int ?_; rw [hno]; apply Eq.symm; assumption) | exact vle_int (by rw [hno])⟩, trivial⟩, ⟨⟨_, rfl, by first | (refine ble_eq ?_; rw [hno]; done) | (refine ble_eq ?_; rw [hno]; rfl) | exact BLe.rf⟩, ⟨_, rfl, by first | (refine BLe.arr ?_; rw [hno]; done) | (refine BLe.arr ?_; rw [hno]; exact filtTo_all (by omega)) | (refine BLe.arr ?_; rw [hno]; rfl) | exact BLe.rf⟩, trivial⟩, trivial, rfl⟩⟩
  try simp only [tdy] at h13
  refine AL_g rfl rfl (x_field (off := 0) (o' := 0) rfl rfl rfl (by kernel_rfl) rfl) ?_
  refine AL_g rfl rfl (x_load1 rfl rfl rfl (by kernel_rfl) rfl) ?_
  refine AL_g rfl rfl (x_len (E := 147) (n := 2) rfl rfl (by kernel_rfl)) ?_
  refine AL_g rfl rfl (x_field (off := 0) (o' := 0) rfl rfl rfl (by kernel_rfl) rfl) ?_
  refine AL_g rfl rfl (x_load1 rfl rfl rfl (by kernel_rfl) rfl) ?_
  refine AL_gb rfl rfl (x_neq rfl rfl rfl) (fun b22 h22 => ?_)
  refine AL_p (x_pickF rfl rfl rfl) ?_
  refine AL_nil ?_
  cases b22
  rotate_left
  · try simp only [tdy] at h22
    have hno := relDrop_no (fits_len h22)
    refine AW_condT rfl ?_
    refine AW_seq ?_
    refine AW_region ?_
    refine AL_p (x_build (zs := [.int .i64 0, .slice none 0 0]) (places := [(0, 1), (1, 1)]) rfl (by kernel_rfl) rfl rfl rfl rfl rfl) ?_
    refine AL_p (x_store (n := 2) rfl rfl rfl rfl (by kernel_rfl) rfl rfl rfl) ?_
    refine AL_p (x_assign rfl rfl) ?_
    refine AL_nil ?_
    refine AW_adopt (T := 72) (e := rowE) 103 102 1 rfl rfl rfl rfl rfl ?_
    refine AW_ret ?_
    exact ⟨rn [(9, 102), (0, 103)], ⟨⟨⟨_, rfl, VLe.rf⟩, ⟨_, rfl, by first | (refine vle_int ?_; rw [hno]; done) | exact VLe.rf | (refine vle_int ?_; rw [hno]; apply Eq.symm; assumption) | exact vle_int (by rw [hno])⟩, trivial⟩, ⟨⟨_, rfl, by first | (refine ble_eq ?_; rw [hno]; done) | (refine ble_eq ?_; rw [hno]; rfl) | exact BLe.rf⟩, ⟨_, rfl, by first | (refine BLe.arr ?_; rw [hno]; done) | (refine BLe.arr ?_; rw [hno]; exact filtTo_all (by omega)) | (refine BLe.arr ?_; rw [hno]; rfl) | exact BLe.rf⟩, trivial⟩, trivial, rfl⟩⟩
  try simp only [tdy] at h22
  have hno := relDrop_ok (fits_ok h9 h13 h22)
  refine AW_condF rfl ?_
  refine AW_skip ?_
  refine AW_seq ?_
  refine AW_region ?_
  refine AL_p (x_field (off := 0) (o' := 0) rfl rfl rfl (by kernel_rfl) rfl) ?_
  refine AL_p (x_load1 rfl rfl rfl (by kernel_rfl) rfl) ?_
  refine AL_p (x_build (zs := [.int .i64 0, .slice none 0 0]) (places := [(0, 1), (1, 1)]) rfl (by kernel_rfl) rfl rfl rfl rfl rfl) ?_
  refine AL_p (x_alloc (z := .agg #[.int .i64 0, .slice none 0 0]) 104 rfl (by kernel_rfl) rfl rfl rfl rfl) ?_
  refine AL_p (x_store (n := 2) rfl rfl rfl rfl (by kernel_rfl) rfl rfl rfl) ?_
  refine AL_nil ?_
  refine AW_seq ?_
  refine AW_seq ?_
  refine AW_region ?_
  refine AL_p (x_field (off := 1) (o' := 1) rfl rfl rfl (by kernel_rfl) rfl) ?_
  refine AL_p (x_load1 rfl rfl rfl (by kernel_rfl) rfl) ?_
  refine AL_p (x_len (E := 72) (n := 1) rfl rfl (by kernel_rfl)) ?_
  refine AL_p (x_move rfl rfl) ?_
  refine AL_nil ?_
  refine AW_block ?_
  refine AW_adopt (T := 72) (e := rowE) 105 104 1 rfl rfl rfl rfl rfl ?_
  refine AW_loop2 (ι := {q : Nat // q ≤ r.rows.length}) (fun p => [(31, .one (.c (.int .i64 ((p.1) : Int))))]) (fun p => [(105, some (.arr 72 rowE (filtTo (fun x => !sameRow x row) r.rows (p.1)) true))]) [2, 3, 4, 6, 30] [100, 101, 102, 104] (fun p => r.rows.length - (p.1)) ⟨0, by omega⟩ (rn []) ?_ ?_
  exact ⟨by (repeat refine ⟨⟨_, rfl, by first | exact VLe.rf | exact vle_int (by dsimp only; omega)⟩, ?_⟩); exact trivial, by (repeat refine ⟨⟨_, rfl, by first | exact BLe.rf | exact BLe.box AllC.rf | exact BLe.arr (by first | exact filtTo_zero | exact filtTo_yes (by omega) (by simp [h40]) | exact filtTo_no (by omega) (by simp [h40]))⟩, ?_⟩); exact trivial, by repeat (first | exact trivial | refine ⟨⟨rfl, by first | (left; intro h; cases h) | (right; rfl), by first | exact (fun _ h => ⟨_, h⟩) | exact (fun _ _ => ⟨_, rfl⟩) | (intro _ h; cases h)⟩, ?_⟩), rfl⟩
  rintro ⟨k, hinv⟩
  dsimp only
  have hl := hr.1
  refine AW_seq ?_
  refine AW_region ?_
  refine AL_b (x_lss rfl rfl rfl) (fun b32 h32 => ?_)
  refine AL_nil ?_
  refine AW_seq ?_
  cases b32
  · try simp only [tdy] at h32
    refine AW_condF rfl ?_
    refine AW_exit (BQ_hit ?_)
    refine AW_seq ?_
    refine AW_region ?_
    refine AL_p (x_loadN (n := 2) rfl rfl rfl (by kernel_rfl) rfl rfl) ?_
    refine AL_p (x_store (n := 2) rfl rfl rfl rfl (by kernel_rfl) rfl rfl rfl) ?_
    refine AL_p (x_assign rfl rfl) ?_
    refine AL_nil ?_
    refine AW_ret ?_
    exact ⟨rn [(9, 102), (0, 105)], ⟨⟨⟨_, rfl, VLe.rf⟩, ⟨_, rfl, by first | (refine vle_int ?_; rw [hno]; done) | exact VLe.rf | (refine vle_int ?_; rw [hno]; apply Eq.symm; assumption) | exact vle_int (by rw [hno])⟩, trivial⟩, ⟨⟨_, rfl, by first | (refine ble_eq ?_; rw [hno]; done) | (refine ble_eq ?_; rw [hno]; rfl) | exact BLe.rf⟩, ⟨_, rfl, by first | (refine BLe.arr ?_; rw [hno]; done) | (refine BLe.arr ?_; rw [hno]; exact filtTo_all (by omega)) | (refine BLe.arr ?_; rw [hno]; rfl) | exact BLe.rf⟩, trivial⟩, trivial, rfl⟩⟩
  try simp only [tdy] at h32
  refine AW_condT rfl ?_
  refine AW_skip ?_
  refine AW_seq ?_
  refine AW_block ?_
  refine AW_seq ?_
  refine AW_region ?_
  refine AL_p (x_move rfl rfl) ?_
  refine AL_p (x_assign rfl rfl) ?_
  refine AL_nil ?_
  refine AW_seq ?_
  refine AW_draw rfl ?_
  refine AL_p (x_field (off := 1) (o' := 1) rfl rfl rfl (by kernel_rfl) rfl) ?_
  refine AL_p (x_load1 rfl rfl rfl (by kernel_rfl) rfl) ?_
  refine AL_p (x_move rfl rfl) ?_
  refine AL_p (x_index (E := 72) (n := 1) rfl rfl rfl (by kernel_rfl) rfl (k := k) (by omega) (by omega)) ?_
  refine AL_p (x_eloadW (n := 1) rfl rfl (by kernel_rfl) rfl) ?_
  refine AL_p (x_loadN (n := 1) rfl rfl rfl (by kernel_rfl) rfl rfl) ?_
  refine AL_b (x_call0 rfl rfl rfl (sameRowS_c _ _ (hr.2 _ (List.getElem_mem _)).1) rfl rfl) (fun b40 h40 => ?_)
  refine AL_p (x_not rfl rfl) ?_
  refine AL_nild (by kernel_rfl) ?_
  cases b40
  rotate_left
  · try simp only [tdy] at h40
    refine AW_condF rfl ?_
    refine AW_skip ?_
    refine AW_region ?_
    refine AL_p (x_add rfl rfl rfl (IntWalk.i64_in _ (by omega))) ?_
    refine AL_p (x_move rfl rfl) ?_
    refine AL_nil ?_
    refine ⟨⟨k + 1, by omega⟩, rn [], ?_, by dsimp only; omega⟩
    exact ⟨by (repeat refine ⟨⟨_, rfl, by first | exact VLe.rf | exact vle_int (by dsimp only; omega)⟩, ?_⟩); exact trivial, by (repeat refine ⟨⟨_, rfl, by first | exact BLe.rf | exact BLe.box AllC.rf | exact BLe.arr (by first | exact filtTo_zero | exact filtTo_yes (by omega) (by simp [h40]) | exact filtTo_no (by omega) (by simp [h40]))⟩, ?_⟩); exact trivial, by repeat (first | exact trivial | refine ⟨⟨rfl, by first | (left; intro h; cases h) | (right; rfl), by first | exact (fun _ h => ⟨_, h⟩) | exact (fun _ _ => ⟨_, rfl⟩) | (intro _ h; cases h)⟩, ?_⟩), rfl⟩
  try simp only [tdy] at h40
  refine AW_condT rfl ?_
  refine AW_draw rfl ?_
  refine AL_p (x_field (off := 1) (o' := 1) rfl rfl rfl (by kernel_rfl) rfl) ?_
  refine AL_p (x_load1 rfl rfl rfl (by kernel_rfl) rfl) ?_
  refine AL_p (x_field (off := 1) (o' := 1) rfl rfl rfl (by kernel_rfl) rfl) ?_
  refine AL_p (x_load1 rfl rfl rfl (by kernel_rfl) rfl) ?_
  refine AL_p (x_move rfl rfl) ?_
  refine AL_p (x_index (E := 72) (n := 1) rfl rfl rfl (by kernel_rfl) rfl (k := k) (by omega) (by omega)) ?_
  refine AL_p (x_eloadW (n := 1) rfl rfl (by kernel_rfl) rfl) ?_
  refine AL_p (x_call1 rfl rfl rfl (rowS_c (r.rows[k]'(by omega)) (hr.2 _ (List.getElem_mem _)).1 106) rfl rfl rfl rfl) ?_
  refine AL_p (y_bslice (E := 72) (e := rowE) [.tmp 49] ([(r.rows[k]'(by omega))]) 107 rfl rfl rfl rfl rfl rfl rfl rfl FitL.rf rfl rfl rfl rfl rfl rfl (by kernel_rfl)) ?_
  refine AL_p (y_append 108 rfl rfl rfl rfl rfl rfl rfl rfl (by kernel_rfl) (by have := filtTo_len (p := (fun x => !sameRow x row)) (rows := r.rows) (k := k); have := hr.1; simp only [List.length_cons, List.length_nil]; omega)) ?_
  refine AL_p (x_field (off := 1) (o' := 1) rfl rfl rfl (by kernel_rfl) rfl) ?_
  refine AL_p (x_store (n := 1) rfl rfl rfl rfl (by kernel_rfl) rfl rfl rfl) ?_
  refine AL_nild (by kernel_rfl) ?_
  refine AW_region ?_
  refine AL_p (x_add rfl rfl rfl (IntWalk.i64_in _ (by omega))) ?_
  refine AL_p (x_move rfl rfl) ?_
  refine AL_nil ?_
  refine ⟨⟨k + 1, by omega⟩, rn [(105, 108)], ?_, by dsimp only; omega⟩
  exact ⟨by (repeat refine ⟨⟨_, rfl, by first | exact VLe.rf | exact vle_int (by dsimp only; omega)⟩, ?_⟩); exact trivial, by (repeat refine ⟨⟨_, rfl, by first | exact BLe.rf | exact BLe.box AllC.rf | exact BLe.arr (by first | exact filtTo_zero | exact filtTo_yes (by omega) (by simp [h40]) | exact filtTo_no (by omega) (by simp [h40]))⟩, ?_⟩); exact trivial, by repeat (first | exact trivial | refine ⟨⟨rfl, by first | (left; intro h; cases h) | (right; rfl), by first | exact (fun _ h => ⟨_, h⟩) | exact (fun _ _ => ⟨_, rfl⟩) | (intro _ h; cases h)⟩, ?_⟩), rfl⟩
theorem relDropS_c (r : Relt) (row : List Val) (hr : smallRel r) (hw : smallRow row) (k : Nat) : AC Tryz.prog 107 [.agg (relC r), .agg (rowC row)] [] (.tup [.agg [.c (.int .i64 (relDrop r row).1.arity), .own k], .one (.c (.int .i64 (relDrop r row).2))]) [(k, some (.arr 72 rowE (relDrop r row).1.rows true))] := AC.at (relDropS_c0 r row hr hw) k

set_option maxHeartbeats 4000000 in
theorem putS_c (rows : List (List Val)) (row : List Val) (hl : rows.length ≤ 1048575) (hm : ∀ r ∈ rows, r.length ≤ 1048576) (hr : row.length ≤ 1048576) (hs : Sorted rows) (hv : ∀ v ∈ row, valOk v = true) : AC Tryz.prog 34 [.one (.sl rowE rows), .agg (rowC row)] [] (.one (.sl rowE (putRow rows row))) [] := by
  refine AC_body1 Tryz.func34 rfl rfl Tryz.ntmps34 rfl Tryz.results34 ?_
  refine AW_seq ?_
  refine AW_region ?_
  refine AL_p (x_box 100 rfl rfl rfl rfl rfl rfl rfl) ?_
  refine AL_p (x_assign rfl rfl) ?_
  refine AL_nil ?_
  refine AW_seq ?_
  refine AW_seq ?_
  refine AW_region ?_
  refine AL_p (x_move rfl rfl) ?_
  refine AL_p (x_loadN (n := 1) rfl rfl rfl (by kernel_rfl) rfl rfl) ?_
  refine AL_b (x_call0 rfl rfl rfl (hasS_c _ _ (by omega) hm) rfl rfl) (fun b10 h10 => ?_)
  refine AL_nil ?_
  cases b10
  rotate_left
  · try simp only [tdy] at h10
    have hno := putRow_has h10
    refine AW_condT rfl ?_
    refine AW_seq ?_
    refine AW_region ?_
    refine AL_p (x_move rfl rfl) ?_
    refine AL_p (x_assign rfl rfl) ?_
    refine AL_nil ?_
    refine AW_ret ?_
    exact ⟨rn [], ⟨⟨_, rfl, by first | (refine vle_sl ?_; rw [hno]; done) | (refine vle_sl ?_; rw [hno]; first | exact putTo_done (by omega) (by omega) (by omega) | exact putTo_end (by omega) (by omega) (by omega))⟩, trivial⟩, trivial, trivial, rfl⟩
  try simp only [tdy] at h10
  have hno := putRow_no h10
  refine AW_condF rfl ?_
  refine AW_skip ?_
  refine AW_seq ?_
  refine AW_region ?_
  refine AL_p (y_bslice0 (E := 72) (e := rowE) 101 rfl rfl rfl (by kernel_rfl)) ?_
  refine AL_p (x_assign rfl rfl) ?_
  refine AL_nil ?_
  refine AW_seq ?_
  refine AW_region ?_
  refine AL_p (x_assign rfl rfl) ?_
  refine AL_nil ?_
  refine AW_seq ?_
  refine AW_seq ?_
  refine AW_region ?_
  refine AL_p (x_move rfl rfl) ?_
  refine AL_p (x_len (E := 72) (n := 1) rfl rfl (by kernel_rfl)) ?_
  refine AL_p (x_move rfl rfl) ?_
  refine AL_nil ?_
  refine AW_block ?_
  refine AW_shallow 101 rfl ?_
  refine AW_loop2 (ι := {q : Nat × Bool // (q.1) ≤ rows.length ∧ decide (pos rows row < (q.1)) = (q.2)}) (fun p => [(5, .one (.own 101)), (6, .one (.c (.bool (p.1.2)))), (15, .one (.c (.int .i64 ((p.1.1) : Int))))]) (fun p => [(101, some (.arr 72 rowE (putTo rows row (p.1.1)) false))]) [0, 3, 14] [100] (fun p => rows.length - (p.1.1)) ⟨⟨0, false⟩, ⟨by omega, by simp⟩⟩ (rn []) ?_ ?_
  exact ⟨by (repeat refine ⟨⟨_, rfl, by first | exact VLe.rf | exact vle_int (by dsimp only; omega)⟩, ?_⟩); exact trivial, by (repeat refine ⟨⟨_, rfl, by first | exact BLe.rf | exact BLe.box AllC.rf | exact BLe.arr (by first | exact putTo_zero | exact putTo_behind (by omega) (by omega) | exact putTo_here (by omega) (by omega) | exact putTo_before (by omega) (by omega))⟩, ?_⟩); exact trivial, by repeat (first | exact trivial | refine ⟨⟨rfl, by first | (left; intro h; cases h) | (right; rfl), by first | exact (fun _ h => ⟨_, h⟩) | exact (fun _ _ => ⟨_, rfl⟩) | (intro _ h; cases h)⟩, ?_⟩), rfl⟩
  rintro ⟨⟨k, b900⟩, hinv⟩
  dsimp only
  obtain ⟨hk, h900⟩ := hinv
  have hk : k ≤ rows.length := hk
  refine AW_seq ?_
  refine AW_region ?_
  refine AL_b (x_lss rfl rfl rfl) (fun b16 h16 => ?_)
  refine AL_nil ?_
  refine AW_seq ?_
  cases b16
  · try simp only [tdy] at h16
    refine AW_condF rfl ?_
    refine AW_exit (BQ_hit ?_)
    refine AW_seq ?_
    refine AW_seq ?_
    refine AW_region ?_
    refine AL_p (x_move rfl rfl) ?_
    refine AL_p (x_not rfl rfl) ?_
    refine AL_nil ?_
    cases b900
    rotate_left
    · try simp only [tdy] at h900
      refine AW_condF rfl ?_
      refine AW_skip ?_
      refine AW_seq ?_
      refine AW_region ?_
      refine AL_p (x_move rfl rfl) ?_
      refine AL_p (x_assign rfl rfl) ?_
      refine AL_nil ?_
      refine AW_shut 101 4 rfl rfl ?_
      refine AW_ret ?_
      exact ⟨rn [], ⟨⟨_, rfl, by first | (refine vle_sl ?_; rw [hno]; done) | (refine vle_sl ?_; rw [hno]; first | exact putTo_done (by omega) (by omega) (by omega) | exact putTo_end (by omega) (by omega) (by omega))⟩, trivial⟩, trivial, trivial, rfl⟩
    try simp only [tdy] at h900
    refine AW_condT rfl ?_
    refine AW_region ?_
    refine AL_p (x_move rfl rfl) ?_
    refine AL_p (x_loadN (n := 1) rfl rfl rfl (by kernel_rfl) rfl rfl) ?_
    refine AL_p (x_call1 rfl rfl rfl (rowS_c row hr 107) rfl rfl rfl rfl) ?_
    refine AL_p (y_bslice (E := 72) (e := rowE) [.tmp 46] ([row]) 108 rfl rfl rfl rfl rfl rfl rfl rfl FitL.rf rfl rfl rfl rfl rfl rfl (by kernel_rfl)) ?_
    refine AL_p (y_append 109 rfl rfl rfl rfl rfl rfl rfl rfl (by kernel_rfl) (by have := putTo_len (rows := rows) (row := row) (k := k) (by omega); simp only [List.length_append, List.length_cons, List.length_nil]; omega)) ?_
    refine AL_p (x_assign rfl rfl) ?_
    refine AL_nil ?_
    refine AW_seq ?_
    refine AW_region ?_
    refine AL_p (x_move rfl rfl) ?_
    refine AL_p (x_assign rfl rfl) ?_
    refine AL_nil ?_
    refine AW_shut 109 4 rfl rfl ?_
    refine AW_ret ?_
    exact ⟨rn [], ⟨⟨_, rfl, by first | (refine vle_sl ?_; rw [hno]; done) | (refine vle_sl ?_; rw [hno]; first | exact putTo_done (by omega) (by omega) (by omega) | exact putTo_end (by omega) (by omega) (by omega))⟩, trivial⟩, trivial, trivial, rfl⟩
  try simp only [tdy] at h16
  refine AW_condT rfl ?_
  refine AW_skip ?_
  refine AW_seq ?_
  refine AW_block ?_
  refine AW_seq ?_
  refine AW_region ?_
  refine AL_p (x_move rfl rfl) ?_
  refine AL_p (x_assign rfl rfl) ?_
  refine AL_nil ?_
  refine AW_seq ?_
  refine AW_seq ?_
  refine AW_draw rfl ?_
  refine AL_p (x_move rfl rfl) ?_
  refine AL_p (x_not rfl rfl) ?_
  refine AL_p (x_move rfl rfl) ?_
  cases b900
  rotate_left
  · try simp only [tdy] at h900
    refine AL_o rfl rfl rfl rfl ?_
    refine AL_o rfl rfl rfl rfl ?_
    refine AL_o rfl rfl rfl rfl ?_
    refine AL_o rfl rfl rfl rfl ?_
    refine AL_o rfl rfl rfl rfl ?_
    refine AL_o rfl rfl rfl rfl ?_
    refine AL_o rfl rfl rfl rfl ?_
    refine AL_p (x_pickF rfl rfl rfl) ?_
    refine AL_nild (by kernel_rfl) ?_
    refine AW_condF rfl ?_
    refine AW_skip ?_
    refine AW_region ?_
    refine AL_p (x_move rfl rfl) ?_
    refine AL_p (x_move rfl rfl) ?_
    refine AL_p (x_move rfl rfl) ?_
    refine AL_p (x_index (E := 72) (n := 1) rfl rfl rfl (by kernel_rfl) rfl (k := k) (by omega) (by omega)) ?_
    refine AL_p (x_eloadW (n := 1) rfl rfl (by kernel_rfl) rfl) ?_
    refine AL_p (y_bslice (E := 72) (e := rowE) [.tmp 38] ([(rows[k]'(by omega))]) 102 rfl rfl rfl rfl rfl rfl rfl rfl FitL.rf rfl rfl rfl rfl rfl rfl (by kernel_rfl)) ?_
    refine AL_p (y_append 103 rfl rfl rfl rfl rfl rfl rfl rfl (by kernel_rfl) (by have := putTo_len (rows := rows) (row := row) (k := k) (by omega); simp only [List.length_append, List.length_cons, List.length_nil]; omega)) ?_
    refine AL_p (x_assign rfl rfl) ?_
    refine AL_nil ?_
    refine AW_region ?_
    refine AL_p (x_add rfl rfl rfl (IntWalk.i64_in _ (by omega))) ?_
    refine AL_p (x_move rfl rfl) ?_
    refine AL_nil ?_
    refine ⟨⟨⟨k + 1, true⟩, ⟨by omega, by rw [decide_eq_true_eq]; omega⟩⟩, rn [(101, 103)], ?_, by dsimp only; omega⟩
    exact ⟨by (repeat refine ⟨⟨_, rfl, by first | exact VLe.rf | exact vle_int (by dsimp only; omega)⟩, ?_⟩); exact trivial, by (repeat refine ⟨⟨_, rfl, by first | exact BLe.rf | exact BLe.box AllC.rf | exact BLe.arr (by first | exact putTo_zero | exact putTo_behind (by omega) (by omega) | exact putTo_here (by omega) (by omega) | exact putTo_before (by omega) (by omega))⟩, ?_⟩); exact trivial, by repeat (first | exact trivial | refine ⟨⟨rfl, by first | (left; intro h; cases h) | (right; rfl), by first | exact (fun _ h => ⟨_, h⟩) | exact (fun _ _ => ⟨_, rfl⟩) | (intro _ h; cases h)⟩, ?_⟩), rfl⟩
  try simp only [tdy] at h900
  refine AL_g rfl rfl (x_loadN (n := 1) rfl rfl rfl (by kernel_rfl) rfl rfl) ?_
  refine AL_g rfl rfl (x_move rfl rfl) ?_
  refine AL_g rfl rfl (x_move rfl rfl) ?_
  refine AL_g rfl rfl (x_index (E := 72) (n := 1) rfl rfl rfl (by kernel_rfl) rfl (k := k) (by omega) (by omega)) ?_
  refine AL_g rfl rfl (x_eloadW (n := 1) rfl rfl (by kernel_rfl) rfl) ?_
  refine AL_g rfl rfl (x_call0 rfl rfl rfl (orderS_c _ _) rfl rfl) ?_
  refine AL_gb rfl rfl (x_eql rfl rfl rfl) (fun b27 h27 => ?_)
  refine AL_p (x_pickT rfl rfl rfl) ?_
  refine AL_nild (by kernel_rfl) ?_
  cases b27
  · try simp only [tdy] at h27
    have hp : ¬ k = pos rows row := of_decide_eq_false ((putTo_lt hs hv h10 (k := k) (by omega) (by omega)).symm.trans (by simp [h27]))
    refine AW_condF rfl ?_
    refine AW_skip ?_
    refine AW_region ?_
    refine AL_p (x_move rfl rfl) ?_
    refine AL_p (x_move rfl rfl) ?_
    refine AL_p (x_move rfl rfl) ?_
    refine AL_p (x_index (E := 72) (n := 1) rfl rfl rfl (by kernel_rfl) rfl (k := k) (by omega) (by omega)) ?_
    refine AL_p (x_eloadW (n := 1) rfl rfl (by kernel_rfl) rfl) ?_
    refine AL_p (y_bslice (E := 72) (e := rowE) [.tmp 38] ([(rows[k]'(by omega))]) 102 rfl rfl rfl rfl rfl rfl rfl rfl FitL.rf rfl rfl rfl rfl rfl rfl (by kernel_rfl)) ?_
    refine AL_p (y_append 103 rfl rfl rfl rfl rfl rfl rfl rfl (by kernel_rfl) (by have := putTo_len (rows := rows) (row := row) (k := k) (by omega); simp only [List.length_append, List.length_cons, List.length_nil]; omega)) ?_
    refine AL_p (x_assign rfl rfl) ?_
    refine AL_nil ?_
    refine AW_region ?_
    refine AL_p (x_add rfl rfl rfl (IntWalk.i64_in _ (by omega))) ?_
    refine AL_p (x_move rfl rfl) ?_
    refine AL_nil ?_
    refine ⟨⟨⟨k + 1, false⟩, ⟨by omega, by rw [decide_eq_false_iff_not]; omega⟩⟩, rn [(101, 103)], ?_, by dsimp only; omega⟩
    exact ⟨by (repeat refine ⟨⟨_, rfl, by first | exact VLe.rf | exact vle_int (by dsimp only; omega)⟩, ?_⟩); exact trivial, by (repeat refine ⟨⟨_, rfl, by first | exact BLe.rf | exact BLe.box AllC.rf | exact BLe.arr (by first | exact putTo_zero | exact putTo_behind (by omega) (by omega) | exact putTo_here (by omega) (by omega) | exact putTo_before (by omega) (by omega))⟩, ?_⟩); exact trivial, by repeat (first | exact trivial | refine ⟨⟨rfl, by first | (left; intro h; cases h) | (right; rfl), by first | exact (fun _ h => ⟨_, h⟩) | exact (fun _ _ => ⟨_, rfl⟩) | (intro _ h; cases h)⟩, ?_⟩), rfl⟩
  try simp only [tdy] at h27
  have hp : k = pos rows row := of_decide_eq_true ((putTo_lt hs hv h10 (k := k) (by omega) (by omega)).symm.trans (by simp [h27]))
  refine AW_condT rfl ?_
  refine AW_seq ?_
  refine AW_region ?_
  refine AL_p (x_move rfl rfl) ?_
  refine AL_p (x_loadN (n := 1) rfl rfl rfl (by kernel_rfl) rfl rfl) ?_
  refine AL_p (x_call1 rfl rfl rfl (rowS_c row hr 104) rfl rfl rfl rfl) ?_
  refine AL_p (y_bslice (E := 72) (e := rowE) [.tmp 31] ([row]) 105 rfl rfl rfl rfl rfl rfl rfl rfl FitL.rf rfl rfl rfl rfl rfl rfl (by kernel_rfl)) ?_
  refine AL_p (y_append 106 rfl rfl rfl rfl rfl rfl rfl rfl (by kernel_rfl) (by have := putTo_len (rows := rows) (row := row) (k := k) (by omega); simp only [List.length_append, List.length_cons, List.length_nil]; omega)) ?_
  refine AL_p (x_assign rfl rfl) ?_
  refine AL_nil ?_
  refine AW_region ?_
  refine AL_p (x_assign rfl rfl) ?_
  refine AL_nil ?_
  refine AW_region ?_
  refine AL_p (x_move rfl rfl) ?_
  refine AL_p (x_move rfl rfl) ?_
  refine AL_p (x_move rfl rfl) ?_
  refine AL_p (x_index (E := 72) (n := 1) rfl rfl rfl (by kernel_rfl) rfl (k := k) (by omega) (by omega)) ?_
  refine AL_p (x_eloadW (n := 1) rfl rfl (by kernel_rfl) rfl) ?_
  refine AL_p (y_bslice (E := 72) (e := rowE) [.tmp 38] ([(rows[k]'(by omega))]) 102 rfl rfl rfl rfl rfl rfl rfl rfl FitL.rf rfl rfl rfl rfl rfl rfl (by kernel_rfl)) ?_
  refine AL_p (y_append 103 rfl rfl rfl rfl rfl rfl rfl rfl (by kernel_rfl) (by have := putTo_len (rows := rows) (row := row) (k := k) (by omega); simp only [List.length_append, List.length_cons, List.length_nil]; omega)) ?_
  refine AL_p (x_assign rfl rfl) ?_
  refine AL_nil ?_
  refine AW_region ?_
  refine AL_p (x_add rfl rfl rfl (IntWalk.i64_in _ (by omega))) ?_
  refine AL_p (x_move rfl rfl) ?_
  refine AL_nil ?_
  refine ⟨⟨⟨k + 1, true⟩, ⟨by omega, by rw [decide_eq_true_eq]; omega⟩⟩, rn [(101, 103)], ?_, by dsimp only; omega⟩
  exact ⟨by (repeat refine ⟨⟨_, rfl, by first | exact VLe.rf | exact vle_int (by dsimp only; omega)⟩, ?_⟩); exact trivial, by (repeat refine ⟨⟨_, rfl, by first | exact BLe.rf | exact BLe.box AllC.rf | exact BLe.arr (by first | exact putTo_zero | exact putTo_behind (by omega) (by omega) | exact putTo_here (by omega) (by omega) | exact putTo_before (by omega) (by omega))⟩, ?_⟩); exact trivial, by repeat (first | exact trivial | refine ⟨⟨rfl, by first | (left; intro h; cases h) | (right; rfl), by first | exact (fun _ h => ⟨_, h⟩) | exact (fun _ _ => ⟨_, rfl⟩) | (intro _ h; cases h)⟩, ?_⟩), rfl⟩

set_option maxHeartbeats 4000000 in
theorem relAddS_c (r : Relt) (row : List Val) (hr : smallRel r) (hw : smallRow row) : AC Tryz.prog 108 [.agg (relC r), .agg (rowC row)] [] (.tup [.agg [.c (.int .i64 (relAdd r row).1.arity), .sl rowE (relAdd r row).1.rows], .one (.c (.int .i64 (relAdd r row).2))]) [] := by
  refine AC_bodyCT (n := 2) (k := 9) (T := [(4, .one (.ptr 9 0)), (5, .one (.c (.int .i64 (relAdd r row).2)))]) (Lf := ((9, some (.box [.c (.int .i64 (relAdd r row).1.arity), .sl rowE (relAdd r row).1.rows])) :: [])) Tryz.func108 rfl rfl Tryz.ntmps108 rfl Tryz.results108 rfl rfl rfl rfl (by kernel_rfl) rfl rfl ⟨trivial, (by repeat (first | exact trivial | refine ⟨⟨_, rfl, BLe.rf⟩, ?_⟩)), (by repeat (first | exact trivial | refine ⟨⟨rfl, by first | (left; intro h; cases h) | (right; rfl), by first | exact (fun _ h => ⟨_, h⟩) | exact (fun _ _ => ⟨_, rfl⟩) | (intro _ h; cases h)⟩, ?_⟩)), rfl⟩ ?_
  refine AW_aggmax 1 0 rfl rfl (fun hm1_0 => ?_)
  refine AW_seq ?_
  refine AW_region ?_
  refine AL_p (x_box 100 rfl rfl rfl rfl rfl rfl rfl) ?_
  refine AL_p (x_box 101 rfl rfl rfl rfl rfl rfl rfl) ?_
  refine AL_p (x_alloc (z := .agg #[.int .i64 0, .slice none 0 0]) 102 rfl (by kernel_rfl) rfl rfl rfl rfl) ?_
  refine AL_p (x_assign rfl rfl) ?_
  refine AL_nil ?_
  refine AW_seq ?_
  refine AW_seq ?_
  refine AW_region ?_
  refine AL_p (x_loadN (n := 2) rfl rfl rfl (by kernel_rfl) rfl rfl) ?_
  refine AL_b (x_call0 rfl rfl rfl (relOkS_c _ hr.1) rfl rfl) (fun b8 h8 => ?_)
  refine AL_p (x_not rfl rfl) ?_
  refine AL_p (x_move rfl rfl) ?_
  cases b8
  · try simp only [tdy] at h8
    have hno := relAdd_no (row := row) (fits_r h8)
    refine AL_o rfl rfl rfl rfl ?_
    refine AL_o rfl rfl rfl rfl ?_
    refine AL_o rfl rfl rfl rfl ?_
    refine AL_p (x_pickT rfl rfl rfl) ?_
    refine AL_p (x_move rfl rfl) ?_
    refine AL_o rfl rfl rfl rfl ?_
    refine AL_o rfl rfl rfl rfl ?_
    refine AL_o rfl rfl rfl rfl ?_
    refine AL_o rfl rfl rfl rfl ?_
    refine AL_o rfl rfl rfl rfl ?_
    refine AL_o rfl rfl rfl rfl ?_
    refine AL_p (x_pickT rfl rfl rfl) ?_
    refine AL_nil ?_
    refine AW_condT rfl ?_
    refine AW_seq ?_
    refine AW_region ?_
    refine AL_p (x_build (zs := [.int .i64 0, .slice none 0 0]) (places := [(0, 1), (1, 1)]) rfl (by kernel_rfl) rfl rfl rfl rfl rfl) ?_
    refine AL_p (x_store (n := 2) rfl rfl rfl rfl (by kernel_rfl) rfl rfl rfl) ?_
    refine AL_p (x_assign rfl rfl) ?_
    refine AL_nil ?_
    refine AW_ret ?_
    exact ⟨rn [(9, 102)], ⟨⟨⟨_, rfl, VLe.rf⟩, ⟨_, rfl, by first | (refine vle_int ?_; rw [hno]; done) | exact VLe.rf⟩, trivial⟩, ⟨⟨_, rfl, by first | (refine ble_eq ?_; rw [hno]; done) | (refine ble_eq ?_; rw [hno]; rfl) | (refine BLe.box ?_; rw [hno]; exact ⟨CLe.rf, CLe.nil, trivial⟩)⟩, trivial⟩, trivial, rfl⟩⟩
  try simp only [tdy] at h8
  refine AL_g rfl rfl (x_loadN (n := 1) rfl rfl rfl (by kernel_rfl) rfl rfl) ?_
  refine AL_gb rfl rfl (x_call0 rfl rfl rfl (rowOkS_c _) rfl rfl) (fun b12 h12 => ?_)
  refine AL_g rfl rfl (x_not rfl rfl) ?_
  refine AL_p (x_pickF rfl rfl rfl) ?_
  refine AL_p (x_move rfl rfl) ?_
  cases b12
  · try simp only [tdy] at h12
    have hno := relAdd_no (r := r) (fits_row h12)
    refine AL_o rfl rfl rfl rfl ?_
    refine AL_o rfl rfl rfl rfl ?_
    refine AL_o rfl rfl rfl rfl ?_
    refine AL_o rfl rfl rfl rfl ?_
    refine AL_o rfl rfl rfl rfl ?_
    refine AL_o rfl rfl rfl rfl ?_
    refine AL_p (x_pickT rfl rfl rfl) ?_
    refine AL_nil ?_
    refine AW_condT rfl ?_
    refine AW_seq ?_
    refine AW_region ?_
    refine AL_p (x_build (zs := [.int .i64 0, .slice none 0 0]) (places := [(0, 1), (1, 1)]) rfl (by kernel_rfl) rfl rfl rfl rfl rfl) ?_
    refine AL_p (x_store (n := 2) rfl rfl rfl rfl (by kernel_rfl) rfl rfl rfl) ?_
    refine AL_p (x_assign rfl rfl) ?_
    refine AL_nil ?_
    refine AW_ret ?_
    exact ⟨rn [(9, 102)], ⟨⟨⟨_, rfl, VLe.rf⟩, ⟨_, rfl, by first | (refine vle_int ?_; rw [hno]; done) | exact VLe.rf⟩, trivial⟩, ⟨⟨_, rfl, by first | (refine ble_eq ?_; rw [hno]; done) | (refine ble_eq ?_; rw [hno]; rfl) | (refine BLe.box ?_; rw [hno]; exact ⟨CLe.rf, CLe.nil, trivial⟩)⟩, trivial⟩, trivial, rfl⟩⟩
  try simp only [tdy] at h12
  refine AL_g rfl rfl (x_field (off := 0) (o' := 0) rfl rfl rfl (by kernel_rfl) rfl) ?_
  refine AL_g rfl rfl (x_load1 rfl rfl rfl (by kernel_rfl) rfl) ?_
  refine AL_g rfl rfl (x_len (E := 147) (n := 2) rfl rfl (by kernel_rfl)) ?_
  refine AL_g rfl rfl (x_field (off := 0) (o' := 0) rfl rfl rfl (by kernel_rfl) rfl) ?_
  refine AL_g rfl rfl (x_load1 rfl rfl rfl (by kernel_rfl) rfl) ?_
  refine AL_gb rfl rfl (x_neq rfl rfl rfl) (fun b21 h21 => ?_)
  refine AL_p (x_pickF rfl rfl rfl) ?_
  refine AL_nil ?_
  cases b21
  rotate_left
  · try simp only [tdy] at h21
    have hno := relAdd_no (fits_len h21)
    refine AW_condT rfl ?_
    refine AW_seq ?_
    refine AW_region ?_
    refine AL_p (x_build (zs := [.int .i64 0, .slice none 0 0]) (places := [(0, 1), (1, 1)]) rfl (by kernel_rfl) rfl rfl rfl rfl rfl) ?_
    refine AL_p (x_store (n := 2) rfl rfl rfl rfl (by kernel_rfl) rfl rfl rfl) ?_
    refine AL_p (x_assign rfl rfl) ?_
    refine AL_nil ?_
    refine AW_ret ?_
    exact ⟨rn [(9, 102)], ⟨⟨⟨_, rfl, VLe.rf⟩, ⟨_, rfl, by first | (refine vle_int ?_; rw [hno]; done) | exact VLe.rf⟩, trivial⟩, ⟨⟨_, rfl, by first | (refine ble_eq ?_; rw [hno]; done) | (refine ble_eq ?_; rw [hno]; rfl) | (refine BLe.box ?_; rw [hno]; exact ⟨CLe.rf, CLe.nil, trivial⟩)⟩, trivial⟩, trivial, rfl⟩⟩
  try simp only [tdy] at h21
  have hf := fits_ok h8 h12 h21
  obtain ⟨hs, hrv, h300⟩ := fits_sorted hf
  refine AW_condF rfl ?_
  refine AW_skip ?_
  refine AW_seq ?_
  refine AW_region ?_
  refine AL_p (x_loadN (n := 2) rfl rfl rfl (by kernel_rfl) rfl rfl) ?_
  refine AL_p (x_call1 rfl rfl rfl (copyS_c r hr 103) rfl rfl rfl rfl) ?_
  refine AL_p (x_alloc (z := .agg #[.int .i64 0, .slice none 0 0]) 104 rfl (by kernel_rfl) rfl rfl rfl rfl) ?_
  refine AL_p (x_store (n := 2) rfl rfl rfl rfl (by kernel_rfl) rfl rfl rfl) ?_
  refine AL_nil ?_
  refine AW_seq ?_
  refine AW_shutB 103 104 1 rfl rfl rfl rfl ?_
  refine AW_region ?_
  refine AL_p (x_field (off := 1) (o' := 1) rfl rfl rfl (by kernel_rfl) rfl) ?_
  refine AL_p (x_load1 rfl rfl rfl (by kernel_rfl) rfl) ?_
  refine AL_p (x_loadN (n := 1) rfl rfl rfl (by kernel_rfl) rfl rfl) ?_
  refine AL_p (x_call0 rfl rfl rfl (putS_c r.rows row (by omega) (fun x hx => (hr.2 x hx).1) hw.1 hs hrv) rfl rfl) ?_
  refine AL_p (x_field (off := 1) (o' := 1) rfl rfl rfl (by kernel_rfl) rfl) ?_
  refine AL_p (x_store (n := 1) rfl rfl rfl rfl (by kernel_rfl) rfl rfl rfl) ?_
  refine AL_nil ?_
  refine AW_seq ?_
  refine AW_seq ?_
  refine AW_region ?_
  refine AL_p (x_field (off := 1) (o' := 1) rfl rfl rfl (by kernel_rfl) rfl) ?_
  refine AL_p (x_load1 rfl rfl rfl (by kernel_rfl) rfl) ?_
  refine AL_p (x_len (E := 72) (n := 1) rfl rfl (by kernel_rfl)) ?_
  refine AL_b (x_gtr rfl rfl rfl) (fun b34 h34 => ?_)
  refine AL_nil ?_
  cases b34
  rotate_left
  · try simp only [tdy] at h34
    have hno := relAdd_big hf h34
    refine AW_condT rfl ?_
    refine AW_seq ?_
    refine AW_region ?_
    refine AL_p (x_build (zs := [.int .i64 0, .slice none 0 0]) (places := [(0, 1), (1, 1)]) rfl (by kernel_rfl) rfl rfl rfl rfl rfl) ?_
    refine AL_p (x_store (n := 2) rfl rfl rfl rfl (by kernel_rfl) rfl rfl rfl) ?_
    refine AL_p (x_assign rfl rfl) ?_
    refine AL_nil ?_
    refine AW_ret ?_
    exact ⟨rn [(9, 102)], ⟨⟨⟨_, rfl, VLe.rf⟩, ⟨_, rfl, by first | (refine vle_int ?_; rw [hno]; done) | exact VLe.rf⟩, trivial⟩, ⟨⟨_, rfl, by first | (refine ble_eq ?_; rw [hno]; done) | (refine ble_eq ?_; rw [hno]; rfl) | (refine BLe.box ?_; rw [hno]; exact ⟨CLe.rf, CLe.nil, trivial⟩)⟩, trivial⟩, trivial, rfl⟩⟩
  try simp only [tdy] at h34
  have hno := relAdd_ok hf (by omega)
  refine AW_condF rfl ?_
  refine AW_skip ?_
  refine AW_seq ?_
  refine AW_region ?_
  refine AL_p (x_loadN (n := 2) rfl rfl rfl (by kernel_rfl) rfl rfl) ?_
  refine AL_p (x_store (n := 2) rfl rfl rfl rfl (by kernel_rfl) rfl rfl rfl) ?_
  refine AL_p (x_assign rfl rfl) ?_
  refine AL_nil ?_
  refine AW_ret ?_
  exact ⟨rn [(9, 102)], ⟨⟨⟨_, rfl, VLe.rf⟩, ⟨_, rfl, by first | (refine vle_int ?_; rw [hno]; done) | exact VLe.rf⟩, trivial⟩, ⟨⟨_, rfl, by first | (refine ble_eq ?_; rw [hno]; done) | (refine ble_eq ?_; rw [hno]; rfl) | (refine BLe.box ?_; rw [hno]; exact ⟨CLe.rf, CLe.nil, trivial⟩)⟩, trivial⟩, trivial, rfl⟩⟩
end Go.Proofs.YtibhoanjglfaoaaGreat

/- Deltas that are drawn (printed by walk.py) -/
namespace Go.Proofs.YtibhoanjglfaoaaGreat
open Go.RowKit
set_option linter.unusedVariables false
set_option linter.unusedSimpArgs false
set_option maxRecDepth 100000

set_option maxHeartbeats 4000000 in
theorem next_c (b : List Int) (c : Cur) (hb : b.length ≤ 1048576) (rels : List Namedt) (hl : rels.length ≤ 1048576) (hn : ∀ y ∈ rels, nxSm y) : AC Tryz.prog 65 [.one (.ptr 200 0), .agg [.sl namedE rels]] [(200, some (curB b c))] (.agg [.sl namedE (dNext b rels c).1]) [(200, some (curB b (dNext b rels c).2))] := by
  have hno : True := trivial
  refine AC_bodyC (n := 1) (k := 9) (T := [(4, .one (.ptr 9 0))]) (Lf := ((9, some (.box [.sl namedE (dNext b rels c).1])) :: [(200, some (curB b (dNext b rels c).2))])) Tryz.func65 rfl rfl Tryz.ntmps65 rfl Tryz.results65 rfl rfl (by kernel_rfl) rfl rfl ⟨trivial, (by repeat (first | exact trivial | refine ⟨⟨_, rfl, BLe.rf⟩, ?_⟩)), (by repeat (first | exact trivial | refine ⟨⟨rfl, by first | (left; intro h; cases h) | (right; rfl), by first | exact (fun _ h => ⟨_, h⟩) | exact (fun _ _ => ⟨_, rfl⟩) | (intro _ h; cases h)⟩, ?_⟩)), rfl⟩ ?_
  refine AW_seq ?_
  refine AW_region ?_
  refine AL_p (x_box 100 rfl rfl rfl rfl rfl rfl rfl) ?_
  refine AL_p (x_alloc (z := .agg #[.slice none 0 0]) 101 rfl (by kernel_rfl) rfl rfl rfl rfl) ?_
  refine AL_nil ?_
  refine AW_seq ?_
  refine AW_region ?_
  refine AL_p (x_loadN (n := 1) rfl rfl rfl (by kernel_rfl) rfl rfl) ?_
  refine AL_p (x_call1 rfl rfl rfl (copySt_c rels hl (fun y hy => (hn y hy).1) 102) rfl rfl rfl rfl) ?_
  refine AL_p (x_alloc (z := .agg #[.slice none 0 0]) 103 rfl (by kernel_rfl) rfl rfl rfl rfl) ?_
  refine AL_p (x_store (n := 1) rfl rfl rfl rfl (by kernel_rfl) rfl rfl rfl) ?_
  refine AL_nil ?_
  refine AW_seq ?_
  refine AW_seq ?_
  refine AW_region ?_
  refine AL_p (x_field (off := 0) (o' := 0) rfl rfl rfl (by kernel_rfl) rfl) ?_
  refine AL_p (x_load1 rfl rfl rfl (by kernel_rfl) rfl) ?_
  refine AL_p (x_olen (E := 84) (n := 3) rfl rfl rfl (by kernel_rfl)) ?_
  refine AL_p (x_move rfl rfl) ?_
  refine AL_nil ?_
  refine AW_block ?_
  refine AW_shallow 102 rfl ?_
  refine AW_loop2 (ι := {q : Nat // q ≤ rels.length}) (fun p => [(16, .one (.c (.int .i64 ((p.1) : Int))))]) (fun p => [(102, some (.arr 84 namedE (nextTo b rels (p.1) c).1 false)), (200, some (curB b (nextTo b rels (p.1) c).2))]) [0, 4, 5, 15] [100, 101, 103] (fun p => rels.length - (p.1)) ⟨0, by omega⟩ (rn []) ?_ ?_
  exact ⟨by (repeat refine ⟨⟨_, rfl, by first | with_reducible exact VLe.rf | exact VLe.rf | exact vle_int (by dsimp only; omega)⟩, ?_⟩); exact trivial, by (repeat refine ⟨⟨_, rfl, by first | with_reducible exact BLe.rf | exact ble_eq (congrArg (fun q => curB b q.2) hs).symm | (refine BLe.arr ?_; first | rfl | exact (congrArg Prod.fst hs).symm) | exact BLe.rf | exact BLe.box AllC.rf⟩, ?_⟩); exact trivial, by repeat (first | exact trivial | refine ⟨⟨rfl, by first | (left; intro h; cases h) | (right; rfl), by first | exact (fun _ h => ⟨_, h⟩) | exact (fun _ _ => ⟨_, rfl⟩) | (intro _ h; cases h)⟩, ?_⟩), rfl⟩
  rintro ⟨k, hinv⟩
  dsimp only
  have hk := hinv
  obtain ⟨hle, hal⟩ := nextTo_sm (b := b) hn k c
  refine AW_seq ?_
  refine AW_region ?_
  refine AL_b (x_lss rfl rfl rfl) (fun b17 h17 => ?_)
  refine AL_nil ?_
  refine AW_seq ?_
  cases b17
  · try simp only [tdy] at h17
    obtain rfl : k = rels.length := by omega
    refine AW_condF rfl ?_
    refine AW_exit (BQ_hit ?_)
    refine AW_seq ?_
    refine AW_region ?_
    refine AL_p (x_loadN (n := 1) rfl rfl rfl (by kernel_rfl) rfl rfl) ?_
    refine AL_p (x_store (n := 1) rfl rfl rfl rfl (by kernel_rfl) rfl rfl rfl) ?_
    refine AL_nil ?_
    refine AW_shutB 102 101 0 rfl rfl rfl rfl ?_
    refine AW_ret ?_
    exact ⟨rn [(9, 101)], ⟨⟨⟨_, rfl, VLe.rf⟩, trivial⟩, ⟨⟨_, rfl, by first | exact BLe.rf | exact ble_eq (by rw [hno]; first | done | rfl)⟩, ⟨_, rfl, by first | exact BLe.rf | exact ble_eq (by rw [hno]; first | done | rfl)⟩, trivial⟩, by repeat (first | exact trivial | refine ⟨⟨rfl, by first | (left; intro h; cases h) | (right; rfl), by first | exact (fun _ h => ⟨_, h⟩) | exact (fun _ _ => ⟨_, rfl⟩) | (intro _ h; cases h)⟩, ?_⟩), rfl⟩⟩
  try simp only [tdy] at h17
  have hx := hal _ (List.getElem_mem (l := (nextTo b rels k c).1) (n := k) (by omega))
  have hE : ((nextTo b rels k c).1.getD k noNamed) = ((nextTo b rels k c).1[k]'(by omega)) := getD_nm (by omega)
  have hsz := hx.1.2.1
  refine AW_condT rfl ?_
  refine AW_skip ?_
  refine AW_seq ?_
  refine AW_block ?_
  refine AW_seq ?_
  refine AW_region ?_
  refine AL_p (x_move rfl rfl) ?_
  refine AL_p (x_assign rfl rfl) ?_
  refine AL_nil ?_
  refine AW_seq ?_
  refine AW_region ?_
  refine AL_p (x_field (off := 0) (o' := 0) rfl rfl rfl (by kernel_rfl) rfl) ?_
  refine AL_p (x_load1 rfl rfl rfl (by kernel_rfl) rfl) ?_
  refine AL_p (x_move rfl rfl) ?_
  refine AL_p (x_oindex (n := 3) rfl rfl rfl rfl (by kernel_rfl) rfl (k := k) rfl (by omega)) ?_
  refine AL_p (x_ofield (off := 1) (o' := 1) rfl rfl rfl (by kernel_rfl) rfl) ?_
  refine AL_p (x_oloadN (n := 2) rfl rfl rfl (by kernel_rfl) (by omega) rfl rfl) ?_
  refine AL_p (x_alloc (z := .agg #[.int .i64 0, .slice none 0 0]) 104 rfl (by kernel_rfl) rfl rfl rfl rfl) ?_
  refine AL_p (x_store (n := 2) rfl rfl rfl rfl (by kernel_rfl) rfl rfl rfl) ?_
  refine AL_nil ?_
  refine AW_seq ?_
  refine AW_region ?_
  refine AL_p (x_move rfl rfl) ?_
  refine AL_p (x_call (ks := []) (L := [(200, some _)]) (L' := [(200, some _)]) rfl rfl rfl (below_c b (nextTo b rels k c).2 hb 4) rfl AllV.rf (caught_of rfl) rfl rfl rfl ⟨rfl, trivial⟩ rfl) ?_
  refine AL_p (x_assign rfl rfl) ?_
  refine AL_nil ?_
  refine AW_seq ?_
  refine AW_seq ?_
  refine AW_region ?_
  refine AL_p (x_move rfl rfl) ?_
  refine AL_b (x_lss rfl rfl rfl) (fun b28 h28 => ?_)
  refine AL_p (x_move rfl rfl) ?_
  cases b28
  · try simp only [tdy] at h28
    have hD : nxDrop b ((nextTo b rels k c).1.getD k noNamed).rel (dBelow b (nextTo b rels k c).2 4).1 (dBelow b (nextTo b rels k c).2 4).2 = (((nextTo b rels k c).1[k]'(by omega)).rel, (dBelow b (nextTo b rels k c).2 4).2) := by rw [hE]; exact if_neg (by omega)
    have hDs : smallRel ((nextTo b rels k c).1[k]'(by omega)).rel ∧ ((nextTo b rels k c).1[k]'(by omega)).rel.arity ≤ 8 := ⟨hx.1.2, hx.2⟩
    refine AL_o rfl rfl rfl rfl ?_
    refine AL_o rfl rfl rfl rfl ?_
    refine AL_o rfl rfl rfl rfl ?_
    refine AL_o rfl rfl rfl rfl ?_
    refine AL_p (x_pickF rfl rfl rfl) ?_
    refine AL_nil ?_
    refine AW_condF rfl ?_
    refine AW_skip ?_
    refine AW_seq ?_
    refine AW_seq ?_
    refine AW_region ?_
    refine AL_p (x_move rfl rfl) ?_
    refine AL_b (x_gtr rfl rfl rfl) (fun b50 h50 => ?_)
    refine AL_nil ?_
    cases b50
    · try simp only [tdy] at h50
      have hA : nxAdd b ((nextTo b rels k c).1[k]'(by omega)).rel (dBelow b (nextTo b rels k c).2 4).1 (dBelow b (nextTo b rels k c).2 4).2 = (((nextTo b rels k c).1[k]'(by omega)).rel, (dBelow b (nextTo b rels k c).2 4).2) := if_neg (by omega)
      have hN : nxRel b ((nextTo b rels k c).1.getD k noNamed).rel (nextTo b rels k c).2 = (((nextTo b rels k c).1[k]'(by omega)).rel, (dBelow b (nextTo b rels k c).2 4).2) := by unfold nxRel; rw [hD]; exact hA
      have hs : (nextTo b rels (k + 1) c) = ((nextTo b rels k c).1.set k ⟨((nextTo b rels k c).1.getD k noNamed).name, ((nextTo b rels k c).1[k]'(by omega)).rel⟩, (dBelow b (nextTo b rels k c).2 4).2) := by show ((nextTo b rels k c).1.set k ⟨((nextTo b rels k c).1.getD k noNamed).name, (nxRel b ((nextTo b rels k c).1.getD k noNamed).rel (nextTo b rels k c).2).1⟩, (nxRel b ((nextTo b rels k c).1.getD k noNamed).rel (nextTo b rels k c).2).2) = _; rw [hN]
      refine AW_condF rfl ?_
      refine AW_skip ?_
      refine AW_region ?_
      refine AL_p (x_field (off := 0) (o' := 0) rfl rfl rfl (by kernel_rfl) rfl) ?_
      refine AL_p (x_load1 rfl rfl rfl (by kernel_rfl) rfl) ?_
      refine AL_p (x_move rfl rfl) ?_
      refine AL_p (x_loadN (n := 2) rfl rfl rfl (by kernel_rfl) rfl rfl) ?_
      refine AL_p (x_oindex (n := 3) rfl rfl rfl rfl (by kernel_rfl) rfl (k := k) rfl (by omega)) ?_
      refine AL_p (x_ofield (off := 1) (o' := 1) rfl rfl rfl (by kernel_rfl) rfl) ?_
      refine AL_p (x_ofstore (⟨((nextTo b rels k c).1.getD k noNamed).name, ((nextTo b rels k c).1[k]'(by omega)).rel⟩ : Namedt) (A := [.c (.string ((nextTo b rels k c).1[k]'(by omega)).name)]) (B := [.c (.int .i64 ((nextTo b rels k c).1[k]'(by omega)).rel.arity), .sl rowE ((nextTo b rels k c).1[k]'(by omega)).rel.rows]) (C := []) rfl rfl rfl rfl (by kernel_rfl) rfl rfl rfl FitL.rf rfl rfl (by omega) rfl rfl rfl (by rw [hE]; rfl)) ?_
      refine AL_nil ?_
      refine AW_region ?_
      refine AL_p (x_add rfl rfl rfl (IntWalk.i64_in _ (by omega))) ?_
      refine AL_p (x_move rfl rfl) ?_
      refine AL_nil ?_
      refine ⟨⟨k + 1, by omega⟩, rn [], ?_, by dsimp only; omega⟩
      exact ⟨by (repeat refine ⟨⟨_, rfl, by first | with_reducible exact VLe.rf | exact VLe.rf | exact vle_int (by dsimp only; omega)⟩, ?_⟩); exact trivial, by (repeat refine ⟨⟨_, rfl, by first | with_reducible exact BLe.rf | exact ble_eq (congrArg (fun q => curB b q.2) hs).symm | (refine BLe.arr ?_; first | rfl | exact (congrArg Prod.fst hs).symm) | exact BLe.rf | exact BLe.box AllC.rf⟩, ?_⟩); exact trivial, by repeat (first | exact trivial | refine ⟨⟨rfl, by first | (left; intro h; cases h) | (right; rfl), by first | exact (fun _ h => ⟨_, h⟩) | exact (fun _ _ => ⟨_, rfl⟩) | (intro _ h; cases h)⟩, ?_⟩), rfl⟩
    try simp only [tdy] at h50
    refine AW_condT rfl ?_
    refine AW_seq ?_
    refine AW_draw rfl ?_
    refine AL_p (x_loadN (n := 2) rfl rfl rfl (by kernel_rfl) rfl rfl) ?_
    refine AL_p (x_move rfl rfl) ?_
    refine AL_p (x_field (off := 0) (o' := 0) rfl rfl rfl (by kernel_rfl) rfl) ?_
    refine AL_p (x_load1 rfl rfl rfl (by kernel_rfl) rfl) ?_
    refine AL_p (x_call (ks := []) (L := [(200, some _)]) (L' := [(200, some _)]) rfl rfl rfl (drawRowF_c b (dBelow b (nextTo b rels k c).2 4).2 ((nextTo b rels k c).1[k]'(by omega)).rel.arity hDs.2 hb) rfl AllV.rf (caught_of rfl) rfl rfl rfl ⟨rfl, trivial⟩ rfl) ?_
    refine AL_p (x_call0 rfl rfl rfl (relAddS_c ((nextTo b rels k c).1[k]'(by omega)).rel (dVals b ((nextTo b rels k c).1[k]'(by omega)).rel.arity.toNat (dBelow b (nextTo b rels k c).2 4).2).1 hDs.1 (dVals_small b _ _ (by have := hDs.2; omega))) rfl rfl) ?_
    refine AL_p (x_move rfl rfl) ?_
    refine AL_p (x_extract rfl rfl rfl) ?_
    refine AL_p (x_extract rfl rfl rfl) ?_
    refine AL_p (x_alloc (z := .agg #[.int .i64 0, .slice none 0 0]) 106 rfl (by kernel_rfl) rfl rfl rfl rfl) ?_
    refine AL_p (x_store (n := 2) rfl rfl rfl rfl (by kernel_rfl) rfl rfl rfl) ?_
    refine AL_p (x_assign rfl rfl) ?_
    refine AL_nild (by kernel_rfl) ?_
    refine AW_seq ?_
    refine AW_region ?_
    refine AL_p (x_move rfl rfl) ?_
    refine AL_b (x_eql rfl rfl rfl) (fun b61 h61 => ?_)
    refine AL_nil ?_
    cases b61
    · try simp only [tdy] at h61
      have hA : nxAdd b ((nextTo b rels k c).1[k]'(by omega)).rel (dBelow b (nextTo b rels k c).2 4).1 (dBelow b (nextTo b rels k c).2 4).2 = (((nextTo b rels k c).1[k]'(by omega)).rel, (dVals b ((nextTo b rels k c).1[k]'(by omega)).rel.arity.toNat (dBelow b (nextTo b rels k c).2 4).2).2) := (if_pos (by omega)).trans (Prod.ext (if_neg (by omega)) rfl)
      have hN : nxRel b ((nextTo b rels k c).1.getD k noNamed).rel (nextTo b rels k c).2 = (((nextTo b rels k c).1[k]'(by omega)).rel, (dVals b ((nextTo b rels k c).1[k]'(by omega)).rel.arity.toNat (dBelow b (nextTo b rels k c).2 4).2).2) := by unfold nxRel; rw [hD]; exact hA
      have hs : (nextTo b rels (k + 1) c) = ((nextTo b rels k c).1.set k ⟨((nextTo b rels k c).1.getD k noNamed).name, ((nextTo b rels k c).1[k]'(by omega)).rel⟩, (dVals b ((nextTo b rels k c).1[k]'(by omega)).rel.arity.toNat (dBelow b (nextTo b rels k c).2 4).2).2) := by show ((nextTo b rels k c).1.set k ⟨((nextTo b rels k c).1.getD k noNamed).name, (nxRel b ((nextTo b rels k c).1.getD k noNamed).rel (nextTo b rels k c).2).1⟩, (nxRel b ((nextTo b rels k c).1.getD k noNamed).rel (nextTo b rels k c).2).2) = _; rw [hN]
      refine AW_condF rfl ?_
      refine AW_skip ?_
      refine AW_region ?_
      refine AL_p (x_field (off := 0) (o' := 0) rfl rfl rfl (by kernel_rfl) rfl) ?_
      refine AL_p (x_load1 rfl rfl rfl (by kernel_rfl) rfl) ?_
      refine AL_p (x_move rfl rfl) ?_
      refine AL_p (x_loadN (n := 2) rfl rfl rfl (by kernel_rfl) rfl rfl) ?_
      refine AL_p (x_oindex (n := 3) rfl rfl rfl rfl (by kernel_rfl) rfl (k := k) rfl (by omega)) ?_
      refine AL_p (x_ofield (off := 1) (o' := 1) rfl rfl rfl (by kernel_rfl) rfl) ?_
      refine AL_p (x_ofstore (⟨((nextTo b rels k c).1.getD k noNamed).name, ((nextTo b rels k c).1[k]'(by omega)).rel⟩ : Namedt) (A := [.c (.string ((nextTo b rels k c).1[k]'(by omega)).name)]) (B := [.c (.int .i64 ((nextTo b rels k c).1[k]'(by omega)).rel.arity), .sl rowE ((nextTo b rels k c).1[k]'(by omega)).rel.rows]) (C := []) rfl rfl rfl rfl (by kernel_rfl) rfl rfl rfl FitL.rf rfl rfl (by omega) rfl rfl rfl (by rw [hE]; rfl)) ?_
      refine AL_nil ?_
      refine AW_region ?_
      refine AL_p (x_add rfl rfl rfl (IntWalk.i64_in _ (by omega))) ?_
      refine AL_p (x_move rfl rfl) ?_
      refine AL_nil ?_
      refine ⟨⟨k + 1, by omega⟩, rn [], ?_, by dsimp only; omega⟩
      exact ⟨by (repeat refine ⟨⟨_, rfl, by first | with_reducible exact VLe.rf | exact VLe.rf | exact vle_int (by dsimp only; omega)⟩, ?_⟩); exact trivial, by (repeat refine ⟨⟨_, rfl, by first | with_reducible exact BLe.rf | exact ble_eq (congrArg (fun q => curB b q.2) hs).symm | (refine BLe.arr ?_; first | rfl | exact (congrArg Prod.fst hs).symm) | exact BLe.rf | exact BLe.box AllC.rf⟩, ?_⟩); exact trivial, by repeat (first | exact trivial | refine ⟨⟨rfl, by first | (left; intro h; cases h) | (right; rfl), by first | exact (fun _ h => ⟨_, h⟩) | exact (fun _ _ => ⟨_, rfl⟩) | (intro _ h; cases h)⟩, ?_⟩), rfl⟩
    try simp only [tdy] at h61
    have hA : nxAdd b ((nextTo b rels k c).1[k]'(by omega)).rel (dBelow b (nextTo b rels k c).2 4).1 (dBelow b (nextTo b rels k c).2 4).2 = ((relAdd ((nextTo b rels k c).1[k]'(by omega)).rel (dVals b ((nextTo b rels k c).1[k]'(by omega)).rel.arity.toNat (dBelow b (nextTo b rels k c).2 4).2).1).1, (dVals b ((nextTo b rels k c).1[k]'(by omega)).rel.arity.toNat (dBelow b (nextTo b rels k c).2 4).2).2) := (if_pos (by omega)).trans (Prod.ext (if_pos (by omega)) rfl)
    have hN : nxRel b ((nextTo b rels k c).1.getD k noNamed).rel (nextTo b rels k c).2 = ((relAdd ((nextTo b rels k c).1[k]'(by omega)).rel (dVals b ((nextTo b rels k c).1[k]'(by omega)).rel.arity.toNat (dBelow b (nextTo b rels k c).2 4).2).1).1, (dVals b ((nextTo b rels k c).1[k]'(by omega)).rel.arity.toNat (dBelow b (nextTo b rels k c).2 4).2).2) := by unfold nxRel; rw [hD]; exact hA
    have hs : (nextTo b rels (k + 1) c) = ((nextTo b rels k c).1.set k ⟨((nextTo b rels k c).1.getD k noNamed).name, (relAdd ((nextTo b rels k c).1[k]'(by omega)).rel (dVals b ((nextTo b rels k c).1[k]'(by omega)).rel.arity.toNat (dBelow b (nextTo b rels k c).2 4).2).1).1⟩, (dVals b ((nextTo b rels k c).1[k]'(by omega)).rel.arity.toNat (dBelow b (nextTo b rels k c).2 4).2).2) := by show ((nextTo b rels k c).1.set k ⟨((nextTo b rels k c).1.getD k noNamed).name, (nxRel b ((nextTo b rels k c).1.getD k noNamed).rel (nextTo b rels k c).2).1⟩, (nxRel b ((nextTo b rels k c).1.getD k noNamed).rel (nextTo b rels k c).2).2) = _; rw [hN]
    refine AW_condT rfl ?_
    refine AW_region ?_
    refine AL_p (x_loadN (n := 2) rfl rfl rfl (by kernel_rfl) rfl rfl) ?_
    refine AL_p (x_store (n := 2) rfl rfl rfl rfl (by kernel_rfl) rfl rfl rfl) ?_
    refine AL_nil ?_
    refine AW_region ?_
    refine AL_p (x_field (off := 0) (o' := 0) rfl rfl rfl (by kernel_rfl) rfl) ?_
    refine AL_p (x_load1 rfl rfl rfl (by kernel_rfl) rfl) ?_
    refine AL_p (x_move rfl rfl) ?_
    refine AL_p (x_loadN (n := 2) rfl rfl rfl (by kernel_rfl) rfl rfl) ?_
    refine AL_p (x_oindex (n := 3) rfl rfl rfl rfl (by kernel_rfl) rfl (k := k) rfl (by omega)) ?_
    refine AL_p (x_ofield (off := 1) (o' := 1) rfl rfl rfl (by kernel_rfl) rfl) ?_
    refine AL_p (x_ofstore (⟨((nextTo b rels k c).1.getD k noNamed).name, (relAdd ((nextTo b rels k c).1[k]'(by omega)).rel (dVals b ((nextTo b rels k c).1[k]'(by omega)).rel.arity.toNat (dBelow b (nextTo b rels k c).2 4).2).1).1⟩ : Namedt) (A := [.c (.string ((nextTo b rels k c).1[k]'(by omega)).name)]) (B := [.c (.int .i64 ((nextTo b rels k c).1[k]'(by omega)).rel.arity), .sl rowE ((nextTo b rels k c).1[k]'(by omega)).rel.rows]) (C := []) rfl rfl rfl rfl (by kernel_rfl) rfl rfl rfl FitL.rf rfl rfl (by omega) rfl rfl rfl (by rw [hE]; rfl)) ?_
    refine AL_nil ?_
    refine AW_region ?_
    refine AL_p (x_add rfl rfl rfl (IntWalk.i64_in _ (by omega))) ?_
    refine AL_p (x_move rfl rfl) ?_
    refine AL_nil ?_
    refine ⟨⟨k + 1, by omega⟩, rn [], ?_, by dsimp only; omega⟩
    exact ⟨by (repeat refine ⟨⟨_, rfl, by first | with_reducible exact VLe.rf | exact VLe.rf | exact vle_int (by dsimp only; omega)⟩, ?_⟩); exact trivial, by (repeat refine ⟨⟨_, rfl, by first | with_reducible exact BLe.rf | exact ble_eq (congrArg (fun q => curB b q.2) hs).symm | (refine BLe.arr ?_; first | rfl | exact (congrArg Prod.fst hs).symm) | exact BLe.rf | exact BLe.box AllC.rf⟩, ?_⟩); exact trivial, by repeat (first | exact trivial | refine ⟨⟨rfl, by first | (left; intro h; cases h) | (right; rfl), by first | exact (fun _ h => ⟨_, h⟩) | exact (fun _ _ => ⟨_, rfl⟩) | (intro _ h; cases h)⟩, ?_⟩), rfl⟩
  try simp only [tdy] at h28
  refine AL_g rfl rfl (x_field (off := 1) (o' := 1) rfl rfl rfl (by kernel_rfl) rfl) ?_
  refine AL_g rfl rfl (x_load1 rfl rfl rfl (by kernel_rfl) rfl) ?_
  refine AL_g rfl rfl (x_len (E := 72) (n := 1) rfl rfl (by kernel_rfl)) ?_
  refine AL_gb rfl rfl (x_gtr rfl rfl rfl) (fun b33 h33 => ?_)
  refine AL_p (x_pickT rfl rfl rfl) ?_
  refine AL_nil ?_
  cases b33
  · try simp only [tdy] at h33
    have hD : nxDrop b ((nextTo b rels k c).1.getD k noNamed).rel (dBelow b (nextTo b rels k c).2 4).1 (dBelow b (nextTo b rels k c).2 4).2 = (((nextTo b rels k c).1[k]'(by omega)).rel, (dBelow b (nextTo b rels k c).2 4).2) := by rw [hE]; exact if_neg (by omega)
    have hDs : smallRel ((nextTo b rels k c).1[k]'(by omega)).rel ∧ ((nextTo b rels k c).1[k]'(by omega)).rel.arity ≤ 8 := ⟨hx.1.2, hx.2⟩
    refine AW_condF rfl ?_
    refine AW_skip ?_
    refine AW_seq ?_
    refine AW_seq ?_
    refine AW_region ?_
    refine AL_p (x_move rfl rfl) ?_
    refine AL_b (x_gtr rfl rfl rfl) (fun b50 h50 => ?_)
    refine AL_nil ?_
    cases b50
    · try simp only [tdy] at h50
      have hA : nxAdd b ((nextTo b rels k c).1[k]'(by omega)).rel (dBelow b (nextTo b rels k c).2 4).1 (dBelow b (nextTo b rels k c).2 4).2 = (((nextTo b rels k c).1[k]'(by omega)).rel, (dBelow b (nextTo b rels k c).2 4).2) := if_neg (by omega)
      have hN : nxRel b ((nextTo b rels k c).1.getD k noNamed).rel (nextTo b rels k c).2 = (((nextTo b rels k c).1[k]'(by omega)).rel, (dBelow b (nextTo b rels k c).2 4).2) := by unfold nxRel; rw [hD]; exact hA
      have hs : (nextTo b rels (k + 1) c) = ((nextTo b rels k c).1.set k ⟨((nextTo b rels k c).1.getD k noNamed).name, ((nextTo b rels k c).1[k]'(by omega)).rel⟩, (dBelow b (nextTo b rels k c).2 4).2) := by show ((nextTo b rels k c).1.set k ⟨((nextTo b rels k c).1.getD k noNamed).name, (nxRel b ((nextTo b rels k c).1.getD k noNamed).rel (nextTo b rels k c).2).1⟩, (nxRel b ((nextTo b rels k c).1.getD k noNamed).rel (nextTo b rels k c).2).2) = _; rw [hN]
      refine AW_condF rfl ?_
      refine AW_skip ?_
      refine AW_region ?_
      refine AL_p (x_field (off := 0) (o' := 0) rfl rfl rfl (by kernel_rfl) rfl) ?_
      refine AL_p (x_load1 rfl rfl rfl (by kernel_rfl) rfl) ?_
      refine AL_p (x_move rfl rfl) ?_
      refine AL_p (x_loadN (n := 2) rfl rfl rfl (by kernel_rfl) rfl rfl) ?_
      refine AL_p (x_oindex (n := 3) rfl rfl rfl rfl (by kernel_rfl) rfl (k := k) rfl (by omega)) ?_
      refine AL_p (x_ofield (off := 1) (o' := 1) rfl rfl rfl (by kernel_rfl) rfl) ?_
      refine AL_p (x_ofstore (⟨((nextTo b rels k c).1.getD k noNamed).name, ((nextTo b rels k c).1[k]'(by omega)).rel⟩ : Namedt) (A := [.c (.string ((nextTo b rels k c).1[k]'(by omega)).name)]) (B := [.c (.int .i64 ((nextTo b rels k c).1[k]'(by omega)).rel.arity), .sl rowE ((nextTo b rels k c).1[k]'(by omega)).rel.rows]) (C := []) rfl rfl rfl rfl (by kernel_rfl) rfl rfl rfl FitL.rf rfl rfl (by omega) rfl rfl rfl (by rw [hE]; rfl)) ?_
      refine AL_nil ?_
      refine AW_region ?_
      refine AL_p (x_add rfl rfl rfl (IntWalk.i64_in _ (by omega))) ?_
      refine AL_p (x_move rfl rfl) ?_
      refine AL_nil ?_
      refine ⟨⟨k + 1, by omega⟩, rn [], ?_, by dsimp only; omega⟩
      exact ⟨by (repeat refine ⟨⟨_, rfl, by first | with_reducible exact VLe.rf | exact VLe.rf | exact vle_int (by dsimp only; omega)⟩, ?_⟩); exact trivial, by (repeat refine ⟨⟨_, rfl, by first | with_reducible exact BLe.rf | exact ble_eq (congrArg (fun q => curB b q.2) hs).symm | (refine BLe.arr ?_; first | rfl | exact (congrArg Prod.fst hs).symm) | exact BLe.rf | exact BLe.box AllC.rf⟩, ?_⟩); exact trivial, by repeat (first | exact trivial | refine ⟨⟨rfl, by first | (left; intro h; cases h) | (right; rfl), by first | exact (fun _ h => ⟨_, h⟩) | exact (fun _ _ => ⟨_, rfl⟩) | (intro _ h; cases h)⟩, ?_⟩), rfl⟩
    try simp only [tdy] at h50
    refine AW_condT rfl ?_
    refine AW_seq ?_
    refine AW_draw rfl ?_
    refine AL_p (x_loadN (n := 2) rfl rfl rfl (by kernel_rfl) rfl rfl) ?_
    refine AL_p (x_move rfl rfl) ?_
    refine AL_p (x_field (off := 0) (o' := 0) rfl rfl rfl (by kernel_rfl) rfl) ?_
    refine AL_p (x_load1 rfl rfl rfl (by kernel_rfl) rfl) ?_
    refine AL_p (x_call (ks := []) (L := [(200, some _)]) (L' := [(200, some _)]) rfl rfl rfl (drawRowF_c b (dBelow b (nextTo b rels k c).2 4).2 ((nextTo b rels k c).1[k]'(by omega)).rel.arity hDs.2 hb) rfl AllV.rf (caught_of rfl) rfl rfl rfl ⟨rfl, trivial⟩ rfl) ?_
    refine AL_p (x_call0 rfl rfl rfl (relAddS_c ((nextTo b rels k c).1[k]'(by omega)).rel (dVals b ((nextTo b rels k c).1[k]'(by omega)).rel.arity.toNat (dBelow b (nextTo b rels k c).2 4).2).1 hDs.1 (dVals_small b _ _ (by have := hDs.2; omega))) rfl rfl) ?_
    refine AL_p (x_move rfl rfl) ?_
    refine AL_p (x_extract rfl rfl rfl) ?_
    refine AL_p (x_extract rfl rfl rfl) ?_
    refine AL_p (x_alloc (z := .agg #[.int .i64 0, .slice none 0 0]) 106 rfl (by kernel_rfl) rfl rfl rfl rfl) ?_
    refine AL_p (x_store (n := 2) rfl rfl rfl rfl (by kernel_rfl) rfl rfl rfl) ?_
    refine AL_p (x_assign rfl rfl) ?_
    refine AL_nild (by kernel_rfl) ?_
    refine AW_seq ?_
    refine AW_region ?_
    refine AL_p (x_move rfl rfl) ?_
    refine AL_b (x_eql rfl rfl rfl) (fun b61 h61 => ?_)
    refine AL_nil ?_
    cases b61
    · try simp only [tdy] at h61
      have hA : nxAdd b ((nextTo b rels k c).1[k]'(by omega)).rel (dBelow b (nextTo b rels k c).2 4).1 (dBelow b (nextTo b rels k c).2 4).2 = (((nextTo b rels k c).1[k]'(by omega)).rel, (dVals b ((nextTo b rels k c).1[k]'(by omega)).rel.arity.toNat (dBelow b (nextTo b rels k c).2 4).2).2) := (if_pos (by omega)).trans (Prod.ext (if_neg (by omega)) rfl)
      have hN : nxRel b ((nextTo b rels k c).1.getD k noNamed).rel (nextTo b rels k c).2 = (((nextTo b rels k c).1[k]'(by omega)).rel, (dVals b ((nextTo b rels k c).1[k]'(by omega)).rel.arity.toNat (dBelow b (nextTo b rels k c).2 4).2).2) := by unfold nxRel; rw [hD]; exact hA
      have hs : (nextTo b rels (k + 1) c) = ((nextTo b rels k c).1.set k ⟨((nextTo b rels k c).1.getD k noNamed).name, ((nextTo b rels k c).1[k]'(by omega)).rel⟩, (dVals b ((nextTo b rels k c).1[k]'(by omega)).rel.arity.toNat (dBelow b (nextTo b rels k c).2 4).2).2) := by show ((nextTo b rels k c).1.set k ⟨((nextTo b rels k c).1.getD k noNamed).name, (nxRel b ((nextTo b rels k c).1.getD k noNamed).rel (nextTo b rels k c).2).1⟩, (nxRel b ((nextTo b rels k c).1.getD k noNamed).rel (nextTo b rels k c).2).2) = _; rw [hN]
      refine AW_condF rfl ?_
      refine AW_skip ?_
      refine AW_region ?_
      refine AL_p (x_field (off := 0) (o' := 0) rfl rfl rfl (by kernel_rfl) rfl) ?_
      refine AL_p (x_load1 rfl rfl rfl (by kernel_rfl) rfl) ?_
      refine AL_p (x_move rfl rfl) ?_
      refine AL_p (x_loadN (n := 2) rfl rfl rfl (by kernel_rfl) rfl rfl) ?_
      refine AL_p (x_oindex (n := 3) rfl rfl rfl rfl (by kernel_rfl) rfl (k := k) rfl (by omega)) ?_
      refine AL_p (x_ofield (off := 1) (o' := 1) rfl rfl rfl (by kernel_rfl) rfl) ?_
      refine AL_p (x_ofstore (⟨((nextTo b rels k c).1.getD k noNamed).name, ((nextTo b rels k c).1[k]'(by omega)).rel⟩ : Namedt) (A := [.c (.string ((nextTo b rels k c).1[k]'(by omega)).name)]) (B := [.c (.int .i64 ((nextTo b rels k c).1[k]'(by omega)).rel.arity), .sl rowE ((nextTo b rels k c).1[k]'(by omega)).rel.rows]) (C := []) rfl rfl rfl rfl (by kernel_rfl) rfl rfl rfl FitL.rf rfl rfl (by omega) rfl rfl rfl (by rw [hE]; rfl)) ?_
      refine AL_nil ?_
      refine AW_region ?_
      refine AL_p (x_add rfl rfl rfl (IntWalk.i64_in _ (by omega))) ?_
      refine AL_p (x_move rfl rfl) ?_
      refine AL_nil ?_
      refine ⟨⟨k + 1, by omega⟩, rn [], ?_, by dsimp only; omega⟩
      exact ⟨by (repeat refine ⟨⟨_, rfl, by first | with_reducible exact VLe.rf | exact VLe.rf | exact vle_int (by dsimp only; omega)⟩, ?_⟩); exact trivial, by (repeat refine ⟨⟨_, rfl, by first | with_reducible exact BLe.rf | exact ble_eq (congrArg (fun q => curB b q.2) hs).symm | (refine BLe.arr ?_; first | rfl | exact (congrArg Prod.fst hs).symm) | exact BLe.rf | exact BLe.box AllC.rf⟩, ?_⟩); exact trivial, by repeat (first | exact trivial | refine ⟨⟨rfl, by first | (left; intro h; cases h) | (right; rfl), by first | exact (fun _ h => ⟨_, h⟩) | exact (fun _ _ => ⟨_, rfl⟩) | (intro _ h; cases h)⟩, ?_⟩), rfl⟩
    try simp only [tdy] at h61
    have hA : nxAdd b ((nextTo b rels k c).1[k]'(by omega)).rel (dBelow b (nextTo b rels k c).2 4).1 (dBelow b (nextTo b rels k c).2 4).2 = ((relAdd ((nextTo b rels k c).1[k]'(by omega)).rel (dVals b ((nextTo b rels k c).1[k]'(by omega)).rel.arity.toNat (dBelow b (nextTo b rels k c).2 4).2).1).1, (dVals b ((nextTo b rels k c).1[k]'(by omega)).rel.arity.toNat (dBelow b (nextTo b rels k c).2 4).2).2) := (if_pos (by omega)).trans (Prod.ext (if_pos (by omega)) rfl)
    have hN : nxRel b ((nextTo b rels k c).1.getD k noNamed).rel (nextTo b rels k c).2 = ((relAdd ((nextTo b rels k c).1[k]'(by omega)).rel (dVals b ((nextTo b rels k c).1[k]'(by omega)).rel.arity.toNat (dBelow b (nextTo b rels k c).2 4).2).1).1, (dVals b ((nextTo b rels k c).1[k]'(by omega)).rel.arity.toNat (dBelow b (nextTo b rels k c).2 4).2).2) := by unfold nxRel; rw [hD]; exact hA
    have hs : (nextTo b rels (k + 1) c) = ((nextTo b rels k c).1.set k ⟨((nextTo b rels k c).1.getD k noNamed).name, (relAdd ((nextTo b rels k c).1[k]'(by omega)).rel (dVals b ((nextTo b rels k c).1[k]'(by omega)).rel.arity.toNat (dBelow b (nextTo b rels k c).2 4).2).1).1⟩, (dVals b ((nextTo b rels k c).1[k]'(by omega)).rel.arity.toNat (dBelow b (nextTo b rels k c).2 4).2).2) := by show ((nextTo b rels k c).1.set k ⟨((nextTo b rels k c).1.getD k noNamed).name, (nxRel b ((nextTo b rels k c).1.getD k noNamed).rel (nextTo b rels k c).2).1⟩, (nxRel b ((nextTo b rels k c).1.getD k noNamed).rel (nextTo b rels k c).2).2) = _; rw [hN]
    refine AW_condT rfl ?_
    refine AW_region ?_
    refine AL_p (x_loadN (n := 2) rfl rfl rfl (by kernel_rfl) rfl rfl) ?_
    refine AL_p (x_store (n := 2) rfl rfl rfl rfl (by kernel_rfl) rfl rfl rfl) ?_
    refine AL_nil ?_
    refine AW_region ?_
    refine AL_p (x_field (off := 0) (o' := 0) rfl rfl rfl (by kernel_rfl) rfl) ?_
    refine AL_p (x_load1 rfl rfl rfl (by kernel_rfl) rfl) ?_
    refine AL_p (x_move rfl rfl) ?_
    refine AL_p (x_loadN (n := 2) rfl rfl rfl (by kernel_rfl) rfl rfl) ?_
    refine AL_p (x_oindex (n := 3) rfl rfl rfl rfl (by kernel_rfl) rfl (k := k) rfl (by omega)) ?_
    refine AL_p (x_ofield (off := 1) (o' := 1) rfl rfl rfl (by kernel_rfl) rfl) ?_
    refine AL_p (x_ofstore (⟨((nextTo b rels k c).1.getD k noNamed).name, (relAdd ((nextTo b rels k c).1[k]'(by omega)).rel (dVals b ((nextTo b rels k c).1[k]'(by omega)).rel.arity.toNat (dBelow b (nextTo b rels k c).2 4).2).1).1⟩ : Namedt) (A := [.c (.string ((nextTo b rels k c).1[k]'(by omega)).name)]) (B := [.c (.int .i64 ((nextTo b rels k c).1[k]'(by omega)).rel.arity), .sl rowE ((nextTo b rels k c).1[k]'(by omega)).rel.rows]) (C := []) rfl rfl rfl rfl (by kernel_rfl) rfl rfl rfl FitL.rf rfl rfl (by omega) rfl rfl rfl (by rw [hE]; rfl)) ?_
    refine AL_nil ?_
    refine AW_region ?_
    refine AL_p (x_add rfl rfl rfl (IntWalk.i64_in _ (by omega))) ?_
    refine AL_p (x_move rfl rfl) ?_
    refine AL_nil ?_
    refine ⟨⟨k + 1, by omega⟩, rn [], ?_, by dsimp only; omega⟩
    exact ⟨by (repeat refine ⟨⟨_, rfl, by first | with_reducible exact VLe.rf | exact VLe.rf | exact vle_int (by dsimp only; omega)⟩, ?_⟩); exact trivial, by (repeat refine ⟨⟨_, rfl, by first | with_reducible exact BLe.rf | exact ble_eq (congrArg (fun q => curB b q.2) hs).symm | (refine BLe.arr ?_; first | rfl | exact (congrArg Prod.fst hs).symm) | exact BLe.rf | exact BLe.box AllC.rf⟩, ?_⟩); exact trivial, by repeat (first | exact trivial | refine ⟨⟨rfl, by first | (left; intro h; cases h) | (right; rfl), by first | exact (fun _ h => ⟨_, h⟩) | exact (fun _ _ => ⟨_, rfl⟩) | (intro _ h; cases h)⟩, ?_⟩), rfl⟩
  try simp only [tdy] at h33
  have hdi := dBelow_lt b (dBelow b (nextTo b rels k c).2 4).2 (n := (((nextTo b rels k c).1[k]'(by omega)).rel.rows.length : Int)) (by omega)
  have hat := getD_row (xs := ((nextTo b rels k c).1[k]'(by omega)).rel.rows) (k := (dBelow b (dBelow b (nextTo b rels k c).2 4).2 (((nextTo b rels k c).1[k]'(by omega)).rel.rows.length : Int)).1.toNat) (by omega)
  have hD : nxDrop b ((nextTo b rels k c).1.getD k noNamed).rel (dBelow b (nextTo b rels k c).2 4).1 (dBelow b (nextTo b rels k c).2 4).2 = ((relDrop ((nextTo b rels k c).1[k]'(by omega)).rel (((nextTo b rels k c).1[k]'(by omega)).rel.rows[(dBelow b (dBelow b (nextTo b rels k c).2 4).2 (((nextTo b rels k c).1[k]'(by omega)).rel.rows.length : Int)).1.toNat]'(by omega))).1, (dBelow b (dBelow b (nextTo b rels k c).2 4).2 (((nextTo b rels k c).1[k]'(by omega)).rel.rows.length : Int)).2) := by rw [hE]; exact (if_pos ⟨by omega, by omega⟩).trans (Prod.ext (congrArg (fun q => (relDrop ((nextTo b rels k c).1[k]'(by omega)).rel q).1) hat.symm) rfl)
  have hDs : smallRel (relDrop ((nextTo b rels k c).1[k]'(by omega)).rel (((nextTo b rels k c).1[k]'(by omega)).rel.rows[(dBelow b (dBelow b (nextTo b rels k c).2 4).2 (((nextTo b rels k c).1[k]'(by omega)).rel.rows.length : Int)).1.toNat]'(by omega))).1 ∧ (relDrop ((nextTo b rels k c).1[k]'(by omega)).rel (((nextTo b rels k c).1[k]'(by omega)).rel.rows[(dBelow b (dBelow b (nextTo b rels k c).2 4).2 (((nextTo b rels k c).1[k]'(by omega)).rel.rows.length : Int)).1.toNat]'(by omega))).1.arity ≤ 8 := ⟨relDrop_small hx.1.2, relDrop_ar hx.2⟩
  refine AW_condT rfl ?_
  refine AW_draw rfl ?_
  refine AL_p (x_loadN (n := 2) rfl rfl rfl (by kernel_rfl) rfl rfl) ?_
  refine AL_p (x_field (off := 1) (o' := 1) rfl rfl rfl (by kernel_rfl) rfl) ?_
  refine AL_p (x_load1 rfl rfl rfl (by kernel_rfl) rfl) ?_
  refine AL_p (x_move rfl rfl) ?_
  refine AL_p (x_field (off := 1) (o' := 1) rfl rfl rfl (by kernel_rfl) rfl) ?_
  refine AL_p (x_load1 rfl rfl rfl (by kernel_rfl) rfl) ?_
  refine AL_p (x_len (E := 72) (n := 1) rfl rfl (by kernel_rfl)) ?_
  refine AL_p (x_call (ks := []) (L := [(200, some _)]) (L' := [(200, some _)]) rfl rfl rfl (below_c b (dBelow b (nextTo b rels k c).2 4).2 hb (((nextTo b rels k c).1[k]'(by omega)).rel.rows.length : Int)) rfl AllV.rf (caught_of rfl) rfl rfl rfl ⟨rfl, trivial⟩ rfl) ?_
  refine AL_p (x_index (E := 72) (n := 1) rfl rfl rfl (by kernel_rfl) rfl (k := (dBelow b (dBelow b (nextTo b rels k c).2 4).2 (((nextTo b rels k c).1[k]'(by omega)).rel.rows.length : Int)).1.toNat) (by omega) (by omega)) ?_
  refine AL_p (x_eloadW (n := 1) rfl rfl (by kernel_rfl) rfl) ?_
  refine AL_p (x_call1 rfl rfl rfl (relDropS_c ((nextTo b rels k c).1[k]'(by omega)).rel (((nextTo b rels k c).1[k]'(by omega)).rel.rows[(dBelow b (dBelow b (nextTo b rels k c).2 4).2 (((nextTo b rels k c).1[k]'(by omega)).rel.rows.length : Int)).1.toNat]'(by omega)) hx.1.2 (hx.1.2.2 _ (List.getElem_mem _)) 105) rfl rfl rfl rfl) ?_
  refine AL_p (x_move rfl rfl) ?_
  refine AL_p (x_extract rfl rfl rfl) ?_
  refine AL_p (x_extract rfl rfl rfl) ?_
  refine AL_p (x_store (n := 2) rfl rfl rfl rfl (by kernel_rfl) rfl rfl rfl) ?_
  refine AL_nild (by kernel_rfl) ?_
  refine AW_seq ?_
  refine AW_seq ?_
  refine AW_shutB 105 104 1 rfl rfl rfl rfl ?_
  refine AW_region ?_
  refine AL_p (x_move rfl rfl) ?_
  refine AL_b (x_gtr rfl rfl rfl) (fun b50 h50 => ?_)
  refine AL_nil ?_
  cases b50
  · try simp only [tdy] at h50
    have hA : nxAdd b (relDrop ((nextTo b rels k c).1[k]'(by omega)).rel (((nextTo b rels k c).1[k]'(by omega)).rel.rows[(dBelow b (dBelow b (nextTo b rels k c).2 4).2 (((nextTo b rels k c).1[k]'(by omega)).rel.rows.length : Int)).1.toNat]'(by omega))).1 (dBelow b (nextTo b rels k c).2 4).1 (dBelow b (dBelow b (nextTo b rels k c).2 4).2 (((nextTo b rels k c).1[k]'(by omega)).rel.rows.length : Int)).2 = ((relDrop ((nextTo b rels k c).1[k]'(by omega)).rel (((nextTo b rels k c).1[k]'(by omega)).rel.rows[(dBelow b (dBelow b (nextTo b rels k c).2 4).2 (((nextTo b rels k c).1[k]'(by omega)).rel.rows.length : Int)).1.toNat]'(by omega))).1, (dBelow b (dBelow b (nextTo b rels k c).2 4).2 (((nextTo b rels k c).1[k]'(by omega)).rel.rows.length : Int)).2) := if_neg (by omega)
    have hN : nxRel b ((nextTo b rels k c).1.getD k noNamed).rel (nextTo b rels k c).2 = ((relDrop ((nextTo b rels k c).1[k]'(by omega)).rel (((nextTo b rels k c).1[k]'(by omega)).rel.rows[(dBelow b (dBelow b (nextTo b rels k c).2 4).2 (((nextTo b rels k c).1[k]'(by omega)).rel.rows.length : Int)).1.toNat]'(by omega))).1, (dBelow b (dBelow b (nextTo b rels k c).2 4).2 (((nextTo b rels k c).1[k]'(by omega)).rel.rows.length : Int)).2) := by unfold nxRel; rw [hD]; exact hA
    have hs : (nextTo b rels (k + 1) c) = ((nextTo b rels k c).1.set k ⟨((nextTo b rels k c).1.getD k noNamed).name, (relDrop ((nextTo b rels k c).1[k]'(by omega)).rel (((nextTo b rels k c).1[k]'(by omega)).rel.rows[(dBelow b (dBelow b (nextTo b rels k c).2 4).2 (((nextTo b rels k c).1[k]'(by omega)).rel.rows.length : Int)).1.toNat]'(by omega))).1⟩, (dBelow b (dBelow b (nextTo b rels k c).2 4).2 (((nextTo b rels k c).1[k]'(by omega)).rel.rows.length : Int)).2) := by show ((nextTo b rels k c).1.set k ⟨((nextTo b rels k c).1.getD k noNamed).name, (nxRel b ((nextTo b rels k c).1.getD k noNamed).rel (nextTo b rels k c).2).1⟩, (nxRel b ((nextTo b rels k c).1.getD k noNamed).rel (nextTo b rels k c).2).2) = _; rw [hN]
    refine AW_condF rfl ?_
    refine AW_skip ?_
    refine AW_region ?_
    refine AL_p (x_field (off := 0) (o' := 0) rfl rfl rfl (by kernel_rfl) rfl) ?_
    refine AL_p (x_load1 rfl rfl rfl (by kernel_rfl) rfl) ?_
    refine AL_p (x_move rfl rfl) ?_
    refine AL_p (x_loadN (n := 2) rfl rfl rfl (by kernel_rfl) rfl rfl) ?_
    refine AL_p (x_oindex (n := 3) rfl rfl rfl rfl (by kernel_rfl) rfl (k := k) rfl (by omega)) ?_
    refine AL_p (x_ofield (off := 1) (o' := 1) rfl rfl rfl (by kernel_rfl) rfl) ?_
    refine AL_p (x_ofstore (⟨((nextTo b rels k c).1.getD k noNamed).name, (relDrop ((nextTo b rels k c).1[k]'(by omega)).rel (((nextTo b rels k c).1[k]'(by omega)).rel.rows[(dBelow b (dBelow b (nextTo b rels k c).2 4).2 (((nextTo b rels k c).1[k]'(by omega)).rel.rows.length : Int)).1.toNat]'(by omega))).1⟩ : Namedt) (A := [.c (.string ((nextTo b rels k c).1[k]'(by omega)).name)]) (B := [.c (.int .i64 ((nextTo b rels k c).1[k]'(by omega)).rel.arity), .sl rowE ((nextTo b rels k c).1[k]'(by omega)).rel.rows]) (C := []) rfl rfl rfl rfl (by kernel_rfl) rfl rfl rfl FitL.rf rfl rfl (by omega) rfl rfl rfl (by rw [hE]; rfl)) ?_
    refine AL_nil ?_
    refine AW_region ?_
    refine AL_p (x_add rfl rfl rfl (IntWalk.i64_in _ (by omega))) ?_
    refine AL_p (x_move rfl rfl) ?_
    refine AL_nil ?_
    refine ⟨⟨k + 1, by omega⟩, rn [], ?_, by dsimp only; omega⟩
    exact ⟨by (repeat refine ⟨⟨_, rfl, by first | with_reducible exact VLe.rf | exact VLe.rf | exact vle_int (by dsimp only; omega)⟩, ?_⟩); exact trivial, by (repeat refine ⟨⟨_, rfl, by first | with_reducible exact BLe.rf | exact ble_eq (congrArg (fun q => curB b q.2) hs).symm | (refine BLe.arr ?_; first | rfl | exact (congrArg Prod.fst hs).symm) | exact BLe.rf | exact BLe.box AllC.rf⟩, ?_⟩); exact trivial, by repeat (first | exact trivial | refine ⟨⟨rfl, by first | (left; intro h; cases h) | (right; rfl), by first | exact (fun _ h => ⟨_, h⟩) | exact (fun _ _ => ⟨_, rfl⟩) | (intro _ h; cases h)⟩, ?_⟩), rfl⟩
  try simp only [tdy] at h50
  refine AW_condT rfl ?_
  refine AW_seq ?_
  refine AW_draw rfl ?_
  refine AL_p (x_loadN (n := 2) rfl rfl rfl (by kernel_rfl) rfl rfl) ?_
  refine AL_p (x_move rfl rfl) ?_
  refine AL_p (x_field (off := 0) (o' := 0) rfl rfl rfl (by kernel_rfl) rfl) ?_
  refine AL_p (x_load1 rfl rfl rfl (by kernel_rfl) rfl) ?_
  refine AL_p (x_call (ks := []) (L := [(200, some _)]) (L' := [(200, some _)]) rfl rfl rfl (drawRowF_c b (dBelow b (dBelow b (nextTo b rels k c).2 4).2 (((nextTo b rels k c).1[k]'(by omega)).rel.rows.length : Int)).2 (relDrop ((nextTo b rels k c).1[k]'(by omega)).rel (((nextTo b rels k c).1[k]'(by omega)).rel.rows[(dBelow b (dBelow b (nextTo b rels k c).2 4).2 (((nextTo b rels k c).1[k]'(by omega)).rel.rows.length : Int)).1.toNat]'(by omega))).1.arity hDs.2 hb) rfl AllV.rf (caught_of rfl) rfl rfl rfl ⟨rfl, trivial⟩ rfl) ?_
  refine AL_p (x_call0 rfl rfl rfl (relAddS_c (relDrop ((nextTo b rels k c).1[k]'(by omega)).rel (((nextTo b rels k c).1[k]'(by omega)).rel.rows[(dBelow b (dBelow b (nextTo b rels k c).2 4).2 (((nextTo b rels k c).1[k]'(by omega)).rel.rows.length : Int)).1.toNat]'(by omega))).1 (dVals b (relDrop ((nextTo b rels k c).1[k]'(by omega)).rel (((nextTo b rels k c).1[k]'(by omega)).rel.rows[(dBelow b (dBelow b (nextTo b rels k c).2 4).2 (((nextTo b rels k c).1[k]'(by omega)).rel.rows.length : Int)).1.toNat]'(by omega))).1.arity.toNat (dBelow b (dBelow b (nextTo b rels k c).2 4).2 (((nextTo b rels k c).1[k]'(by omega)).rel.rows.length : Int)).2).1 hDs.1 (dVals_small b _ _ (by have := hDs.2; omega))) rfl rfl) ?_
  refine AL_p (x_move rfl rfl) ?_
  refine AL_p (x_extract rfl rfl rfl) ?_
  refine AL_p (x_extract rfl rfl rfl) ?_
  refine AL_p (x_alloc (z := .agg #[.int .i64 0, .slice none 0 0]) 106 rfl (by kernel_rfl) rfl rfl rfl rfl) ?_
  refine AL_p (x_store (n := 2) rfl rfl rfl rfl (by kernel_rfl) rfl rfl rfl) ?_
  refine AL_p (x_assign rfl rfl) ?_
  refine AL_nild (by kernel_rfl) ?_
  refine AW_seq ?_
  refine AW_region ?_
  refine AL_p (x_move rfl rfl) ?_
  refine AL_b (x_eql rfl rfl rfl) (fun b61 h61 => ?_)
  refine AL_nil ?_
  cases b61
  · try simp only [tdy] at h61
    have hA : nxAdd b (relDrop ((nextTo b rels k c).1[k]'(by omega)).rel (((nextTo b rels k c).1[k]'(by omega)).rel.rows[(dBelow b (dBelow b (nextTo b rels k c).2 4).2 (((nextTo b rels k c).1[k]'(by omega)).rel.rows.length : Int)).1.toNat]'(by omega))).1 (dBelow b (nextTo b rels k c).2 4).1 (dBelow b (dBelow b (nextTo b rels k c).2 4).2 (((nextTo b rels k c).1[k]'(by omega)).rel.rows.length : Int)).2 = ((relDrop ((nextTo b rels k c).1[k]'(by omega)).rel (((nextTo b rels k c).1[k]'(by omega)).rel.rows[(dBelow b (dBelow b (nextTo b rels k c).2 4).2 (((nextTo b rels k c).1[k]'(by omega)).rel.rows.length : Int)).1.toNat]'(by omega))).1, (dVals b (relDrop ((nextTo b rels k c).1[k]'(by omega)).rel (((nextTo b rels k c).1[k]'(by omega)).rel.rows[(dBelow b (dBelow b (nextTo b rels k c).2 4).2 (((nextTo b rels k c).1[k]'(by omega)).rel.rows.length : Int)).1.toNat]'(by omega))).1.arity.toNat (dBelow b (dBelow b (nextTo b rels k c).2 4).2 (((nextTo b rels k c).1[k]'(by omega)).rel.rows.length : Int)).2).2) := (if_pos (by omega)).trans (Prod.ext (if_neg (by omega)) rfl)
    have hN : nxRel b ((nextTo b rels k c).1.getD k noNamed).rel (nextTo b rels k c).2 = ((relDrop ((nextTo b rels k c).1[k]'(by omega)).rel (((nextTo b rels k c).1[k]'(by omega)).rel.rows[(dBelow b (dBelow b (nextTo b rels k c).2 4).2 (((nextTo b rels k c).1[k]'(by omega)).rel.rows.length : Int)).1.toNat]'(by omega))).1, (dVals b (relDrop ((nextTo b rels k c).1[k]'(by omega)).rel (((nextTo b rels k c).1[k]'(by omega)).rel.rows[(dBelow b (dBelow b (nextTo b rels k c).2 4).2 (((nextTo b rels k c).1[k]'(by omega)).rel.rows.length : Int)).1.toNat]'(by omega))).1.arity.toNat (dBelow b (dBelow b (nextTo b rels k c).2 4).2 (((nextTo b rels k c).1[k]'(by omega)).rel.rows.length : Int)).2).2) := by unfold nxRel; rw [hD]; exact hA
    have hs : (nextTo b rels (k + 1) c) = ((nextTo b rels k c).1.set k ⟨((nextTo b rels k c).1.getD k noNamed).name, (relDrop ((nextTo b rels k c).1[k]'(by omega)).rel (((nextTo b rels k c).1[k]'(by omega)).rel.rows[(dBelow b (dBelow b (nextTo b rels k c).2 4).2 (((nextTo b rels k c).1[k]'(by omega)).rel.rows.length : Int)).1.toNat]'(by omega))).1⟩, (dVals b (relDrop ((nextTo b rels k c).1[k]'(by omega)).rel (((nextTo b rels k c).1[k]'(by omega)).rel.rows[(dBelow b (dBelow b (nextTo b rels k c).2 4).2 (((nextTo b rels k c).1[k]'(by omega)).rel.rows.length : Int)).1.toNat]'(by omega))).1.arity.toNat (dBelow b (dBelow b (nextTo b rels k c).2 4).2 (((nextTo b rels k c).1[k]'(by omega)).rel.rows.length : Int)).2).2) := by show ((nextTo b rels k c).1.set k ⟨((nextTo b rels k c).1.getD k noNamed).name, (nxRel b ((nextTo b rels k c).1.getD k noNamed).rel (nextTo b rels k c).2).1⟩, (nxRel b ((nextTo b rels k c).1.getD k noNamed).rel (nextTo b rels k c).2).2) = _; rw [hN]
    refine AW_condF rfl ?_
    refine AW_skip ?_
    refine AW_region ?_
    refine AL_p (x_field (off := 0) (o' := 0) rfl rfl rfl (by kernel_rfl) rfl) ?_
    refine AL_p (x_load1 rfl rfl rfl (by kernel_rfl) rfl) ?_
    refine AL_p (x_move rfl rfl) ?_
    refine AL_p (x_loadN (n := 2) rfl rfl rfl (by kernel_rfl) rfl rfl) ?_
    refine AL_p (x_oindex (n := 3) rfl rfl rfl rfl (by kernel_rfl) rfl (k := k) rfl (by omega)) ?_
    refine AL_p (x_ofield (off := 1) (o' := 1) rfl rfl rfl (by kernel_rfl) rfl) ?_
    refine AL_p (x_ofstore (⟨((nextTo b rels k c).1.getD k noNamed).name, (relDrop ((nextTo b rels k c).1[k]'(by omega)).rel (((nextTo b rels k c).1[k]'(by omega)).rel.rows[(dBelow b (dBelow b (nextTo b rels k c).2 4).2 (((nextTo b rels k c).1[k]'(by omega)).rel.rows.length : Int)).1.toNat]'(by omega))).1⟩ : Namedt) (A := [.c (.string ((nextTo b rels k c).1[k]'(by omega)).name)]) (B := [.c (.int .i64 ((nextTo b rels k c).1[k]'(by omega)).rel.arity), .sl rowE ((nextTo b rels k c).1[k]'(by omega)).rel.rows]) (C := []) rfl rfl rfl rfl (by kernel_rfl) rfl rfl rfl FitL.rf rfl rfl (by omega) rfl rfl rfl (by rw [hE]; rfl)) ?_
    refine AL_nil ?_
    refine AW_region ?_
    refine AL_p (x_add rfl rfl rfl (IntWalk.i64_in _ (by omega))) ?_
    refine AL_p (x_move rfl rfl) ?_
    refine AL_nil ?_
    refine ⟨⟨k + 1, by omega⟩, rn [], ?_, by dsimp only; omega⟩
    exact ⟨by (repeat refine ⟨⟨_, rfl, by first | with_reducible exact VLe.rf | exact VLe.rf | exact vle_int (by dsimp only; omega)⟩, ?_⟩); exact trivial, by (repeat refine ⟨⟨_, rfl, by first | with_reducible exact BLe.rf | exact ble_eq (congrArg (fun q => curB b q.2) hs).symm | (refine BLe.arr ?_; first | rfl | exact (congrArg Prod.fst hs).symm) | exact BLe.rf | exact BLe.box AllC.rf⟩, ?_⟩); exact trivial, by repeat (first | exact trivial | refine ⟨⟨rfl, by first | (left; intro h; cases h) | (right; rfl), by first | exact (fun _ h => ⟨_, h⟩) | exact (fun _ _ => ⟨_, rfl⟩) | (intro _ h; cases h)⟩, ?_⟩), rfl⟩
  try simp only [tdy] at h61
  have hA : nxAdd b (relDrop ((nextTo b rels k c).1[k]'(by omega)).rel (((nextTo b rels k c).1[k]'(by omega)).rel.rows[(dBelow b (dBelow b (nextTo b rels k c).2 4).2 (((nextTo b rels k c).1[k]'(by omega)).rel.rows.length : Int)).1.toNat]'(by omega))).1 (dBelow b (nextTo b rels k c).2 4).1 (dBelow b (dBelow b (nextTo b rels k c).2 4).2 (((nextTo b rels k c).1[k]'(by omega)).rel.rows.length : Int)).2 = ((relAdd (relDrop ((nextTo b rels k c).1[k]'(by omega)).rel (((nextTo b rels k c).1[k]'(by omega)).rel.rows[(dBelow b (dBelow b (nextTo b rels k c).2 4).2 (((nextTo b rels k c).1[k]'(by omega)).rel.rows.length : Int)).1.toNat]'(by omega))).1 (dVals b (relDrop ((nextTo b rels k c).1[k]'(by omega)).rel (((nextTo b rels k c).1[k]'(by omega)).rel.rows[(dBelow b (dBelow b (nextTo b rels k c).2 4).2 (((nextTo b rels k c).1[k]'(by omega)).rel.rows.length : Int)).1.toNat]'(by omega))).1.arity.toNat (dBelow b (dBelow b (nextTo b rels k c).2 4).2 (((nextTo b rels k c).1[k]'(by omega)).rel.rows.length : Int)).2).1).1, (dVals b (relDrop ((nextTo b rels k c).1[k]'(by omega)).rel (((nextTo b rels k c).1[k]'(by omega)).rel.rows[(dBelow b (dBelow b (nextTo b rels k c).2 4).2 (((nextTo b rels k c).1[k]'(by omega)).rel.rows.length : Int)).1.toNat]'(by omega))).1.arity.toNat (dBelow b (dBelow b (nextTo b rels k c).2 4).2 (((nextTo b rels k c).1[k]'(by omega)).rel.rows.length : Int)).2).2) := (if_pos (by omega)).trans (Prod.ext (if_pos (by omega)) rfl)
  have hN : nxRel b ((nextTo b rels k c).1.getD k noNamed).rel (nextTo b rels k c).2 = ((relAdd (relDrop ((nextTo b rels k c).1[k]'(by omega)).rel (((nextTo b rels k c).1[k]'(by omega)).rel.rows[(dBelow b (dBelow b (nextTo b rels k c).2 4).2 (((nextTo b rels k c).1[k]'(by omega)).rel.rows.length : Int)).1.toNat]'(by omega))).1 (dVals b (relDrop ((nextTo b rels k c).1[k]'(by omega)).rel (((nextTo b rels k c).1[k]'(by omega)).rel.rows[(dBelow b (dBelow b (nextTo b rels k c).2 4).2 (((nextTo b rels k c).1[k]'(by omega)).rel.rows.length : Int)).1.toNat]'(by omega))).1.arity.toNat (dBelow b (dBelow b (nextTo b rels k c).2 4).2 (((nextTo b rels k c).1[k]'(by omega)).rel.rows.length : Int)).2).1).1, (dVals b (relDrop ((nextTo b rels k c).1[k]'(by omega)).rel (((nextTo b rels k c).1[k]'(by omega)).rel.rows[(dBelow b (dBelow b (nextTo b rels k c).2 4).2 (((nextTo b rels k c).1[k]'(by omega)).rel.rows.length : Int)).1.toNat]'(by omega))).1.arity.toNat (dBelow b (dBelow b (nextTo b rels k c).2 4).2 (((nextTo b rels k c).1[k]'(by omega)).rel.rows.length : Int)).2).2) := by unfold nxRel; rw [hD]; exact hA
  have hs : (nextTo b rels (k + 1) c) = ((nextTo b rels k c).1.set k ⟨((nextTo b rels k c).1.getD k noNamed).name, (relAdd (relDrop ((nextTo b rels k c).1[k]'(by omega)).rel (((nextTo b rels k c).1[k]'(by omega)).rel.rows[(dBelow b (dBelow b (nextTo b rels k c).2 4).2 (((nextTo b rels k c).1[k]'(by omega)).rel.rows.length : Int)).1.toNat]'(by omega))).1 (dVals b (relDrop ((nextTo b rels k c).1[k]'(by omega)).rel (((nextTo b rels k c).1[k]'(by omega)).rel.rows[(dBelow b (dBelow b (nextTo b rels k c).2 4).2 (((nextTo b rels k c).1[k]'(by omega)).rel.rows.length : Int)).1.toNat]'(by omega))).1.arity.toNat (dBelow b (dBelow b (nextTo b rels k c).2 4).2 (((nextTo b rels k c).1[k]'(by omega)).rel.rows.length : Int)).2).1).1⟩, (dVals b (relDrop ((nextTo b rels k c).1[k]'(by omega)).rel (((nextTo b rels k c).1[k]'(by omega)).rel.rows[(dBelow b (dBelow b (nextTo b rels k c).2 4).2 (((nextTo b rels k c).1[k]'(by omega)).rel.rows.length : Int)).1.toNat]'(by omega))).1.arity.toNat (dBelow b (dBelow b (nextTo b rels k c).2 4).2 (((nextTo b rels k c).1[k]'(by omega)).rel.rows.length : Int)).2).2) := by show ((nextTo b rels k c).1.set k ⟨((nextTo b rels k c).1.getD k noNamed).name, (nxRel b ((nextTo b rels k c).1.getD k noNamed).rel (nextTo b rels k c).2).1⟩, (nxRel b ((nextTo b rels k c).1.getD k noNamed).rel (nextTo b rels k c).2).2) = _; rw [hN]
  refine AW_condT rfl ?_
  refine AW_region ?_
  refine AL_p (x_loadN (n := 2) rfl rfl rfl (by kernel_rfl) rfl rfl) ?_
  refine AL_p (x_store (n := 2) rfl rfl rfl rfl (by kernel_rfl) rfl rfl rfl) ?_
  refine AL_nil ?_
  refine AW_region ?_
  refine AL_p (x_field (off := 0) (o' := 0) rfl rfl rfl (by kernel_rfl) rfl) ?_
  refine AL_p (x_load1 rfl rfl rfl (by kernel_rfl) rfl) ?_
  refine AL_p (x_move rfl rfl) ?_
  refine AL_p (x_loadN (n := 2) rfl rfl rfl (by kernel_rfl) rfl rfl) ?_
  refine AL_p (x_oindex (n := 3) rfl rfl rfl rfl (by kernel_rfl) rfl (k := k) rfl (by omega)) ?_
  refine AL_p (x_ofield (off := 1) (o' := 1) rfl rfl rfl (by kernel_rfl) rfl) ?_
  refine AL_p (x_ofstore (⟨((nextTo b rels k c).1.getD k noNamed).name, (relAdd (relDrop ((nextTo b rels k c).1[k]'(by omega)).rel (((nextTo b rels k c).1[k]'(by omega)).rel.rows[(dBelow b (dBelow b (nextTo b rels k c).2 4).2 (((nextTo b rels k c).1[k]'(by omega)).rel.rows.length : Int)).1.toNat]'(by omega))).1 (dVals b (relDrop ((nextTo b rels k c).1[k]'(by omega)).rel (((nextTo b rels k c).1[k]'(by omega)).rel.rows[(dBelow b (dBelow b (nextTo b rels k c).2 4).2 (((nextTo b rels k c).1[k]'(by omega)).rel.rows.length : Int)).1.toNat]'(by omega))).1.arity.toNat (dBelow b (dBelow b (nextTo b rels k c).2 4).2 (((nextTo b rels k c).1[k]'(by omega)).rel.rows.length : Int)).2).1).1⟩ : Namedt) (A := [.c (.string ((nextTo b rels k c).1[k]'(by omega)).name)]) (B := [.c (.int .i64 ((nextTo b rels k c).1[k]'(by omega)).rel.arity), .sl rowE ((nextTo b rels k c).1[k]'(by omega)).rel.rows]) (C := []) rfl rfl rfl rfl (by kernel_rfl) rfl rfl rfl FitL.rf rfl rfl (by omega) rfl rfl rfl (by rw [hE]; rfl)) ?_
  refine AL_nil ?_
  refine AW_region ?_
  refine AL_p (x_add rfl rfl rfl (IntWalk.i64_in _ (by omega))) ?_
  refine AL_p (x_move rfl rfl) ?_
  refine AL_nil ?_
  refine ⟨⟨k + 1, by omega⟩, rn [], ?_, by dsimp only; omega⟩
  exact ⟨by (repeat refine ⟨⟨_, rfl, by first | with_reducible exact VLe.rf | exact VLe.rf | exact vle_int (by dsimp only; omega)⟩, ?_⟩); exact trivial, by (repeat refine ⟨⟨_, rfl, by first | with_reducible exact BLe.rf | exact ble_eq (congrArg (fun q => curB b q.2) hs).symm | (refine BLe.arr ?_; first | rfl | exact (congrArg Prod.fst hs).symm) | exact BLe.rf | exact BLe.box AllC.rf⟩, ?_⟩); exact trivial, by repeat (first | exact trivial | refine ⟨⟨rfl, by first | (left; intro h; cases h) | (right; rfl), by first | exact (fun _ h => ⟨_, h⟩) | exact (fun _ _ => ⟨_, rfl⟩) | (intro _ h; cases h)⟩, ?_⟩), rfl⟩

end Go.Proofs.YtibhoanjglfaoaaGreat

/- Numbers and texts ars bytes, in plain words. -/
namespace Go.Proofs.YtibhoanjglfaoaaGreat
open Go.RowKit
set_option linter.unusedVariables false

/-- The bytes of n, the highest first, but for the last j of size. -/
def bpTo (n : Int) (size j : Nat) : List Int := (List.range (size - j)).map fun q => n / 256 ^ (size - 1 - q) % 256
def putB (n : Int) (size : Nat) : List Int := bpTo n size 0
theorem putB_len {n : Int} {size : Nat} : (putB n size).length = size := by simp [putB, bpTo]
theorem wf64i {m : Int} (h0 : 0 ≤ m) (h1 : m ≤ 9223372036854775807) : (Lit.int .i64 m).wf = true := by
  simp only [Lit.wf, Bool.and_eq_true, decide_eq_true_eq]
  have a : IntKind.i64.min = -9223372036854775808 := rfl
  have b : IntKind.i64.max = 9223372036854775807 := rfl
  rw [a, b]; omega
theorem texts_eq {a b : ByteArray} (h : a.data.toList = b.data.toList) : a = b := by
  obtain ⟨⟨a⟩⟩ := a
  obtain ⟨⟨b⟩⟩ := b
  simp at h; rw [h]
theorem relOk_small {r : Relt} (h : relOk r = true) : 0 ≤ r.arity ∧ r.arity ≤ 6 ∧ r.rows.length ≤ 300 ∧ ∀ row ∈ r.rows, row.length ≤ 6 := by
  have hp := relOk_parts h
  refine ⟨hp.2.1, hp.2.2.1, hp.2.2.2, fun row hr => ?_⟩
  obtain ⟨j, hj, rfl⟩ := List.getElem_of_mem hr
  have := relOk_ar h hj
  omega
end Go.Proofs.YtibhoanjglfaoaaGreat

/- Bytes read again, in plain words. -/
namespace Go.Proofs.YtibhoanjglfaoaaGreat
open Go.RowKit
set_option linter.unusedVariables false
set_option linter.unusedSimpArgs false

/-- The number in bytes. -/
def bign (l : List Int) : Int := l.foldl (fun a x => 256 * a + x % 256) 0
theorem bign_fold (l : List Int) : ∀ a : Int, l.foldl (fun a x => 256 * a + x % 256) a = a * 256 ^ l.length + bign l := by
  induction l with
  | nil => intro a; simp [bign]
  | cons x l ih =>
    intro a
    have h1 := ih (256 * a + x % 256)
    have h2 := ih (256 * 0 + x % 256)
    simp only [List.foldl_cons, List.length_cons, bign] at *
    rw [h1, h2, Int.pow_succ]
    grind
theorem bign_cons (x : Int) (l : List Int) : bign (x :: l) = x % 256 * 256 ^ l.length + bign l := by
  have := bign_fold l (256 * 0 + x % 256)
  show l.foldl _ (256 * 0 + x % 256) = _
  rw [this]; simp
theorem putB_succ (n : Int) (s : Nat) : putB n (s + 1) = n / 256 ^ s % 256 :: putB n s := by
  unfold putB bpTo
  rw [Nat.sub_zero, Nat.sub_zero, List.range_succ_eq_map, List.map_cons, List.map_map]
  congr 1
  apply List.map_congr_left
  intro q hq
  simp only [Function.comp, Nat.succ_eq_add_one]
  rw [show s + 1 - 1 - (q + 1) = s - 1 - q by omega]
theorem bign_putB (n : Int) (h0 : 0 ≤ n) : ∀ s : Nat, bign (putB n s) = n % 256 ^ s
  | 0 => by simp [putB, bpTo, bign]
  | s + 1 => by
    rw [putB_succ, bign_cons, bign_putB n h0 s, putB_len]
    have hp : (0 : Int) < 256 ^ s := Int.pow_pos (by omega)
    have e1 : n / 256 ^ s % 256 % 256 = n / 256 ^ s % 256 := by omega
    rw [e1, Int.pow_succ]
    have e2 := Int.emod_add_mul_ediv n (256 ^ s)
    have e3 := Int.emod_add_mul_ediv (n / 256 ^ s) 256
    have e4 := Int.emod_add_mul_ediv n (256 ^ s * 256)
    have e5 : n / (256 ^ s * 256) = n / 256 ^ s / 256 := (Int.ediv_ediv_of_nonneg (Int.le_of_lt hp)).symm
    rw [e5] at e4
    generalize n / 256 ^ s / 256 = d at *
    generalize n / 256 ^ s % 256 = c at *
    generalize n / 256 ^ s = b at *
    generalize (256 : Int) ^ s = P at *
    grind
theorem bign_put {n : Int} {s : Nat} (h0 : 0 ≤ n) (h1 : n < 256 ^ s) : bign (putB n s) = n := by
  rw [bign_putB n h0, Int.emod_eq_of_lt h0 h1]

/-! ### From the front -/
def takeI (xs : List Int) (n : Int) : Int × List Int := if (xs.length : Int) < n then (0, []) else (bign (xs.take n.toNat), xs.drop n.toNat)
theorem takeI_ok {xs : List Int} {n : Int} (h : ¬ (xs.length : Int) < n) : takeI xs n = (bign (xs.take n.toNat), xs.drop n.toNat) := if_neg h
theorem takeI_put {n : Int} {s : Nat} {r : List Int} (h0 : 0 ≤ n) (h1 : n < 256 ^ s) : takeI (putB n s ++ r) s = (n, r) := by
  rw [takeI_ok (by rw [List.length_append, putB_len]; omega), Int.toNat_natCast]
  have : s = (putB n s).length := putB_len.symm
  rw [List.take_append_of_le_length (by omega), List.drop_append_of_le_length (by omega)]
  rw [List.take_of_length_le (by omega), List.drop_eq_nil_of_le (by omega), bign_put h0 h1, List.nil_append]
/-! ### At a place -/
def getS (b : List Int) (z n : Int) : Int := if z + n ≤ (b.length : Int) then bign ((b.drop z.toNat).take n.toNat) else 0
theorem getS_take {b : List Int} {z n : Int} (h0 : 0 ≤ z) (hn : 0 ≤ n) (h : z ≤ (b.length : Int)) : getS b z n = (takeI (b.drop z.toNat) n).1 := by
  unfold getS takeI
  rw [List.length_drop]
  split
  · rw [if_neg (by omega)]
  · rw [if_pos (by omega)]
section
variable {b : List Int}
/-- From place z on there lies r. -/
def Lies (b : List Int) (z : Int) (r : List Int) : Prop := 0 ≤ z ∧ z ≤ (b.length : Int) ∧ b.drop z.toNat = r
theorem Lies.take {z : Int} {n : Int} {s : Nat} {r : List Int} (h : Lies b z (putB n s ++ r)) (h0 : 0 ≤ n) (h1 : n < 256 ^ s) : getS b z s = n ∧ Lies b (z + s) r := by
  have h2 := takeI_put (r := r) h0 h1
  have hl := congrArg List.length h.2.2
  rw [List.length_drop, List.length_append, putB_len] at hl
  refine ⟨by rw [getS_take h.1 (by omega) h.2.1, h.2.2, h2], by have := h.1; omega, by have := h.1; have := h.2.1; omega, ?_⟩
  have e : (z + (s : Int)).toNat = z.toNat + s := by have := h.1; omega
  rw [e, ← List.drop_drop, h.2.2]
  have : s = (putB n s).length := putB_len.symm
  conv => lhs; rw [this]
  rw [putB_len]
  exact List.drop_left' putB_len
end
end Go.Proofs.YtibhoanjglfaoaaGreat

/- How much the marks of a store that was read count. -/
namespace Go.Proofs.YtibhoanjglfaoaaGreat
open Go.RowKit
set_option linter.unusedVariables false

end Go.Proofs.YtibhoanjglfaoaaGreat

/- A relation put under a name in a right store: the place where it goes. -/
namespace Go.Proofs.YtibhoanjglfaoaaGreat
open Go.RowKit
set_option linter.unusedVariables false

def nlt (a b : ByteArray) : Prop := Op.bytesLess a.toList b.toList = true
theorem nlt_iff {a b : ByteArray} : nlt a b ↔ Lib.compareBytes a.toList b.toList < 0 := by unfold nlt; rw [bytesLess_cmp]; simp
theorem nmlt_trans {a b c : ByteArray} (h : nlt a b) (h2 : nlt b c) : nlt a c := nlt_iff.2 (compareBytes_trans (nlt_iff.1 h) (nlt_iff.1 h2))
theorem nlt_irr {a : ByteArray} (h : nlt a a) : False := by
  have := nlt_iff.1 h
  rw [compareBytes_self] at this; omega
theorem name_eq {a b : ByteArray} : (a == b) = true ↔ a = b := by
  constructor
  · intro h
    rw [beq_toListBytes, ByteArray.toList_eq, ByteArray.toList_eq] at h
    exact texts_eq (by simpa using h)
  · intro h; subst h; rw [beq_toListBytes]; simp
theorem name_ne {a b : ByteArray} : (a == b) = false ↔ a ≠ b := by
  constructor
  · intro h e; rw [name_eq.2 e] at h; cases h
  · intro h
    cases hb : (a == b)
    · rfl
    · exact absurd (name_eq.1 hb) h
theorem nlt_tri {a b : ByteArray} (h : ¬ nlt a b) (h2 : ¬ nlt b a) : a = b := by
  rw [nlt_iff] at h h2
  have h3 := compareBytes_neg a.toList b.toList
  have h4 : Lib.compareBytes a.toList b.toList = 0 := by omega
  have h5 := compareBytes_eq h4
  rw [ByteArray.toList_eq, ByteArray.toList_eq] at h5
  exact texts_eq h5
def SortedN (rels : List Namedt) : Prop := ∀ i j (hi : i < rels.length) (hj : j < rels.length), i < j → nlt rels[i].name rels[j].name
theorem storeOk_names {s : Storet} (h : storeOk s = true) : SortedN s.rels := by
  simp only [storeOk, Bool.and_eq_true] at h
  have adj : ∀ j (hj : j + 1 < s.rels.length), nlt (s.rels[j]'(by omega)).name s.rels[j + 1].name := fun j hj => by
    have := everyB_get h.1 hj
    simp only [namedAt, Bool.and_eq_true, Bool.or_eq_true, decide_eq_true_eq] at this
    rcases this.2.2 with h0 | h0
    · omega
    · exact h0
  intro i j hi hj hij
  obtain ⟨d, rfl⟩ : ∃ d, j = i + 1 + d := ⟨j - (i + 1), by omega⟩
  clear hij
  induction d with
  | zero => exact adj i hj
  | succ d ih => exact nmlt_trans (ih (by omega)) (adj (i + 1 + d) hj)
section
variable {rels : List Namedt} {nw : Namedt} {i : Nat}
theorem le_no {x : ByteArray} {y : ByteArray} (h : nlt y x) : leB x y = false := by
  have h1 : Op.bytesLess x.toList y.toList = false := by
    cases hb : Op.bytesLess x.toList y.toList
    · rfl
    · exact absurd (nmlt_trans h hb) nlt_irr
  have h2 : (x == y) = false := name_ne.2 fun e => by subst e; exact nlt_irr h
  simp [leB, h1, h2]
theorem le_yes {x : ByteArray} {y : ByteArray} (h : ¬ nlt y x) : leB x y = true := by
  unfold leB
  by_cases h1 : nlt x y
  · rw [show Op.bytesLess x.toList y.toList = true from h1]; rfl
  · rw [name_eq.2 (nlt_tri h1 h)]; simp
theorem setTo_low (hi : i ≤ rels.length) (h0 : ∀ j (hj : j < rels.length), j < i → nlt rels[j].name nw.name) : ∀ k, k ≤ i → setTo rels nw k = (false, rels.take k)
  | 0, _ => rfl
  | k + 1, hk => by
    have ih := setTo_low hi h0 k (by omega)
    have hlt := h0 k (by omega) (by omega)
    have hne : (!((rels[k]'(by omega)).name == nw.name)) = true := by
      rw [name_ne.2 fun e => by rw [e] at hlt; exact nlt_irr hlt]; rfl
    rw [setTo_next (by omega) (by rw [ih]) (le_no hlt) hne, ih, List.take_succ_eq_append_getElem (show k < rels.length by omega)]
    rfl
theorem setTo_high (hs : SortedN rels) (hi : i < rels.length) (hge : ¬ nlt rels[i].name nw.name) {F : List Namedt} (hF : setTo rels nw (i + 1) = (true, F)) : ∀ k, i + 1 ≤ k → k ≤ rels.length → setTo rels nw k = (true, F ++ (rels.take k).drop (i + 1))
  | 0, h, _ => by omega
  | k + 1, h, hk => by
    by_cases e : k = i
    · subst e
      rw [hF, List.drop_eq_nil_of_le (by simp; omega), List.append_nil]
    · have ih := setTo_high hs hi hge hF k (by omega) (by omega)
      have hlt := hs i k hi (by omega) (by omega)
      have hne : (!((rels[k]'(by omega)).name == nw.name)) = true := by
        rw [name_ne.2 fun e => by rw [e] at hlt; exact hge hlt]; rfl
      rw [setTo_skip (by omega) (by rw [ih]) hne, ih, List.take_succ_eq_append_getElem (show k < rels.length by omega), List.drop_append_of_le_length (by simp; omega), ← List.append_assoc]
      rfl
theorem setRel_ins (hs : SortedN rels) (hi : i ≤ rels.length) (h0 : ∀ j (hj : j < rels.length), j < i → nlt rels[j].name nw.name) (h1 : ∀ (h : i < rels.length), ¬ nlt rels[i].name nw.name ∧ (rels[i].name == nw.name) = false) :
    setRel rels nw = rels.take i ++ [nw] ++ rels.drop i := by
  have hl := setTo_low hi h0 i (Nat.le_refl _)
  by_cases hlt : i < rels.length
  · obtain ⟨hge, hne⟩ := h1 hlt
    have hF : setTo rels nw (i + 1) = (true, rels.take i ++ [nw] ++ [rels[i]]) := by
      rw [setTo_next (ne := true) hlt (by rw [hl]) (le_yes hge) (by rw [hne]; rfl), hl]; rfl
    have := setTo_high hs hlt hge hF rels.length (by omega) (Nat.le_refl _)
    unfold setRel
    rw [this, List.take_length]
    show rels.take i ++ [nw] ++ [rels[i]] ++ rels.drop (i + 1) = _
    rw [List.append_assoc _ [rels[i]], List.singleton_append, ← List.drop_eq_getElem_cons hlt]
  · obtain rfl : i = rels.length := by omega
    unfold setRel
    rw [hl, List.drop_eq_nil_of_le (Nat.le_refl _), List.append_nil]
    rfl
theorem setRel_rep (hs : SortedN rels) (hi : i < rels.length) (h0 : ∀ j (hj : j < rels.length), j < i → nlt rels[j].name nw.name) (heq : (rels[i].name == nw.name) = true) : setRel rels nw = rels.set i nw := by
  have hl := setTo_low (Nat.le_of_lt hi) h0 i (Nat.le_refl _)
  have hge : ¬ nlt rels[i].name nw.name := fun h => by rw [name_eq.1 heq] at h; exact nlt_irr h
  have hF : setTo rels nw (i + 1) = (true, rels.take i ++ [nw]) := by
    rw [setTo_next (ne := false) hi (by rw [hl]) (le_yes hge) (by rw [heq]; rfl), hl]; rfl
  have := setTo_high hs hi hge hF rels.length (by omega) (Nat.le_refl _)
  unfold setRel
  rw [this, List.take_length, List.set_eq_take_append_cons_drop, if_pos hi]
  show rels.take i ++ [nw] ++ rels.drop (i + 1) = _
  simp
end
def nameGe (nm : ByteArray) (x : Namedt) : Bool := !Op.bytesLess x.name.toList nm.toList
theorem noneGe {rels : List Namedt} {nm : ByteArray} {k : Nat} (h : NoneTo (nameGe nm) rels k) : ∀ j (hj : j < rels.length), j < k → nlt rels[j].name nm := fun j hj hjk => by
  have := h j hj hjk
  simp only [nameGe, Bool.not_eq_false'] at this
  exact this
/-- Where the first name lies that is not before. -/
def placeN (rels : List Namedt) (nm : ByteArray) : Int := firstIdx (nameGe nm) rels
/-- .. and the place itself. -/
def posN (rels : List Namedt) (nm : ByteArray) : Nat := if placeN rels nm < 0 then rels.length else (placeN rels nm).toNat
theorem placeN_is (rels : List Namedt) (nm : ByteArray) : posN rels nm ≤ rels.length ∧ (placeN rels nm < 0 → posN rels nm = rels.length) ∧ (¬ placeN rels nm < 0 → placeN rels nm = (posN rels nm : Int) ∧ posN rels nm < rels.length) ∧ (∀ j (hj : j < rels.length), j < posN rels nm → nlt rels[j].name nm) ∧ ∀ (h : posN rels nm < rels.length), ¬ nlt rels[posN rels nm].name nm := by
  by_cases hex : ∃ k, ∃ h : k < rels.length, nameGe nm rels[k] = true ∧ NoneTo (nameGe nm) rels k
  · obtain ⟨k, hk, h1, h2⟩ := hex
    have e : placeN rels nm = (k : Int) := firstIdx_at hk (fun j hj hjk => h2 j hj hjk) h1
    have hp : posN rels nm = k := by unfold posN; rw [e, if_neg (by omega)]; omega
    rw [hp, e]
    refine ⟨by omega, fun h => by omega, fun _ => ⟨rfl, hk⟩, noneGe h2, fun h hn => ?_⟩
    simp only [nameGe, show Op.bytesLess rels[k].name.toList nm.toList = true from hn] at h1
    cases h1
  · have hn : ∀ k, k ≤ rels.length → NoneTo (nameGe nm) rels k := fun k => by
      induction k with
      | zero => exact fun _ => .zero
      | succ k ih =>
        intro hk
        have h2 := ih (by omega)
        refine h2.succ (by omega) ?_
        cases hp : nameGe nm (rels[k]'(by omega))
        · rfl
        · exact absurd ⟨k, by omega, hp, h2⟩ hex
    have h2 := hn rels.length (Nat.le_refl _)
    have e : placeN rels nm = -1 := h2.none
    have hp : posN rels nm = rels.length := by unfold posN; rw [e, if_pos (by omega)]
    rw [hp, e]
    exact ⟨Nat.le_refl _, fun _ => rfl, fun h => by omega, noneGe h2, fun h => by omega⟩
def withRel (rels : List Namedt) (nw : Namedt) : List Namedt :=
  if h : posN rels nw.name < rels.length ∧ ((rels.getD (posN rels nw.name) noNamed).name == nw.name) = true then rels.set (posN rels nw.name) nw else rels.take (posN rels nw.name) ++ [nw] ++ rels.drop (posN rels nw.name)
theorem withRel_set {rels : List Namedt} {nw : Namedt} (hs : SortedN rels) : withRel rels nw = setRel rels nw := by
  obtain ⟨p1, p2, p3, p4, p5⟩ := placeN_is rels nw.name
  unfold withRel
  split
  · rename_i h
    have e : rels.getD (posN rels nw.name) noNamed = rels[posN rels nw.name] := by simp [List.getD, h.1]
    rw [e] at h
    exact (setRel_rep hs h.1 p4 h.2).symm
  · rename_i h
    refine (setRel_ins hs p1 p4 fun hl => ⟨p5 hl, ?_⟩).symm
    have e : rels.getD (posN rels nw.name) noNamed = rels[posN rels nw.name] := by simp [List.getD, hl]
    rw [e] at h
    cases hb : (rels[posN rels nw.name].name == nw.name)
    · rfl
    · exact absurd ⟨hl, hb⟩ h
end Go.Proofs.YtibhoanjglfaoaaGreat
