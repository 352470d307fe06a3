/- The abstract walk: an element of an own array written anew. -/
import Derived.Test.YtcgickpnckedcaaAbsMake
namespace Go.Proofs.Ytcgickpnckedcaa
open Go.RowKit
set_option linter.unusedVariables false
section
variable {g : Gh} {l : Locs} {w w' : World}
/-- The array k holds other elements; the arrays js are gone into it. -/
theorem arr_put (m : MemR g l w) {k : Nat} {α : Type} {T : TypeId} {e : Enc α} {xs0 xs : List α} {d0 d : Bool} (hk : lkl l k = some (.arr T e xs0 d0)) (hlv : g.hd k ≠ .slice none 0 0) {js : List Nat} (hkj : k ∉ js)
    (hjs : ∀ j ∈ js, ∃ (α : Type) (T : TypeId) (e : Enc α) (xs : List α) (d : Bool), lkl l j = some (.arr T e xs d)) {fp : List Nat}
    (hos : w'.os = w.os) (htp : w'.tape = w.tape) (hout : w'.output = w.output) (hs : w'.heap.size = w.heap.size) (hkeep : ∀ b, b ≠ g.ρ k → w'.heap[b]? = w.heap[b]?)
    (hA : ArrR ⟨fun b => g.I b ∨ liveA g js b, g.ρ, g.hd, setAt g.F k fp⟩ w' k T e xs d)
    (hfp : d = true → fp.Nodup ∧ ∀ b ∈ fp, (g.I b ∨ liveA g js b) ∧ (∃ c t, w'.heap[b]? = some (.cells c t (0, 0))) ∧ ((d0 = true ∧ b ∈ g.F k) ∨ ∃ j ∈ js, Via g l j b)) :
    ∃ g', g'.ρ k = g.ρ k ∧ g'.hd k = g.hd k ∧ MemR g' ((k, some (.arr T e xs d)) :: (gones js ++ l)) w' ∧ (∀ K, Step K g l w g' ((k, some (.arr T e xs d)) :: (gones js ++ l)) w') ∧
      (∀ b, g.I b → w'.heap[b]? = w.heap[b]?) ∧ (∀ b, g.I b → g'.I b) ∧ ∀ j, okK g l g' ((k, some (.arr T e xs d)) :: (gones js ++ l)) j := by
  let g' : Gh := ⟨fun b => g.I b ∨ liveA g js b, g.ρ, g.hd, setAt g.F k fp⟩
  have hnI := m.notI hk hlv
  have hi : ∀ b, g.I b → w'.heap[b]? = w.heap[b]? := fun b hb => hkeep b fun e => hnI (e ▸ hb)
  have hl' : ∀ j, j ≠ k → lkl ((k, some (.arr T e xs d)) :: (gones js ++ l)) j = if j ∈ js then none else lkl l j := fun j hj => by
    rw [lkl_cons_ne (Ne.symm hj), lkl_gones]
  have hu : ∀ j, j ≠ k → lkl ((k, some (.arr T e xs d)) :: (gones js ++ l)) j = none ∨ Untouched g l w g' ((k, some (.arr T e xs d)) :: (gones js ++ l)) w' j := fun j hj => by
    by_cases h : j ∈ js
    · left; rw [hl' j hj, if_pos h]
    · right
      refine ⟨by rw [hl' j hj, if_neg h], rfl, rfl, setAt_ne hj, fun b hb hlv' => ⟨hkeep _ (m.dis j k _ _ hj hb hk hlv' hlv), fun hI => ?_⟩⟩
      rcases hI with hI | ⟨i, hij, hil, e⟩
      · exact m.notI hb hlv' hI
      · obtain ⟨_, _, _, _, _, h1⟩ := hjs i hij
        exact m.dis j i _ _ (fun e => h (e ▸ hij)) hb h1 hlv' hil e
  have ok : ∀ j, okK g l g' ((k, some (.arr T e xs d)) :: (gones js ++ l)) j := fun j => by
    by_cases hj : j = k
    · subst hj
      refine ⟨fun cs hc => ?_, fun β U e2 ys dd hc => ?_⟩
      · rw [lkl_cons_self] at hc; cases hc
      · rw [lkl_cons_self] at hc; cases hc
        exact ⟨α, T, e, xs0, d0, hk, rfl, rfl, rfl⟩
    · rcases hu j hj with h | h
      · exact okK.gone h
      · exact h.ok
  have hlt : ∀ b, g'.I b → b < w'.heap.size := fun b hb => by
    rw [hs]
    rcases hb with hb | ⟨i, hij, hil, e⟩
    · exact m.ilt b hb
    · obtain ⟨_, _, _, _, _, h1⟩ := hjs i hij
      rw [e]; exact m.lt h1 hil
  refine ⟨g', rfl, rfl, m.set1 k hi (fun b hb => .inl hb) (Nat.le_of_eq hs.symm) hlt hu (.inl (ok k)) (fun cs hc => ?_) (fun β U e2 ys d2 hc => ?_) (fun j b b' hj h1 h2 h3 l1 l2 => m.dis j k _ _ hj h2 hk l1 hlv) (fun β U e2 ys hc => ?_) (fun j β γ U V e2 e3 ys zs hj h1 h2 h3 => ?_), fun K => ?_, hi, fun b hb => .inl hb, ok⟩
  · rw [lkl_cons_self] at hc; cases hc
  · rw [lkl_cons_self] at hc; cases hc; exact hA
  · rw [lkl_cons_self] at hc; cases hc
    rw [show g'.F k = fp from setAt_self]
    obtain ⟨n1, n2⟩ := hfp rfl
    exact ⟨n1, fun b hb => ⟨(n2 b hb).1, (n2 b hb).2.1⟩⟩
  · rw [lkl_cons_self] at h3; cases h3
    rw [show g'.F k = fp from setAt_self]
    intro b hb hb'
    rcases ((hfp rfl).2 b hb').2.2 with ⟨rfl, h5⟩ | ⟨i, hij, hvia⟩
    · exact m.fd j k _ _ _ _ _ _ _ _ hj h2 hk b hb h5
    · have : j = i := Via.disj m (b := b) ⟨β, U, e2, ys, h2, .inr hb⟩ hvia
      subst this
      rw [hl' j hj, if_pos hij] at h1; cases h1
  · refine ⟨hos, htp, hout, Nat.le_of_eq hs.symm, fun b hb hn => hkeep b (hn k _ hk hlv), fun b hb => .inl hb, fun b hb => ?_, own_set1 k hu (fun b hb hl => .inl (OwnB.of_live hk hlv)) (fun β U e2 ys hc b hb => ?_), fun j hj hn => ?_⟩
    · rcases hb with hb | ⟨i, hij, hil, e⟩
      · exact .inl hb
      · obtain ⟨_, _, _, _, _, h1⟩ := hjs i hij
        exact .inr (.inr (e ▸ OwnB.of_live h1 hil))
    · rw [lkl_cons_self] at hc; cases hc
      rw [show g'.F k = fp from setAt_self] at hb
      rcases ((hfp rfl).2 b hb).2.2 with ⟨rfl, h5⟩ | ⟨i, hij, hvia⟩
      · exact .inl ⟨k, _, hk, .inr ⟨_, _, _, _, rfl, h5⟩⟩
      · exact .inl hvia.own
    · refine ⟨?_, ok j, fun cs hc => ?_⟩
      · by_cases hjk : j = k
        · subst hjk; rw [lk_cons_self]; simp
        · rw [lk_cons_ne (Ne.symm hjk), lk_gones]
          split
          · simp
          · exact hn
      · have hjk : j ≠ k := fun e => by subst e; rw [hk] at hc; cases hc
        refine ⟨cs, ?_⟩
        rw [hl' j hjk, if_neg]
        · exact hc
        · intro hjj
          obtain ⟨_, _, _, _, _, h1⟩ := hjs j hjj
          rw [hc] at h1; cases h1
end
section ops
variable {P : Program} {N : Nat} {s : St} {ty : TypeId} {pos : String} {after : Array Edge} {gd : Option (Nat × Bool)}
/-- A whole element written. -/
theorem x_ostore {α : Type} {e : Enc α} {f : α → List Cell} [hc : CellsOf e f] {T E n i k : Nat} {x y : Operand} {X : AVal} {xs : List α} (x' : α) {ds : List Cell} {js : List Nat} {d1 d2 : Bool} (h : evo s.t x = some (.one (.optr k i 0))) (hl : lkl s.l k = some (.arr E e xs d1)) (h2 : evo s.t y = some X) (hf : X.flat = true)
    (hT : sizeT P T = some n) (hn : X.cells.length = n) (hes : e.size = n) (hsol : X.cells.all (solid s.l) = true) (hmv : mvC s.l X.cells = some (ds, js, d2)) (hfit : FitL ds (f x')) (hnd : noDup js = true) (hkj : noId k js = true) (hi : i < xs.length) :
    Stp P N ⟨none, .store T x y, ty, pos, after, gd⟩ s ⟨s.t, (k, some (.arr E e (xs.set i x') (d1 && d2))) :: (gones js ++ s.l)⟩ ⟨rdo x (.one (.optr k i 0)) ++ rdo y X, (k, .arr E e xs d1) :: rlC s.l X.cells, [], (k, some (.arr E e (xs.set i x') (d1 && d2))) :: gones js, []⟩ := by
  refine ⟨fun K g s' a w hpre r => ?_, ⟨two_rd h h2, fun p hp => by
    rcases List.mem_cons.1 hp with rfl | hp
    · exact hl
    · exact rlC_self p hp, by simp⟩, by simp [Cert.upd]⟩
  obtain ⟨p1, p2, _⟩ := hpre
  have hk : lkl s'.l k = some (.arr E e xs d1) := p2 (k, .arr E e xs d1) (List.mem_cons_self ..)
  have p2' : ∀ p ∈ rlC s.l X.cells, lkl s'.l p.1 = some p.2 := fun p hp => p2 p (List.mem_cons_of_mem _ hp)
  have ha : a.eval x = .pointer (some ⟨g.ρ k, i * e.size + 0, none⟩) := (eval_ok r (evs_of h) fun p hm => p1 p (List.mem_append_left _ hm) : CellR g s'.l w _ (.optr k i 0)) _ _ _ _ _ hk
  have hv := eval_ok r (evs_of h2) fun p hm => p1 p (List.mem_append_right _ hm)
  have hs' : X.cells.all (solid s'.l) = true := List.all_eq_true.2 fun z hz => solid_of p2' hz (List.all_eq_true.1 hsol z hz)
  have hall := vr1_cells hs' r.mem hv hf
  have hmv' := mvC_of hmv p2'
  have hjn := noDup_of hnd
  have hkj' := noId_of hkj
  have hgone : ∀ j ∈ js, ∃ (α : Type) (T : TypeId) (e : Enc α) (xs : List α) (d : Bool), lkl s'.l j = some (.arr T e xs d) := fun j hj => (mvC_gone hmv' j hj).1
  obtain ⟨b', f1, f2, f3⟩ := mvC_ok r.mem hall hmv' hjn
  have hrep := hc.iff.2 (f1.fit hfit)
  have hlen : (a.eval y).cells.size = n := by rw [← hn]; simpa using hall.len
  have hll : (a.eval y).cells.toList.length = e.size := e.len hrep
  rcases r.mem.arr k _ _ _ _ _ hk with ⟨rfl, _⟩ | ⟨cap, vs, bss, g1, g2, g3, g4, g5, g6, g7, g8, g9⟩
  · simp at hi
  have hlv : g.hd k ≠ .slice none 0 0 := by rw [g1]; intro e; cases e
  have hib : i < bss.length := by rw [g6.1]; exact hi
  have hfitc : i * e.size + (a.eval y).cells.toList.length ≤ vs.size := by
    rw [hll, g5]
    have : (i + 1) * e.size ≤ cap * e.size := Nat.mul_le_mul_right _ (by omega)
    rw [Nat.add_mul] at this; omega
  have one : ∀ v ∈ (a.eval y).cells.toList, v.oneCell' = true := FR.one f1
  have hst := run_storeCells_at P (g.ρ k) (i * e.size) E (a.eval y).cells.toList 0 vs w g4 (by simpa using hfitc) one
  generalize hnew : (vs.toList.take (i * e.size) ++ (a.eval y).cells.toList ++ vs.toList.drop (i * e.size + (a.eval y).cells.toList.length)).toArray = new at *
  have hng : ∀ q, new[q]? = if i * e.size ≤ q ∧ q < i * e.size + e.size then (a.eval y).cells.toList[q - i * e.size]? else vs[q]? := fun q => by
    rw [← hnew, List.getElem?_toArray]
    have hl0 : (vs.toList.take (i * e.size)).length = i * e.size := by simp; omega
    rcases Nat.lt_or_ge q (i * e.size) with hq | hq
    · rw [if_neg (by omega), List.append_assoc, List.getElem?_append_left (by omega), List.getElem?_take, if_pos hq]; simp
    · rw [List.append_assoc, List.getElem?_append_right (by omega), hl0]
      rcases Nat.lt_or_ge q (i * e.size + e.size) with hq2 | hq2
      · rw [if_pos ⟨hq, hq2⟩, List.getElem?_append_left (by omega)]
      · rw [if_neg (by omega), List.getElem?_append_right (by omega), List.getElem?_drop, hll, show i * e.size + e.size + (q - i * e.size - e.size) = q by omega]; simp
  have hns : new.size = vs.size := by rw [← hnew]; simp; omega
  have hwk : (w.setRow (g.ρ k) new).heap[g.ρ k]? = some (.cells new E (0, 0)) := setRow_heap w _ _ _ E _ g4
  have hwo : ∀ b, b ≠ g.ρ k → (w.setRow (g.ρ k) new).heap[b]? = w.heap[b]? := fun b hb => setRow_other w _ b _ hb
  have hsz : (w.setRow (g.ρ k) new).heap.size = w.heap.size := by simp
  have hbk : ∀ b ∈ b', b ≠ g.ρ k := fun b hb eq => by
    rcases f2 b hb with h3 | ⟨j, hj, h3, h4⟩
    · exact g8 (eq ▸ h3)
    · obtain ⟨_, _, _, _, _, h5⟩ := hgone j hj
      exact r.mem.dis j k _ _ (fun e => hkj' (e ▸ hj)) h5 hk h3 hlv (h4 ▸ eq)
  have hE := g6.upd (w' := w.setRow (g.ρ k) new) (k := i) (x' := x') (b' := b') (e.keep hrep (fun b hb => hwo b (hbk b hb)) (Nat.le_of_eq hsz.symm)) (fun j u hu => by
      have hj := (List.getElem?_eq_some_iff.1 hu).1
      rw [cell_of_heap hwk, hng, if_pos (by omega), show 0 + i * e.size + j - i * e.size = j by omega, hu]) (fun q hq => by
      rw [cell_of_heap hwk, hng, cell_of_heap g4, if_neg (by rw [Nat.add_mul] at hq; omega)]) (fun q b hq hb c hcb => hwo c fun eq => g8 (eq ▸ g7 c (List.mem_flatten.2 ⟨b, List.mem_of_getElem? hb, hcb⟩))) (Nat.le_of_eq hsz.symm)
  have hmem : ∀ b ∈ (bss.set i b').flatten, g.I b ∨ liveA g js b := fun b hb => by
    rcases flatten_set bss hib b hb with h3 | h3
    · exact f2 b h3
    · exact .inl (g7 b h3)
  obtain ⟨g', q1, q2, q3, q4, q5, q6, q7⟩ := arr_put (w' := w.setRow (g.ρ k) new) r.mem hk hlv hkj' hgone (xs := xs.set i x') (d := d1 && d2) (fp := (bss.set i b').flatten) rfl rfl rfl hsz hwo
    (.inr ⟨cap, new, bss.set i b', by rw [List.length_set]; exact g1, by rw [List.length_set]; exact g2, g3, hwk, hns.trans g5, hE, hmem, (fun hI => by
      rcases hI with hI | ⟨j, hj, h3, h4⟩
      · exact g8 hI
      · obtain ⟨_, _, _, _, _, h5⟩ := hgone j hj
        exact r.mem.dis j k _ _ (fun e => hkj' (e ▸ hj)) h5 hk h3 hlv h4.symm), fun _ => setAt_self⟩)
    (fun hd => by
      simp only [Bool.and_eq_true] at hd
      obtain ⟨rfl, rfl⟩ := hd
      obtain ⟨n1, n2⟩ := f3 rfl
      have hF := g9 rfl
      have hvk : ∀ b ∈ bss.flatten, Via g s'.l k b := fun b hb => ⟨α, E, e, xs, hk, .inr (by rw [hF]; exact hb)⟩
      refine ⟨nodup_set n1 bss i hib (by rw [← hF]; exact (r.mem.fr k _ _ _ _ hk).1) (fun c hcb => .inr fun h3 => by
        obtain ⟨j, hj, hvj⟩ := n2 c hcb
        exact hkj' ((hvk c h3).disj r.mem hvj ▸ hj)), fun b hb => ⟨hmem b hb, ?_, ?_⟩⟩
      · rcases flatten_set bss hib b hb with h3 | h3
        · obtain ⟨j, hj, hvj⟩ := n2 b h3
          obtain ⟨c, t, h4⟩ := hvj.cells r.mem
          exact ⟨c, t, by rw [hwo b (hbk b h3)]; exact h4⟩
        · obtain ⟨c, t, h4⟩ := (hvk b h3).cells r.mem
          exact ⟨c, t, by rw [hwo b fun eq => g8 (eq ▸ g7 b h3)]; exact h4⟩
      · rcases flatten_set bss hib b hb with h3 | h3
        · exact .inr (n2 b h3)
        · exact .inl ⟨rfl, by rw [hF]; exact h3⟩)
  unfold Oper.wp
  have hrun : (execOp a.eval ⟨none, .store T x y, ty, pos, after, gd⟩).run P w = .ok .skip (w.setRow (g.ρ k) new) := by
    unfold sizeT at hT
    split at hT
    · rename_i ti hti
      cases hT
      simp only [execOp, Instr.storeAt, ha, Instr.sureAddr, storeVar, sizeOf, typeInfo, Sem.run_bind, Sem.run_pure, program, Sem.run, hti, Result.andThen_ok, hlen, ne_eq, not_true_eq_false, if_false]
      simp only [Nat.add_zero] at hst ⊢
      rw [hst]; rfl
    · cases hT
  rw [hrun, Oper.upon_skip]
  exact ⟨g', r.next0 q5 q6 (Nat.le_of_eq hsz.symm) (fun j _ => q7 j) q3, q4 K⟩
end ops
/-! filled from the front -/
def filledTo {α : Type} (xs : List α) (x0 : α) (k : Nat) : List α := xs.take k ++ List.replicate (xs.length - k) x0
theorem filledTo_zero {α : Type} {xs : List α} {x0 : α} : List.replicate xs.length x0 = filledTo xs x0 0 := by simp [filledTo]
theorem filledTo_len {α : Type} {xs : List α} {x0 : α} {k : Nat} (hk : k ≤ xs.length) : (filledTo xs x0 k).length = xs.length := by simp [filledTo]; omega
theorem filledTo_succ {α : Type} {xs : List α} {x0 : α} {k : Nat} (hk : k < xs.length) : (filledTo xs x0 k).set k xs[k] = filledTo xs x0 (k + 1) := (Filled.succ (xs := xs) (x0 := x0) (ys := filledTo xs x0 k) rfl hk)
theorem filledTo_done {α : Type} {xs : List α} {x0 : α} {k : Nat} (hk : xs.length ≤ k) : filledTo xs x0 k = xs := by
  unfold filledTo
  rw [List.take_of_length_le hk, show xs.length - k = 0 by omega]; simp
end Go.Proofs.Ytcgickpnckedcaa
