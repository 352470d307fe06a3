/- The abstract walk: make. -/
import Derived.Test.YtcgickpnckedcaaAbsRet
namespace Go.Proofs.Ytcgickpnckedcaa
open Go.RowKit
set_option linter.unusedVariables false

theorem plainL_fr {w : World} : ∀ {vs : List Value} {cs : List Cell}, plainL vs = some cs → FR w vs cs []
  | [], cs, h => by cases h; rfl
  | v :: vs, cs, h => by
    simp only [plainL] at h
    split at h
    · rename_i hb hc
      cases h
      exact ⟨[], [], rfl, ⟨rfl, wf_of_plain hb, rfl⟩, plainL_fr hc⟩
    · cases h
section ops
variable {P : Program} {N : Nat} {s : St} {d : Nat} {ty : TypeId} {pos : String} {after : Array Edge} {gd : Option (Nat × Bool)}
/-- A new array of n zero elements. -/
theorem x_make {α : Type} {e : Enc α} {f : α → List Cell} [hc : CellsOf e f] {T E n : Nat} {x y : Operand} (x0 : α) {z : Value} {cs : List Cell} (k : Nat) (hN : Nat.blt d N = true)
    (h : evo s.t x = some (.one (.c (.int .i64 (n : Int))))) (h2 : evo s.t y = some (.one (.c (.int .i64 (n : Int))))) (hz : zeroT P E = some z) (hzc : plainL z.cells.toList = some cs) (hfit : FitL cs (f x0))
    (hk : lk s.l k = none) (hi : noId k s.ids = true) (hT : arrOk P T E e.size = true) (hn : n ≤ 1000000000) :
    Stp P N ⟨some d, .makeSlice T x y, ty, pos, after, gd⟩ s ⟨(d, .one (.own k)) :: s.t, (k, some (.arr E e (List.replicate n x0) true)) :: s.l⟩ ⟨rdo x (.one (.c (.int .i64 (n : Int)))) ++ rdo y (.one (.c (.int .i64 (n : Int)))), [], [(d, .one (.own k))], [(k, some (.arr E e (List.replicate n x0) true))], [k]⟩ := by
  refine ⟨fun K g s' a w hp r => ?_, ⟨two_rd h h2, by simp, fun j hj => by simp at hj; subst hj; exact ⟨hk, noId_of hi⟩⟩, rfl⟩
  obtain ⟨p1, p2, p3⟩ := hp
  obtain ⟨⟨e1, _⟩, e2, _⟩ := two_c r (evs_of h) (evs_of h2) p1
  obtain ⟨n1, n2⟩ := p3 k (by simp)
  obtain ⟨b, hTT, hb⟩ := arrOk_spec hT
  obtain ⟨hu, hn0, ti, z', hti, hz', hzs, htis, htib⟩ := arrT_spec hTT
  have hzz : z' = z := by
    unfold zeroT at hz
    rw [hti] at hz
    simp only at hz
    rw [hz'] at hz
    exact Option.some.inj hz
  subst hzz
  have hb' := Nat.le_of_ble_eq_true hb
  have hrun := run_make_rowN (P := P) T E ti z' hu hti hz' .i64 .i64 n n (Nat.le_refl _) (by
    rw [htib]
    have : b * n ≤ 100000 * 1000000000 := Nat.mul_le_mul hb' hn
    omega) (by omega) w
  rw [htis] at hrun
  have hrep : ∀ w, e.rep w z'.cells.toList x0 [] := fun w => hc.iff.2 ((plainL_fr hzc).fit hfit)
  obtain ⟨bs, hS, hF⟩ := SliceRep.made hrep hn0 n (by unfold maxLen; omega) w E
  have hmax : n ≤ maxLen := by unfold maxLen; omega
  have hsz : (madeCells z'.cells (n * e.size)).size = n * e.size := by simp [madeCells]
  obtain ⟨g', q1, q2, q3, q4, q5, q6, q7⟩ := arr_new (w' := w.alloc (.cells (madeCells z'.cells (n * e.size)) E)) r.mem n1 (fun h => n2 (List.mem_append_right _ h)) (js := []) (fz := []) (fun _ h => h) (fun j hj => by cases hj) (T := E) (e := e) (xs := List.replicate n x0) (d := true) (blk := w.heap.size) (v := .slice (some ⟨w.heap.size, 0, none⟩) n n) (fp := [])
    rfl rfl rfl (by simp) (fun b hb _ => Below.heap_alloc w _ b hb)
    (.inr ⟨n, madeCells z'.cells (n * e.size), List.replicate n [], by
      show setAt g.hd k _ k = .slice (some ⟨setAt g.ρ k _ k, 0, none⟩) _ _
      rw [setAt_self, setAt_self]; simp, by simp, hmax, by
      show (w.alloc _).heap[setAt g.ρ k _ k]? = _
      rw [setAt_self]; exact heap_alloc_new w _, hsz, by
      show Elems e _ (setAt g.ρ k _ k) 0 _ _
      rw [setAt_self]
      refine ⟨by simp, fun i x b hx hb => ?_⟩
      have hi : i < n := by have := (List.getElem?_eq_some_iff.1 hx).1; simpa using this
      have hne : List.replicate n x0 ≠ [] := by intro e; have := congrArg List.length e; simp at this; omega
      obtain ⟨g2, off, bss, ha, _, _, hE⟩ := hS.parts hne
      simp only [Option.some.injEq, Addr.mk.injEq, and_true] at ha
      obtain ⟨rfl, rfl⟩ := ha
      rw [List.getElem?_replicate, if_pos hi] at hx hb
      cases hx; cases hb
      have hzl : z'.cells.size = e.size := by simpa using e.len (hrep w)
      refine ⟨z'.cells.toList, hrep _, fun j u hu => ?_⟩
      have hj : j < z'.cells.size := by have := (List.getElem?_eq_some_iff.1 hu).1; simpa using this
      rw [cell_of_heap (heap_alloc_new w _), Nat.zero_add]
      have := madeCells_get (z := z'.cells) hi hj
      rw [hzl] at this
      rw [this]
      simpa [List.getElem?_eq_getElem (l := z'.cells.toList) (by simpa using hj)] using hu,
      (fun b hb => by simp at hb), (fun hI => by
        have h3 : (g.I (setAt g.ρ k w.heap.size k) ∨ liveA g [] (setAt g.ρ k w.heap.size k)) := hI
        rw [setAt_self] at h3
        rcases h3 with hI | ⟨j, hj, _⟩
        · have := r.mem.ilt _ hI; omega
        · cases hj), fun _ => by show setAt g.F k [] k = _; rw [setAt_self]; simp⟩)
    (fun _ => ⟨by simp, .inl (Nat.le_refl _)⟩) (fun _ => ⟨List.nodup_nil, fun b hb => by cases hb⟩)
  unfold Oper.wp
  have hrun' : (execOp a.eval ⟨some d, .makeSlice T x y, ty, pos, after, gd⟩).run P w = .ok (.value (.slice (some ⟨w.heap.size, 0, none⟩) n n)) (w.alloc (.cells (madeCells z'.cells (n * e.size)) E)) := by
    simp only [execOp, e1, e2, Sem.run_bind, hrun, Result.andThen_ok]; rfl
  rw [hrun', Oper.upon_value]
  refine ⟨g', r.next (blt_lt hN) q5 q6 (by simp) (fun j hj => q7 j fun e => n2 (e ▸ hj)) (fun β U e2 ys dd hc => ?_) q3, q4 K⟩
  exact q2.symm
end ops
end Go.Proofs.Ytcgickpnckedcaa
