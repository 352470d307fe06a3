/- The abstract walk: rules for arrays of one's own. -/
import Derived.Test.YtcgickpnckedcaaAbsArr
namespace Go.Proofs.Ytcgickpnckedcaa
open Go.RowKit
set_option linter.unusedVariables false

def FitL : List Cell → List Cell → Prop
  | [], [] => True
  | c :: cs, d :: ds => (c = d ∨ (c = .c (.slice none 0 0) ∧ ∃ (α : Type) (e : Enc α), d = .sl e [])) ∧ FitL cs ds
  | _, _ => False
theorem FitL.rf : ∀ {cs : List Cell}, FitL cs cs
  | [] => trivial
  | c :: cs => ⟨.inl rfl, FitL.rf⟩
theorem FR.fit {w : World} : ∀ {vs : List Value} {cs ds : List Cell} {b : List Nat}, FR w vs cs b → FitL cs ds → FR w vs ds b
  | [], [], [], b, h, _ => h
  | v :: vs, c :: cs, d :: ds, b, h, hf => by
    obtain ⟨b1, b2, rfl, h1, h2⟩ := h
    refine ⟨b1, b2, rfl, ?_, FR.fit h2 hf.2⟩
    rcases hf.1 with rfl | ⟨rfl, α, e, rfl⟩
    · exact h1
    · obtain ⟨h3, _, rfl⟩ := h1
      exact ⟨none, 0, 0, h3, rfl, Nat.le_refl _, by unfold maxLen; omega, fun _ => rfl, .inl ⟨rfl, rfl⟩⟩
def noDup : List Nat → Bool
  | [] => true
  | j :: js => noId j js && noDup js
theorem noDup_of : ∀ {js : List Nat}, noDup js = true → js.Nodup
  | [], _ => List.nodup_nil
  | j :: js, h => by
    simp only [noDup, Bool.and_eq_true] at h
    exact List.nodup_cons.2 ⟨noId_of h.1, noDup_of h.2⟩
theorem mvC_of {l l' : Locs} : ∀ {cs : List Cell} {r : List Cell × List Nat × Bool}, mvC l cs = some r → (∀ p ∈ rlC l cs, lkl l' p.1 = some p.2) → mvC l' cs = some r
  | [], r, h, _ => h
  | c :: cs, r, h, hp => by
    have hp' : ∀ p ∈ rlC l cs, lkl l' p.1 = some p.2 := fun p hm => hp p (by
      unfold rlC at hm ⊢
      rw [List.flatMap_cons, List.filterMap_append]
      exact List.mem_append_right _ hm)
    simp only [mvC] at h ⊢
    split at h
    · cases h
    · rename_i ds js d h1
      rw [mvC_of h1 hp']
      cases c with
      | own j =>
        simp only at h ⊢
        split at h
        · rename_i T e xs q hj
          rw [rlC_get hp (List.mem_cons_self ..) (by simp [Cell.ids]) hj]
          exact h
        · cases h
      | _ => exact h
theorem mvC_gone {l : Locs} : ∀ {cs : List Cell} {ds : List Cell} {js : List Nat} {d : Bool}, mvC l cs = some (ds, js, d) → ∀ j ∈ js, (∃ (α : Type) (T : TypeId) (e : Enc α) (xs : List α) (q : Bool), lkl l j = some (.arr T e xs q)) ∧ j ∈ cs.flatMap Cell.ids
  | [], ds, js, d, h, j, hj => by
    simp only [mvC, Option.some.injEq, Prod.mk.injEq] at h
    obtain ⟨_, rfl, _⟩ := h
    cases hj
  | c :: cs, ds, js, d, h, j, hj => by
    have up : ∀ {i : Nat}, i ∈ cs.flatMap Cell.ids → i ∈ (c :: cs).flatMap Cell.ids := fun hi => by rw [List.flatMap_cons]; exact List.mem_append_right _ hi
    simp only [mvC] at h
    split at h
    · cases h
    · rename_i ds1 js1 d1 h1
      cases c with
      | c u =>
        simp only [Option.some.injEq, Prod.mk.injEq] at h
        obtain ⟨_, rfl, _⟩ := h
        exact ⟨(mvC_gone h1 j hj).1, up (mvC_gone h1 j hj).2⟩
      | sl e xs =>
        simp only [Option.some.injEq, Prod.mk.injEq] at h
        obtain ⟨_, rfl, _⟩ := h
        exact ⟨(mvC_gone h1 j hj).1, up (mvC_gone h1 j hj).2⟩
      | own i =>
        simp only at h
        split at h
        · rename_i T e xs q hi
          simp only [Option.some.injEq, Prod.mk.injEq] at h
          obtain ⟨_, rfl, _⟩ := h
          rcases List.mem_cons.1 hj with rfl | hj
          · exact ⟨⟨_, T, e, xs, q, hi⟩, by rw [List.flatMap_cons]; exact List.mem_append_left _ (by simp [Cell.ids])⟩
          · exact ⟨(mvC_gone h1 j hj).1, up (mvC_gone h1 j hj).2⟩
        · cases h
      | _ => cases h

/-! The type of an array's elements. -/
def arrT (P : Program) (T : TypeId) : Option (TypeId × Nat × Nat) :=
  match P.underlying T with
  | some (.slice e) => match P.info? e with
    | some i => match i.zero with
      | some z => if z.cells.size = i.size ∧ 0 < i.size then some (e, i.size, i.bytes) else none
      | none => none
    | none => none
  | _ => none
theorem arrT_spec {P : Program} {T E n b : Nat} (h : arrT P T = some (E, n, b)) : P.underlying T = some (.slice E) ∧ 0 < n ∧ ∃ i z, P.info? E = some i ∧ i.zero = some z ∧ z.cells.size = n ∧ i.size = n ∧ i.bytes = b := by
  unfold arrT at h
  split at h
  · rename_i e hu
    split at h
    · rename_i i hi
      split at h
      · rename_i z hz
        split at h
        · rename_i hc
          cases h
          exact ⟨hu, hc.2, i, z, hi, hz, hc.1, rfl, rfl⟩
        · cases h
      · cases h
    · cases h
  · cases h

section
variable {g : Gh} {l : Locs} {w : World}
/-- The cells of some values. -/
theorem vr1s_cells : ∀ {vs : List Value} {Xs : List AVal}, (Xs.flatMap AVal.cells).all (solid l) = true → MemR g l w → All2 (VR g l w) vs Xs → flats Xs = true → All2 (CellR g l w) (vs.flatMap fun v => v.cells.toList) (Xs.flatMap AVal.cells)
  | [], [], _, _, _, _ => trivial
  | v :: vs, X :: Xs, hs, m, h, hf => by
    simp only [flats, Bool.and_eq_true] at hf
    rw [List.flatMap_cons, List.all_append, Bool.and_eq_true] at hs
    rw [List.flatMap_cons, List.flatMap_cons]
    exact (vr1_cells hs.1 m h.1 hf.1).app (vr1s_cells hs.2 m h.2 hf.2)
theorem vr1s_size {n : Nat} : ∀ {vs : List Value} {Xs : List AVal}, (Xs.flatMap AVal.cells).all (solid l) = true → MemR g l w → All2 (VR g l w) vs Xs → flats Xs = true → Xs.all (fun X => Nat.beq X.cells.length n) = true → ∀ v ∈ vs, v.cells.size = n
  | [], [], _, _, _, _, _, v, hv => by cases hv
  | v :: vs, X :: Xs, hs, m, h, hf, hn, u, hu => by
    simp only [flats, Bool.and_eq_true] at hf
    rw [List.flatMap_cons, List.all_append, Bool.and_eq_true] at hs
    simp only [List.all_cons, Bool.and_eq_true] at hn
    rcases List.mem_cons.1 hu with rfl | hu
    · have := (vr1_cells hs.1 m h.1 hf.1).len
      rw [Nat.eq_of_beq_eq_true hn.1] at this
      simpa using this
    · exact vr1s_size hs.2 m h.2 hf.2 hn.2 u hu
end

theorem FR.rows {α : Type} {e : Enc α} {f : α → List Cell} [hc : CellsOf e f] {w : World} : ∀ {xs : List α} {vs : List Value} {bs : List Nat}, FR w vs (xs.flatMap f) bs → vs.length = xs.length * e.size
  | [], [], bs, h => by simp
  | [], v :: vs, bs, h => h.elim
  | x :: xs, vs, bs, h => by
    rw [List.flatMap_cons] at h
    obtain ⟨v1, v2, b1, b2, rfl, rfl, h1, h2⟩ := FR.app.1 h
    rw [List.length_append, e.len (hc.iff.2 h1), FR.rows (e := e) h2, List.length_cons, Nat.add_mul]
    omega
section ops
variable {P : Program} {N : Nat} {s : St} {d : Nat} {ty : TypeId} {pos : String} {after : Array Edge} {gd : Option (Nat × Bool)}
theorem gones_lk {js : List Nat} {l : Locs} : gones js ++ l = gones js ++ l := rfl
/-- A new array with these elements. -/
theorem x_bslice {α : Type} {e : Enc α} {f : α → List Cell} [hc : CellsOf e f] {T E n b len : Nat} (ops : List Operand) {parts : Array (Nat × Operand)} {Xs : List AVal} (xs : List α) {ds : List Cell} {js : List Nat} {dp : Bool} (k : Nat) (hN : Nat.blt d N = true)
    (hparts : parts = ((ops.zipIdx 0).map fun x => (x.2, x.1)).toArray) (hev : evl s.t ops = some Xs) (hfl : flats Xs = true) (hsol : (Xs.flatMap AVal.cells).all (solid s.l) = true)
    (hT : arrT P T = some (E, n, b)) (hlen : ops.length = len) (hsz : Xs.all (fun X => Nat.beq X.cells.length n) = true) (hes : e.size = n)
    (hmv : mvC s.l (Xs.flatMap AVal.cells) = some (ds, js, dp)) (hfit : FitL ds (xs.flatMap f)) (hnd : noDup js = true) (hxs : xs.length = len) (hpos : Nat.blt 0 len = true) (hsmall : Nat.ble (len * n) 16777216 = true)
    (hk : lk s.l k = none) (hi : noId k s.ids = true) :
    Stp P N ⟨some d, .buildSlice T len parts, ty, pos, after, gd⟩ s ⟨(d, .one (.own k)) :: s.t, (k, some (.arr E e xs dp)) :: (gones js ++ s.l)⟩ ⟨rdl s.t ops, rlC s.l (Xs.flatMap AVal.cells), [(d, .one (.own k))], (k, some (.arr E e xs dp)) :: gones js, [k]⟩ := by
  refine ⟨fun K g s' a w hp r => ?_, ⟨(evl_ok (N := N) hev).1, rlC_self, fun j hj => by simp at hj; subst hj; exact ⟨hk, noId_of hi⟩⟩, by simp [Cert.upd]⟩
  obtain ⟨p1, p2, p3⟩ := hp
  have hvs := (evl_ok hev).2 r p1
  have hs' : (Xs.flatMap AVal.cells).all (solid s'.l) = true := List.all_eq_true.2 fun x hx => solid_of p2 hx (List.all_eq_true.1 hsol x hx)
  have hmv' := mvC_of hmv p2
  obtain ⟨n1, n2⟩ := p3 k (by simp)
  obtain ⟨hu, hn0, ti, z, hti, hz, hzs, htis, htib⟩ := arrT_spec hT
  have hA := vr1s_cells hs' r.mem hvs hfl
  have hS := vr1s_size hs' r.mem hvs hfl hsz
  have hjn := noDup_of hnd
  obtain ⟨bs, f1, f2, f3⟩ := mvC_ok r.mem hA hmv' hjn
  replace f1 := f1.fit hfit
  have hln : (ops.map a.eval).length = len := by simpa using hlen
  have hpos' : 0 < len := blt_lt hpos
  have hsm' : len * n ≤ 16777216 := Nat.le_of_ble_eq_true hsmall
  have hfill := Great.fill_whole (s := n) hn0 (ops.map a.eval) ((Array.range (len * n)).map (z.cells[· % z.cells.size]!)) hS (by rw [hln]; simp)
  have hrun := run_buildSlice (P := P) w T E len (parts.map fun (i, x) => (i, a.eval x)) _ ti z hu hti hz (by rw [htis]; omega) (by rw [htis]; have := Nat.mul_pos hpos' hn0; omega) (by
    rw [htis, hparts]
    have : (((ops.zipIdx 0).map fun x => (x.2, x.1)).toArray.map fun (x : Nat × Operand) => (x.1, a.eval x.2)).toList = ((ops.map a.eval).zipIdx 0).map fun x => (x.2, x.1) := by
      simp [List.zipIdx_map, Function.comp_def]
    exact (congrArg _ this).trans hfill)
  generalize hflat : ((ops.map a.eval).flatMap fun v => v.cells.toList) = flat at *
  have hfl2 : flat.length = len * n := by rw [FR.rows (e := e) f1, hxs, hes]
  have hrow : (w.alloc (.cells flat.toArray E)).ownsRow 0 E e.size (.slice (some ⟨w.heap.size, 0, none⟩) len len) xs.length flat :=
    ⟨by rw [hfl2, hxs, hes], .inr ⟨w.heap.size, len, flat.toArray, by rw [hxs], Nat.zero_le _, heap_alloc_new w _, by rw [hxs]; exact Nat.le_refl _, by
      have : len ≤ len * n := Nat.le_mul_of_pos_right _ hn0
      unfold maxLen; omega, by simp [hfl2, hes], by rw [hxs, hes, ← hfl2]; simp⟩⟩
  have hgone : ∀ j ∈ js, ∃ (α : Type) (T : TypeId) (e : Enc α) (xs : List α) (d : Bool), lkl s'.l j = some (.arr T e xs d) := fun j hj => (mvC_gone hmv' j hj).1
  have hkeep : ∀ b, b < w.heap.size → (w.alloc (.cells flat.toArray E)).heap[b]? = w.heap[b]? := fun b hb => Below.heap_alloc w _ b hb
  have hbl : ∀ b ∈ bs, b < w.heap.size := fun b hb => by
    rcases f2 b hb with h | ⟨j, hj, h1, h2⟩
    · exact r.mem.ilt b h
    · obtain ⟨_, _, _, _, _, h3⟩ := hgone j hj
      rw [h2]; exact r.mem.lt h3 h1
  have hkl : lkl s'.l k = none := by unfold lkl; rw [n1]
  obtain ⟨g', q1, q2, q3, q4, q5, q6, q7⟩ := arr_new (w' := w.alloc (.cells flat.toArray E)) r.mem n1 (fun h => n2 (List.mem_append_right _ h)) (js := js) (fz := js) (fun _ h => h) hgone (T := E) (e := e) (xs := xs) (d := dp) (blk := w.heap.size) (v := .slice (some ⟨w.heap.size, 0, none⟩) len len) (fp := bs)
    rfl rfl rfl (by simp) (fun b hb _ => hkeep b hb)
    (ArrR.lay hrow (f1.keep (fun b hb => hkeep b (hbl b hb)) (by simp)) f2 (fun b hb => by
      simp [Value.ownBlock] at hb
      subst hb
      refine ⟨rfl, fun hI => ?_⟩
      rcases hI with hI | ⟨j, hj, h1, h2⟩
      · have := r.mem.ilt _ hI; omega
      · obtain ⟨_, _, _, _, _, h3⟩ := hgone j hj
        have := r.mem.lt h3 h1; omega))
    (fun _ => ⟨by simp, .inl (Nat.le_refl _)⟩)
    (fun hd => ⟨(f3 hd).1, fun b hb => ⟨f2 b hb, by
      obtain ⟨j, hj, hv⟩ := (f3 hd).2 b hb
      obtain ⟨c, t, h⟩ := hv.cells r.mem
      exact ⟨c, t, by rw [hkeep b (hbl b hb)]; exact h⟩, (f3 hd).2 b hb⟩⟩)
  unfold Oper.wp
  have hrun' : (execOp a.eval ⟨some d, .buildSlice T len parts, ty, pos, after, gd⟩).run P w = .ok (.value (.slice (some ⟨w.heap.size, 0, none⟩) len len)) (w.alloc (.cells flat.toArray E)) := by
    simp only [execOp, Sem.run_bind, hrun, Result.andThen_ok]; rfl
  rw [hrun', Oper.upon_value]
  refine ⟨g', r.next (blt_lt hN) q5 q6 (by simp) (fun j hj => q7 j fun e => n2 (e ▸ hj)) (fun β U e2 ys dd hc => ?_) q3, q4 K⟩
  exact q2.symm
end ops
end Go.Proofs.Ytcgickpnckedcaa
