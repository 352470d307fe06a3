/- Lemmas of the walks, part 2. -/
import Derived.Test.YtfdpigafekohgaaC1
import Derived.Test.YtfdpigafekohgaaRows
import Derived.Deep.RegionWith
import Derived.BigQuiet
import Derived.Deep.RegionHeld3
import Derived.Deep.QuietTactic
import Derived.Deep.Draws
import Derived.Lib.Bytealg
import Derived.Laws.StructEq
import Derived.Lib.AppendStr
import Derived.Lib.ConvBytes
import Derived.Lib.BufferRead
import Derived.Laws.CopyRow
import Derived.Laws.Small
/- The abstract walk: a struct built from parts; an empty array; nil taken ars an array of one's own; results that lie in variables. -/
namespace Go.Proofs.Ytfdpigafekohgaa
open Go.RowKit
set_option linter.unusedVariables false

/-! ### A struct from parts -/
def setCs (cs : List Cell) (off : Nat) (xs : List Cell) : List Cell := cs.take off ++ (xs ++ cs.drop (off + xs.length))
def nthP : List (Nat × Nat) → Nat → Option (Nat × Nat)
  | [], _ => none
  | p :: _, 0 => some p
  | _ :: r, n + 1 => nthP r n
theorem nthP_get : ∀ {l : List (Nat × Nat)} {n : Nat}, nthP l n = l[n]?
  | [], n => by simp [nthP]
  | p :: l, 0 => rfl
  | _ :: r, n + 1 => by simpa [nthP] using nthP_get (l := r)
def bldA (places : List (Nat × Nat)) : List Cell → List Nat → List AVal → Option (List Cell)
  | cs, i :: is, X :: Xs => match nthP places i with
    | some (off, size) => match Nat.beq X.cells.length size, Nat.ble (off + size) cs.length with
      | true, true => bldA places (setCs cs off X.cells) is Xs
      | _, _ => none
    | none => none
  | cs, [], [] => some cs
  | _, _, _ => none
theorem fold_cells (off : Nat) (vs : List Value) (cs : Array Value) (h : off + vs.length ≤ cs.size) : (vs.toArray.zipIdx.foldl (fun cs (x : Value × Nat) => cs.setIfInBounds (off + x.2) x.1) cs).toList = cs.toList.take off ++ (vs ++ cs.toList.drop (off + vs.length)) := by
  obtain ⟨h1, h2⟩ := Great.foldl_set off vs 0 cs
  have e : (vs.toArray.zipIdx.foldl (fun cs (x : Value × Nat) => cs.setIfInBounds (off + x.2) x.1) cs) = ((vs.zipIdx 0).foldl (fun cs (x : Value × Nat) => cs.setIfInBounds (off + x.2) x.1) cs) := by simp
  rw [e]
  refine List.ext_getElem? fun k => ?_
  rw [Array.getElem?_toList, h2 k]
  simp only [Nat.add_zero]
  have hl : (cs.toList.take off).length = off := by simp; omega
  rcases Nat.lt_or_ge k off with hk | hk
  · rw [if_neg (by omega), List.getElem?_append_left (by omega), List.getElem?_take, if_pos hk]; simp
  · rw [List.getElem?_append_right (by omega), hl]
    rcases Nat.lt_or_ge k (off + vs.length) with hk2 | hk2
    · rw [if_pos ⟨hk, hk2, by omega⟩, List.getElem?_append_left (by omega)]
    · rw [if_neg (by omega), List.getElem?_append_right (by omega), List.getElem?_drop, show off + vs.length + (k - off - vs.length) = k by omega]; simp
theorem fill_bld {g : Gh} {l : Locs} {w : World} (m : MemR g l w) {places : List (Nat × Nat)} : ∀ {ps : List (Nat × Value)} {Xs : List AVal} {cells : Array Value} {cs ds : List Cell}, All2 (VR g l w) (ps.map (·.2)) Xs → flats Xs = true →
    (Xs.flatMap AVal.cells).all (solid l) = true → All2 (CellR g l w) cells.toList cs → bldA places cs (ps.map (·.1)) Xs = some ds → ∃ r, Instr.fill (places.toArray[·]?) cells ps = some r ∧ All2 (CellR g l w) r.toList ds
  | [], [], cells, cs, ds, _, _, _, hA, hb => by
    simp only [List.map_nil, bldA, Option.some.injEq] at hb
    subst hb
    exact ⟨cells, rfl, hA⟩
  | (i, v) :: ps, X :: Xs, cells, cs, ds, h, hf, hs, hA, hb => by
    simp only [flats, Bool.and_eq_true] at hf
    rw [List.flatMap_cons, List.all_append, Bool.and_eq_true] at hs
    have hv := vr1_cells hs.1 m h.1 hf.1
    simp only [List.map_cons, bldA] at hb
    split at hb
    · rename_i off size hp
      split at hb
      · rename_i h1 h2
        have h1 := Nat.eq_of_beq_eq_true h1
        have h2 := Nat.le_of_ble_eq_true h2
        have hvl : v.cells.toList.length = size := by rw [hv.len]; exact h1
        have hcl : cells.size = cs.length := by simpa using hA.len
        have hfc := fold_cells off v.cells.toList cells (by omega)
        have hA2 : All2 (CellR g l w) (v.cells.zipIdx.foldl (fun cs (x : Value × Nat) => cs.setIfInBounds (off + x.2) x.1) cells).toList (setCs cs off X.cells) := by
          have e : v.cells.toList.toArray = v.cells := by simp
          rw [e] at hfc
          rw [hfc]
          unfold setCs
          rw [← hv.len]
          exact (hA.take off).app (hv.app (hA.drop _))
        obtain ⟨r, r1, r2⟩ := fill_bld m h.2 hf.2 hs.2 hA2 hb
        refine ⟨r, ?_, r2⟩
        rw [nthP_get] at hp
        unfold Instr.fill
        simp only [List.getElem?_toArray, hp]
        rw [if_neg (by
          have : v.cells.size = size := by simpa using hvl
          simp [this]; omega)]
        simpa only [List.getElem?_toArray] using r1
      · cases hb
    · cases hb
def bldT (P : Program) (T : TypeId) : Option (List Value × List (Nat × Nat)) :=
  match P.info? T, P.underlying T with
  | some it, some (.struct fields) =>
    match it.zero, fields.toList.mapM (fun f => (P.info? f.type).map fun i => (f.offset, i.size)) with
    | some z, some places => some (z.cells.toList, places)
    | _, _ => none
  | _, _ => none
theorem bldT_spec {P : Program} {T : TypeId} {zs : List Value} {places : List (Nat × Nat)} (h : bldT P T = some (zs, places)) (parts : List (Nat × Value)) : P.built T parts = Instr.fill (places.toArray[·]?) zs.toArray parts := by
  unfold bldT at h
  split at h
  · rename_i it fields h1 h2
    split at h
    · rename_i z pl h3 h4
      cases h
      simp only [Program.built, h1, h2, h3, h4]
    · cases h
  · cases h
section ops
variable {P : Program} {N : Nat} {s : St} {d : Nat} {ty : TypeId} {pos : String} {after : Array Edge} {gd : Option (Nat × Bool)}
theorem x_build {T : TypeId} {parts : Array (Nat × Operand)} {zs : List Value} {places : List (Nat × Nat)} {Xs : List AVal} {cs ds : List Cell} (hN : Nat.blt d N = true) (hT : bldT P T = some (zs, places)) (hz : plainL zs = some cs)
    (hev : evl s.t (parts.toList.map (·.2)) = some Xs) (hfl : flats Xs = true) (hsol : (Xs.flatMap AVal.cells).all (solid s.l) = true) (hb : bldA places cs (parts.toList.map (·.1)) Xs = some ds) :
    Stp P N ⟨some d, .build T parts, ty, pos, after, gd⟩ s ⟨(d, .agg ds) :: s.t, s.l⟩ ⟨rdl s.t (parts.toList.map (·.2)), rlC s.l (Xs.flatMap AVal.cells), [(d, .agg ds)], [], []⟩ :=
  Stp.pure rfl hN (evl_ok (N := N) hev).1 rlC_self fun g s' a w p1 p2 r => by
    have hvs := (evl_ok hev).2 r p1
    have hs' : (Xs.flatMap AVal.cells).all (solid s'.l) = true := List.all_eq_true.2 fun x hx => solid_of p2 hx (List.all_eq_true.1 hsol x hx)
    have hps : (parts.toList.map fun x => (x.1, a.eval x.2)).map (·.2) = (parts.toList.map (·.2)).map a.eval := by simp
    have hps1 : (parts.toList.map fun x => (x.1, a.eval x.2)).map (·.1) = parts.toList.map (·.1) := by simp [Function.comp_def]
    obtain ⟨rr, r1, r2⟩ := fill_bld r.mem (ps := parts.toList.map fun x => (x.1, a.eval x.2)) (cells := zs.toArray) (by rw [hps]; exact hvs) hfl hs' (by simpa using plainL_ok hz) (by rw [hps1]; exact hb)
    have hrun := run_build (P := P) w T (parts.map fun (i, x) => (i, a.eval x)) rr (by
      rw [bldT_spec hT, Array.toList_map]
      exact r1)
    refine ⟨.agg rr, by simp only [execOp, Sem.run_bind, hrun, Result.andThen_ok]; rfl, rr.toList, by simp, r2⟩
/-- A new array with no element. -/
theorem x_bslice0 {α : Type} {e : Enc α} {f : α → List Cell} [hc : CellsOf e f] {T E n b : Nat} (k : Nat) (hN : Nat.blt d N = true) (hT : arrT P T = some (E, n, b)) (hk : lk s.l k = none) (hi : noId k s.ids = true) :
    Stp P N ⟨some d, .buildSlice T 0 #[], ty, pos, after, gd⟩ s ⟨(d, .one (.own k)) :: s.t, (k, some (.arr (α := α) E e [] true)) :: s.l⟩ ⟨[], [], [(d, .one (.own k))], [(k, some (.arr (α := α) E e [] true))], [k]⟩ := by
  refine ⟨fun K g s' a w hp r => ?_, ⟨by simp, by simp, fun j hj => by simp at hj; subst hj; exact ⟨hk, noId_of hi⟩⟩, rfl⟩
  obtain ⟨p1, p2, p3⟩ := hp
  obtain ⟨n1, n2⟩ := p3 k (by simp)
  obtain ⟨hu, hn0, ti, z, hti, hz, hzs, htis, htib⟩ := arrT_spec hT
  have hrun : (execOp a.eval ⟨some d, .buildSlice T 0 #[], ty, pos, after, gd⟩).run P w = .ok (.value (.slice (some ⟨w.heap.size, 0, none⟩) 0 0)) (w.alloc (.cells #[] E)) := by
    simp only [execOp, Instr.buildSlice, Sem.run_bind, run_underlying hu, sizeOf, typeInfo, Result.andThen_ok, Sem.run_pure]
    simp [Instr.fill, newRow, hti, show Array.range 0 = #[] from rfl]
  obtain ⟨g', q1, q2, q3, q4, q5, q6, q7⟩ := arr_new (w' := w.alloc (.cells #[] E)) r.mem n1 (fun h => n2 (List.mem_append_right _ h)) (js := []) (fz := []) (fun _ h => h) (fun j hj => by cases hj) (T := E) (e := e) (xs := ([] : List α)) (d := true) (blk := w.heap.size) (v := .slice (some ⟨w.heap.size, 0, none⟩) 0 0) (fp := [])
    rfl rfl rfl (by simp) (fun b hb _ => Below.heap_alloc w _ b hb)
    (ArrR.lay (cells := []) ⟨by simp, .inr ⟨w.heap.size, 0, #[], rfl, Nat.zero_le _, heap_alloc_new w _, Nat.le_refl _, by unfold maxLen; omega, by simp, by simp⟩⟩ (by rfl) (fun b hb => by cases hb) (fun b hb => by
      simp [Value.ownBlock] at hb
      subst hb
      refine ⟨rfl, fun hI => ?_⟩
      rcases hI with hI | ⟨j, hj, _⟩
      · have := r.mem.ilt _ hI; omega
      · cases hj))
    (fun _ => ⟨by simp, .inl (Nat.le_refl _)⟩) (fun _ => ⟨List.nodup_nil, fun b hb => by cases hb⟩)
  unfold Oper.wp
  rw [hrun, Oper.upon_value]
  refine ⟨g', r.next (blt_lt hN) q5 q6 (by simp) (fun j hj => q7 j fun e => n2 (e ▸ hj)) (fun β U e2 ys dd hc => ?_) q3, q4 K⟩
  exact q2.symm
end ops

/-! ### nil ars an array of one's own -/
section adopt
variable {P : Program} {N : Nat} {K : List Nat} {Kn : St → Prop} {Q : Exit → St → Prop} {s : St}
theorem nil_new {g : Gh} {l : Locs} {w : World} (m : MemR g l w) {k : Nat} (hk : lk l k = none) (hki : k ∉ l.ids) (α : Type) (T : TypeId) (e : Enc α) :
    ∃ g', g'.hd k = .slice none 0 0 ∧ MemR g' ((k, some (.arr (α := α) T e [] true)) :: l) w ∧ (∀ K, Step K g l w g' ((k, some (.arr (α := α) T e [] true)) :: l) w) ∧ (∀ b, g.I b → g'.I b) ∧ ∀ j, j ≠ k → okK g l g' ((k, some (.arr (α := α) T e [] true)) :: l) j := by
  obtain ⟨g', q1, q2, q3, q4, q5, q6, q7⟩ := arr_new (w' := w) m hk hki (js := []) (fz := []) (fun _ h => h) (fun j hj => by cases hj) (T := T) (e := e) (xs := ([] : List α)) (d := true) (blk := 0) (v := .slice none 0 0) (fp := [])
    rfl rfl rfl (Nat.le_refl _) (fun b hb _ => rfl) (.inl ⟨rfl, setAt_self, fun _ => setAt_self⟩) (fun h => absurd rfl h) (fun _ => ⟨List.nodup_nil, fun b hb => by cases hb⟩)
  exact ⟨g', q2, q3, q4, q6, q7⟩
/-- .. a slot that holds nil. -/
theorem AW_adoptT {α : Type} {T : TypeId} {e : Enc α} {c : Code} (k t : Nat) (ht : lk s.t t = some (.one (.c (.slice none 0 0)))) (hk : lk s.l k = none) (hi : noId k s.ids = true)
    (h : AW P N K c Kn Q ⟨(t, .one (.own k)) :: s.t, (k, some (.arr (α := α) T e [] true)) :: s.l⟩) : AW P N K c Kn Q s := fun g a w r => by
  have hki := noId_of hi
  obtain ⟨g', q1, q2, q3, q4, q5⟩ := nil_new r.mem hk (fun h => hki (List.mem_append_right _ h)) α T e
  have r1 := r.next0 (g' := g') (l' := (k, some (.arr (α := α) T e [] true)) :: s.l) (w' := w) (fun _ _ => rfl) q4 (Nat.le_refl _) (fun j hj => q5 j fun e => hki (e ▸ hj)) q2
  have hv : VR g s.l w (a.tmps.getD t undef) (.one (.c (.slice none 0 0))) := r.tmp t _ ht
  have r2 : Rep N g' ⟨(t, .one (.own k)) :: s.t, (k, some (.arr (α := α) T e [] true)) :: s.l⟩ a w := ⟨r1.size, r1.defers, fun j x hj => by
    by_cases hjt : t = j
    · subst hjt
      rw [lk_cons_self] at hj; cases hj
      exact fun β U e2 ys dd hh => by rw [q1]; exact hv.1
    · rw [lk_cons_ne hjt] at hj
      exact r1.tmp j x hj, r1.mem⟩
  exact Go.wp_mono (h g' a w r2) fun e a1 w1 h1 => h1.trans r.mem q2 (q3 K)
end adopt

/-! ### Results in variables -/
section results
variable {P : Program} {f : FuncId} {fn : Func} {c : Code} {N : Nat} {args : List AVal} {L L' : Locs}
end results
end Go.Proofs.Ytfdpigafekohgaa

/- More operations of the abstract walk: numbers of other kinds, shifts. -/
namespace Go.Proofs.Ytfdpigafekohgaa
open Go.RowKit
set_option linter.unusedVariables false
section ops
variable {P : Program} {N : Nat} {s : St} {d : Nat} {ty : TypeId} {pos : String} {after : Array Edge} {gd : Option (Nat × Bool)}

def intT (P : Program) (A B : TypeId) : Option IntKind :=
  match P.underlying A, P.underlying B with
  | some _, some (.int k) => some k
  | _, _ => none
theorem run_conv {A B : TypeId} {k k' : IntKind} {n : Int} (h : intT P A B = some k') (w : World) : (convert A B (.int k n)).run P w = .ok (.int k' (k'.wrap n)) w := by
  unfold intT at h
  split at h
  · rename_i a k0 h1 h2
    cases h
    simp only [convert, Sem.run_bind, run_underlying h1, run_underlying h2, Result.andThen_ok]
    cases a <;> rfl
  · cases h
theorem x_conv {A B : TypeId} {x : Operand} {k k' : IntKind} {n r : Int} (hN : Nat.blt d N = true) (h : evo s.t x = some (.one (.c (.int k n)))) (hk : intT P A B = some k') (hr : k'.wrap n = r) :
    Stp P N ⟨some d, .convert A B x, ty, pos, after, gd⟩ s ⟨(d, .one (.c (.int k' r))) :: s.t, s.l⟩ ⟨rdo x (.one (.c (.int k n))), [], [(d, .one (.c (.int k' r)))], [], []⟩ :=
  Stp.pure rfl hN (rdo_of h) (by simp) fun g s' a w ht hl' rp => by
    obtain ⟨e1, _⟩ : a.eval x = .int k n ∧ wfV (.int k n) := eval_ok rp (evs_of h) ht
    refine ⟨.int k' (k'.wrap n), by simp only [execOp, e1, Sem.run_bind, run_conv hk, Result.andThen_ok, Sem.run_pure], ?_, ?_⟩
    · rw [hr]
    · rw [← hr]; exact wf_wrap k' _
end ops
end Go.Proofs.Ytfdpigafekohgaa

/- The abstract walk: calls that lend and leave; rules with the element's size found by the kernel. -/
namespace Go.Proofs.Ytfdpigafekohgaa
open Go.RowKit
set_option linter.unusedVariables false

def arrOk (P : Program) (T E n : Nat) : Bool := match arrT P T with
  | some (E', n', b) => Nat.beq E' E && Nat.beq n' n && Nat.ble b 100000
  | none => false
theorem arrOk_spec {P : Program} {T E n : Nat} (h : arrOk P T E n = true) : ∃ b, arrT P T = some (E, n, b) ∧ Nat.ble b 100000 = true := by
  unfold arrOk at h
  split at h
  · rename_i E' n' b hT
    simp only [Bool.and_eq_true] at h
    obtain ⟨⟨h1, h2⟩, h3⟩ := h
    have h1 := Nat.eq_of_beq_eq_true h1
    have h2 := Nat.eq_of_beq_eq_true h2
    subst h1; subst h2
    exact ⟨b, hT, h3⟩
  · cases h
section ops
variable {P : Program} {N : Nat} {s : St} {d : Nat} {ty : TypeId} {pos : String} {after : Array Edge} {gd : Option (Nat × Bool)}
theorem y_append {α : Type} {e : Enc α} {f : α → List Cell} [hc : CellsOf e f] {T E : Nat} {x y : Operand} {xs ys : List α} {d1 d2 : Bool} {k j : Nat} (k' : Nat) (hN : Nat.blt d N = true)
    (h : evo s.t x = some (.one (.own k))) (h2 : evo s.t y = some (.one (.own j))) (hl : lkl s.l k = some (.arr E e xs d1)) (hl2 : lkl s.l j = some (.arr E e ys d2)) (hkj : Nat.beq k j = false)
    (hk : lk s.l k' = none) (hi : noId k' s.ids = true) (hT : arrOk P T E e.size = true) (hbnd : xs.length + ys.length ≤ 1000000000) :
    Stp P N ⟨some d, .call { callee := .builtin .append, args := #[x, y], argTypes := #[T, T] }, ty, pos, after, gd⟩ s ⟨(d, .one (.own k')) :: s.t, (k', some (.arr E e (xs ++ ys) (d1 && d2))) :: (gones [k, j] ++ s.l)⟩
      ⟨rdo x (.one (.own k)) ++ rdo y (.one (.own j)), [(k, .arr E e xs d1), (j, .arr E e ys d2)], [(d, .one (.own k'))], (k', some (.arr E e (xs ++ ys) (d1 && d2))) :: gones [k, j], [k']⟩ := by
  obtain ⟨b, h3, h4⟩ := arrOk_spec hT
  exact x_append k' hN h h2 hl hl2 hkj h3 rfl hk hi hbnd h4
theorem y_append_sl {α : Type} {e : Enc α} {f : α → List Cell} [hc : CellsOf e f] {T E : Nat} {x y : Operand} {xs ys : List α} {d1 : Bool} {k : Nat} (k' : Nat) (d2 : Bool) (hd2 : d2 = false ∨ ∀ w cs y b, e.rep w cs y b → b = []) (hN : Nat.blt d N = true)
    (h : evo s.t x = some (.one (.own k))) (h2 : evo s.t y = some (.one (.sl e ys))) (hl : lkl s.l k = some (.arr E e xs d1)) (hk : lk s.l k' = none) (hi : noId k' s.ids = true) (hT : arrOk P T E e.size = true) (hbnd : xs.length + ys.length ≤ 1000000000) :
    Stp P N ⟨some d, .call { callee := .builtin .append, args := #[x, y], argTypes := #[T, T] }, ty, pos, after, gd⟩ s ⟨(d, .one (.own k')) :: s.t, (k', some (.arr E e (xs ++ ys) (d1 && d2))) :: (gones [k] ++ s.l)⟩
      ⟨rdo x (.one (.own k)) ++ rdo y (.one (.sl e ys)), [(k, .arr E e xs d1)], [(d, .one (.own k'))], (k', some (.arr E e (xs ++ ys) (d1 && d2))) :: gones [k], [k']⟩ := by
  obtain ⟨b, h3, h4⟩ := arrOk_spec hT
  exact x_append_sl k' d2 hd2 hN h h2 hl h3 rfl hk hi hbnd h4
theorem y_bslice0 {α : Type} {e : Enc α} {f : α → List Cell} [hc : CellsOf e f] {T E : Nat} (k : Nat) (hN : Nat.blt d N = true) (hk : lk s.l k = none) (hi : noId k s.ids = true) (hT : arrOk P T E e.size = true) :
    Stp P N ⟨some d, .buildSlice T 0 #[], ty, pos, after, gd⟩ s ⟨(d, .one (.own k)) :: s.t, (k, some (.arr (α := α) E e [] true)) :: s.l⟩ ⟨[], [], [(d, .one (.own k))], [(k, some (.arr (α := α) E e [] true))], [k]⟩ := by
  obtain ⟨b, h3, h4⟩ := arrOk_spec hT
  exact x_bslice0 (f := f) k hN h3 hk hi
theorem y_bslice {α : Type} {e : Enc α} {f : α → List Cell} [hc : CellsOf e f] {T E len : Nat} (ops : List Operand) {parts : Array (Nat × Operand)} {Xs : List AVal} (xs : List α) {ds : List Cell} {js : List Nat} {dp : Bool} (k : Nat) (hN : Nat.blt d N = true)
    (hparts : parts = ((ops.zipIdx 0).map fun x => (x.2, x.1)).toArray) (hev : evl s.t ops = some Xs) (hfl : flats Xs = true) (hsol : (Xs.flatMap AVal.cells).all (solid s.l) = true)
    (hlen : ops.length = len) (hsz : Xs.all (fun X => Nat.beq X.cells.length e.size) = true)
    (hmv : mvC s.l (Xs.flatMap AVal.cells) = some (ds, js, dp)) (hfit : FitL ds (xs.flatMap f)) (hnd : noDup js = true) (hxs : xs.length = len) (hpos : Nat.blt 0 len = true) (hsmall : Nat.ble (len * e.size) 16777216 = true)
    (hk : lk s.l k = none) (hi : noId k s.ids = true) (hT : arrOk P T E e.size = true) :
    Stp P N ⟨some d, .buildSlice T len parts, ty, pos, after, gd⟩ s ⟨(d, .one (.own k)) :: s.t, (k, some (.arr E e xs dp)) :: (gones js ++ s.l)⟩ ⟨rdl s.t ops, rlC s.l (Xs.flatMap AVal.cells), [(d, .one (.own k))], (k, some (.arr E e xs dp)) :: gones js, [k]⟩ := by
  obtain ⟨b, h3, h4⟩ := arrOk_spec hT
  exact x_bslice ops xs k hN hparts hev hfl hsol h3 hlen hsz rfl hmv hfit hnd hxs hpos hsmall hk hi
/-! calls -/
def newOk (s : St) (ks : List Nat) : Bool := ks.all fun k => (match lk s.l k with | none => true | some _ => false) && noId k s.ids
theorem newOk_of {s : St} {ks : List Nat} (h : newOk s ks = true) : ∀ k ∈ ks, lk s.l k = none ∧ k ∉ s.ids := fun k hk => by
  have h1 := List.all_eq_true.1 h k hk
  simp only [Bool.and_eq_true] at h1
  refine ⟨?_, noId_of h1.2⟩
  have h2 := h1.1
  split at h2
  · assumption
  · cases h2
/-- A call that lends the blocks L and leaves the blocks L'. -/
theorem x_call {fo : Operand} {f : FuncId} {ks : List Nat} {ars : Array Operand} {ats : Array TypeId} {xs ys : List AVal} {L L' : Locs} {res : AVal} (hN : Nat.blt d N = true) (hev : evo s.t fo = some (.one (.clo f ks)))
    (hxs : evl s.t ars.toList = some xs) (hac : AC P f ys L res L') (hfl : flats xs = true) (hle : AllV (xs ++ caps ks) ys) (hks : ∀ k ∈ ks, ∃ cs, (k, some (Blk.box cs)) ∈ L) (hLs : okL L = true) (hsc : closedIn (keys L') L'.ids = true) (hsr : closedIn (keys L') res.ids = true)
    (hsub : sub s.l L) (hnew : newOk s (newOf L L') = true) :
    Stp P N ⟨some d, .call { callee := .value fo, args := ars, argTypes := ats }, ty, pos, after, gd⟩ s ⟨(d, res) :: s.t, L' ++ (goneL L ++ s.l)⟩ ⟨rdo fo (.one (.clo f ks)) ++ rdl s.t ars.toList, rlOf L, [(d, res)], L' ++ goneL L, newOf L L'⟩ :=
  ⟨OpOK.call rfl rfl (blt_lt hN) hev hxs hfl hac hle hks hLs hsc hsr, ⟨fun p hp => by
      rcases List.mem_append.1 hp with hp | hp
      · exact rdo_of hev p hp
      · exact (evl_ok (N := N) hxs).1 p hp, sub_rlOf hsub, newOk_of hnew⟩, by simp [Cert.upd, List.append_assoc]⟩
/-- .. that lends nothing and leaves one array. -/
theorem x_call1 {fo : Operand} {f : FuncId} {ars : Array Operand} {ats : Array TypeId} {xs : List AVal} {k : Nat} {b : Option Blk} {res : AVal} (hN : Nat.blt d N = true) (hev : evo s.t fo = some (.one (.clo f [])))
    (hxs : evl s.t ars.toList = some xs) (hac : AC P f xs [] res [(k, b)]) (hfl : flats xs = true) (hsc : closedIn [k] (Locs.ids [(k, b)]) = true) (hsr : closedIn [k] res.ids = true) (hnew : newOk s [k] = true) :
    Stp P N ⟨some d, .call { callee := .value fo, args := ars, argTypes := ats }, ty, pos, after, gd⟩ s ⟨(d, res) :: s.t, (k, b) :: s.l⟩ ⟨rdo fo (.one (.clo f [])) ++ rdl s.t ars.toList, [], [(d, res)], [(k, b)], [k]⟩ :=
  x_call (L := []) (L' := [(k, b)]) hN hev hxs hac hfl (by rw [show caps [] = [] from rfl, List.append_nil]; exact AllV.rf) (fun k hk => by cases hk) rfl hsc hsr trivial hnew
end ops
theorem BLe.arr {α : Type} {T : TypeId} {e : Enc α} {xs ys : List α} {d : Bool} (h : xs = ys) : BLe (.arr T e xs d) (.arr T e ys d) := by subst h; exact BLe.rf
/-- The array that is left, under another number. -/
theorem AC.at {P : Program} {f : FuncId} {args : List AVal} {res : AVal} {b : Blk} (h : AC P f args [] (res.ren fun _ => 0) [(0, some (b.ren fun _ => 0))]) (k : Nat) : AC P f args [] res [(k, some b)] :=
  ⟨h.fn, fun g w cargs m ha => (h.run g w cargs m ha).mono (by
    rintro e w' ⟨v, g1, rfl, m1, hv, hs⟩
    have hL : LeL (fun _ => 0) [(0, some (b.ren fun _ => 0))] [(k, some b)] := ⟨⟨_, rfl, BLe.rf⟩, trivial⟩
    have hi : injL (fun _ => 0) (keys [(k, some b)]) = true := by simp [injL, keys]
    exact ⟨v, g1.ren fun _ => 0, rfl, m1.unren hL hi, VR.unren hL hv, hs.trans m m1 (Step.unren hL trivial)⟩)⟩
/-- The arrays that are left, under other numbers. -/
theorem AC.renum {P : Program} {f : FuncId} {args : List AVal} {res : AVal} {L0 L : Locs} {r : Nat → Nat} (h : AC P f args [] (res.ren r) L0) (hL : LeL r L0 L) (hi : injL r (keys L) = true) : AC P f args [] res L :=
  ⟨h.fn, fun g w cargs m ha => (h.run g w cargs m ha).mono (by
    rintro e w' ⟨v, g1, rfl, m1, hv, hs⟩
    exact ⟨v, g1.ren r, rfl, m1.unren hL hi, VR.unren hL hv, hs.trans m m1 (Step.unren hL trivial)⟩)⟩
end Go.Proofs.Ytfdpigafekohgaa

/- The abstract walk: own arrays are read by a callee; own arrays are given up to be read alone. -/
namespace Go.Proofs.Ytfdpigafekohgaa
open Go.RowKit
set_option linter.unusedVariables false

/-- A part of a slice. -/
theorem SliceRep.part {α : Type} {e : Enc α} {w : World} {a : Option Addr} {n cap : Nat} {xs : List α} {bs : List Nat} (h : SliceRep e w a n cap xs bs) {lo hi : Nat} (h1 : lo ≤ hi) (h2 : hi ≤ xs.length) :
    ∃ bs', SliceRep e w (if cap = lo then a else a.map (·.add (lo * e.size))) (hi - lo) (cap - lo) ((xs.drop lo).take (hi - lo)) bs' ∧ ∀ b ∈ bs', b ∈ bs := by
  obtain ⟨rfl, g1, g2, g3, g4⟩ := h
  by_cases he : lo = hi
  · subst he
    refine ⟨[], ⟨by simp, by omega, by omega, fun hn => ?_, .inl ⟨by simp, rfl⟩⟩, fun b hb => by cases hb⟩
    split at hn
    · omega
    · cases a with
      | none => have := g3 rfl; omega
      | some a => cases hn
  · have hne : xs ≠ [] := by intro e; subst e; simp at h2; omega
    rcases g4 with ⟨rfl, _⟩ | ⟨g, off, bss, _, rfl, hg, rfl, hE⟩
    · exact absurd rfl hne
    · have hc : ¬ cap = lo := by omega
      refine ⟨g :: ((bss.drop lo).take (hi - lo)).flatten, ⟨by simp; omega, by omega, by omega, fun hn => ?_, .inr ⟨g, off + lo * e.size, (bss.drop lo).take (hi - lo), ?_, ?_, hg, rfl, ?_, ?_⟩⟩, fun b hb => ?_⟩
      · rw [if_neg hc] at hn; cases hn
      · intro e0; have := congrArg List.length e0; simp at this; omega
      · rw [if_neg hc]; simp [addr_add]
      · simp [hE.1]
      · intro i x b hx hb
        rw [List.getElem?_take] at hx hb
        split at hx
        · rename_i hi
          rw [if_pos hi] at hb
          rw [List.getElem?_drop] at hx hb
          obtain ⟨cs, q1, q2⟩ := hE.2 (lo + i) x b hx hb
          exact ⟨cs, q1, fun j u hu => by rw [show off + lo * e.size + i * e.size + j = off + (lo + i) * e.size + j by rw [Nat.add_mul]; omega]; exact q2 j u hu⟩
        · cases hx
      · rcases List.mem_cons.1 hb with rfl | hb
        · exact List.mem_cons_self ..
        · obtain ⟨l, hl, hbl⟩ := List.mem_flatten.1 hb
          exact List.mem_cons_of_mem _ (List.mem_flatten.2 ⟨l, List.mem_of_mem_drop (List.mem_of_mem_take hl), hbl⟩)
/-- What a callee may read of a cell. -/
def rdC (l : Locs) : Cell → Option Cell
  | .own k => match lkl l k with | some (.arr _ e xs _) => some (.sl e xs) | _ => none
  | .slo _ e xs => some (.sl e xs)
  | .epo _ e x o => some (.ep e x o)
  | .c v => some (.c v)
  | .sl e xs => some (.sl e xs)
  | .ep e x o => some (.ep e x o)
  | .sn e xs => some (.sl e xs)
  | .osl k lo n => match lkl l k with | some (.arr _ e xs _) => some (.sl e ((xs.drop lo).take n)) | _ => none
  | _ => none
def rdCs (l : Locs) : List Cell → Option (List Cell)
  | [] => some []
  | c :: cs => match rdC l c, rdCs l cs with | some d, some ds => some (d :: ds) | _, _ => none
def rdA (l : Locs) : AVal → Option AVal
  | .one x => match rdC l x with | some y => some (.one y) | none => none
  | .agg xs => match rdCs l xs with | some ys => some (.agg ys) | none => none
  | .tup _ => none
def rdAs (l : Locs) : List AVal → Option (List AVal)
  | [] => some []
  | x :: xs => match rdA l x, rdAs l xs with | some y, some ys => some (y :: ys) | _, _ => none
/-- Cells that speak of no memory that is only read. -/
def cleanC : Cell → Bool
  | .c _ => true
  | .own _ => true
  | .any => true
  | _ => false
def cleanV : AVal → Bool
  | .one x => cleanC x
  | .agg xs => xs.all cleanC
  | .tup xs => xs.all fun | .one x => cleanC x | .agg ys => ys.all cleanC | .tup _ => false
def cleanL : Locs → Bool
  | [] => true
  | (_, some (.arr _ _ _ d)) :: r => d && cleanL r
  | (_, some (.box _)) :: _ => false
  | (_, none) :: r => cleanL r
/-- The arrays that are read. -/
def liveR (g : Gh) (l : Locs) (b : Nat) : Prop := ∃ k blk, lkl l k = some blk ∧ liv g k blk ∧ b = g.ρ k

theorem rdC_ok {g : Gh} {l : Locs} {w : World} (m : MemR g l w) {v : Value} {x y : Cell} (h : CellR g l w v x) (hr : rdC l x = some y) : CellR { g with I := fun b => g.I b ∨ liveR g l b } [] w v y := by
  cases x with
  | c u => cases hr; exact h
  | sl e xs => cases hr; obtain ⟨a, n, cap, bs, h1, h2, h3⟩ := h; exact ⟨a, n, cap, bs, h1, h2, fun b hb => .inl (h3 b hb)⟩
  | own k =>
    simp only [rdC] at hr
    split at hr
    · rename_i T e xs d hk
      cases hr
      obtain ⟨a, n, cap, bs, h1, h2, h3, _⟩ := (m.arr k _ _ _ _ _ hk).slice
      exact ⟨a, n, cap, bs, (h _ _ _ _ _ hk).trans h1, h2, fun b hb => by
        rcases h3 b hb with h4 | ⟨h4, h5⟩
        · exact .inl h4
        · exact .inr ⟨k, _, hk, h4, h5⟩⟩
    · cases hr
  | ep e z off => cases hr; obtain ⟨gb, o, cs, b, h1, h2, h3, h4, h5⟩ := h; exact ⟨gb, o, cs, b, h1, .inl h2, h3, fun c hc => .inl (h4 c hc), h5⟩
  | slo B e xs => cases hr; obtain ⟨a, n, cap, bs, h1, h2, h3⟩ := h; exact ⟨a, n, cap, bs, h1, h2, fun b hb => .inl (h3 b hb).1⟩
  | epo B e z off => cases hr; obtain ⟨gb, o, cs, b, h1, h2, h3, h4, h5⟩ := h; exact ⟨gb, o, cs, b, h1, .inl h2.1, h3, fun c hc => .inl (h4 c hc).1, h5⟩
  | sn e xs => cases hr; obtain ⟨a, n, cap, bs, h1, h2, h3⟩ := h; exact ⟨_, n, cap, bs, h1, h2, fun b hb => .inl (h3 b hb)⟩
  | osl k lo n =>
    simp only [rdC] at hr
    split at hr
    · rename_i T e xs d hk
      cases hr
      obtain ⟨a, m0, cap0, bs, h1, h2, h3, _⟩ := (m.arr k _ _ _ _ _ hk).slice
      have conv : ∀ b, b ∈ bs → g.I b ∨ liveR g l b := fun b hb => by
        rcases h3 b hb with h4 | ⟨h4, h5⟩
        · exact .inl h4
        · exact .inr ⟨k, _, hk, h4, h5⟩
      rcases h _ _ _ _ _ hk with ⟨f1, f2, rfl, rfl⟩ | ⟨len, cap, off, f1, f2, f3, f4, f5⟩
      · exact ⟨none, 0, 0, [], f2, ⟨by simp, Nat.le_refl _, by unfold maxLen; omega, fun _ => rfl, .inl ⟨by simp, rfl⟩⟩, fun b hb => by cases hb⟩
      · rw [f1] at h1; cases h1
        have hlen := h2.1
        have hcm := h2.2.2.1
        obtain ⟨bs', p1, p2⟩ := h2.part (lo := lo) (hi := lo + n) (by omega) (by omega)
        rw [Nat.add_sub_cancel_left] at p1
        by_cases hc : lo < cap0
        · rw [if_neg (by omega)] at p1
          refine ⟨_, _, _, bs', ?_, p1, fun b hb => conv b (p2 b hb)⟩
          rw [f2, f5 hc]; simp [addr_add]
        · have hn : n = 0 := by omega
          subst hn
          exact ⟨_, _, _, [], f2, ⟨by simp, Nat.zero_le _, by omega, (fun h => by cases h), .inl ⟨by simp, rfl⟩⟩, fun b hb => by cases hb⟩
    · cases hr
  | _ => cases hr
theorem rdCs_ok {g : Gh} {l : Locs} {w : World} (m : MemR g l w) : ∀ {vs : List Value} {xs ys : List Cell}, All2 (CellR g l w) vs xs → rdCs l xs = some ys → All2 (CellR { g with I := fun b => g.I b ∨ liveR g l b } [] w) vs ys
  | [], [], ys, _, hr => by cases hr; trivial
  | v :: vs, x :: xs, ys, h, hr => by
    simp only [rdCs] at hr
    split at hr
    · rename_i d ds h1 h2; cases hr; exact ⟨rdC_ok m h.1 h1, rdCs_ok m h.2 h2⟩
    · cases hr
theorem rdA_ok {g : Gh} {l : Locs} {w : World} (m : MemR g l w) {v : Value} {x y : AVal} (h : VR1 g l w v x) (hr : rdA l x = some y) : VR1 { g with I := fun b => g.I b ∨ liveR g l b } [] w v y := by
  cases x with
  | one x =>
    simp only [rdA] at hr
    split at hr
    · rename_i d h1; cases hr; exact rdC_ok m h h1
    · cases hr
  | agg xs =>
    simp only [rdA] at hr
    split at hr
    · rename_i ds h1; cases hr
      obtain ⟨vs, h2, h3⟩ := h
      exact ⟨vs, h2, rdCs_ok m h3 h1⟩
    · cases hr
  | tup xs => cases hr
theorem rdAs_ok {g : Gh} {l : Locs} {w : World} (m : MemR g l w) : ∀ {vs : List Value} {xs ys : List AVal}, All2 (VR1 g l w) vs xs → rdAs l xs = some ys → All2 (VR1 { g with I := fun b => g.I b ∨ liveR g l b } [] w) vs ys
  | [], [], ys, _, hr => by cases hr; trivial
  | v :: vs, x :: xs, ys, h, hr => by
    simp only [rdAs] at hr
    split at hr
    · rename_i d ds h1 h2; cases hr; exact ⟨rdA_ok m h.1 h1, rdAs_ok m h.2 h2⟩
    · cases hr
theorem rdAs_flats {l : Locs} : ∀ {xs ys : List AVal}, rdAs l xs = some ys → flats xs = true
  | [], _, _ => rfl
  | x :: xs, ys, h => by
    simp only [rdAs] at h
    split at h
    · rename_i d ds h1 h2
      simp only [flats, Bool.and_eq_true]
      refine ⟨?_, rdAs_flats h2⟩
      cases x <;> first | rfl | cases h1
    · cases h
/-- The reading depends on the blocks that the cells speak of alone. -/
theorem rdC_of {l l' : Locs} {xs : List Cell} (h : ∀ p ∈ rlC l xs, lkl l' p.1 = some p.2) {x y : Cell} (hx : x ∈ xs) (hr : rdC l x = some y) : rdC l' x = some y := by
  cases x with
  | own k =>
    simp only [rdC] at hr ⊢
    split at hr
    · rename_i T e zs d hk; cases hr; rw [rlC_get h hx (by simp [Cell.ids]) hk]
    · cases hr
  | osl k lo n =>
    simp only [rdC] at hr ⊢
    split at hr
    · rename_i T e zs d hk; cases hr; rw [rlC_get h hx (by simp [Cell.ids]) hk]
    · cases hr
  | _ => first | exact hr | cases hr
theorem rdCs_of {l l' : Locs} {zs : List Cell} (h : ∀ p ∈ rlC l zs, lkl l' p.1 = some p.2) : ∀ {xs ys : List Cell}, (∀ x ∈ xs, x ∈ zs) → rdCs l xs = some ys → rdCs l' xs = some ys
  | [], ys, _, hr => hr
  | x :: xs, ys, hx, hr => by
    simp only [rdCs] at hr ⊢
    split at hr
    · rename_i d ds h1 h2
      cases hr
      rw [rdC_of h (hx x (List.mem_cons_self ..)) h1, rdCs_of h (fun y hy => hx y (List.mem_cons_of_mem _ hy)) h2]
    · cases hr
theorem rdA_of {l l' : Locs} {zs : List Cell} (h : ∀ p ∈ rlC l zs, lkl l' p.1 = some p.2) {x y : AVal} (hx : ∀ c ∈ x.cells, c ∈ zs) (hr : rdA l x = some y) : rdA l' x = some y := by
  cases x with
  | one x =>
    simp only [rdA] at hr ⊢
    split at hr
    · rename_i d h1; rw [rdC_of h (hx x (List.mem_singleton.2 rfl)) h1]; exact hr
    · cases hr
  | agg xs =>
    simp only [rdA] at hr ⊢
    split at hr
    · rename_i ds h1; rw [rdCs_of (xs := xs) h hx h1]; exact hr
    · cases hr
  | tup xs => cases hr
theorem rdAs_of {l l' : Locs} {zs : List Cell} (h : ∀ p ∈ rlC l zs, lkl l' p.1 = some p.2) : ∀ {xs ys : List AVal}, (∀ c ∈ xs.flatMap AVal.cells, c ∈ zs) → rdAs l xs = some ys → rdAs l' xs = some ys
  | [], ys, _, hr => hr
  | x :: xs, ys, hx, hr => by
    simp only [rdAs] at hr ⊢
    split at hr
    · rename_i d ds h1 h2
      cases hr
      rw [rdA_of h (fun c hc => hx c (List.mem_flatMap.2 ⟨x, List.mem_cons_self .., hc⟩)) h1, rdAs_of h (fun c hc => by
        obtain ⟨y, hy, hcy⟩ := List.mem_flatMap.1 hc
        exact hx c (List.mem_flatMap.2 ⟨y, List.mem_cons_of_mem _ hy, hcy⟩)) h2]
    · cases hr

theorem cleanC_re {g : Gh} {I : Nat → Prop} {l : Locs} {w : World} {v : Value} {x : Cell} (hc : cleanC x = true) (h : CellR g l w v x) : CellR { g with I := I } l w v x := by
  cases x <;> first | exact h | cases hc
theorem cleanCs_re {g : Gh} {I : Nat → Prop} {l : Locs} {w : World} : ∀ {vs : List Value} {xs : List Cell}, xs.all cleanC = true → All2 (CellR g l w) vs xs → All2 (CellR { g with I := I } l w) vs xs
  | [], [], _, _ => trivial
  | v :: vs, x :: xs, hc, h => by
    simp only [List.all_cons, Bool.and_eq_true] at hc
    exact ⟨cleanC_re hc.1 h.1, cleanCs_re hc.2 h.2⟩
theorem cleanV1_re {g : Gh} {I : Nat → Prop} {l : Locs} {w : World} {v : Value} {x : AVal} (hc : cleanV x = true) (h : VR1 g l w v x) : VR1 { g with I := I } l w v x := by
  cases x with
  | one x => exact cleanC_re hc h
  | agg xs => obtain ⟨vs, h1, h2⟩ := h; exact ⟨vs, h1, cleanCs_re hc h2⟩
  | tup xs => exact h
theorem cleanV_re {g : Gh} {I : Nat → Prop} {l : Locs} {w : World} {v : Value} {x : AVal} (hc : cleanV x = true) (h : VR g l w v x) : VR { g with I := I } l w v x := by
  cases x with
  | one x => exact cleanC_re hc h
  | agg xs => exact cleanV1_re (x := .agg xs) hc h
  | tup xs =>
    obtain ⟨vs, h1, h2⟩ := h
    refine ⟨vs, h1, ?_⟩
    clear h1
    simp only [cleanV, List.all_eq_true] at hc
    exact h2.mono fun a b hb hr => by
      have := hc b hb
      cases b with
      | one x => exact cleanC_re this hr
      | agg ys => obtain ⟨vs, h3, h4⟩ := hr; exact ⟨vs, h3, cleanCs_re this h4⟩
      | tup _ => exact hr
theorem cleanL_arr : ∀ {L : Locs} {k : Nat} {b : Blk}, cleanL L = true → lkl L k = some b → ∃ (α : Type) (T : TypeId) (e : Enc α) (xs : List α), b = .arr T e xs true
  | [], k, b, _, h => by simp [lkl, lk] at h
  | (j, none) :: r, k, b, hc, h => by
    by_cases e : j = k
    · subst e; rw [lkl_cons_self] at h; cases h
    · rw [lkl_cons_ne e] at h; exact cleanL_arr (L := r) hc h
  | (j, some (.arr T e xs d)) :: r, k, b, hc, h => by
    simp only [cleanL, Bool.and_eq_true] at hc
    by_cases ek : j = k
    · subst ek; rw [lkl_cons_self] at h; cases h; obtain ⟨rfl, _⟩ := hc; exact ⟨_, T, e, xs, rfl⟩
    · rw [lkl_cons_ne ek] at h; exact cleanL_arr (L := r) hc.2 h
  | (j, some (.box cs)) :: r, k, b, hc, h => by cases hc

theorem liveR_lt {g : Gh} {l : Locs} {w : World} (m : MemR g l w) {b : Nat} (h : liveR g l b) : b < w.heap.size ∧ ¬ g.I b := by
  obtain ⟨k, blk, h1, h2, rfl⟩ := h
  exact ⟨m.lt h1 h2, m.notI h1 h2⟩
/-- What a callee that was lent nothing but reading leaves. -/
theorem read_back {g g' : Gh} {l L' : Locs} {w w' : World} (m : MemR g l w) (m' : MemR g' L' w') (hs : Step (keys ([] : Locs)) { g with I := fun b => g.I b ∨ liveR g l b } [] w g' L' w') (hc : cleanL L' = true) :
    MemR { g' with I := fun b => g'.I b ∧ ¬ liveR g l b } L' w' ∧ Step (keys ([] : Locs)) g [] w { g' with I := fun b => g'.I b ∧ ¬ liveR g l b } L' w' := by
  have own : ∀ b, OwnB g' L' b → w.heap.size ≤ b := fun b hb => by
    rcases hs.own b hb with ⟨k, blk, hk, _⟩ | h
    · simp [lkl, lk] at hk
    · exact h
  have nl : ∀ b, w.heap.size ≤ b → ¬ liveR g l b := fun b hb hl => by have := (liveR_lt m hl).1; omega
  refine ⟨⟨fun b hb => m'.ilt b hb.1, fun k cs hk => ?_, fun k α T e xs d hk => ?_, m'.dis, fun k α T e xs hk => ?_, m'.fd⟩, ⟨hs.os, hs.tape, hs.output, hs.size, fun b hb _ => hs.keep b hb fun k blk hk => (by simp [lkl, lk] at hk), fun b hb => ⟨hs.imm b (.inl hb), fun hl => (liveR_lt m hl).2 hb⟩, fun b hb => ?_, fun b hb => .inr (own b ?_), fun k hk => by cases hk⟩⟩
  · obtain ⟨_, _, _, _, h⟩ := cleanL_arr hc hk; cases h
  · obtain ⟨_, _, _, _, h⟩ := cleanL_arr hc hk
    cases h
    rcases m'.arr k α T e xs true hk with h1 | ⟨cap, vs, bss, a1, a2, a3, a4, a5, a6, a7, a8, a9⟩
    · exact .inl h1
    · refine .inr ⟨cap, vs, bss, a1, a2, a3, a4, a5, a6, fun b hb => ⟨a7 b hb, nl b (own b ⟨k, _, hk, .inr ⟨α, T, e, xs, rfl, by rw [a9 rfl]; exact hb⟩⟩)⟩, fun h => a8 h.1, a9⟩
  · obtain ⟨h1, h2⟩ := m'.fr k α T e xs hk
    exact ⟨h1, fun b hb => ⟨⟨(h2 b hb).1, nl b (own b ⟨k, _, hk, .inr ⟨α, T, e, xs, rfl, hb⟩⟩)⟩, (h2 b hb).2⟩⟩
  · rcases hs.imm' b hb.1 with (h | h) | h | h
    · exact .inl h
    · exact absurd h hb.2
    · exact .inr (.inl h)
    · obtain ⟨k, blk, hk, _⟩ := h; simp [lkl, lk] at hk
  · obtain ⟨k, blk, hk, h⟩ := hb
    exact ⟨k, blk, hk, h⟩
section ops
variable {P : Program} {N : Nat} {s : St} {d : Nat} {ty : TypeId} {pos : String} {after : Array Edge} {gd : Option (Nat × Bool)}
/-- A call that reads own arrays and leaves new ones. -/
theorem x_callR {fo : Operand} {f : FuncId} {ars : Array Operand} {ats : Array TypeId} {xs ys zs : List AVal} {L' : Locs} {res : AVal} (hN : Nat.blt d N = true) (hev : evo s.t fo = some (.one (.clo f [])))
    (hxs : evl s.t ars.toList = some xs) (hac : AC P f zs [] res L') (hrd : rdAs s.l xs = some ys) (hle : AllV ys zs) (hcr : cleanV res = true) (hcl : cleanL L' = true) (hsc : closedIn (keys L') L'.ids = true) (hsr : closedIn (keys L') res.ids = true) (hnew : newOk s (keys L') = true) :
    Stp P N ⟨some d, .call { callee := .value fo, args := ars, argTypes := ats }, ty, pos, after, gd⟩ s ⟨(d, res) :: s.t, L' ++ s.l⟩ ⟨rdo fo (.one (.clo f [])) ++ rdl s.t ars.toList, rlC s.l (xs.flatMap AVal.cells), [(d, res)], L', keys L'⟩ := by
  have nwe : newOf [] L' = keys L' := by simp [newOf, keys]
  refine ⟨fun K g s' a w hp R => ?_, ⟨fun p hp => by
      rcases List.mem_append.1 hp with hp | hp
      · exact rdo_of hev p hp
      · exact (evl_ok (N := N) hxs).1 p hp, rlC_self, newOk_of hnew⟩, rfl⟩
  obtain ⟨p1, p2, p3⟩ := hp
  have q1 : ∀ p ∈ rdo fo (.one (.clo f [])), lk s'.t p.1 = some p.2 := fun p hm => p1 p (List.mem_append_left _ hm)
  have q2 : ∀ p ∈ rdl s.t ars.toList, lk s'.t p.1 = some p.2 := fun p hm => p1 p (List.mem_append_right _ hm)
  have hfv : VR g s'.l w (a.eval fo) (.one (.clo f [])) := eval_ok R (evs_of hev) q1
  have hfe : a.eval fo = .func (.func f) #[] #[] := hfv (fun k hk => by cases hk)
  have hargs : All2 (VR1 { g with I := fun b => g.I b ∨ liveR g s'.l b } [] w) ((ars.map a.eval) ++ #[]).toList zs := by
    refine hle.all2 ?_
    rw [Array.append_empty, Array.toList_map]
    exact rdAs_ok R.mem (((evl_ok hxs).2 R q2).vr1 (rdAs_flats hrd)) (rdAs_of p2 (fun c hc => hc) hrd)
  have mc : MemR { g with I := fun b => g.I b ∨ liveR g s'.l b } [] w :=
    ⟨fun b hb => hb.elim (R.mem.ilt b) fun h => (liveR_lt R.mem h).1, fun k cs hk => (by simp [lkl, lk] at hk), fun k α T e xs d hk => (by simp [lkl, lk] at hk), fun j k b b' _ hj => (by simp [lkl, lk] at hj), fun k α T e xs hk => (by simp [lkl, lk] at hk), fun j k α β T U e f xs ys _ hj => (by simp [lkl, lk] at hj)⟩
  unfold Oper.wp
  rw [run_enter rfl hac.fn hfe, Oper.upon_enter]
  refine (hac.run _ w _ mc hargs).mono ?_
  rintro e w' ⟨v, g', rfl, m', hv, hs⟩
  obtain ⟨m2, s2⟩ := read_back R.mem m' hs hcl
  have hnw : ∀ k ∈ newOf [] L', lk s'.l k = none ∧ k ∉ s'.l.ids := fun k hk => by
    rw [nwe] at hk
    exact ⟨(p3 k hk).1, fun h => (p3 k hk).2 (List.mem_append_right _ h)⟩
  obtain ⟨c1, c2, c3, c4, c5⟩ := call_mem (L := []) R.mem trivial m2 s2 hsc rfl hnw K
  have hmm : ∀ b, g.I b → (g.mix { g' with I := fun b => g'.I b ∧ ¬ liveR g s'.l b } (keys L' ++ keys ([] : Locs))).I b := fun b hb => s2.imm b hb
  show ∃ g2, Rep N g2 ⟨[(d, res)] ++ s'.t, L' ++ s'.l⟩ (a.put (some d) v) w' ∧ Step K g s'.l w g2 (L' ++ s'.l) w'
  exact ⟨_, R.next (blt_lt hN) c3 hmm s2.size (fun k hk => c4 k fun h => (p3 k (by rw [← nwe]; exact h)).2 hk) (VR.step (g := { g' with I := fun b => g'.I b ∧ ¬ liveR g s'.l b }) (l := L') (fun _ _ => rfl) (fun b hb => hb) (Nat.le_refl _) (fun k hk => c5 k (closedIn_get hsr hk)) (cleanV_re hcr hv)) c1, c2⟩
end ops
end Go.Proofs.Ytfdpigafekohgaa

/- Contracts of the functions over bytes and strings: letters, words, variables, keywords. -/
namespace Go.Proofs.Ytfdpigafekohgaa
open Go.RowKit

def letB (c : Int) : Bool := decide (97 ≤ c ∧ c ≤ 122)
def digB (c : Int) : Bool := decide (48 ≤ c ∧ c ≤ 57)
def wordC (c : Int) : Bool := letB c || digB c
def allB (p : Int → Bool) (s : ByteArray) : Bool := s.data.toList.all fun c => p c.toNat
theorem getElem_data (s : ByteArray) (i : Nat) (h : i < s.size) : s.data.toList[i]'(by simpa using h) = s[i] := by
  simp [ByteArray.getElem_eq_getElem_data]
def headB (p : Int → Bool) (s : ByteArray) : Bool := match s.data.toList with | [] => false | c :: _ => p c.toNat
def shortB (s : ByteArray) : Bool := decide (1 ≤ s.size) && decide (s.size ≤ 12)
def wordB (s : ByteArray) : Bool := allB wordC s && shortB s && headB letB s

end Go.Proofs.Ytfdpigafekohgaa

/- Plain facts on decimal texts: no program in sight. -/
namespace Go.Proofs.Ytfdpigafekohgaa
open Go.RowKit
set_option linter.unusedVariables false

def bytes (l : List UInt8) : ByteArray := ⟨l.toArray⟩
@[simp] theorem bytes_toList (l : List UInt8) : (bytes l).data.toList = l := rfl
def isDig (c : UInt8) : Bool := decide (48 ≤ c.toNat) && decide (c.toNat ≤ 57)
def digVal (l : List UInt8) : Nat := l.foldl (fun n c => 10 * n + (c.toNat - 48)) 0
theorem digVal_snoc (l : List UInt8) (c : UInt8) : digVal (l ++ [c]) = 10 * digVal l + (c.toNat - 48) := by simp [digVal]
theorem digVal_lt : ∀ (n : Nat) (l : List UInt8), l.length = n → l.all isDig = true → digVal l < 10 ^ n := by
  intro n
  induction n with
  | zero => intro l h _; have := List.eq_nil_of_length_eq_zero h; subst this; simp [digVal]
  | succ n ih =>
    intro l h hd
    have hne : l ≠ [] := by intro e; subst e; simp at h
    have hl := (List.dropLast_concat_getLast hne)
    rw [← hl] at hd ⊢
    rw [digVal_snoc]
    rw [List.all_append, Bool.and_eq_true] at hd
    have h1 := ih l.dropLast (by simp [h]) hd.1
    have h2 : isDig (l.getLast hne) = true := by simpa using hd.2
    simp only [isDig, Bool.and_eq_true, decide_eq_true_eq] at h2
    rw [Nat.pow_succ]
    omega
end Go.Proofs.Ytfdpigafekohgaa

/- Contracts of the functions over numbers and values. -/
namespace Go.Proofs.Ytfdpigafekohgaa
open Go.RowKit
set_option linter.unusedVariables false

def numB (n : Int) : Bool := decide (0 ≤ n ∧ n ≤ 281474976710655)
/-- The first k bytes are digits, and v is their number. -/
def Dig (s : ByteArray) (k v : Nat) : Prop := v = digVal (s.data.toList.take k) ∧ (s.data.toList.take k).all isDig = true
theorem take_succ (s : ByteArray) (k : Nat) (hk : k < s.size) : s.data.toList.take (k + 1) = s.data.toList.take k ++ [s[k]] := by
  rw [List.take_succ_eq_append_getElem (by simpa using hk), getElem_data s k hk]
theorem isDig_eq (c : UInt8) : isDig c = digB c.toNat := by
  simp only [isDig, digB, Bool.and_eq_decide]
  congr 1
  simp only [decide_eq_true_eq, eq_iff_iff]; omega
theorem Dig.succ {s : ByteArray} {k v : Nat} (h : Dig s k v) (hk : k < s.size) (hd : digB s[k].toNat = true) : Dig s (k + 1) (10 * v + (s[k].toNat - 48)) := by
  unfold Dig
  rw [take_succ s k hk, digVal_snoc, List.all_append, h.2, ← h.1]
  exact ⟨rfl, by simp [isDig_eq, hd]⟩
theorem Dig.lt {s : ByteArray} {k v : Nat} (h : Dig s k v) (hk : k ≤ 15) : v < 1000000000000000 := by
  have h1 := digVal_lt _ _ rfl h.2
  rw [← h.1] at h1
  have h2 : (s.data.toList.take k).length ≤ 15 := by rw [List.length_take]; omega
  have h3 : 10 ^ (s.data.toList.take k).length ≤ 10 ^ 15 := Nat.pow_le_pow_right (by omega) h2
  omega
end Go.Proofs.Ytfdpigafekohgaa

/- Contracts of the functions over values: ValueOk, ValueLess, ValueText, TextValue, and the laws' szValue, toValue, eqValue. -/
namespace Go.Proofs.Ytfdpigafekohgaa
open Go.RowKit
set_option linter.unusedVariables false

structure Val where
  n : Int
  s : ByteArray
def valOk (v : Val) : Bool := if v.s.toList.isEmpty then numB v.n else v.n == 0 && wordB v.s
theorem valOk_word {v : Val} (h : v.s.toList.isEmpty = false) : valOk v = (v.n == 0 && wordB v.s) := by rw [valOk, if_neg (by simp [h])]

/-! ### The order -/
def cmpVal (a b : Val) : Int :=
  if a.s.toList.isEmpty then (if b.s.toList.isEmpty then a.n - b.n else -1) else if b.s.toList.isEmpty then 1 else Lib.compareBytes a.s.data.toList b.s.data.toList
end Go.Proofs.Ytfdpigafekohgaa

/- Contracts of the functions over rows: RowOk and RowOrder. -/
namespace Go.Proofs.Ytfdpigafekohgaa
open Go.RowKit
set_option linter.unusedVariables false

/-- Nothing that lay in w has turned, and these cells hold these values. -/
def Kept (w : World) (L : List (Addr × Value)) (W : World) : Prop := Below w.heap.size w W ∧ ∀ p ∈ L, W.cell? p.1 = some p.2
theorem Kept.up {w W w' : World} {L : List (Addr × Value)} (hb : Below W.heap.size W w') (h : Kept w L W) : Kept w L w' :=
  ⟨below_up h.1 hb (Nat.le_refl _), fun p hp => (hb.cell (World.block_lt_of_cell? W p.1 (h.2 p hp))).trans (h.2 p hp)⟩
theorem Kept.alloc {w W : World} {L : List (Addr × Value)} (h : Kept w L W) (o : Obj) : Kept w L (W.alloc o) := h.up ((Below.refl _ _).alloc (Nat.le_refl _) o)
theorem Kept.cons {w W : World} {L : List (Addr × Value)} {a : Addr} {v : Value} (hc : W.cell? a = some v) (h : Kept w L W) : Kept w ((a, v) :: L) W :=
  ⟨h.1, fun p hp => by
    rcases List.mem_cons.1 hp with rfl | hp
    · exact hc
    · exact h.2 p hp⟩
theorem Kept.of {w W : World} {L L' : List (Addr × Value)} (h : Kept w L W) (hL : ∀ p ∈ L', p ∈ L) : Kept w L' W := ⟨h.1, fun p hp => h.2 p (hL p hp)⟩
theorem Kept.held {w W : World} {L : List (Addr × Value)} (h : Kept w L W) : Held w [] W := ⟨h.1, fun p hp => by cases hp⟩
theorem Kept.c1 {w W : World} {a0 : Addr} {v0 : Value} (h : Kept w [(a0, v0)] W) : Kept w [(a0, v0)] W ∧ W.cell? a0 = some v0 := ⟨h, h.2 (a0, v0) (by simp)⟩
theorem Kept.c2 {w W : World} {a0 a1 : Addr} {v0 v1 : Value} (h : Kept w [(a0, v0), (a1, v1)] W) : Kept w [(a0, v0), (a1, v1)] W ∧ W.cell? a0 = some v0 ∧ W.cell? a1 = some v1 := ⟨h, h.2 (a0, v0) (by simp), h.2 (a1, v1) (by simp)⟩
theorem Kept.c3 {w W : World} {a0 a1 a2 : Addr} {v0 v1 v2 : Value} (h : Kept w [(a0, v0), (a1, v1), (a2, v2)] W) : Kept w [(a0, v0), (a1, v1), (a2, v2)] W ∧ W.cell? a0 = some v0 ∧ W.cell? a1 = some v1 ∧ W.cell? a2 = some v2 := ⟨h, h.2 (a0, v0) (by simp), h.2 (a1, v1) (by simp), h.2 (a2, v2) (by simp)⟩
theorem Kept.c4 {w W : World} {a0 a1 a2 a3 : Addr} {v0 v1 v2 v3 : Value} (h : Kept w [(a0, v0), (a1, v1), (a2, v2), (a3, v3)] W) : Kept w [(a0, v0), (a1, v1), (a2, v2), (a3, v3)] W ∧ W.cell? a0 = some v0 ∧ W.cell? a1 = some v1 ∧ W.cell? a2 = some v2 ∧ W.cell? a3 = some v3 := ⟨h, h.2 (a0, v0) (by simp), h.2 (a1, v1) (by simp), h.2 (a2, v2) (by simp), h.2 (a3, v3) (by simp)⟩
theorem Kept.c5 {w W : World} {a0 a1 a2 a3 a4 : Addr} {v0 v1 v2 v3 v4 : Value} (h : Kept w [(a0, v0), (a1, v1), (a2, v2), (a3, v3), (a4, v4)] W) : Kept w [(a0, v0), (a1, v1), (a2, v2), (a3, v3), (a4, v4)] W ∧ W.cell? a0 = some v0 ∧ W.cell? a1 = some v1 ∧ W.cell? a2 = some v2 ∧ W.cell? a3 = some v3 ∧ W.cell? a4 = some v4 := ⟨h, h.2 (a0, v0) (by simp), h.2 (a1, v1) (by simp), h.2 (a2, v2) (by simp), h.2 (a3, v3) (by simp), h.2 (a4, v4) (by simp)⟩
/-- The place of the first element that meets p, or -1. -/
def firstIdx {α : Type} (p : α → Bool) (xs : List α) : Int := match xs.findIdx? p with | some i => i | none => -1
theorem firstIdx_none {α : Type} {p : α → Bool} {xs : List α} (h0 : ∀ j (h : j < xs.length), p xs[j] = false) : firstIdx p xs = -1 := by
  have : xs.findIdx? p = none := by
    rw [List.findIdx?_eq_none_iff]
    intro x hx
    obtain ⟨i, hi, rfl⟩ := List.getElem_of_mem hx
    exact h0 i hi
  simp [firstIdx, this]
/-- None of the first k elements meets p. -/
def NoneTo {α : Type} (p : α → Bool) (xs : List α) (k : Nat) : Prop := ∀ j (h : j < xs.length), j < k → p xs[j] = false
theorem NoneTo.zero {α : Type} {p : α → Bool} {xs : List α} : NoneTo p xs 0 := fun _ _ h => by omega
theorem NoneTo.succ {α : Type} {p : α → Bool} {xs : List α} {k : Nat} (h : NoneTo p xs k) (hk : k < xs.length) (hp : p xs[k] = false) : NoneTo p xs (k + 1) := fun j hj hjk => by
  rcases Nat.lt_or_ge j k with h1 | h1
  · exact h j hj h1
  · obtain rfl : j = k := by omega
    exact hp
theorem NoneTo.none {α : Type} {p : α → Bool} {xs : List α} (h : NoneTo p xs xs.length) : firstIdx p xs = -1 := firstIdx_none fun j hj => h j hj hj
theorem NoneTo.all {α : Type} {p : α → Bool} {xs : List α} (h : NoneTo p xs xs.length) : xs.any p = false := by
  rw [List.any_eq_false]
  intro x hx
  obtain ⟨i, hi, rfl⟩ := List.getElem_of_mem hx
  simp [h i hi hi]
def badVal (v : Val) : Bool := !valOk v
def rowOk (r : List Val) : Bool := decide (r.length ≤ 6) && !r.any badVal
end Go.Proofs.Ytfdpigafekohgaa

/- Words for the laws' own functions. -/
namespace Go.Proofs.Ytfdpigafekohgaa
open Go.RowKit

def AllTo {α : Type} (p : α → Prop) (xs : List α) (k : Nat) : Prop := ∀ j (h : j < xs.length), j < k → p xs[j]
theorem AllTo.zero {α : Type} {p : α → Prop} {xs : List α} : AllTo p xs 0 := fun _ _ h => absurd h (by omega)
theorem AllTo.succ {α : Type} {p : α → Prop} {xs : List α} {k : Nat} (h : AllTo p xs k) (hk : k < xs.length) (hp : p xs[k]) : AllTo p xs (k + 1) := fun j hj hjk => by
  rcases Nat.lt_or_ge j k with h1 | h1
  · exact h j hj h1
  · obtain rfl : j = k := by omega
    exact hp
theorem AllTo.done {α : Type} {p : α → Prop} {xs : List α} (h : AllTo p xs xs.length) : ∀ y ∈ xs, p y := fun y hy => by
  obtain ⟨i, hi, rfl⟩ := List.getElem_of_mem hy
  exact h i hi hi
/-- From block lo on the two worlds are the same. -/
def Same (lo : Nat) (W W' : World) : Prop := W'.heap.size = W.heap.size ∧ ∀ b, lo ≤ b → W'.heap[b]? = W.heap[b]?
theorem Same.refl (lo : Nat) (W : World) : Same lo W W := ⟨rfl, fun _ _ => rfl⟩
theorem Same.set {lo : Nat} {W W' : World} (h : Same lo W W') {g : Nat} (hg : g < lo) (o : Nat) (v : Value) : Same lo W (W'.setCell ⟨g, o, none⟩ v) :=
  ⟨by rw [← h.1]; simp [World.setCell], fun b hb => (Below.heap_setCell W' _ _ b (by simp; omega)).trans (h.2 b hb)⟩
theorem SliceRep.same {α : Type} {e : Enc α} {lo : Nat} {W W' : World} {a : Option Addr} {n cap : Nat} {xs : List α} {bs : List Nat} (hS : Same lo W W') (hlo : ∀ c ∈ bs, lo ≤ c) (h : SliceRep e W a n cap xs bs) : SliceRep e W' a n cap xs bs :=
  h.keep (fun b hb => hS.2 b (hlo b hb)) (Nat.le_of_eq hS.1.symm)
theorem Fresh.same {lo lo' : Nat} {W W' : World} {bs : List Nat} (hS : Same lo W W') (hlo : ∀ c ∈ bs, lo ≤ c) (h : Fresh lo' W bs) : Fresh lo' W' bs :=
  ⟨h.1, fun b hb => by
    obtain ⟨h1, c, t, h2⟩ := h.2 b hb
    exact ⟨h1, c, t, (hS.2 b (hlo b hb)).trans h2⟩⟩
theorem Box.set {W : World} {g : Nat} {cs : Array Value} (h : Box W g cs) (o : Nat) (v : Value) (ho : o < cs.size) : Box (W.setCell ⟨g, o, none⟩ v) g (cs.setIfInBounds o v) := by
  have hc := h.cell o
  refine ⟨fun o' => ?_, fun o' => ?_, by simpa [World.setCell] using h.lt⟩
  · by_cases he : o' = o
    · subst he
      rw [Array.getElem?_setIfInBounds_self_of_lt ho]
      have h1 : W.cell? ⟨g, o', none⟩ = some cs[o'] := by rw [hc]; simp [ho]
      first | exact World.cell?_setCell_same _ _ _ h1 | exact World.cell?_setCell_same h1
    · rw [Array.getElem?_setIfInBounds_ne (by omega), ← h.cell o']
      exact World.cell?_setCell_other W _ _ v (fun e => he (by injection e with _ e; exact e.symm))
  · rw [← h.free o']
    exact World.frozen?_setCells g [v] o W _
theorem Box.setOther {W : World} {g g' : Nat} {cs : Array Value} (h : Box W g cs) (hne : g ≠ g') (o : Nat) (v : Value) : Box (W.setCell ⟨g', o, none⟩ v) g cs := by
  have hb := Below.heap_setCell W ⟨g', o, none⟩ v g hne
  exact ⟨fun o' => (World.cell?_of_block (w := W) (a := ⟨g, o', none⟩) hb).trans (h.cell o'), fun o' => (World.frozen?_of_block (w := W) (a := ⟨g, o', none⟩) hb).trans (h.free o'), by simpa [World.setCell] using h.lt⟩
/-- The three boxes of a 'to': the argument, the result, the variable 'out'. -/
structure Three (w : World) (A Z C : Array Value) (W : World) : Prop where
  below : Below w.heap.size w W
  a : Box W w.heap.size A
  z : Box W (w.heap.size + 1) Z
  c : Box W (w.heap.size + 1 + 1) C
theorem Three.up {w W W' : World} {A Z C : Array Value} (hb : Below W.heap.size W W') (h : Three w A Z C W) : Three w A Z C W' :=
  ⟨below_up h.below hb (Nat.le_refl _), h.a.up hb, h.z.up hb, h.c.up hb⟩
theorem Three.set {w W : World} {A Z C C' : Array Value} (h : Three w A Z C W) (o : Nat) (v : Value) (ho : o < C.size) (hC : C.setIfInBounds o v = C') : Three w A Z C' (W.setCell ⟨w.heap.size + 1 + 1, o, none⟩ v) :=
  ⟨h.below.setCell (p := ⟨w.heap.size + 1 + 1, o, none⟩) (by simp; omega) v, h.a.setOther (by omega) o v, h.z.setOther (by omega) o v, hC ▸ h.c.set o v ho⟩
theorem Three.lt {w W : World} {A Z C : Array Value} (h : Three w A Z C W) : w.heap.size + 1 + 1 + 1 ≤ W.heap.size := h.c.lt
end Go.Proofs.Ytfdpigafekohgaa

/- The abstract walk: values and rows; contracts between the two ways of saying. -/
namespace Go.Proofs.Ytfdpigafekohgaa
open Go.RowKit
set_option linter.unusedVariables false

/-! Two values, compared. -/
def sameVal (x y : Val) : Bool := x.n == y.n && x.s == y.s
theorem sameVal_iff {x y : Val} : sameVal x y = true ↔ x = y := by
  obtain ⟨n, ⟨⟨s⟩⟩⟩ := x
  obtain ⟨m, ⟨⟨r⟩⟩⟩ := y
  simp [sameVal, beq_toListBytes, ByteArray.toList_eq]
instance : DecidableEq Val := fun x y => decidable_of_iff _ sameVal_iff
section
variable {N : Nat} {s : St} {d : Nat} {ty : TypeId} {pos : String} {after : Array Edge} {gd : Option (Nat × Bool)} {T' : TypeId} {x y : Operand} {a b : Val}
end
/-! Rows, compared. -/
def SameTo (xs ys : List Val) (k : Nat) : Prop := ∀ j (h : j < xs.length) (h' : j < ys.length), j < k → xs[j] = ys[j]
theorem SameTo.zero {xs ys : List Val} : SameTo xs ys 0 := fun _ _ _ h => absurd h (by omega)
theorem SameTo.succ {xs ys : List Val} {k : Nat} (h : SameTo xs ys k) (hk : k < xs.length) (hk' : k < ys.length) (hs : sameVal xs[k] ys[k] = true) : SameTo xs ys (k + 1) := fun j hj hj' hjk => by
  rcases Nat.lt_or_ge j k with h1 | h1
  · exact h j hj hj' h1
  · obtain rfl : j = k := by omega
    exact sameVal_iff.1 hs
theorem SameTo.eq {xs ys : List Val} {k : Nat} (hl : xs.length = ys.length) (hk : xs.length ≤ k) (h : SameTo xs ys k) : xs = ys :=
  List.ext_getElem hl fun j h1 h2 => h j h1 h2 (by omega)
end Go.Proofs.Ytfdpigafekohgaa

/- Contracts of ValueText and TextValue, and of the laws' own functions over values. -/
namespace Go.Proofs.Ytfdpigafekohgaa
open Go.RowKit
set_option linter.unusedVariables false

/-! ### Texts -/
/-! ### The laws' own functions over values -/
end Go.Proofs.Ytfdpigafekohgaa

/- The laws' own functions: GenA (printed by gen.py) -/
namespace Go.Proofs.Ytfdpigafekohgaa
open Go.RowKit
set_option linter.unusedVariables false
set_option maxRecDepth 100000

end Go.Proofs.Ytfdpigafekohgaa

/- The laws' own functions: GenB (printed by gen.py) -/
namespace Go.Proofs.Ytfdpigafekohgaa
open Go.RowKit
set_option linter.unusedVariables false
set_option maxRecDepth 100000

structure Relt where
  arity : Int
  rows : List (List Val)
end Go.Proofs.Ytfdpigafekohgaa

/- The order of rows: byRow, RowOrder and the reference's l09Order. -/
namespace Go.Proofs.Ytfdpigafekohgaa
open Go.RowKit
set_option linter.unusedVariables false

def cmpRow : List Val → List Val → Int
  | [], [] => 0
  | [], _ :: _ => -1
  | _ :: _, [] => 1
  | x :: xs, y :: ys => if cmpVal x y = 0 then cmpRow xs ys else cmpVal x y
end Go.Proofs.Ytfdpigafekohgaa

/- byRow, RowOrder and the reference's l09Order. -/
namespace Go.Proofs.Ytfdpigafekohgaa
open Go.RowKit
set_option linter.unusedVariables false

end Go.Proofs.Ytfdpigafekohgaa

/- Right relations, in plain words. -/
namespace Go.Proofs.Ytfdpigafekohgaa
open Go.RowKit
set_option linter.unusedVariables false

def rowAt (rows : List (List Val)) (ar : Int) : (k : Nat) → k < rows.length → Bool
  | 0, hk => rowOk rows[0] && ((rows[0].length : Int) == ar)
  | j + 1, hk => rowOk rows[j + 1] && ((rows[j + 1].length : Int) == ar) && decide (cmpRow rows[j] rows[j + 1] < 0)
def GoodTo (rows : List (List Val)) (ar : Int) (k : Nat) : Prop := ∀ j (h : j < rows.length), j < k → rowAt rows ar j h = true
theorem GoodTo.zero {rows : List (List Val)} {ar : Int} : GoodTo rows ar 0 := fun _ _ h => absurd h (by omega)
theorem GoodTo.succ {rows : List (List Val)} {ar : Int} {k : Nat} (h : GoodTo rows ar k) (hk : k < rows.length) (hp : rowAt rows ar k hk = true) : GoodTo rows ar (k + 1) := fun j hj hjk => by
  rcases Nat.lt_or_ge j k with h1 | h1
  · exact h j hj h1
  · obtain rfl : j = k := by omega
    exact hp
def relRows (rows : List (List Val)) (ar : Int) : Bool := (List.range rows.length).all fun k => if h : k < rows.length then rowAt rows ar k h else true
theorem GoodTo.all {rows : List (List Val)} {ar : Int} (h : GoodTo rows ar rows.length) : relRows rows ar = true := by
  unfold relRows
  rw [List.all_eq_true]
  intro k hk
  have hk' : k < rows.length := by simpa using hk
  rw [dif_pos hk']
  exact h k hk' hk'
theorem GoodTo.row {rows : List (List Val)} {ar : Int} {k j : Nat} (h : GoodTo rows ar k) (hj : j < rows.length) (hjk : j < k) : rowOk rows[j] = true := by
  have := h j hj hjk
  cases j with
  | zero => simp only [rowAt, Bool.and_eq_true] at this; exact this.1
  | succ j => simp only [rowAt, Bool.and_eq_true] at this; exact this.1.1
end Go.Proofs.Ytfdpigafekohgaa

/- Contracts that were walked before, said for the abstract walk. -/
namespace Go.Proofs.Ytfdpigafekohgaa
open Go.RowKit
set_option linter.unusedVariables false
set_option maxRecDepth 100000

/-- What tidies the truth of a test. -/
theorem tdy : (∀ (p : Prop) [Decidable p], (decide p = true) = p) ∧ (∀ (p : Prop) [Decidable p], (decide p = false) = ¬ p) ∧ (∀ b : Bool, (¬ b = true) = (b = false)) ∧ (∀ b : Bool, (¬ b = false) = (b = true)) ∧ (∀ b : Bool, ((!b) = true) = (b = false)) ∧ (∀ b : Bool, ((!b) = false) = (b = true)) ∧
    (∀ {α : Type} [BEq α] [LawfulBEq α] (a b : α), ((a == b) = true) = (a = b)) ∧ (∀ {α : Type} [BEq α] [LawfulBEq α] (a b : α), ((a != b) = true) = (a ≠ b)) ∧ (∀ {α : Type} [BEq α] [LawfulBEq α] (a b : α), ((a == b) = false) = ¬ (a = b)) ∧ (∀ {α : Type} [BEq α] [LawfulBEq α] (a b : α), ((a != b) = false) = (a = b)) ∧
    (∀ a b : Int, (¬ a < b) = (b ≤ a)) ∧ (∀ a b : Int, (¬ a ≤ b) = (b < a)) ∧ (∀ a b : Int, (a ≥ b) = (b ≤ a)) ∧ (∀ a b : Int, (a > b) = (b < a)) ∧ (∀ a b : Nat, (a ≥ b) = (b ≤ a)) ∧ (∀ a b : Nat, (a > b) = (b < a)) :=
  ⟨fun p _ => by simp, fun p _ => by simp, fun b => by simp, fun b => by simp, fun b => by simp, fun b => by simp, fun a b => by simp, fun a b => by simp, fun a b => by simp, fun a b => by simp, fun a b => by simp, fun a b => by simp, fun a b => rfl, fun a b => rfl, fun a b => rfl, fun a b => rfl⟩
theorem Step.of_below {g : Gh} {w w' : World} (h : Below w.heap.size w w') : Step (keys ([] : Locs)) g [] w g [] w' :=
  ⟨h.os, h.tape, h.output, h.size, fun b hb _ => h.block b hb, fun _ h => h, fun _ h => .inl h, fun b ⟨k, blk, hk, _⟩ => (by simp [lkl, lk] at hk), fun k hk => (by cases hk)⟩
theorem MemR.of_below {g : Gh} {w w' : World} (m : MemR g [] w) (h : Below w.heap.size w w') : MemR g [] w' :=
  ⟨fun b hb => Nat.lt_of_lt_of_le (m.ilt b hb) h.size, fun k cs hk => (by simp [lkl, lk] at hk), fun k α T e xs d hk => (by simp [lkl, lk] at hk), fun j k b b' _ hj => (by simp [lkl, lk] at hj), fun k α T e xs hk => (by simp [lkl, lk] at hk), fun j k α β T U e f xs ys _ hj => (by simp [lkl, lk] at hj)⟩
theorem AC.pure {P : Program} {f : FuncId} {args : List AVal} {v : Value} (hc : Callable P f) (hw : wfV v) (h : ∀ (w : World) (g : Gh) (cargs : Array Value), All2 (VR1 g [] w) cargs.toList args → Calls P f cargs w fun e w' => e = .returned v ∧ Below w.heap.size w w') : AC P f args [] (.one (.c v)) [] :=
  ⟨hc, fun g w cargs m ha => (h w g cargs ha).mono fun e w' ⟨he, hb⟩ => ⟨v, g, he, m.of_below hb, ⟨rfl, hw⟩, Step.of_below hb⟩⟩
section
variable {g : Gh} {l : Locs} {w : World}
end

end Go.Proofs.Ytfdpigafekohgaa

/- Data that lead nowhere. -/
namespace Go.Proofs.Ytfdpigafekohgaa
open Go.RowKit
set_option linter.unusedVariables false
theorem intE_nofp {k : IntKind} : ∀ w cs (y : Int) b, (intE k).rep w cs y b → b = [] := fun w cs y b h => h.2.2
/-! truth values compared -/
section ops
variable {P : Program} {N : Nat} {s : St} {d : Nat} {ty : TypeId} {pos : String} {after : Array Edge} {gd : Option (Nat × Bool)}
theorem x_bool2 {op : BinOp} {T T' : TypeId} {x y : Operand} {m n : Bool} {v : Value} (hN : Nat.blt d N = true) (h : evo s.t x = some (.one (.c (.bool m)))) (h2 : evo s.t y = some (.one (.c (.bool n))))
    (hr : ∀ w, (binOp op T (.bool m) (.bool n)).run P w = .ok v w) (hw : wfV v) :
    Stp P N ⟨some d, .binOp op T x y T', ty, pos, after, gd⟩ s ⟨(d, .one (.c v)) :: s.t, s.l⟩ ⟨rdo x (.one (.c (.bool m))) ++ rdo y (.one (.c (.bool n))), [], [(d, .one (.c v))], [], []⟩ :=
  Stp.pure rfl hN (two_rd h h2) (by simp) fun g s' a w ht hl' r => by
    obtain ⟨⟨e1, w1⟩, e2, w2⟩ := two_c r (evs_of h) (evs_of h2) ht
    refine ⟨v, run_binOp rfl ?_, rfl, hw⟩
    rw [e1, e2]
    have hg : (eqGuard op T x y (.bool m) (.bool n)).run P w = .ok () w := by cases op <;> rfl
    simp only [Sem.run_bind, hg, Result.andThen_ok, hr]
theorem x_bneq {T T' : TypeId} {x y : Operand} {m n : Bool} (hN : Nat.blt d N = true) (h : evo s.t x = some (.one (.c (.bool m)))) (h2 : evo s.t y = some (.one (.c (.bool n)))) (hT : P.underlying T = some .bool) :
    Stp P N ⟨some d, .binOp .neq T x y T', ty, pos, after, gd⟩ s ⟨(d, .one (.c (.bool (!(m == n))))) :: s.t, s.l⟩ ⟨rdo x (.one (.c (.bool m))) ++ rdo y (.one (.c (.bool n))), [], [(d, .one (.c (.bool (!(m == n)))))], [], []⟩ :=
  x_bool2 hN h h2 (fun w => run_neq_bool w T m n hT) trivial
end ops
/-! rows picked out -/
end Go.Proofs.Ytfdpigafekohgaa

/- The abstract walk: a slice is nil or it is not. -/
namespace Go.Proofs.Ytfdpigafekohgaa
open Go.RowKit
set_option linter.unusedVariables false
section rules
variable {P : Program} {N : Nat} {K : List Nat} {Kn : St → Prop} {Q : Exit → St → Prop} {s : St}
theorem AW_split {α : Type} {e : Enc α} {xs : List α} {c : Code} (t : Nat) (h : lk s.t t = some (.one (.sl e xs))) (h1 : xs = [] → AW P N K c Kn Q ⟨(t, .one (.c (.slice none 0 0))) :: s.t, s.l⟩)
    (h2 : AW P N K c Kn Q ⟨(t, .one (.sn e xs)) :: s.t, s.l⟩) : AW P N K c Kn Q s := fun g a w r => by
  obtain ⟨ad, n, cap, bs, hv, hS, hI⟩ : CellR g s.l w (a.tmps.getD t undef) (.sl e xs) := r.tmp t _ h
  have up : ∀ {x : AVal}, VR g s.l w (a.tmps.getD t undef) x → Rep N g ⟨(t, x) :: s.t, s.l⟩ a w := fun {x} hx => ⟨r.size, r.defers, fun j y hj => by
    by_cases e : t = j
    · subst e; rw [lk_cons_self] at hj; cases hj; exact hx
    · rw [lk_cons_ne e] at hj; exact r.tmp j y hj, r.mem⟩
  cases ad with
  | none =>
    have hc := hS.2.2.2.1 rfl
    have hn : n = 0 := by have := hS.2.1; omega
    have hx : xs = [] := List.eq_nil_of_length_eq_zero (by have := hS.1; omega)
    subst hc; subst hn
    exact h1 hx g a w (up (x := .one (.c (.slice none 0 0))) ⟨hv, trivial⟩)
  | some ad => exact h2 g a w (up (x := .one (.sn e xs)) ⟨ad, n, cap, bs, hv, hS, hI⟩)
end rules
section names
variable {P : Program} {N : Nat} {dr : Bool} {ops r : List Oper} {opsA : Array Oper} {Kn : St → Prop} {s : St} {acc : List Cert}
end names
section ops
variable {P : Program} {N : Nat} {s : St} {d : Nat} {ty : TypeId} {pos : String} {after : Array Edge} {gd : Option (Nat × Bool)}
theorem guard_slice {op : BinOp} {T : TypeId} {x y : Operand} {a b : Option Addr} {n c m k : Nat} {w : World} : (eqGuard op T x y (.slice a n c) (.slice b m k)).run P w = .ok () w := by cases op <;> rfl
theorem x_nilnil {T T' E n : Nat} {x y : Operand} (hN : Nat.blt d N = true) (h : evo s.t x = some (.one (.c (.slice none 0 0)))) (h2 : evo s.t y = some (.one (.c (.slice none 0 0)))) (hT : sliceT P T = some (E, n)) :
    Stp P N ⟨some d, .binOp .eql T x y T', ty, pos, after, gd⟩ s ⟨(d, .one (.c (.bool true))) :: s.t, s.l⟩ ⟨rdo x (.one (.c (.slice none 0 0))) ++ rdo y (.one (.c (.slice none 0 0))), [], [(d, .one (.c (.bool true)))], [], []⟩ :=
  Stp.pure rfl hN (two_rd h h2) (by simp) fun g s' a w ht hl' r => by
    obtain ⟨⟨e1, _⟩, e2, _⟩ := two_c r (evs_of h) (evs_of h2) ht
    refine ⟨.bool true, run_binOp rfl ?_, rfl, trivial⟩
    rw [e1, e2]
    simp only [Sem.run_bind, guard_slice, Result.andThen_ok, Lib.run_eql_slice_nil w T E none 0 0 0 0 (sliceT_spec hT).1]; rfl
theorem x_snnil {α : Type} {e : Enc α} {xs : List α} {T T' E n : Nat} {x y : Operand} (hN : Nat.blt d N = true) (h : evo s.t x = some (.one (.sn e xs))) (h2 : evo s.t y = some (.one (.c (.slice none 0 0)))) (hT : sliceT P T = some (E, n)) :
    Stp P N ⟨some d, .binOp .eql T x y T', ty, pos, after, gd⟩ s ⟨(d, .one (.c (.bool false))) :: s.t, s.l⟩ ⟨rdo x (.one (.sn e xs)) ++ rdo y (.one (.c (.slice none 0 0))), [], [(d, .one (.c (.bool false)))], [], []⟩ :=
  Stp.pure rfl hN (two_rd h h2) (by simp) fun g s' a w ht hl' r => by
    obtain ⟨ad, m, cap, bs, e1, _⟩ : CellR g s'.l w (a.eval x) (.sn e xs) := eval_ok r (evs_of h) fun p hp => ht p (List.mem_append_left _ hp)
    obtain ⟨e2, _⟩ : a.eval y = .slice none 0 0 ∧ wfV _ := eval_ok r (evs_of h2) fun p hp => ht p (List.mem_append_right _ hp)
    refine ⟨.bool false, run_binOp rfl ?_, rfl, trivial⟩
    rw [e1, e2]
    simp only [Sem.run_bind, guard_slice, Result.andThen_ok, Lib.run_eql_slice_nil w T E (some ad) m cap 0 0 (sliceT_spec hT).1]; rfl
theorem x_move_sn {α : Type} {e : Enc α} {xs : List α} {x : Operand} (hN : Nat.blt d N = true) (h : evo s.t x = some (.one (.sn e xs))) : Stp P N ⟨some d, .move x, ty, pos, after, gd⟩ s ⟨(d, .one (.sl e xs)) :: s.t, s.l⟩ ⟨rdo x (.one (.sn e xs)), [], [(d, .one (.sl e xs))], [], []⟩ :=
  Stp.pure rfl hN (rdo_of h) (by simp) fun g s' a w ht hl' r => by
    obtain ⟨ad, m, cap, bs, e1, e2, e3⟩ : CellR g s'.l w (a.eval x) (.sn e xs) := eval_ok r (evs_of h) ht
    exact ⟨a.eval x, by simp [execOp], some ad, m, cap, bs, e1, e2, e3⟩
end ops
/-- What lies in memory is not too long. -/
theorem AW_slmax {P : Program} {N : Nat} {K : List Nat} {c : Code} {Kn : St → Prop} {Q : Exit → St → Prop} {s : St} {α : Type} {e : Enc α} {xs : List α} (t : Nat) (h : lk s.t t = some (.one (.sl e xs))) (hA : xs.length ≤ 9223372036854775807 → AW P N K c Kn Q s) : AW P N K c Kn Q s := fun g a w r => by
  obtain ⟨a0, n, cap, bs, _, h1, _⟩ : ∃ a0 n cap bs, a.tmps.getD t undef = .slice a0 n cap ∧ SliceRep e w a0 n cap xs bs ∧ ∀ b ∈ bs, g.I b := r.tmp t _ h
  exact hA h1.max g a w r
theorem ba_beq_self (a : ByteArray) : (a == a) = true := by rw [beq_toListBytes]; simp
end Go.Proofs.Ytfdpigafekohgaa

/- From a contract of the abstract walk back to a call in a world. -/
namespace Go.Proofs.Ytfdpigafekohgaa
open Go.RowKit
set_option linter.unusedVariables false

/-- All memory that stands is read alone. -/
def allI (w : World) : Gh := ⟨fun b => b < w.heap.size, id, fun _ => .slice none 0 0, fun _ => []⟩
theorem allI_mem (w : World) : MemR (allI w) [] w :=
  ⟨fun b hb => hb, fun k cs hk => (by simp [lkl, lk] at hk), fun k α T e xs d hk => (by simp [lkl, lk] at hk), fun j k b b' _ hj => (by simp [lkl, lk] at hj), fun k α T e xs hk => (by simp [lkl, lk] at hk), fun j k α β T U e f xs ys _ hj => (by simp [lkl, lk] at hj)⟩
theorem Step.below {g g' : Gh} {w w' : World} (h : Step (keys ([] : Locs)) g [] w g' [] w') : Below w.heap.size w w' :=
  ⟨h.os, h.tape, h.output, h.size, fun b hb => h.keep b hb fun k blk hk => (by simp [lkl, lk] at hk)⟩
theorem arg_sl {α : Type} {e : Enc α} {w : World} {a : Option Addr} {n cap : Nat} {xs : List α} {b : List Nat} (h : SliceRep e w a n cap xs b) (hb : ∀ i ∈ b, i < w.heap.size) : VR1 (allI w) [] w (.slice a n cap) (.one (.sl e xs)) := ⟨a, n, cap, b, rfl, h, hb⟩
end Go.Proofs.Ytfdpigafekohgaa

/- From contracts that leave own memory to calls in a world: what is handed back is fresh. -/
namespace Go.Proofs.Ytfdpigafekohgaa
open Go.RowKit
set_option linter.unusedVariables false

end Go.Proofs.Ytfdpigafekohgaa

/- The abstract walk: make. -/
namespace Go.Proofs.Ytfdpigafekohgaa
open Go.RowKit
set_option linter.unusedVariables false

theorem plainL_fr {w : World} : ∀ {vs : List Value} {cs : List Cell}, plainL vs = some cs → FR w vs cs []
  | [], cs, h => by cases h; rfl
  | v :: vs, cs, h => by
    simp only [plainL] at h
    split at h
    · rename_i hb hc
      cases h
      exact ⟨[], [], rfl, ⟨rfl, wf_of_plain hb, rfl⟩, plainL_fr hc⟩
    · cases h
section ops
variable {P : Program} {N : Nat} {s : St} {d : Nat} {ty : TypeId} {pos : String} {after : Array Edge} {gd : Option (Nat × Bool)}
/-- A new array of n zero elements. -/
theorem x_make {α : Type} {e : Enc α} {f : α → List Cell} [hc : CellsOf e f] {T E n : Nat} {x y : Operand} (x0 : α) {z : Value} {cs : List Cell} (k : Nat) (hN : Nat.blt d N = true)
    (h : evo s.t x = some (.one (.c (.int .i64 (n : Int))))) (h2 : evo s.t y = some (.one (.c (.int .i64 (n : Int))))) (hz : zeroT P E = some z) (hzc : plainL z.cells.toList = some cs) (hfit : FitL cs (f x0))
    (hk : lk s.l k = none) (hi : noId k s.ids = true) (hT : arrOk P T E e.size = true) (hn : n ≤ 1000000000) :
    Stp P N ⟨some d, .makeSlice T x y, ty, pos, after, gd⟩ s ⟨(d, .one (.own k)) :: s.t, (k, some (.arr E e (List.replicate n x0) true)) :: s.l⟩ ⟨rdo x (.one (.c (.int .i64 (n : Int)))) ++ rdo y (.one (.c (.int .i64 (n : Int)))), [], [(d, .one (.own k))], [(k, some (.arr E e (List.replicate n x0) true))], [k]⟩ := by
  refine ⟨fun K g s' a w hp r => ?_, ⟨two_rd h h2, by simp, fun j hj => by simp at hj; subst hj; exact ⟨hk, noId_of hi⟩⟩, rfl⟩
  obtain ⟨p1, p2, p3⟩ := hp
  obtain ⟨⟨e1, _⟩, e2, _⟩ := two_c r (evs_of h) (evs_of h2) p1
  obtain ⟨n1, n2⟩ := p3 k (by simp)
  obtain ⟨b, hTT, hb⟩ := arrOk_spec hT
  obtain ⟨hu, hn0, ti, z', hti, hz', hzs, htis, htib⟩ := arrT_spec hTT
  have hzz : z' = z := by
    unfold zeroT at hz
    rw [hti] at hz
    simp only at hz
    rw [hz'] at hz
    exact Option.some.inj hz
  subst hzz
  have hb' := Nat.le_of_ble_eq_true hb
  have hrun := run_make_rowN (P := P) T E ti z' hu hti hz' .i64 .i64 n n (Nat.le_refl _) (by
    rw [htib]
    have : b * n ≤ 100000 * 1000000000 := Nat.mul_le_mul hb' hn
    omega) (by omega) w
  rw [htis] at hrun
  have hrep : ∀ w, e.rep w z'.cells.toList x0 [] := fun w => hc.iff.2 ((plainL_fr hzc).fit hfit)
  obtain ⟨bs, hS, hF⟩ := SliceRep.made hrep hn0 n (by unfold maxLen; omega) w E
  have hmax : n ≤ maxLen := by unfold maxLen; omega
  have hsz : (madeCells z'.cells (n * e.size)).size = n * e.size := by simp [madeCells]
  obtain ⟨g', q1, q2, q3, q4, q5, q6, q7⟩ := arr_new (w' := w.alloc (.cells (madeCells z'.cells (n * e.size)) E)) r.mem n1 (fun h => n2 (List.mem_append_right _ h)) (js := []) (fz := []) (fun _ h => h) (fun j hj => by cases hj) (T := E) (e := e) (xs := List.replicate n x0) (d := true) (blk := w.heap.size) (v := .slice (some ⟨w.heap.size, 0, none⟩) n n) (fp := [])
    rfl rfl rfl (by simp) (fun b hb _ => Below.heap_alloc w _ b hb)
    (.inr ⟨n, madeCells z'.cells (n * e.size), List.replicate n [], by
      show setAt g.hd k _ k = .slice (some ⟨setAt g.ρ k _ k, 0, none⟩) _ _
      rw [setAt_self, setAt_self]; simp, by simp, hmax, by
      show (w.alloc _).heap[setAt g.ρ k _ k]? = _
      rw [setAt_self]; exact heap_alloc_new w _, hsz, by
      show Elems e _ (setAt g.ρ k _ k) 0 _ _
      rw [setAt_self]
      refine ⟨by simp, fun i x b hx hb => ?_⟩
      have hi : i < n := by have := (List.getElem?_eq_some_iff.1 hx).1; simpa using this
      have hne : List.replicate n x0 ≠ [] := by intro e; have := congrArg List.length e; simp at this; omega
      obtain ⟨g2, off, bss, ha, _, _, hE⟩ := hS.parts hne
      simp only [Option.some.injEq, Addr.mk.injEq, and_true] at ha
      obtain ⟨rfl, rfl⟩ := ha
      rw [List.getElem?_replicate, if_pos hi] at hx hb
      cases hx; cases hb
      have hzl : z'.cells.size = e.size := by simpa using e.len (hrep w)
      refine ⟨z'.cells.toList, hrep _, fun j u hu => ?_⟩
      have hj : j < z'.cells.size := by have := (List.getElem?_eq_some_iff.1 hu).1; simpa using this
      rw [cell_of_heap (heap_alloc_new w _), Nat.zero_add]
      have := madeCells_get (z := z'.cells) hi hj
      rw [hzl] at this
      rw [this]
      simpa [List.getElem?_eq_getElem (l := z'.cells.toList) (by simpa using hj)] using hu,
      (fun b hb => by simp at hb), (fun hI => by
        have h3 : (g.I (setAt g.ρ k w.heap.size k) ∨ liveA g [] (setAt g.ρ k w.heap.size k)) := hI
        rw [setAt_self] at h3
        rcases h3 with hI | ⟨j, hj, _⟩
        · have := r.mem.ilt _ hI; omega
        · cases hj), fun _ => by show setAt g.F k [] k = _; rw [setAt_self]; simp⟩)
    (fun _ => ⟨by simp, .inl (Nat.le_refl _)⟩) (fun _ => ⟨List.nodup_nil, fun b hb => by cases hb⟩)
  unfold Oper.wp
  have hrun' : (execOp a.eval ⟨some d, .makeSlice T x y, ty, pos, after, gd⟩).run P w = .ok (.value (.slice (some ⟨w.heap.size, 0, none⟩) n n)) (w.alloc (.cells (madeCells z'.cells (n * e.size)) E)) := by
    simp only [execOp, e1, e2, Sem.run_bind, hrun, Result.andThen_ok]; rfl
  rw [hrun', Oper.upon_value]
  refine ⟨g', r.next (blt_lt hN) q5 q6 (by simp) (fun j hj => q7 j fun e => n2 (e ▸ hj)) (fun β U e2 ys dd hc => ?_) q3, q4 K⟩
  exact q2.symm
end ops
end Go.Proofs.Ytfdpigafekohgaa

/- The abstract walk: an element of an own array written anew. -/
namespace Go.Proofs.Ytfdpigafekohgaa
open Go.RowKit
set_option linter.unusedVariables false
section
variable {g : Gh} {l : Locs} {w w' : World}
/-- The array k holds other elements; the arrays js are gone into it. -/
theorem arr_put (m : MemR g l w) {k : Nat} {α : Type} {T : TypeId} {e : Enc α} {xs0 xs : List α} {d0 d : Bool} (hk : lkl l k = some (.arr T e xs0 d0)) (hlv : g.hd k ≠ .slice none 0 0) {js : List Nat} (hkj : k ∉ js)
    (hjs : ∀ j ∈ js, ∃ (α : Type) (T : TypeId) (e : Enc α) (xs : List α) (d : Bool), lkl l j = some (.arr T e xs d)) {fp : List Nat}
    (hos : w'.os = w.os) (htp : w'.tape = w.tape) (hout : w'.output = w.output) (hs : w'.heap.size = w.heap.size) (hkeep : ∀ b, b ≠ g.ρ k → w'.heap[b]? = w.heap[b]?)
    (hA : ArrR ⟨fun b => g.I b ∨ liveA g js b, g.ρ, g.hd, setAt g.F k fp⟩ w' k T e xs d)
    (hfp : d = true → fp.Nodup ∧ ∀ b ∈ fp, (g.I b ∨ liveA g js b) ∧ (∃ c t, w'.heap[b]? = some (.cells c t (0, 0))) ∧ ((d0 = true ∧ b ∈ g.F k) ∨ ∃ j ∈ js, Via g l j b)) :
    ∃ g', g'.ρ k = g.ρ k ∧ g'.hd k = g.hd k ∧ MemR g' ((k, some (.arr T e xs d)) :: (gones js ++ l)) w' ∧ (∀ K, Step K g l w g' ((k, some (.arr T e xs d)) :: (gones js ++ l)) w') ∧
      (∀ b, g.I b → w'.heap[b]? = w.heap[b]?) ∧ (∀ b, g.I b → g'.I b) ∧ ∀ j, okK g l g' ((k, some (.arr T e xs d)) :: (gones js ++ l)) j := by
  let g' : Gh := ⟨fun b => g.I b ∨ liveA g js b, g.ρ, g.hd, setAt g.F k fp⟩
  have hnI := m.notI hk hlv
  have hi : ∀ b, g.I b → w'.heap[b]? = w.heap[b]? := fun b hb => hkeep b fun e => hnI (e ▸ hb)
  have hl' : ∀ j, j ≠ k → lkl ((k, some (.arr T e xs d)) :: (gones js ++ l)) j = if j ∈ js then none else lkl l j := fun j hj => by
    rw [lkl_cons_ne (Ne.symm hj), lkl_gones]
  have hu : ∀ j, j ≠ k → lkl ((k, some (.arr T e xs d)) :: (gones js ++ l)) j = none ∨ Untouched g l w g' ((k, some (.arr T e xs d)) :: (gones js ++ l)) w' j := fun j hj => by
    by_cases h : j ∈ js
    · left; rw [hl' j hj, if_pos h]
    · right
      refine ⟨by rw [hl' j hj, if_neg h], rfl, rfl, setAt_ne hj, fun b hb hlv' => ⟨hkeep _ (m.dis j k _ _ hj hb hk hlv' hlv), fun hI => ?_⟩⟩
      rcases hI with hI | ⟨i, hij, hil, e⟩
      · exact m.notI hb hlv' hI
      · obtain ⟨_, _, _, _, _, h1⟩ := hjs i hij
        exact m.dis j i _ _ (fun e => h (e ▸ hij)) hb h1 hlv' hil e
  have ok : ∀ j, okK g l g' ((k, some (.arr T e xs d)) :: (gones js ++ l)) j := fun j => by
    by_cases hj : j = k
    · subst hj
      refine ⟨fun cs hc => ?_, fun β U e2 ys dd hc => ?_⟩
      · rw [lkl_cons_self] at hc; cases hc
      · rw [lkl_cons_self] at hc; cases hc
        exact ⟨α, T, e, xs0, d0, hk, rfl, rfl, rfl⟩
    · rcases hu j hj with h | h
      · exact okK.gone h
      · exact h.ok
  have hlt : ∀ b, g'.I b → b < w'.heap.size := fun b hb => by
    rw [hs]
    rcases hb with hb | ⟨i, hij, hil, e⟩
    · exact m.ilt b hb
    · obtain ⟨_, _, _, _, _, h1⟩ := hjs i hij
      rw [e]; exact m.lt h1 hil
  refine ⟨g', rfl, rfl, m.set1 k hi (fun b hb => .inl hb) (Nat.le_of_eq hs.symm) hlt hu (.inl (ok k)) (fun cs hc => ?_) (fun β U e2 ys d2 hc => ?_) (fun j b b' hj h1 h2 h3 l1 l2 => m.dis j k _ _ hj h2 hk l1 hlv) (fun β U e2 ys hc => ?_) (fun j β γ U V e2 e3 ys zs hj h1 h2 h3 => ?_), fun K => ?_, hi, fun b hb => .inl hb, ok⟩
  · rw [lkl_cons_self] at hc; cases hc
  · rw [lkl_cons_self] at hc; cases hc; exact hA
  · rw [lkl_cons_self] at hc; cases hc
    rw [show g'.F k = fp from setAt_self]
    obtain ⟨n1, n2⟩ := hfp rfl
    exact ⟨n1, fun b hb => ⟨(n2 b hb).1, (n2 b hb).2.1⟩⟩
  · rw [lkl_cons_self] at h3; cases h3
    rw [show g'.F k = fp from setAt_self]
    intro b hb hb'
    rcases ((hfp rfl).2 b hb').2.2 with ⟨rfl, h5⟩ | ⟨i, hij, hvia⟩
    · exact m.fd j k _ _ _ _ _ _ _ _ hj h2 hk b hb h5
    · have : j = i := Via.disj m (b := b) ⟨β, U, e2, ys, h2, .inr hb⟩ hvia
      subst this
      rw [hl' j hj, if_pos hij] at h1; cases h1
  · refine ⟨hos, htp, hout, Nat.le_of_eq hs.symm, fun b hb hn => hkeep b (hn k _ hk hlv), fun b hb => .inl hb, fun b hb => ?_, own_set1 k hu (fun b hb hl => .inl (OwnB.of_live hk hlv)) (fun β U e2 ys hc b hb => ?_), fun j hj hn => ?_⟩
    · rcases hb with hb | ⟨i, hij, hil, e⟩
      · exact .inl hb
      · obtain ⟨_, _, _, _, _, h1⟩ := hjs i hij
        exact .inr (.inr (e ▸ OwnB.of_live h1 hil))
    · rw [lkl_cons_self] at hc; cases hc
      rw [show g'.F k = fp from setAt_self] at hb
      rcases ((hfp rfl).2 b hb).2.2 with ⟨rfl, h5⟩ | ⟨i, hij, hvia⟩
      · exact .inl ⟨k, _, hk, .inr ⟨_, _, _, _, rfl, h5⟩⟩
      · exact .inl hvia.own
    · refine ⟨?_, ok j, fun cs hc => ?_⟩
      · by_cases hjk : j = k
        · subst hjk; rw [lk_cons_self]; simp
        · rw [lk_cons_ne (Ne.symm hjk), lk_gones]
          split
          · simp
          · exact hn
      · have hjk : j ≠ k := fun e => by subst e; rw [hk] at hc; cases hc
        refine ⟨cs, ?_⟩
        rw [hl' j hjk, if_neg]
        · exact hc
        · intro hjj
          obtain ⟨_, _, _, _, _, h1⟩ := hjs j hjj
          rw [hc] at h1; cases h1
end
section ops
variable {P : Program} {N : Nat} {s : St} {ty : TypeId} {pos : String} {after : Array Edge} {gd : Option (Nat × Bool)}
/-- A whole element written. -/
theorem x_ostore {α : Type} {e : Enc α} {f : α → List Cell} [hc : CellsOf e f] {T E n i k : Nat} {x y : Operand} {X : AVal} {xs : List α} (x' : α) {ds : List Cell} {js : List Nat} {d1 d2 : Bool} (h : evo s.t x = some (.one (.optr k i 0))) (hl : lkl s.l k = some (.arr E e xs d1)) (h2 : evo s.t y = some X) (hf : X.flat = true)
    (hT : sizeT P T = some n) (hn : X.cells.length = n) (hes : e.size = n) (hsol : X.cells.all (solid s.l) = true) (hmv : mvC s.l X.cells = some (ds, js, d2)) (hfit : FitL ds (f x')) (hnd : noDup js = true) (hkj : noId k js = true) (hi : i < xs.length) :
    Stp P N ⟨none, .store T x y, ty, pos, after, gd⟩ s ⟨s.t, (k, some (.arr E e (xs.set i x') (d1 && d2))) :: (gones js ++ s.l)⟩ ⟨rdo x (.one (.optr k i 0)) ++ rdo y X, (k, .arr E e xs d1) :: rlC s.l X.cells, [], (k, some (.arr E e (xs.set i x') (d1 && d2))) :: gones js, []⟩ := by
  refine ⟨fun K g s' a w hpre r => ?_, ⟨two_rd h h2, fun p hp => by
    rcases List.mem_cons.1 hp with rfl | hp
    · exact hl
    · exact rlC_self p hp, by simp⟩, by simp [Cert.upd]⟩
  obtain ⟨p1, p2, _⟩ := hpre
  have hk : lkl s'.l k = some (.arr E e xs d1) := p2 (k, .arr E e xs d1) (List.mem_cons_self ..)
  have p2' : ∀ p ∈ rlC s.l X.cells, lkl s'.l p.1 = some p.2 := fun p hp => p2 p (List.mem_cons_of_mem _ hp)
  have ha : a.eval x = .pointer (some ⟨g.ρ k, i * e.size + 0, none⟩) := (eval_ok r (evs_of h) fun p hm => p1 p (List.mem_append_left _ hm) : CellR g s'.l w _ (.optr k i 0)) _ _ _ _ _ hk
  have hv := eval_ok r (evs_of h2) fun p hm => p1 p (List.mem_append_right _ hm)
  have hs' : X.cells.all (solid s'.l) = true := List.all_eq_true.2 fun z hz => solid_of p2' hz (List.all_eq_true.1 hsol z hz)
  have hall := vr1_cells hs' r.mem hv hf
  have hmv' := mvC_of hmv p2'
  have hjn := noDup_of hnd
  have hkj' := noId_of hkj
  have hgone : ∀ j ∈ js, ∃ (α : Type) (T : TypeId) (e : Enc α) (xs : List α) (d : Bool), lkl s'.l j = some (.arr T e xs d) := fun j hj => (mvC_gone hmv' j hj).1
  obtain ⟨b', f1, f2, f3⟩ := mvC_ok r.mem hall hmv' hjn
  have hrep := hc.iff.2 (f1.fit hfit)
  have hlen : (a.eval y).cells.size = n := by rw [← hn]; simpa using hall.len
  have hll : (a.eval y).cells.toList.length = e.size := e.len hrep
  rcases r.mem.arr k _ _ _ _ _ hk with ⟨rfl, _⟩ | ⟨cap, vs, bss, g1, g2, g3, g4, g5, g6, g7, g8, g9⟩
  · simp at hi
  have hlv : g.hd k ≠ .slice none 0 0 := by rw [g1]; intro e; cases e
  have hib : i < bss.length := by rw [g6.1]; exact hi
  have hfitc : i * e.size + (a.eval y).cells.toList.length ≤ vs.size := by
    rw [hll, g5]
    have : (i + 1) * e.size ≤ cap * e.size := Nat.mul_le_mul_right _ (by omega)
    rw [Nat.add_mul] at this; omega
  have one : ∀ v ∈ (a.eval y).cells.toList, v.oneCell' = true := FR.one f1
  have hst := run_storeCells_at P (g.ρ k) (i * e.size) E (a.eval y).cells.toList 0 vs w g4 (by simpa using hfitc) one
  generalize hnew : (vs.toList.take (i * e.size) ++ (a.eval y).cells.toList ++ vs.toList.drop (i * e.size + (a.eval y).cells.toList.length)).toArray = new at *
  have hng : ∀ q, new[q]? = if i * e.size ≤ q ∧ q < i * e.size + e.size then (a.eval y).cells.toList[q - i * e.size]? else vs[q]? := fun q => by
    rw [← hnew, List.getElem?_toArray]
    have hl0 : (vs.toList.take (i * e.size)).length = i * e.size := by simp; omega
    rcases Nat.lt_or_ge q (i * e.size) with hq | hq
    · rw [if_neg (by omega), List.append_assoc, List.getElem?_append_left (by omega), List.getElem?_take, if_pos hq]; simp
    · rw [List.append_assoc, List.getElem?_append_right (by omega), hl0]
      rcases Nat.lt_or_ge q (i * e.size + e.size) with hq2 | hq2
      · rw [if_pos ⟨hq, hq2⟩, List.getElem?_append_left (by omega)]
      · rw [if_neg (by omega), List.getElem?_append_right (by omega), List.getElem?_drop, hll, show i * e.size + e.size + (q - i * e.size - e.size) = q by omega]; simp
  have hns : new.size = vs.size := by rw [← hnew]; simp; omega
  have hwk : (w.setRow (g.ρ k) new).heap[g.ρ k]? = some (.cells new E (0, 0)) := setRow_heap w _ _ _ E _ g4
  have hwo : ∀ b, b ≠ g.ρ k → (w.setRow (g.ρ k) new).heap[b]? = w.heap[b]? := fun b hb => setRow_other w _ b _ hb
  have hsz : (w.setRow (g.ρ k) new).heap.size = w.heap.size := by simp
  have hbk : ∀ b ∈ b', b ≠ g.ρ k := fun b hb eq => by
    rcases f2 b hb with h3 | ⟨j, hj, h3, h4⟩
    · exact g8 (eq ▸ h3)
    · obtain ⟨_, _, _, _, _, h5⟩ := hgone j hj
      exact r.mem.dis j k _ _ (fun e => hkj' (e ▸ hj)) h5 hk h3 hlv (h4 ▸ eq)
  have hE := g6.upd (w' := w.setRow (g.ρ k) new) (k := i) (x' := x') (b' := b') (e.keep hrep (fun b hb => hwo b (hbk b hb)) (Nat.le_of_eq hsz.symm)) (fun j u hu => by
      have hj := (List.getElem?_eq_some_iff.1 hu).1
      rw [cell_of_heap hwk, hng, if_pos (by omega), show 0 + i * e.size + j - i * e.size = j by omega, hu]) (fun q hq => by
      rw [cell_of_heap hwk, hng, cell_of_heap g4, if_neg (by rw [Nat.add_mul] at hq; omega)]) (fun q b hq hb c hcb => hwo c fun eq => g8 (eq ▸ g7 c (List.mem_flatten.2 ⟨b, List.mem_of_getElem? hb, hcb⟩))) (Nat.le_of_eq hsz.symm)
  have hmem : ∀ b ∈ (bss.set i b').flatten, g.I b ∨ liveA g js b := fun b hb => by
    rcases flatten_set bss hib b hb with h3 | h3
    · exact f2 b h3
    · exact .inl (g7 b h3)
  obtain ⟨g', q1, q2, q3, q4, q5, q6, q7⟩ := arr_put (w' := w.setRow (g.ρ k) new) r.mem hk hlv hkj' hgone (xs := xs.set i x') (d := d1 && d2) (fp := (bss.set i b').flatten) rfl rfl rfl hsz hwo
    (.inr ⟨cap, new, bss.set i b', by rw [List.length_set]; exact g1, by rw [List.length_set]; exact g2, g3, hwk, hns.trans g5, hE, hmem, (fun hI => by
      rcases hI with hI | ⟨j, hj, h3, h4⟩
      · exact g8 hI
      · obtain ⟨_, _, _, _, _, h5⟩ := hgone j hj
        exact r.mem.dis j k _ _ (fun e => hkj' (e ▸ hj)) h5 hk h3 hlv h4.symm), fun _ => setAt_self⟩)
    (fun hd => by
      simp only [Bool.and_eq_true] at hd
      obtain ⟨rfl, rfl⟩ := hd
      obtain ⟨n1, n2⟩ := f3 rfl
      have hF := g9 rfl
      have hvk : ∀ b ∈ bss.flatten, Via g s'.l k b := fun b hb => ⟨α, E, e, xs, hk, .inr (by rw [hF]; exact hb)⟩
      refine ⟨nodup_set n1 bss i hib (by rw [← hF]; exact (r.mem.fr k _ _ _ _ hk).1) (fun c hcb => .inr fun h3 => by
        obtain ⟨j, hj, hvj⟩ := n2 c hcb
        exact hkj' ((hvk c h3).disj r.mem hvj ▸ hj)), fun b hb => ⟨hmem b hb, ?_, ?_⟩⟩
      · rcases flatten_set bss hib b hb with h3 | h3
        · obtain ⟨j, hj, hvj⟩ := n2 b h3
          obtain ⟨c, t, h4⟩ := hvj.cells r.mem
          exact ⟨c, t, by rw [hwo b (hbk b h3)]; exact h4⟩
        · obtain ⟨c, t, h4⟩ := (hvk b h3).cells r.mem
          exact ⟨c, t, by rw [hwo b fun eq => g8 (eq ▸ g7 b h3)]; exact h4⟩
      · rcases flatten_set bss hib b hb with h3 | h3
        · exact .inr (n2 b h3)
        · exact .inl ⟨rfl, by rw [hF]; exact h3⟩)
  unfold Oper.wp
  have hrun : (execOp a.eval ⟨none, .store T x y, ty, pos, after, gd⟩).run P w = .ok .skip (w.setRow (g.ρ k) new) := by
    unfold sizeT at hT
    split at hT
    · rename_i ti hti
      cases hT
      simp only [execOp, Instr.storeAt, ha, Instr.sureAddr, storeVar, sizeOf, typeInfo, Sem.run_bind, Sem.run_pure, program, Sem.run, hti, Result.andThen_ok, hlen, ne_eq, not_true_eq_false, if_false]
      simp only [Nat.add_zero] at hst ⊢
      rw [hst]; rfl
    · cases hT
  rw [hrun, Oper.upon_skip]
  exact ⟨g', r.next0 q5 q6 (Nat.le_of_eq hsz.symm) (fun j _ => q7 j) q3, q4 K⟩
end ops
/-! filled from the front -/
def filledTo {α : Type} (xs : List α) (x0 : α) (k : Nat) : List α := xs.take k ++ List.replicate (xs.length - k) x0
theorem filledTo_zero {α : Type} {xs : List α} {x0 : α} : List.replicate xs.length x0 = filledTo xs x0 0 := by simp [filledTo]
theorem filledTo_len {α : Type} {xs : List α} {x0 : α} {k : Nat} (hk : k ≤ xs.length) : (filledTo xs x0 k).length = xs.length := by simp [filledTo]; omega
theorem filledTo_succ {α : Type} {xs : List α} {x0 : α} {k : Nat} (hk : k < xs.length) : (filledTo xs x0 k).set k xs[k] = filledTo xs x0 (k + 1) := (Filled.succ (xs := xs) (x0 := x0) (ys := filledTo xs x0 k) rfl hk)
theorem filledTo_done {α : Type} {xs : List α} {x0 : α} {k : Nat} (hk : xs.length ≤ k) : filledTo xs x0 k = xs := by
  unfold filledTo
  rw [List.take_of_length_le hk, show xs.length - k = 0 by omega]; simp
end Go.Proofs.Ytfdpigafekohgaa

/- Texts and bytes in the abstract walk: the bytes of a text, appended. -/
namespace Go.Proofs.Ytfdpigafekohgaa
open Go.RowKit
set_option linter.unusedVariables false

theorem u8_fine (b : UInt8) : (Lit.int .u8 (b.toNat : Int)).wf = true := by
  have := b.toNat_lt
  simp only [Lit.wf, Bool.and_eq_true, decide_eq_true_eq]
  have h1 : IntKind.u8.min = 0 := rfl
  have h2 : IntKind.u8.max = 255 := rfl
  rw [h1, h2]; omega
theorem FR.bytes {w : World} : ∀ (l : List UInt8), FR w (l.map fun b => Value.int .u8 b.toNat) ((l.map fun b => (b.toNat : Int)).flatMap fun n => [Cell.c (.int .u8 n)]) []
  | [] => rfl
  | b :: l => ⟨[], [], rfl, ⟨rfl, u8_fine b, rfl⟩, FR.bytes l⟩
section ops
variable {P : Program} {N : Nat} {s : St} {d : Nat} {ty : TypeId} {pos : String} {after : Array Edge} {gd : Option (Nat × Bool)}
end ops
end Go.Proofs.Ytfdpigafekohgaa

/- A contract that takes arrays and leaves others, under other numbers. -/
namespace Go.Proofs.Ytfdpigafekohgaa
open Go.RowKit
set_option linter.unusedVariables false

/-- A contract that takes the blocks L: what becomes of them is not told. -/
structure AT (P : Program) (f : FuncId) (args : List AVal) (L : Locs) (res : AVal) (L' : Locs) : Prop where
  fn : Callable P f
  run : ∀ (g : Gh) (w : World) (cargs : Array Value), MemR g L w → All2 (VR1 g L w) cargs.toList args →
    Calls P f cargs w fun e w' => ∃ v g', e = .returned v ∧ MemR g' L' w' ∧ VR g' L' w' v res ∧ Step [] g L w g' L' w'
section body
variable {P : Program} {N : Nat} {f : FuncId} {fn : Func} {c : Code} {args : List AVal} {L L' : Locs}
end body
end Go.Proofs.Ytfdpigafekohgaa

/- The laws' own functions: GenC (printed by gen.py) -/
namespace Go.Proofs.Ytfdpigafekohgaa
open Go.RowKit
set_option linter.unusedVariables false
set_option maxRecDepth 100000

structure Namedt where
  name : ByteArray
  rel : Relt
structure Storet where
  rels : List (Namedt)
end Go.Proofs.Ytfdpigafekohgaa

/- The laws' own functions: GenD (printed by gen.py) -/
namespace Go.Proofs.Ytfdpigafekohgaa
open Go.RowKit
set_option linter.unusedVariables false
set_option maxRecDepth 100000

structure Changet where
  name : ByteArray
  plus : Relt
  minus : Relt
structure Deltat where
  changes : List (Changet)
end Go.Proofs.Ytfdpigafekohgaa

/- The order of values and rows ars plain laws: equal, transitive; a binary search's answer. -/
namespace Go.Proofs.Ytfdpigafekohgaa
open Go.RowKit
set_option linter.unusedVariables false

def hasRow (rows : List (List Val)) (row : List Val) : Bool := decide (row ∈ rows)
theorem compareBytes_eq : ∀ {a b : List UInt8}, Lib.compareBytes a b = 0 → a = b
  | [], [], _ => rfl
  | [], _ :: _, h => by simp [Lib.compareBytes] at h
  | _ :: _, [], h => by simp [Lib.compareBytes] at h
  | x :: a, y :: b, h => by
    unfold Lib.compareBytes at h
    by_cases h1 : x < y
    · simp [h1] at h
    · by_cases h2 : y < x
      · simp [h1, h2] at h
      · simp only [h1, h2, if_false] at h
        have e : x = y := UInt8.le_antisymm (UInt8.not_lt.1 h2) (UInt8.not_lt.1 h1)
        rw [e, compareBytes_eq h]
theorem compareBytes_trans : ∀ {a b c : List UInt8}, Lib.compareBytes a b < 0 → Lib.compareBytes b c < 0 → Lib.compareBytes a c < 0
  | [], [], _, h, _ => by simp [Lib.compareBytes] at h
  | [], _ :: _, [], _, h => by simp [Lib.compareBytes] at h
  | [], _ :: _, _ :: _, _, _ => by simp [Lib.compareBytes]
  | _ :: _, [], _, h, _ => by simp [Lib.compareBytes] at h
  | _ :: _, _ :: _, [], _, h => by simp [Lib.compareBytes] at h
  | x :: a, y :: b, z :: c, h, h' => by
    unfold Lib.compareBytes at h h' ⊢
    by_cases h1 : x < y
    · by_cases h3 : y < z
      · simp [UInt8.lt_trans h1 h3]
      · by_cases h4 : z < y
        · simp [h3, h4] at h'
        · have e : y = z := UInt8.le_antisymm (UInt8.not_lt.1 h4) (UInt8.not_lt.1 h3)
          subst e; simp [h1]
    · by_cases h2 : y < x
      · simp [h1, h2] at h
      · have e : x = y := UInt8.le_antisymm (UInt8.not_lt.1 h2) (UInt8.not_lt.1 h1)
        subst e
        simp only [h1, if_false] at h
        by_cases h3 : x < z
        · simp [h3]
        · by_cases h4 : z < x
          · simp [h3, h4] at h'
          · simp only [h3, h4, if_false] at h' ⊢
            exact compareBytes_trans h h'

theorem valOk_zero {v : Val} (h : valOk v = true) (hs : v.s.toList.isEmpty = false) : v.n = 0 := by
  rw [valOk_word hs] at h
  simp only [Bool.and_eq_true, beq_iff_eq] at h
  exact h.1
theorem bytes_ext {a b : ByteArray} (h : a.data.toList = b.data.toList) : a = b := by
  obtain ⟨⟨a⟩⟩ := a
  obtain ⟨⟨b⟩⟩ := b
  simp at h; rw [h]
theorem bytes_empty {a : ByteArray} (h : a.toList.isEmpty = true) : a.data.toList = [] := by
  rw [ByteArray.toList_eq] at h
  simpa using h
theorem cmpVal_eq {a b : Val} (ha : valOk a = true) (hb : valOk b = true) (h : cmpVal a b = 0) : a = b := by
  obtain ⟨n, s⟩ := a
  obtain ⟨m, r⟩ := b
  unfold cmpVal at h
  cases h1 : s.toList.isEmpty <;> cases h2 : r.toList.isEmpty
  · simp only [h1, h2] at h
    have hn := valOk_zero ha h1
    have hm := valOk_zero hb h2
    have := bytes_ext (compareBytes_eq h)
    simp_all
  · simp [h1, h2] at h
  · simp [h1, h2] at h
  · simp only [h1, h2, if_true] at h
    have e : s = r := bytes_ext (by rw [bytes_empty h1, bytes_empty h2])
    have : n = m := by omega
    rw [e, this]
theorem cmpVal_trans {a b c : Val} (h : cmpVal a b < 0) (h' : cmpVal b c < 0) : cmpVal a c < 0 := by
  unfold cmpVal at *
  cases h1 : a.s.toList.isEmpty <;> cases h2 : b.s.toList.isEmpty <;> cases h3 : c.s.toList.isEmpty <;> simp only [h1, h2, h3, if_true, Bool.false_eq_true, if_false] at h h' ⊢ <;> first | omega | exact compareBytes_trans h h'

theorem cmpRow_trans : ∀ {a b c : List Val}, (∀ v ∈ a, valOk v = true) → (∀ v ∈ b, valOk v = true) → (∀ v ∈ c, valOk v = true) → cmpRow a b < 0 → cmpRow b c < 0 → cmpRow a c < 0
  | [], [], _, _, _, _, h, _ => by simp [cmpRow] at h
  | [], _ :: _, [], _, _, _, _, h => by simp [cmpRow] at h
  | [], _ :: _, _ :: _, _, _, _, _, _ => by simp [cmpRow]
  | _ :: _, [], _, _, _, _, h, _ => by simp [cmpRow] at h
  | _ :: _, _ :: _, [], _, _, _, _, h => by simp [cmpRow] at h
  | x :: a, y :: b, z :: c, ha, hb, hc, h, h' => by
    unfold cmpRow at h h' ⊢
    by_cases h1 : cmpVal x y = 0
    · have e := cmpVal_eq (ha x (by simp)) (hb y (by simp)) h1
      subst e
      rw [if_pos h1] at h
      by_cases h2 : cmpVal x z = 0
      · rw [if_pos h2] at h' ⊢
        exact cmpRow_trans (fun v hv => ha v (by simp [hv])) (fun v hv => hb v (by simp [hv])) (fun v hv => hc v (by simp [hv])) h h'
      · rw [if_neg h2] at h' ⊢; exact h'
    · rw [if_neg h1] at h
      by_cases h2 : cmpVal y z = 0
      · have e := cmpVal_eq (hb y (by simp)) (hc z (by simp)) h2
        subst e
        rw [if_neg h1]; exact h
      · rw [if_neg h2] at h'
        have h3 := cmpVal_trans h h'
        rw [if_neg (by omega)]; exact h3

/-- Rows of right values, each before the next. -/
def Sorted (rows : List (List Val)) : Prop := (∀ j (h : j < rows.length), ∀ v ∈ rows[j], valOk v = true) ∧ ∀ i j (hi : i < rows.length) (hj : j < rows.length), i < j → cmpRow rows[i] rows[j] < 0
/-- Everything ahead of i stands before the row; nothing from j on does. -/
def Between (rows : List (List Val)) (row : List Val) (i j : Nat) : Prop :=
  (∀ t (h : t < rows.length), t < i → cmpRow rows[t] row < 0) ∧ ∀ t (h : t < rows.length), j ≤ t → ¬ cmpRow rows[t] row < 0
theorem Between.right {rows : List (List Val)} {row : List Val} {i j h : Nat} (hs : Sorted rows) (hr : ∀ v ∈ row, valOk v = true) (H : Between rows row i j) (hh : h < rows.length) (hc : cmpRow rows[h] row < 0) : Between rows row (h + 1) j :=
  ⟨fun t ht hth => by
    rcases Nat.lt_or_ge t h with h1 | h1
    · exact cmpRow_trans (hs.1 t ht) (hs.1 h hh) hr (hs.2 t h ht hh h1) hc
    · obtain rfl : t = h := by omega
      exact hc, H.2⟩
theorem Between.left {rows : List (List Val)} {row : List Val} {i j h : Nat} (hs : Sorted rows) (hr : ∀ v ∈ row, valOk v = true) (H : Between rows row i j) (hh : h < rows.length) (hc : ¬ cmpRow rows[h] row < 0) : Between rows row i h :=
  ⟨H.1, fun t ht hth hlt => by
    rcases Nat.lt_or_ge h t with h1 | h1
    · exact hc (cmpRow_trans (hs.1 h hh) (hs.1 t ht) hr (hs.2 h t hh ht h1) hlt)
    · obtain rfl : t = h := by omega
      exact hc hlt⟩
/-- The place of a row in a right relation, or where it would be. -/
def pos (rows : List (List Val)) (row : List Val) : Nat := rows.findIdx fun r => !decide (cmpRow r row < 0)
theorem Between.pos {rows : List (List Val)} {row : List Val} {i : Nat} (hi : i ≤ rows.length) (H : Between rows row i i) : pos rows row = i := by
  unfold Proofs.Ytfdpigafekohgaa.pos
  rcases Nat.lt_or_ge i rows.length with h1 | h1
  · rw [List.findIdx_eq h1]
    exact ⟨by simpa using H.2 i h1 (Nat.le_refl _), fun j hj => by simpa using H.1 j (by omega) hj⟩
  · obtain rfl : i = rows.length := by omega
    rw [List.findIdx_eq_length]
    intro r hr
    obtain ⟨j, hj, rfl⟩ := List.getElem_of_mem hr
    simpa using H.1 j hj hj
end Go.Proofs.Ytfdpigafekohgaa

/- Like relations, in plain words. -/
namespace Go.Proofs.Ytfdpigafekohgaa
open Go.RowKit
set_option linter.unusedVariables false

def LikeTo {α : Type} (xs ys : List α) (k : Nat) : Prop := ∀ j (h : j < xs.length) (h' : j < ys.length), j < k → xs[j] = ys[j]
theorem LikeTo.zero {α : Type} {xs ys : List α} : LikeTo xs ys 0 := fun _ _ _ h => absurd h (by omega)
theorem LikeTo.succ {α : Type} {xs ys : List α} {k : Nat} (h : LikeTo xs ys k) (hk : k < xs.length) (hk' : k < ys.length) (hs : xs[k] = ys[k]) : LikeTo xs ys (k + 1) := fun j hj hj' hjk => by
  rcases Nat.lt_or_ge j k with h1 | h1
  · exact h j hj hj' h1
  · obtain rfl : j = k := by omega
    exact hs
theorem LikeTo.eq {α : Type} {xs ys : List α} {k : Nat} (hl : xs.length = ys.length) (hk : xs.length ≤ k) (h : LikeTo xs ys k) : xs = ys :=
  List.ext_getElem hl fun j h1 h2 => h j h1 h2 (by omega)
def sameRows (a b : List (List Val)) : Bool := decide (a = b)
def likeRel (a b : Relt) : Bool := a.arity == b.arity && sameRows a.rows b.rows
end Go.Proofs.Ytfdpigafekohgaa

/- Right stores and like stores, in plain words. -/
namespace Go.Proofs.Ytfdpigafekohgaa
open Go.RowKit
set_option linter.unusedVariables false

/-! A test at each place of a list. -/
def AllAt {n : Nat} (p : (k : Nat) → k < n → Bool) (k : Nat) : Prop := ∀ j (h : j < n), j < k → p j h = true
theorem AllAt.zero {n : Nat} {p : (k : Nat) → k < n → Bool} : AllAt p 0 := fun _ _ h => absurd h (by omega)
theorem AllAt.succ {n : Nat} {p : (k : Nat) → k < n → Bool} {k : Nat} (h : AllAt p k) (hk : k < n) (hp : p k hk = true) : AllAt p (k + 1) := fun j hj hjk => by
  rcases Nat.lt_or_ge j k with h1 | h1
  · exact h j hj h1
  · obtain rfl : j = k := by omega
    exact hp
def everyB {n : Nat} (p : (k : Nat) → k < n → Bool) : Bool := (List.range n).all fun k => if h : k < n then p k h else true
theorem AllAt.all {n : Nat} {p : (k : Nat) → k < n → Bool} {k : Nat} (h : AllAt p k) (hk : n ≤ k) : everyB p = true := by
  unfold everyB
  rw [List.all_eq_true]
  intro j hj
  have hj' : j < n := by simpa using hj
  rw [dif_pos hj']
  exact h j hj' (by omega)
def likeNamed (x y : Namedt) : Bool := x.name == y.name && likeRel x.rel y.rel
def LikeN (a b : List Namedt) (k : Nat) : Prop := ∀ j (h : j < a.length) (h' : j < b.length), j < k → likeNamed a[j] b[j] = true
theorem LikeN.zero {a b : List Namedt} : LikeN a b 0 := fun _ _ _ h => absurd h (by omega)
theorem LikeN.succ {a b : List Namedt} {k : Nat} (h : LikeN a b k) (hk : k < a.length) (hk' : k < b.length) (hs : likeNamed a[k] b[k] = true) : LikeN a b (k + 1) := fun j hj hj' hjk => by
  rcases Nat.lt_or_ge j k with h1 | h1
  · exact h j hj hj' h1
  · obtain rfl : j = k := by omega
    exact hs
end Go.Proofs.Ytfdpigafekohgaa

/- Right deltas, in plain words; fields of struct values. -/
namespace Go.Proofs.Ytfdpigafekohgaa
open Go.RowKit
set_option linter.unusedVariables false

/-- The first has no row of the second. -/
def apart (a b : Relt) : Bool := (a.rows.filter fun row => hasRow b.rows row).length == 0
section ops
variable {P : Program} {N : Nat} {s : St} {d : Nat} {ty : TypeId} {pos : String} {after : Array Edge} {gd : Option (Nat × Bool)}
end ops
end Go.Proofs.Ytfdpigafekohgaa

/- A delta that fits a store, in plain words. -/
namespace Go.Proofs.Ytfdpigafekohgaa
open Go.RowKit
set_option linter.unusedVariables false

section
variable {s : Storet} {l : List Changet} {k : Nat} (hk : k < l.length)
end
end Go.Proofs.Ytfdpigafekohgaa

/- Marks: own data written anew in place, cell by cell. -/
namespace Go.Proofs.Ytfdpigafekohgaa
open Go.RowKit
set_option linter.unusedVariables false

/-- Of the blocks that stood, only those named may have turned; they may still be written. -/
structure Only (bs : List Nat) (w w' : World) : Prop where
  os : w'.os = w.os
  tape : w'.tape = w.tape
  output : w'.output = w.output
  size : w.heap.size ≤ w'.heap.size
  keep : ∀ b, b < w.heap.size → b ∉ bs → w'.heap[b]? = w.heap[b]?
  shape : ∀ b ∈ bs, ∀ c t, w.heap[b]? = some (.cells c t (0, 0)) → ∃ c', w'.heap[b]? = some (.cells c' t (0, 0)) ∧ c'.size = c.size
theorem Only.refl (bs : List Nat) (w : World) : Only bs w w := ⟨rfl, rfl, rfl, Nat.le_refl _, fun _ _ _ => rfl, fun _ _ c t h => ⟨c, h, rfl⟩⟩
theorem Only.trans {bs : List Nat} {w w1 w2 : World} (h : Only bs w w1) (h' : Only bs w1 w2) : Only bs w w2 :=
  ⟨h'.os.trans h.os, h'.tape.trans h.tape, h'.output.trans h.output, Nat.le_trans h.size h'.size, fun b hb hn => (h'.keep b (Nat.lt_of_lt_of_le hb h.size) hn).trans (h.keep b hb hn), fun b hb c t hc => by
    obtain ⟨c1, h1, z1⟩ := h.shape b hb c t hc
    obtain ⟨c2, h2, z2⟩ := h'.shape b hb c1 t h1
    exact ⟨c2, h2, z2.trans z1⟩⟩
theorem Only.below {bs : List Nat} {w w' : World} (h : Below w.heap.size w w') : Only bs w w' :=
  ⟨h.os, h.tape, h.output, h.size, fun b hb _ => h.block b hb, fun b hb c t hc => ⟨c, (h.block b (Array.getElem?_eq_some_iff.1 hc).1).trans hc, rfl⟩⟩
theorem Only.mono {bs bs' : List Nat} {w w' : World} (h : Only bs' w w') (hs : ∀ b ∈ bs', b ∈ bs) : Only bs w w' :=
  ⟨h.os, h.tape, h.output, h.size, fun b hb hn => h.keep b hb fun hm => hn (hs b hm), fun b hb c t hc => by
    by_cases hm : b ∈ bs'
    · exact h.shape b hm c t hc
    · exact ⟨c, (h.keep b (Array.getElem?_eq_some_iff.1 hc).1 hm).trans hc, rfl⟩⟩
theorem Fresh.only {lo : Nat} {bs bs' : List Nat} {w w' : World} (h : Fresh lo w bs) (o : Only bs' w w') : Fresh lo w' bs :=
  ⟨h.1, fun b hb => by
    obtain ⟨h1, c, t, hc⟩ := h.2 b hb
    by_cases hm : b ∈ bs'
    · obtain ⟨c', h2, _⟩ := o.shape b hm c t hc
      exact ⟨h1, c', t, h2⟩
    · exact ⟨h1, c, t, (o.keep b (Array.getElem?_eq_some_iff.1 hc).1 hm).trans hc⟩⟩
theorem Enc.only {α : Type} {e : Enc α} {cs : List Value} {x : α} {b bs : List Nat} {w w' : World} (h : e.rep w cs x b) (o : Only bs w w') (hd : ∀ c ∈ b, c ∉ bs) : e.rep w' cs x b :=
  e.keep h (fun c hc => o.keep c (e.lt h c hc) (hd c hc)) o.size
theorem Below.only {lo : Nat} {bs : List Nat} {w0 w w' : World} (h : Below lo w0 w) (o : Only bs w w') (hl : ∀ b ∈ bs, lo ≤ b) (hlo : lo ≤ w.heap.size) : Below lo w0 w' :=
  ⟨o.os.trans h.os, o.tape.trans h.tape, o.output.trans h.output, Nat.le_trans h.size o.size, fun b hb => (o.keep b (by omega) fun hm => by have := hl b hm; omega).trans (h.block b hb)⟩
theorem Only.setCell {bs : List Nat} {w : World} {g : Nat} (hg : g ∈ bs) (o : Nat) (v : Value) : Only bs w (w.setCell ⟨g, o, none⟩ v) :=
  ⟨rfl, rfl, rfl, by simp [World.setCell], fun b hb hn => Below.heap_setCell w _ _ b (fun e => hn (by rw [e]; exact hg)), fun b hb c t hc => by
    by_cases e : b = g
    · subst e
      exact ⟨c.setIfInBounds o v, by simp [World.setCell, Array.getElem?_modify, hc], by simp⟩
    · exact ⟨c, (Below.heap_setCell w ⟨g, o, none⟩ v b e).trans hc, rfl⟩⟩

theorem FR.keepM {w w' : World} : ∀ {vs : List Value} {cs : List Cell} {b : List Nat}, FR w vs cs b → (∀ x ∈ b, w'.heap[x]? = w.heap[x]?) → w.heap.size ≤ w'.heap.size → FR w' vs cs b
  | [], [], b, h, _, _ => h
  | v :: vs, c :: cs, b, h, hk, hs => by
    obtain ⟨b1, b2, rfl, h1, h2⟩ := h
    refine ⟨b1, b2, rfl, ?_, FR.keepM h2 (fun x hx => hk x (List.mem_append_right _ hx)) hs⟩
    cases c with
    | c u => exact h1
    | sl e xs =>
      obtain ⟨a, n, cap, h3, h4⟩ := h1
      exact ⟨a, n, cap, h3, h4.keep (fun x hx => hk x (List.mem_append_left _ hx)) hs⟩
    | rx e x us b j =>
      obtain ⟨h3, h4, rfl⟩ := h1
      exact ⟨h3, e.keep h4 (fun x hx => hk x (List.mem_append_left _ hx)) hs, rfl⟩
    | _ => exact h1.elim
theorem FR.get_c {w : World} : ∀ {vs : List Value} {cs : List Cell} {b : List Nat} {i : Nat} {u : Value}, FR w vs cs b → cs[i]? = some (.c u) → vs[i]? = some u
  | [], [], b, i, u, _, h => by simp at h
  | v :: vs, c :: cs, b, 0, u, h, hi => by
    obtain ⟨b1, b2, rfl, h1, h2⟩ := h
    simp only [List.getElem?_cons_zero, Option.some.injEq] at hi
    subst hi
    simp [h1.1]
  | v :: vs, c :: cs, b, i + 1, u, h, hi => by
    obtain ⟨b1, b2, rfl, h1, h2⟩ := h
    simpa using FR.get_c h2 (by simpa using hi)
theorem FR.set_c {w : World} : ∀ {vs : List Value} {cs : List Cell} {b : List Nat} {i : Nat} {u v : Value}, FR w vs cs b → cs[i]? = some (.c u) → wfV v → FR w (vs.set i v) (cs.set i (.c v)) b
  | [], [], b, i, u, v, _, h, _ => by simp at h
  | y :: vs, c :: cs, b, 0, u, v, h, hi, hv => by
    obtain ⟨b1, b2, rfl, h1, h2⟩ := h
    simp only [List.getElem?_cons_zero, Option.some.injEq] at hi
    subst hi
    obtain rfl := h1.2.2
    exact ⟨[], b2, rfl, ⟨rfl, hv, rfl⟩, h2⟩
  | y :: vs, c :: cs, b, i + 1, u, v, h, hi, hv => by
    obtain ⟨b1, b2, rfl, h1, h2⟩ := h
    exact ⟨b1, b2, rfl, h1, FR.set_c h2 (by simpa using hi) hv⟩
theorem FR.get_sl {w : World} {α : Type} {e : Enc α} {ys : List α} : ∀ {vs : List Value} {cs : List Cell} {b : List Nat} {i : Nat}, FR w vs cs b → cs[i]? = some (.sl e ys) →
    ∃ b1 b2 b3 a n cap, b = b1 ++ (b2 ++ b3) ∧ vs[i]? = some (.slice a n cap) ∧ SliceRep e w a n cap ys b2 ∧
      ∀ (w' : World) (ys' : List α), SliceRep e w' a n cap ys' b2 → (∀ x ∈ b1, w'.heap[x]? = w.heap[x]?) → (∀ x ∈ b3, w'.heap[x]? = w.heap[x]?) → w.heap.size ≤ w'.heap.size → FR w' vs (cs.set i (.sl e ys')) b
  | [], [], b, i, _, h => by simp at h
  | y :: vs, c :: cs, b, 0, h, hi => by
    obtain ⟨b1, b2, rfl, h1, h2⟩ := h
    simp only [List.getElem?_cons_zero, Option.some.injEq] at hi
    subst hi
    obtain ⟨a, n, cap, rfl, h3⟩ := h1
    exact ⟨[], b1, b2, a, n, cap, rfl, rfl, h3, fun w' ys' hr _ hk hs => ⟨b1, b2, rfl, ⟨a, n, cap, rfl, hr⟩, h2.keepM hk hs⟩⟩
  | y :: vs, c :: cs, b, i + 1, h, hi => by
    obtain ⟨b1, b2, rfl, h1, h2⟩ := h
    obtain ⟨c1, c2, c3, a, n, cap, rfl, h3, h4, h5⟩ := FR.get_sl h2 (by simpa using hi)
    refine ⟨b1 ++ c1, c2, c3, a, n, cap, by simp, by simpa using h3, h4, fun w' ys' hr k1 k2 hs => ⟨b1, c1 ++ (c2 ++ c3), rfl, ?_, h5 w' ys' hr (fun x hx => k1 x (List.mem_append_right _ hx)) k2 hs⟩⟩
    have k1' : ∀ x ∈ b1, w'.heap[x]? = w.heap[x]? := fun x hx => k1 x (List.mem_append_left _ hx)
    cases c with
    | c u => exact h1
    | sl e xs =>
      obtain ⟨a, n, cap, h3, h4⟩ := h1
      exact ⟨a, n, cap, h3, h4.keep k1' hs⟩
    | rx e x us b j =>
      obtain ⟨h3, h4, rfl⟩ := h1
      exact ⟨h3, e.keep h4 k1' hs, rfl⟩
    | _ => exact h1.elim

theorem flatten_apart : ∀ {bss : List (List Nat)} {i j : Nat} {b b' : List Nat} {x : Nat}, bss.flatten.Nodup → i ≠ j → bss[i]? = some b → bss[j]? = some b' → x ∈ b → x ∉ b'
  | [], i, j, b, b', x, _, _, h, _, _ => by simp at h
  | c :: bss, 0, 0, b, b', x, _, hij, _, _, _ => absurd rfl hij
  | c :: bss, 0, j + 1, b, b', x, hn, _, hi, hj, hx => fun hx' => by
    simp only [List.getElem?_cons_zero, Option.some.injEq] at hi
    subst hi
    rw [List.flatten_cons, List.nodup_append] at hn
    exact hn.2.2 x hx x (List.mem_flatten.2 ⟨b', List.mem_of_getElem? (by simpa using hj), hx'⟩) rfl
  | c :: bss, i + 1, 0, b, b', x, hn, _, hi, hj, hx => fun hx' => by
    simp only [List.getElem?_cons_zero, Option.some.injEq] at hj
    subst hj
    rw [List.flatten_cons, List.nodup_append] at hn
    exact hn.2.2 x hx' x (List.mem_flatten.2 ⟨b, List.mem_of_getElem? (by simpa using hi), hx⟩) rfl
  | c :: bss, i + 1, j + 1, b, b', x, hn, hij, hi, hj, hx => by
    rw [List.flatten_cons, List.nodup_append] at hn
    exact flatten_apart (bss := bss) (i := i) (j := j) hn.2.1 (by omega) (by simpa using hi) (by simpa using hj) hx

section
variable {α : Type} {e : Enc α} {f : α → List Cell} [he : CellsOf e f] {w : World} {lo g off n cap k : Nat} {xs : List α} {bs : List Nat}
/-- A plain cell of element k. -/
theorem SliceRep.cellAt (h : SliceRep e w (some ⟨g, off, none⟩) n cap xs bs) (hF : Fresh lo w bs) {x0 : α} (hx0 : xs[k]? = some x0) {c : Nat} {u : Value} (h0 : (f x0)[c]? = some (.c u)) :
    w.cell? ⟨g, off + k * e.size + c, none⟩ = some u ∧ w.frozen? ⟨g, off + k * e.size + c, none⟩ = false := by
  obtain ⟨hk, rfl⟩ := List.getElem?_eq_some_iff.1 hx0
  obtain ⟨cs, b, hr, _, hs⟩ := h.slot hF hk
  exact hs c u (FR.get_c (he.iff.1 hr) h0)
/-- A plain cell of element k written anew. -/
theorem SliceRep.put (h : SliceRep e w (some ⟨g, off, none⟩) n cap xs bs) (hF : Fresh lo w bs) {x0 : α} (hx0 : xs[k]? = some x0) (c : Nat) {u : Value} (v : Value) (x' : α) (h0 : (f x0)[c]? = some (.c u)) (hv : wfV v) (hx : f x' = (f x0).set c (.c v)) :
    SliceRep e (w.setCell ⟨g, off + k * e.size + c, none⟩ v) (some ⟨g, off, none⟩) n cap (xs.set k x') bs ∧ Only bs w (w.setCell ⟨g, off + k * e.size + c, none⟩ v) := by
  obtain ⟨hk, rfl⟩ := List.getElem?_eq_some_iff.1 hx0
  have hne : xs ≠ [] := by intro e; subst e; simp at hk
  obtain ⟨g', off', bss, ha, hg, rfl, hE⟩ := h.parts hne
  simp only [Option.some.injEq, Addr.mk.injEq, and_true] at ha
  obtain ⟨rfl, rfl⟩ := ha
  have hkb : k < bss.length := by rw [hE.1]; exact hk
  have hnd : g ∉ bss.flatten ∧ bss.flatten.Nodup := List.nodup_cons.1 hF.1
  obtain ⟨_, ca, t, hblk⟩ := hF.2 g (List.mem_cons_self ..)
  obtain ⟨cs, hr, hcs⟩ := hE.2 k xs[k] bss[k] (List.getElem?_eq_getElem hk) (List.getElem?_eq_getElem hkb)
  have hfr := he.iff.1 hr
  have hcu := FR.get_c hfr h0
  have hc : c < e.size := by rw [← e.len hr]; exact (List.getElem?_eq_some_iff.1 hcu).1
  have hin := hcs c u hcu
  have hO : Only (g :: bss.flatten) w (w.setCell ⟨g, off + k * e.size + c, none⟩ v) := Only.setCell (List.mem_cons_self ..) _ _
  have hfl : ∀ x ∈ bss.flatten, (w.setCell ⟨g, off + k * e.size + c, none⟩ v).heap[x]? = w.heap[x]? := fun x hx => Below.heap_setCell w _ _ x (fun e => hnd.1 (by rw [← show x = g from e]; exact hx))
  have hbk : ∀ x ∈ bss[k], (w.setCell ⟨g, off + k * e.size + c, none⟩ v).heap[x]? = w.heap[x]? := fun x hx => hfl x (List.mem_flatten.2 ⟨_, List.getElem_mem hkb, hx⟩)
  have hr' : e.rep (w.setCell ⟨g, off + k * e.size + c, none⟩ v) (cs.set c v) x' bss[k] := he.iff.2 (by rw [hx]; exact (hfr.set_c h0 hv).keepM hbk hO.size)
  have hE' := hE.upd (k := k) (x' := x') hr' (fun j u' hu => ?_) (fun i hi => ?_) (fun i b hik hb x hx => hfl x (List.mem_flatten.2 ⟨b, List.mem_of_getElem? hb, hx⟩)) hO.size
  · rw [List.set_getElem_self] at hE'
    exact ⟨SliceRep.mk (by simpa using h.1) h.2.1 h.2.2.1 (by intro e; simp at e; exact hne e) (Nat.lt_of_lt_of_le hg hO.size) hE', hO⟩
  · by_cases ej : j = c
    · subst ej
      rw [List.getElem?_set_self (by rw [e.len hr]; exact hc)] at hu
      cases hu
      exact World.cell?_setCell_same _ _ _ hin
    · rw [List.getElem?_set_ne (Ne.symm ej)] at hu
      rw [World.cell?_setCell_other w _ _ v (fun e => ej (by injection e with _ e; omega))]
      exact hcs j u' hu
  · exact World.cell?_setCell_other w _ _ v (fun e => by injection e with _ e; rw [Nat.add_mul] at hi; omega)
/-- A list in element k, for a call that writes it anew. -/
theorem SliceRep.nest (h : SliceRep e w (some ⟨g, off, none⟩) n cap xs bs) (hF : Fresh lo w bs) {x0 : α} (hx0 : xs[k]? = some x0) {c : Nat} {β : Type} {e' : Enc β} {ys : List β} (h0 : (f x0)[c]? = some (.sl e' ys)) :
    ∃ a' n' cap' b', w.cell? ⟨g, off + k * e.size + c, none⟩ = some (.slice a' n' cap') ∧ SliceRep e' w a' n' cap' ys b' ∧ Fresh lo w b' ∧
      ∀ (w' : World) (ys' : List β) (x' : α), SliceRep e' w' a' n' cap' ys' b' → Only b' w w' → f x' = (f x0).set c (.sl e' ys') → SliceRep e w' (some ⟨g, off, none⟩) n cap (xs.set k x') bs ∧ Only bs w w' := by
  obtain ⟨hk, rfl⟩ := List.getElem?_eq_some_iff.1 hx0
  have hne : xs ≠ [] := by intro e; subst e; simp at hk
  have hlt := h.lt
  obtain ⟨g', off', bss, ha, hg, rfl, hE⟩ := h.parts hne
  simp only [Option.some.injEq, Addr.mk.injEq, and_true] at ha
  obtain ⟨rfl, rfl⟩ := ha
  have hkb : k < bss.length := by rw [hE.1]; exact hk
  have hnd : g ∉ bss.flatten ∧ bss.flatten.Nodup := List.nodup_cons.1 hF.1
  obtain ⟨cs, hr, hcs⟩ := hE.2 k xs[k] bss[k] (List.getElem?_eq_getElem hk) (List.getElem?_eq_getElem hkb)
  obtain ⟨b1, b2, b3, a, n', cap', hb, h3, h4, h5⟩ := FR.get_sl (he.iff.1 hr) h0
  have inF : ∀ x ∈ bss[k], x ∈ bss.flatten := fun x hx => List.mem_flatten.2 ⟨_, List.getElem_mem hkb, hx⟩
  have in2 : ∀ x ∈ b2, x ∈ bss[k] := fun x hx => by rw [hb]; exact List.mem_append_right _ (List.mem_append_left _ hx)
  have hbn : bss[k].Nodup := List.Sublist.nodup (List.sublist_flatten_of_mem (List.getElem_mem hkb)) hnd.2
  rw [hb, List.nodup_append, List.nodup_append] at hbn
  refine ⟨a, n', cap', b2, hcs c _ h3, h4, ⟨hbn.2.1.1, fun x hx => hF.2 x (List.mem_cons_of_mem _ (inF x (in2 x hx)))⟩, fun w' ys' x' hr' hO hx => ?_⟩
  have ltF : ∀ x ∈ bss.flatten, x < w.heap.size := fun x hx => hlt x (List.mem_cons_of_mem _ hx)
  have keep : ∀ x, x < w.heap.size → x ∉ b2 → w'.heap[x]? = w.heap[x]? := hO.keep
  have hg2 : w'.heap[g]? = w.heap[g]? := keep g hg fun hm => hnd.1 (inF g (in2 g hm))
  have hr2 : e.rep w' cs x' bss[k] := he.iff.2 (by
    rw [hx]
    refine h5 w' ys' hr' (fun x hx1 => keep x (ltF x (inF x (by rw [hb]; exact List.mem_append_left _ hx1))) fun hx2 => hbn.2.2 x hx1 x (List.mem_append_left _ hx2) rfl) (fun x hx3 => keep x (ltF x (inF x (by rw [hb]; exact List.mem_append_right _ (List.mem_append_right _ hx3)))) fun hx2 => hbn.2.1.2.2 x hx2 x hx3 rfl) hO.size)
  have hE' := hE.upd (k := k) (x' := x') hr2 (fun j u' hu => (World.cell?_of_block (w := w) hg2).trans (hcs j u' hu)) (fun i hi => World.cell?_of_block (w := w) hg2) (fun i b hik hbi x hx => keep x (ltF x (List.mem_flatten.2 ⟨b, List.mem_of_getElem? hbi, hx⟩)) fun hx2 => flatten_apart hnd.2 hik hbi (List.getElem?_eq_getElem hkb) hx (in2 x hx2)) hO.size
  rw [List.set_getElem_self] at hE'
  exact ⟨SliceRep.mk (by simpa using h.1) h.2.1 h.2.2.1 (by intro e; simp at e; exact hne e) (Nat.lt_of_lt_of_le hg hO.size) hE', hO.mono fun x hx => List.mem_cons_of_mem _ (inF x (in2 x hx))⟩
end

/-! ### The same, element k named -/
section
variable {α : Type} {e : Enc α} {f : α → List Cell} [he : CellsOf e f] {w : World} {lo g off n cap k : Nat} {ys : List α} {bs : List Nat}
theorem set_at {x : α} (hk : k < ys.length) : (ys.set k x)[k]? = some x := List.getElem?_set_self hk
theorem set_same {x : α} (h : ys[k]? = some x) : ys.set k x = ys := by
  obtain ⟨hk, rfl⟩ := List.getElem?_eq_some_iff.1 h
  exact List.set_getElem_self hk
theorem SliceRep.cellAt2 {x0 : α} (h : SliceRep e w (some ⟨g, off, none⟩) n cap (ys.set k x0) bs) (hF : Fresh lo w bs) (hk : k < ys.length) {c : Nat} {u : Value} (h0 : (f x0)[c]? = some (.c u)) :
    w.cell? ⟨g, off + k * e.size + c, none⟩ = some u ∧ w.frozen? ⟨g, off + k * e.size + c, none⟩ = false := h.cellAt hF (set_at hk) h0
theorem SliceRep.put2 {x0 : α} (h : SliceRep e w (some ⟨g, off, none⟩) n cap (ys.set k x0) bs) (hF : Fresh lo w bs) (hk : k < ys.length) (c : Nat) {u : Value} (v : Value) (x' : α) (h0 : (f x0)[c]? = some (.c u)) (hv : wfV v) (hx : f x' = (f x0).set c (.c v)) :
    SliceRep e (w.setCell ⟨g, off + k * e.size + c, none⟩ v) (some ⟨g, off, none⟩) n cap (ys.set k x') bs ∧ Only bs w (w.setCell ⟨g, off + k * e.size + c, none⟩ v) := by
  have := h.put hF (set_at hk) c v x' h0 hv hx
  rwa [List.set_set] at this
theorem SliceRep.nest2 {x0 : α} (h : SliceRep e w (some ⟨g, off, none⟩) n cap (ys.set k x0) bs) (hF : Fresh lo w bs) (hk : k < ys.length) {c : Nat} {β : Type} {e' : Enc β} {zs : List β} (h0 : (f x0)[c]? = some (.sl e' zs)) :
    ∃ a' n' cap' b', w.cell? ⟨g, off + k * e.size + c, none⟩ = some (.slice a' n' cap') ∧ SliceRep e' w a' n' cap' zs b' ∧ Fresh lo w b' ∧
      ∀ (w' : World) (zs' : List β) (x' : α), SliceRep e' w' a' n' cap' zs' b' → Only b' w w' → f x' = (f x0).set c (.sl e' zs') → SliceRep e w' (some ⟨g, off, none⟩) n cap (ys.set k x') bs ∧ Only bs w w' := by
  obtain ⟨a', n', cap', b', h1, h2, h3, h4⟩ := h.nest hF (set_at hk) h0
  refine ⟨a', n', cap', b', h1, h2, h3, fun w' zs' x' r o hx => ?_⟩
  have := h4 w' zs' x' r o hx
  rwa [List.set_set] at this
/-- A list in a datum, for a call that writes it anew. -/
theorem Enc.nest {cs : List Value} {x : α} (h : e.rep w cs x bs) (hF : Fresh lo w bs) {c : Nat} {β : Type} {e' : Enc β} {zs : List β} (h0 : (f x)[c]? = some (.sl e' zs)) :
    ∃ a' n' cap' b', cs[c]? = some (.slice a' n' cap') ∧ SliceRep e' w a' n' cap' zs b' ∧ Fresh lo w b' ∧
      ∀ (w' : World) (zs' : List β) (x' : α), SliceRep e' w' a' n' cap' zs' b' → Only b' w w' → f x' = (f x).set c (.sl e' zs') → e.rep w' cs x' bs ∧ Only bs w w' := by
  have hlt := e.lt h
  obtain ⟨b1, b2, b3, a, n', cap', rfl, h3, h4, h5⟩ := FR.get_sl (he.iff.1 h) h0
  have hn := hF.1
  rw [List.nodup_append, List.nodup_append] at hn
  refine ⟨a, n', cap', b2, h3, h4, ⟨hn.2.1.1, fun x hx => hF.2 x (List.mem_append_right _ (List.mem_append_left _ hx))⟩, fun w' zs' x' hr hO hx => ⟨he.iff.2 ?_, hO.mono fun x hx => List.mem_append_right _ (List.mem_append_left _ hx)⟩⟩
  rw [hx]
  exact h5 w' zs' hr (fun y hy => hO.keep y (hlt y (List.mem_append_left _ hy)) fun hy2 => hn.2.2 y hy y (List.mem_append_left _ hy2) rfl) (fun y hy => hO.keep y (hlt y (List.mem_append_right _ (List.mem_append_right _ hy))) fun hy2 => hn.2.1.2.2 y hy2 y hy rfl) hO.size
end
theorem wf64 {q : Int} (h0 : -9223372036854775808 ≤ q) (h1 : q ≤ 9223372036854775807) : wfV (.int .i64 q) := by
  show (Lit.int .i64 q).wf = true
  have h2 : IntKind.i64.min = -9223372036854775808 := by decide
  have h3 : IntKind.i64.max = 9223372036854775807 := by decide
  simp only [Lit.wf, h2, h3, Bool.and_eq_true, decide_eq_true_eq]; omega

/-! ### Lists -/
section
variable {α : Type} (f : α → Int → α × Int)
def markL : List α → Int → List α × Int
  | [], k => ([], k)
  | x :: xs, k => ((f x k).1 :: (markL xs (f x k).2).1, (markL xs (f x k).2).2)
def cntL (c : α → Nat) : List α → Nat
  | [] => 0
  | x :: xs => c x + cntL c xs
theorem markL_len : ∀ (xs : List α) (k : Int), (markL f xs k).1.length = xs.length
  | [], k => rfl
  | x :: xs, k => by simp [markL, markL_len xs]
theorem markL_cnt {c : α → Nat} (hc : ∀ x k, (f x k).2 = k + c x) : ∀ (xs : List α) (k : Int), (markL f xs k).2 = k + cntL c xs
  | [], k => by simp [markL, cntL]
  | x :: xs, k => by simp only [markL, cntL]; rw [markL_cnt hc xs, hc]; omega
theorem cntL_take {α : Type} {c : α → Nat} : ∀ {xs : List α} {j : Nat} (hj : j < xs.length), cntL c (xs.take j) + c xs[j] ≤ cntL c xs
  | [], j, h => by simp at h
  | x :: xs, 0, h => by simp [cntL]
  | x :: xs, j + 1, h => by
    have := cntL_take (c := c) (xs := xs) (j := j) (by simpa using h)
    simp only [List.take_succ_cons, cntL, List.getElem_cons_succ]; omega
theorem markL_app : ∀ (xs : List α) (y : α) (k : Int), markL f (xs ++ [y]) k = ((markL f xs k).1 ++ [(f y (markL f xs k).2).1], (f y (markL f xs k).2).2)
  | [], y, k => rfl
  | x :: xs, y, k => by simp [markL, markL_app xs]
/-- Marked up to j. -/
def markTo (xs : List α) (k : Int) (j : Nat) : List α := (markL f (xs.take j) k).1 ++ xs.drop j
def markK (xs : List α) (k : Int) (j : Nat) : Int := (markL f (xs.take j) k).2
theorem markTo_zero (xs : List α) (k : Int) : markTo f xs k 0 = xs := by simp [markTo, markL]
theorem markK_zero (xs : List α) (k : Int) : markK f xs k 0 = k := by simp [markK, markL]
theorem markTo_len (xs : List α) (k : Int) (j : Nat) : (markTo f xs k j).length = xs.length := by
  simp [markTo, markL_len]; omega
theorem markTo_at {xs : List α} {k : Int} {j : Nat} (hj : j < xs.length) : (markTo f xs k j)[j]? = some xs[j] := by
  rw [List.getElem?_eq_getElem (by rw [markTo_len]; exact hj)]
  simp only [markTo]
  congr 1
  rw [List.getElem_append_right (by rw [markL_len]; simp; omega)]
  simp only [markL_len, List.length_take, List.getElem_drop]
  congr 1; omega
theorem markTo_succ {xs : List α} {k : Int} {j : Nat} (hj : j < xs.length) : (markTo f xs k j).set j (f xs[j] (markK f xs k j)).1 = markTo f xs k (j + 1) := by
  simp only [markTo, markK]
  rw [List.set_append_right _ _ (by rw [markL_len]; simp; omega), markL_len]
  have h1 : j - (List.take j xs).length = 0 := by simp; omega
  rw [h1, List.drop_eq_getElem_cons hj, List.set_cons_zero, List.take_succ_eq_append_getElem (l := xs) hj, markL_app, List.append_assoc]
  rfl
theorem markK_succ {xs : List α} {k : Int} {j : Nat} (hj : j < xs.length) : markK f xs k (j + 1) = (f xs[j] (markK f xs k j)).2 := by
  simp only [markK]
  rw [List.take_succ_eq_append_getElem (l := xs) hj, markL_app]
theorem markTo_done (xs : List α) (k : Int) : markTo f xs k xs.length = (markL f xs k).1 := by simp [markTo]
theorem markK_done (xs : List α) (k : Int) : markK f xs k xs.length = (markL f xs k).2 := by simp [markK]
theorem markL_at : ∀ {xs : List α} {k : Int} {j : Nat} (hj : j < xs.length), (markL f xs k).1[j]'(by rw [markL_len]; exact hj) = (f xs[j] (markK f xs k j)).1
  | [], k, j, h => by simp at h
  | x :: xs, k, 0, h => by simp [markL, markK]
  | x :: xs, k, j + 1, h => by
    have := markL_at (xs := xs) (k := (f x k).2) (j := j) (by simpa using h)
    simp only [markL, List.getElem_cons_succ, this, markK, List.take_succ_cons]
theorem markL_at' {xs ys : List α} {k : Int} (h : (markL f xs k).1 = ys) {j : Nat} (hj : j < xs.length) : ys[j]'(by rw [← h, markL_len]; exact hj) = (f (xs[j]'hj) (markK f xs k j)).1 := by
  subst h; exact markL_at f hj
theorem markK_bound {c : α → Nat} (hc : ∀ x k, (f x k).2 = k + c x) {xs : List α} {k M : Int} (h0 : 0 ≤ k) (h1 : k + cntL c xs ≤ M) {j : Nat} (hj : j < xs.length) : 0 ≤ markK f xs k j ∧ markK f xs k j + c xs[j] ≤ M := by
  have := cntL_take (c := c) hj
  simp only [markK, markL_cnt f hc]
  omega
end
theorem cntL_le {α : Type} {c : α → Nat} {M : Nat} : ∀ {xs : List α}, (∀ x ∈ xs, c x ≤ M) → cntL c xs ≤ M * xs.length
  | [], _ => by simp [cntL]
  | x :: xs, h => by
    have h1 := h x (List.mem_cons_self ..)
    have h2 := cntL_le (c := c) (M := M) (xs := xs) fun y hy => h y (List.mem_cons_of_mem _ hy)
    simp only [cntL, List.length_cons, Nat.mul_add, Nat.mul_one]; omega
end Go.Proofs.Ytfdpigafekohgaa

/- The laws' markText: a text for a number. -/
namespace Go.Proofs.Ytfdpigafekohgaa
open Go.RowKit
set_option linter.unusedVariables false

theorem wfByte (k : Int) : wfV (.int .u8 (IntKind.u8.wrap k)) := wf_wrap _ _
end Go.Proofs.Ytfdpigafekohgaa

/- The laws' marks: MarkA (printed by genmark.py) -/
namespace Go.Proofs.Ytfdpigafekohgaa
open Go.RowKit
set_option linter.unusedVariables false
set_option linter.unusedSimpArgs false
set_option maxRecDepth 100000

end Go.Proofs.Ytfdpigafekohgaa

/- The laws' marks: MarkB (printed by genmark.py) -/
namespace Go.Proofs.Ytfdpigafekohgaa
open Go.RowKit
set_option linter.unusedVariables false
set_option linter.unusedSimpArgs false
set_option maxRecDepth 100000

end Go.Proofs.Ytfdpigafekohgaa

/- The laws' marks: MarkC (printed by genmark.py) -/
namespace Go.Proofs.Ytfdpigafekohgaa
open Go.RowKit
set_option linter.unusedVariables false
set_option linter.unusedSimpArgs false
set_option maxRecDepth 100000

end Go.Proofs.Ytfdpigafekohgaa

/- Sizes of data (printed by mktot.py) -/
namespace Go.Proofs.Ytfdpigafekohgaa
open Go.RowKit
set_option linter.unusedVariables false

end Go.Proofs.Ytfdpigafekohgaa

/- Plain laws on relations that are copied, marked, counted. -/
namespace Go.Proofs.Ytfdpigafekohgaa
open Go.RowKit
set_option linter.unusedVariables false

end Go.Proofs.Ytfdpigafekohgaa

/- Sizes of data (printed by mktot.py) -/
namespace Go.Proofs.Ytfdpigafekohgaa
open Go.RowKit
set_option linter.unusedVariables false

end Go.Proofs.Ytfdpigafekohgaa

/- Sizes of data (printed by mktot.py) -/
namespace Go.Proofs.Ytfdpigafekohgaa
open Go.RowKit
set_option linter.unusedVariables false

end Go.Proofs.Ytfdpigafekohgaa

/- Copies of relations, deltas turned back, deltas between stores, in plain words. -/
namespace Go.Proofs.Ytfdpigafekohgaa
open Go.RowKit
set_option linter.unusedVariables false

end Go.Proofs.Ytfdpigafekohgaa

/- RelPick, RelDrop in plain words. -/
namespace Go.Proofs.Ytfdpigafekohgaa
open Go.RowKit
set_option linter.unusedVariables false

theorem GoodTo.len {rows : List (List Val)} {ar : Int} {k j : Nat} (h : GoodTo rows ar k) (hj : j < rows.length) (hjk : j < k) : (rows[j].length : Int) = ar := by
  have := h j hj hjk
  cases j with
  | zero => simp only [rowAt, Bool.and_eq_true, beq_iff_eq] at this; exact this.2
  | succ j => simp only [rowAt, Bool.and_eq_true, beq_iff_eq] at this; exact this.1.2
end Go.Proofs.Ytfdpigafekohgaa

/- Numbers and texts ars bytes, in plain words. -/
namespace Go.Proofs.Ytfdpigafekohgaa
open Go.RowKit
set_option linter.unusedVariables false

/-- The bytes of n, the highest first, but for the last j of size. -/
def bpTo (n : Int) (size j : Nat) : List Int := (List.range (size - j)).map fun q => n / 256 ^ (size - 1 - q) % 256
def putB (n : Int) (size : Nat) : List Int := bpTo n size 0
theorem putB_len {n : Int} {size : Nat} : (putB n size).length = size := by simp [putB, bpTo]
theorem p256_in {k : Nat} (h : k ≤ 6) : 1 ≤ (256 : Int) ^ k ∧ (256 : Int) ^ k ≤ 281474976710656 := by
  have : k = 0 ∨ k = 1 ∨ k = 2 ∨ k = 3 ∨ k = 4 ∨ k = 5 ∨ k = 6 := by omega
  rcases this with rfl | rfl | rfl | rfl | rfl | rfl | rfl <;> decide
end Go.Proofs.Ytfdpigafekohgaa

/- Parts of slices and of texts; texts made of bytes; own arrays that are given up to be read alone. -/
namespace Go.Proofs.Ytfdpigafekohgaa
open Go.RowKit
set_option linter.unusedVariables false

theorem run_sliceOf {P : Program} {T E n : Nat} (hT : sliceT P T = some (E, n)) (w : World) (a : Option Addr) (len cap : Nat) {lo hi : Option Value} {l h : Nat} (hlo : (lo = none ∧ l = 0) ∨ ∃ k, lo = some (.int k (l : Int))) (hhi : (hi = none ∧ h = len) ∨ ∃ k, hi = some (.int k (h : Int)))
    (h1 : l ≤ h) (h2 : h ≤ cap) : (Instr.sliceAt T (.slice a len cap) lo hi none).run P w = .ok (.slice (if cap = l then a else a.map (·.add (l * n))) (h - l) (cap - l)) w := by
  obtain ⟨hu, ii, hii, rfl⟩ := sliceT_spec hT
  have e1 : (0 : Int) ≤ (l : Int) ∧ (l : Int) ≤ (h : Int) := by omega
  have e2 : (0 : Int) ≤ (h : Int) ∧ (h : Int) ≤ (cap : Int) := by omega
  rcases hlo with ⟨rfl, rfl⟩ | ⟨k, rfl⟩ <;> rcases hhi with ⟨rfl, rfl⟩ | ⟨k', rfl⟩ <;>
    simp [Instr.sliceAt, Instr.slice, run_underlying hu, Instr.sliceBounds, run_sliceBound, sizeOf, typeInfo, *]
theorem part_drop {α : Type} {xs : List α} {l : Nat} : (xs.drop l).take (xs.length - l) = xs.drop l := List.take_of_length_le (by simp)
/-- A bound of a part: an operand, or the usual one. -/
inductive OB (t : Tmps) (dv : Nat) : Option Operand → List (Nat × AVal) → Nat → Prop
  | no : OB t dv none [] dv
  | yes {o : Operand} {k : IntKind} {v : Int} {l : Nat} (h : evo t o = some (.one (.c (.int k v)))) (hv : v = (l : Int)) : OB t dv (some o) (rdo o (.one (.c (.int k v)))) l
theorem OB.rd {t : Tmps} {dv : Nat} {o : Option Operand} {rd : List (Nat × AVal)} {l : Nat} (h : OB t dv o rd l) : ∀ p ∈ rd, lk t p.1 = some p.2 := by
  cases h with
  | no => intro p hp; cases hp
  | yes h hv => exact rdo_of h
theorem OB.ev {N : Nat} {t : Tmps} {dv : Nat} {o : Option Operand} {rd : List (Nat × AVal)} {l : Nat} (h : OB t dv o rd l) {g : Gh} {s : St} {a : Act} {w : World} (r : Rep N g s a w) (hr : ∀ p ∈ rd, lk s.t p.1 = some p.2) :
    (o.map a.eval = none ∧ l = dv) ∨ ∃ k, o.map a.eval = some (.int k (l : Int)) := by
  cases h with
  | no => exact .inl ⟨rfl, rfl⟩
  | yes h hv =>
    have e4 := (eval_ok r (evs_of h) hr : CellR g s.l w _ (.c _)).1
    subst hv
    exact .inr ⟨_, congrArg some e4⟩
section ops
variable {P : Program} {N : Nat} {s : St} {d : Nat} {ty : TypeId} {pos : String} {after : Array Edge} {gd : Option (Nat × Bool)}
theorem x_slice {α : Type} {e : Enc α} {xs ys : List α} {T E n l h : Nat} {x : Operand} {lo hi : Option Operand} {rl rh : List (Nat × AVal)} (hN : Nat.blt d N = true) (hx : evo s.t x = some (.one (.sl e xs))) (hT : sliceT P T = some (E, n)) (hz : e.size = n) (ho : OB s.t 0 lo rl l) (hh : OB s.t xs.length hi rh h)
    (h1 : l ≤ h) (h2 : h ≤ xs.length) (hy : (xs.drop l).take (h - l) = ys) :
    Stp P N ⟨some d, .slice T x lo hi none, ty, pos, after, gd⟩ s ⟨(d, .one (.sl e ys)) :: s.t, s.l⟩ ⟨rdo x (.one (.sl e xs)) ++ (rl ++ rh), [], [(d, .one (.sl e ys))], [], []⟩ :=
  Stp.pure rfl hN (fun p hp => by rcases List.mem_append.1 hp with hp | hp; exact rdo_of hx p hp; rcases List.mem_append.1 hp with hp | hp; exact ho.rd p hp; exact hh.rd p hp) (by simp) fun g s' a w ht hl' r => by
    obtain ⟨ad, m, cap, bs, e1, e2, e3⟩ : CellR g s'.l w (a.eval x) (.sl e xs) := eval_ok r (evs_of hx) fun p hp => ht p (List.mem_append_left _ hp)
    have q1 := ho.ev r fun p hp => ht p (List.mem_append_right _ (List.mem_append_left _ hp))
    have q2 := hh.ev r fun p hp => ht p (List.mem_append_right _ (List.mem_append_right _ hp))
    have q2' : (hi.map a.eval = none ∧ h = m) ∨ ∃ k, hi.map a.eval = some (.int k (h : Int)) := by rw [e2.1]; exact q2
    have hrun := run_sliceOf hT w ad m cap q1 q2' h1 (by have := e2.1; have := e2.2.1; omega)
    obtain ⟨bs', p1, p2⟩ := e2.part h1 h2
    subst hz; subst hy
    exact ⟨_, by simp only [execOp, e1, Sem.run_bind, Option.map_none, hrun, Result.andThen_ok, Sem.run_pure], _, _, _, bs', rfl, p1, fun b hb => e3 b (p2 b hb)⟩
end ops
/-! ### An own array is given up: nobody writes it any more -/
def Gh.shut (g : Gh) (k : Nat) : Gh := { g with I := fun b => g.I b ∨ (g.hd k ≠ .slice none 0 0 ∧ b = g.ρ k) }
section shut
variable {g : Gh} {l : Locs} {w : World}
theorem shut_mem (m : MemR g l w) {k : Nat} {α : Type} {T : TypeId} {e : Enc α} {xs : List α} {dp : Bool} (hk : lkl l k = some (.arr T e xs dp)) :
    MemR (g.shut k) ((k, none) :: l) w ∧ (∀ K, Step K g l w (g.shut k) ((k, none) :: l) w) ∧ CellR (g.shut k) ((k, none) :: l) w (g.hd k) (.sl e xs) ∧ ∀ j, okK g l (g.shut k) ((k, none) :: l) j := by
  have live : g.hd k ≠ .slice none 0 0 → liv g k (.arr T e xs dp) := fun h => h
  have hlt : ∀ b, (g.shut k).I b → b < w.heap.size := fun b hb => hb.elim (m.ilt b) fun h => by rw [h.2]; exact m.lt hk (live h.1)
  have hu : ∀ j, j ≠ k → lkl ((k, none) :: l) j = none ∨ Untouched g l w (g.shut k) ((k, none) :: l) w j := fun j hj =>
    .inr ⟨lkl_cons_ne (Ne.symm hj), rfl, rfl, rfl, fun b hb hl => ⟨rfl, fun h => h.elim (m.notI hb hl) fun h => m.dis j k b _ hj hb hk hl (live h.1) h.2⟩⟩
  have ok : ∀ j, okK g l (g.shut k) ((k, none) :: l) j := fun j => by
    by_cases e : j = k
    · subst e; exact okK.gone lkl_cons_self
    · exact okK.same (lkl_cons_ne (Ne.symm e)) rfl rfl
  have no : ∀ {b : Blk}, lkl ((k, none) :: l) k = some b → False := fun h => by rw [lkl_cons_self] at h; cases h
  refine ⟨m.set1 k (fun _ _ => rfl) (fun _ h => .inl h) (Nat.le_refl _) hlt hu (.inl (ok k)) (fun cs h => (no h).elim) (fun α T e xs d h => (no h).elim) (fun j b b' _ _ _ h => (no h).elim) (fun α T e xs h => (no h).elim) (fun j α β T U e f xs ys _ _ _ h => (no h).elim), fun K => ?_, ?_, ok⟩
  · refine ⟨rfl, rfl, rfl, Nat.le_refl _, fun _ _ _ => rfl, fun _ h => .inl h, fun b h => h.elim .inl fun h => .inr (.inr ⟨k, _, hk, .inl ⟨live h.1, h.2⟩⟩), own_set1 k hu (fun b h => (no h).elim) (fun α T e xs h => (no h).elim), fun j hj hn => ?_⟩
    refine ⟨?_, ok j, fun cs hc => ?_⟩
    · by_cases e : k = j
      · subst e; rw [lk_cons_self]; simp
      · rw [lk_cons_ne e]; exact hn
    · by_cases e : k = j
      · subst e; rw [hk] at hc; cases hc
      · exact ⟨cs, by rw [lkl_cons_ne e]; exact hc⟩
  · obtain ⟨a, n, cap, bs, h1, h2, h3, _⟩ := (m.arr k _ _ _ _ _ hk).slice
    exact ⟨a, n, cap, bs, h1, h2, fun b hb => h3 b hb⟩
variable {P : Program} {N : Nat} {K : List Nat} {Kn : St → Prop} {Q : Exit → St → Prop} {s : St}
theorem AW_shut {α : Type} {T : TypeId} {e : Enc α} {xs : List α} {dp : Bool} {c : Code} (k t : Nat) (ht : lk s.t t = some (.one (.own k))) (hk : lkl s.l k = some (.arr T e xs dp))
    (h : AW P N K c Kn Q ⟨(t, .one (.sl e xs)) :: s.t, (k, none) :: s.l⟩) : AW P N K c Kn Q s := fun g a w r => by
  obtain ⟨m1, st1, c1, ok1⟩ := shut_mem r.mem hk
  have r1 := r.next0 (g' := g.shut k) (l' := (k, none) :: s.l) (w' := w) (fun _ _ => rfl) (fun _ h => .inl h) (Nat.le_refl _) (fun j _ => ok1 j) m1
  have hv : a.tmps.getD t undef = g.hd k := (r.tmp t _ ht : CellR g s.l w _ (.own k)) _ _ _ _ _ hk
  have r2 : Rep N (g.shut k) ⟨(t, .one (.sl e xs)) :: s.t, (k, none) :: s.l⟩ a w := ⟨r1.size, r1.defers, fun j x hj => by
    by_cases hjt : t = j
    · subst hjt
      rw [lk_cons_self] at hj; cases hj
      rw [hv]; exact c1
    · rw [lk_cons_ne hjt] at hj
      exact r1.tmp j x hj, m1⟩
  exact Go.wp_mono (h _ a w r2) fun e a1 w1 h1 => h1.trans r.mem m1 (st1 K)
end shut
end Go.Proofs.Ytfdpigafekohgaa

/- Numbers copied into a part of an own array; nil ars an array that is taken; numbers in memory are not too great. -/
namespace Go.Proofs.Ytfdpigafekohgaa
open Go.RowKit
set_option linter.unusedVariables false
set_option linter.unusedSimpArgs false

section ops
variable {P : Program} {N : Nat} {s : St} {d : Nat} {ty : TypeId} {pos : String} {after : Array Edge} {gd : Option (Nat × Bool)}
theorem FR.cut {w : World} {vs : List Value} {cs ds : List Cell} (h : FR w vs (cs ++ ds) []) : FR w (vs.take cs.length) cs [] ∧ FR w (vs.drop cs.length) ds [] := by
  obtain ⟨v1, v2, b1, b2, rfl, hb, h1, h2⟩ := FR.app.1 h
  have e := List.append_eq_nil_iff.1 hb.symm
  rw [e.1] at h1
  rw [e.2] at h2
  rw [← h1.length]
  rw [List.take_left, List.drop_left]
  exact ⟨h1, h2⟩
end ops
/-- A contract that takes an array takes nil, too. -/
theorem AT.nil {P : Program} {f : FuncId} {rest : List AVal} {α β : Type} {T U : TypeId} {e : Enc α} {e' : Enc β} {ys : List β} {d' : Bool}
    (h : AT P f (.one (.own 0) :: rest) [(0, some (.arr T e [] true))] (.one (.own 1)) [(1, some (.arr U e' ys d'))]) (hrest : rest.flatMap AVal.ids1 = []) (c : Nat) :
    AC P f (.one (.c (.slice none 0 0)) :: rest) [] (.one (.own c)) [(c, some (.arr U e' ys d'))] := by
  refine ⟨h.fn, fun g w cargs m ha => ?_⟩
  obtain ⟨g', q1, q2, q3, q4, q5⟩ := nil_new m (k := 0) rfl (by simp [Locs.ids]) α T e
  have ha' : All2 (VR1 g' [(0, some (.arr (α := α) T e [] true))] w) cargs.toList (.one (.own 0) :: rest) := by
    generalize cargs.toList = vs at ha
    cases vs with
    | nil => exact ha
    | cons v vs =>
      refine ⟨fun β U e2 ys dd hc => by rw [q1]; exact ha.1.1, ha.2.mono fun a b hb hr => VR1.step (fun _ _ => rfl) q4 (Nat.le_refl _) (fun k hk => ?_) hr⟩
      have : k ∈ rest.flatMap AVal.ids1 := List.mem_flatMap.2 ⟨b, hb, hk⟩
      rw [hrest] at this; cases this
  refine (h.run g' w cargs q2 ha').mono ?_
  rintro r w' ⟨v, g1, rfl, m1, hv, hs⟩
  have hle : LeL (fun _ => 1) [(1, some (.arr U e' ys d'))] [(c, some (.arr U e' ys d'))] := ⟨⟨_, rfl, BLe.rf⟩, trivial⟩
  have T1 := ((q3 []).trans m q2 hs).trans m m1 (Step.unren hle trivial)
  exact ⟨v, g1.ren _, rfl, m1.unren hle (by simp [injL, keys]), VR.unren (x := .one (.own c)) hle hv, T1⟩
end Go.Proofs.Ytfdpigafekohgaa

/- Smaller numbers of two; pointers that are not nil; bytes in memory are bytes. -/
namespace Go.Proofs.Ytfdpigafekohgaa
open Go.RowKit
set_option linter.unusedVariables false
section ops
variable {P : Program} {N : Nat} {s : St} {d : Nat} {ty : TypeId} {pos : String} {after : Array Edge} {gd : Option (Nat × Bool)}
end ops
theorem byte_wf {x : Int} (h : (Lit.int .u8 x).wf = true) : 0 ≤ x ∧ x ≤ 255 := by
  simp only [Lit.wf, Bool.and_eq_true, decide_eq_true_eq] at h
  exact h
theorem SliceRep.bytes {w : World} {a : Option Addr} {n cap : Nat} {xs : List Int} {bs : List Nat} (h : SliceRep (intE .u8) w a n cap xs bs) : ∀ x ∈ xs, 0 ≤ x ∧ x ≤ 255 := fun x hx => by
  obtain ⟨j, hj, rfl⟩ := List.getElem_of_mem hx
  obtain ⟨gb, o, cs, b, _, f1, _⟩ := h.get hj
  exact byte_wf f1.2.1
theorem AW_slbyte {P : Program} {N : Nat} {K : List Nat} {c : Code} {Kn : St → Prop} {Q : Exit → St → Prop} {s : St} {xs : List Int} (t : Nat) (h : lk s.t t = some (.one (.sl (intE .u8) xs))) (hA : (∀ x ∈ xs, 0 ≤ x ∧ x ≤ 255) → AW P N K c Kn Q s) : AW P N K c Kn Q s := fun g a w r => by
  obtain ⟨a0, n, cap, bs, _, h1, _⟩ : CellR g s.l w (a.tmps.getD t undef) (.sl (intE .u8) xs) := r.tmp t _ h
  exact hA h1.bytes g a w r
end Go.Proofs.Ytfdpigafekohgaa

/- Bytes read again, in plain words. -/
namespace Go.Proofs.Ytfdpigafekohgaa
open Go.RowKit
set_option linter.unusedVariables false
set_option linter.unusedSimpArgs false

/-- The number in bytes. -/
def bign (l : List Int) : Int := l.foldl (fun a x => 256 * a + x % 256) 0
theorem bign_snoc (l : List Int) (x : Int) : bign (l ++ [x]) = 256 * bign l + x % 256 := by simp [bign]
theorem bign_fold (l : List Int) : ∀ a : Int, l.foldl (fun a x => 256 * a + x % 256) a = a * 256 ^ l.length + bign l := by
  induction l with
  | nil => intro a; simp [bign]
  | cons x l ih =>
    intro a
    have h1 := ih (256 * a + x % 256)
    have h2 := ih (256 * 0 + x % 256)
    simp only [List.foldl_cons, List.length_cons, bign] at *
    rw [h1, h2, Int.pow_succ]
    grind
theorem bign_cons (x : Int) (l : List Int) : bign (x :: l) = x % 256 * 256 ^ l.length + bign l := by
  have := bign_fold l (256 * 0 + x % 256)
  show l.foldl _ (256 * 0 + x % 256) = _
  rw [this]; simp
theorem bign_in (l : List Int) : 0 ≤ bign l ∧ bign l < 256 ^ l.length := by
  induction l with
  | nil => simp [bign]
  | cons x l ih =>
    have hp : (0 : Int) < 256 ^ l.length := Int.pow_pos (by omega)
    have h0 : 0 ≤ x % 256 := by omega
    have h1 : x % 256 ≤ 255 := by omega
    have h2 := Int.mul_le_mul_of_nonneg_right h1 (Int.le_of_lt hp)
    have h3 := Int.mul_nonneg h0 (Int.le_of_lt hp)
    rw [bign_cons, List.length_cons, Int.pow_succ]
    generalize x % 256 * 256 ^ l.length = y at *
    omega
theorem bign_le {l : List Int} {n : Nat} (h : l.length ≤ n) (hn : n ≤ 6) : 0 ≤ bign l ∧ bign l < 281474976710656 := by
  have h1 := bign_in l
  have h2 := p256_in (k := l.length) (by omega)
  omega
theorem putB_succ (n : Int) (s : Nat) : putB n (s + 1) = n / 256 ^ s % 256 :: putB n s := by
  unfold putB bpTo
  rw [Nat.sub_zero, Nat.sub_zero, List.range_succ_eq_map, List.map_cons, List.map_map]
  congr 1
  apply List.map_congr_left
  intro q hq
  simp only [Function.comp, Nat.succ_eq_add_one]
  rw [show s + 1 - 1 - (q + 1) = s - 1 - q by omega]
theorem bign_putB (n : Int) (h0 : 0 ≤ n) : ∀ s : Nat, bign (putB n s) = n % 256 ^ s
  | 0 => by simp [putB, bpTo, bign]
  | s + 1 => by
    rw [putB_succ, bign_cons, bign_putB n h0 s, putB_len]
    have hp : (0 : Int) < 256 ^ s := Int.pow_pos (by omega)
    have e1 : n / 256 ^ s % 256 % 256 = n / 256 ^ s % 256 := by omega
    rw [e1, Int.pow_succ]
    have e2 := Int.emod_add_mul_ediv n (256 ^ s)
    have e3 := Int.emod_add_mul_ediv (n / 256 ^ s) 256
    have e4 := Int.emod_add_mul_ediv n (256 ^ s * 256)
    have e5 : n / (256 ^ s * 256) = n / 256 ^ s / 256 := (Int.ediv_ediv_of_nonneg (Int.le_of_lt hp)).symm
    rw [e5] at e4
    generalize n / 256 ^ s / 256 = d at *
    generalize n / 256 ^ s % 256 = c at *
    generalize n / 256 ^ s = b at *
    generalize (256 : Int) ^ s = P at *
    grind
theorem bign_put {n : Int} {s : Nat} (h0 : 0 ≤ n) (h1 : n < 256 ^ s) : bign (putB n s) = n := by
  rw [bign_putB n h0, Int.emod_eq_of_lt h0 h1]

/-! ### From the front -/
def takeI (xs : List Int) (n : Int) : Int × List Int := if (xs.length : Int) < n then (0, []) else (bign (xs.take n.toNat), xs.drop n.toNat)
theorem takeI_ok {xs : List Int} {n : Int} (h : ¬ (xs.length : Int) < n) : takeI xs n = (bign (xs.take n.toNat), xs.drop n.toNat) := if_neg h
theorem takeI_put {n : Int} {s : Nat} {r : List Int} (h0 : 0 ≤ n) (h1 : n < 256 ^ s) : takeI (putB n s ++ r) s = (n, r) := by
  rw [takeI_ok (by rw [List.length_append, putB_len]; omega), Int.toNat_natCast]
  have : s = (putB n s).length := putB_len.symm
  rw [List.take_append_of_le_length (by omega), List.drop_append_of_le_length (by omega)]
  rw [List.take_of_length_le (by omega), List.drop_eq_nil_of_le (by omega), bign_put h0 h1, List.nil_append]
theorem bign_next {l : List Int} {k : Nat} (hk : k < l.length) (hx : 0 ≤ l[k] ∧ l[k] ≤ 255) : bign (l.take (k + 1)) = 256 * bign (l.take k) + l[k] := by
  rw [List.take_succ_eq_append_getElem hk, bign_snoc]; omega
/-! ### At a place -/
def getS (b : List Int) (z n : Int) : Int := if z + n ≤ (b.length : Int) then bign ((b.drop z.toNat).take n.toNat) else 0
theorem getS_take {b : List Int} {z n : Int} (h0 : 0 ≤ z) (hn : 0 ≤ n) (h : z ≤ (b.length : Int)) : getS b z n = (takeI (b.drop z.toNat) n).1 := by
  unfold getS takeI
  rw [List.length_drop]
  split
  · rw [if_neg (by omega)]
  · rw [if_pos (by omega)]
section
variable {b : List Int}
/-- From place z on there lies r. -/
def Lies (b : List Int) (z : Int) (r : List Int) : Prop := 0 ≤ z ∧ z ≤ (b.length : Int) ∧ b.drop z.toNat = r
theorem Lies.take {z : Int} {n : Int} {s : Nat} {r : List Int} (h : Lies b z (putB n s ++ r)) (h0 : 0 ≤ n) (h1 : n < 256 ^ s) : getS b z s = n ∧ Lies b (z + s) r := by
  have h2 := takeI_put (r := r) h0 h1
  have hl := congrArg List.length h.2.2
  rw [List.length_drop, List.length_append, putB_len] at hl
  refine ⟨by rw [getS_take h.1 (by omega) h.2.1, h.2.2, h2], by have := h.1; omega, by have := h.1; have := h.2.1; omega, ?_⟩
  have e : (z + (s : Int)).toNat = z.toNat + s := by have := h.1; omega
  rw [e, ← List.drop_drop, h.2.2]
  have : s = (putB n s).length := putB_len.symm
  conv => lhs; rw [this]
  rw [putB_len]
  exact List.drop_left' putB_len
end
end Go.Proofs.Ytfdpigafekohgaa

/- Parts of a stream of messages, in plain words. -/
namespace Go.Proofs.Ytfdpigafekohgaa
open Go.RowKit
set_option linter.unusedVariables false

structure Partt where
  b : List Int
def partE : Enc Partt := isoE (pairE (sliceE (intE .u8)) unitE) (fun x => (x.b, ()))
def partC (x : Partt) : List Cell := [.sl (intE .u8) x.b]
instance : CellsOf partE partC := cellsIso (e := (pairE (sliceE (intE .u8)) unitE)) (fun x : Partt => (x.b, ()))
def cutN (r : List Int) : Int := bign ((r.drop 2).take 2)
def cutRun : Nat → List Int → List Partt → (List Partt × List Int) × Bool
  | 0, r, ps => ((ps, r), true)
  | f + 1, r, ps => if r.length < 4 then ((ps, r), true) else if cutN r < 12 ∨ 300 < cutN r then (([], []), false) else if (r.length : Int) < cutN r then ((ps, r), true) else cutRun f (r.drop (cutN r).toNat) (ps ++ [⟨r.take (cutN r).toNat⟩])
def cut (hold piece : List Int) : (List Partt × List Int) × Bool := if 300 < hold.length ∨ 60000 < piece.length then (([], []), false) else cutRun (hold ++ piece).length (hold ++ piece) []
theorem cut_no {hold piece : List Int} (h : 300 < (hold.length : Int) ∨ 60000 < (piece.length : Int)) : cut hold piece = (([], []), false) := if_pos (by omega)
theorem cut_ok {hold piece : List Int} (h : ¬ 300 < (hold.length : Int)) (h2 : ¬ 60000 < (piece.length : Int)) : cut hold piece = cutRun (hold ++ piece).length (hold ++ piece) [] := if_neg (by omega)
section
variable {f : Nat} {r : List Int} {ps : List Partt}
theorem cutRun_short (h : (r.length : Int) < 4) : cutRun f r ps = ((ps, r), true) := by
  cases f with
  | zero => rfl
  | succ f => exact if_pos (by omega)
theorem cutRun_bad (hf : r.length ≤ f) (hl : 4 ≤ (r.length : Int)) (h : cutN r < 12 ∨ 300 < cutN r) : cutRun f r ps = (([], []), false) := by
  cases f with
  | zero => omega
  | succ f => unfold cutRun; rw [if_neg (by omega), if_pos h]
theorem cutRun_stop (hf : r.length ≤ f) (hl : 4 ≤ (r.length : Int)) (h1 : 12 ≤ cutN r) (h2 : cutN r ≤ 300) (h : (r.length : Int) < cutN r) : cutRun f r ps = ((ps, r), true) := by
  cases f with
  | zero => omega
  | succ f => unfold cutRun; rw [if_neg (by omega), if_neg (by omega), if_pos h]
theorem cutRun_more (hf : r.length ≤ f) (hl : 4 ≤ (r.length : Int)) (h1 : 12 ≤ cutN r) (h2 : cutN r ≤ 300) (h : cutN r ≤ (r.length : Int)) : cutRun f r ps = cutRun (f - 1) (r.drop (cutN r).toNat) (ps ++ [⟨r.take (cutN r).toNat⟩]) := by
  cases f with
  | zero => omega
  | succ f => conv => lhs; unfold cutRun
              rw [if_neg (by omega), if_neg (by omega), if_neg (by omega)]; rfl
theorem getS_cut (h : 4 ≤ (r.length : Int)) : getS r 2 2 = cutN r := by
  unfold getS cutN
  rw [if_pos (by omega)]; rfl
end
end Go.Proofs.Ytfdpigafekohgaa

/- The laws' own functions (printed by walk.py) -/
namespace Go.Proofs.Ytfdpigafekohgaa
open Go.RowKit
set_option linter.unusedVariables false
set_option linter.unusedSimpArgs false
set_option maxRecDepth 100000

set_option maxHeartbeats 4000000 in
theorem eqByteS_c (xs : List (Int)) : AC Try.prog 16 [.one (.sl (intE .u8) xs), .one (.sl (intE .u8) xs)] [] (.one (.c (.bool true))) [] := by
  refine AC_body1 Try.func16 rfl rfl Try.ntmps16 rfl Try.results16 ?_
  refine AW_slmax 0 rfl (fun hm0 => ?_)
  refine AW_seq ?_
  refine AW_region ?_
  refine AL_p (x_assign rfl rfl) ?_
  refine AL_nil ?_
  refine AW_seq ?_
  refine AW_seq ?_
  refine AW_region ?_
  refine AL_p (x_move rfl rfl) ?_
  refine AL_p (x_len (E := 5) (n := 1) rfl rfl (by kernel_rfl)) ?_
  refine AL_p (x_move rfl rfl) ?_
  refine AL_p (x_len (E := 5) (n := 1) rfl rfl (by kernel_rfl)) ?_
  refine AL_b (x_neq rfl rfl rfl) (fun b10 h10 => ?_)
  refine AL_nil ?_
  cases b10
  rotate_left
  · exfalso; first | (simp [ba_beq_self] at h10; done) | grind
  try simp only [tdy] at h10
  refine AW_condF rfl ?_
  refine AW_skip ?_
  refine AW_seq ?_
  refine AW_seq ?_
  refine AW_region ?_
  refine AL_p (x_assign rfl rfl) ?_
  refine AL_nil ?_
  refine AW_block ?_
  refine AW_loop2 (ι := {q : Nat // q ≤ xs.length}) (fun p => [(5, .one (.c (.int .i64 ((p.1) : Int))))]) (fun p => []) [0, 1] [] (fun p => xs.length - (p.1)) ⟨0, by omega⟩ (rn []) ?_ ?_
  exact ⟨by (repeat refine ⟨⟨_, rfl, by first | exact VLe.rf | exact vle_int (by dsimp only; omega)⟩, ?_⟩); exact trivial, by (repeat refine ⟨⟨_, rfl, by first | exact BLe.rf | exact BLe.box AllC.rf | exact BLe.arr (by exact rfl)⟩, ?_⟩); exact trivial, by repeat (first | exact trivial | refine ⟨⟨rfl, by first | (left; intro h; cases h) | (right; rfl), by first | exact (fun _ h => ⟨_, h⟩) | exact (fun _ _ => ⟨_, rfl⟩)⟩, ?_⟩), rfl⟩
  rintro ⟨k, hinv⟩
  dsimp only
  refine AW_seq ?_
  refine AW_seq ?_
  refine AW_region ?_
  refine AL_p (x_move rfl rfl) ?_
  refine AL_p (x_move rfl rfl) ?_
  refine AL_p (x_len (E := 5) (n := 1) rfl rfl (by kernel_rfl)) ?_
  refine AL_b (x_lss rfl rfl rfl) (fun b14 h14 => ?_)
  refine AL_nil ?_
  cases b14
  · try simp only [tdy] at h14
    refine AW_condF rfl ?_
    refine AW_exit (BQ_hit ?_)
    refine AW_seq ?_
    refine AW_region ?_
    refine AL_p (x_assign rfl rfl) ?_
    refine AL_nil ?_
    refine AW_ret ?_
    exact ⟨rn [], ⟨⟨⟨_, rfl, vle_bool (rfl)⟩, trivial⟩, trivial, trivial, rfl⟩⟩
  try simp only [tdy] at h14
  refine AW_condT rfl ?_
  refine AW_skip ?_
  refine AW_seq ?_
  refine AW_block ?_
  refine AW_seq ?_
  refine AW_draw rfl ?_
  refine AL_p (x_move rfl rfl) ?_
  refine AL_p (x_move rfl rfl) ?_
  refine AL_p (x_index (E := 5) (n := 1) rfl rfl rfl (by kernel_rfl) rfl (k := k) (by omega) (by omega)) ?_
  refine AL_p (x_eload1 rfl rfl (by kernel_rfl) rfl) ?_
  refine AL_p (x_move rfl rfl) ?_
  refine AL_p (x_move rfl rfl) ?_
  refine AL_p (x_index (E := 5) (n := 1) rfl rfl rfl (by kernel_rfl) rfl (k := k) (by omega) (by omega)) ?_
  refine AL_p (x_eload1 rfl rfl (by kernel_rfl) rfl) ?_
  refine AL_b (x_neq rfl rfl rfl) (fun b25 h25 => ?_)
  refine AL_nild (by kernel_rfl) ?_
  cases b25
  rotate_left
  · exfalso; first | (simp [ba_beq_self] at h25; done) | grind
  try simp only [tdy] at h25
  refine AW_condF rfl ?_
  refine AW_skip ?_
  refine AW_region ?_
  refine AL_p (x_move rfl rfl) ?_
  refine AL_p (x_add rfl rfl rfl (IntWalk.i64_in _ (by omega))) ?_
  refine AL_p (x_assign rfl rfl) ?_
  refine AL_nil ?_
  refine ⟨⟨k + 1, by omega⟩, rn [], ?_, by dsimp only; omega⟩
  exact ⟨by (repeat refine ⟨⟨_, rfl, by first | exact VLe.rf | exact vle_int (by dsimp only; omega)⟩, ?_⟩); exact trivial, by (repeat refine ⟨⟨_, rfl, by first | exact BLe.rf | exact BLe.box AllC.rf | exact BLe.arr (by exact rfl)⟩, ?_⟩); exact trivial, by repeat (first | exact trivial | refine ⟨⟨rfl, by first | (left; intro h; cases h) | (right; rfl), by first | exact (fun _ h => ⟨_, h⟩) | exact (fun _ _ => ⟨_, rfl⟩)⟩, ?_⟩), rfl⟩

set_option maxHeartbeats 4000000 in
theorem toByteS_c0 (xs : List (Int)) (hs : xs.length ≤ 1048576) : AC Try.prog 13 [.one (.sl (intE .u8) xs)] [] (.one (.own 0)) [(0, some (.arr 5 (intE .u8) xs true))] := by
  refine AC_body1 Try.func13 rfl rfl Try.ntmps13 rfl Try.results13 ?_
  refine AW_seq ?_
  refine AW_region ?_
  refine AL_p (x_assign rfl rfl) ?_
  refine AL_nil ?_
  refine AW_seq ?_
  refine AW_region ?_
  refine AL_p (x_move rfl rfl) ?_
  refine AL_p (x_len (E := 5) (n := 1) rfl rfl (by kernel_rfl)) ?_
  refine AL_p (x_make (T := 22) (E := 5) (e := (intE .u8)) ((0 : Int)) (z := .int .u8 0) 100 rfl rfl rfl (by kernel_rfl) rfl FitL.rf rfl rfl (by kernel_rfl) (by have := hs; omega)) ?_
  refine AL_p (x_assign rfl rfl) ?_
  refine AL_nil ?_
  refine AW_seq ?_
  refine AW_seq ?_
  refine AW_region ?_
  refine AL_p (x_assign rfl rfl) ?_
  refine AL_nil ?_
  refine AW_block ?_
  refine AW_loop2 (ι := {q : Nat // q ≤ xs.length}) (fun p => [(4, .one (.c (.int .i64 ((p.1) : Int))))]) (fun p => [(100, some (.arr 5 (intE .u8) (filledTo xs ((0 : Int)) (p.1)) true))]) [0, 3] [] (fun p => xs.length - (p.1)) ⟨0, by omega⟩ (rn []) ?_ ?_
  exact ⟨by (repeat refine ⟨⟨_, rfl, by first | exact VLe.rf | exact vle_int (by dsimp only; omega)⟩, ?_⟩); exact trivial, by (repeat refine ⟨⟨_, rfl, by first | exact BLe.rf | exact BLe.box AllC.rf | exact BLe.arr (by first | exact filledTo_zero | exact filledTo_succ (by omega))⟩, ?_⟩); exact trivial, by repeat (first | exact trivial | refine ⟨⟨rfl, by first | (left; intro h; cases h) | (right; rfl), by first | exact (fun _ h => ⟨_, h⟩) | exact (fun _ _ => ⟨_, rfl⟩)⟩, ?_⟩), rfl⟩
  rintro ⟨k, hinv⟩
  dsimp only
  have hlen := hs
  refine AW_seq ?_
  refine AW_seq ?_
  refine AW_region ?_
  refine AL_p (x_move rfl rfl) ?_
  refine AL_p (x_move rfl rfl) ?_
  refine AL_p (x_len (E := 5) (n := 1) rfl rfl (by kernel_rfl)) ?_
  refine AL_b (x_lss rfl rfl rfl) (fun b11 h11 => ?_)
  refine AL_nil ?_
  cases b11
  · try simp only [tdy] at h11
    refine AW_condF rfl ?_
    refine AW_exit (BQ_hit ?_)
    refine AW_seq ?_
    refine AW_region ?_
    refine AL_p (x_move rfl rfl) ?_
    refine AL_p (x_assign rfl rfl) ?_
    refine AL_nil ?_
    refine AW_ret ?_
    exact ⟨rn [(0, 100)], ⟨⟨⟨_, rfl, VLe.rf⟩, trivial⟩, ⟨⟨_, rfl, BLe.arr (filledTo_done (by omega))⟩, trivial⟩, trivial, rfl⟩⟩
  try simp only [tdy] at h11
  refine AW_condT rfl ?_
  refine AW_skip ?_
  refine AW_seq ?_
  refine AW_block ?_
  refine AW_region ?_
  refine AL_p (x_move rfl rfl) ?_
  refine AL_p (x_move rfl rfl) ?_
  refine AL_p (x_move rfl rfl) ?_
  refine AL_p (x_move rfl rfl) ?_
  refine AL_p (x_index (E := 5) (n := 1) rfl rfl rfl (by kernel_rfl) rfl (k := k) (by omega) (by omega)) ?_
  refine AL_p (x_eload1 rfl rfl (by kernel_rfl) rfl) ?_
  refine AL_p (x_oindex (n := 1) rfl rfl rfl rfl (by kernel_rfl) rfl (k := k) rfl (by rw [filledTo_len (by omega)]; omega)) ?_
  refine AL_p (x_ostore (xs[k]'(by omega)) rfl rfl rfl rfl (by kernel_rfl) rfl rfl rfl rfl FitL.rf rfl rfl (by first | omega | (rw [filledTo_len (by omega)]; omega) | (simp; omega))) ?_
  refine AL_nil ?_
  refine AW_region ?_
  refine AL_p (x_move rfl rfl) ?_
  refine AL_p (x_add rfl rfl rfl (IntWalk.i64_in _ (by omega))) ?_
  refine AL_p (x_assign rfl rfl) ?_
  refine AL_nil ?_
  refine ⟨⟨k + 1, by omega⟩, rn [], ?_, by dsimp only; omega⟩
  exact ⟨by (repeat refine ⟨⟨_, rfl, by first | exact VLe.rf | exact vle_int (by dsimp only; omega)⟩, ?_⟩); exact trivial, by (repeat refine ⟨⟨_, rfl, by first | exact BLe.rf | exact BLe.box AllC.rf | exact BLe.arr (by first | exact filledTo_zero | exact filledTo_succ (by omega))⟩, ?_⟩); exact trivial, by repeat (first | exact trivial | refine ⟨⟨rfl, by first | (left; intro h; cases h) | (right; rfl), by first | exact (fun _ h => ⟨_, h⟩) | exact (fun _ _ => ⟨_, rfl⟩)⟩, ?_⟩), rfl⟩
theorem toByteS_c (xs : List (Int)) (hs : xs.length ≤ 1048576) (k : Nat) : AC Try.prog 13 [.one (.sl (intE .u8) xs)] [] (.one (.own k)) [(k, some (.arr 5 (intE .u8) xs true))] := AC.at (toByteS_c0 xs hs) k

set_option maxHeartbeats 4000000 in
theorem eqPart_c (x : Partt) : AC Try.prog 57 [.agg (partC x), .agg (partC x)] [] (.one (.c (.bool true))) [] := by
  refine AC_body1 Try.func57 rfl rfl Try.ntmps57 rfl Try.results57 ?_
  refine AW_seq ?_
  refine AW_region ?_
  refine AL_p (x_box 100 rfl rfl rfl rfl rfl rfl rfl) ?_
  refine AL_p (x_box 101 rfl rfl rfl rfl rfl rfl rfl) ?_
  refine AL_p (x_assign rfl rfl) ?_
  refine AL_nil ?_
  refine AW_seq ?_
  refine AW_seq ?_
  refine AW_region ?_
  refine AL_p (x_field (off := 0) (o' := 0) rfl rfl rfl (by kernel_rfl) rfl) ?_
  refine AL_p (x_load1 rfl rfl rfl (by kernel_rfl) rfl) ?_
  refine AL_p (x_field (off := 0) (o' := 0) rfl rfl rfl (by kernel_rfl) rfl) ?_
  refine AL_p (x_load1 rfl rfl rfl (by kernel_rfl) rfl) ?_
  refine AL_p (x_call0 rfl rfl rfl (eqByteS_c _) rfl rfl) ?_
  refine AL_p (x_not rfl rfl) ?_
  refine AL_nil ?_
  refine AW_condF rfl ?_
  refine AW_skip ?_
  refine AW_seq ?_
  refine AW_region ?_
  refine AL_p (x_assign rfl rfl) ?_
  refine AL_nil ?_
  refine AW_ret ?_
  exact ⟨rn [], ⟨⟨⟨_, rfl, vle_bool (rfl)⟩, trivial⟩, trivial, trivial, rfl⟩⟩

set_option maxHeartbeats 4000000 in
theorem eqPartS_c (xs : List (Partt)) : AC Try.prog 15 [.one (.sl partE xs), .one (.sl partE xs)] [] (.one (.c (.bool true))) [] := by
  refine AC_body1 Try.func15 rfl rfl Try.ntmps15 rfl Try.results15 ?_
  refine AW_slmax 0 rfl (fun hm0 => ?_)
  refine AW_seq ?_
  refine AW_region ?_
  refine AL_p (x_assign rfl rfl) ?_
  refine AL_nil ?_
  refine AW_seq ?_
  refine AW_seq ?_
  refine AW_region ?_
  refine AL_p (x_move rfl rfl) ?_
  refine AL_p (x_len (E := 34) (n := 1) rfl rfl (by kernel_rfl)) ?_
  refine AL_p (x_move rfl rfl) ?_
  refine AL_p (x_len (E := 34) (n := 1) rfl rfl (by kernel_rfl)) ?_
  refine AL_b (x_neq rfl rfl rfl) (fun b10 h10 => ?_)
  refine AL_nil ?_
  cases b10
  rotate_left
  · exfalso; first | (simp [ba_beq_self] at h10; done) | grind
  try simp only [tdy] at h10
  refine AW_condF rfl ?_
  refine AW_skip ?_
  refine AW_seq ?_
  refine AW_seq ?_
  refine AW_region ?_
  refine AL_p (x_assign rfl rfl) ?_
  refine AL_nil ?_
  refine AW_block ?_
  refine AW_loop2 (ι := {q : Nat // q ≤ xs.length}) (fun p => [(5, .one (.c (.int .i64 ((p.1) : Int))))]) (fun p => []) [0, 1] [] (fun p => xs.length - (p.1)) ⟨0, by omega⟩ (rn []) ?_ ?_
  exact ⟨by (repeat refine ⟨⟨_, rfl, by first | exact VLe.rf | exact vle_int (by dsimp only; omega)⟩, ?_⟩); exact trivial, by (repeat refine ⟨⟨_, rfl, by first | exact BLe.rf | exact BLe.box AllC.rf | exact BLe.arr (by exact rfl)⟩, ?_⟩); exact trivial, by repeat (first | exact trivial | refine ⟨⟨rfl, by first | (left; intro h; cases h) | (right; rfl), by first | exact (fun _ h => ⟨_, h⟩) | exact (fun _ _ => ⟨_, rfl⟩)⟩, ?_⟩), rfl⟩
  rintro ⟨k, hinv⟩
  dsimp only
  refine AW_seq ?_
  refine AW_seq ?_
  refine AW_region ?_
  refine AL_p (x_move rfl rfl) ?_
  refine AL_p (x_move rfl rfl) ?_
  refine AL_p (x_len (E := 34) (n := 1) rfl rfl (by kernel_rfl)) ?_
  refine AL_b (x_lss rfl rfl rfl) (fun b14 h14 => ?_)
  refine AL_nil ?_
  cases b14
  · try simp only [tdy] at h14
    refine AW_condF rfl ?_
    refine AW_exit (BQ_hit ?_)
    refine AW_seq ?_
    refine AW_region ?_
    refine AL_p (x_assign rfl rfl) ?_
    refine AL_nil ?_
    refine AW_ret ?_
    exact ⟨rn [], ⟨⟨⟨_, rfl, vle_bool (rfl)⟩, trivial⟩, trivial, trivial, rfl⟩⟩
  try simp only [tdy] at h14
  refine AW_condT rfl ?_
  refine AW_skip ?_
  refine AW_seq ?_
  refine AW_block ?_
  refine AW_seq ?_
  refine AW_draw rfl ?_
  refine AL_p (x_move rfl rfl) ?_
  refine AL_p (x_move rfl rfl) ?_
  refine AL_p (x_index (E := 34) (n := 1) rfl rfl rfl (by kernel_rfl) rfl (k := k) (by omega) (by omega)) ?_
  refine AL_p (x_eloadW (n := 1) rfl rfl (by kernel_rfl) rfl) ?_
  refine AL_p (x_move rfl rfl) ?_
  refine AL_p (x_move rfl rfl) ?_
  refine AL_p (x_index (E := 34) (n := 1) rfl rfl rfl (by kernel_rfl) rfl (k := k) (by omega) (by omega)) ?_
  refine AL_p (x_eloadW (n := 1) rfl rfl (by kernel_rfl) rfl) ?_
  refine AL_p (x_call0 rfl rfl rfl (eqPart_c _) rfl rfl) ?_
  refine AL_p (x_not rfl rfl) ?_
  refine AL_nild (by kernel_rfl) ?_
  refine AW_condF rfl ?_
  refine AW_skip ?_
  refine AW_region ?_
  refine AL_p (x_move rfl rfl) ?_
  refine AL_p (x_add rfl rfl rfl (IntWalk.i64_in _ (by omega))) ?_
  refine AL_p (x_assign rfl rfl) ?_
  refine AL_nil ?_
  refine ⟨⟨k + 1, by omega⟩, rn [], ?_, by dsimp only; omega⟩
  exact ⟨by (repeat refine ⟨⟨_, rfl, by first | exact VLe.rf | exact vle_int (by dsimp only; omega)⟩, ?_⟩); exact trivial, by (repeat refine ⟨⟨_, rfl, by first | exact BLe.rf | exact BLe.box AllC.rf | exact BLe.arr (by exact rfl)⟩, ?_⟩); exact trivial, by repeat (first | exact trivial | refine ⟨⟨rfl, by first | (left; intro h; cases h) | (right; rfl), by first | exact (fun _ h => ⟨_, h⟩) | exact (fun _ _ => ⟨_, rfl⟩)⟩, ?_⟩), rfl⟩

end Go.Proofs.Ytfdpigafekohgaa

/- The laws' marks: MarkP (printed by genmark.py) -/
namespace Go.Proofs.Ytfdpigafekohgaa
open Go.RowKit
set_option linter.unusedVariables false
set_option linter.unusedSimpArgs false
set_option maxRecDepth 100000

def markByte (x : Int) (k : Int) : Int × Int := (IntKind.u8.wrap (k), k + 1)
def cntByte (x : Int) : Nat := 1
theorem markByte_cnt (x : Int) (k : Int) : (markByte x k).2 = k + cntByte x := by
  simp only [markByte, cntByte]
  try omega
set_option maxHeartbeats 4000000 in
theorem markByteS_any (a : Option Addr) (n cap : Nat) (xs : List (Int)) (bs : List Nat) (k : Int) (lo : Nat) (w : World) (h : SliceRep (intE .u8) w a n cap xs bs) (hF : Fresh lo w bs) (k0 : 0 ≤ k) (k1 : k + cntL cntByte xs ≤ 4611686018427387904) :
    Calls Try.prog 17 #[.slice a n cap, .int .i64 k] w fun e w' => e = .returned (.int .i64 (markL markByte xs k).2) ∧ SliceRep (intE .u8) w' a n cap (markL markByte xs k).1 bs ∧ Only bs w w' := by
  have hmax := h.max
  obtain rfl := h.1
  go_enter Try.func17, Try.ntmps17
  go_wp2_with fail
  go_loopw [1, 5] (fun l i W => ∃ (j : Nat), j ≤ xs.length ∧ i = .int .i64 j ∧ l = .int .i64 (markK markByte xs k j) ∧ SliceRep (intE .u8) W a xs.length cap (markTo markByte xs k j) bs ∧ Only bs w W) (fun _ i _ => xs.length - (intOf i).toNat)
  case atStart => exact ⟨0, Nat.zero_le _, rfl, by rw [markK_zero], by rw [markTo_zero]; exact h, Only.refl _ _⟩
  case round =>
    obtain ⟨j, hj, rfl, rfl, hS, hO⟩ := hrel
    by_cases hlt : j < xs.length
    · obtain ⟨g, off, _, _, rfl, _⟩ := h.get hlt
      have HF := hF.only hO
      obtain ⟨q0, q1⟩ := markK_bound markByte markByte_cnt k0 k1 hlt
      have hat := markTo_at markByte (k := k) hlt
      have HS := Lib.hid (markTo_succ markByte (k := k) hlt)
      have HK := Lib.hid (markK_succ markByte (k := k) hlt)
      have hl := markTo_len markByte xs k j
      have NJ := Lib.hid (show j + 1 ≤ xs.length by omega)
      have i0 : (0 : Int) ≤ (j : Int) := by omega
      have i1 : (j : Int) < (xs.length : Int) := by omega
      generalize markTo markByte xs k j = ys at hS hat HS hl
      generalize markK markByte xs k j = q at q0 q1 HS HK
      generalize xs[j] = x at hat HS HK q1
      rw [← set_same hat] at hS
      have hjy : j < ys.length := by omega
      clear hat
      have Q1 := Lib.hid q1
      simp only [cntByte] at q1
      obtain ⟨c0, d0⟩ := hS.cellAt2 HF hjy (c := 0) rfl
      obtain ⟨hS0, o0⟩ := hS.put2 HF hjy 0 (.int .u8 (IntKind.u8.wrap (q))) (IntKind.u8.wrap (q) : Int) rfl (wfByte _) rfl
      simp only [show Enc.size (intE .u8) = 1 from rfl, Nat.mul_one, Nat.add_zero] at c0 d0 hS0 o0
      clear hS
      have hS := hS0
      clear hS0
      replace hO := hO.trans o0
      replace HF := HF.only o0
      clear o0
      go_wp2_with fail
      go_roundw
      case rel => exact ⟨j + 1, NJ.out, by go_num, by rw [HK.out]; rfl, by rw [← HS.out]; exact hS, hO⟩
      case measure => simp [intOf]; omega
    · obtain rfl : j = xs.length := by omega
      rw [markTo_done] at hS
      go_wp2_with fail
      go_ret
      exact ⟨ret_int (markK_done _ _ _), hS, hO⟩

end Go.Proofs.Ytfdpigafekohgaa

/- The laws' marks: MarkQ (printed by genmark.py) -/
namespace Go.Proofs.Ytfdpigafekohgaa
open Go.RowKit
set_option linter.unusedVariables false
set_option linter.unusedSimpArgs false
set_option maxRecDepth 100000

def markPart (x : Partt) (k : Int) : Partt × Int := (⟨(markL markByte x.b (k)).1⟩, (markL markByte x.b (k)).2)
def cntPart (x : Partt) : Nat := cntL cntByte x.b
theorem markPart_cnt (x : Partt) (k : Int) : (markPart x k).2 = k + cntPart x := by
  simp only [markPart, cntPart, markL_cnt markByte markByte_cnt]
  try omega
set_option maxHeartbeats 4000000 in
theorem markPartS_any (a : Option Addr) (n cap : Nat) (xs : List (Partt)) (bs : List Nat) (k : Int) (lo : Nat) (w : World) (h : SliceRep partE w a n cap xs bs) (hF : Fresh lo w bs) (k0 : 0 ≤ k) (k1 : k + cntL cntPart xs ≤ 4611686018427387904) :
    Calls Try.prog 18 #[.slice a n cap, .int .i64 k] w fun e w' => e = .returned (.int .i64 (markL markPart xs k).2) ∧ SliceRep partE w' a n cap (markL markPart xs k).1 bs ∧ Only bs w w' := by
  have hmax := h.max
  obtain rfl := h.1
  go_enter Try.func18, Try.ntmps18
  go_wp2_with fail
  go_loopw [1, 5] (fun l i W => ∃ (j : Nat), j ≤ xs.length ∧ i = .int .i64 j ∧ l = .int .i64 (markK markPart xs k j) ∧ SliceRep partE W a xs.length cap (markTo markPart xs k j) bs ∧ Only bs w W) (fun _ i _ => xs.length - (intOf i).toNat)
  case atStart => exact ⟨0, Nat.zero_le _, rfl, by rw [markK_zero], by rw [markTo_zero]; exact h, Only.refl _ _⟩
  case round =>
    obtain ⟨j, hj, rfl, rfl, hS, hO⟩ := hrel
    by_cases hlt : j < xs.length
    · obtain ⟨g, off, _, _, rfl, _⟩ := h.get hlt
      have HF := hF.only hO
      obtain ⟨q0, q1⟩ := markK_bound markPart markPart_cnt k0 k1 hlt
      have hat := markTo_at markPart (k := k) hlt
      have HS := Lib.hid (markTo_succ markPart (k := k) hlt)
      have HK := Lib.hid (markK_succ markPart (k := k) hlt)
      have hl := markTo_len markPart xs k j
      have NJ := Lib.hid (show j + 1 ≤ xs.length by omega)
      have i0 : (0 : Int) ≤ (j : Int) := by omega
      have i1 : (j : Int) < (xs.length : Int) := by omega
      generalize markTo markPart xs k j = ys at hS hat HS hl
      generalize markK markPart xs k j = q at q0 q1 HS HK
      generalize xs[j] = x at hat HS HK q1
      rw [← set_same hat] at hS
      have hjy : j < ys.length := by omega
      clear hat
      have Q1 := Lib.hid q1
      simp only [cntPart] at q1
      obtain ⟨a0, n0, p0, b0, c0, r0, F0, next0⟩ := hS.nest2 HF hjy (c := 0) rfl
      simp only [show Enc.size partE = 1 from rfl, Nat.mul_one, Nat.add_zero] at c0
      go_wp2_with fail
      refine (markByteS_any _ _ _ _ _ _ lo _ r0 F0 (by omega) (by omega)).mono ?_
      rintro e w0 ⟨rfl, rr, oo⟩
      obtain ⟨hS0, o0⟩ := next0 w0 _ (⟨(markL markByte x.b (q)).1⟩ : Partt) rr oo rfl
      have v0 := markL_cnt markByte markByte_cnt x.b (q)
      have y0 : 0 ≤ (markL markByte x.b (q)).2 := by omega
      have z0 : (markL markByte x.b (q)).2 + ((0 : Nat) : Int) ≤ 4611686018427387904 := by omega
      clear hS
      have hS := hS0
      replace hO := hO.trans o0
      replace HF := HF.only o0
      clear hS0 o0 rr oo r0 F0 next0 v0 c0
      go_wp2_with fail
      go_roundw
      case rel => exact ⟨j + 1, NJ.out, by go_num, by rw [HK.out]; rfl, by rw [← HS.out]; exact hS, hO⟩
      case measure => simp [intOf]; omega
    · obtain rfl : j = xs.length := by omega
      rw [markTo_done] at hS
      go_wp2_with fail
      go_ret
      exact ⟨ret_int (markK_done _ _ _), hS, hO⟩

end Go.Proofs.Ytfdpigafekohgaa

/- The laws' held functions (printed by walk.py) -/
namespace Go.Proofs.Ytfdpigafekohgaa
open Go.RowKit
set_option linter.unusedVariables false
set_option linter.unusedSimpArgs false
set_option maxRecDepth 100000

set_option maxHeartbeats 4000000 in
theorem heldByteS_c (xs ys : List (Int)) (q : Int) (hy : (markL markByte xs q).1 = ys) (k0 : 0 ≤ q) (k1 : q + cntL cntByte xs ≤ 4611686018427387904) : AC Try.prog 20 [.one (.sl (intE .u8) ys), .one (.c (.int .i64 q))] [] (.one (.c (.int .i64 (markL markByte xs q).2))) [] := by
  refine AC_body1 Try.func20 rfl rfl Try.ntmps20 rfl Try.results20 ?_
  refine AW_slmax 0 rfl (fun hm0 => ?_)
  refine AW_seq ?_
  refine AW_region ?_
  refine AL_p (x_assign rfl rfl) ?_
  refine AL_nil ?_
  refine AW_seq ?_
  refine AW_seq ?_
  refine AW_region ?_
  refine AL_p (x_assign rfl rfl) ?_
  refine AL_nil ?_
  refine AW_block ?_
  refine AW_loop2 (ι := {q : Nat // q ≤ xs.length}) (fun p => [(1, .one (.c (.int .i64 (markK markByte xs q (p.1))))), (5, .one (.c (.int .i64 ((p.1) : Int))))]) (fun p => []) [0] [] (fun p => xs.length - (p.1)) ⟨0, by omega⟩ (rn []) ?_ ?_
  exact ⟨by (repeat refine ⟨⟨_, rfl, by first | exact VLe.rf | exact vle_int (by dsimp only; omega) | exact vle_int (markK_zero _ _ _).symm | exact vle_int (by rw [hks]; rfl)⟩, ?_⟩); exact trivial, by (repeat refine ⟨⟨_, rfl, by first | exact BLe.rf | exact BLe.box AllC.rf | exact BLe.arr (by exact rfl)⟩, ?_⟩); exact trivial, by repeat (first | exact trivial | refine ⟨⟨rfl, by first | (left; intro h; cases h) | (right; rfl), by first | exact (fun _ h => ⟨_, h⟩) | exact (fun _ _ => ⟨_, rfl⟩)⟩, ?_⟩), rfl⟩
  rintro ⟨k, hinv⟩
  dsimp only
  have hl : ys.length = xs.length := by rw [← hy, markL_len]
  refine AW_seq ?_
  refine AW_seq ?_
  refine AW_region ?_
  refine AL_p (x_move rfl rfl) ?_
  refine AL_p (x_move rfl rfl) ?_
  refine AL_p (x_len (E := 5) (n := 1) rfl rfl (by kernel_rfl)) ?_
  refine AL_b (x_lss rfl rfl rfl) (fun b9 h9 => ?_)
  refine AL_nil ?_
  cases b9
  · try simp only [tdy] at h9
    refine AW_condF rfl ?_
    refine AW_exit (BQ_hit ?_)
    refine AW_seq ?_
    refine AW_region ?_
    refine AL_p (x_move rfl rfl) ?_
    refine AL_p (x_assign rfl rfl) ?_
    refine AL_nil ?_
    refine AW_ret ?_
    obtain rfl : k = xs.length := by omega
    exact ⟨rn [], ⟨⟨⟨_, rfl, vle_int (markK_done _ _ _)⟩, trivial⟩, trivial, trivial, rfl⟩⟩
  try simp only [tdy] at h9
  have hlt : k < xs.length := by omega
  have hat := markL_at' markByte hy hlt
  obtain ⟨q0, q1⟩ := markK_bound markByte markByte_cnt k0 k1 hlt
  have hks := markK_succ markByte (k := q) hlt
  generalize markK markByte xs q k = r at *
  simp only [cntByte] at q1
  refine AW_condT rfl ?_
  refine AW_skip ?_
  refine AW_seq ?_
  refine AW_block ?_
  refine AW_seq ?_
  refine AW_seq ?_
  refine AW_region ?_
  refine AL_p (x_move rfl rfl) ?_
  refine AL_p (x_move rfl rfl) ?_
  refine AL_p (x_index (E := 5) (n := 1) rfl rfl rfl (by kernel_rfl) rfl (k := k) (by omega) (by omega)) ?_
  refine AL_p (x_eload1 rfl rfl (by kernel_rfl) rfl) ?_
  refine AL_p (x_move rfl rfl) ?_
  refine AL_p (x_conv (k' := .u8) rfl rfl (by kernel_rfl) rfl) ?_
  refine AL_b (x_neq rfl rfl rfl) (fun b18 h18 => ?_)
  refine AL_nil ?_
  cases b18
  rotate_left
  · exfalso; rw [hat] at h18; simp [markByte, ba_beq_self] at h18
  try simp only [tdy] at h18
  refine AW_condF rfl ?_
  refine AW_skip ?_
  refine AW_region ?_
  refine AL_p (x_move rfl rfl) ?_
  refine AL_p (x_add rfl rfl rfl (IntWalk.i64_in _ (by omega))) ?_
  refine AL_p (x_assign rfl rfl) ?_
  refine AL_nil ?_
  refine AW_region ?_
  refine AL_p (x_move rfl rfl) ?_
  refine AL_p (x_add rfl rfl rfl (IntWalk.i64_in _ (by omega))) ?_
  refine AL_p (x_assign rfl rfl) ?_
  refine AL_nil ?_
  refine ⟨⟨k + 1, by omega⟩, rn [], ?_, by dsimp only; omega⟩
  exact ⟨by (repeat refine ⟨⟨_, rfl, by first | exact VLe.rf | exact vle_int (by dsimp only; omega) | exact vle_int (markK_zero _ _ _).symm | exact vle_int (by rw [hks]; rfl)⟩, ?_⟩); exact trivial, by (repeat refine ⟨⟨_, rfl, by first | exact BLe.rf | exact BLe.box AllC.rf | exact BLe.arr (by exact rfl)⟩, ?_⟩); exact trivial, by repeat (first | exact trivial | refine ⟨⟨rfl, by first | (left; intro h; cases h) | (right; rfl), by first | exact (fun _ h => ⟨_, h⟩) | exact (fun _ _ => ⟨_, rfl⟩)⟩, ?_⟩), rfl⟩

set_option maxHeartbeats 4000000 in
theorem heldPartS_c (xs ys : List (Partt)) (q : Int) (hy : (markL markPart xs q).1 = ys) (k0 : 0 ≤ q) (k1 : q + cntL cntPart xs ≤ 4611686018427387904) : AC Try.prog 19 [.one (.sl partE ys), .one (.c (.int .i64 q))] [] (.one (.c (.int .i64 (markL markPart xs q).2))) [] := by
  refine AC_body1 Try.func19 rfl rfl Try.ntmps19 rfl Try.results19 ?_
  refine AW_slmax 0 rfl (fun hm0 => ?_)
  refine AW_seq ?_
  refine AW_region ?_
  refine AL_p (x_assign rfl rfl) ?_
  refine AL_nil ?_
  refine AW_seq ?_
  refine AW_seq ?_
  refine AW_region ?_
  refine AL_p (x_assign rfl rfl) ?_
  refine AL_nil ?_
  refine AW_block ?_
  refine AW_loop2 (ι := {q : Nat // q ≤ xs.length}) (fun p => [(1, .one (.c (.int .i64 (markK markPart xs q (p.1))))), (5, .one (.c (.int .i64 ((p.1) : Int))))]) (fun p => []) [0] [] (fun p => xs.length - (p.1)) ⟨0, by omega⟩ (rn []) ?_ ?_
  exact ⟨by (repeat refine ⟨⟨_, rfl, by first | exact VLe.rf | exact vle_int (by dsimp only; omega) | exact vle_int (markK_zero _ _ _).symm | exact vle_int (by rw [hks]; rfl)⟩, ?_⟩); exact trivial, by (repeat refine ⟨⟨_, rfl, by first | exact BLe.rf | exact BLe.box AllC.rf | exact BLe.arr (by exact rfl)⟩, ?_⟩); exact trivial, by repeat (first | exact trivial | refine ⟨⟨rfl, by first | (left; intro h; cases h) | (right; rfl), by first | exact (fun _ h => ⟨_, h⟩) | exact (fun _ _ => ⟨_, rfl⟩)⟩, ?_⟩), rfl⟩
  rintro ⟨k, hinv⟩
  dsimp only
  have hl : ys.length = xs.length := by rw [← hy, markL_len]
  refine AW_seq ?_
  refine AW_seq ?_
  refine AW_region ?_
  refine AL_p (x_move rfl rfl) ?_
  refine AL_p (x_move rfl rfl) ?_
  refine AL_p (x_len (E := 34) (n := 1) rfl rfl (by kernel_rfl)) ?_
  refine AL_b (x_lss rfl rfl rfl) (fun b9 h9 => ?_)
  refine AL_nil ?_
  cases b9
  · try simp only [tdy] at h9
    refine AW_condF rfl ?_
    refine AW_exit (BQ_hit ?_)
    refine AW_seq ?_
    refine AW_region ?_
    refine AL_p (x_move rfl rfl) ?_
    refine AL_p (x_assign rfl rfl) ?_
    refine AL_nil ?_
    refine AW_ret ?_
    obtain rfl : k = xs.length := by omega
    exact ⟨rn [], ⟨⟨⟨_, rfl, vle_int (markK_done _ _ _)⟩, trivial⟩, trivial, trivial, rfl⟩⟩
  try simp only [tdy] at h9
  have hlt : k < xs.length := by omega
  have hat := markL_at' markPart hy hlt
  obtain ⟨q0, q1⟩ := markK_bound markPart markPart_cnt k0 k1 hlt
  have hks := markK_succ markPart (k := q) hlt
  generalize markK markPart xs q k = r at *
  simp only [cntPart] at q1
  refine AW_condT rfl ?_
  refine AW_skip ?_
  refine AW_seq ?_
  refine AW_block ?_
  refine AW_seq ?_
  refine AW_region ?_
  refine AL_p (x_move rfl rfl) ?_
  refine AL_p (x_move rfl rfl) ?_
  refine AL_p (x_index (E := 34) (n := 1) rfl rfl rfl (by kernel_rfl) rfl (k := k) (by omega) (by omega)) ?_
  refine AL_p (x_efield (off := 0) (o' := 0) rfl rfl (by kernel_rfl) rfl) ?_
  refine AL_p (x_eload1 rfl rfl (by kernel_rfl) rfl) ?_
  refine AL_p (x_move rfl rfl) ?_
  refine AL_p (x_call0 rfl rfl rfl (heldByteS_c (xs[k]'hlt).b _ _ (by rw [hat]; rfl) (by omega) (by omega)) rfl rfl) ?_
  refine AL_p (x_assign rfl rfl) ?_
  refine AL_nil ?_
  refine AW_seq ?_
  refine AW_region ?_
  refine AL_p (x_move rfl rfl) ?_
  refine AL_b (x_lss rfl rfl rfl) (fun b20 h20 => ?_)
  refine AL_nil ?_
  cases b20
  rotate_left
  · exfalso; have v := markL_cnt markByte markByte_cnt (xs[k]'hlt).b (r); simp at h20; omega
  try simp only [tdy] at h20
  have v0 := markL_cnt markByte markByte_cnt (xs[k]'hlt).b (r)
  have y0 : 0 ≤ (markL markByte (xs[k]'hlt).b (r)).2 := by omega
  have z0 : (markL markByte (xs[k]'hlt).b (r)).2 + ((0 : Nat) : Int) ≤ 4611686018427387904 := by omega
  clear v0
  refine AW_condF rfl ?_
  refine AW_skip ?_
  refine AW_region ?_
  refine AL_p (x_move rfl rfl) ?_
  refine AL_p (x_add rfl rfl rfl (IntWalk.i64_in _ (by omega))) ?_
  refine AL_p (x_assign rfl rfl) ?_
  refine AL_nil ?_
  refine ⟨⟨k + 1, by omega⟩, rn [], ?_, by dsimp only; omega⟩
  exact ⟨by (repeat refine ⟨⟨_, rfl, by first | exact VLe.rf | exact vle_int (by dsimp only; omega) | exact vle_int (markK_zero _ _ _).symm | exact vle_int (by rw [hks]; rfl)⟩, ?_⟩); exact trivial, by (repeat refine ⟨⟨_, rfl, by first | exact BLe.rf | exact BLe.box AllC.rf | exact BLe.arr (by exact rfl)⟩, ?_⟩); exact trivial, by repeat (first | exact trivial | refine ⟨⟨rfl, by first | (left; intro h; cases h) | (right; rfl), by first | exact (fun _ h => ⟨_, h⟩) | exact (fun _ _ => ⟨_, rfl⟩)⟩, ?_⟩), rfl⟩
end Go.Proofs.Ytfdpigafekohgaa

/- The abstract walk of a law: phases, between which own data is written anew (marks). -/
namespace Go.Proofs.Ytfdpigafekohgaa
open Go.RowKit
set_option linter.unusedVariables false

/-- A phase: what stood at its start (blocks below B) is read alone; what is one's own was made since. -/
structure Ph (B : Nat) (g : Gh) (s : St) (w : World) : Prop where
  le : B ≤ w.heap.size
  old : ∀ b, b < B → g.I b
  own : ∀ b, OwnB g s.l b → B ≤ b
theorem Ph.step {B : Nat} {g g' : Gh} {s s' : St} {w w' : World} (p : Ph B g s w) (hs : Step [] g s.l w g' s'.l w') : Ph B g' s' w' ∧ Below B w w' :=
  ⟨⟨Nat.le_trans p.le hs.size, fun b hb => hs.imm b (p.old b hb), fun b hb => (hs.own b hb).elim (p.own b) fun h => Nat.le_trans p.le h⟩,
   hs.os, hs.tape, hs.output, hs.size, fun b hb => hs.keep b (Nat.lt_of_lt_of_le hb p.le) fun k blk hk hl e => by
    have := p.own b (e ▸ OwnB.of_live hk hl)
    omega⟩
def EndsM (N B : Nat) (w : World) (R : Exit → St → Prop) : Exit → Act → World → Prop := fun e a' w' => ∃ g' s', Rep N g' s' a' w' ∧ Ph B g' s' w' ∧ Below B w w' ∧ R e s'
theorem EndsM.back {N B : Nat} {w w1 : World} {R : Exit → St → Prop} {e : Exit} {a : Act} {w2 : World} (hb : Below B w w1) (h : EndsM N B w1 R e a w2) : EndsM N B w R e a w2 := by
  obtain ⟨g', s', r, p, b, hR⟩ := h
  exact ⟨g', s', r, p, hb.trans b, hR⟩
theorem EndsM.down {N B B' : Nat} {w : World} {R : Exit → St → Prop} {e : Exit} {a : Act} {w2 : World} (hB : B ≤ B') (h : EndsM N B' w R e a w2) : EndsM N B w R e a w2 := by
  obtain ⟨g', s', r, p, b, hR⟩ := h
  exact ⟨g', s', r, ⟨Nat.le_trans hB p.le, fun b hb => p.old b (Nat.lt_of_lt_of_le hb hB), fun b hb => Nat.le_trans hB (p.own b hb)⟩, b.mono hB, hR⟩
def AM (P : Program) (N B : Nat) (c : Code) (Kn : St → Prop) (Q : Exit → St → Prop) (s : St) : Prop :=
  ∀ (g : Gh) (a : Act) (w : World), Rep N g s a w → Ph B g s w → c.wp P (EndsM N B w (NormR Kn Q)) a w
section rules
variable {P : Program} {N B : Nat} {Kn : St → Prop} {Q : Exit → St → Prop} {s : St}
theorem AM_of {c : Code} (h : AW P N [] c Kn Q s) : AM P N B c Kn Q s := fun g a w r p =>
  Go.wp_mono (h g a w r) fun e a1 w1 ⟨g1, s1, r1, hs, hR⟩ => ⟨g1, s1, r1, (p.step hs).1, (p.step hs).2, hR⟩
theorem AM_region {id : Nat} {l : List Oper} (h : AL P N false l.toArray Kn l s []) : AM P N B (.region id l.toArray false) Kn Q s := AM_of (AW_region h)
theorem AM_skip (h : Kn s) : AM P N B .skip Kn Q s := AM_of (AW_skip h)
theorem AM_ret (h : Q .ret s) : AM P N B .ret Kn Q s := AM_of (AW_ret h)
theorem AM_seq {x y : Code} (h : AM P N B x (AM P N B y Kn Q) Q s) : AM P N B (.seq x y) Kn Q s := fun g a w r p =>
  wp_seq (Go.wp_mono (h g a w r p) fun e a1 w1 h1 => by
    obtain ⟨g1, s1, r1, p1, b1, hR⟩ := h1
    cases e with
    | normal => exact Go.wp_mono (hR g1 a1 w1 r1 p1) fun e a2 w2 h2 => h2.back b1
    | exit id => exact ⟨g1, s1, r1, p1, b1, hR⟩
    | goto l => exact ⟨g1, s1, r1, p1, b1, hR⟩
    | ret => exact ⟨g1, s1, r1, p1, b1, hR⟩
    | panic ch => exact ⟨g1, s1, r1, p1, b1, hR⟩
    | outgrown => exact ⟨g1, s1, r1, p1, b1, hR⟩)
theorem AM_condT {c : Operand} {x y : Code} (hc : evo s.t c = some (.one (.c (.bool true)))) (h : AM P N B x Kn Q s) : AM P N B (.cond c x y) Kn Q s := fun g a w r p => by
  obtain ⟨hv, _⟩ : a.eval c = .bool true ∧ wfV (.bool true) := eval_ok r (evs_of hc) (rdo_of hc)
  exact wp_cond_split hv (fun _ => h g a w r p) (fun h => by cases h)
theorem AM_condF {c : Operand} {x y : Code} (hc : evo s.t c = some (.one (.c (.bool false)))) (h : AM P N B y Kn Q s) : AM P N B (.cond c x y) Kn Q s := fun g a w r p => by
  obtain ⟨hv, _⟩ : a.eval c = .bool false ∧ wfV (.bool false) := eval_ok r (evs_of hc) (rdo_of hc)
  exact wp_cond_split hv (fun h => by cases h) (fun _ => h g a w r p)
end rules

/-! ### A new phase -/
/-- What a slot holds, where all that stands is read alone from now on. -/
inductive Rise (l : Locs) (B B' : Nat) : AVal → AVal → Prop
  | c {v : Value} : Rise l B B' (.one (.c v)) (.one (.c v))
  | box {k : Nat} {cs ds : List Cell} {js : List Nat} {d : Bool} {α : Type} {e : Enc α} {f : α → List Cell} [hc : CellsOf e f] {x : α} (hb : lkl l k = some (.box cs)) (hm : mvC l cs = some (ds, js, d)) (hj : noDup js = true) (hf : FitL ds (f x)) : Rise l B B' (.one (.ptr k 0)) (.one (.epo B' e x 0))
  | own {k : Nat} {α : Type} {T : TypeId} {e : Enc α} {xs : List α} {d : Bool} (hb : lkl l k = some (.arr T e xs d)) : Rise l B B' (.one (.own k)) (.one (.slo B' e xs))
  | epo {α : Type} {e : Enc α} {x : α} {o : Nat} : Rise l B B' (.one (.epo B e x o)) (.one (.epo B' e x o))
  | slo {α : Type} {e : Enc α} {xs : List α} : Rise l B B' (.one (.slo B e xs)) (.one (.slo B' e xs))
  | sl {α : Type} {e : Enc α} {xs : List α} : Rise l B B' (.one (.sl e xs)) (.one (.slo B' e xs))
  | agg {cs ds : List Cell} {js : List Nat} {d : Bool} {α : Type} {e : Enc α} {f : α → List Cell} [hc : CellsOf e f] {x : α} (hm : mvC l cs = some (ds, js, d)) (hj : noDup js = true) (hf : FitL ds (f x)) (hs : (f x).all Cell.dat = true) : Rise l B B' (.agg cs) (.agg (f x))
def RiseT (l : Locs) (B B' : Nat) (t : Tmps) : Tmps → Prop
  | [] => True
  | (k, x) :: r => (∃ y, lk t k = some y ∧ Rise l B B' y x) ∧ RiseT l B B' t r
theorem RiseT.get {l : Locs} {B B' : Nat} {t : Tmps} : ∀ {T : Tmps} {k : Nat} {x : AVal}, RiseT l B B' t T → lk T k = some x → ∃ y, lk t k = some y ∧ Rise l B B' y x
  | [], k, x, _, h => by simp [lk] at h
  | (j, z) :: r, k, x, hT, h => by
    by_cases e : j = k
    · subst e; rw [lk_cons_self] at h; cases h; exact hT.1
    · rw [lk_cons_ne e] at h; exact RiseT.get hT.2 h
theorem Rise.ok {g : Gh} {l : Locs} {w : World} {B : Nat} (m : MemR g l w) {v : Value} {x y : AVal} (h : Rise l B w.heap.size x y) (hv : VR g l w v x) : VR (allI w) [] w v y := by
  cases h with
  | c => exact hv
  | @box k cs ds js d α e f hc x hb hm hj hf =>
    have he : v = .pointer (some ⟨g.ρ k, 0, none⟩) := hv cs hb
    obtain ⟨vs, t, h1, h2, h3⟩ := m.box k cs hb
    obtain ⟨bs, f1, f2, _⟩ := mvC_ok m h2 hm (noDup_of hj)
    have hr : e.rep w vs.toList x bs := hc.iff.2 (f1.fit hf)
    exact ⟨g.ρ k, 0, vs.toList, bs, he, ⟨(Array.getElem?_eq_some_iff.1 h1).1, (Array.getElem?_eq_some_iff.1 h1).1⟩, hr, fun c hcb => ⟨e.lt hr c hcb, e.lt hr c hcb⟩, fun j u hu => by rw [cell_of_heap h1, Nat.zero_add]; simpa using hu⟩
  | @own k α T e xs d hb =>
    obtain ⟨a, n, cap, bs, h1, h2, h3, _⟩ := (m.arr k α T e xs d hb).slice
    have he : v = g.hd k := hv α T e xs d hb
    exact ⟨a, n, cap, bs, he.trans h1, h2, fun b hbb => ⟨h2.lt b hbb, h2.lt b hbb⟩⟩
  | epo =>
    obtain ⟨gb, o, cs, b, h1, h2, h3, h4, h5⟩ := hv
    have hg := m.ilt gb h2.1
    exact ⟨gb, o, cs, b, h1, ⟨hg, hg⟩, h3, fun c hc => ⟨m.ilt c (h4 c hc).1, m.ilt c (h4 c hc).1⟩, h5⟩
  | slo =>
    obtain ⟨a, n, cap, bs, h1, h2, h3⟩ := hv
    exact ⟨a, n, cap, bs, h1, h2, fun b hb => ⟨h2.lt b hb, h2.lt b hb⟩⟩
  | sl =>
    obtain ⟨a, n, cap, bs, h1, h2, h3⟩ := hv
    exact ⟨a, n, cap, bs, h1, h2, fun b hb => ⟨h2.lt b hb, h2.lt b hb⟩⟩
  | @agg cs ds js d α e f hc x hm hj hf hs =>
    obtain ⟨vs, h1, h2⟩ := hv
    obtain ⟨bs, f1, f2, _⟩ := mvC_ok m h2 hm (noDup_of hj)
    have hr : e.rep w vs x bs := hc.iff.2 (f1.fit hf)
    exact ⟨vs, h1, (f1.fit hf).all2 fun i hi => e.lt hr i hi⟩
/-- From here on all that stands is read alone. -/
theorem AM_raise {P : Program} {N B : Nat} {c : Code} {Kn : St → Prop} {Q : Exit → St → Prop} {s : St} (T : Nat → Tmps) (hT : ∀ B', RiseT s.l B B' s.t (T B')) (h : ∀ B', AM P N B' c Kn Q ⟨T B', []⟩) : AM P N B c Kn Q s := fun g a w r p => by
  have r2 : Rep N (allI w) ⟨T w.heap.size, []⟩ a w := ⟨r.size, r.defers, fun k x hk => by
    obtain ⟨y, h1, h2⟩ := (hT w.heap.size).get hk
    exact h2.ok r.mem (r.tmp k y h1), allI_mem w⟩
  exact Go.wp_mono (h w.heap.size (allI w) a w r2 ⟨Nat.le_refl _, fun b hb => hb, fun b ⟨k, blk, hk, _⟩ => by simp [lkl, lk] at hk⟩) fun e a1 w1 h1 => h1.down p.le

/-! ### What a mark leaves standing -/
def HardC (B : Nat) (js : List Nat) : Cell → Prop
  | .c _ => True
  | .any => True
  | .ptr _ _ => True
  | .own j => noId j js = true
  | .slo B' _ _ => B' = B
  | .epo B' _ _ _ => B' = B
  | _ => False
def hardAll (B : Nat) (js : List Nat) : List Cell → Prop
  | [] => True
  | c :: cs => HardC B js c ∧ hardAll B js cs
theorem hardAll.get {B : Nat} {js : List Nat} : ∀ {cs : List Cell}, hardAll B js cs → ∀ x ∈ cs, HardC B js x
  | [], _, x, h => by cases h
  | c :: cs, h, x, hx => by
    rcases List.mem_cons.1 hx with rfl | hx
    · exact h.1
    · exact hardAll.get h.2 x hx
def HardV (B : Nat) (js : List Nat) : AVal → Prop
  | .one x => HardC B js x
  | .agg xs => hardAll B js xs
  | .tup _ => False
def HardB (B : Nat) (js : List Nat) (k : Nat) : Blk → Prop
  | .box cs => hardAll B js cs
  | .arr _ _ _ d => d = true ∧ noId k js = true
def SubT (B : Nat) (js : List Nat) (t : Tmps) : Tmps → Prop
  | [] => True
  | (k, x) :: r => (lk t k = some x ∧ HardV B js x) ∧ SubT B js t r
def SubL (B : Nat) (js : List Nat) (l : Locs) : Locs → Prop
  | [] => True
  | (k, some b) :: r => (lkl l k = some b ∧ HardB B js k b) ∧ SubL B js l r
  | (_, none) :: r => SubL B js l r
theorem SubT.get {B : Nat} {js : List Nat} {t : Tmps} : ∀ {T : Tmps} {k : Nat} {x : AVal}, SubT B js t T → lk T k = some x → lk t k = some x ∧ HardV B js x
  | [], k, x, _, h => by simp [lk] at h
  | (j, z) :: r, k, x, hT, h => by
    by_cases e : j = k
    · subst e; rw [lk_cons_self] at h; cases h; exact hT.1
    · rw [lk_cons_ne e] at h; exact SubT.get hT.2 h
theorem SubL.get {B : Nat} {js : List Nat} {l : Locs} : ∀ {L : Locs} {k : Nat} {b : Blk}, SubL B js l L → lkl L k = some b → lkl l k = some b ∧ HardB B js k b
  | [], k, b, _, h => by simp [lkl, lk] at h
  | (j, z) :: r, k, b, hL, h => by
    by_cases e : j = k
    · subst e; rw [lkl_cons_self] at h; subst h; exact hL.1
    · cases z with
      | none => rw [lkl_cons_ne e] at h; exact SubL.get (L := r) hL h
      | some z => rw [lkl_cons_ne e] at h; exact SubL.get hL.2 h
section back
variable {N B : Nat} {g : Gh} {s : St} {a : Act} {w w' : World} {js : List Nat} {bs : List Nat} {L : Locs}
/-- The names behind a mark. -/
def Gh.after (g : Gh) (B : Nat) (L : Locs) : Gh := { g with I := fun b => b < B ∨ ∃ (j : Nat) (α : Type) (T : TypeId) (e : Enc α) (xs : List α), lkl L j = some (.arr T e xs true) ∧ b ∈ g.F j }
theorem hard_cell (p : Ph B g s w) (hb : ∀ b ∈ bs, ∃ j ∈ js, Via g s.l j b) (o : Only bs w w') (hL : SubL B js s.l L) {v : Value} {x : Cell} (hx : HardC B js x) (h : CellR g s.l w v x) : CellR (g.after B L) L w' v x := by
  have lo : ∀ b, b < B → b ∉ bs := fun b h1 h2 => by
    obtain ⟨j, _, hv⟩ := hb b h2
    have := p.own b hv.own
    omega
  have kp : ∀ b, b < B → w'.heap[b]? = w.heap[b]? := fun b h1 => o.keep b (Nat.lt_of_lt_of_le h1 p.le) (lo b h1)
  cases x with
  | c u => exact h
  | any => trivial
  | own j => exact fun α T e xs d hk => h α T e xs d (hL.get hk).1
  | ptr k off => exact fun cs hk => h cs (hL.get hk).1
  | slo B' e xs =>
    obtain rfl : B' = B := hx
    obtain ⟨a, n, cap, b1, h1, h2, h3⟩ := h
    exact ⟨a, n, cap, b1, h1, h2.keep (fun b hbb => kp b (h3 b hbb).2) o.size, fun b hbb => ⟨.inl (h3 b hbb).2, (h3 b hbb).2⟩⟩
  | epo B' e z off =>
    obtain rfl : B' = B := hx
    obtain ⟨gb, of, cs, b1, h1, h2, h3, h4, h5⟩ := h
    exact ⟨gb, of, cs, b1, h1, ⟨.inl h2.2, h2.2⟩, e.keep h3 (fun c hc => kp c (h4 c hc).2) o.size, fun c hc => ⟨.inl (h4 c hc).2, (h4 c hc).2⟩, fun j u hu => (World.cell?_of_block (w := w) (kp gb h2.2)).trans (h5 j u hu)⟩
  | _ => exact hx.elim
theorem hard_val (p : Ph B g s w) (hb : ∀ b ∈ bs, ∃ j ∈ js, Via g s.l j b) (o : Only bs w w') (hL : SubL B js s.l L) {v : Value} {x : AVal} (hx : HardV B js x) (h : VR g s.l w v x) : VR (g.after B L) L w' v x := by
  cases x with
  | one x => exact hard_cell p hb o hL hx h
  | agg xs =>
    obtain ⟨vs, h1, h2⟩ := h
    exact ⟨vs, h1, h2.mono fun a b hm hr => hard_cell p hb o hL (hardAll.get hx b hm) hr⟩
  | tup xs => exact hx.elim
theorem after_rep (r : Rep N g s a w) (p : Ph B g s w) (hb : ∀ b ∈ bs, ∃ j ∈ js, Via g s.l j b) (o : Only bs w w') {T : Tmps} (hT : SubT B js s.t T) (hL : SubL B js s.l L) :
    Rep N (g.after B L) ⟨T, L⟩ a w' ∧ Ph B (g.after B L) ⟨T, L⟩ w' ∧ Below B w w' := by
  have m := r.mem
  have lo : ∀ b ∈ bs, B ≤ b := fun b h2 => by
    obtain ⟨j, _, hv⟩ := hb b h2
    exact p.own b hv.own
  have out : ∀ {k blk}, lkl L k = some blk → liv g k blk → g.ρ k ∉ bs := fun {k blk} hk hl hm => by
    obtain ⟨hk', hh⟩ := hL.get hk
    obtain ⟨j, hj, α, T, e, xs, h1, h2⟩ := hb _ hm
    have hne : k ≠ j := fun e => by
      subst e
      rw [hk'] at h1; cases h1
      exact noId_of hh.2 hj
    rcases h2 with ⟨h3, h4⟩ | h3
    · exact m.dis k j _ _ hne hk' h1 hl h3 h4
    · exact m.notI hk' hl ((m.fr j α T e xs h1).2 _ h3).1
  have outF : ∀ {k : Nat} {α : Type} {T : TypeId} {e : Enc α} {xs : List α}, lkl L k = some (.arr T e xs true) → ∀ b ∈ g.F k, b ∉ bs := fun {k α T e xs} hk b hbF hm => by
    obtain ⟨hk', hh⟩ := hL.get hk
    obtain ⟨j, hj, hv⟩ := hb _ hm
    have : k = j := Via.disj m ⟨α, T, e, xs, hk', .inr hbF⟩ hv
    subst this
    exact noId_of hh.2 hj
  have own : ∀ {b}, OwnB (g.after B L) L b → OwnB g s.l b := fun {b} ⟨k, blk, hk, h⟩ => ⟨k, blk, (hL.get hk).1, h⟩
  have nI : ∀ {k blk}, lkl L k = some blk → liv g k blk → ¬ (g.after B L).I (g.ρ k) := fun {k blk} hk hl hI => by
    rcases hI with h1 | ⟨j, α, T, e, xs, h1, h2⟩
    · have := p.own _ (OwnB.of_live (hL.get hk).1 hl); omega
    · exact m.notI (hL.get hk).1 hl ((m.fr j α T e xs (hL.get h1).1).2 _ h2).1
  have hp : ∀ {k blk}, lkl L k = some blk → liv g k blk → w'.heap[g.ρ k]? = w.heap[g.ρ k]? := fun {k blk} hk hl => o.keep _ (m.lt (hL.get hk).1 hl) (out hk hl)
  have hpF : ∀ {k : Nat} {α : Type} {T : TypeId} {e : Enc α} {xs : List α}, lkl L k = some (.arr T e xs true) → ∀ b ∈ g.F k, w'.heap[b]? = w.heap[b]? := fun {k α T e xs} hk b hbF => o.keep b (m.ilt b ((m.fr k α T e xs (hL.get hk).1).2 b hbF).1) (outF hk b hbF)
  refine ⟨⟨r.size, r.defers, fun k x hk => ?_, ⟨fun b hI => ?_, fun k cs hk => ?_, fun k α T e xs d hk => ?_, fun j k b b' hjk hj hk lj lk => m.dis j k b b' hjk (hL.get hj).1 (hL.get hk).1 lj lk, fun k α T e xs hk => ?_, fun j k α β T U e f xs ys hjk hj hk => m.fd j k α β T U e f xs ys hjk (hL.get hj).1 (hL.get hk).1⟩⟩,
    ⟨Nat.le_trans p.le o.size, fun b hb => .inl hb, fun b hb => p.own b (own hb)⟩, o.os, o.tape, o.output, o.size, fun b h1 => o.keep b (Nat.lt_of_lt_of_le h1 p.le) fun h2 => by have := lo b h2; omega⟩
  · obtain ⟨h1, h2⟩ := hT.get hk
    exact hard_val p hb o hL h2 (r.tmp k x h1)
  · refine Nat.lt_of_lt_of_le ?_ o.size
    rcases hI with h1 | ⟨j, α, T, e, xs, h1, h2⟩
    · exact Nat.lt_of_lt_of_le h1 p.le
    · exact m.ilt b ((m.fr j α T e xs (hL.get h1).1).2 b h2).1
  · obtain ⟨h1, h2⟩ := hL.get hk
    obtain ⟨vs, t, h3, h4, h5⟩ := m.box k cs h1
    exact ⟨vs, t, (hp hk trivial).trans h3, h4.mono fun a x hx hr => hard_cell p hb o hL (hardAll.get h2 x hx) hr, nI hk trivial⟩
  · obtain ⟨h1, h2, h3⟩ := hL.get hk
    subst h2
    rcases m.arr k α T e xs true h1 with h4 | ⟨cap, vs, bss, a1, a2, a3, a4, a5, a6, a7, a8, a9⟩
    · exact .inl h4
    · have hl : liv g k (.arr T e xs true) := by show g.hd k ≠ _; rw [a1]; intro e; cases e
      refine .inr ⟨cap, vs, bss, a1, a2, a3, (hp hk hl).trans a4, a5, a6.keep (hp hk hl) (fun b hb => hpF hk b (by rw [a9 rfl]; exact hb)) o.size, fun b hb => .inr ⟨k, α, T, e, xs, hk, by rw [a9 rfl]; exact hb⟩, nI hk hl, a9⟩
  · obtain ⟨h1, h2, h3⟩ := hL.get hk
    obtain ⟨n1, n2⟩ := m.fr k α T e xs h1
    exact ⟨n1, fun b hb => ⟨.inr ⟨k, α, T, e, xs, hk, hb⟩, by
      obtain ⟨_, c, t, h4⟩ := n2 b hb
      exact ⟨c, t, (hpF hk b hb).trans h4⟩⟩⟩
end back

/-! ### Regions in which a mark is called -/
def LM (P : Program) (N B : Nat) (ops : Array Oper) (Kn : St → Prop) (l : List Oper) (s : St) : Prop :=
  ∀ (Q : Exit → St → Prop) (Z : Exit → Act → World → Prop) (g : Gh) (a : Act) (w : World), Rep N g s a w → Ph B g s w → (∀ e a' w', EndsM N B w (NormR Kn Q) e a' w' → Z e a' w') → wpList P ops Z l a w
section lm
variable {P : Program} {N B : Nat} {ops : Array Oper} {Kn : St → Prop} {s : St}
theorem AM_regionM {id : Nat} {l : List Oper} {Q : Exit → St → Prop} (h : LM P N B l.toArray Kn l s) : AM P N B (.region id l.toArray false) Kn Q s := fun g a w r p => wp_region_lit (h Q _ g a w r p fun _ _ _ h => h)
theorem LM_nil (h : Kn s) : LM P N B ops Kn [] s := fun Q Z g a w r p hz => hz _ _ _ ⟨g, s, r, p, Below.refl _ _, h⟩
theorem LM_p {dst : Option Nat} {op : Op} {ty : TypeId} {pos : String} {after : Array Edge} {c : Cert} {r : List Oper} {s' : St} (h : Stp P N ⟨dst, op, ty, pos, after, none⟩ s s' c) (next : LM P N B ops Kn r s') : LM P N B ops Kn (⟨dst, op, ty, pos, after, none⟩ :: r) s := fun Q Z g a w R p hz => by
  obtain ⟨h1, h2, h3⟩ := h
  have h4 := h1 [] g s a w h2 R
  rw [h3] at h4
  unfold wpList
  rw [if_pos (by simp [Region.wanted])]
  refine .inl (Oper.wp_weak (fun a' w' ⟨g', r', hs'⟩ => ?_) h4)
  obtain ⟨p2, b2⟩ := p.step hs'
  exact next Q Z g' a' w' r' p2 fun e a2 w2 h5 => hz e a2 w2 (h5.back b2)
def MarkO (P : Program) (f : FuncId) {α : Type} (e : Enc α) (x : List α) (k r : Int) (x' : List α) : Prop :=
  ∀ (w : World) (a : Option Addr) (n cap : Nat) (bs : List Nat), SliceRep e w a n cap x bs → Fresh 0 w bs → Calls P f #[.slice a n cap, .int .i64 k] w fun e' w' => e' = .returned (.int .i64 r) ∧ SliceRep e w' a n cap x' bs ∧ Only bs w w'
theorem via_fresh {g : Gh} {l : Locs} {w : World} (m : MemR g l w) {js bs : List Nat} (h : bs.Nodup ∧ ∀ b ∈ bs, ∃ j ∈ js, Via g l j b) : Fresh 0 w bs := ⟨h.1, fun b hb => by
  obtain ⟨j, _, hv⟩ := h.2 b hb
  exact ⟨Nat.zero_le _, hv.cells m⟩⟩
section mark
variable {d : Nat} {fo x y : Operand} {f : FuncId} {ats : Array TypeId} {ty : TypeId} {pos : String} {after : Array Edge} {r : List Oper} {k r' : Int}
theorem LM_markO {i : Nat} {α : Type} {U : TypeId} {e : Enc α} {z z' : List α} (T : Tmps) (L : Locs) (hN : Nat.blt d N = true) (hev : evo s.t fo = some (.one (.clo f []))) (hx : evo s.t x = some (.one (.own i))) (hy : evo s.t y = some (.one (.c (.int .i64 k))))
    (hf : Callable P f) (hM : MarkO P f e z k r' z') (hl : lkl s.l i = some (.arr U e z true)) (hw : wfV (.int .i64 r')) (hT : SubT B [i] s.t T) (hL : SubL B [i] s.l L)
    (next : LM P N B ops Kn r ⟨(d, .one (.c (.int .i64 r'))) :: T, L⟩) : LM P N B ops Kn (⟨some d, .call { callee := .value fo, args := #[x, y], argTypes := ats }, ty, pos, after, none⟩ :: r) s := fun Q Z g a w R p hz => by
  have hfe : a.eval fo = .func (.func f) #[] #[] := (eval_ok R (evs_of hev) (rdo_of hev) : CellR g s.l w (a.eval fo) (.clo f [])) (fun k hk => by cases hk)
  have h1 : CellR g s.l w (a.eval x) (.own i) := eval_ok R (evs_of hx) (rdo_of hx)
  obtain ⟨h3, _⟩ : a.eval y = .int .i64 k ∧ wfV (.int .i64 k) := eval_ok R (evs_of hy) (rdo_of hy)
  obtain ⟨bs, f1, f2, f3⟩ := mvC_ok R.mem (vs := [a.eval x]) (cs := [.own i]) (ds := [.sl e z]) (js := [i]) (d := true) ⟨h1, trivial⟩ (by simp [mvC, hl]) (by simp)
  obtain ⟨b1, b2, rfl, ⟨ad, n, cap, e1, e2⟩, rfl⟩ := f1
  rw [List.append_nil] at f2 f3
  unfold wpList
  rw [if_pos (by simp [Region.wanted])]
  refine .inl ?_
  unfold Oper.wp
  rw [run_enter rfl hf hfe, Oper.upon_enter]
  simp only [List.map_toArray, List.map_cons, List.map_nil, e1, h3, Array.append_empty]
  refine (hM w ad n cap b1 e2 (via_fresh R.mem (f3 rfl))).mono ?_
  rintro e' w' ⟨rfl, _, o⟩
  obtain ⟨q1, q2, q3⟩ := after_rep R p (f3 rfl).2 o hT hL
  have q4 : Rep N (g.after B L) ⟨(d, .one (.c (.int .i64 r'))) :: T, L⟩ (a.put (some d) (.int .i64 r')) w' := q1.put (blt_lt hN) ⟨rfl, hw⟩
  exact next Q Z _ _ _ q4 ⟨q2.le, q2.old, q2.own⟩ fun e a2 w2 h5 => hz e a2 w2 (h5.back q3)
/-- What a slot says, at a new phase behind a mark. -/
inductive Stay (B B' : Nat) : AVal → AVal → Prop
  | c {v : Value} : Stay B B' (.one (.c v)) (.one (.c v))
  | epo {α : Type} {e : Enc α} {x : α} {o : Nat} : Stay B B' (.one (.epo B e x o)) (.one (.epo B' e x o))
  | slo {α : Type} {e : Enc α} {xs : List α} : Stay B B' (.one (.slo B e xs)) (.one (.slo B' e xs))
def StayT (B B' : Nat) (t : Tmps) : Tmps → Prop
  | [] => True
  | (k, x) :: r => (∃ y, lk t k = some y ∧ Stay B B' y x) ∧ StayT B B' t r
theorem StayT.get {B B' : Nat} {t : Tmps} : ∀ {T : Tmps} {k : Nat} {x : AVal}, StayT B B' t T → lk T k = some x → ∃ y, lk t k = some y ∧ Stay B B' y x
  | [], k, x, _, h => by simp [lk] at h
  | (j, z) :: r, k, x, hT, h => by
    by_cases e : j = k
    · subst e; rw [lk_cons_self] at h; cases h; exact hT.1
    · rw [lk_cons_ne e] at h; exact StayT.get hT.2 h
theorem Stay.ok {g : Gh} {l : Locs} {B : Nat} {w w' : World} {v : Value} {x y : AVal} (hs : w.heap.size ≤ w'.heap.size) (hB : B ≤ w.heap.size) (hk : ∀ b, b < B → w'.heap[b]? = w.heap[b]?) (h : Stay B w'.heap.size x y) (hv : VR g l w v x) : VR (allI w') [] w' v y := by
  cases h with
  | c => exact hv
  | epo =>
    obtain ⟨gb, o, cs, b, h1, h2, h3, h4, h5⟩ := hv
    have lt : ∀ c, c < B → c < w'.heap.size := fun c hc => by omega
    exact ⟨gb, o, cs, b, h1, ⟨lt _ h2.2, lt _ h2.2⟩, Enc.keep _ h3 (fun c hc => hk c (h4 c hc).2) hs, fun c hc => ⟨lt _ (h4 c hc).2, lt _ (h4 c hc).2⟩, fun j u hu => (World.cell?_of_block (w := w) (hk gb h2.2)).trans (h5 j u hu)⟩
  | slo =>
    obtain ⟨a, n, cap, bs, h1, h2, h3⟩ := hv
    have lt : ∀ c, c < B → c < w'.heap.size := fun c hc => by omega
    exact ⟨a, n, cap, bs, h1, h2.keep (fun b hb => hk b (h3 b hb).2) hs, fun b hb => ⟨lt _ (h3 b hb).2, lt _ (h3 b hb).2⟩⟩
theorem stay_rep {B : Nat} {g : Gh} {s : St} {a : Act} {w w' : World} {js bs : List Nat} (R : Rep N g s a w) (p : Ph B g s w) (hb : ∀ b ∈ bs, ∃ j ∈ js, Via g s.l j b) (o : Only bs w w') {T : Tmps} (hT : StayT B w'.heap.size s.t T) :
    Rep N (allI w') ⟨T, []⟩ a w' ∧ Ph w'.heap.size (allI w') ⟨T, []⟩ w' ∧ Below B w w' := by
  obtain ⟨q1, q2, q3⟩ := after_rep (T := []) (L := []) R p hb o trivial trivial
  refine ⟨⟨R.size, R.defers, fun k x hk => ?_, allI_mem w'⟩, ⟨Nat.le_refl _, fun b hb => hb, fun b ⟨k, blk, hk, _⟩ => by simp [lkl, lk] at hk⟩, q3⟩
  obtain ⟨y, h1, h2⟩ := hT.get hk
  exact h2.ok o.size p.le q3.block (R.tmp k y h1)
end mark
end lm
section pload
variable {P : Program} {N : Nat} {s : St} {d : Nat} {ty : TypeId} {pos : String} {after : Array Edge} {gd : Option (Nat × Bool)}
end pload
/-! ### The entry of a law -/
def EndT (r : Nat) (s : St) : Prop := lk s.t r = some (.one (.c (.bool true)))
def EndQ (r : Nat) : Exit → St → Prop
  | .ret, s => EndT r s
  | _, _ => False
theorem AM_law {P : Program} {f : FuncId} {fn : Func} {c : Code} {N r : Nat} {args : List AVal} (hf : P.funcs[f]? = some fn) (hb : fn.body = some c) (hN : fn.ntmps = N) (hA : Nat.ble args.length N = true) (hr : fn.results = #[.tmp r])
    (w : World) (cargs : Array Value) (ha : All2 (VR1 (allI w) [] w) cargs.toList args) (h : ∀ B, AM P N B c (EndT r) (EndQ r) ⟨args0 args 0, []⟩) : Calls P f cargs w fun e w' => e = .returned (.bool true) ∧ Below w.heap.size w w' := by
  subst hN
  have R := entry_rep (N := fn.ntmps) (allI_mem w) ha (Nat.le_of_ble_eq_true hA)
  refine calls_of_wp hf hb (Go.wp_mono (h w.heap.size (allI w) _ w R ⟨Nat.le_refl _, fun b hb => hb, fun b ⟨k, blk, hk, _⟩ => by simp [lkl, lk] at hk⟩) ?_)
  rintro e a1 w1 ⟨g1, s1, R1, p1, b1, hR⟩
  have fin : EndT r s1 → a1.defers = [] ∧ ∃ v, (results fn a1.tmps).run P w1 = .ok v w1 ∧ Ending.returned v = .returned (.bool true) ∧ Below w.heap.size w w1 := fun ht => by
    have hv : a1.tmps.getD r undef = .bool true ∧ wfV (.bool true) := R1.tmp r _ ht
    exact ⟨R1.defers, _, results_tmp hr _ _ _, by rw [hv.1], b1⟩
  cases e with
  | normal => exact fin hR
  | ret => exact fin hR
  | exit id => exact hR.elim
  | goto l => exact hR.elim
  | panic ch => exact hR.elim
  | outgrown => exact hR.elim
end Go.Proofs.Ytfdpigafekohgaa

/- Laws with two results in memory: the first is marked and stays one's own, then the second. -/
namespace Go.Proofs.Ytfdpigafekohgaa
open Go.RowKit
set_option linter.unusedVariables false
section lm
variable {P : Program} {N B : Nat} {ops : Array Oper} {Kn : St → Prop} {s : St}
section mark
variable {d : Nat} {fo x y : Operand} {f : FuncId} {ats : Array TypeId} {ty : TypeId} {pos : String} {after : Array Edge} {r : List Oper} {k r' : Int}
theorem noId_all {i : Nat} {T : Tmps} (h : (T.all fun p => noId i p.2.ids) = true) {j : Nat} {y : AVal} (hj : lk T j = some y) : i ∉ y.ids := by
  have h1 : (j, y) ∈ T := lk_mem hj
  exact noId_of (List.all_eq_true.1 h _ h1)
/-- The array i is marked; it stays one's own, at its new value. -/
theorem after_own {g : Gh} {a : Act} {w w' : World} {i : Nat} {α : Type} {U : TypeId} {e : Enc α} {z z' : List α} {t : Nat} {T : Tmps} {L : Locs} {ad : Option Addr} {n cap : Nat} {bs : List Nat}
    (R : Rep N g s a w) (p : Ph B g s w) (hl : lkl s.l i = some (.arr U e z true)) (hd : g.hd i = .slice ad n cap) (e2 : SliceRep e w ad n cap z bs) (hn : bs.Nodup) (hv : ∀ b ∈ bs, Via g s.l i b) (hr' : SliceRep e w' ad n cap z' bs) (o : Only bs w w')
    (ht : lk s.t t = some (.one (.own i))) (hT : SubT B [i] s.t T) (hL : SubL B [i] s.l L) (hi : lk L i = none) (hid : noId i L.ids = true) (hiT : (T.all fun p => noId i p.2.ids) = true) :
    ∃ g', Rep N g' ⟨(t, .one (.own i)) :: T, (i, some (.arr U e z' true)) :: L⟩ a w' ∧ Ph B g' ⟨(t, .one (.own i)) :: T, (i, some (.arr U e z' true)) :: L⟩ w' ∧ Below B w w' := by
  have hb : ∀ b ∈ bs, ∃ j ∈ [i], Via g s.l j b := fun b hb => ⟨i, by simp, hv b hb⟩
  obtain ⟨q1, q2, q3⟩ := after_rep R p hb o hT hL
  have m := R.mem
  have hiL : lkl L i = none := by unfold lkl; rw [hi]
  have hki : i ∉ L.ids := noId_of hid
  -- what the array is
  obtain ⟨fp, hA, hfp⟩ : ∃ fp : List Nat, (∀ I : Nat → Prop, (∀ b ∈ fp, I b) → ¬ I (g.ρ i) → ∀ F : Nat → List Nat, F i = fp → ArrR ⟨I, g.ρ, g.hd, F⟩ w' i U e z' true) ∧ fp.Nodup ∧ ∀ b ∈ fp, b ∈ bs ∧ b ∈ g.F i := by
    have inF : ∀ {c : List Nat}, bs = g.ρ i :: c → ∀ b ∈ c, b ∈ g.F i := fun {c} hc b hbc => by
      obtain ⟨β, V, e', zs, h1, h2⟩ := hv b (by rw [hc]; exact List.mem_cons_of_mem _ hbc)
      rcases h2 with ⟨_, h3⟩ | h3
      · rw [hc] at hn
        rw [h3] at hbc
        exact absurd hbc (List.nodup_cons.1 hn).1
      · exact h3
    rcases m.arr i _ _ _ _ _ hl with ⟨rfl, h2, _⟩ | ⟨cp, vs, bss, a1, a2, a3, a4, a5, a6, a7, a8, a9⟩
    · rw [h2] at hd
      cases hd
      have hz : z' = [] := List.eq_nil_of_length_eq_zero hr'.1.symm
      subst hz
      exact ⟨[], fun I _ _ F hF => .inl ⟨rfl, h2, fun _ => hF⟩, List.nodup_nil, fun b hb => by cases hb⟩
    · rw [a1] at hd
      cases hd
      rcases hr'.2.2.2.2 with ⟨rfl, rfl⟩ | ⟨g0, off, bss', b1, b2, b3, b4, b5⟩
      · have hz : z.length = 0 := hr'.1
        have hlive : liv g i (.arr U e z true) := by show g.hd i ≠ _; rw [a1]; intro e; cases e
        refine ⟨[], fun I _ hnI F hF => .inr ⟨cap, vs, [], by rw [a1, hz]; rfl, Nat.zero_le _, a3, (o.keep _ (m.lt hl hlive) (by simp)).trans a4, a5, ⟨rfl, fun j x b hx => by simp at hx⟩, fun b hb => by simp at hb, hnI, fun _ => hF⟩, List.nodup_nil, fun b hb => by cases hb⟩
      · cases b2
        obtain ⟨c', s1, s2⟩ := o.shape (g.ρ i) (by rw [b4]; simp) vs U a4
        refine ⟨bss'.flatten, fun I hI hnI F hF => .inr ⟨cap, c', bss', by rw [a1, hr'.1], by rw [← hr'.1]; exact a2, a3, s1, s2.trans a5, b5, hI, hnI, fun _ => hF⟩, ?_, fun b hb => ⟨by rw [b4]; exact List.mem_cons_of_mem _ hb, inF b4 b hb⟩⟩
        rw [b4] at hn
        exact (List.nodup_cons.1 hn).2
  obtain ⟨hfn, hff⟩ := hfp
  have hI1 : ∀ b ∈ fp, g.I b := fun b hbf => ((m.fr i _ _ _ _ hl).2 b (hff b hbf).2).1
  have apart : ∀ {j : Nat} {blk : Blk}, lkl L j = some blk → liv g j blk → g.ρ j ∉ fp := fun {j blk} hj hlv hm => m.notI (hL.get hj).1 hlv (hI1 _ hm)
  have hne : ∀ {j : Nat} {blk : Blk}, lkl L j = some blk → j ≠ i := fun {j blk} hj e => by subst e; rw [hiL] at hj; cases hj
  let g' : Gh := ⟨fun b => (g.after B L).I b ∨ b ∈ fp, g.ρ, g.hd, setAt g.F i fp⟩
  have hl' : ∀ j, j ≠ i → lkl ((i, some (.arr U e z' true)) :: L) j = lkl L j := fun j hj => lkl_cons_ne (Ne.symm hj)
  have hu : ∀ j, j ≠ i → lkl ((i, some (.arr U e z' true)) :: L) j = none ∨ Untouched (g.after B L) L w' g' ((i, some (.arr U e z' true)) :: L) w' j := fun j hj =>
    .inr ⟨hl' j hj, rfl, rfl, setAt_ne hj, fun b hb hlv => ⟨rfl, fun hI => by
      rcases hI with hI | hI
      · exact q1.mem.notI hb hlv hI
      · exact apart hb hlv hI⟩⟩
  have hnI : g.hd i ≠ .slice none 0 0 → ¬ g'.I (g.ρ i) := fun hlv hI => by
    rcases hI with hI | hI
    · rcases hI with h1 | ⟨j, β, V, e', zs, h1, h2⟩
      · have := p.own _ (OwnB.of_live hl hlv); omega
      · exact m.notI hl hlv ((m.fr j _ _ _ _ (hL.get h1).1).2 _ h2).1
    · exact m.notI hl hlv (hI1 _ hI)
  have m2 : MemR g' ((i, some (.arr U e z' true)) :: L) w' := by
    refine q1.mem.set1 i (fun b _ => rfl) (fun b hb => .inl hb) (Nat.le_refl _) (fun b hb => ?_) hu (.inr hki) (fun cs hc => ?_) (fun β V e' ys d2 hc => ?_) (fun j b b' hj h1 h2 h3 l1 l2 => ?_) (fun β V e' ys hc => ?_) (fun j β γ V V' e2' e3 ys zs hj h1 h2 h3 => ?_)
    · rcases hb with hb | hb
      · exact q1.mem.ilt b hb
      · exact Nat.lt_of_lt_of_le (m.ilt b (hI1 b hb)) o.size
    · rw [lkl_cons_self] at hc; cases hc
    · rw [lkl_cons_self] at hc; cases hc
      by_cases hlv : g.hd i = .slice none 0 0
      · rw [hd] at hlv
        cases hlv
        have hz : z' = [] := List.eq_nil_of_length_eq_zero hr'.1.symm
        subst hz
        have hf0 : fp = [] := by
          cases fp with
          | nil => rfl
          | cons b fp =>
            have h1 := (hff b (by simp)).1
            rcases e2.2.2.2.2 with ⟨_, h2⟩ | ⟨_, _, _, h2, h3, _⟩
            · rw [h2] at h1; cases h1
            · cases h3
        exact .inl ⟨rfl, hd, fun _ => by show setAt g.F i fp i = []; rw [setAt_self, hf0]⟩
      · exact hA g'.I (fun b hb => .inr hb) (hnI hlv) _ setAt_self
    · rw [lkl_cons_self] at h3; cases h3
      exact m.dis j i _ _ hj (hL.get h2).1 hl l1 l2
    · rw [lkl_cons_self] at hc; cases hc
      rw [show g'.F i = fp from setAt_self]
      refine ⟨hfn, fun b hb => ⟨.inr hb, ?_⟩⟩
      obtain ⟨_, c, tt, h4⟩ := (m.fr i _ _ _ _ hl).2 b (hff b hb).2
      obtain ⟨c', h5, _⟩ := o.shape b (hff b hb).1 c tt h4
      exact ⟨c', tt, h5⟩
    · rw [lkl_cons_self] at h3; cases h3
      rw [show g'.F i = fp from setAt_self]
      exact fun b hb hbf => m.fd j i _ _ _ _ _ _ _ _ hj (hL.get h2).1 hl b hb (hff b hbf).2
  refine ⟨g', ⟨q1.size, q1.defers, fun j y hj => ?_, m2⟩, ⟨q2.le, fun b hb => .inl (q2.old b hb), fun b hb => ?_⟩, q3⟩
  · by_cases ej : t = j
    · subst ej
      rw [lk_cons_self] at hj; cases hj
      intro β V e' ys dd hk
      rw [lkl_cons_self] at hk; cases hk
      exact (R.tmp t _ ht : CellR g s.l w _ (.own i)) _ _ _ _ _ hl
    · rw [lk_cons_ne ej] at hj
      have hni := noId_all hiT hj
      exact (q1.tmp j y hj).step (fun _ _ => rfl) (fun _ h => .inl h) (Nat.le_refl _) (fun q hq => by
        have hqi : q ≠ i := fun e => hni (e ▸ hq)
        rcases hu q hqi with h | h
        · exact okK.gone h
        · exact h.ok)
  · obtain ⟨q, blk, h1, h2⟩ := hb
    by_cases hq : q = i
    · subst hq
      rw [lkl_cons_self] at h1; cases h1
      rcases h2 with ⟨h3, rfl⟩ | ⟨β, V, e', ys, _, h3⟩
      · exact p.own _ (OwnB.of_live hl h3)
      · rw [show g'.F q = fp from setAt_self] at h3
        exact p.own _ ⟨q, _, hl, .inr ⟨_, _, _, _, rfl, (hff b h3).2⟩⟩
    · rw [hl' q hq] at h1
      refine q2.own b ⟨q, blk, h1, ?_⟩
      rcases h2 with ⟨h3, h4⟩ | ⟨β, V, e', ys, h3, h4⟩
      · exact .inl ⟨h3, h4⟩
      · exact .inr ⟨β, V, e', ys, h3, by rw [show g'.F q = g.F q from setAt_ne hq] at h4; exact h4⟩
theorem LM_markOO {i : Nat} {α : Type} {U : TypeId} {e : Enc α} {z z' : List α} (t : Nat) (T : Tmps) (L : Locs) (hN : Nat.blt d N = true) (hev : evo s.t fo = some (.one (.clo f []))) (hx : evo s.t x = some (.one (.own i))) (hy : evo s.t y = some (.one (.c (.int .i64 k))))
    (ht : lk s.t t = some (.one (.own i))) (hf : Callable P f) (hM : MarkO P f e z k r' z') (hl : lkl s.l i = some (.arr U e z true)) (hw : wfV (.int .i64 r')) (hT : SubT B [i] s.t T) (hL : SubL B [i] s.l L) (hi : lk L i = none) (hid : noId i L.ids = true) (hiT : (T.all fun p => noId i p.2.ids) = true)
    (next : LM P N B ops Kn r ⟨(d, .one (.c (.int .i64 r'))) :: (t, .one (.own i)) :: T, (i, some (.arr U e z' true)) :: L⟩) : LM P N B ops Kn (⟨some d, .call { callee := .value fo, args := #[x, y], argTypes := ats }, ty, pos, after, none⟩ :: r) s := fun Q Z g a w R p hz => by
  have hfe : a.eval fo = .func (.func f) #[] #[] := (eval_ok R (evs_of hev) (rdo_of hev) : CellR g s.l w (a.eval fo) (.clo f [])) (fun k hk => by cases hk)
  have h0 : a.eval x = g.hd i := (eval_ok R (evs_of hx) (rdo_of hx) : CellR g s.l w (a.eval x) (.own i)) _ _ _ _ _ hl
  have h1 : CellR g s.l w (a.eval x) (.own i) := eval_ok R (evs_of hx) (rdo_of hx)
  obtain ⟨h3, _⟩ : a.eval y = .int .i64 k ∧ wfV (.int .i64 k) := eval_ok R (evs_of hy) (rdo_of hy)
  obtain ⟨bs, f1, f2, f3⟩ := mvC_ok R.mem (vs := [a.eval x]) (cs := [.own i]) (ds := [.sl e z]) (js := [i]) (d := true) ⟨h1, trivial⟩ (by simp [mvC, hl]) (by simp)
  obtain ⟨b1, b2, rfl, ⟨ad, n, cap, e1, e2⟩, rfl⟩ := f1
  rw [List.append_nil] at f2 f3
  unfold wpList
  rw [if_pos (by simp [Region.wanted])]
  refine .inl ?_
  unfold Oper.wp
  rw [run_enter rfl hf hfe, Oper.upon_enter]
  simp only [List.map_toArray, List.map_cons, List.map_nil, e1, h3, Array.append_empty]
  refine (hM w ad n cap b1 e2 (via_fresh R.mem (f3 rfl))).mono ?_
  rintro e' w' ⟨rfl, hr', o⟩
  obtain ⟨g', q1, q2, q3⟩ := after_own R p hl (h0.symm.trans e1) e2 (f3 rfl).1 (fun b hb => by
    obtain ⟨j, hj, hv⟩ := (f3 rfl).2 b hb
    obtain rfl : j = i := by simpa using hj
    exact hv) hr' o ht hT hL hi hid hiT
  have q4 : Rep N g' ⟨(d, .one (.c (.int .i64 r'))) :: (t, .one (.own i)) :: T, (i, some (.arr U e z' true)) :: L⟩ (a.put (some d) (.int .i64 r')) w' := q1.put (blt_lt hN) ⟨rfl, hw⟩
  exact next Q Z _ _ _ q4 ⟨q2.le, q2.old, q2.own⟩ fun e a2 w2 h5 => hz e a2 w2 (h5.back q3)
/-- The mark of a slice in slot t; another own array, in slot u, is read alone from here on, too. -/
theorem LM_markOK2 {i i2 : Nat} {α α2 : Type} {U U2 : TypeId} {e : Enc α} {e0 : Enc α2} {z z' : List α} {z2 : List α2} (t u : Nat) (T : Nat → Tmps) (hN : Nat.blt d N = true) (hev : evo s.t fo = some (.one (.clo f []))) (hx : evo s.t x = some (.one (.own i))) (hy : evo s.t y = some (.one (.c (.int .i64 k))))
    (ht : lk s.t t = some (.one (.own i))) (hu : lk s.t u = some (.one (.own i2))) (hii : Nat.beq i i2 = false) (hf : Callable P f) (hM : MarkO P f e z k r' z') (hl : lkl s.l i = some (.arr U e z true)) (hl2 : lkl s.l i2 = some (.arr U2 e0 z2 true)) (hw : wfV (.int .i64 r')) (hT : ∀ B', StayT B B' s.t (T B'))
    (next : ∀ B', LM P N B' ops Kn r ⟨(d, .one (.c (.int .i64 r'))) :: (t, .one (.slo B' e z')) :: (u, .one (.slo B' e0 z2)) :: T B', []⟩) : LM P N B ops Kn (⟨some d, .call { callee := .value fo, args := #[x, y], argTypes := ats }, ty, pos, after, none⟩ :: r) s := fun Q Z g a w R p hz => by
  have hfe : a.eval fo = .func (.func f) #[] #[] := (eval_ok R (evs_of hev) (rdo_of hev) : CellR g s.l w (a.eval fo) (.clo f [])) (fun k hk => by cases hk)
  have h1 : a.eval x = g.hd i := (eval_ok R (evs_of hx) (rdo_of hx) : CellR g s.l w (a.eval x) (.own i)) _ _ _ _ _ hl
  have ht1 : a.tmps.getD t undef = g.hd i := (R.tmp t _ ht : CellR g s.l w _ (.own i)) _ _ _ _ _ hl
  have hu1 : CellR g s.l w (a.tmps.getD u undef) (.own i2) := R.tmp u _ hu
  obtain ⟨h3, _⟩ : a.eval y = .int .i64 k ∧ wfV (.int .i64 k) := eval_ok R (evs_of hy) (rdo_of hy)
  obtain ⟨bs, f1, f2, f3⟩ := mvC_ok R.mem (vs := [a.eval x]) (cs := [.own i]) (ds := [.sl e z]) (js := [i]) (d := true) ⟨eval_ok R (evs_of hx) (rdo_of hx), trivial⟩ (by simp [mvC, hl]) (by simp)
  obtain ⟨b1, b2, rfl, ⟨ad, n, cap, e1, e2⟩, rfl⟩ := f1
  rw [List.append_nil] at f2 f3
  obtain ⟨bs2, k1, k2, k3⟩ := mvC_ok R.mem (vs := [a.tmps.getD u undef]) (cs := [.own i2]) (ds := [.sl e0 z2]) (js := [i2]) (d := true) ⟨hu1, trivial⟩ (by simp [mvC, hl2]) (by simp)
  obtain ⟨c1, c2, rfl, ⟨ad2, n2, cap2, d1, d2⟩, rfl⟩ := k1
  rw [List.append_nil] at k2 k3
  have hne : i ≠ i2 := fun e => by subst e; rw [Nat.beq_refl] at hii; cases hii
  have hap : ∀ b ∈ c1, b ∉ b1 := fun b hb hb' => by
    obtain ⟨j, hj, hv⟩ := (k3 rfl).2 b hb
    obtain ⟨j', hj', hv'⟩ := (f3 rfl).2 b hb'
    obtain rfl : j = i2 := by simpa using hj
    obtain rfl : j' = i := by simpa using hj'
    exact hne (Via.disj R.mem hv' hv)
  unfold wpList
  rw [if_pos (by simp [Region.wanted])]
  refine .inl ?_
  unfold Oper.wp
  rw [run_enter rfl hf hfe, Oper.upon_enter]
  simp only [List.map_toArray, List.map_cons, List.map_nil, e1, h3, Array.append_empty]
  refine (hM w ad n cap b1 e2 (via_fresh R.mem (f3 rfl))).mono ?_
  rintro e' w' ⟨rfl, hr', o⟩
  obtain ⟨q1, q2, q3⟩ := stay_rep R p (f3 rfl).2 o (hT w'.heap.size)
  have hep : VR (allI w') [] w' (a.tmps.getD t undef) (.one (.slo w'.heap.size e z')) := by
    rw [ht1, ← h1, e1]
    exact ⟨ad, n, cap, b1, rfl, hr', fun c hc => ⟨hr'.lt c hc, hr'.lt c hc⟩⟩
  have hr2 : SliceRep e0 w' ad2 n2 cap2 z2 c1 := d2.keep (fun b hb => o.keep b (d2.lt b hb) (hap b hb)) o.size
  have hep2 : VR (allI w') [] w' (a.tmps.getD u undef) (.one (.slo w'.heap.size e0 z2)) := by
    rw [d1]
    exact ⟨ad2, n2, cap2, c1, rfl, hr2, fun c hc => ⟨hr2.lt c hc, hr2.lt c hc⟩⟩
  have q5 : Rep N (allI w') ⟨(t, .one (.slo w'.heap.size e z')) :: (u, .one (.slo w'.heap.size e0 z2)) :: T w'.heap.size, []⟩ a w' := ⟨q1.size, q1.defers, fun j y hj => by
    by_cases ej : t = j
    · subst ej; rw [lk_cons_self] at hj; cases hj; exact hep
    · rw [lk_cons_ne ej] at hj
      by_cases eu : u = j
      · subst eu; rw [lk_cons_self] at hj; cases hj; exact hep2
      · rw [lk_cons_ne eu] at hj; exact q1.tmp j y hj, q1.mem⟩
  have q4 : Rep N (allI w') ⟨(d, .one (.c (.int .i64 r'))) :: (t, .one (.slo w'.heap.size e z')) :: (u, .one (.slo w'.heap.size e0 z2)) :: T w'.heap.size, []⟩ (a.put (some d) (.int .i64 r')) w' := q5.put (blt_lt hN) ⟨rfl, hw⟩
  exact next w'.heap.size Q Z _ _ _ q4 ⟨q2.le, q2.old, q2.own⟩ fun e a2 w2 h5 => hz e a2 w2 ((h5.down (Nat.le_trans p.le o.size)).back q3)
end mark
end lm
end Go.Proofs.Ytfdpigafekohgaa

/- The laws' own functions: GenE (printed by gen.py) -/
namespace Go.Proofs.Ytfdpigafekohgaa
open Go.RowKit
set_option linter.unusedVariables false
set_option maxRecDepth 100000

structure Actt where
  kind : Int
  a : Int
  b : Int
structure Matcht where
  v : List (Int)
  m : List (Int)
structure Headt where
  v : List (Int)
structure Msgt where
  kind : Int
  session : Int
  xid : Int
  epoch : Int
  prio : Int
  mat : Matcht
  acts : List (Actt)
  hand : Bool
  head : Headt
end Go.Proofs.Ytfdpigafekohgaa

/- Bits of whole numbers, in the abstract walk. -/
namespace Go.Proofs.Ytfdpigafekohgaa
open Go.RowKit
set_option linter.unusedVariables false

section
variable {P : Program} {N d : Nat} {s : St} {ty : TypeId} {pos : String} {after : Array Edge} {gd : Option (Nat × Bool)}
end
end Go.Proofs.Ytfdpigafekohgaa

/- Messages in plain words. -/
namespace Go.Proofs.Ytfdpigafekohgaa
open Go.RowKit
set_option linter.unusedVariables false

end Go.Proofs.Ytfdpigafekohgaa

/- Messages ars bytes, in plain words. -/
namespace Go.Proofs.Ytfdpigafekohgaa
open Go.RowKit
set_option linter.unusedVariables false

end Go.Proofs.Ytfdpigafekohgaa

/- Loads from the elements of an own array, in the abstract walk. -/
namespace Go.Proofs.Ytfdpigafekohgaa
open Go.RowKit
set_option linter.unusedVariables false
section
variable {P : Program} {N d : Nat} {s : St} {ty : TypeId} {pos : String} {after : Array Edge} {gd : Option (Nat × Bool)}
end
end Go.Proofs.Ytfdpigafekohgaa

/- Relations (printed by walk.py) -/
namespace Go.Proofs.Ytfdpigafekohgaa
open Go.RowKit
set_option linter.unusedVariables false
set_option linter.unusedSimpArgs false
set_option maxRecDepth 100000


end Go.Proofs.Ytfdpigafekohgaa

/- Messages that are well formed (printed by walk.py) -/
namespace Go.Proofs.Ytfdpigafekohgaa
open Go.RowKit
set_option linter.unusedVariables false
set_option linter.unusedSimpArgs false
set_option maxRecDepth 100000

end Go.Proofs.Ytfdpigafekohgaa

/- Messages ars bytes (printed by walk.py) -/
namespace Go.Proofs.Ytfdpigafekohgaa
open Go.RowKit
set_option linter.unusedVariables false
set_option linter.unusedSimpArgs false
set_option maxRecDepth 100000

end Go.Proofs.Ytfdpigafekohgaa

/- Bytes read again (printed by walk.py) -/
namespace Go.Proofs.Ytfdpigafekohgaa
open Go.RowKit
set_option linter.unusedVariables false
set_option linter.unusedSimpArgs false
set_option maxRecDepth 100000

set_option maxHeartbeats 4000000 in
theorem getI_c (l : List Int) (hl : l.length ≤ 6) : AC Try.prog 56 [.one (.sl (intE .u8) l)] [] (.one (.c (.int .i64 (bign l)))) [] := by
  refine AC_body1 Try.func56 rfl rfl Try.ntmps56 rfl Try.results56 ?_
  refine AW_slbyte 0 rfl (fun hy0 => ?_)
  refine AW_seq ?_
  refine AW_region ?_
  refine AL_p (x_assign rfl rfl) ?_
  refine AL_nil ?_
  refine AW_seq ?_
  refine AW_region ?_
  refine AL_p (x_assign rfl rfl) ?_
  refine AL_nil ?_
  refine AW_seq ?_
  refine AW_seq ?_
  refine AW_region ?_
  refine AL_p (x_move rfl rfl) ?_
  refine AL_p (x_len (E := 5) (n := 1) rfl rfl (by kernel_rfl)) ?_
  refine AL_p (x_move rfl rfl) ?_
  refine AL_nil ?_
  refine AW_block ?_
  refine AW_loop2 (ι := {q : Nat // q ≤ l.length}) (fun p => [(3, .one (.c (.int .i64 (bign (l.take (p.1)))))), (8, .one (.c (.int .i64 ((p.1) : Int))))]) (fun p => []) [6, 7] [] (fun p => l.length - (p.1)) ⟨0, by omega⟩ (rn []) ?_ ?_
  exact ⟨by (repeat refine ⟨⟨_, rfl, by first | exact VLe.rf | exact vle_int (by dsimp only; omega)⟩, ?_⟩); exact trivial, by (repeat refine ⟨⟨_, rfl, by first | exact BLe.rf | exact BLe.box AllC.rf | exact BLe.arr (by exact rfl)⟩, ?_⟩); exact trivial, by repeat (first | exact trivial | refine ⟨⟨rfl, by first | (left; intro h; cases h) | (right; rfl), by first | exact (fun _ h => ⟨_, h⟩) | exact (fun _ _ => ⟨_, rfl⟩)⟩, ?_⟩), rfl⟩
  rintro ⟨k, hinv⟩
  dsimp only
  have hk := hinv
  have hnb := bign_le (l := l.take k) (n := 6) (by simp; omega) (by omega)
  refine AW_seq ?_
  refine AW_region ?_
  refine AL_b (x_lss rfl rfl rfl) (fun b9 h9 => ?_)
  refine AL_nil ?_
  refine AW_seq ?_
  cases b9
  · try simp only [tdy] at h9
    refine AW_condF rfl ?_
    refine AW_exit (BQ_hit ?_)
    refine AW_seq ?_
    refine AW_region ?_
    refine AL_p (x_move rfl rfl) ?_
    refine AL_p (x_assign rfl rfl) ?_
    refine AL_nil ?_
    refine AW_ret ?_
    exact ⟨rn [], ⟨⟨⟨_, rfl, vle_int (by rw [List.take_of_length_le (by omega)])⟩, trivial⟩, trivial, trivial, rfl⟩⟩
  try simp only [tdy] at h9
  have hx := hy0 _ (List.getElem_mem (l := l) (n := k) (by omega))
  have hs := bign_next (l := l) (k := k) (by omega) hx
  refine AW_condT rfl ?_
  refine AW_skip ?_
  refine AW_seq ?_
  refine AW_block ?_
  refine AW_seq ?_
  refine AW_region ?_
  refine AL_p (x_index (E := 5) (n := 1) rfl rfl rfl (by kernel_rfl) rfl (k := k) (by omega) (by omega)) ?_
  refine AL_p (x_eload1 rfl rfl (by kernel_rfl) rfl) ?_
  refine AL_p (x_assign rfl rfl) ?_
  refine AL_nil ?_
  refine AW_region ?_
  refine AL_p (x_move rfl rfl) ?_
  refine AL_p (x_mul rfl rfl rfl (IntWalk.i64_in _ (by omega))) ?_
  refine AL_p (x_move rfl rfl) ?_
  refine AL_p (x_conv (k' := .i64) rfl rfl (by kernel_rfl) (IntWalk.i64_in _ (by omega))) ?_
  refine AL_p (x_add rfl rfl rfl (IntWalk.i64_in _ (by omega))) ?_
  refine AL_p (x_assign rfl rfl) ?_
  refine AL_nil ?_
  refine AW_region ?_
  refine AL_p (x_add rfl rfl rfl (IntWalk.i64_in _ (by omega))) ?_
  refine AL_p (x_move rfl rfl) ?_
  refine AL_nil ?_
  refine ⟨⟨k + 1, by omega⟩, rn [], ?_, by dsimp only; omega⟩
  exact ⟨by (repeat refine ⟨⟨_, rfl, by first | exact VLe.rf | exact vle_int (by dsimp only; omega)⟩, ?_⟩); exact trivial, by (repeat refine ⟨⟨_, rfl, by first | exact BLe.rf | exact BLe.box AllC.rf | exact BLe.arr (by exact rfl)⟩, ?_⟩); exact trivial, by repeat (first | exact trivial | refine ⟨⟨rfl, by first | (left; intro h; cases h) | (right; rfl), by first | exact (fun _ h => ⟨_, h⟩) | exact (fun _ _ => ⟨_, rfl⟩)⟩, ?_⟩), rfl⟩

set_option maxHeartbeats 4000000 in
theorem getS_c (b : List Int) (z n : Int) (h0 : 0 ≤ z) (hz : z ≤ 1000000000) (h1 : 1 ≤ n) (h2 : n ≤ 6) : AC Try.prog 54 [.one (.sl (intE .u8) b), .one (.c (.int .i64 z)), .one (.c (.int .i64 n))] [] (.tup [.one (.c (.int .i64 (getS b z n))), .one (.c (.bool (decide (z + n ≤ (b.length : Int)))))]) [] := by
  refine AC_body2 Try.func54 rfl rfl Try.ntmps54 rfl Try.results54 rfl rfl rfl ?_
  refine AW_slbyte 0 rfl (fun hy0 => ?_)
  refine AW_slmax 0 rfl (fun hm0 => ?_)
  refine AW_seq ?_
  refine AW_region ?_
  refine AL_p (x_assign rfl rfl) ?_
  refine AL_p (x_assign rfl rfl) ?_
  refine AL_nil ?_
  refine AW_seq ?_
  refine AW_seq ?_
  refine AW_region ?_
  refine AL_p (x_move rfl rfl) ?_
  refine AL_b (x_lss rfl rfl rfl) (fun b11 h11 => ?_)
  refine AL_p (x_move rfl rfl) ?_
  cases b11
  rotate_left
  · exfalso; simp at h11; omega
  try simp only [tdy] at h11
  refine AL_g rfl rfl (x_move rfl rfl) ?_
  refine AL_gb rfl rfl (x_gtr rfl rfl rfl) (fun b14 h14 => ?_)
  refine AL_p (x_pickF rfl rfl rfl) ?_
  refine AL_p (x_move rfl rfl) ?_
  cases b14
  rotate_left
  · exfalso; simp at h14; omega
  try simp only [tdy] at h14
  refine AL_g rfl rfl (x_move rfl rfl) ?_
  refine AL_gb rfl rfl (x_lss rfl rfl rfl) (fun b18 h18 => ?_)
  refine AL_p (x_pickF rfl rfl rfl) ?_
  refine AL_p (x_move rfl rfl) ?_
  cases b18
  rotate_left
  · exfalso; simp at h18; omega
  try simp only [tdy] at h18
  refine AL_g rfl rfl (x_move rfl rfl) ?_
  refine AL_g rfl rfl (x_move rfl rfl) ?_
  refine AL_g rfl rfl (x_len (E := 5) (n := 1) rfl rfl (by kernel_rfl)) ?_
  refine AL_g rfl rfl (x_move rfl rfl) ?_
  refine AL_g rfl rfl (x_sub rfl rfl rfl (IntWalk.i64_in _ (by omega))) ?_
  refine AL_gb rfl rfl (x_gtr rfl rfl rfl) (fun b26 h26 => ?_)
  refine AL_p (x_pickF rfl rfl rfl) ?_
  refine AL_nil ?_
  cases b26
  rotate_left
  · try simp only [tdy] at h26
    have hno : getS b z n = 0 := if_neg (by omega)
    refine AW_condT rfl ?_
    refine AW_seq ?_
    refine AW_region ?_
    refine AL_p (x_assign rfl rfl) ?_
    refine AL_p (x_assign rfl rfl) ?_
    refine AL_nil ?_
    refine AW_ret ?_
    exact ⟨rn [], ⟨⟨⟨_, rfl, vle_int (by rw [hno]; first | done | rw [List.take_of_length_le (by omega)])⟩, ⟨_, rfl, vle_bool (by symm; first | (rw [decide_eq_true_eq]; omega) | (rw [decide_eq_false_iff_not]; omega))⟩, trivial⟩, trivial, trivial, rfl⟩⟩
  try simp only [tdy] at h26
  have hno : getS b z n = bign ((b.drop z.toNat).take n.toNat) := if_pos (by omega)
  have hlen : ((b.drop z.toNat).take n.toNat).length = n.toNat := by simp; omega
  refine AW_condF rfl ?_
  refine AW_skip ?_
  refine AW_seq ?_
  refine AW_region ?_
  refine AL_p (x_assign rfl rfl) ?_
  refine AL_nil ?_
  refine AW_seq ?_
  refine AW_seq ?_
  refine AW_region ?_
  refine AL_p (x_assign rfl rfl) ?_
  refine AL_nil ?_
  refine AW_block ?_
  refine AW_loop2 (ι := {q : Nat // (q : Int) ≤ n}) (fun p => [(8, .one (.c (.int .i64 (bign (((b.drop z.toNat).take n.toNat).take (p.1)))))), (9, .one (.c (.int .i64 ((p.1) : Int))))]) (fun p => []) [0, 1, 2] [] (fun p => n.toNat - (p.1)) ⟨0, by omega⟩ (rn []) ?_ ?_
  exact ⟨by (repeat refine ⟨⟨_, rfl, by first | exact VLe.rf | exact vle_int (by dsimp only; omega)⟩, ?_⟩); exact trivial, by (repeat refine ⟨⟨_, rfl, by first | exact BLe.rf | exact BLe.box AllC.rf | exact BLe.arr (by exact rfl)⟩, ?_⟩); exact trivial, by repeat (first | exact trivial | refine ⟨⟨rfl, by first | (left; intro h; cases h) | (right; rfl), by first | exact (fun _ h => ⟨_, h⟩) | exact (fun _ _ => ⟨_, rfl⟩)⟩, ?_⟩), rfl⟩
  rintro ⟨k, hinv⟩
  dsimp only
  have hk := hinv
  have hnb := bign_le (l := ((b.drop z.toNat).take n.toNat).take k) (n := 6) (by simp; omega) (by omega)
  refine AW_seq ?_
  refine AW_seq ?_
  refine AW_region ?_
  refine AL_p (x_move rfl rfl) ?_
  refine AL_p (x_move rfl rfl) ?_
  refine AL_b (x_lss rfl rfl rfl) (fun b30 h30 => ?_)
  refine AL_nil ?_
  cases b30
  · try simp only [tdy] at h30
    refine AW_condF rfl ?_
    refine AW_exit (BQ_hit ?_)
    refine AW_seq ?_
    refine AW_region ?_
    refine AL_p (x_move rfl rfl) ?_
    refine AL_p (x_assign rfl rfl) ?_
    refine AL_p (x_assign rfl rfl) ?_
    refine AL_nil ?_
    refine AW_ret ?_
    exact ⟨rn [], ⟨⟨⟨_, rfl, vle_int (by rw [hno]; first | done | rw [List.take_of_length_le (by omega)])⟩, ⟨_, rfl, vle_bool (by symm; first | (rw [decide_eq_true_eq]; omega) | (rw [decide_eq_false_iff_not]; omega))⟩, trivial⟩, trivial, trivial, rfl⟩⟩
  try simp only [tdy] at h30
  have hat : ((b.drop z.toNat).take n.toNat)[k]'(by omega) = b[(z + (k : Int)).toNat]'(by omega) := by simp only [List.getElem_take, List.getElem_drop]; congr 1; omega
  have hx := hy0 _ (List.getElem_mem (l := b) (n := (z + (k : Int)).toNat) (by omega))
  have hs := bign_next (l := (b.drop z.toNat).take n.toNat) (k := k) (by omega) (by rw [hat]; exact hx)
  rw [hat] at hs
  refine AW_condT rfl ?_
  refine AW_skip ?_
  refine AW_seq ?_
  refine AW_block ?_
  refine AW_region ?_
  refine AL_p (x_move rfl rfl) ?_
  refine AL_p (x_mul rfl rfl rfl (IntWalk.i64_in _ (by omega))) ?_
  refine AL_p (x_move rfl rfl) ?_
  refine AL_p (x_move rfl rfl) ?_
  refine AL_p (x_move rfl rfl) ?_
  refine AL_p (x_add rfl rfl rfl (IntWalk.i64_in _ (by omega))) ?_
  refine AL_p (x_index (E := 5) (n := 1) rfl rfl rfl (by kernel_rfl) rfl (k := (z + (k : Int)).toNat) (by omega) (by omega)) ?_
  refine AL_p (x_eload1 rfl rfl (by kernel_rfl) rfl) ?_
  refine AL_p (x_conv (k' := .i64) rfl rfl (by kernel_rfl) (IntWalk.i64_in _ (by omega))) ?_
  refine AL_p (x_add rfl rfl rfl (IntWalk.i64_in _ (by omega))) ?_
  refine AL_p (x_assign rfl rfl) ?_
  refine AL_nil ?_
  refine AW_region ?_
  refine AL_p (x_move rfl rfl) ?_
  refine AL_p (x_add rfl rfl rfl (IntWalk.i64_in _ (by omega))) ?_
  refine AL_p (x_assign rfl rfl) ?_
  refine AL_nil ?_
  refine ⟨⟨k + 1, by omega⟩, rn [], ?_, by dsimp only; omega⟩
  exact ⟨by (repeat refine ⟨⟨_, rfl, by first | exact VLe.rf | exact vle_int (by dsimp only; omega)⟩, ?_⟩); exact trivial, by (repeat refine ⟨⟨_, rfl, by first | exact BLe.rf | exact BLe.box AllC.rf | exact BLe.arr (by exact rfl)⟩, ?_⟩); exact trivial, by repeat (first | exact trivial | refine ⟨⟨rfl, by first | (left; intro h; cases h) | (right; rfl), by first | exact (fun _ h => ⟨_, h⟩) | exact (fun _ _ => ⟨_, rfl⟩)⟩, ?_⟩), rfl⟩

end Go.Proofs.Ytfdpigafekohgaa

/- Parts (printed by walk.py) -/
namespace Go.Proofs.Ytfdpigafekohgaa
open Go.RowKit
set_option linter.unusedVariables false
set_option linter.unusedSimpArgs false
set_option maxRecDepth 100000

set_option maxHeartbeats 4000000 in
theorem cloneB_c0 (r : List Int) (hl : r.length ≤ 1048576) : AC Try.prog 55 [.one (.sl (intE .u8) r)] [] (.one (.own 0)) [(0, some (.arr 5 (intE .u8) r true))] := by
  refine AC_body1 Try.func55 rfl rfl Try.ntmps55 rfl Try.results55 ?_
  refine AW_split 0 rfl (fun hx => ?_) ?_
  · subst hx
    refine AW_seq ?_
    refine AW_region ?_
    refine AL_p (x_assign rfl rfl) ?_
    refine AL_nil ?_
    refine AW_seq ?_
    refine AW_seq ?_
    refine AW_region ?_
    refine AL_p (x_move rfl rfl) ?_
    refine AL_p (x_nilnil rfl rfl rfl (E := 5) (n := 1) (by kernel_rfl)) ?_
    refine AL_nil ?_
    refine AW_condT rfl ?_
    refine AW_seq ?_
    refine AW_region ?_
    refine AL_p (x_assign rfl rfl) ?_
    refine AL_nil ?_
    refine AW_adoptT (T := 5) (e := (intE .u8)) 100 2 rfl rfl rfl ?_
    refine AW_ret ?_
    exact ⟨rn [(0, 100)], ⟨⟨⟨_, rfl, VLe.rf⟩, trivial⟩, ⟨⟨_, rfl, BLe.rf⟩, trivial⟩, trivial, rfl⟩⟩
  · refine AW_seq ?_
    refine AW_region ?_
    refine AL_p (x_assign rfl rfl) ?_
    refine AL_nil ?_
    refine AW_seq ?_
    refine AW_seq ?_
    refine AW_region ?_
    refine AL_p (x_move rfl rfl) ?_
    refine AL_p (x_snnil rfl rfl rfl (E := 5) (n := 1) (by kernel_rfl)) ?_
    refine AL_nil ?_
    refine AW_condF rfl ?_
    refine AW_skip ?_
    refine AW_seq ?_
    refine AW_region ?_
    refine AL_p (y_bslice0 (E := 5) (e := (intE .u8)) 101 rfl rfl rfl (by kernel_rfl)) ?_
    refine AL_p (x_move_sn rfl rfl) ?_
    refine AL_p (y_append_sl 102 true (.inr intE_nofp) rfl rfl rfl rfl rfl rfl (by kernel_rfl) (by simp; omega)) ?_
    refine AL_p (x_assign rfl rfl) ?_
    refine AL_nil ?_
    refine AW_ret ?_
    exact ⟨rn [(0, 102)], ⟨⟨⟨_, rfl, VLe.rf⟩, trivial⟩, ⟨⟨_, rfl, BLe.rf⟩, trivial⟩, trivial, rfl⟩⟩
theorem cloneB_c (r : List Int) (hl : r.length ≤ 1048576) (k : Nat) : AC Try.prog 55 [.one (.sl (intE .u8) r)] [] (.one (.own k)) [(k, some (.arr 5 (intE .u8) r true))] := AC.at (cloneB_c0 r hl) k

set_option maxHeartbeats 4000000 in
theorem cutI_c (hold piece : List Int) : AC Try.prog 14 [.one (.sl (intE .u8) hold), .one (.sl (intE .u8) piece)] [] (.tup [.one (.own 0), .one (.own 1), .one (.c (.bool (cut hold piece).2))]) [(0, some (.arr 34 partE (cut hold piece).1.1 true)), (1, some (.arr 5 (intE .u8) (cut hold piece).1.2 true))] := by
  refine AC_body3 Try.func14 rfl rfl Try.ntmps14 rfl Try.results14 rfl rfl rfl rfl rfl rfl ?_
  refine AW_slmax 0 rfl (fun hm0 => ?_)
  refine AW_slmax 1 rfl (fun hm1 => ?_)
  refine AW_seq ?_
  refine AW_region ?_
  refine AL_p (x_assign rfl rfl) ?_
  refine AL_p (x_assign rfl rfl) ?_
  refine AL_p (x_assign rfl rfl) ?_
  refine AL_nil ?_
  refine AW_seq ?_
  refine AW_seq ?_
  refine AW_region ?_
  refine AL_p (x_move rfl rfl) ?_
  refine AL_p (x_len (E := 5) (n := 1) rfl rfl (by kernel_rfl)) ?_
  refine AL_b (x_gtr rfl rfl rfl) (fun b12 h12 => ?_)
  refine AL_p (x_move rfl rfl) ?_
  cases b12
  rotate_left
  · try simp only [tdy] at h12
    have hno := cut_no (hold := hold) (piece := piece) (.inl (by omega))
    refine AL_o rfl rfl rfl rfl ?_
    refine AL_o rfl rfl rfl rfl ?_
    refine AL_o rfl rfl rfl rfl ?_
    refine AL_p (x_pickT rfl rfl rfl) ?_
    refine AL_nil ?_
    refine AW_condT rfl ?_
    refine AW_seq ?_
    refine AW_region ?_
    refine AL_p (x_assign rfl rfl) ?_
    refine AL_p (x_assign rfl rfl) ?_
    refine AL_p (x_assign rfl rfl) ?_
    refine AL_nil ?_
    refine AW_adoptT (T := 34) (e := partE) 100 4 rfl rfl rfl ?_
    refine AW_adoptT (T := 5) (e := (intE .u8)) 101 5 rfl rfl rfl ?_
    refine AW_ret ?_
    exact ⟨rn [(0, 100), (1, 101)], ⟨⟨⟨_, rfl, VLe.rf⟩, ⟨_, rfl, VLe.rf⟩, ⟨_, rfl, by refine vle_bool ?_; rw [hno]⟩, trivial⟩, ⟨⟨_, rfl, by refine BLe.arr ?_; rw [hno]⟩, ⟨_, rfl, by refine BLe.arr ?_; rw [hno]⟩, trivial⟩, trivial, rfl⟩⟩
  try simp only [tdy] at h12
  refine AL_g rfl rfl (x_move rfl rfl) ?_
  refine AL_g rfl rfl (x_len (E := 5) (n := 1) rfl rfl (by kernel_rfl)) ?_
  refine AL_gb rfl rfl (x_gtr rfl rfl rfl) (fun b16 h16 => ?_)
  refine AL_p (x_pickF rfl rfl rfl) ?_
  refine AL_nil ?_
  cases b16
  rotate_left
  · try simp only [tdy] at h16
    have hno := cut_no (hold := hold) (piece := piece) (.inr (by omega))
    refine AW_condT rfl ?_
    refine AW_seq ?_
    refine AW_region ?_
    refine AL_p (x_assign rfl rfl) ?_
    refine AL_p (x_assign rfl rfl) ?_
    refine AL_p (x_assign rfl rfl) ?_
    refine AL_nil ?_
    refine AW_adoptT (T := 34) (e := partE) 100 4 rfl rfl rfl ?_
    refine AW_adoptT (T := 5) (e := (intE .u8)) 101 5 rfl rfl rfl ?_
    refine AW_ret ?_
    exact ⟨rn [(0, 100), (1, 101)], ⟨⟨⟨_, rfl, VLe.rf⟩, ⟨_, rfl, VLe.rf⟩, ⟨_, rfl, by refine vle_bool ?_; rw [hno]⟩, trivial⟩, ⟨⟨_, rfl, by refine BLe.arr ?_; rw [hno]⟩, ⟨_, rfl, by refine BLe.arr ?_; rw [hno]⟩, trivial⟩, trivial, rfl⟩⟩
  try simp only [tdy] at h16
  have hno0 := cut_ok (hold := hold) (piece := piece) (by omega) (by omega)
  refine AW_condF rfl ?_
  refine AW_skip ?_
  refine AW_seq ?_
  refine AW_region ?_
  refine AL_p (x_move rfl rfl) ?_
  refine AL_p (x_call1 rfl rfl rfl (cloneB_c hold (by omega) 102) rfl rfl rfl rfl) ?_
  refine AL_p (x_move rfl rfl) ?_
  refine AL_p (y_append_sl 103 true (.inr intE_nofp) rfl rfl rfl rfl rfl rfl (by kernel_rfl) (by omega)) ?_
  refine AL_p (x_assign rfl rfl) ?_
  refine AL_nil ?_
  refine AW_seq ?_
  refine AW_region ?_
  refine AL_p (y_bslice0 (E := 34) (e := partE) 104 rfl rfl rfl (by kernel_rfl)) ?_
  refine AL_p (x_assign rfl rfl) ?_
  refine AL_nil ?_
  refine AW_seq ?_
  refine AW_block ?_
  refine AW_shut 103 7 rfl rfl ?_
  refine AW_loop2 (ι := {q : Nat × List Int × List Partt // ((cut hold piece = cutRun (q.1) (q.2.1) (q.2.2) ∧ (q.2.1).length ≤ (q.1)) ∧ (q.2.1).length ≤ 60300) ∧ (q.2.2).length + (q.2.1).length ≤ 60300}) (fun p => [(7, .one (.sl (intE .u8) (p.1.2.1))), (8, .one (.own 104))]) (fun p => [(104, some (.arr 34 partE (p.1.2.2) true))]) [] [] (fun p => (p.1.2.1).length) ⟨⟨(hold ++ piece).length, hold ++ piece, []⟩, ⟨⟨⟨hno0, Nat.le_refl _⟩, by simp only [List.length_append]; omega⟩, by simp only [List.length_append, List.length_nil]; omega⟩⟩ (rn []) ?_ ?_
  exact ⟨by (repeat refine ⟨⟨_, rfl, by first | exact VLe.rf | exact vle_int (by dsimp only; omega)⟩, ?_⟩); exact trivial, by (repeat refine ⟨⟨_, rfl, by first | exact BLe.rf | exact BLe.box AllC.rf | exact BLe.arr (by exact rfl)⟩, ?_⟩); exact trivial, by repeat (first | exact trivial | refine ⟨⟨rfl, by first | (left; intro h; cases h) | (right; rfl), by first | exact (fun _ h => ⟨_, h⟩) | exact (fun _ _ => ⟨_, rfl⟩)⟩, ?_⟩), rfl⟩
  rintro ⟨⟨f, r, ps⟩, hinv⟩
  dsimp only
  obtain ⟨⟨⟨hrun, hf⟩, hr⟩, hp⟩ := hinv
  have hrun : cut hold piece = cutRun f r ps := hrun
  have hf : r.length ≤ f := hf
  have hr : r.length ≤ 60300 := hr
  have hp : ps.length + r.length ≤ 60300 := hp
  refine AW_seq ?_
  refine AW_seq ?_
  refine AW_region ?_
  refine AL_p (x_move rfl rfl) ?_
  refine AL_p (x_len (E := 5) (n := 1) rfl rfl (by kernel_rfl)) ?_
  refine AL_b (x_geq rfl rfl rfl) (fun b25 h25 => ?_)
  refine AL_nil ?_
  cases b25
  · try simp only [tdy] at h25
    have hno := hrun.trans (cutRun_short (by omega))
    refine AW_condF rfl ?_
    refine AW_exit (BQ_hit ?_)
    refine AW_seq ?_
    refine AW_region ?_
    refine AL_p (x_move rfl rfl) ?_
    refine AL_p (x_move rfl rfl) ?_
    refine AL_p (x_call1 rfl rfl rfl (cloneB_c r (by omega) 105) rfl rfl rfl rfl) ?_
    refine AL_p (x_assign rfl rfl) ?_
    refine AL_p (x_assign rfl rfl) ?_
    refine AL_p (x_assign rfl rfl) ?_
    refine AL_nil ?_
    refine AW_ret ?_
    exact ⟨rn [(0, 104), (1, 105)], ⟨⟨⟨_, rfl, VLe.rf⟩, ⟨_, rfl, VLe.rf⟩, ⟨_, rfl, by refine vle_bool ?_; rw [hno]⟩, trivial⟩, ⟨⟨_, rfl, by refine BLe.arr ?_; rw [hno]⟩, ⟨_, rfl, by refine BLe.arr ?_; rw [hno]⟩, trivial⟩, trivial, rfl⟩⟩
  try simp only [tdy] at h25
  have hcn : bign ((r.drop 2).take 2) = cutN r := rfl
  refine AW_condT rfl ?_
  refine AW_skip ?_
  refine AW_block ?_
  refine AW_seq ?_
  refine AW_region ?_
  refine AL_p (x_move rfl rfl) ?_
  refine AL_p (x_slice (E := 5) (n := 1) rfl rfl (by kernel_rfl) rfl (.yes (l := 2) rfl (by omega)) (.yes (l := 4) rfl (by omega)) (by omega) (by first | exact Nat.le_refl _ | omega) (show _ = (r.drop 2).take 2 from rfl)) ?_
  refine AL_p (x_call0 rfl rfl rfl (getI_c ((r.drop 2).take 2) (by simp; omega)) rfl rfl) ?_
  refine AL_p (x_assign rfl rfl) ?_
  refine AL_nil ?_
  refine AW_seq ?_
  refine AW_seq ?_
  refine AW_region ?_
  refine AL_p (x_move rfl rfl) ?_
  refine AL_b (x_lss rfl rfl rfl) (fun b30 h30 => ?_)
  refine AL_p (x_move rfl rfl) ?_
  cases b30
  rotate_left
  · try simp only [tdy] at h30
    have hno := hrun.trans (cutRun_bad hf (by omega) (.inl (by omega)))
    refine AL_o rfl rfl rfl rfl ?_
    refine AL_o rfl rfl rfl rfl ?_
    refine AL_p (x_pickT rfl rfl rfl) ?_
    refine AL_nil ?_
    refine AW_condT rfl ?_
    refine AW_seq ?_
    refine AW_region ?_
    refine AL_p (x_assign rfl rfl) ?_
    refine AL_p (x_assign rfl rfl) ?_
    refine AL_p (x_assign rfl rfl) ?_
    refine AL_nil ?_
    refine AW_adoptT (T := 34) (e := partE) 100 4 rfl rfl rfl ?_
    refine AW_adoptT (T := 5) (e := (intE .u8)) 101 5 rfl rfl rfl ?_
    refine AW_ret (BQ_ret (BQ_ret ?_))
    exact ⟨rn [(0, 100), (1, 101)], ⟨⟨⟨_, rfl, VLe.rf⟩, ⟨_, rfl, VLe.rf⟩, ⟨_, rfl, by refine vle_bool ?_; rw [hno]⟩, trivial⟩, ⟨⟨_, rfl, by refine BLe.arr ?_; rw [hno]⟩, ⟨_, rfl, by refine BLe.arr ?_; rw [hno]⟩, trivial⟩, trivial, rfl⟩⟩
  try simp only [tdy] at h30
  refine AL_g rfl rfl (x_move rfl rfl) ?_
  refine AL_gb rfl rfl (x_gtr rfl rfl rfl) (fun b33 h33 => ?_)
  refine AL_p (x_pickF rfl rfl rfl) ?_
  refine AL_nil ?_
  cases b33
  rotate_left
  · try simp only [tdy] at h33
    have hno := hrun.trans (cutRun_bad hf (by omega) (.inr (by omega)))
    refine AW_condT rfl ?_
    refine AW_seq ?_
    refine AW_region ?_
    refine AL_p (x_assign rfl rfl) ?_
    refine AL_p (x_assign rfl rfl) ?_
    refine AL_p (x_assign rfl rfl) ?_
    refine AL_nil ?_
    refine AW_adoptT (T := 34) (e := partE) 100 4 rfl rfl rfl ?_
    refine AW_adoptT (T := 5) (e := (intE .u8)) 101 5 rfl rfl rfl ?_
    refine AW_ret (BQ_ret (BQ_ret ?_))
    exact ⟨rn [(0, 100), (1, 101)], ⟨⟨⟨_, rfl, VLe.rf⟩, ⟨_, rfl, VLe.rf⟩, ⟨_, rfl, by refine vle_bool ?_; rw [hno]⟩, trivial⟩, ⟨⟨_, rfl, by refine BLe.arr ?_; rw [hno]⟩, ⟨_, rfl, by refine BLe.arr ?_; rw [hno]⟩, trivial⟩, trivial, rfl⟩⟩
  try simp only [tdy] at h33
  refine AW_condF rfl ?_
  refine AW_skip ?_
  refine AW_seq ?_
  refine AW_seq ?_
  refine AW_region ?_
  refine AL_p (x_move rfl rfl) ?_
  refine AL_p (x_move rfl rfl) ?_
  refine AL_p (x_len (E := 5) (n := 1) rfl rfl (by kernel_rfl)) ?_
  refine AL_b (x_gtr rfl rfl rfl) (fun b38 h38 => ?_)
  refine AL_nil ?_
  cases b38
  rotate_left
  · try simp only [tdy] at h38
    have hno := hrun.trans (cutRun_stop hf (by omega) (by omega) (by omega) (by omega))
    refine AW_condT rfl ?_
    refine AW_exit (BQ_miss rfl (BQ_hit ?_))
    refine AW_seq ?_
    refine AW_region ?_
    refine AL_p (x_move rfl rfl) ?_
    refine AL_p (x_move rfl rfl) ?_
    refine AL_p (x_call1 rfl rfl rfl (cloneB_c r (by omega) 105) rfl rfl rfl rfl) ?_
    refine AL_p (x_assign rfl rfl) ?_
    refine AL_p (x_assign rfl rfl) ?_
    refine AL_p (x_assign rfl rfl) ?_
    refine AL_nil ?_
    refine AW_ret ?_
    exact ⟨rn [(0, 104), (1, 105)], ⟨⟨⟨_, rfl, VLe.rf⟩, ⟨_, rfl, VLe.rf⟩, ⟨_, rfl, by refine vle_bool ?_; rw [hno]⟩, trivial⟩, ⟨⟨_, rfl, by refine BLe.arr ?_; rw [hno]⟩, ⟨_, rfl, by refine BLe.arr ?_; rw [hno]⟩, trivial⟩, trivial, rfl⟩⟩
  try simp only [tdy] at h38
  have hmore := cutRun_more (ps := ps) hf (by omega) (by omega) (by omega) (by omega)
  refine AW_condF rfl ?_
  refine AW_skip ?_
  refine AW_seq ?_
  refine AW_region ?_
  refine AL_p (x_move rfl rfl) ?_
  refine AL_p (x_move rfl rfl) ?_
  refine AL_p (x_move rfl rfl) ?_
  refine AL_p (x_slice (E := 5) (n := 1) rfl rfl (by kernel_rfl) rfl .no (.yes (l := (cutN r).toNat) rfl (by omega)) (by omega) (by first | exact Nat.le_refl _ | omega) (show _ = r.take (cutN r).toNat from rfl)) ?_
  refine AL_p (x_call1 rfl rfl rfl (cloneB_c (r.take (cutN r).toNat) (by simp; omega) 106) rfl rfl rfl rfl) ?_
  refine AL_p (x_build (zs := [.slice none 0 0]) (places := [(0, 1)]) rfl (by kernel_rfl) rfl rfl rfl rfl rfl) ?_
  refine AL_p (y_bslice (E := 34) (e := partE) [.tmp 44] ([⟨r.take (cutN r).toNat⟩]) 107 rfl rfl rfl rfl rfl rfl rfl rfl FitL.rf rfl rfl rfl rfl rfl rfl (by kernel_rfl)) ?_
  refine AL_p (y_append 108 rfl rfl rfl rfl rfl rfl rfl rfl (by kernel_rfl) (by simp only [List.length_cons, List.length_nil]; omega)) ?_
  refine AL_p (x_assign rfl rfl) ?_
  refine AL_nil ?_
  refine AW_region ?_
  refine AL_p (x_move rfl rfl) ?_
  refine AL_p (x_move rfl rfl) ?_
  refine AL_p (x_slice (E := 5) (n := 1) rfl rfl (by kernel_rfl) rfl (.yes (l := (cutN r).toNat) rfl (by omega)) .no (by omega) (by first | exact Nat.le_refl _ | omega) part_drop) ?_
  refine AL_p (x_assign rfl rfl) ?_
  refine AL_nil ?_
  refine ⟨⟨⟨f - 1, r.drop (cutN r).toNat, ps ++ [⟨r.take (cutN r).toNat⟩]⟩, ⟨⟨⟨hrun.trans hmore, by simp only [List.length_drop]; omega⟩, by simp only [List.length_drop]; omega⟩, by simp only [List.length_drop, List.length_append, List.length_cons, List.length_nil]; omega⟩⟩, rn [(104, 108)], ?_, by dsimp only; simp only [List.length_drop]; omega⟩
  exact ⟨by (repeat refine ⟨⟨_, rfl, by first | exact VLe.rf | exact vle_int (by dsimp only; omega)⟩, ?_⟩); exact trivial, by (repeat refine ⟨⟨_, rfl, by first | exact BLe.rf | exact BLe.box AllC.rf | exact BLe.arr (by exact rfl)⟩, ?_⟩); exact trivial, by repeat (first | exact trivial | refine ⟨⟨rfl, by first | (left; intro h; cases h) | (right; rfl), by first | exact (fun _ h => ⟨_, h⟩) | exact (fun _ _ => ⟨_, rfl⟩)⟩, ?_⟩), rfl⟩

set_option maxHeartbeats 4000000 in
theorem cutS_c (hold piece : List Int) : AC Try.prog 12 [.one (.sl (intE .u8) hold), .one (.sl (intE .u8) piece)] [] (.tup [.one (.own 0), .one (.own 1), .one (.c (.bool (cut hold piece).2))]) [(0, some (.arr 34 partE (cut hold piece).1.1 true)), (1, some (.arr 5 (intE .u8) (cut hold piece).1.2 true))] := by
  refine AC_body3 Try.func12 rfl rfl Try.ntmps12 rfl Try.results12 rfl rfl rfl rfl rfl rfl ?_
  refine AW_slmax 0 rfl (fun hm0 => ?_)
  refine AW_slmax 1 rfl (fun hm1 => ?_)
  refine AW_seq ?_
  refine AW_region ?_
  refine AL_p (x_assign rfl rfl) ?_
  refine AL_p (x_assign rfl rfl) ?_
  refine AL_p (x_assign rfl rfl) ?_
  refine AL_nil ?_
  refine AW_seq ?_
  refine AW_seq ?_
  refine AW_region ?_
  refine AL_p (x_move rfl rfl) ?_
  refine AL_p (x_len (E := 5) (n := 1) rfl rfl (by kernel_rfl)) ?_
  refine AL_b (x_gtr rfl rfl rfl) (fun b13 h13 => ?_)
  refine AL_p (x_move rfl rfl) ?_
  cases b13
  rotate_left
  · try simp only [tdy] at h13
    have hno := cut_no (hold := hold) (piece := piece) (.inl (by omega))
    refine AL_o rfl rfl rfl rfl ?_
    refine AL_o rfl rfl rfl rfl ?_
    refine AL_o rfl rfl rfl rfl ?_
    refine AL_p (x_pickT rfl rfl rfl) ?_
    refine AL_nil ?_
    refine AW_condT rfl ?_
    refine AW_seq ?_
    refine AW_region ?_
    refine AL_p (x_assign rfl rfl) ?_
    refine AL_p (x_assign rfl rfl) ?_
    refine AL_p (x_assign rfl rfl) ?_
    refine AL_nil ?_
    refine AW_adoptT (T := 34) (e := partE) 100 4 rfl rfl rfl ?_
    refine AW_adoptT (T := 5) (e := (intE .u8)) 101 5 rfl rfl rfl ?_
    refine AW_ret ?_
    exact ⟨rn [(0, 100), (1, 101)], ⟨⟨⟨_, rfl, VLe.rf⟩, ⟨_, rfl, VLe.rf⟩, ⟨_, rfl, by refine vle_bool ?_; rw [hno]⟩, trivial⟩, ⟨⟨_, rfl, by refine BLe.arr ?_; rw [hno]⟩, ⟨_, rfl, by refine BLe.arr ?_; rw [hno]⟩, trivial⟩, trivial, rfl⟩⟩
  try simp only [tdy] at h13
  refine AL_g rfl rfl (x_move rfl rfl) ?_
  refine AL_g rfl rfl (x_len (E := 5) (n := 1) rfl rfl (by kernel_rfl)) ?_
  refine AL_gb rfl rfl (x_gtr rfl rfl rfl) (fun b17 h17 => ?_)
  refine AL_p (x_pickF rfl rfl rfl) ?_
  refine AL_nil ?_
  cases b17
  rotate_left
  · try simp only [tdy] at h17
    have hno := cut_no (hold := hold) (piece := piece) (.inr (by omega))
    refine AW_condT rfl ?_
    refine AW_seq ?_
    refine AW_region ?_
    refine AL_p (x_assign rfl rfl) ?_
    refine AL_p (x_assign rfl rfl) ?_
    refine AL_p (x_assign rfl rfl) ?_
    refine AL_nil ?_
    refine AW_adoptT (T := 34) (e := partE) 100 4 rfl rfl rfl ?_
    refine AW_adoptT (T := 5) (e := (intE .u8)) 101 5 rfl rfl rfl ?_
    refine AW_ret ?_
    exact ⟨rn [(0, 100), (1, 101)], ⟨⟨⟨_, rfl, VLe.rf⟩, ⟨_, rfl, VLe.rf⟩, ⟨_, rfl, by refine vle_bool ?_; rw [hno]⟩, trivial⟩, ⟨⟨_, rfl, by refine BLe.arr ?_; rw [hno]⟩, ⟨_, rfl, by refine BLe.arr ?_; rw [hno]⟩, trivial⟩, trivial, rfl⟩⟩
  try simp only [tdy] at h17
  have hno0 := cut_ok (hold := hold) (piece := piece) (by omega) (by omega)
  refine AW_condF rfl ?_
  refine AW_skip ?_
  refine AW_seq ?_
  refine AW_region ?_
  refine AL_p (y_bslice0 (E := 5) (e := (intE .u8)) 102 rfl rfl rfl (by kernel_rfl)) ?_
  refine AL_p (x_move rfl rfl) ?_
  refine AL_p (y_append_sl 103 true (.inr intE_nofp) rfl rfl rfl rfl rfl rfl (by kernel_rfl) (by simp only [List.length_nil]; omega)) ?_
  refine AL_p (x_move rfl rfl) ?_
  refine AL_p (y_append_sl 104 true (.inr intE_nofp) rfl rfl rfl rfl rfl rfl (by kernel_rfl) (by simp only [List.length_append, List.length_nil]; omega)) ?_
  refine AL_p (x_assign rfl rfl) ?_
  refine AL_nil ?_
  refine AW_seq ?_
  refine AW_region ?_
  refine AL_p (y_bslice0 (E := 34) (e := partE) 105 rfl rfl rfl (by kernel_rfl)) ?_
  refine AL_p (x_assign rfl rfl) ?_
  refine AL_nil ?_
  refine AW_seq ?_
  refine AW_block ?_
  refine AW_loop2 (ι := {q : Nat × List Int × List Partt // ((cut hold piece = cutRun (q.1) (q.2.1) (q.2.2) ∧ (q.2.1).length ≤ (q.1)) ∧ (q.2.1).length ≤ 60300) ∧ (q.2.2).length + (q.2.1).length ≤ 60300}) (fun p => [(7, .one (.own 104)), (8, .one (.own 105))]) (fun p => [(104, some (.arr 5 (intE .u8) (p.1.2.1) true)), (105, some (.arr 34 partE (p.1.2.2) true))]) [] [] (fun p => (p.1.2.1).length) ⟨⟨(hold ++ piece).length, hold ++ piece, []⟩, ⟨⟨⟨hno0, Nat.le_refl _⟩, by simp only [List.length_append]; omega⟩, by simp only [List.length_append, List.length_nil]; omega⟩⟩ (rn []) ?_ ?_
  exact ⟨by (repeat refine ⟨⟨_, rfl, by first | exact VLe.rf | exact vle_int (by dsimp only; omega)⟩, ?_⟩); exact trivial, by (repeat refine ⟨⟨_, rfl, by first | exact BLe.rf | exact BLe.box AllC.rf | exact BLe.arr (by first | rfl | exact List.nil_append _ | (rw [List.nil_append]))⟩, ?_⟩); exact trivial, by repeat (first | exact trivial | refine ⟨⟨rfl, by first | (left; intro h; cases h) | (right; rfl), by first | exact (fun _ h => ⟨_, h⟩) | exact (fun _ _ => ⟨_, rfl⟩)⟩, ?_⟩), rfl⟩
  rintro ⟨⟨f, r, ps⟩, hinv⟩
  dsimp only
  obtain ⟨⟨⟨hrun, hf⟩, hr⟩, hp⟩ := hinv
  have hrun : cut hold piece = cutRun f r ps := hrun
  have hf : r.length ≤ f := hf
  have hr : r.length ≤ 60300 := hr
  have hp : ps.length + r.length ≤ 60300 := hp
  refine AW_seq ?_
  refine AW_seq ?_
  refine AW_region ?_
  refine AL_p (x_move rfl rfl) ?_
  refine AL_p (x_olen (E := 5) (n := 1) rfl rfl rfl (by kernel_rfl)) ?_
  refine AL_b (x_geq rfl rfl rfl) (fun b27 h27 => ?_)
  refine AL_nil ?_
  cases b27
  · try simp only [tdy] at h27
    have hno := hrun.trans (cutRun_short (by omega))
    refine AW_condF rfl ?_
    refine AW_exit (BQ_hit ?_)
    refine AW_seq ?_
    refine AW_region ?_
    refine AL_p (x_move rfl rfl) ?_
    refine AL_p (x_move rfl rfl) ?_
    refine AL_p (x_assign rfl rfl) ?_
    refine AL_p (x_assign rfl rfl) ?_
    refine AL_p (x_assign rfl rfl) ?_
    refine AL_nil ?_
    refine AW_ret ?_
    exact ⟨rn [(0, 105), (1, 104)], ⟨⟨⟨_, rfl, VLe.rf⟩, ⟨_, rfl, VLe.rf⟩, ⟨_, rfl, by refine vle_bool ?_; rw [hno]⟩, trivial⟩, ⟨⟨_, rfl, by refine BLe.arr ?_; rw [hno]⟩, ⟨_, rfl, by refine BLe.arr ?_; rw [hno]⟩, trivial⟩, trivial, rfl⟩⟩
  try simp only [tdy] at h27
  have hg := getS_cut (r := r) (by omega)
  refine AW_condT rfl ?_
  refine AW_skip ?_
  refine AW_block ?_
  refine AW_seq ?_
  refine AW_region ?_
  refine AL_p (x_move rfl rfl) ?_
  refine AL_p (x_callR rfl rfl rfl (getS_c r 2 2 (by omega) (by omega) (by omega) (by omega)) rfl AllV.rf rfl rfl rfl rfl rfl) ?_
  refine AL_p (x_move rfl rfl) ?_
  refine AL_p (x_extract rfl rfl rfl) ?_
  refine AL_p (x_extract rfl rfl rfl) ?_
  refine AL_p (x_assign rfl rfl) ?_
  refine AL_p (x_assign rfl rfl) ?_
  refine AL_nil ?_
  refine AW_seq ?_
  refine AW_seq ?_
  refine AW_region ?_
  refine AL_p (x_move rfl rfl) ?_
  refine AL_b (x_lss rfl rfl rfl) (fun b34 h34 => ?_)
  refine AL_p (x_move rfl rfl) ?_
  cases b34
  rotate_left
  · try simp only [tdy] at h34
    have hno := hrun.trans (cutRun_bad hf (by omega) (.inl (by omega)))
    refine AL_o rfl rfl rfl rfl ?_
    refine AL_o rfl rfl rfl rfl ?_
    refine AL_p (x_pickT rfl rfl rfl) ?_
    refine AL_nil ?_
    refine AW_condT rfl ?_
    refine AW_seq ?_
    refine AW_region ?_
    refine AL_p (x_assign rfl rfl) ?_
    refine AL_p (x_assign rfl rfl) ?_
    refine AL_p (x_assign rfl rfl) ?_
    refine AL_nil ?_
    refine AW_adoptT (T := 34) (e := partE) 100 4 rfl rfl rfl ?_
    refine AW_adoptT (T := 5) (e := (intE .u8)) 101 5 rfl rfl rfl ?_
    refine AW_ret (BQ_ret (BQ_ret ?_))
    exact ⟨rn [(0, 100), (1, 101)], ⟨⟨⟨_, rfl, VLe.rf⟩, ⟨_, rfl, VLe.rf⟩, ⟨_, rfl, by refine vle_bool ?_; rw [hno]⟩, trivial⟩, ⟨⟨_, rfl, by refine BLe.arr ?_; rw [hno]⟩, ⟨_, rfl, by refine BLe.arr ?_; rw [hno]⟩, trivial⟩, trivial, rfl⟩⟩
  try simp only [tdy] at h34
  refine AL_g rfl rfl (x_move rfl rfl) ?_
  refine AL_gb rfl rfl (x_gtr rfl rfl rfl) (fun b37 h37 => ?_)
  refine AL_p (x_pickF rfl rfl rfl) ?_
  refine AL_nil ?_
  cases b37
  rotate_left
  · try simp only [tdy] at h37
    have hno := hrun.trans (cutRun_bad hf (by omega) (.inr (by omega)))
    refine AW_condT rfl ?_
    refine AW_seq ?_
    refine AW_region ?_
    refine AL_p (x_assign rfl rfl) ?_
    refine AL_p (x_assign rfl rfl) ?_
    refine AL_p (x_assign rfl rfl) ?_
    refine AL_nil ?_
    refine AW_adoptT (T := 34) (e := partE) 100 4 rfl rfl rfl ?_
    refine AW_adoptT (T := 5) (e := (intE .u8)) 101 5 rfl rfl rfl ?_
    refine AW_ret (BQ_ret (BQ_ret ?_))
    exact ⟨rn [(0, 100), (1, 101)], ⟨⟨⟨_, rfl, VLe.rf⟩, ⟨_, rfl, VLe.rf⟩, ⟨_, rfl, by refine vle_bool ?_; rw [hno]⟩, trivial⟩, ⟨⟨_, rfl, by refine BLe.arr ?_; rw [hno]⟩, ⟨_, rfl, by refine BLe.arr ?_; rw [hno]⟩, trivial⟩, trivial, rfl⟩⟩
  try simp only [tdy] at h37
  refine AW_condF rfl ?_
  refine AW_skip ?_
  refine AW_seq ?_
  refine AW_seq ?_
  refine AW_region ?_
  refine AL_p (x_move rfl rfl) ?_
  refine AL_p (x_olen (E := 5) (n := 1) rfl rfl rfl (by kernel_rfl)) ?_
  refine AL_p (x_move rfl rfl) ?_
  refine AL_b (x_lss rfl rfl rfl) (fun b42 h42 => ?_)
  refine AL_nil ?_
  cases b42
  rotate_left
  · try simp only [tdy] at h42
    have hno := hrun.trans (cutRun_stop hf (by omega) (by omega) (by omega) (by omega))
    refine AW_condT rfl ?_
    refine AW_exit (BQ_miss rfl (BQ_hit ?_))
    refine AW_seq ?_
    refine AW_region ?_
    refine AL_p (x_move rfl rfl) ?_
    refine AL_p (x_move rfl rfl) ?_
    refine AL_p (x_assign rfl rfl) ?_
    refine AL_p (x_assign rfl rfl) ?_
    refine AL_p (x_assign rfl rfl) ?_
    refine AL_nil ?_
    refine AW_ret ?_
    exact ⟨rn [(0, 105), (1, 104)], ⟨⟨⟨_, rfl, VLe.rf⟩, ⟨_, rfl, VLe.rf⟩, ⟨_, rfl, by refine vle_bool ?_; rw [hno]⟩, trivial⟩, ⟨⟨_, rfl, by refine BLe.arr ?_; rw [hno]⟩, ⟨_, rfl, by refine BLe.arr ?_; rw [hno]⟩, trivial⟩, trivial, rfl⟩⟩
  try simp only [tdy] at h42
  have hmore := cutRun_more (ps := ps) hf (by omega) (by omega) (by omega) (by omega)
  refine AW_condF rfl ?_
  refine AW_skip ?_
  refine AW_seq ?_
  refine AW_shut 104 7 rfl rfl ?_
  refine AW_region ?_
  refine AL_p (x_move rfl rfl) ?_
  refine AL_p (y_bslice0 (E := 5) (e := (intE .u8)) 106 rfl rfl rfl (by kernel_rfl)) ?_
  refine AL_p (x_move rfl rfl) ?_
  refine AL_p (x_move rfl rfl) ?_
  refine AL_p (x_slice (E := 5) (n := 1) rfl rfl (by kernel_rfl) rfl .no (.yes (l := (cutN r).toNat) rfl (by omega)) (by omega) (by first | exact Nat.le_refl _ | omega) (show _ = r.take (cutN r).toNat from rfl)) ?_
  refine AL_p (y_append_sl 107 true (.inr intE_nofp) rfl rfl rfl rfl rfl rfl (by kernel_rfl) (by simp only [List.length_take, List.length_nil]; omega)) ?_
  refine AL_p (x_build (zs := [.slice none 0 0]) (places := [(0, 1)]) rfl (by kernel_rfl) rfl rfl rfl rfl rfl) ?_
  refine AL_p (y_bslice (E := 34) (e := partE) [.tmp 49] ([⟨[] ++ r.take (cutN r).toNat⟩]) 108 rfl rfl rfl rfl rfl rfl rfl rfl FitL.rf rfl rfl rfl rfl rfl rfl (by kernel_rfl)) ?_
  refine AL_p (y_append 109 rfl rfl rfl rfl rfl rfl rfl rfl (by kernel_rfl) (by simp only [List.length_cons, List.length_nil]; omega)) ?_
  refine AL_p (x_assign rfl rfl) ?_
  refine AL_nil ?_
  refine AW_region ?_
  refine AL_p (y_bslice0 (E := 5) (e := (intE .u8)) 110 rfl rfl rfl (by kernel_rfl)) ?_
  refine AL_p (x_move rfl rfl) ?_
  refine AL_p (x_move rfl rfl) ?_
  refine AL_p (x_slice (E := 5) (n := 1) rfl rfl (by kernel_rfl) rfl (.yes (l := (cutN r).toNat) rfl (by omega)) .no (by omega) (by first | exact Nat.le_refl _ | omega) part_drop) ?_
  refine AL_p (y_append_sl 111 true (.inr intE_nofp) rfl rfl rfl rfl rfl rfl (by kernel_rfl) (by simp only [List.length_drop, List.length_nil]; omega)) ?_
  refine AL_p (x_assign rfl rfl) ?_
  refine AL_nil ?_
  refine ⟨⟨⟨f - 1, r.drop (cutN r).toNat, ps ++ [⟨r.take (cutN r).toNat⟩]⟩, ⟨⟨⟨hrun.trans hmore, by simp only [List.length_drop]; omega⟩, by simp only [List.length_drop]; omega⟩, by simp only [List.length_drop, List.length_append, List.length_cons, List.length_nil]; omega⟩⟩, rn [(104, 111), (105, 109)], ?_, by dsimp only; simp only [List.length_drop]; omega⟩
  exact ⟨by (repeat refine ⟨⟨_, rfl, by first | exact VLe.rf | exact vle_int (by dsimp only; omega)⟩, ?_⟩); exact trivial, by (repeat refine ⟨⟨_, rfl, by first | exact BLe.rf | exact BLe.box AllC.rf | exact BLe.arr (by first | rfl | exact List.nil_append _ | (rw [List.nil_append]))⟩, ?_⟩); exact trivial, by repeat (first | exact trivial | refine ⟨⟨rfl, by first | (left; intro h; cases h) | (right; rfl), by first | exact (fun _ h => ⟨_, h⟩) | exact (fun _ _ => ⟨_, rfl⟩)⟩, ?_⟩), rfl⟩
end Go.Proofs.Ytfdpigafekohgaa

/- How much the marks of parts count. -/
namespace Go.Proofs.Ytfdpigafekohgaa
open Go.RowKit
set_option linter.unusedVariables false

def fitP (x : (List Partt × List Int) × Bool) : Prop := x.1.1.length ≤ 60300 ∧ (∀ p ∈ x.1.1, p.b.length ≤ 60300) ∧ x.1.2.length ≤ 60300
theorem fitP_no : fitP (([], []), false) := ⟨Nat.zero_le _, fun p hp => (by cases hp), Nat.zero_le _⟩
theorem cutRun_fit : ∀ (f : Nat) (r : List Int) (ps : List Partt), r.length ≤ 60300 → (∀ p ∈ ps, p.b.length ≤ 60300) → ps.length + r.length ≤ 60300 → fitP (cutRun f r ps)
  | 0, r, ps, h1, h2, h3 => ⟨by show ps.length ≤ _; omega, h2, h1⟩
  | f + 1, r, ps, h1, h2, h3 => by
    have stay : fitP ((ps, r), true) := ⟨by show ps.length ≤ _; omega, h2, h1⟩
    unfold cutRun
    split
    · exact stay
    · split
      · exact fitP_no
      · split
        · exact stay
        · refine cutRun_fit f _ _ (by simp; omega) (fun p hp => ?_) (by simp; omega)
          rcases List.mem_append.1 hp with hp | hp
          · exact h2 p hp
          · rw [List.mem_singleton.1 hp]; simp; omega
theorem cut_fit (x y : List Int) : fitP (cut x y) := by
  unfold cut
  split
  · exact fitP_no
  · refine cutRun_fit _ _ _ (by simp; omega) (fun p hp => (by cases hp)) (by simp; omega)
theorem cut_cntP (x y : List Int) : cntL cntPart (cut x y).1.1 ≤ 1152921504606846976 := by
  have h := cut_fit x y
  have h1 := cntL_le (c := cntPart) (M := 60300) (xs := (cut x y).1.1) fun p hp => by
    have h2 := cntL_le (c := cntByte) (M := 1) (xs := p.b) fun v _ => by simp [cntByte]
    have := h.2.1 p hp
    unfold cntPart; omega
  have := h.1
  omega
theorem cut_cntB (x y : List Int) : cntL cntByte (cut x y).1.2 ≤ 1152921504606846976 := by
  have h := cut_fit x y
  have h1 := cntL_le (c := cntByte) (M := 1) (xs := (cut x y).1.2) fun v _ => by simp [cntByte]
  have := h.2.2
  omega
end Go.Proofs.Ytfdpigafekohgaa
