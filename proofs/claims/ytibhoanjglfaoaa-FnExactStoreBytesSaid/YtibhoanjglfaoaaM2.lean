/- Lemmas of the walks, part 2. -/
import Derived.Test.YtibhoanjglfaoaaM1
import Derived.Test.YtibhoanjglfaoaaRows
import Derived.Deep.RegionWith
import Derived.BigQuiet
import Derived.Deep.RegionHeld3
import Derived.Deep.QuietTactic
import Derived.Deep.Draws
import Derived.Lib.Bytealg
import Derived.Laws.StructEq
/- The abstract walk: rules for arrays of one's own. -/
namespace Go.Proofs.Ytibhoanjglfaoaa
open Go.RowKit
set_option linter.unusedVariables false

def FitL : List Cell → List Cell → Prop
  | [], [] => True
  | c :: cs, d :: ds => (c = d ∨ (c = .c (.slice none 0 0) ∧ ∃ (α : Type) (e : Enc α), d = .sl e [])) ∧ FitL cs ds
  | _, _ => False
theorem FitL.rf : ∀ {cs : List Cell}, FitL cs cs
  | [] => trivial
  | c :: cs => ⟨.inl rfl, FitL.rf⟩
theorem FR.fit {w : World} : ∀ {vs : List Value} {cs ds : List Cell} {b : List Nat}, FR w vs cs b → FitL cs ds → FR w vs ds b
  | [], [], [], b, h, _ => h
  | v :: vs, c :: cs, d :: ds, b, h, hf => by
    obtain ⟨b1, b2, rfl, h1, h2⟩ := h
    refine ⟨b1, b2, rfl, ?_, FR.fit h2 hf.2⟩
    rcases hf.1 with rfl | ⟨rfl, α, e, rfl⟩
    · exact h1
    · obtain ⟨h3, _, rfl⟩ := h1
      exact ⟨none, 0, 0, h3, rfl, Nat.le_refl _, by unfold maxLen; omega, fun _ => rfl, .inl ⟨rfl, rfl⟩⟩
def noDup : List Nat → Bool
  | [] => true
  | j :: js => noId j js && noDup js
theorem noDup_of : ∀ {js : List Nat}, noDup js = true → js.Nodup
  | [], _ => List.nodup_nil
  | j :: js, h => by
    simp only [noDup, Bool.and_eq_true] at h
    exact List.nodup_cons.2 ⟨noId_of h.1, noDup_of h.2⟩
theorem mvC_of {l l' : Locs} : ∀ {cs : List Cell} {r : List Cell × List Nat × Bool}, mvC l cs = some r → (∀ p ∈ rlC l cs, lkl l' p.1 = some p.2) → mvC l' cs = some r
  | [], r, h, _ => h
  | c :: cs, r, h, hp => by
    have hp' : ∀ p ∈ rlC l cs, lkl l' p.1 = some p.2 := fun p hm => hp p (by
      unfold rlC at hm ⊢
      rw [List.flatMap_cons, List.filterMap_append]
      exact List.mem_append_right _ hm)
    simp only [mvC] at h ⊢
    split at h
    · cases h
    · rename_i ds js d h1
      rw [mvC_of h1 hp']
      cases c with
      | own j =>
        simp only at h ⊢
        split at h
        · rename_i T e xs q hj
          rw [rlC_get hp (List.mem_cons_self ..) (by simp [Cell.ids]) hj]
          exact h
        · cases h
      | _ => exact h
theorem mvC_gone {l : Locs} : ∀ {cs : List Cell} {ds : List Cell} {js : List Nat} {d : Bool}, mvC l cs = some (ds, js, d) → ∀ j ∈ js, (∃ (α : Type) (T : TypeId) (e : Enc α) (xs : List α) (q : Bool), lkl l j = some (.arr T e xs q)) ∧ j ∈ cs.flatMap Cell.ids
  | [], ds, js, d, h, j, hj => by
    simp only [mvC, Option.some.injEq, Prod.mk.injEq] at h
    obtain ⟨_, rfl, _⟩ := h
    cases hj
  | c :: cs, ds, js, d, h, j, hj => by
    have up : ∀ {i : Nat}, i ∈ cs.flatMap Cell.ids → i ∈ (c :: cs).flatMap Cell.ids := fun hi => by rw [List.flatMap_cons]; exact List.mem_append_right _ hi
    simp only [mvC] at h
    split at h
    · cases h
    · rename_i ds1 js1 d1 h1
      cases c with
      | c u =>
        simp only [Option.some.injEq, Prod.mk.injEq] at h
        obtain ⟨_, rfl, _⟩ := h
        exact ⟨(mvC_gone h1 j hj).1, up (mvC_gone h1 j hj).2⟩
      | sl e xs =>
        simp only [Option.some.injEq, Prod.mk.injEq] at h
        obtain ⟨_, rfl, _⟩ := h
        exact ⟨(mvC_gone h1 j hj).1, up (mvC_gone h1 j hj).2⟩
      | own i =>
        simp only at h
        split at h
        · rename_i T e xs q hi
          simp only [Option.some.injEq, Prod.mk.injEq] at h
          obtain ⟨_, rfl, _⟩ := h
          rcases List.mem_cons.1 hj with rfl | hj
          · exact ⟨⟨_, T, e, xs, q, hi⟩, by rw [List.flatMap_cons]; exact List.mem_append_left _ (by simp [Cell.ids])⟩
          · exact ⟨(mvC_gone h1 j hj).1, up (mvC_gone h1 j hj).2⟩
        · cases h
      | _ => cases h

/-! The type of an array's elements. -/
def arrT (P : Program) (T : TypeId) : Option (TypeId × Nat × Nat) :=
  match P.underlying T with
  | some (.slice e) => match P.info? e with
    | some i => match i.zero with
      | some z => if z.cells.size = i.size ∧ 0 < i.size then some (e, i.size, i.bytes) else none
      | none => none
    | none => none
  | _ => none
theorem arrT_spec {P : Program} {T E n b : Nat} (h : arrT P T = some (E, n, b)) : P.underlying T = some (.slice E) ∧ 0 < n ∧ ∃ i z, P.info? E = some i ∧ i.zero = some z ∧ z.cells.size = n ∧ i.size = n ∧ i.bytes = b := by
  unfold arrT at h
  split at h
  · rename_i e hu
    split at h
    · rename_i i hi
      split at h
      · rename_i z hz
        split at h
        · rename_i hc
          cases h
          exact ⟨hu, hc.2, i, z, hi, hz, hc.1, rfl, rfl⟩
        · cases h
      · cases h
    · cases h
  · cases h

section
variable {g : Gh} {l : Locs} {w : World}
/-- The cells of some values. -/
theorem vr1s_cells : ∀ {vs : List Value} {Xs : List AVal}, (Xs.flatMap AVal.cells).all (solid l) = true → MemR g l w → All2 (VR g l w) vs Xs → flats Xs = true → All2 (CellR g l w) (vs.flatMap fun v => v.cells.toList) (Xs.flatMap AVal.cells)
  | [], [], _, _, _, _ => trivial
  | v :: vs, X :: Xs, hs, m, h, hf => by
    simp only [flats, Bool.and_eq_true] at hf
    rw [List.flatMap_cons, List.all_append, Bool.and_eq_true] at hs
    rw [List.flatMap_cons, List.flatMap_cons]
    exact (vr1_cells hs.1 m h.1 hf.1).app (vr1s_cells hs.2 m h.2 hf.2)
theorem vr1s_size {n : Nat} : ∀ {vs : List Value} {Xs : List AVal}, (Xs.flatMap AVal.cells).all (solid l) = true → MemR g l w → All2 (VR g l w) vs Xs → flats Xs = true → Xs.all (fun X => Nat.beq X.cells.length n) = true → ∀ v ∈ vs, v.cells.size = n
  | [], [], _, _, _, _, _, v, hv => by cases hv
  | v :: vs, X :: Xs, hs, m, h, hf, hn, u, hu => by
    simp only [flats, Bool.and_eq_true] at hf
    rw [List.flatMap_cons, List.all_append, Bool.and_eq_true] at hs
    simp only [List.all_cons, Bool.and_eq_true] at hn
    rcases List.mem_cons.1 hu with rfl | hu
    · have := (vr1_cells hs.1 m h.1 hf.1).len
      rw [Nat.eq_of_beq_eq_true hn.1] at this
      simpa using this
    · exact vr1s_size hs.2 m h.2 hf.2 hn.2 u hu
end

theorem FR.rows {α : Type} {e : Enc α} {f : α → List Cell} [hc : CellsOf e f] {w : World} : ∀ {xs : List α} {vs : List Value} {bs : List Nat}, FR w vs (xs.flatMap f) bs → vs.length = xs.length * e.size
  | [], [], bs, h => by simp
  | [], v :: vs, bs, h => h.elim
  | x :: xs, vs, bs, h => by
    rw [List.flatMap_cons] at h
    obtain ⟨v1, v2, b1, b2, rfl, rfl, h1, h2⟩ := FR.app.1 h
    rw [List.length_append, e.len (hc.iff.2 h1), FR.rows (e := e) h2, List.length_cons, Nat.add_mul]
    omega
section ops
variable {P : Program} {N : Nat} {s : St} {d : Nat} {ty : TypeId} {pos : String} {after : Array Edge} {gd : Option (Nat × Bool)}
theorem gones_lk {js : List Nat} {l : Locs} : gones js ++ l = gones js ++ l := rfl
/-- A new array with these elements. -/
theorem x_bslice {α : Type} {e : Enc α} {f : α → List Cell} [hc : CellsOf e f] {T E n b len : Nat} (ops : List Operand) {parts : Array (Nat × Operand)} {Xs : List AVal} (xs : List α) {ds : List Cell} {js : List Nat} {dp : Bool} (k : Nat) (hN : Nat.blt d N = true)
    (hparts : parts = ((ops.zipIdx 0).map fun x => (x.2, x.1)).toArray) (hev : evl s.t ops = some Xs) (hfl : flats Xs = true) (hsol : (Xs.flatMap AVal.cells).all (solid s.l) = true)
    (hT : arrT P T = some (E, n, b)) (hlen : ops.length = len) (hsz : Xs.all (fun X => Nat.beq X.cells.length n) = true) (hes : e.size = n)
    (hmv : mvC s.l (Xs.flatMap AVal.cells) = some (ds, js, dp)) (hfit : FitL ds (xs.flatMap f)) (hnd : noDup js = true) (hxs : xs.length = len) (hpos : Nat.blt 0 len = true) (hsmall : Nat.ble (len * n) 16777216 = true)
    (hk : lk s.l k = none) (hi : noId k s.ids = true) :
    Stp P N ⟨some d, .buildSlice T len parts, ty, pos, after, gd⟩ s ⟨(d, .one (.own k)) :: s.t, (k, some (.arr E e xs dp)) :: (gones js ++ s.l)⟩ ⟨rdl s.t ops, rlC s.l (Xs.flatMap AVal.cells), [(d, .one (.own k))], (k, some (.arr E e xs dp)) :: gones js, [k]⟩ := by
  refine ⟨fun K g s' a w hp r => ?_, ⟨(evl_ok (N := N) hev).1, rlC_self, fun j hj => by simp at hj; subst hj; exact ⟨hk, noId_of hi⟩⟩, by simp [Cert.upd]⟩
  obtain ⟨p1, p2, p3⟩ := hp
  have hvs := (evl_ok hev).2 r p1
  have hs' : (Xs.flatMap AVal.cells).all (solid s'.l) = true := List.all_eq_true.2 fun x hx => solid_of p2 hx (List.all_eq_true.1 hsol x hx)
  have hmv' := mvC_of hmv p2
  obtain ⟨n1, n2⟩ := p3 k (by simp)
  obtain ⟨hu, hn0, ti, z, hti, hz, hzs, htis, htib⟩ := arrT_spec hT
  have hA := vr1s_cells hs' r.mem hvs hfl
  have hS := vr1s_size hs' r.mem hvs hfl hsz
  have hjn := noDup_of hnd
  obtain ⟨bs, f1, f2, f3⟩ := mvC_ok r.mem hA hmv' hjn
  replace f1 := f1.fit hfit
  have hln : (ops.map a.eval).length = len := by simpa using hlen
  have hpos' : 0 < len := blt_lt hpos
  have hsm' : len * n ≤ 16777216 := Nat.le_of_ble_eq_true hsmall
  have hfill := Great.fill_whole (s := n) hn0 (ops.map a.eval) ((Array.range (len * n)).map (z.cells[· % z.cells.size]!)) hS (by rw [hln]; simp)
  have hrun := run_buildSlice (P := P) w T E len (parts.map fun (i, x) => (i, a.eval x)) _ ti z hu hti hz (by rw [htis]; omega) (by rw [htis]; have := Nat.mul_pos hpos' hn0; omega) (by
    rw [htis, hparts]
    have : (((ops.zipIdx 0).map fun x => (x.2, x.1)).toArray.map fun (x : Nat × Operand) => (x.1, a.eval x.2)).toList = ((ops.map a.eval).zipIdx 0).map fun x => (x.2, x.1) := by
      simp [List.zipIdx_map, Function.comp_def]
    exact (congrArg _ this).trans hfill)
  generalize hflat : ((ops.map a.eval).flatMap fun v => v.cells.toList) = flat at *
  have hfl2 : flat.length = len * n := by rw [FR.rows (e := e) f1, hxs, hes]
  have hrow : (w.alloc (.cells flat.toArray E)).ownsRow 0 E e.size (.slice (some ⟨w.heap.size, 0, none⟩) len len) xs.length flat :=
    ⟨by rw [hfl2, hxs, hes], .inr ⟨w.heap.size, len, flat.toArray, by rw [hxs], Nat.zero_le _, heap_alloc_new w _, by rw [hxs]; exact Nat.le_refl _, by
      have : len ≤ len * n := Nat.le_mul_of_pos_right _ hn0
      unfold maxLen; omega, by simp [hfl2, hes], by rw [hxs, hes, ← hfl2]; simp⟩⟩
  have hgone : ∀ j ∈ js, ∃ (α : Type) (T : TypeId) (e : Enc α) (xs : List α) (d : Bool), lkl s'.l j = some (.arr T e xs d) := fun j hj => (mvC_gone hmv' j hj).1
  have hkeep : ∀ b, b < w.heap.size → (w.alloc (.cells flat.toArray E)).heap[b]? = w.heap[b]? := fun b hb => Below.heap_alloc w _ b hb
  have hbl : ∀ b ∈ bs, b < w.heap.size := fun b hb => by
    rcases f2 b hb with h | ⟨j, hj, h1, h2⟩
    · exact r.mem.ilt b h
    · obtain ⟨_, _, _, _, _, h3⟩ := hgone j hj
      rw [h2]; exact r.mem.lt h3 h1
  have hkl : lkl s'.l k = none := by unfold lkl; rw [n1]
  obtain ⟨g', q1, q2, q3, q4, q5, q6, q7⟩ := arr_new (w' := w.alloc (.cells flat.toArray E)) r.mem n1 (fun h => n2 (List.mem_append_right _ h)) (js := js) (fz := js) (fun _ h => h) hgone (T := E) (e := e) (xs := xs) (d := dp) (blk := w.heap.size) (v := .slice (some ⟨w.heap.size, 0, none⟩) len len) (fp := bs)
    rfl rfl rfl (by simp) (fun b hb _ => hkeep b hb)
    (ArrR.lay hrow (f1.keep (fun b hb => hkeep b (hbl b hb)) (by simp)) f2 (fun b hb => by
      simp [Value.ownBlock] at hb
      subst hb
      refine ⟨rfl, fun hI => ?_⟩
      rcases hI with hI | ⟨j, hj, h1, h2⟩
      · have := r.mem.ilt _ hI; omega
      · obtain ⟨_, _, _, _, _, h3⟩ := hgone j hj
        have := r.mem.lt h3 h1; omega))
    (fun _ => ⟨by simp, .inl (Nat.le_refl _)⟩)
    (fun hd => ⟨(f3 hd).1, fun b hb => ⟨f2 b hb, by
      obtain ⟨j, hj, hv⟩ := (f3 hd).2 b hb
      obtain ⟨c, t, h⟩ := hv.cells r.mem
      exact ⟨c, t, by rw [hkeep b (hbl b hb)]; exact h⟩, (f3 hd).2 b hb⟩⟩)
  unfold Oper.wp
  have hrun' : (execOp a.eval ⟨some d, .buildSlice T len parts, ty, pos, after, gd⟩).run P w = .ok (.value (.slice (some ⟨w.heap.size, 0, none⟩) len len)) (w.alloc (.cells flat.toArray E)) := by
    simp only [execOp, Sem.run_bind, hrun, Result.andThen_ok]; rfl
  rw [hrun', Oper.upon_value]
  refine ⟨g', r.next (blt_lt hN) q5 q6 (by simp) (fun j hj => q7 j fun e => n2 (e ▸ hj)) (fun β U e2 ys dd hc => ?_) q3, q4 K⟩
  exact q2.symm
end ops
end Go.Proofs.Ytibhoanjglfaoaa

/- The abstract walk: append; an empty array; a struct built; nil taken ars an array of one's own. -/
namespace Go.Proofs.Ytibhoanjglfaoaa
open Go.RowKit
set_option linter.unusedVariables false

/-- What is appended: a value, ars cells read in the world. -/
def Src2 (w : World) (v : Value) (m size : Nat) (news : List Value) : Prop :=
  news.length = m * size ∧ ((v = .slice none 0 0 ∧ m = 0) ∨ ∃ a c, v = .slice (some a) m c ∧ ∀ j u, news[j]? = some u → w.cell? (a.add j) = some u)
theorem run_app2 {P : Program} (w : World) (t ty e : TypeId) (i : TypeInfo) (z : Value) (size bytes : Nat) (ht : P.underlying t = some (.slice e)) (hi : P.info? e = some i) (hz : i.zero = some z)
    (hsize : i.size = size) (hby : i.bytes = bytes) (hzs : z.cells.size = size) (hsz : 0 < size)
    (v : Value) (n : Nat) (xs : List Value) (hown : w.ownsRow 0 e size v n xs) (u : Value) (m : Nat) (news : List Value) (hsrc : Src2 w u m size news) (h1 : ∀ u ∈ news, u.oneCell' = true)
    (h63 : n + m ≤ maxLen) (hbytes : (n + m) * bytes ≤ 140737488355328) :
    ∃ v' w', (Builtin.append_ #[t, t] ty #[v, u]).run P w = .ok v' w' ∧ w'.ownsRow 0 e size v' (n + m) (xs ++ news) ∧ w.grownBy w' v.ownBlock ∧
      ∀ b, v'.ownBlock = some b → v.ownBlock = some b ∨ w.heap.size ≤ b := by
  rcases hsrc.2 with ⟨rfl, rfl⟩ | ⟨a, c, rfl, hc⟩
  · have hn : news = [] := List.eq_nil_of_length_eq_zero (by simpa using hsrc.1)
    subst hn
    have : ∃ base n' cap, v = .slice base n' cap ∧ n' ≤ cap := by
      rcases hown.2 with ⟨rfl, _⟩ | ⟨g, cap, cur, rfl, _, _, hnc, _⟩
      · exact ⟨none, 0, 0, rfl, Nat.le_refl _⟩
      · exact ⟨_, _, _, rfl, hnc⟩
    obtain ⟨base, n', cap, rfl, hle⟩ := this
    exact ⟨_, w, run_app_nil w t ty e i ht hi base n' cap hle, by simpa using hown, ⟨rfl, rfl, rfl, Nat.le_refl _, fun _ _ _ => rfl⟩, fun b hb => .inl hb⟩
  · exact run_app w t ty e i z size bytes ht hi hz hsize hby hzs hsz v n xs hown a m c news hsrc.1 hc h1 h63 hbytes
theorem src_of_row {w : World} {T : TypeId} {size n : Nat} {v : Value} {cells : List Value} (h : w.ownsRow 0 T size v n cells) : Src2 w v n size cells := by
  refine ⟨h.1, ?_⟩
  rcases h.2 with h1 | ⟨g, cap, cur, rfl, _⟩
  · exact .inl h1
  · exact .inr ⟨_, cap, rfl, h.cells rfl⟩
theorem src_of_slice {α : Type} {e : Enc α} {f : α → List Cell} [hc : CellsOf e f] {w : World} {a : Option Addr} {n cap : Nat} {xs : List α} {bs : List Nat} (h : SliceRep e w a n cap xs bs) :
    ∃ cells b2, Src2 w (.slice a n cap) xs.length e.size cells ∧ FR w cells (xs.flatMap f) b2 ∧ ∀ b ∈ b2, b ∈ bs := by
  obtain ⟨h1, h2, h3, h4, h5⟩ := h
  rcases h5 with ⟨rfl, rfl⟩ | ⟨g, off, bss, hne, rfl, hg, rfl, hE⟩
  · cases a with
    | none =>
      have := h4 rfl
      subst this
      simp at h1
      subst h1
      exact ⟨[], [], ⟨by simp, .inl ⟨rfl, rfl⟩⟩, rfl, fun _ hb => by cases hb⟩
    | some a =>
      simp at h1
      subst h1
      exact ⟨[], [], ⟨by simp, .inr ⟨a, cap, rfl, fun j u hu => by simp at hu⟩⟩, rfl, fun _ hb => by cases hb⟩
  · obtain ⟨vs, f1, f2, f3⟩ := hE.flat
    subst h1
    exact ⟨vs, bss.flatten, ⟨f2, .inr ⟨_, cap, rfl, fun j u hu => by rw [addr_add]; exact f3 j u hu⟩⟩, f1, fun b hb => List.mem_cons_of_mem _ hb⟩
theorem FR.nofp {α : Type} {e : Enc α} {f : α → List Cell} [hc : CellsOf e f] (he : ∀ w cs y b, e.rep w cs y b → b = []) {w : World} : ∀ {xs : List α} {vs : List Value} {bs : List Nat}, FR w vs (xs.flatMap f) bs → bs = []
  | [], [], bs, h => h
  | [], v :: vs, bs, h => h.elim
  | x :: xs, vs, bs, h => by
    rw [List.flatMap_cons] at h
    obtain ⟨v1, v2, b1, b2, rfl, rfl, h1, h2⟩ := FR.app.1 h
    rw [he _ _ _ _ (hc.iff.2 h1), FR.nofp he h2]; rfl
theorem flatMap_app {α : Type} {f : α → List Cell} {xs ys : List α} : (xs ++ ys).flatMap f = xs.flatMap f ++ ys.flatMap f := List.flatMap_append

section
variable {g : Gh} {l : Locs} {w w' : World}
/-- append ars it is seen from numbers: k grows into k', the numbers js (k among them) are gone. -/
theorem app_lay (m : MemR g l w) {k k' : Nat} (hk' : lk l k' = none) (hki : k' ∉ l.ids) {js : List Nat} (hkj : k ∈ js) (hjs : ∀ j ∈ js, ∃ (α : Type) (T : TypeId) (e : Enc α) (xs : List α) (d : Bool), lkl l j = some (.arr T e xs d))
    {α : Type} {E : TypeId} {e : Enc α} {f : α → List Cell} [hc : CellsOf e f] {xs ys : List α} {d : Bool} {cells news : List Value} {b1 b2 : List Nat} {v' : Value}
    (hF : FR w cells (xs.flatMap f) b1) (hF2 : FR w news (ys.flatMap f) b2) (hI : ∀ b ∈ b1 ++ b2, g.I b) (hob : ∀ b, (g.hd k).ownBlock = some b → b = g.ρ k)
    (hrow : w'.ownsRow 0 E e.size v' (xs.length + ys.length) (cells ++ news)) (hgr : w.grownBy w' (g.hd k).ownBlock) (hblk : ∀ b, v'.ownBlock = some b → (g.hd k).ownBlock = some b ∨ w.heap.size ≤ b)
    (hd : d = true → (b1 ++ b2).Nodup ∧ ∀ b ∈ b1 ++ b2, ∃ j ∈ js, Via g l j b) :
    ∃ g', g'.hd k' = v' ∧ MemR g' ((k', some (.arr E e (xs ++ ys) d)) :: (gones js ++ l)) w' ∧ (∀ K, Step K g l w g' ((k', some (.arr E e (xs ++ ys) d)) :: (gones js ++ l)) w') ∧
      (∀ b, g.I b → w'.heap[b]? = w.heap[b]?) ∧ (∀ b, g.I b → g'.I b) ∧ ∀ j, j ≠ k' → okK g l g' ((k', some (.arr E e (xs ++ ys) d)) :: (gones js ++ l)) j := by
  obtain ⟨α0, T0, e0, xs0, d0, hk0⟩ := hjs k hkj
  have hlive : ∀ b, (g.hd k).ownBlock = some b → g.hd k ≠ .slice none 0 0 := fun b hb e => by rw [e] at hb; cases hb
  have hnI : ∀ b, (g.hd k).ownBlock = some b → ¬ g.I b := fun b hb => by rw [hob b hb]; exact m.notI hk0 (hlive b hb)
  have hkeepI : ∀ b, g.I b → w'.heap[b]? = w.heap[b]? := fun b hb => hgr.block b (m.ilt b hb) fun e => hnI b e.symm hb
  have hFR := (FR.app.2 ⟨cells, news, b1, b2, rfl, rfl, hF, hF2⟩).keep (w' := w') (fun b hb => hkeepI b (hI b hb)) hgr.size
  rw [← flatMap_app] at hFR
  have hIb : ∀ b, v'.ownBlock = some b → ¬ (g.I b ∨ liveA g [] b) := fun b hb h => by
    rcases h with h | ⟨j, hj, _⟩
    · rcases hblk b hb with h1 | h1
      · exact hnI b h1 h
      · have := m.ilt b h; omega
    · cases hj
  obtain ⟨g', q1, q2, q3, q4, q5, q6, q7⟩ := arr_new (w' := w') m hk' hki (js := js) (fz := []) (fun _ h => by cases h) hjs (T := E) (e := e) (xs := xs ++ ys) (d := d) (blk := (v'.ownBlock).getD 0) (v := v') (fp := b1 ++ b2)
    hgr.os hgr.tape hgr.output hgr.size (fun b hb hn => hgr.block b hb fun e => hn k hkj (by simp) (hlive b e.symm) (hob b e.symm))
    (ArrR.lay (by rw [List.length_append]; exact hrow) hFR (fun b hb => .inl (hI b hb)) (fun b hb => ⟨by rw [hb]; rfl, hIb b hb⟩))
    (fun hv => by
      rcases hrow.2 with ⟨h1, _⟩ | ⟨b, cap, cur, h1, _, h3, _⟩
      · exact absurd h1 hv
      · have hb : v'.ownBlock = some b := by rw [h1]; rfl
        rw [hb]
        refine ⟨(Array.getElem?_eq_some_iff.1 h3).1, ?_⟩
        rcases hblk b hb with h | h
        · exact .inr ⟨k, hkj, by simp, hlive b h, hob b h⟩
        · exact .inl h)
    (fun hdd => ⟨(hd hdd).1, fun b hb => ⟨.inl (hI b hb), by
      obtain ⟨j, hj, hv⟩ := (hd hdd).2 b hb
      obtain ⟨c, t, h⟩ := hv.cells m
      exact ⟨c, t, by rw [hkeepI b (hI b hb)]; exact h⟩, (hd hdd).2 b hb⟩⟩)
  exact ⟨g', q2, q3, q4, q5, q6, q7⟩
end

section ops
variable {P : Program} {N : Nat} {s : St} {d : Nat} {ty : TypeId} {pos : String} {after : Array Edge} {gd : Option (Nat × Bool)}
theorem run_appop {P : Program} {N : Nat} {a : Act} {w w' : World} {v' : Value} {x y : Operand} {T : TypeId} (h : (Builtin.append_ #[T, T] ty #[a.eval x, a.eval y]).run P w = .ok v' w') :
    (execOp a.eval ⟨some d, .call { callee := .builtin .append, args := #[x, y], argTypes := #[T, T] }, ty, pos, after, gd⟩).run P w = .ok (.value v') w' := by
  simp only [execOp, resolve, invoke, builtin, Sem.run_bind, Sem.run_pure, Result.andThen_ok, List.map_toArray, List.map_cons, List.map_nil, h]
/-- append of an own array to another. -/
theorem x_append {α : Type} {e : Enc α} {f : α → List Cell} [hc : CellsOf e f] {T E n b : Nat} {x y : Operand} {xs ys : List α} {d1 d2 : Bool} {k j : Nat} (k' : Nat) (hN : Nat.blt d N = true)
    (h : evo s.t x = some (.one (.own k))) (h2 : evo s.t y = some (.one (.own j))) (hl : lkl s.l k = some (.arr E e xs d1)) (hl2 : lkl s.l j = some (.arr E e ys d2)) (hkj : Nat.beq k j = false)
    (hT : arrT P T = some (E, n, b)) (hes : e.size = n) (hk : lk s.l k' = none) (hi : noId k' s.ids = true) (hbnd : xs.length + ys.length ≤ 1000000000) (hb : Nat.ble b 100000 = true) :
    Stp P N ⟨some d, .call { callee := .builtin .append, args := #[x, y], argTypes := #[T, T] }, ty, pos, after, gd⟩ s ⟨(d, .one (.own k')) :: s.t, (k', some (.arr E e (xs ++ ys) (d1 && d2))) :: (gones [k, j] ++ s.l)⟩
      ⟨rdo x (.one (.own k)) ++ rdo y (.one (.own j)), [(k, .arr E e xs d1), (j, .arr E e ys d2)], [(d, .one (.own k'))], (k', some (.arr E e (xs ++ ys) (d1 && d2))) :: gones [k, j], [k']⟩ := by
  refine ⟨fun K g s' a w hp r => ?_, ⟨two_rd h h2, by simp [hl, hl2], fun j hj => by simp at hj; subst hj; exact ⟨hk, noId_of hi⟩⟩, by simp [Cert.upd]⟩
  obtain ⟨p1, p2, p3⟩ := hp
  have e1 : CellR g s'.l w (a.eval x) (.own k) := eval_ok r (evs_of h) fun p hp => p1 p (List.mem_append_left _ hp)
  have e2 : CellR g s'.l w (a.eval y) (.own j) := eval_ok r (evs_of h2) fun p hp => p1 p (List.mem_append_right _ hp)
  have hl' : lkl s'.l k = some (.arr E e xs d1) := p2 (k, .arr E e xs d1) (by simp)
  have hl2' : lkl s'.l j = some (.arr E e ys d2) := p2 (j, .arr E e ys d2) (by simp)
  replace e1 := e1 _ _ _ _ _ hl'
  replace e2 := e2 _ _ _ _ _ hl2'
  obtain ⟨n1, n2⟩ := p3 k' (by simp)
  obtain ⟨hu, hn0, ti, z, hti, hz, hzs, htis, htib⟩ := arrT_spec hT
  obtain ⟨cells, b1, r1, f1, i1, F1, ob1⟩ := (r.mem.arr k _ _ _ _ _ hl').row
  obtain ⟨news, b2, r2, f2, i2, F2, ob2⟩ := (r.mem.arr j _ _ _ _ _ hl2').row
  have hkj' : k ≠ j := fun e => by subst e; simp at hkj
  have hb' := Nat.le_of_ble_eq_true hb
  obtain ⟨v', w', q1, q2, q3, q4⟩ := run_app2 (P := P) w T ty E ti z e.size b hu hti hz (by rw [hes]; exact htis) htib (by rw [hes]; exact hzs) (by rw [hes]; exact hn0) _ _ _ r1 _ _ _ (src_of_row r2) (FR.one f2)
    (by unfold maxLen; omega) (by
      have : (xs.length + ys.length) * b ≤ 1000000000 * 100000 := Nat.mul_le_mul hbnd hb'
      omega)
  have hgone : ∀ i ∈ [k, j], ∃ (α : Type) (T : TypeId) (e : Enc α) (xs : List α) (d : Bool), lkl s'.l i = some (.arr T e xs d) := fun i hi => by
    simp at hi
    rcases hi with rfl | rfl
    · exact ⟨α, E, e, xs, d1, hl'⟩
    · exact ⟨α, E, e, ys, d2, hl2'⟩
  obtain ⟨g', s1, s2, s3, s4, s5, s6⟩ := app_lay (w' := w') r.mem n1 (fun h => n2 (List.mem_append_right _ h)) (js := [k, j]) (List.mem_cons_self ..) hgone (E := E) (e := e) (xs := xs) (ys := ys) (d := d1 && d2) f1 f2
    (fun b hb => (List.mem_append.1 hb).elim (i1 b) (i2 b)) ob1 q2 q3 q4 (fun hd => by
      simp only [Bool.and_eq_true] at hd
      obtain ⟨rfl, rfl⟩ := hd
      have v1 : ∀ b ∈ b1, Via g s'.l k b := fun b hb => ⟨α, E, e, xs, hl', .inr (by rw [F1 rfl]; exact hb)⟩
      have v2 : ∀ b ∈ b2, Via g s'.l j b := fun b hb => ⟨α, E, e, ys, hl2', .inr (by rw [F2 rfl]; exact hb)⟩
      refine ⟨List.nodup_append.2 ⟨by rw [← F1 rfl]; exact (r.mem.fr k _ _ _ _ hl').1, by rw [← F2 rfl]; exact (r.mem.fr j _ _ _ _ hl2').1, fun x hx y hy exy => ?_⟩, fun b hb => ?_⟩
      · subst exy
        exact hkj' ((v1 x hx).disj r.mem (v2 x hy))
      · rcases List.mem_append.1 hb with hb | hb
        · exact ⟨k, by simp, v1 b hb⟩
        · exact ⟨j, by simp, v2 b hb⟩)
  unfold Oper.wp
  rw [run_appop (N := N) (by rw [e1, e2]; exact q1), Oper.upon_value]
  refine ⟨g', r.next (blt_lt hN) s4 s5 q3.size (fun j hj => s6 j fun e => n2 (e ▸ hj)) (fun β U e2 ys dd hc => ?_) s2, s3 K⟩
  exact s1.symm
/-- append of a slice that nobody writes. -/
theorem x_append_sl {α : Type} {e : Enc α} {f : α → List Cell} [hc : CellsOf e f] {T E n b : Nat} {x y : Operand} {xs ys : List α} {d1 : Bool} {k : Nat} (k' : Nat) (d2 : Bool) (hd2 : d2 = false ∨ ∀ w cs y b, e.rep w cs y b → b = []) (hN : Nat.blt d N = true)
    (h : evo s.t x = some (.one (.own k))) (h2 : evo s.t y = some (.one (.sl e ys))) (hl : lkl s.l k = some (.arr E e xs d1))
    (hT : arrT P T = some (E, n, b)) (hes : e.size = n) (hk : lk s.l k' = none) (hi : noId k' s.ids = true) (hbnd : xs.length + ys.length ≤ 1000000000) (hb : Nat.ble b 100000 = true) :
    Stp P N ⟨some d, .call { callee := .builtin .append, args := #[x, y], argTypes := #[T, T] }, ty, pos, after, gd⟩ s ⟨(d, .one (.own k')) :: s.t, (k', some (.arr E e (xs ++ ys) (d1 && d2))) :: (gones [k] ++ s.l)⟩
      ⟨rdo x (.one (.own k)) ++ rdo y (.one (.sl e ys)), [(k, .arr E e xs d1)], [(d, .one (.own k'))], (k', some (.arr E e (xs ++ ys) (d1 && d2))) :: gones [k], [k']⟩ := by
  refine ⟨fun K g s' a w hp r => ?_, ⟨two_rd h h2, by simp [hl], fun j hj => by simp at hj; subst hj; exact ⟨hk, noId_of hi⟩⟩, by simp [Cert.upd]⟩
  obtain ⟨p1, p2, p3⟩ := hp
  have e1 : CellR g s'.l w (a.eval x) (.own k) := eval_ok r (evs_of h) fun p hp => p1 p (List.mem_append_left _ hp)
  obtain ⟨aa, nn, cap, bs, e2, hS, hSI⟩ : CellR g s'.l w (a.eval y) (.sl e ys) := eval_ok r (evs_of h2) fun p hp => p1 p (List.mem_append_right _ hp)
  have hl' : lkl s'.l k = some (.arr E e xs d1) := p2 (k, .arr E e xs d1) (by simp)
  replace e1 := e1 _ _ _ _ _ hl'
  obtain ⟨n1, n2⟩ := p3 k' (by simp)
  obtain ⟨hu, hn0, ti, z, hti, hz, hzs, htis, htib⟩ := arrT_spec hT
  obtain ⟨cells, b1, r1, f1, i1, F1, ob1⟩ := (r.mem.arr k _ _ _ _ _ hl').row
  obtain ⟨news, b2, r2, f2, i2⟩ := src_of_slice hS
  have hb' := Nat.le_of_ble_eq_true hb
  obtain ⟨v', w', q1, q2, q3, q4⟩ := run_app2 (P := P) w T ty E ti z e.size b hu hti hz (by rw [hes]; exact htis) htib (by rw [hes]; exact hzs) (by rw [hes]; exact hn0) _ _ _ r1 _ _ _ r2 (FR.one f2)
    (by unfold maxLen; omega) (by
      have : (xs.length + ys.length) * b ≤ 1000000000 * 100000 := Nat.mul_le_mul hbnd hb'
      omega)
  have hgone : ∀ i ∈ [k], ∃ (α : Type) (T : TypeId) (e : Enc α) (xs : List α) (d : Bool), lkl s'.l i = some (.arr T e xs d) := fun i hi => by
    simp at hi
    subst hi
    exact ⟨α, E, e, xs, d1, hl'⟩
  obtain ⟨g', s1, s2, s3, s4, s5, s6⟩ := app_lay (w' := w') r.mem n1 (fun h => n2 (List.mem_append_right _ h)) (js := [k]) (List.mem_cons_self ..) hgone (E := E) (e := e) (xs := xs) (ys := ys) (d := d1 && d2) f1 f2
    (fun b hb => (List.mem_append.1 hb).elim (i1 b) fun h => hSI b (i2 b h)) ob1 q2 q3 q4 (fun hd => by
      simp only [Bool.and_eq_true] at hd
      obtain ⟨rfl, rfl⟩ := hd
      have hb2 : b2 = [] := FR.nofp (e := e) (hd2.resolve_left (by simp)) f2
      subst hb2
      rw [List.append_nil]
      have v1 : ∀ b ∈ b1, Via g s'.l k b := fun b hb => ⟨α, E, e, xs, hl', .inr (by rw [F1 rfl]; exact hb)⟩
      exact ⟨by rw [← F1 rfl]; exact (r.mem.fr k _ _ _ _ hl').1, fun b hb => ⟨k, by simp, v1 b hb⟩⟩)
  unfold Oper.wp
  rw [run_appop (N := N) (by rw [e1, e2]; exact q1), Oper.upon_value]
  refine ⟨g', r.next (blt_lt hN) s4 s5 q3.size (fun j hj => s6 j fun e => n2 (e ▸ hj)) (fun β U e2 ys dd hc => ?_) s2, s3 K⟩
  exact s1.symm
end ops
end Go.Proofs.Ytibhoanjglfaoaa

/- The abstract walk: a struct built from parts; an empty array; nil taken ars an array of one's own; results that lie in variables. -/
namespace Go.Proofs.Ytibhoanjglfaoaa
open Go.RowKit
set_option linter.unusedVariables false

/-! ### A struct from parts -/
def setCs (cs : List Cell) (off : Nat) (xs : List Cell) : List Cell := cs.take off ++ (xs ++ cs.drop (off + xs.length))
def nthP : List (Nat × Nat) → Nat → Option (Nat × Nat)
  | [], _ => none
  | p :: _, 0 => some p
  | _ :: r, n + 1 => nthP r n
theorem nthP_get : ∀ {l : List (Nat × Nat)} {n : Nat}, nthP l n = l[n]?
  | [], n => by simp [nthP]
  | p :: l, 0 => rfl
  | _ :: r, n + 1 => by simpa [nthP] using nthP_get (l := r)
def bldA (places : List (Nat × Nat)) : List Cell → List Nat → List AVal → Option (List Cell)
  | cs, i :: is, X :: Xs => match nthP places i with
    | some (off, size) => match Nat.beq X.cells.length size, Nat.ble (off + size) cs.length with
      | true, true => bldA places (setCs cs off X.cells) is Xs
      | _, _ => none
    | none => none
  | cs, [], [] => some cs
  | _, _, _ => none
theorem fold_cells (off : Nat) (vs : List Value) (cs : Array Value) (h : off + vs.length ≤ cs.size) : (vs.toArray.zipIdx.foldl (fun cs (x : Value × Nat) => cs.setIfInBounds (off + x.2) x.1) cs).toList = cs.toList.take off ++ (vs ++ cs.toList.drop (off + vs.length)) := by
  obtain ⟨h1, h2⟩ := Great.foldl_set off vs 0 cs
  have e : (vs.toArray.zipIdx.foldl (fun cs (x : Value × Nat) => cs.setIfInBounds (off + x.2) x.1) cs) = ((vs.zipIdx 0).foldl (fun cs (x : Value × Nat) => cs.setIfInBounds (off + x.2) x.1) cs) := by simp
  rw [e]
  refine List.ext_getElem? fun k => ?_
  rw [Array.getElem?_toList, h2 k]
  simp only [Nat.add_zero]
  have hl : (cs.toList.take off).length = off := by simp; omega
  rcases Nat.lt_or_ge k off with hk | hk
  · rw [if_neg (by omega), List.getElem?_append_left (by omega), List.getElem?_take, if_pos hk]; simp
  · rw [List.getElem?_append_right (by omega), hl]
    rcases Nat.lt_or_ge k (off + vs.length) with hk2 | hk2
    · rw [if_pos ⟨hk, hk2, by omega⟩, List.getElem?_append_left (by omega)]
    · rw [if_neg (by omega), List.getElem?_append_right (by omega), List.getElem?_drop, show off + vs.length + (k - off - vs.length) = k by omega]; simp
theorem fill_bld {g : Gh} {l : Locs} {w : World} (m : MemR g l w) {places : List (Nat × Nat)} : ∀ {ps : List (Nat × Value)} {Xs : List AVal} {cells : Array Value} {cs ds : List Cell}, All2 (VR g l w) (ps.map (·.2)) Xs → flats Xs = true →
    (Xs.flatMap AVal.cells).all (solid l) = true → All2 (CellR g l w) cells.toList cs → bldA places cs (ps.map (·.1)) Xs = some ds → ∃ r, Instr.fill (places.toArray[·]?) cells ps = some r ∧ All2 (CellR g l w) r.toList ds
  | [], [], cells, cs, ds, _, _, _, hA, hb => by
    simp only [List.map_nil, bldA, Option.some.injEq] at hb
    subst hb
    exact ⟨cells, rfl, hA⟩
  | (i, v) :: ps, X :: Xs, cells, cs, ds, h, hf, hs, hA, hb => by
    simp only [flats, Bool.and_eq_true] at hf
    rw [List.flatMap_cons, List.all_append, Bool.and_eq_true] at hs
    have hv := vr1_cells hs.1 m h.1 hf.1
    simp only [List.map_cons, bldA] at hb
    split at hb
    · rename_i off size hp
      split at hb
      · rename_i h1 h2
        have h1 := Nat.eq_of_beq_eq_true h1
        have h2 := Nat.le_of_ble_eq_true h2
        have hvl : v.cells.toList.length = size := by rw [hv.len]; exact h1
        have hcl : cells.size = cs.length := by simpa using hA.len
        have hfc := fold_cells off v.cells.toList cells (by omega)
        have hA2 : All2 (CellR g l w) (v.cells.zipIdx.foldl (fun cs (x : Value × Nat) => cs.setIfInBounds (off + x.2) x.1) cells).toList (setCs cs off X.cells) := by
          have e : v.cells.toList.toArray = v.cells := by simp
          rw [e] at hfc
          rw [hfc]
          unfold setCs
          rw [← hv.len]
          exact (hA.take off).app (hv.app (hA.drop _))
        obtain ⟨r, r1, r2⟩ := fill_bld m h.2 hf.2 hs.2 hA2 hb
        refine ⟨r, ?_, r2⟩
        rw [nthP_get] at hp
        unfold Instr.fill
        simp only [List.getElem?_toArray, hp]
        rw [if_neg (by
          have : v.cells.size = size := by simpa using hvl
          simp [this]; omega)]
        simpa only [List.getElem?_toArray] using r1
      · cases hb
    · cases hb
def bldT (P : Program) (T : TypeId) : Option (List Value × List (Nat × Nat)) :=
  match P.info? T, P.underlying T with
  | some it, some (.struct fields) =>
    match it.zero, fields.toList.mapM (fun f => (P.info? f.type).map fun i => (f.offset, i.size)) with
    | some z, some places => some (z.cells.toList, places)
    | _, _ => none
  | _, _ => none
theorem bldT_spec {P : Program} {T : TypeId} {zs : List Value} {places : List (Nat × Nat)} (h : bldT P T = some (zs, places)) (parts : List (Nat × Value)) : P.built T parts = Instr.fill (places.toArray[·]?) zs.toArray parts := by
  unfold bldT at h
  split at h
  · rename_i it fields h1 h2
    split at h
    · rename_i z pl h3 h4
      cases h
      simp only [Program.built, h1, h2, h3, h4]
    · cases h
  · cases h
section ops
variable {P : Program} {N : Nat} {s : St} {d : Nat} {ty : TypeId} {pos : String} {after : Array Edge} {gd : Option (Nat × Bool)}
theorem x_build {T : TypeId} {parts : Array (Nat × Operand)} {zs : List Value} {places : List (Nat × Nat)} {Xs : List AVal} {cs ds : List Cell} (hN : Nat.blt d N = true) (hT : bldT P T = some (zs, places)) (hz : plainL zs = some cs)
    (hev : evl s.t (parts.toList.map (·.2)) = some Xs) (hfl : flats Xs = true) (hsol : (Xs.flatMap AVal.cells).all (solid s.l) = true) (hb : bldA places cs (parts.toList.map (·.1)) Xs = some ds) :
    Stp P N ⟨some d, .build T parts, ty, pos, after, gd⟩ s ⟨(d, .agg ds) :: s.t, s.l⟩ ⟨rdl s.t (parts.toList.map (·.2)), rlC s.l (Xs.flatMap AVal.cells), [(d, .agg ds)], [], []⟩ :=
  Stp.pure rfl hN (evl_ok (N := N) hev).1 rlC_self fun g s' a w p1 p2 r => by
    have hvs := (evl_ok hev).2 r p1
    have hs' : (Xs.flatMap AVal.cells).all (solid s'.l) = true := List.all_eq_true.2 fun x hx => solid_of p2 hx (List.all_eq_true.1 hsol x hx)
    have hps : (parts.toList.map fun x => (x.1, a.eval x.2)).map (·.2) = (parts.toList.map (·.2)).map a.eval := by simp
    have hps1 : (parts.toList.map fun x => (x.1, a.eval x.2)).map (·.1) = parts.toList.map (·.1) := by simp [Function.comp_def]
    obtain ⟨rr, r1, r2⟩ := fill_bld r.mem (ps := parts.toList.map fun x => (x.1, a.eval x.2)) (cells := zs.toArray) (by rw [hps]; exact hvs) hfl hs' (by simpa using plainL_ok hz) (by rw [hps1]; exact hb)
    have hrun := run_build (P := P) w T (parts.map fun (i, x) => (i, a.eval x)) rr (by
      rw [bldT_spec hT, Array.toList_map]
      exact r1)
    refine ⟨.agg rr, by simp only [execOp, Sem.run_bind, hrun, Result.andThen_ok]; rfl, rr.toList, by simp, r2⟩
/-- A new array with no element. -/
theorem x_bslice0 {α : Type} {e : Enc α} {f : α → List Cell} [hc : CellsOf e f] {T E n b : Nat} (k : Nat) (hN : Nat.blt d N = true) (hT : arrT P T = some (E, n, b)) (hk : lk s.l k = none) (hi : noId k s.ids = true) :
    Stp P N ⟨some d, .buildSlice T 0 #[], ty, pos, after, gd⟩ s ⟨(d, .one (.own k)) :: s.t, (k, some (.arr (α := α) E e [] true)) :: s.l⟩ ⟨[], [], [(d, .one (.own k))], [(k, some (.arr (α := α) E e [] true))], [k]⟩ := by
  refine ⟨fun K g s' a w hp r => ?_, ⟨by simp, by simp, fun j hj => by simp at hj; subst hj; exact ⟨hk, noId_of hi⟩⟩, rfl⟩
  obtain ⟨p1, p2, p3⟩ := hp
  obtain ⟨n1, n2⟩ := p3 k (by simp)
  obtain ⟨hu, hn0, ti, z, hti, hz, hzs, htis, htib⟩ := arrT_spec hT
  have hrun : (execOp a.eval ⟨some d, .buildSlice T 0 #[], ty, pos, after, gd⟩).run P w = .ok (.value (.slice (some ⟨w.heap.size, 0, none⟩) 0 0)) (w.alloc (.cells #[] E)) := by
    simp only [execOp, Instr.buildSlice, Sem.run_bind, run_underlying hu, sizeOf, typeInfo, Result.andThen_ok, Sem.run_pure]
    simp [Instr.fill, newRow, hti, show Array.range 0 = #[] from rfl]
  obtain ⟨g', q1, q2, q3, q4, q5, q6, q7⟩ := arr_new (w' := w.alloc (.cells #[] E)) r.mem n1 (fun h => n2 (List.mem_append_right _ h)) (js := []) (fz := []) (fun _ h => h) (fun j hj => by cases hj) (T := E) (e := e) (xs := ([] : List α)) (d := true) (blk := w.heap.size) (v := .slice (some ⟨w.heap.size, 0, none⟩) 0 0) (fp := [])
    rfl rfl rfl (by simp) (fun b hb _ => Below.heap_alloc w _ b hb)
    (ArrR.lay (cells := []) ⟨by simp, .inr ⟨w.heap.size, 0, #[], rfl, Nat.zero_le _, heap_alloc_new w _, Nat.le_refl _, by unfold maxLen; omega, by simp, by simp⟩⟩ (by rfl) (fun b hb => by cases hb) (fun b hb => by
      simp [Value.ownBlock] at hb
      subst hb
      refine ⟨rfl, fun hI => ?_⟩
      rcases hI with hI | ⟨j, hj, _⟩
      · have := r.mem.ilt _ hI; omega
      · cases hj))
    (fun _ => ⟨by simp, .inl (Nat.le_refl _)⟩) (fun _ => ⟨List.nodup_nil, fun b hb => by cases hb⟩)
  unfold Oper.wp
  rw [hrun, Oper.upon_value]
  refine ⟨g', r.next (blt_lt hN) q5 q6 (by simp) (fun j hj => q7 j fun e => n2 (e ▸ hj)) (fun β U e2 ys dd hc => ?_) q3, q4 K⟩
  exact q2.symm
end ops

/-! ### nil ars an array of one's own -/
section adopt
variable {P : Program} {N : Nat} {K : List Nat} {Kn : St → Prop} {Q : Exit → St → Prop} {s : St}
theorem nil_new {g : Gh} {l : Locs} {w : World} (m : MemR g l w) {k : Nat} (hk : lk l k = none) (hki : k ∉ l.ids) (α : Type) (T : TypeId) (e : Enc α) :
    ∃ g', g'.hd k = .slice none 0 0 ∧ MemR g' ((k, some (.arr (α := α) T e [] true)) :: l) w ∧ (∀ K, Step K g l w g' ((k, some (.arr (α := α) T e [] true)) :: l) w) ∧ (∀ b, g.I b → g'.I b) ∧ ∀ j, j ≠ k → okK g l g' ((k, some (.arr (α := α) T e [] true)) :: l) j := by
  obtain ⟨g', q1, q2, q3, q4, q5, q6, q7⟩ := arr_new (w' := w) m hk hki (js := []) (fz := []) (fun _ h => h) (fun j hj => by cases hj) (T := T) (e := e) (xs := ([] : List α)) (d := true) (blk := 0) (v := .slice none 0 0) (fp := [])
    rfl rfl rfl (Nat.le_refl _) (fun b hb _ => rfl) (.inl ⟨rfl, setAt_self, fun _ => setAt_self⟩) (fun h => absurd rfl h) (fun _ => ⟨List.nodup_nil, fun b hb => by cases hb⟩)
  exact ⟨g', q2, q3, q4, q6, q7⟩
/-- What a variable holds, said anew. -/
theorem box_re {g : Gh} {l : Locs} {w : World} (m : MemR g l w) {b : Nat} {cs cs' : List Cell} (hb : lkl l b = some (.box cs)) (h : ∀ vs, All2 (CellR g l w) vs cs → All2 (CellR g l w) vs cs') :
    MemR g ((b, some (.box cs')) :: l) w ∧ (∀ K, Step K g l w g ((b, some (.box cs')) :: l) w) ∧ ∀ j, okK g l g ((b, some (.box cs')) :: l) j := by
  obtain ⟨vs, t, h1, h2, h3⟩ := m.box b cs hb
  have h4 := box_set m hb (vs := vs.toList) (vs' := vs.toList) (T := t) (by simpa using h1) (h _ h2)
  have e : w.setRow (g.ρ b) vs.toList.toArray = w := by
    simp only [Array.toArray_toList]
    have hh : (w.setRow (g.ρ b) vs).heap = w.heap := Array.ext_getElem? fun i => by
      by_cases hi : i = g.ρ b
      · subst hi; rw [setRow_heap w _ _ _ t _ h1, h1]
      · exact setRow_other w _ i _ hi
    have h5 : w.setRow (g.ρ b) vs = { w with heap := (w.setRow (g.ρ b) vs).heap } := rfl
    rw [h5, hh]
  rw [e] at h4
  exact ⟨h4.1, h4.2.1, h4.2.2.2⟩
/-- A variable's cell that holds nil holds an array of one's own, with no element. -/
theorem AW_adopt {α : Type} {T : TypeId} {e : Enc α} {c : Code} (k b off : Nat) {cs cs' : List Cell} (hb : lkl s.l b = some (.box cs)) (hc : nthC cs off = some (.c (.slice none 0 0))) (hcs : cs.set off (.own k) = cs') (hk : lk s.l k = none) (hi : noId k s.ids = true)
    (h : AW P N K c Kn Q ⟨s.t, (b, some (.box cs')) :: (k, some (.arr (α := α) T e [] true)) :: s.l⟩) : AW P N K c Kn Q s := fun g a w r => by
  have hki := noId_of hi
  obtain ⟨g', q1, q2, q3, q4, q5⟩ := nil_new r.mem hk (fun h => hki (List.mem_append_right _ h)) α T e
  have hkb : k ≠ b := fun e => by subst e; unfold lkl at hb; rw [hk] at hb; cases hb
  have hb' : lkl ((k, some (.arr (α := α) T e [] true)) :: s.l) b = some (.box cs) := by rw [lkl_cons_ne hkb]; exact hb
  obtain ⟨m2, st2, ok2⟩ := box_re q2 hb' (cs' := cs') (fun vs hv => by
    obtain ⟨v, h1, h2⟩ := hv.get (nthC_get hc)
    have h3 := hv.set (i := off) (v := v) (x := .own k) (fun β U e2 ys dd hh => by
      rw [q1]; exact h2.1)
    rw [hcs] at h3
    have h4 : vs.set off v = vs := by
      obtain ⟨hl, rfl⟩ := List.getElem?_eq_some_iff.1 h1
      exact List.set_getElem_self hl
    rwa [h4] at h3)
  have r2 := r.next0 (g' := g') (l' := (b, some (.box cs')) :: (k, some (.arr (α := α) T e [] true)) :: s.l) (w' := w) (fun _ _ => rfl) q4 (Nat.le_refl _) (fun j hj => (q5 j fun e => hki (e ▸ hj)).trans (ok2 j)) m2
  exact Go.wp_mono (h g' a w r2) fun e a1 w1 h1 => h1.trans r.mem m2 ((q3 K).trans r.mem q2 (st2 K))
/-- .. a slot that holds nil. -/
theorem AW_adoptT {α : Type} {T : TypeId} {e : Enc α} {c : Code} (k t : Nat) (ht : lk s.t t = some (.one (.c (.slice none 0 0)))) (hk : lk s.l k = none) (hi : noId k s.ids = true)
    (h : AW P N K c Kn Q ⟨(t, .one (.own k)) :: s.t, (k, some (.arr (α := α) T e [] true)) :: s.l⟩) : AW P N K c Kn Q s := fun g a w r => by
  have hki := noId_of hi
  obtain ⟨g', q1, q2, q3, q4, q5⟩ := nil_new r.mem hk (fun h => hki (List.mem_append_right _ h)) α T e
  have r1 := r.next0 (g' := g') (l' := (k, some (.arr (α := α) T e [] true)) :: s.l) (w' := w) (fun _ _ => rfl) q4 (Nat.le_refl _) (fun j hj => q5 j fun e => hki (e ▸ hj)) q2
  have hv : VR g s.l w (a.tmps.getD t undef) (.one (.c (.slice none 0 0))) := r.tmp t _ ht
  have r2 : Rep N g' ⟨(t, .one (.own k)) :: s.t, (k, some (.arr (α := α) T e [] true)) :: s.l⟩ a w := ⟨r1.size, r1.defers, fun j x hj => by
    by_cases hjt : t = j
    · subst hjt
      rw [lk_cons_self] at hj; cases hj
      exact fun β U e2 ys dd hh => by rw [q1]; exact hv.1
    · rw [lk_cons_ne hjt] at hj
      exact r1.tmp j x hj, r1.mem⟩
  exact Go.wp_mono (h g' a w r2) fun e a1 w1 h1 => h1.trans r.mem q2 (q3 K)
end adopt

/-! ### Results in variables -/
section results
variable {P : Program} {f : FuncId} {fn : Func} {c : Code} {N : Nat} {args : List AVal} {L L' : Locs}
theorem AC_ofB {res : AVal} {T : Tmps} {Lf : Locs} (hf : P.funcs[f]? = some fn) (hb : fn.body = some c) (hn : (fn.name == "runtime.NumGoroutine") = false) (hN : fn.ntmps = N) (hA : Nat.ble args.length N = true)
    (hren : res.ren (rn []) = res) (hle : LeS (keys L) (rn []) ⟨T, Lf⟩ ⟨[], L'⟩)
    (hr : ∀ (g : Gh) (a : Act) (w : World), Rep N g ⟨T, Lf⟩ a w → ∃ v, (results fn a.tmps).run P w = .ok v w ∧ VR g Lf w v res)
    (h : AW P N (keys L) c (RetS (keys L) T Lf) (RetQ (keys L) T Lf) ⟨args0 args 0, L⟩) : AC P f args L res L' := by
  have h0 := AC_of (L' := Lf) hf hb hn hN hA hr h
  refine ⟨h0.fn, fun g w cargs m ha => (h0.run g w cargs m ha).mono ?_⟩
  rintro e w' ⟨v, g1, rfl, m1, hv, hs⟩
  exact ⟨v, g1.ren (rn []), rfl, m1.unren hle.l hle.inj, VR.unren hle.l (by rw [hren]; exact hv), hs.trans m m1 (Step.unren hle.l hle.k)⟩
theorem run_results_c {ty : TypeId} {r n k : Nat} {cs : List Cell} {T : Tmps} {Lf : Locs} {g : Gh} {a : Act} {w : World} (R : Rep N g ⟨T, Lf⟩ a w) (ht : lk T r = some (.one (.ptr k 0))) (hl : lkl Lf k = some (.box cs)) (hk : kindT P ty = some (some n)) (hn : cs.length = n) :
    ∃ ad v, (asAddr (a.tmps.getD r undef)).run P w = .ok ad w ∧ (loadVar ty ad).run P w = .ok v w ∧ VR1 g Lf w v (.agg cs) := by
  have hp : a.tmps.getD r undef = .pointer (some ⟨g.ρ k, 0, none⟩) := (R.tmp r _ ht : CellR g Lf w _ (.ptr k 0)) cs hl
  obtain ⟨vs, h1, h2, h3⟩ := box_loads R.mem hl (off := 0) (n := n) (xs := cs) (by rw [List.drop_zero, ← hn, List.take_length]) hn
  exact ⟨_, .agg vs.toArray, by rw [hp]; rfl, run_load_agg hk h1 h2, vs, rfl, h3⟩
theorem AC_bodyC {ty : TypeId} {r n k : Nat} {cs : List Cell} {T : Tmps} {Lf : Locs} (hf : P.funcs[f]? = some fn) (hb : fn.body = some c) (hn : (fn.name == "runtime.NumGoroutine") = false) (hN : fn.ntmps = N) (hA : Nat.ble args.length N = true) (hr : fn.results = #[.cell r ty])
    (ht : lk T r = some (.one (.ptr k 0))) (hl : lkl Lf k = some (.box cs)) (hk : kindT P ty = some (some n)) (hcn : cs.length = n) (hren : (AVal.agg cs).ren (rn []) = .agg cs) (hle : LeS (keys L) (rn []) ⟨T, Lf⟩ ⟨[], L'⟩)
    (h : AW P N (keys L) c (RetS (keys L) T Lf) (RetQ (keys L) T Lf) ⟨args0 args 0, L⟩) : AC P f args L (.agg cs) L' :=
  AC_ofB hf hb hn hN hA hren hle (fun g a w R => by
    obtain ⟨ad, v, h1, h2, h3⟩ := run_results_c R ht hl hk hcn
    refine ⟨v, ?_, h3⟩
    simp only [Array.getD_eq_getD_getElem?] at h1
    simp [results, hr, h1, h2]) h
theorem AC_bodyCT {ty : TypeId} {r q n k : Nat} {cs : List Cell} {x : AVal} {T : Tmps} {Lf : Locs} (hf : P.funcs[f]? = some fn) (hb : fn.body = some c) (hn : (fn.name == "runtime.NumGoroutine") = false) (hN : fn.ntmps = N) (hA : Nat.ble args.length N = true) (hr : fn.results = #[.cell r ty, .tmp q])
    (ht : lk T r = some (.one (.ptr k 0))) (hq : lk T q = some x) (hx : x.flat = true) (hl : lkl Lf k = some (.box cs)) (hk : kindT P ty = some (some n)) (hcn : cs.length = n) (hren : (AVal.tup [.agg cs, x]).ren (rn []) = .tup [.agg cs, x]) (hle : LeS (keys L) (rn []) ⟨T, Lf⟩ ⟨[], L'⟩)
    (h : AW P N (keys L) c (RetS (keys L) T Lf) (RetQ (keys L) T Lf) ⟨args0 args 0, L⟩) : AC P f args L (.tup [.agg cs, x]) L' :=
  AC_ofB hf hb hn hN hA hren hle (fun g a w R => by
    obtain ⟨ad, v, h1, h2, h3⟩ := run_results_c R ht hl hk hcn
    refine ⟨.tuple #[v, a.tmps.getD q undef], ?_, ⟨[v, a.tmps.getD q undef], rfl, h3, (R.tmp q x hq).vr1 hx, trivial⟩⟩
    simp only [Array.getD_eq_getD_getElem?] at h1
    simp [results, hr, h1, h2]) h
end results
end Go.Proofs.Ytibhoanjglfaoaa

/- More operations of the abstract walk: numbers of other kinds, shifts. -/
namespace Go.Proofs.Ytibhoanjglfaoaa
open Go.RowKit
set_option linter.unusedVariables false
section ops
variable {P : Program} {N : Nat} {s : St} {d : Nat} {ty : TypeId} {pos : String} {after : Array Edge} {gd : Option (Nat × Bool)}

def intT (P : Program) (A B : TypeId) : Option IntKind :=
  match P.underlying A, P.underlying B with
  | some _, some (.int k) => some k
  | _, _ => none
theorem run_conv {A B : TypeId} {k k' : IntKind} {n : Int} (h : intT P A B = some k') (w : World) : (convert A B (.int k n)).run P w = .ok (.int k' (k'.wrap n)) w := by
  unfold intT at h
  split at h
  · rename_i a k0 h1 h2
    cases h
    simp only [convert, Sem.run_bind, run_underlying h1, run_underlying h2, Result.andThen_ok]
    cases a <;> rfl
  · cases h
theorem x_conv {A B : TypeId} {x : Operand} {k k' : IntKind} {n r : Int} (hN : Nat.blt d N = true) (h : evo s.t x = some (.one (.c (.int k n)))) (hk : intT P A B = some k') (hr : k'.wrap n = r) :
    Stp P N ⟨some d, .convert A B x, ty, pos, after, gd⟩ s ⟨(d, .one (.c (.int k' r))) :: s.t, s.l⟩ ⟨rdo x (.one (.c (.int k n))), [], [(d, .one (.c (.int k' r)))], [], []⟩ :=
  Stp.pure rfl hN (rdo_of h) (by simp) fun g s' a w ht hl' rp => by
    obtain ⟨e1, _⟩ : a.eval x = .int k n ∧ wfV (.int k n) := eval_ok rp (evs_of h) ht
    refine ⟨.int k' (k'.wrap n), by simp only [execOp, e1, Sem.run_bind, run_conv hk, Result.andThen_ok, Sem.run_pure], ?_, ?_⟩
    · rw [hr]
    · rw [← hr]; exact wf_wrap k' _
theorem x_shr {T T' : TypeId} {x y : Operand} {k k' : IntKind} {m n r : Int} (hN : Nat.blt d N = true) (h : evo s.t x = some (.one (.c (.int k m)))) (h2 : evo s.t y = some (.one (.c (.int k' n)))) (h0 : 0 ≤ n) (hr : m.fdiv (2 ^ (min n.toNat k.bits)) = r) (hw : (Lit.int k r).wf = true) :
    Stp P N ⟨some d, .binOp .shr T x y T', ty, pos, after, gd⟩ s ⟨(d, .one (.c (.int k r))) :: s.t, s.l⟩ ⟨rdo x (.one (.c (.int k m))) ++ rdo y (.one (.c (.int k' n))), [], [(d, .one (.c (.int k r)))], [], []⟩ :=
  Stp.pure rfl hN (two_rd h h2) (by simp) fun g s' a w ht hl' rp => by
    obtain ⟨⟨e1, w1⟩, e2, w2⟩ := two_c rp (evs_of h) (evs_of h2) ht
    refine ⟨.int k r, run_binOp rfl ?_, rfl, hw⟩
    rw [e1, e2]
    have : ¬ n < 0 := by omega
    simp only [Sem.run_bind, guard_int, Result.andThen_ok]
    simp only [binOp, Op.shift, this, if_false, hr]; rfl
theorem x_shl {T T' : TypeId} {x y : Operand} {k k' : IntKind} {m n r : Int} (hN : Nat.blt d N = true) (h : evo s.t x = some (.one (.c (.int k m)))) (h2 : evo s.t y = some (.one (.c (.int k' n)))) (h0 : 0 ≤ n) (hr : k.wrap (m * 2 ^ (min n.toNat k.bits)) = r) :
    Stp P N ⟨some d, .binOp .shl T x y T', ty, pos, after, gd⟩ s ⟨(d, .one (.c (.int k r))) :: s.t, s.l⟩ ⟨rdo x (.one (.c (.int k m))) ++ rdo y (.one (.c (.int k' n))), [], [(d, .one (.c (.int k r)))], [], []⟩ :=
  Stp.pure rfl hN (two_rd h h2) (by simp) fun g s' a w ht hl' rp => by
    obtain ⟨⟨e1, w1⟩, e2, w2⟩ := two_c rp (evs_of h) (evs_of h2) ht
    refine ⟨.int k r, run_binOp rfl ?_, rfl, by rw [← hr]; exact wf_wrap k _⟩
    rw [e1, e2]
    have : ¬ n < 0 := by omega
    simp only [Sem.run_bind, guard_int, Result.andThen_ok]
    simp only [binOp, Op.shift, this, if_false, hr]; rfl
end ops
/-- The middle of two places, ars a binary search counts it. -/
theorem mid_shr {m : Int} (h0 : 0 ≤ m) : m.fdiv (2 ^ (min (1 : Int).toNat IntKind.u64.bits)) = m / 2 := by
  have e : (2 : Int) ^ (min (1 : Int).toNat IntKind.u64.bits) = 2 := rfl
  rw [e, Int.fdiv_eq_ediv_of_nonneg _ (by omega)]
theorem u64_wf {r : Int} (h0 : 0 ≤ r) (h1 : r < 18446744073709551616) : (Lit.int .u64 r).wf = true := by
  simp [Lit.wf, IntKind.min, IntKind.max, IntKind.signed, IntKind.bits]; omega
theorem u64_id {r : Int} (h0 : 0 ≤ r) (h1 : r < 18446744073709551616) : IntKind.u64.wrap r = r := by
  simp only [IntKind.wrap, IntKind.signed, IntKind.bits]; simp; omega
end Go.Proofs.Ytibhoanjglfaoaa

/- The abstract walk: calls that lend and leave; rules with the element's size found by the kernel. -/
namespace Go.Proofs.Ytibhoanjglfaoaa
open Go.RowKit
set_option linter.unusedVariables false

def arrOk (P : Program) (T E n : Nat) : Bool := match arrT P T with
  | some (E', n', b) => Nat.beq E' E && Nat.beq n' n && Nat.ble b 100000
  | none => false
theorem arrOk_spec {P : Program} {T E n : Nat} (h : arrOk P T E n = true) : ∃ b, arrT P T = some (E, n, b) ∧ Nat.ble b 100000 = true := by
  unfold arrOk at h
  split at h
  · rename_i E' n' b hT
    simp only [Bool.and_eq_true] at h
    obtain ⟨⟨h1, h2⟩, h3⟩ := h
    have h1 := Nat.eq_of_beq_eq_true h1
    have h2 := Nat.eq_of_beq_eq_true h2
    subst h1; subst h2
    exact ⟨b, hT, h3⟩
  · cases h
section ops
variable {P : Program} {N : Nat} {s : St} {d : Nat} {ty : TypeId} {pos : String} {after : Array Edge} {gd : Option (Nat × Bool)}
theorem y_append {α : Type} {e : Enc α} {f : α → List Cell} [hc : CellsOf e f] {T E : Nat} {x y : Operand} {xs ys : List α} {d1 d2 : Bool} {k j : Nat} (k' : Nat) (hN : Nat.blt d N = true)
    (h : evo s.t x = some (.one (.own k))) (h2 : evo s.t y = some (.one (.own j))) (hl : lkl s.l k = some (.arr E e xs d1)) (hl2 : lkl s.l j = some (.arr E e ys d2)) (hkj : Nat.beq k j = false)
    (hk : lk s.l k' = none) (hi : noId k' s.ids = true) (hT : arrOk P T E e.size = true) (hbnd : xs.length + ys.length ≤ 1000000000) :
    Stp P N ⟨some d, .call { callee := .builtin .append, args := #[x, y], argTypes := #[T, T] }, ty, pos, after, gd⟩ s ⟨(d, .one (.own k')) :: s.t, (k', some (.arr E e (xs ++ ys) (d1 && d2))) :: (gones [k, j] ++ s.l)⟩
      ⟨rdo x (.one (.own k)) ++ rdo y (.one (.own j)), [(k, .arr E e xs d1), (j, .arr E e ys d2)], [(d, .one (.own k'))], (k', some (.arr E e (xs ++ ys) (d1 && d2))) :: gones [k, j], [k']⟩ := by
  obtain ⟨b, h3, h4⟩ := arrOk_spec hT
  exact x_append k' hN h h2 hl hl2 hkj h3 rfl hk hi hbnd h4
theorem y_append_sl {α : Type} {e : Enc α} {f : α → List Cell} [hc : CellsOf e f] {T E : Nat} {x y : Operand} {xs ys : List α} {d1 : Bool} {k : Nat} (k' : Nat) (d2 : Bool) (hd2 : d2 = false ∨ ∀ w cs y b, e.rep w cs y b → b = []) (hN : Nat.blt d N = true)
    (h : evo s.t x = some (.one (.own k))) (h2 : evo s.t y = some (.one (.sl e ys))) (hl : lkl s.l k = some (.arr E e xs d1)) (hk : lk s.l k' = none) (hi : noId k' s.ids = true) (hT : arrOk P T E e.size = true) (hbnd : xs.length + ys.length ≤ 1000000000) :
    Stp P N ⟨some d, .call { callee := .builtin .append, args := #[x, y], argTypes := #[T, T] }, ty, pos, after, gd⟩ s ⟨(d, .one (.own k')) :: s.t, (k', some (.arr E e (xs ++ ys) (d1 && d2))) :: (gones [k] ++ s.l)⟩
      ⟨rdo x (.one (.own k)) ++ rdo y (.one (.sl e ys)), [(k, .arr E e xs d1)], [(d, .one (.own k'))], (k', some (.arr E e (xs ++ ys) (d1 && d2))) :: gones [k], [k']⟩ := by
  obtain ⟨b, h3, h4⟩ := arrOk_spec hT
  exact x_append_sl k' d2 hd2 hN h h2 hl h3 rfl hk hi hbnd h4
theorem y_bslice0 {α : Type} {e : Enc α} {f : α → List Cell} [hc : CellsOf e f] {T E : Nat} (k : Nat) (hN : Nat.blt d N = true) (hk : lk s.l k = none) (hi : noId k s.ids = true) (hT : arrOk P T E e.size = true) :
    Stp P N ⟨some d, .buildSlice T 0 #[], ty, pos, after, gd⟩ s ⟨(d, .one (.own k)) :: s.t, (k, some (.arr (α := α) E e [] true)) :: s.l⟩ ⟨[], [], [(d, .one (.own k))], [(k, some (.arr (α := α) E e [] true))], [k]⟩ := by
  obtain ⟨b, h3, h4⟩ := arrOk_spec hT
  exact x_bslice0 (f := f) k hN h3 hk hi
theorem y_bslice {α : Type} {e : Enc α} {f : α → List Cell} [hc : CellsOf e f] {T E len : Nat} (ops : List Operand) {parts : Array (Nat × Operand)} {Xs : List AVal} (xs : List α) {ds : List Cell} {js : List Nat} {dp : Bool} (k : Nat) (hN : Nat.blt d N = true)
    (hparts : parts = ((ops.zipIdx 0).map fun x => (x.2, x.1)).toArray) (hev : evl s.t ops = some Xs) (hfl : flats Xs = true) (hsol : (Xs.flatMap AVal.cells).all (solid s.l) = true)
    (hlen : ops.length = len) (hsz : Xs.all (fun X => Nat.beq X.cells.length e.size) = true)
    (hmv : mvC s.l (Xs.flatMap AVal.cells) = some (ds, js, dp)) (hfit : FitL ds (xs.flatMap f)) (hnd : noDup js = true) (hxs : xs.length = len) (hpos : Nat.blt 0 len = true) (hsmall : Nat.ble (len * e.size) 16777216 = true)
    (hk : lk s.l k = none) (hi : noId k s.ids = true) (hT : arrOk P T E e.size = true) :
    Stp P N ⟨some d, .buildSlice T len parts, ty, pos, after, gd⟩ s ⟨(d, .one (.own k)) :: s.t, (k, some (.arr E e xs dp)) :: (gones js ++ s.l)⟩ ⟨rdl s.t ops, rlC s.l (Xs.flatMap AVal.cells), [(d, .one (.own k))], (k, some (.arr E e xs dp)) :: gones js, [k]⟩ := by
  obtain ⟨b, h3, h4⟩ := arrOk_spec hT
  exact x_bslice ops xs k hN hparts hev hfl hsol h3 hlen hsz rfl hmv hfit hnd hxs hpos hsmall hk hi
/-! calls -/
def newOk (s : St) (ks : List Nat) : Bool := ks.all fun k => (match lk s.l k with | none => true | some _ => false) && noId k s.ids
theorem newOk_of {s : St} {ks : List Nat} (h : newOk s ks = true) : ∀ k ∈ ks, lk s.l k = none ∧ k ∉ s.ids := fun k hk => by
  have h1 := List.all_eq_true.1 h k hk
  simp only [Bool.and_eq_true] at h1
  refine ⟨?_, noId_of h1.2⟩
  have h2 := h1.1
  split at h2
  · assumption
  · cases h2
/-- A call that lends the blocks L and leaves the blocks L'. -/
theorem x_call {fo : Operand} {f : FuncId} {ks : List Nat} {ars : Array Operand} {ats : Array TypeId} {xs ys : List AVal} {L L' : Locs} {res : AVal} (hN : Nat.blt d N = true) (hev : evo s.t fo = some (.one (.clo f ks)))
    (hxs : evl s.t ars.toList = some xs) (hac : AC P f ys L res L') (hfl : flats xs = true) (hle : AllV (xs ++ caps ks) ys) (hks : ∀ k ∈ ks, ∃ cs, (k, some (Blk.box cs)) ∈ L) (hLs : okL L = true) (hsc : closedIn (keys L') L'.ids = true) (hsr : closedIn (keys L') res.ids = true)
    (hsub : sub s.l L) (hnew : newOk s (newOf L L') = true) :
    Stp P N ⟨some d, .call { callee := .value fo, args := ars, argTypes := ats }, ty, pos, after, gd⟩ s ⟨(d, res) :: s.t, L' ++ (goneL L ++ s.l)⟩ ⟨rdo fo (.one (.clo f ks)) ++ rdl s.t ars.toList, rlOf L, [(d, res)], L' ++ goneL L, newOf L L'⟩ :=
  ⟨OpOK.call rfl rfl (blt_lt hN) hev hxs hfl hac hle hks hLs hsc hsr, ⟨fun p hp => by
      rcases List.mem_append.1 hp with hp | hp
      · exact rdo_of hev p hp
      · exact (evl_ok (N := N) hxs).1 p hp, sub_rlOf hsub, newOk_of hnew⟩, by simp [Cert.upd, List.append_assoc]⟩
/-- .. that lends nothing and leaves one array. -/
theorem x_call1 {fo : Operand} {f : FuncId} {ars : Array Operand} {ats : Array TypeId} {xs : List AVal} {k : Nat} {b : Option Blk} {res : AVal} (hN : Nat.blt d N = true) (hev : evo s.t fo = some (.one (.clo f [])))
    (hxs : evl s.t ars.toList = some xs) (hac : AC P f xs [] res [(k, b)]) (hfl : flats xs = true) (hsc : closedIn [k] (Locs.ids [(k, b)]) = true) (hsr : closedIn [k] res.ids = true) (hnew : newOk s [k] = true) :
    Stp P N ⟨some d, .call { callee := .value fo, args := ars, argTypes := ats }, ty, pos, after, gd⟩ s ⟨(d, res) :: s.t, (k, b) :: s.l⟩ ⟨rdo fo (.one (.clo f [])) ++ rdl s.t ars.toList, [], [(d, res)], [(k, b)], [k]⟩ :=
  x_call (L := []) (L' := [(k, b)]) hN hev hxs hac hfl (by rw [show caps [] = [] from rfl, List.append_nil]; exact AllV.rf) (fun k hk => by cases hk) rfl hsc hsr trivial hnew
end ops
theorem ble_eq {b b' : Blk} (h : b = b') : BLe b b' := .inl h
theorem BLe.arr {α : Type} {T : TypeId} {e : Enc α} {xs ys : List α} {d : Bool} (h : xs = ys) : BLe (.arr T e xs d) (.arr T e ys d) := by subst h; exact BLe.rf
theorem BLe.arr' {α : Type} {T : TypeId} {e : Enc α} {xs ys : List α} {d : Bool} {b : Blk} (h : xs = ys) (hb : b = .arr T e ys d) : BLe (.arr T e xs d) b := by subst h; subst hb; exact BLe.rf
/-- The array that is left, under another number. -/
theorem AC.at {P : Program} {f : FuncId} {args : List AVal} {res : AVal} {b : Blk} (h : AC P f args [] (res.ren fun _ => 0) [(0, some (b.ren fun _ => 0))]) (k : Nat) : AC P f args [] res [(k, some b)] :=
  ⟨h.fn, fun g w cargs m ha => (h.run g w cargs m ha).mono (by
    rintro e w' ⟨v, g1, rfl, m1, hv, hs⟩
    have hL : LeL (fun _ => 0) [(0, some (b.ren fun _ => 0))] [(k, some b)] := ⟨⟨_, rfl, BLe.rf⟩, trivial⟩
    have hi : injL (fun _ => 0) (keys [(k, some b)]) = true := by simp [injL, keys]
    exact ⟨v, g1.ren fun _ => 0, rfl, m1.unren hL hi, VR.unren hL hv, hs.trans m m1 (Step.unren hL trivial)⟩)⟩
/-- The arrays that are left, under other numbers. -/
theorem AC.renum {P : Program} {f : FuncId} {args : List AVal} {res : AVal} {L0 L : Locs} {r : Nat → Nat} (h : AC P f args [] (res.ren r) L0) (hL : LeL r L0 L) (hi : injL r (keys L) = true) : AC P f args [] res L :=
  ⟨h.fn, fun g w cargs m ha => (h.run g w cargs m ha).mono (by
    rintro e w' ⟨v, g1, rfl, m1, hv, hs⟩
    exact ⟨v, g1.ren r, rfl, m1.unren hL hi, VR.unren hL hv, hs.trans m m1 (Step.unren hL trivial)⟩)⟩
end Go.Proofs.Ytibhoanjglfaoaa

/- The abstract walk: own arrays are read by a callee; own arrays are given up to be read alone. -/
namespace Go.Proofs.Ytibhoanjglfaoaa
open Go.RowKit
set_option linter.unusedVariables false

/-- What a callee may read of a cell. -/
def rdC (l : Locs) : Cell → Option Cell
  | .own k => match lkl l k with | some (.arr _ e xs _) => some (.sl e xs) | _ => none
  | .slo _ e xs => some (.sl e xs)
  | .epo _ e x o => some (.ep e x o)
  | .c v => some (.c v)
  | .sl e xs => some (.sl e xs)
  | .ep e x o => some (.ep e x o)
  | .sn e xs => some (.sl e xs)
  | _ => none
def rdCs (l : Locs) : List Cell → Option (List Cell)
  | [] => some []
  | c :: cs => match rdC l c, rdCs l cs with | some d, some ds => some (d :: ds) | _, _ => none
def rdA (l : Locs) : AVal → Option AVal
  | .one x => match rdC l x with | some y => some (.one y) | none => none
  | .agg xs => match rdCs l xs with | some ys => some (.agg ys) | none => none
  | .tup _ => none
def rdAs (l : Locs) : List AVal → Option (List AVal)
  | [] => some []
  | x :: xs => match rdA l x, rdAs l xs with | some y, some ys => some (y :: ys) | _, _ => none
/-- Cells that speak of no memory that is only read. -/
def cleanC : Cell → Bool
  | .c _ => true
  | .own _ => true
  | .any => true
  | _ => false
def cleanV : AVal → Bool
  | .one x => cleanC x
  | .agg xs => xs.all cleanC
  | .tup xs => xs.all fun | .one x => cleanC x | .agg ys => ys.all cleanC | .tup _ => false
def cleanL : Locs → Bool
  | [] => true
  | (_, some (.arr _ _ _ d)) :: r => d && cleanL r
  | (_, some (.box _)) :: _ => false
  | (_, none) :: r => cleanL r
/-- The arrays that are read. -/
def liveR (g : Gh) (l : Locs) (b : Nat) : Prop := ∃ k blk, lkl l k = some blk ∧ liv g k blk ∧ b = g.ρ k

theorem rdC_ok {g : Gh} {l : Locs} {w : World} (m : MemR g l w) {v : Value} {x y : Cell} (h : CellR g l w v x) (hr : rdC l x = some y) : CellR { g with I := fun b => g.I b ∨ liveR g l b } [] w v y := by
  cases x with
  | c u => cases hr; exact h
  | sl e xs => cases hr; obtain ⟨a, n, cap, bs, h1, h2, h3⟩ := h; exact ⟨a, n, cap, bs, h1, h2, fun b hb => .inl (h3 b hb)⟩
  | own k =>
    simp only [rdC] at hr
    split at hr
    · rename_i T e xs d hk
      cases hr
      obtain ⟨a, n, cap, bs, h1, h2, h3, _⟩ := (m.arr k _ _ _ _ _ hk).slice
      exact ⟨a, n, cap, bs, (h _ _ _ _ _ hk).trans h1, h2, fun b hb => by
        rcases h3 b hb with h4 | ⟨h4, h5⟩
        · exact .inl h4
        · exact .inr ⟨k, _, hk, h4, h5⟩⟩
    · cases hr
  | ep e z off => cases hr; obtain ⟨gb, o, cs, b, h1, h2, h3, h4, h5⟩ := h; exact ⟨gb, o, cs, b, h1, .inl h2, h3, fun c hc => .inl (h4 c hc), h5⟩
  | slo B e xs => cases hr; obtain ⟨a, n, cap, bs, h1, h2, h3⟩ := h; exact ⟨a, n, cap, bs, h1, h2, fun b hb => .inl (h3 b hb).1⟩
  | epo B e z off => cases hr; obtain ⟨gb, o, cs, b, h1, h2, h3, h4, h5⟩ := h; exact ⟨gb, o, cs, b, h1, .inl h2.1, h3, fun c hc => .inl (h4 c hc).1, h5⟩
  | sn e xs => cases hr; obtain ⟨a, n, cap, bs, h1, h2, h3⟩ := h; exact ⟨_, n, cap, bs, h1, h2, fun b hb => .inl (h3 b hb)⟩
  | _ => cases hr
theorem rdCs_ok {g : Gh} {l : Locs} {w : World} (m : MemR g l w) : ∀ {vs : List Value} {xs ys : List Cell}, All2 (CellR g l w) vs xs → rdCs l xs = some ys → All2 (CellR { g with I := fun b => g.I b ∨ liveR g l b } [] w) vs ys
  | [], [], ys, _, hr => by cases hr; trivial
  | v :: vs, x :: xs, ys, h, hr => by
    simp only [rdCs] at hr
    split at hr
    · rename_i d ds h1 h2; cases hr; exact ⟨rdC_ok m h.1 h1, rdCs_ok m h.2 h2⟩
    · cases hr
theorem rdA_ok {g : Gh} {l : Locs} {w : World} (m : MemR g l w) {v : Value} {x y : AVal} (h : VR1 g l w v x) (hr : rdA l x = some y) : VR1 { g with I := fun b => g.I b ∨ liveR g l b } [] w v y := by
  cases x with
  | one x =>
    simp only [rdA] at hr
    split at hr
    · rename_i d h1; cases hr; exact rdC_ok m h h1
    · cases hr
  | agg xs =>
    simp only [rdA] at hr
    split at hr
    · rename_i ds h1; cases hr
      obtain ⟨vs, h2, h3⟩ := h
      exact ⟨vs, h2, rdCs_ok m h3 h1⟩
    · cases hr
  | tup xs => cases hr
theorem rdAs_ok {g : Gh} {l : Locs} {w : World} (m : MemR g l w) : ∀ {vs : List Value} {xs ys : List AVal}, All2 (VR1 g l w) vs xs → rdAs l xs = some ys → All2 (VR1 { g with I := fun b => g.I b ∨ liveR g l b } [] w) vs ys
  | [], [], ys, _, hr => by cases hr; trivial
  | v :: vs, x :: xs, ys, h, hr => by
    simp only [rdAs] at hr
    split at hr
    · rename_i d ds h1 h2; cases hr; exact ⟨rdA_ok m h.1 h1, rdAs_ok m h.2 h2⟩
    · cases hr
theorem rdAs_flats {l : Locs} : ∀ {xs ys : List AVal}, rdAs l xs = some ys → flats xs = true
  | [], _, _ => rfl
  | x :: xs, ys, h => by
    simp only [rdAs] at h
    split at h
    · rename_i d ds h1 h2
      simp only [flats, Bool.and_eq_true]
      refine ⟨?_, rdAs_flats h2⟩
      cases x <;> first | rfl | cases h1
    · cases h
/-- The reading depends on the blocks that the cells speak of alone. -/
theorem rdC_of {l l' : Locs} {xs : List Cell} (h : ∀ p ∈ rlC l xs, lkl l' p.1 = some p.2) {x y : Cell} (hx : x ∈ xs) (hr : rdC l x = some y) : rdC l' x = some y := by
  cases x with
  | own k =>
    simp only [rdC] at hr ⊢
    split at hr
    · rename_i T e zs d hk; cases hr; rw [rlC_get h hx (by simp [Cell.ids]) hk]
    · cases hr
  | _ => first | exact hr | cases hr
theorem rdCs_of {l l' : Locs} {zs : List Cell} (h : ∀ p ∈ rlC l zs, lkl l' p.1 = some p.2) : ∀ {xs ys : List Cell}, (∀ x ∈ xs, x ∈ zs) → rdCs l xs = some ys → rdCs l' xs = some ys
  | [], ys, _, hr => hr
  | x :: xs, ys, hx, hr => by
    simp only [rdCs] at hr ⊢
    split at hr
    · rename_i d ds h1 h2
      cases hr
      rw [rdC_of h (hx x (List.mem_cons_self ..)) h1, rdCs_of h (fun y hy => hx y (List.mem_cons_of_mem _ hy)) h2]
    · cases hr
theorem rdA_of {l l' : Locs} {zs : List Cell} (h : ∀ p ∈ rlC l zs, lkl l' p.1 = some p.2) {x y : AVal} (hx : ∀ c ∈ x.cells, c ∈ zs) (hr : rdA l x = some y) : rdA l' x = some y := by
  cases x with
  | one x =>
    simp only [rdA] at hr ⊢
    split at hr
    · rename_i d h1; rw [rdC_of h (hx x (List.mem_singleton.2 rfl)) h1]; exact hr
    · cases hr
  | agg xs =>
    simp only [rdA] at hr ⊢
    split at hr
    · rename_i ds h1; rw [rdCs_of (xs := xs) h hx h1]; exact hr
    · cases hr
  | tup xs => cases hr
theorem rdAs_of {l l' : Locs} {zs : List Cell} (h : ∀ p ∈ rlC l zs, lkl l' p.1 = some p.2) : ∀ {xs ys : List AVal}, (∀ c ∈ xs.flatMap AVal.cells, c ∈ zs) → rdAs l xs = some ys → rdAs l' xs = some ys
  | [], ys, _, hr => hr
  | x :: xs, ys, hx, hr => by
    simp only [rdAs] at hr ⊢
    split at hr
    · rename_i d ds h1 h2
      cases hr
      rw [rdA_of h (fun c hc => hx c (List.mem_flatMap.2 ⟨x, List.mem_cons_self .., hc⟩)) h1, rdAs_of h (fun c hc => by
        obtain ⟨y, hy, hcy⟩ := List.mem_flatMap.1 hc
        exact hx c (List.mem_flatMap.2 ⟨y, List.mem_cons_of_mem _ hy, hcy⟩)) h2]
    · cases hr

theorem cleanC_re {g : Gh} {I : Nat → Prop} {l : Locs} {w : World} {v : Value} {x : Cell} (hc : cleanC x = true) (h : CellR g l w v x) : CellR { g with I := I } l w v x := by
  cases x <;> first | exact h | cases hc
theorem cleanCs_re {g : Gh} {I : Nat → Prop} {l : Locs} {w : World} : ∀ {vs : List Value} {xs : List Cell}, xs.all cleanC = true → All2 (CellR g l w) vs xs → All2 (CellR { g with I := I } l w) vs xs
  | [], [], _, _ => trivial
  | v :: vs, x :: xs, hc, h => by
    simp only [List.all_cons, Bool.and_eq_true] at hc
    exact ⟨cleanC_re hc.1 h.1, cleanCs_re hc.2 h.2⟩
theorem cleanV1_re {g : Gh} {I : Nat → Prop} {l : Locs} {w : World} {v : Value} {x : AVal} (hc : cleanV x = true) (h : VR1 g l w v x) : VR1 { g with I := I } l w v x := by
  cases x with
  | one x => exact cleanC_re hc h
  | agg xs => obtain ⟨vs, h1, h2⟩ := h; exact ⟨vs, h1, cleanCs_re hc h2⟩
  | tup xs => exact h
theorem cleanV_re {g : Gh} {I : Nat → Prop} {l : Locs} {w : World} {v : Value} {x : AVal} (hc : cleanV x = true) (h : VR g l w v x) : VR { g with I := I } l w v x := by
  cases x with
  | one x => exact cleanC_re hc h
  | agg xs => exact cleanV1_re (x := .agg xs) hc h
  | tup xs =>
    obtain ⟨vs, h1, h2⟩ := h
    refine ⟨vs, h1, ?_⟩
    clear h1
    simp only [cleanV, List.all_eq_true] at hc
    exact h2.mono fun a b hb hr => by
      have := hc b hb
      cases b with
      | one x => exact cleanC_re this hr
      | agg ys => obtain ⟨vs, h3, h4⟩ := hr; exact ⟨vs, h3, cleanCs_re this h4⟩
      | tup _ => exact hr
theorem cleanL_arr : ∀ {L : Locs} {k : Nat} {b : Blk}, cleanL L = true → lkl L k = some b → ∃ (α : Type) (T : TypeId) (e : Enc α) (xs : List α), b = .arr T e xs true
  | [], k, b, _, h => by simp [lkl, lk] at h
  | (j, none) :: r, k, b, hc, h => by
    by_cases e : j = k
    · subst e; rw [lkl_cons_self] at h; cases h
    · rw [lkl_cons_ne e] at h; exact cleanL_arr (L := r) hc h
  | (j, some (.arr T e xs d)) :: r, k, b, hc, h => by
    simp only [cleanL, Bool.and_eq_true] at hc
    by_cases ek : j = k
    · subst ek; rw [lkl_cons_self] at h; cases h; obtain ⟨rfl, _⟩ := hc; exact ⟨_, T, e, xs, rfl⟩
    · rw [lkl_cons_ne ek] at h; exact cleanL_arr (L := r) hc.2 h
  | (j, some (.box cs)) :: r, k, b, hc, h => by cases hc

theorem liveR_lt {g : Gh} {l : Locs} {w : World} (m : MemR g l w) {b : Nat} (h : liveR g l b) : b < w.heap.size ∧ ¬ g.I b := by
  obtain ⟨k, blk, h1, h2, rfl⟩ := h
  exact ⟨m.lt h1 h2, m.notI h1 h2⟩
/-- What a callee that was lent nothing but reading leaves. -/
theorem read_back {g g' : Gh} {l L' : Locs} {w w' : World} (m : MemR g l w) (m' : MemR g' L' w') (hs : Step (keys ([] : Locs)) { g with I := fun b => g.I b ∨ liveR g l b } [] w g' L' w') (hc : cleanL L' = true) :
    MemR { g' with I := fun b => g'.I b ∧ ¬ liveR g l b } L' w' ∧ Step (keys ([] : Locs)) g [] w { g' with I := fun b => g'.I b ∧ ¬ liveR g l b } L' w' := by
  have own : ∀ b, OwnB g' L' b → w.heap.size ≤ b := fun b hb => by
    rcases hs.own b hb with ⟨k, blk, hk, _⟩ | h
    · simp [lkl, lk] at hk
    · exact h
  have nl : ∀ b, w.heap.size ≤ b → ¬ liveR g l b := fun b hb hl => by have := (liveR_lt m hl).1; omega
  refine ⟨⟨fun b hb => m'.ilt b hb.1, fun k cs hk => ?_, fun k α T e xs d hk => ?_, m'.dis, fun k α T e xs hk => ?_, m'.fd⟩, ⟨hs.os, hs.tape, hs.output, hs.size, fun b hb _ => hs.keep b hb fun k blk hk => (by simp [lkl, lk] at hk), fun b hb => ⟨hs.imm b (.inl hb), fun hl => (liveR_lt m hl).2 hb⟩, fun b hb => ?_, fun b hb => .inr (own b ?_), fun k hk => by cases hk⟩⟩
  · obtain ⟨_, _, _, _, h⟩ := cleanL_arr hc hk; cases h
  · obtain ⟨_, _, _, _, h⟩ := cleanL_arr hc hk
    cases h
    rcases m'.arr k α T e xs true hk with h1 | ⟨cap, vs, bss, a1, a2, a3, a4, a5, a6, a7, a8, a9⟩
    · exact .inl h1
    · refine .inr ⟨cap, vs, bss, a1, a2, a3, a4, a5, a6, fun b hb => ⟨a7 b hb, nl b (own b ⟨k, _, hk, .inr ⟨α, T, e, xs, rfl, by rw [a9 rfl]; exact hb⟩⟩)⟩, fun h => a8 h.1, a9⟩
  · obtain ⟨h1, h2⟩ := m'.fr k α T e xs hk
    exact ⟨h1, fun b hb => ⟨⟨(h2 b hb).1, nl b (own b ⟨k, _, hk, .inr ⟨α, T, e, xs, rfl, hb⟩⟩)⟩, (h2 b hb).2⟩⟩
  · rcases hs.imm' b hb.1 with (h | h) | h | h
    · exact .inl h
    · exact absurd h hb.2
    · exact .inr (.inl h)
    · obtain ⟨k, blk, hk, _⟩ := h; simp [lkl, lk] at hk
  · obtain ⟨k, blk, hk, h⟩ := hb
    exact ⟨k, blk, hk, h⟩
section ops
variable {P : Program} {N : Nat} {s : St} {d : Nat} {ty : TypeId} {pos : String} {after : Array Edge} {gd : Option (Nat × Bool)}
/-- A call that reads own arrays and leaves new ones. -/
theorem x_callR {fo : Operand} {f : FuncId} {ars : Array Operand} {ats : Array TypeId} {xs ys zs : List AVal} {L' : Locs} {res : AVal} (hN : Nat.blt d N = true) (hev : evo s.t fo = some (.one (.clo f [])))
    (hxs : evl s.t ars.toList = some xs) (hac : AC P f zs [] res L') (hrd : rdAs s.l xs = some ys) (hle : AllV ys zs) (hcr : cleanV res = true) (hcl : cleanL L' = true) (hsc : closedIn (keys L') L'.ids = true) (hsr : closedIn (keys L') res.ids = true) (hnew : newOk s (keys L') = true) :
    Stp P N ⟨some d, .call { callee := .value fo, args := ars, argTypes := ats }, ty, pos, after, gd⟩ s ⟨(d, res) :: s.t, L' ++ s.l⟩ ⟨rdo fo (.one (.clo f [])) ++ rdl s.t ars.toList, rlC s.l (xs.flatMap AVal.cells), [(d, res)], L', keys L'⟩ := by
  have nwe : newOf [] L' = keys L' := by simp [newOf, keys]
  refine ⟨fun K g s' a w hp R => ?_, ⟨fun p hp => by
      rcases List.mem_append.1 hp with hp | hp
      · exact rdo_of hev p hp
      · exact (evl_ok (N := N) hxs).1 p hp, rlC_self, newOk_of hnew⟩, rfl⟩
  obtain ⟨p1, p2, p3⟩ := hp
  have q1 : ∀ p ∈ rdo fo (.one (.clo f [])), lk s'.t p.1 = some p.2 := fun p hm => p1 p (List.mem_append_left _ hm)
  have q2 : ∀ p ∈ rdl s.t ars.toList, lk s'.t p.1 = some p.2 := fun p hm => p1 p (List.mem_append_right _ hm)
  have hfv : VR g s'.l w (a.eval fo) (.one (.clo f [])) := eval_ok R (evs_of hev) q1
  have hfe : a.eval fo = .func (.func f) #[] #[] := hfv (fun k hk => by cases hk)
  have hargs : All2 (VR1 { g with I := fun b => g.I b ∨ liveR g s'.l b } [] w) ((ars.map a.eval) ++ #[]).toList zs := by
    refine hle.all2 ?_
    rw [Array.append_empty, Array.toList_map]
    exact rdAs_ok R.mem (((evl_ok hxs).2 R q2).vr1 (rdAs_flats hrd)) (rdAs_of p2 (fun c hc => hc) hrd)
  have mc : MemR { g with I := fun b => g.I b ∨ liveR g s'.l b } [] w :=
    ⟨fun b hb => hb.elim (R.mem.ilt b) fun h => (liveR_lt R.mem h).1, fun k cs hk => (by simp [lkl, lk] at hk), fun k α T e xs d hk => (by simp [lkl, lk] at hk), fun j k b b' _ hj => (by simp [lkl, lk] at hj), fun k α T e xs hk => (by simp [lkl, lk] at hk), fun j k α β T U e f xs ys _ hj => (by simp [lkl, lk] at hj)⟩
  unfold Oper.wp
  rw [run_enter rfl hac.fn hfe, Oper.upon_enter]
  refine (hac.run _ w _ mc hargs).mono ?_
  rintro e w' ⟨v, g', rfl, m', hv, hs⟩
  obtain ⟨m2, s2⟩ := read_back R.mem m' hs hcl
  have hnw : ∀ k ∈ newOf [] L', lk s'.l k = none ∧ k ∉ s'.l.ids := fun k hk => by
    rw [nwe] at hk
    exact ⟨(p3 k hk).1, fun h => (p3 k hk).2 (List.mem_append_right _ h)⟩
  obtain ⟨c1, c2, c3, c4, c5⟩ := call_mem (L := []) R.mem trivial m2 s2 hsc rfl hnw K
  have hmm : ∀ b, g.I b → (g.mix { g' with I := fun b => g'.I b ∧ ¬ liveR g s'.l b } (keys L' ++ keys ([] : Locs))).I b := fun b hb => s2.imm b hb
  show ∃ g2, Rep N g2 ⟨[(d, res)] ++ s'.t, L' ++ s'.l⟩ (a.put (some d) v) w' ∧ Step K g s'.l w g2 (L' ++ s'.l) w'
  exact ⟨_, R.next (blt_lt hN) c3 hmm s2.size (fun k hk => c4 k fun h => (p3 k (by rw [← nwe]; exact h)).2 hk) (VR.step (g := { g' with I := fun b => g'.I b ∧ ¬ liveR g s'.l b }) (l := L') (fun _ _ => rfl) (fun b hb => hb) (Nat.le_refl _) (fun k hk => c5 k (closedIn_get hsr hk)) (cleanV_re hcr hv)) c1, c2⟩
end ops
end Go.Proofs.Ytibhoanjglfaoaa

/- Contracts of the functions over bytes and strings: letters, words, variables, keywords. -/
namespace Go.Proofs.Ytibhoanjglfaoaa
open Go.RowKit

def keptB (s : ByteArray) : Bool := s.toList == [115, 116, 97, 116, 101] || s.toList == [101, 118, 101, 110, 116] || s.toList == [118, 105, 101, 119] || s.toList == [110, 111, 116]

def letB (c : Int) : Bool := decide (97 ≤ c ∧ c ≤ 122)
def upB (c : Int) : Bool := decide (65 ≤ c ∧ c ≤ 90)
def digB (c : Int) : Bool := decide (48 ≤ c ∧ c ≤ 57)
def classI (c : Int) : Int := if letB c then 1 else if upB c then 2 else if digB c then 3 else 0

theorem isLetter_any (c : Int) (w : World) :
    Calls Try.prog 109 #[.int .u8 c] w fun e w' => e = .returned (.bool (letB c)) ∧ w = w' := by
  go_enter Try.func109, Try.ntmps109
  go_wp2
  all_goals
    go_ret
    exact ⟨by simp [letB, *]; try omega, rfl⟩
theorem isDigit_any (c : Int) (w : World) :
    Calls Try.prog 110 #[.int .u8 c] w fun e w' => e = .returned (.bool (digB c)) ∧ w = w' := by
  go_enter Try.func110, Try.ntmps110
  go_wp2
  all_goals
    go_ret
    exact ⟨by simp [digB, *]; try omega, rfl⟩
def alnumB (c : Int) : Bool := letB c || upB c || digB c
def wordC (c : Int) : Bool := letB c || digB c
/-- Each of the first k bytes meets p. -/
def allTo (p : Int → Bool) (s : ByteArray) (k : Nat) : Prop := ∀ i (h : i < s.size), i < k → p s[i].toNat = true
theorem allTo_succ {p : Int → Bool} {s : ByteArray} {k : Nat} (h : allTo p s k) (hk : k < s.size) (hp : p s[k].toNat = true) : allTo p s (k + 1) := by
  intro i hi hik
  rcases Nat.lt_or_ge i k with h1 | h1
  · exact h i hi h1
  · obtain rfl : i = k := by omega
    exact hp
def allB (p : Int → Bool) (s : ByteArray) : Bool := s.data.toList.all fun c => p c.toNat
theorem getElem_data (s : ByteArray) (i : Nat) (h : i < s.size) : s.data.toList[i]'(by simpa using h) = s[i] := by
  simp [ByteArray.getElem_eq_getElem_data]
theorem allB_true {p : Int → Bool} {s : ByteArray} (h : allTo p s s.size) : allB p s = true := by
  unfold allB
  rw [List.all_eq_true]
  intro c hc
  obtain ⟨i, hi, rfl⟩ := List.getElem_of_mem hc
  have hi' : i < s.size := by simpa using hi
  rw [getElem_data s i hi']
  exact h i hi' hi'
theorem allB_false {p : Int → Bool} {s : ByteArray} {k : Nat} (hk : k < s.size) (h : p s[k].toNat = false) : allB p s = false := by
  unfold allB
  rw [List.all_eq_false]
  refine ⟨s[k], ?_, by simp [h]⟩
  rw [← getElem_data s k hk]
  exact List.getElem_mem _
def headB (p : Int → Bool) (s : ByteArray) : Bool := match s.data.toList with | [] => false | c :: _ => p c.toNat
theorem headB_eq {p : Int → Bool} {s : ByteArray} (h : 0 < s.size) : headB p s = p s[0].toNat := by
  have h1 := getElem_data s 0 h
  unfold headB
  cases hl : s.data.toList with
  | nil => have : s.data.toList.length = s.size := by simp
           rw [hl] at this; simp at this; omega
  | cons c l => simp [hl] at h1; simp [h1]
def shortB (s : ByteArray) : Bool := decide (1 ≤ s.size) && decide (s.size ≤ 12)
def varB (s : ByteArray) : Bool := allB alnumB s && shortB s && headB upB s
def wordB (s : ByteArray) : Bool := allB wordC s && shortB s && headB letB s

set_option maxHeartbeats 400000 in
theorem wordOkI_any (s : ByteArray) (w : World) (hs : s.size ≤ maxLen) :
    Calls Try.prog 63 #[.string s] w fun e w' => e = .returned (.bool (wordB s)) ∧ w = w' := by
  unfold maxLen at hs
  go_enter Try.func63, Try.ntmps63
  go_wp2
  go_loop [2, 6] (fun r i => ∃ k : Nat, k ≤ s.size ∧ i = .int .i64 k ∧ allTo wordC s k) (fun _ i => s.size - (intOf i).toNat)
  case atStart => exact ⟨0, Nat.zero_le _, rfl, fun i _ h => by omega⟩
  case round =>
    obtain ⟨k, hk, rfl, ha⟩ := hrel
    have HA := Lib.hid ha
    clear ha
    by_cases hlt : k < s.size
    · go_wp2_with (first | (go_at_call 109; refine (isLetter_any _ _).mono ?_; rintro e w' ⟨rfl, rfl⟩) | (go_at_call 110; refine (isDigit_any _ _).mono ?_; rintro e w' ⟨rfl, rfl⟩))
      all_goals first
        | (go_round
           case rel => exact ⟨k + 1, by omega, by go_num, allTo_succ HA.out hlt (by simp_all [wordC])⟩
           case measure => simp [intOf]; omega)
        | (go_ret
           exact ⟨ret_bool (by simp [wordB, allB_false (p := wordC) hlt (by simp_all [wordC])]), rfl⟩)
    · obtain rfl : k = s.size := by omega
      have H1 := Lib.hid (allB_true HA.out)
      go_wp2_with (first | (go_at_call 109; refine (isLetter_any _ _).mono ?_; rintro e w' ⟨rfl, rfl⟩))
      all_goals
        go_ret
        refine ⟨ret_bool ?_, rfl⟩
        have h1 := H1.out
        first
          | (have h2 : 0 < s.size := by omega
             simp only [wordB, h1, shortB, headB_eq h2]
             simp; omega)
          | (simp [wordB, shortB]; omega)

theorem class_zero (c : Int) : (classI c == 0) = !alnumB c := by
  simp only [classI, alnumB]
  cases letB c <;> cases upB c <;> cases digB c <;> rfl
theorem class_two (c : Int) : (classI c != 2) = !(upB c && !letB c) := by
  simp only [classI]
  cases letB c <;> cases upB c <;> cases digB c <;> rfl
theorem up_let {c : Int} (h : upB c = true) : letB c = false := by
  simp only [upB, letB, decide_eq_true_eq, decide_eq_false_iff_not] at *; omega

theorem five (c : Int) : c < 48 ∨ (48 ≤ c ∧ c ≤ 57) ∨ (57 < c ∧ c < 97) ∨ (97 ≤ c ∧ c ≤ 122) ∨ 122 < c := by omega
theorem wordHead {s : ByteArray} {k : Nat} (hk : k < s.size) (h : (letB ↑s[k].toNat || (digB ↑s[k].toNat && !decide (k = 0))) = true) (h0 : k ≠ 0 → headB letB s = true) : headB letB s = true := by
  by_cases hz : k = 0
  · subst hz
    rw [headB_eq hk]
    simpa using h
  · exact h0 hz

set_option maxHeartbeats 400000 in
theorem wordOkS_any (s : ByteArray) (w : World) (hs : s.size ≤ maxLen) :
    Calls Try.prog 59 #[.string s] w fun e w' => e = .returned (.bool (wordB s)) ∧ w = w' := by
  unfold maxLen at hs
  by_cases h1 : 1 ≤ s.size ∧ s.size ≤ 12
  · obtain ⟨h1, h2⟩ := h1
    go_enter Try.func59, Try.ntmps59
    go_wp2
    go_loop [2, 3, 4, 5] (fun r i l d => ∃ k : Nat, k ≤ s.size ∧ i = .int .i64 k ∧ allTo wordC s k ∧ (k ≠ 0 → headB letB s = true)) (fun _ i _ _ => s.size - (intOf i).toNat)
    case atStart => exact ⟨0, Nat.zero_le _, rfl, (fun i _ h => by omega), fun h => absurd rfl h⟩
    case round =>
      obtain ⟨k, hk, rfl, ha, hd⟩ := hrel
      have HA := Lib.hid ha
      have HD := Lib.hid hd
      clear ha hd
      by_cases hlt : k < s.size
      · by_cases hz : k = 0
        · subst hz
          rcases five ↑s[0].toNat with h5 | ⟨h5, h6⟩ | ⟨h5, h6⟩ | ⟨h5, h6⟩ | h5
          all_goals
            go_wp2
          all_goals first
            | (exfalso; simp only [Bool.not_eq_false', decide_eq_true_eq] at *; omega)
            | (go_round
               case rel => exact ⟨1, by omega, by rfl, allTo_succ HA.out hlt (by simp [wordC, letB, digB]; omega), fun _ => by rw [headB_eq hlt]; simp [letB]; omega⟩
               case measure => simp [intOf]; omega)
            | (go_ret
               exact ⟨ret_bool (by simp [wordB, headB_eq hlt, letB]; omega), rfl⟩)
        · rcases five ↑s[k].toNat with h5 | ⟨h5, h6⟩ | ⟨h5, h6⟩ | ⟨h5, h6⟩ | h5
          all_goals
            go_wp2
          all_goals first
            | (exfalso; simp only [Bool.not_eq_false', decide_eq_true_eq] at *; omega)
            | (go_round
               case rel => exact ⟨k + 1, by omega, by go_num, allTo_succ HA.out hlt (by simp [wordC, letB, digB]; omega), fun _ => HD.out hz⟩
               case measure => simp [intOf]; omega)
            | (go_ret
               exact ⟨ret_bool (by simp [wordB, allB_false (p := wordC) hlt (by simp [wordC, letB, digB]; omega)]), rfl⟩)
      · obtain rfl : k = s.size := by omega
        have H1 := Lib.hid (allB_true HA.out)
        go_wp2
        go_ret
        refine ⟨ret_bool ?_, rfl⟩
        have h3 := HD.out (by omega)
        simp [wordB, shortB, H1.out, h3]; omega
  · have hv : wordB s = false := by simp [wordB, shortB]; omega
    have HV := Lib.hid hv
    clear hv
    rcases Nat.lt_or_ge s.size 1 with h2 | h2
    · go_enter Try.func59, Try.ntmps59
      go_wp2
      go_ret
      exact ⟨ret_bool HV.out.symm, rfl⟩
    · have h4 : 12 < s.size := by omega
      go_enter Try.func59, Try.ntmps59
      go_wp2
      go_ret
      exact ⟨ret_bool HV.out.symm, rfl⟩
end Go.Proofs.Ytibhoanjglfaoaa

/- Plain facts on decimal texts: no program in sight. -/
namespace Go.Proofs.Ytibhoanjglfaoaa
open Go.RowKit
set_option linter.unusedVariables false

def bytes (l : List UInt8) : ByteArray := ⟨l.toArray⟩
@[simp] theorem bytes_toList (l : List UInt8) : (bytes l).data.toList = l := rfl
theorem bytes_of (s : ByteArray) : bytes s.data.toList = s := by cases s; simp [bytes]
theorem bytes_append (a b : List UInt8) : bytes a ++ bytes b = bytes (a ++ b) := by
  apply ByteArray.ext
  simp [bytes, ByteArray.data_append]
theorem bytes_size (l : List UInt8) : (bytes l).size = l.length := by simp [bytes, ByteArray.size]
theorem bytes_inj {a b : List UInt8} (h : bytes a = bytes b) : a = b := by
  have := congrArg (fun s => s.data.toList) h
  simpa using this
theorem ba_ext {a b : ByteArray} (h : a.data.toList = b.data.toList) : a = b := by
  rw [← bytes_of a, ← bytes_of b, h]

def numTxt (n : Nat) : List UInt8 := if n < 10 then [UInt8.ofNat (48 + n)] else numTxt (n / 10) ++ [UInt8.ofNat (48 + n % 10)]
termination_by n
decreasing_by omega

theorem utf8_dig {d : Int} (h0 : 0 ≤ d) (h1 : d < 10) : Utf8.encode (48 + d) = bytes [UInt8.ofNat (48 + d.toNat)] := by
  have : d = 0 ∨ d = 1 ∨ d = 2 ∨ d = 3 ∨ d = 4 ∨ d = 5 ∨ d = 6 ∨ d = 7 ∨ d = 8 ∨ d = 9 := by omega
  rcases this with rfl | rfl | rfl | rfl | rfl | rfl | rfl | rfl | rfl | rfl <;> decide +kernel

def isDig (c : UInt8) : Bool := decide (48 ≤ c.toNat) && decide (c.toNat ≤ 57)
def digVal (l : List UInt8) : Nat := l.foldl (fun n c => 10 * n + (c.toNat - 48)) 0
theorem digVal_snoc (l : List UInt8) (c : UInt8) : digVal (l ++ [c]) = 10 * digVal l + (c.toNat - 48) := by simp [digVal]
theorem digVal_lt : ∀ (n : Nat) (l : List UInt8), l.length = n → l.all isDig = true → digVal l < 10 ^ n := by
  intro n
  induction n with
  | zero => intro l h _; have := List.eq_nil_of_length_eq_zero h; subst this; simp [digVal]
  | succ n ih =>
    intro l h hd
    have hne : l ≠ [] := by intro e; subst e; simp at h
    have hl := (List.dropLast_concat_getLast hne)
    rw [← hl] at hd ⊢
    rw [digVal_snoc]
    rw [List.all_append, Bool.and_eq_true] at hd
    have h1 := ih l.dropLast (by simp [h]) hd.1
    have h2 : isDig (l.getLast hne) = true := by simpa using hd.2
    simp only [isDig, Bool.and_eq_true, decide_eq_true_eq] at h2
    rw [Nat.pow_succ]
    omega
theorem toNat_dig {d : Nat} (h : d < 10) : (UInt8.ofNat (48 + d)).toNat = 48 + d := by simp; omega
theorem isDig_dig {d : Nat} (h : d < 10) : isDig (UInt8.ofNat (48 + d)) = true := by
  unfold isDig; rw [toNat_dig h]; simp; omega
theorem numTxt_small {n : Nat} (h : n < 10) : numTxt n = [UInt8.ofNat (48 + n)] := by rw [numTxt, if_pos h]
theorem numTxt_big {n : Nat} (h : 10 ≤ n) : numTxt n = numTxt (n / 10) ++ [UInt8.ofNat (48 + n % 10)] := by rw [numTxt, if_neg (by omega)]
theorem digVal_numTxt (n : Nat) : digVal (numTxt n) = n := by
  induction n using Nat.strongRecOn with
  | _ n ih =>
    rcases Nat.lt_or_ge n 10 with h | h
    · rw [numTxt_small h]; simp [digVal]; omega
    · rw [numTxt_big h, digVal_snoc, ih (n / 10) (by omega), toNat_dig (by omega)]; omega
theorem numTxt_dig (n : Nat) : (numTxt n).all isDig = true := by
  induction n using Nat.strongRecOn with
  | _ n ih =>
    rcases Nat.lt_or_ge n 10 with h | h
    · rw [numTxt_small h, List.all_cons, isDig_dig h]; rfl
    · rw [numTxt_big h, List.all_append, ih (n / 10) (by omega)]; rw [List.all_cons, isDig_dig (d := n % 10) (by omega)]; rfl
theorem numTxt_ne (n : Nat) : numTxt n ≠ [] := by
  rcases Nat.lt_or_ge n 10 with h | h
  · rw [numTxt_small h]; simp
  · rw [numTxt_big h]; simp
theorem numTxt_len : ∀ (k n : Nat), n < 10 ^ (k + 1) → (numTxt n).length ≤ k + 1 := by
  intro k
  induction k with
  | zero => intro n h; rw [numTxt_small (by simpa using h)]; simp
  | succ k ih =>
    intro n h
    rcases Nat.lt_or_ge n 10 with h1 | h1
    · rw [numTxt_small h1]; simp
    · rw [numTxt_big h1, List.length_append]
      have : n / 10 < 10 ^ (k + 1) := by rw [Nat.pow_succ] at h; omega
      have := ih _ this
      simp; omega
theorem numTxt_len15 {n : Nat} (h : n ≤ 281474976710655) : (numTxt n).length ≤ 15 := numTxt_len 14 n (by omega)
theorem numTxt_inj {a b : Nat} (h : numTxt a = numTxt b) : a = b := by rw [← digVal_numTxt a, ← digVal_numTxt b, h]

/-- The number that a text is the decimal form of. -/
def textNum (s : ByteArray) : Option Nat :=
  if s.data.toList ≠ [] ∧ s.data.toList.length ≤ 15 ∧ s.data.toList.all isDig = true ∧ digVal s.data.toList ≤ 281474976710655 ∧ numTxt (digVal s.data.toList) = s.data.toList then some (digVal s.data.toList) else none
theorem textNum_numTxt {n : Nat} (h : n ≤ 281474976710655) : textNum (bytes (numTxt n)) = some n := by
  unfold textNum
  simp only [bytes_toList, digVal_numTxt]
  rw [if_pos ⟨numTxt_ne n, numTxt_len15 h, numTxt_dig n, h, trivial⟩]
theorem textNum_some {s : ByteArray} {n : Nat} (h : textNum s = some n) : n ≤ 281474976710655 ∧ s = bytes (numTxt n) := by
  unfold textNum at h
  split at h
  · rename_i hc
    obtain ⟨h1, h2, h3, h4, h5⟩ := hc
    simp only [Option.some.injEq] at h
    subst h
    exact ⟨h4, by rw [h5, bytes_of]⟩
  · cases h
end Go.Proofs.Ytibhoanjglfaoaa

/- Contracts of the functions over numbers and values. -/
namespace Go.Proofs.Ytibhoanjglfaoaa
open Go.RowKit
set_option linter.unusedVariables false

def numB (n : Int) : Bool := decide (0 ≤ n ∧ n ≤ 281474976710655)
theorem isNumber_any (n : Int) (w : World) :
    Calls Try.prog 166 #[.int .i64 n] w fun e w' => e = .returned (.bool (numB n)) ∧ w = w' := by
  go_enter Try.func166, Try.ntmps166
  go_wp2
  all_goals
    go_ret
    exact ⟨ret_bool (by simp [numB, *]; try omega), rfl⟩
theorem l01Num_any (n : Int) (w : World) :
    Calls Try.prog 156 #[.int .i64 n] w fun e w' => e = .returned (.bool (numB n)) ∧ w = w' := by
  go_enter Try.func156, Try.ntmps156
  go_wp2
  all_goals
    go_ret
    exact ⟨ret_bool (by simp [numB, *]; try omega), rfl⟩


def numText (n : Int) : ByteArray := if numB n then bytes (numTxt n.toNat) else ByteArray.empty
theorem numText_small {n : Int} (h0 : 0 ≤ n) (h1 : n < 10) : numText n = Utf8.encode (48 + n) := by
  have hb : numB n = true := by simp [numB]; omega
  rw [numText, if_pos hb, utf8_dig h0 h1, numTxt_small (by omega)]
theorem numText_big {n : Int} (h0 : 10 ≤ n) (h1 : n ≤ 281474976710655) : numText n = numText (n / 10) ++ Utf8.encode (48 + n % 10) := by
  have hb : numB n = true := by simp [numB]; omega
  have hc : numB (n / 10) = true := by simp [numB]; omega
  rw [numText, numText, if_pos hb, if_pos hc, utf8_dig (by omega) (by omega), bytes_append, numTxt_big (by omega)]
  congr 3
  · congr 1; omega
  · congr 1; congr 1; omega
theorem numText_size (n : Int) : (numText n).size ≤ 15 := by
  unfold numText
  cases hb : numB n
  · simp
  · have h : 0 ≤ n ∧ n ≤ 281474976710655 := by simpa [numB] using hb
    simp only [if_true, bytes_size]
    exact numTxt_len15 (by omega)
theorem utf8_size {d : Int} (h0 : 0 ≤ d) (h1 : d < 10) : (Utf8.encode (48 + d)).size = 1 := by rw [utf8_dig h0 h1, bytes_size]; rfl
theorem numText_room (n : Int) (h0 : 10 ≤ n) : ¬ 9223372036854775807 < (numText (n / 10)).size + (Utf8.encode (48 + n % 10)).size := by
  have h1 := numText_size (n / 10)
  have h2 := utf8_size (d := n % 10) (by omega) (by omega)
  omega
theorem numText_no {n : Int} (h : numB n = false) : numText n = ByteArray.empty := by rw [numText, h]; rfl

theorem conv_one {d : Int} (h0 : 0 ≤ d) (h1 : d < 10) (D : ByteArray) (hD : D = Utf8.encode (48 + d)) (W : World) (g : Nat) (hc : W.cell? ⟨g, 0, none⟩ = some (.int .u8 (48 + d))) :
    Sem.run Try.prog (convert 48 9 (.slice (some ⟨g, 0, none⟩) 1 1)) W = .ok (.string D) W := by
  have h := run_convert_bytes_back (P := Try.prog) W 48 9 5 ⟨g, 0, none⟩ 1 [UInt8.ofNat (48 + d.toNat)] Try.underlying48 Try.underlying5 Try.underlying9 (by
    intro j hj
    have : j = 0 := by simpa using hj
    subst this
    have e : (⟨g, 0, none⟩ : Addr).add 0 = ⟨g, 0, none⟩ := rfl
    rw [e, hc]
    simp only [List.getElem_cons_zero]
    rw [toNat_dig (by omega)]
    congr 2; omega)
  rw [hD, utf8_dig h0 h1]
  exact h

set_option maxRecDepth 100000 in
set_option maxHeartbeats 8000000 in
theorem numTextS_in (k : Nat) : ∀ (n : Int) (w : World), 0 ≤ n → n ≤ 281474976710655 → n.toNat ≤ k →
    Calls Try.prog 120 #[.int .i64 n] w fun e w' => e = .returned (.string (numText n)) ∧ Below w.heap.size w w' := by
  induction k with
  | zero =>
    intro n w h0 h1 hk
    have hb : numB n = true := by simp [numB]; omega
    have hcv := conv_one h0 (by omega) (numText n) (numText_small h0 (by omega))
    go_enter Try.func120, Try.ntmps120
    go_wp2_with (go_at_call 156; refine (l01Num_any _ _).mono ?_; rintro e w' ⟨rfl, rfl⟩)
    go_ret
    exact ⟨rfl, (Below.refl _ _).alloc (Nat.le_refl _) _⟩
  | succ k ih =>
    intro n w h0 h1 hk
    have hb : numB n = true := by simp [numB]; omega
    rcases Int.lt_or_le n 10 with h | h
    · have hcv := conv_one h0 (by omega) (numText n) (numText_small h0 (by omega))
      go_enter Try.func120, Try.ntmps120
      go_wp2_with (go_at_call 156; refine (l01Num_any _ _).mono ?_; rintro e w' ⟨rfl, rfl⟩)
      go_ret
      exact ⟨rfl, (Below.refl _ _).alloc (Nat.le_refl _) _⟩
    · have hz := numText_room n h
      have hcv := conv_one (d := n % 10) (by omega) (by omega) _ rfl
      have hr := Lib.hid (numText_big h h1)
      have IH0 := fun W => ih (n / 10) W (by omega) (by omega) (by omega)
      generalize Utf8.encode (48 + n % 10) = D at hz hcv hr
      have IH := Lib.hid IH0
      clear ih IH0
      go_enter Try.func120, Try.ntmps120
      go_wp2_with (first | (go_at_call 156; refine (l01Num_any _ _).mono ?_; rintro e w' ⟨rfl, rfl⟩))
      have e1 : IntKind.i64.wrap (n.tdiv 10) = n / 10 := by rw [Int.tdiv_eq_ediv_of_nonneg h0]; exact IntWalk.i64_in _ (by omega)
      have e2 : n.tmod 10 = n % 10 := Int.tmod_eq_emod_of_nonneg h0
      have e3 : IntKind.i64.wrap (48 + n % 10) = 48 + n % 10 := IntWalk.i64_in _ (by omega)
      have e4 : IntKind.u8.wrap (48 + n % 10) = 48 + n % 10 := IntWalk.u8_in _ (by omega)
      go_region_with ((go_at_call 120; refine (IH.out _).mono ?_; rintro e w' ⟨rfl, hb1⟩; obtain ⟨hc1, _⟩ := bcell hb1))
      all_goals
        go_wp2
        go_ret
        refine ⟨ret_str hr.out.symm, ?_⟩
        first
          | exact ((Below.refl _ _).drew.trans (hb1.mono (Nat.le_refl _))).alloc hb1.size _
          | exact ((Below.refl _ _).alloc (Nat.le_refl _) _).drew.trans (hb1.mono (by simp))
theorem numTextS_any (n : Int) (w : World) :
    Calls Try.prog 120 #[.int .i64 n] w fun e w' => e = .returned (.string (numText n)) ∧ Below w.heap.size w w' := by
  cases hb : numB n
  · have hr := Lib.hid (numText_no hb)
    go_enter Try.func120, Try.ntmps120
    go_wp2_with (go_at_call 156; refine (l01Num_any _ _).mono ?_; rintro e w' ⟨rfl, rfl⟩)
    go_ret
    exact ⟨ret_str hr.out.symm, Below.refl _ _⟩
  · have h : 0 ≤ n ∧ n ≤ 281474976710655 := by simpa [numB] using hb
    exact numTextS_in n.toNat n w h.1 h.2 (Nat.le_refl _)
def textN (s : ByteArray) : Int := match textNum s with | some n => n | none => 0
def textOk (s : ByteArray) : Bool := (textNum s).isSome
/-- The first k bytes are digits, and v is their number. -/
def Dig (s : ByteArray) (k v : Nat) : Prop := v = digVal (s.data.toList.take k) ∧ (s.data.toList.take k).all isDig = true
theorem dig_zero (s : ByteArray) : Dig s 0 0 := ⟨by simp [digVal], by simp⟩
theorem take_succ (s : ByteArray) (k : Nat) (hk : k < s.size) : s.data.toList.take (k + 1) = s.data.toList.take k ++ [s[k]] := by
  rw [List.take_succ_eq_append_getElem (by simpa using hk), getElem_data s k hk]
theorem isDig_eq (c : UInt8) : isDig c = digB c.toNat := by
  simp only [isDig, digB, Bool.and_eq_decide]
  congr 1
  simp only [decide_eq_true_eq, eq_iff_iff]; omega
theorem Dig.succ {s : ByteArray} {k v : Nat} (h : Dig s k v) (hk : k < s.size) (hd : digB s[k].toNat = true) : Dig s (k + 1) (10 * v + (s[k].toNat - 48)) := by
  unfold Dig
  rw [take_succ s k hk, digVal_snoc, List.all_append, h.2, ← h.1]
  exact ⟨rfl, by simp [isDig_eq, hd]⟩
theorem Dig.lt {s : ByteArray} {k v : Nat} (h : Dig s k v) (hk : k ≤ 15) : v < 1000000000000000 := by
  have h1 := digVal_lt _ _ rfl h.2
  rw [← h.1] at h1
  have h2 : (s.data.toList.take k).length ≤ 15 := by rw [List.length_take]; omega
  have h3 : 10 ^ (s.data.toList.take k).length ≤ 10 ^ 15 := Nat.pow_le_pow_right (by omega) h2
  omega
theorem textNum_long {s : ByteArray} (h : s.data.toList = [] ∨ 15 < s.size) : textNum s = none := by
  unfold textNum
  rw [if_neg]
  rintro ⟨h1, h2, _⟩
  rcases h with h | h
  · exact h1 h
  · have : s.data.toList.length = s.size := by simp
    omega
theorem textNum_bad {s : ByteArray} {k : Nat} (hk : k < s.size) (hd : digB s[k].toNat = false) : textNum s = none := by
  unfold textNum
  rw [if_neg]
  rintro ⟨_, _, h3, _⟩
  rw [List.all_eq_true] at h3
  have := h3 s[k] (by rw [← getElem_data s k hk]; exact List.getElem_mem _)
  rw [isDig_eq, hd] at this
  cases this
theorem textNum_end {s : ByteArray} {v : Nat} (h : Dig s s.size v) (h0 : 0 < s.size) (h1 : s.size ≤ 15) : textNum s = if (numText v).toList = s.toList then some v else none := by
  have hl : s.data.toList.length = s.size := by simp
  obtain ⟨hv, hd⟩ := h
  rw [List.take_of_length_le (by omega)] at hv hd
  unfold textNum
  rw [← hv, hd, ByteArray.toList_eq, ByteArray.toList_eq]
  by_cases hn : v ≤ 281474976710655
  · have hb : numB (v : Int) = true := by simp [numB]; omega
    have ht : (numText v).data.toList = numTxt v := by rw [numText, if_pos hb]; simp
    rw [ht]
    by_cases he : numTxt v = s.data.toList
    · rw [if_pos he, if_pos ⟨by intro e; rw [e] at hl; simp at hl; omega, by omega, rfl, hn, he⟩]
    · rw [if_neg he, if_neg (fun h => he h.2.2.2.2)]
  · have hb : numB (v : Int) = false := by simp [numB]; omega
    rw [numText_no hb, if_neg (fun h => hn h.2.2.2.1), if_neg]
    intro e
    rw [← e] at hl
    simp at hl; omega

end Go.Proofs.Ytibhoanjglfaoaa

/- Contracts of the functions over values: ValueOk, ValueLess, ValueText, TextValue, and the laws' szValue, toValue, eqValue. -/
namespace Go.Proofs.Ytibhoanjglfaoaa
open Go.RowKit
set_option linter.unusedVariables false

structure Val where
  n : Int
  s : ByteArray
def valE : Enc Val := isoE (pairE (intE .i64) (pairE strE unitE)) (fun v => (v.n, v.s, ()))
theorem valE_rep {w : World} {cs : List Value} {v : Val} {bs : List Nat} : valE.rep w cs v bs ↔ cs = [.int .i64 v.n, .string v.s] ∧ (Lit.int .i64 v.n).wf = true ∧ v.s.size ≤ maxLen ∧ bs = [] := by
  constructor
  · rintro ⟨c1, c2, b1, b2, rfl, rfl, ⟨rfl, h2, rfl⟩, c3, c4, b3, b4, rfl, rfl, ⟨rfl, h3, rfl⟩, rfl, rfl⟩
    exact ⟨rfl, h2, h3, rfl⟩
  · rintro ⟨rfl, h2, h3, rfl⟩
    exact ⟨[_], [_], [], [], rfl, rfl, ⟨rfl, h2, rfl⟩, [_], [], [], [], rfl, rfl, ⟨rfl, h3, rfl⟩, rfl, rfl⟩
theorem opens_lValue : Opens Try.prog valE 176 :=
  opens_iso (fun x => ⟨x.1, x.2.1⟩) (fun _ => rfl) (opens_struct Try.underlying176 (by kernel_rfl) (opensF_cons rfl (by kernel_rfl) (opens_int Try.underlying3) (opensF_cons rfl (by kernel_rfl) (opens_string Try.underlying9) opensF_nil)))

def valOk (v : Val) : Bool := if v.s.toList.isEmpty then numB v.n else v.n == 0 && wordB v.s
theorem valOk_num {v : Val} (h : v.s.toList.isEmpty = true) : valOk v = numB v.n := by rw [valOk, if_pos h]
theorem valOk_word {v : Val} (h : v.s.toList.isEmpty = false) : valOk v = (v.n == 0 && wordB v.s) := by rw [valOk, if_neg (by simp [h])]

set_option maxHeartbeats 400000 in
theorem valueOkI_any (n : Int) (s : ByteArray) (w : World) (hs : s.size ≤ maxLen) :
    Calls Try.prog 145 #[.agg #[.int .i64 n, .string s]] w fun e w' => e = .returned (.bool (valOk ⟨n, s⟩)) ∧ Below w.heap.size w w' := by
  cases hq : s.toList.isEmpty
  · have HR := Lib.hid (valOk_word (v := ⟨n, s⟩) hq)
    cases hz : (n == 0)
    · go_enter Try.func145, Try.ntmps145
      go_wp2_with (first | (go_at_call 166; refine (isNumber_any _ _).mono ?_; rintro e w' ⟨rfl, rfl⟩) | (go_at_call 63; refine (wordOkI_any _ _ hs).mono ?_; rintro e w' ⟨rfl, rfl⟩))
      go_ret
      exact ⟨ret_bool (by rw [HR.out, hz]; rfl), (Below.refl _ _).alloc (Nat.le_refl _) _⟩
    · go_enter Try.func145, Try.ntmps145
      go_wp2_with (first | (go_at_call 166; refine (isNumber_any _ _).mono ?_; rintro e w' ⟨rfl, rfl⟩) | (go_at_call 63; refine (wordOkI_any _ _ hs).mono ?_; rintro e w' ⟨rfl, rfl⟩))
      go_ret
      exact ⟨ret_bool (by rw [HR.out, hz]; rfl), (Below.refl _ _).alloc (Nat.le_refl _) _⟩
  · have HR := Lib.hid (valOk_num (v := ⟨n, s⟩) hq)
    go_enter Try.func145, Try.ntmps145
    go_wp2_with (first | (go_at_call 166; refine (isNumber_any _ _).mono ?_; rintro e w' ⟨rfl, rfl⟩) | (go_at_call 63; refine (wordOkI_any _ _ hs).mono ?_; rintro e w' ⟨rfl, rfl⟩))
    go_ret
    exact ⟨ret_bool HR.out.symm, (Below.refl _ _).alloc (Nat.le_refl _) _⟩

set_option maxHeartbeats 400000 in
theorem valueOkS_any (n : Int) (s : ByteArray) (w : World) (hs : s.size ≤ maxLen) :
    Calls Try.prog 140 #[.agg #[.int .i64 n, .string s]] w fun e w' => e = .returned (.bool (valOk ⟨n, s⟩)) ∧ Below w.heap.size w w' := by
  cases hq : s.toList.isEmpty
  · have HR := Lib.hid (valOk_word (v := ⟨n, s⟩) hq)
    cases hz : (n == 0)
    · go_enter Try.func140, Try.ntmps140
      go_wp2_with (first | (go_at_call 156; refine (l01Num_any _ _).mono ?_; rintro e w' ⟨rfl, rfl⟩) | (go_at_call 59; refine (wordOkS_any _ _ hs).mono ?_; rintro e w' ⟨rfl, rfl⟩))
      go_ret
      exact ⟨ret_bool (by rw [HR.out, hz]; rfl), (Below.refl _ _).alloc (Nat.le_refl _) _⟩
    · go_enter Try.func140, Try.ntmps140
      go_wp2_with (first | (go_at_call 156; refine (l01Num_any _ _).mono ?_; rintro e w' ⟨rfl, rfl⟩) | (go_at_call 59; refine (wordOkS_any _ _ hs).mono ?_; rintro e w' ⟨rfl, rfl⟩))
      go_ret
      exact ⟨ret_bool (by rw [HR.out, hz]; rfl), (Below.refl _ _).alloc (Nat.le_refl _) _⟩
  · have HR := Lib.hid (valOk_num (v := ⟨n, s⟩) hq)
    go_enter Try.func140, Try.ntmps140
    go_wp2_with (first | (go_at_call 156; refine (l01Num_any _ _).mono ?_; rintro e w' ⟨rfl, rfl⟩) | (go_at_call 59; refine (wordOkS_any _ _ hs).mono ?_; rintro e w' ⟨rfl, rfl⟩))
    go_ret
    exact ⟨ret_bool HR.out.symm, (Below.refl _ _).alloc (Nat.le_refl _) _⟩

/-! ### The order -/
theorem bytesLess_cmp : ∀ a b : List UInt8, Op.bytesLess a b = decide (Lib.compareBytes a b < 0)
  | [], [] => by simp [Op.bytesLess, Lib.compareBytes]
  | [], _ :: _ => by simp [Op.bytesLess, Lib.compareBytes]
  | _ :: _, [] => by simp [Op.bytesLess, Lib.compareBytes]
  | x :: a, y :: b => by
    have ih := bytesLess_cmp a b
    unfold Op.bytesLess Lib.compareBytes
    by_cases h1 : x < y
    · simp [h1]
    · by_cases h2 : y < x
      · have : ¬ x = y := by rintro rfl; exact h1 h2
        simp [h1, h2, this]
      · have : x = y := UInt8.le_antisymm (UInt8.not_lt.1 h2) (UInt8.not_lt.1 h1)
        subst this
        simp [h1, ih]

def cmpVal (a b : Val) : Int :=
  if a.s.toList.isEmpty then (if b.s.toList.isEmpty then a.n - b.n else -1) else if b.s.toList.isEmpty then 1 else Lib.compareBytes a.s.data.toList b.s.data.toList
def valLess (a b : Val) : Bool := valOk a && valOk b && decide (cmpVal a b < 0)

set_option maxRecDepth 100000 in
theorem cmpStr_any (a b : ByteArray) (w : World) :
    Calls Try.prog 174 #[.string a, .string b] w fun e w' => e = .returned (.int .i64 (Lib.compareBytes a.data.toList b.data.toList)) ∧ w = w' := by
  go_enter Try.func174, Try.ntmps174
  go_wp2
  rw [run_callFunc_extern Try.func177 (by kernel_rfl) (by kernel_rfl) (by kernel_rfl) (e := Extern.BytealgCompare.compare) (by kernel_rfl), Lib.run_compareString]
  simp only [Result.andThen]
  rw [Oper.upon_value]
  go_wp2
  go_ret
  exact ⟨rfl, rfl⟩
theorem strCompare_any (a b : ByteArray) (w : World) :
    Calls Try.prog 167 #[.string a, .string b] w fun e w' => e = .returned (.int .i64 (Lib.compareBytes a.data.toList b.data.toList)) ∧ w = w' := by
  go_enter Try.func167, Try.ntmps167
  go_wp2_with (go_at_call 174; refine (cmpStr_any _ _ _).mono ?_; rintro e w' ⟨rfl, rfl⟩)
  go_ret
  exact ⟨rfl, rfl⟩

theorem valOk_range {v : Val} (h : valOk v = true) : 0 ≤ v.n ∧ v.n ≤ 281474976710655 := by
  unfold valOk at h
  split at h
  · simpa [numB] using h
  · simp at h; omega

set_option maxHeartbeats 400000 in
theorem byValue_any (a b : Val) (w : World) (ha : valOk a = true) (hb : valOk b = true) :
    Calls Try.prog 147 #[.agg #[.int .i64 a.n, .string a.s], .agg #[.int .i64 b.n, .string b.s]] w fun e w' => e = .returned (.int .i64 (cmpVal a b)) ∧ Below w.heap.size w w' := by
  obtain ⟨a1, a2⟩ := valOk_range ha
  obtain ⟨b1, b2⟩ := valOk_range hb
  clear ha hb
  obtain ⟨an, sa⟩ := a
  obtain ⟨bn, sb⟩ := b
  dsimp only at *
  cases hqa : sa.toList.isEmpty <;> cases hqb : sb.toList.isEmpty
  all_goals
    have HR := Lib.hid (show cmpVal ⟨an, sa⟩ ⟨bn, sb⟩ = _ by simp only [cmpVal, hqa, hqb]; exact rfl)
    go_enter Try.func147, Try.ntmps147
    go_wp2_with (first | (go_at_call 167; refine (strCompare_any _ _ _).mono ?_; rintro e w' ⟨rfl, rfl⟩))
    go_ret
    refine ⟨ret_int ?_, ((Below.refl _ _).alloc (Nat.le_refl _) _).alloc (by simp) _⟩
    rw [HR.out]
    rfl

theorem valLess_key (la lb : List UInt8) (x y : Int) :
    (((if la.isEmpty then (if lb.isEmpty then x - y else -1) else if lb.isEmpty then 1 else Lib.compareBytes la lb) < 0) ↔ (if la.isEmpty && lb.isEmpty then decide (x < y) else Op.bytesLess la lb) = true) := by
  rw [bytesLess_cmp]
  cases la with
  | nil => cases lb with
    | nil => simp; omega
    | cons y lb => simp [Lib.compareBytes]
  | cons x la => cases lb with
    | nil => simp [Lib.compareBytes]
    | cons y lb => simp
theorem valLess_eq {a b : Val} (ha : valOk a = true) (hb : valOk b = true) : valLess a b = (if a.s.toList.isEmpty && b.s.toList.isEmpty then decide (a.n < b.n) else Op.bytesLess a.s.toList b.s.toList) := by
  have hk := valLess_key a.s.toList b.s.toList a.n b.n
  rw [Bool.eq_iff_iff, ← hk]
  unfold valLess
  rw [ha, hb]
  simp only [Bool.true_and, decide_eq_true_eq]
  unfold cmpVal
  rw [ByteArray.toList_eq, ByteArray.toList_eq]

end Go.Proofs.Ytibhoanjglfaoaa

/- Contracts of the functions over rows: RowOk and RowOrder. -/
namespace Go.Proofs.Ytibhoanjglfaoaa
open Go.RowKit
set_option linter.unusedVariables false

theorem cell_alloc {w : World} {a : Addr} {v : Value} (h : w.cell? a = some v) (o : Obj) : (w.alloc o).cell? a = some v :=
  (World.cell?_alloc_lt _ _ _ (World.block_lt_of_cell? w a h)).trans h

/-- Nothing that lay in w has turned, and these cells hold these values. -/
def Kept (w : World) (L : List (Addr × Value)) (W : World) : Prop := Below w.heap.size w W ∧ ∀ p ∈ L, W.cell? p.1 = some p.2
theorem Kept.up {w W w' : World} {L : List (Addr × Value)} (hb : Below W.heap.size W w') (h : Kept w L W) : Kept w L w' :=
  ⟨below_up h.1 hb (Nat.le_refl _), fun p hp => (hb.cell (World.block_lt_of_cell? W p.1 (h.2 p hp))).trans (h.2 p hp)⟩
theorem Kept.drew {w W : World} {L : List (Addr × Value)} (h : Kept w L W) : Kept w L W.drew := ⟨h.1.drew, h.2⟩
theorem Kept.alloc {w W : World} {L : List (Addr × Value)} (h : Kept w L W) (o : Obj) : Kept w L (W.alloc o) := h.up ((Below.refl _ _).alloc (Nat.le_refl _) o)
theorem Kept.start (w : World) : Kept w [] w := ⟨Below.refl _ _, fun p hp => by cases hp⟩
theorem Kept.cons {w W : World} {L : List (Addr × Value)} {a : Addr} {v : Value} (hc : W.cell? a = some v) (h : Kept w L W) : Kept w ((a, v) :: L) W :=
  ⟨h.1, fun p hp => by
    rcases List.mem_cons.1 hp with rfl | hp
    · exact hc
    · exact h.2 p hp⟩
theorem Kept.of {w W : World} {L L' : List (Addr × Value)} (h : Kept w L W) (hL : ∀ p ∈ L', p ∈ L) : Kept w L' W := ⟨h.1, fun p hp => h.2 p (hL p hp)⟩
theorem Held.kept {w W : World} {L : List (Nat × Array Value)} (h : Held w L W) : Kept w [] W := ⟨h.below, fun p hp => by cases hp⟩
theorem Kept.held {w W : World} {L : List (Addr × Value)} (h : Kept w L W) : Held w [] W := ⟨h.1, fun p hp => by cases hp⟩
theorem Kept.c1 {w W : World} {a0 : Addr} {v0 : Value} (h : Kept w [(a0, v0)] W) : Kept w [(a0, v0)] W ∧ W.cell? a0 = some v0 := ⟨h, h.2 (a0, v0) (by simp)⟩
theorem Kept.c2 {w W : World} {a0 a1 : Addr} {v0 v1 : Value} (h : Kept w [(a0, v0), (a1, v1)] W) : Kept w [(a0, v0), (a1, v1)] W ∧ W.cell? a0 = some v0 ∧ W.cell? a1 = some v1 := ⟨h, h.2 (a0, v0) (by simp), h.2 (a1, v1) (by simp)⟩
theorem Kept.c3 {w W : World} {a0 a1 a2 : Addr} {v0 v1 v2 : Value} (h : Kept w [(a0, v0), (a1, v1), (a2, v2)] W) : Kept w [(a0, v0), (a1, v1), (a2, v2)] W ∧ W.cell? a0 = some v0 ∧ W.cell? a1 = some v1 ∧ W.cell? a2 = some v2 := ⟨h, h.2 (a0, v0) (by simp), h.2 (a1, v1) (by simp), h.2 (a2, v2) (by simp)⟩
theorem Kept.c4 {w W : World} {a0 a1 a2 a3 : Addr} {v0 v1 v2 v3 : Value} (h : Kept w [(a0, v0), (a1, v1), (a2, v2), (a3, v3)] W) : Kept w [(a0, v0), (a1, v1), (a2, v2), (a3, v3)] W ∧ W.cell? a0 = some v0 ∧ W.cell? a1 = some v1 ∧ W.cell? a2 = some v2 ∧ W.cell? a3 = some v3 := ⟨h, h.2 (a0, v0) (by simp), h.2 (a1, v1) (by simp), h.2 (a2, v2) (by simp), h.2 (a3, v3) (by simp)⟩
theorem Kept.c5 {w W : World} {a0 a1 a2 a3 a4 : Addr} {v0 v1 v2 v3 v4 : Value} (h : Kept w [(a0, v0), (a1, v1), (a2, v2), (a3, v3), (a4, v4)] W) : Kept w [(a0, v0), (a1, v1), (a2, v2), (a3, v3), (a4, v4)] W ∧ W.cell? a0 = some v0 ∧ W.cell? a1 = some v1 ∧ W.cell? a2 = some v2 ∧ W.cell? a3 = some v3 ∧ W.cell? a4 = some v4 := ⟨h, h.2 (a0, v0) (by simp), h.2 (a1, v1) (by simp), h.2 (a2, v2) (by simp), h.2 (a3, v3) (by simp), h.2 (a4, v4) (by simp)⟩
theorem Kept.c6 {w W : World} {a0 a1 a2 a3 a4 a5 : Addr} {v0 v1 v2 v3 v4 v5 : Value} (h : Kept w [(a0, v0), (a1, v1), (a2, v2), (a3, v3), (a4, v4), (a5, v5)] W) : Kept w [(a0, v0), (a1, v1), (a2, v2), (a3, v3), (a4, v4), (a5, v5)] W ∧ W.cell? a0 = some v0 ∧ W.cell? a1 = some v1 ∧ W.cell? a2 = some v2 ∧ W.cell? a3 = some v3 ∧ W.cell? a4 = some v4 ∧ W.cell? a5 = some v5 := ⟨h, h.2 (a0, v0) (by simp), h.2 (a1, v1) (by simp), h.2 (a2, v2) (by simp), h.2 (a3, v3) (by simp), h.2 (a4, v4) (by simp), h.2 (a5, v5) (by simp)⟩
theorem Kept.c7 {w W : World} {a0 a1 a2 a3 a4 a5 a6 : Addr} {v0 v1 v2 v3 v4 v5 v6 : Value} (h : Kept w [(a0, v0), (a1, v1), (a2, v2), (a3, v3), (a4, v4), (a5, v5), (a6, v6)] W) : Kept w [(a0, v0), (a1, v1), (a2, v2), (a3, v3), (a4, v4), (a5, v5), (a6, v6)] W ∧ W.cell? a0 = some v0 ∧ W.cell? a1 = some v1 ∧ W.cell? a2 = some v2 ∧ W.cell? a3 = some v3 ∧ W.cell? a4 = some v4 ∧ W.cell? a5 = some v5 ∧ W.cell? a6 = some v6 := ⟨h, h.2 (a0, v0) (by simp), h.2 (a1, v1) (by simp), h.2 (a2, v2) (by simp), h.2 (a3, v3) (by simp), h.2 (a4, v4) (by simp), h.2 (a5, v5) (by simp), h.2 (a6, v6) (by simp)⟩
theorem Kept.c8 {w W : World} {a0 a1 a2 a3 a4 a5 a6 a7 : Addr} {v0 v1 v2 v3 v4 v5 v6 v7 : Value} (h : Kept w [(a0, v0), (a1, v1), (a2, v2), (a3, v3), (a4, v4), (a5, v5), (a6, v6), (a7, v7)] W) : Kept w [(a0, v0), (a1, v1), (a2, v2), (a3, v3), (a4, v4), (a5, v5), (a6, v6), (a7, v7)] W ∧ W.cell? a0 = some v0 ∧ W.cell? a1 = some v1 ∧ W.cell? a2 = some v2 ∧ W.cell? a3 = some v3 ∧ W.cell? a4 = some v4 ∧ W.cell? a5 = some v5 ∧ W.cell? a6 = some v6 ∧ W.cell? a7 = some v7 := ⟨h, h.2 (a0, v0) (by simp), h.2 (a1, v1) (by simp), h.2 (a2, v2) (by simp), h.2 (a3, v3) (by simp), h.2 (a4, v4) (by simp), h.2 (a5, v5) (by simp), h.2 (a6, v6) (by simp), h.2 (a7, v7) (by simp)⟩
theorem Kept.c9 {w W : World} {a0 a1 a2 a3 a4 a5 a6 a7 a8 : Addr} {v0 v1 v2 v3 v4 v5 v6 v7 v8 : Value} (h : Kept w [(a0, v0), (a1, v1), (a2, v2), (a3, v3), (a4, v4), (a5, v5), (a6, v6), (a7, v7), (a8, v8)] W) : Kept w [(a0, v0), (a1, v1), (a2, v2), (a3, v3), (a4, v4), (a5, v5), (a6, v6), (a7, v7), (a8, v8)] W ∧ W.cell? a0 = some v0 ∧ W.cell? a1 = some v1 ∧ W.cell? a2 = some v2 ∧ W.cell? a3 = some v3 ∧ W.cell? a4 = some v4 ∧ W.cell? a5 = some v5 ∧ W.cell? a6 = some v6 ∧ W.cell? a7 = some v7 ∧ W.cell? a8 = some v8 := ⟨h, h.2 (a0, v0) (by simp), h.2 (a1, v1) (by simp), h.2 (a2, v2) (by simp), h.2 (a3, v3) (by simp), h.2 (a4, v4) (by simp), h.2 (a5, v5) (by simp), h.2 (a6, v6) (by simp), h.2 (a7, v7) (by simp), h.2 (a8, v8) (by simp)⟩
theorem Kept.c10 {w W : World} {a0 a1 a2 a3 a4 a5 a6 a7 a8 a9 : Addr} {v0 v1 v2 v3 v4 v5 v6 v7 v8 v9 : Value} (h : Kept w [(a0, v0), (a1, v1), (a2, v2), (a3, v3), (a4, v4), (a5, v5), (a6, v6), (a7, v7), (a8, v8), (a9, v9)] W) : Kept w [(a0, v0), (a1, v1), (a2, v2), (a3, v3), (a4, v4), (a5, v5), (a6, v6), (a7, v7), (a8, v8), (a9, v9)] W ∧ W.cell? a0 = some v0 ∧ W.cell? a1 = some v1 ∧ W.cell? a2 = some v2 ∧ W.cell? a3 = some v3 ∧ W.cell? a4 = some v4 ∧ W.cell? a5 = some v5 ∧ W.cell? a6 = some v6 ∧ W.cell? a7 = some v7 ∧ W.cell? a8 = some v8 ∧ W.cell? a9 = some v9 := ⟨h, h.2 (a0, v0) (by simp), h.2 (a1, v1) (by simp), h.2 (a2, v2) (by simp), h.2 (a3, v3) (by simp), h.2 (a4, v4) (by simp), h.2 (a5, v5) (by simp), h.2 (a6, v6) (by simp), h.2 (a7, v7) (by simp), h.2 (a8, v8) (by simp), h.2 (a9, v9) (by simp)⟩

def rowE : Enc (List Val) := isoE (pairE (sliceE valE) unitE) (fun r => (r, ()))
theorem rowE_rep {w : World} {cs : List Value} {r : List Val} {bs : List Nat} : rowE.rep w cs r bs ↔ ∃ a n cap, cs = [.slice a n cap] ∧ SliceRep valE w a n cap r bs := by
  constructor
  · rintro ⟨c1, c2, b1, b2, rfl, rfl, ⟨a, n, cap, rfl, h⟩, rfl, rfl⟩
    exact ⟨a, n, cap, rfl, by simpa using h⟩
  · rintro ⟨a, n, cap, rfl, h⟩
    exact ⟨[_], [], bs, [], rfl, by simp, ⟨a, n, cap, rfl, h⟩, rfl, rfl⟩
theorem opens_lRow : Opens Try.prog rowE 131 :=
  opens_iso (fun x => x.1) (fun _ => rfl) (opens_struct Try.underlying131 (by kernel_rfl) (opensF_cons rfl (by kernel_rfl) (opens_slice Try.underlying129 (by kernel_rfl) (by decide) opens_lValue) opensF_nil))

/-- Element i of a slice of values. -/
theorem SliceRep.val {w : World} {a : Option Addr} {n cap : Nat} {xs : List Val} {bs : List Nat} (h : SliceRep valE w a n cap xs bs) {i : Nat} (hi : i < xs.length) :
    ∃ g off, a = some ⟨g, off, none⟩ ∧ w.cell? ⟨g, off + i * 2, none⟩ = some (.int .i64 xs[i].n) ∧ w.cell? ⟨g, off + i * 2 + 1, none⟩ = some (.string xs[i].s) ∧ xs[i].s.size ≤ maxLen ∧ (Lit.int .i64 xs[i].n).wf = true := by
  obtain ⟨g, off, cs, b, ha, hr, hc, _, _⟩ := h.get hi
  obtain ⟨rfl, h1, h2, _⟩ := valE_rep.1 hr
  exact ⟨g, off, ha, hc 0 _ rfl, hc 1 _ rfl, h2, h1⟩

/-- The place of the first element that meets p, or -1. -/
def firstIdx {α : Type} (p : α → Bool) (xs : List α) : Int := match xs.findIdx? p with | some i => i | none => -1
theorem firstIdx_at {α : Type} {p : α → Bool} {xs : List α} {k : Nat} (hk : k < xs.length) (h0 : ∀ j (h : j < xs.length), j < k → p xs[j] = false) (h1 : p xs[k] = true) : firstIdx p xs = k := by
  have : xs.findIdx? p = some k := by
    rw [List.findIdx?_eq_some_iff_getElem]
    exact ⟨hk, h1, fun j hj => by simp [h0 j (by omega) hj]⟩
  simp [firstIdx, this]
theorem firstIdx_none {α : Type} {p : α → Bool} {xs : List α} (h0 : ∀ j (h : j < xs.length), p xs[j] = false) : firstIdx p xs = -1 := by
  have : xs.findIdx? p = none := by
    rw [List.findIdx?_eq_none_iff]
    intro x hx
    obtain ⟨i, hi, rfl⟩ := List.getElem_of_mem hx
    exact h0 i hi
  simp [firstIdx, this]
theorem firstIdx_any {α : Type} (p : α → Bool) (xs : List α) : decide (0 ≤ firstIdx p xs) = xs.any p := by
  unfold firstIdx
  cases h : xs.findIdx? p with
  | none =>
    rw [List.findIdx?_eq_none_iff] at h
    have : xs.any p = false := by rw [List.any_eq_false]; intro x hx; simp [h x hx]
    simp [this]
  | some i =>
    have : xs.any p = true := by
      rw [List.findIdx?_eq_some_iff_getElem] at h
      obtain ⟨hi, hp, _⟩ := h
      rw [List.any_eq_true]; exact ⟨_, List.getElem_mem hi, hp⟩
    simp [this]
/-- None of the first k elements meets p. -/
def NoneTo {α : Type} (p : α → Bool) (xs : List α) (k : Nat) : Prop := ∀ j (h : j < xs.length), j < k → p xs[j] = false
theorem NoneTo.zero {α : Type} {p : α → Bool} {xs : List α} : NoneTo p xs 0 := fun _ _ h => by omega
theorem NoneTo.succ {α : Type} {p : α → Bool} {xs : List α} {k : Nat} (h : NoneTo p xs k) (hk : k < xs.length) (hp : p xs[k] = false) : NoneTo p xs (k + 1) := fun j hj hjk => by
  rcases Nat.lt_or_ge j k with h1 | h1
  · exact h j hj h1
  · obtain rfl : j = k := by omega
    exact hp
theorem NoneTo.none {α : Type} {p : α → Bool} {xs : List α} (h : NoneTo p xs xs.length) : firstIdx p xs = -1 := firstIdx_none fun j hj => h j hj hj
theorem NoneTo.all {α : Type} {p : α → Bool} {xs : List α} (h : NoneTo p xs xs.length) : xs.any p = false := by
  rw [List.any_eq_false]
  intro x hx
  obtain ⟨i, hi, rfl⟩ := List.getElem_of_mem hx
  simp [h i hi hi]
theorem any_at {α : Type} {p : α → Bool} {xs : List α} {k : Nat} (hk : k < xs.length) (h1 : p xs[k] = true) : xs.any p = true :=
  List.any_eq_true.2 ⟨_, List.getElem_mem hk, h1⟩

def badVal (v : Val) : Bool := !valOk v
set_option maxHeartbeats 400000 in
theorem rowOkFn_any (v : Val) (w : World) (hs : v.s.size ≤ maxLen) :
    Calls Try.prog 144 #[.agg #[.int .i64 v.n, .string v.s]] w fun e w' => e = .returned (.bool (badVal v)) ∧ Below w.heap.size w w' := by
  have H0 := (Held.start w).box_ #[.int .i64 v.n, .string v.s] 94
  go_enter Try.func144, Try.ntmps144
  go_wp2_with fail
  refine (valueOkI_any _ _ _ hs).mono ?_
  rintro e w1 ⟨rfl, hb1⟩
  go_wp2_with fail
  go_ret
  exact ⟨rfl, (H0.up hb1).below⟩

set_option maxHeartbeats 800000 in
theorem idxVal_any (a : Option Addr) (n cap : Nat) (xs : List Val) (bs : List Nat) (w : World) (h : SliceRep valE w a n cap xs bs) :
    Calls Try.prog 165 #[.slice a n cap, .func (.func 144) #[] #[]] w fun e w' => e = .returned (.int .i64 (firstIdx badVal xs)) ∧ Below w.heap.size w w' := by
  have hmax := h.max
  obtain rfl := h.1
  go_enter Try.func165, Try.ntmps165
  go_wp2
  go_loopw [8] (fun i W => ∃ k : Nat, k ≤ xs.length ∧ i = .int .i64 k ∧ NoneTo badVal xs k ∧ Held w [] W) (fun i _ => xs.length - (intOf i).toNat)
  case atStart => exact ⟨0, Nat.zero_le _, rfl, .zero, Held.start w⟩
  case round =>
    obtain ⟨k, hk, rfl, hall, H⟩ := hrel
    by_cases hlt : k < xs.length
    · obtain ⟨g, off, rfl, c0, c1, hs, hn⟩ := (h.up H.below).val hlt
      cases hp : badVal xs[k]
      · have HA := hall.succ hlt hp
        clear hall
        go_wp2_with fail
        refine (rowOkFn_any _ _ hs).mono ?_
        rintro e w1 ⟨rfl, hb1⟩
        have H1 := H.up hb1
        clear H hb1 c0 c1
        go_wp2_with fail
        go_roundw
        case rel => exact ⟨k + 1, by omega, by go_num, HA, H1⟩
        case measure => simp [intOf]; omega
      · have HA := Lib.hid (firstIdx_at hlt hall hp)
        clear hall
        go_wp2_with fail
        refine (rowOkFn_any _ _ hs).mono ?_
        rintro e w1 ⟨rfl, hb1⟩
        have H1 := H.up hb1
        clear H hb1 c0 c1
        go_wp2_with fail
        go_ret
        exact ⟨ret_int HA.out.symm, H1.below⟩
    · obtain rfl : k = xs.length := by omega
      have HA := Lib.hid hall.none
      clear hall
      go_wp2_with fail
      go_ret
      exact ⟨ret_int HA.out.symm, H.below⟩
theorem hasVal_any (a : Option Addr) (n cap : Nat) (xs : List Val) (bs : List Nat) (w : World) (h : SliceRep valE w a n cap xs bs) :
    Calls Try.prog 143 #[.slice a n cap, .func (.func 144) #[] #[]] w fun e w' => e = .returned (.bool (xs.any badVal)) ∧ Below w.heap.size w w' := by
  have HR := Lib.hid (firstIdx_any badVal xs)
  go_enter Try.func143, Try.ntmps143
  go_wp2_with fail
  refine (idxVal_any _ _ _ xs _ _ h).mono ?_
  rintro e w1 ⟨rfl, hb1⟩
  go_wp2_with fail
  go_ret
  exact ⟨ret_bool HR.out, hb1⟩

def rowOk (r : List Val) : Bool := decide (r.length ≤ 6) && !r.any badVal
set_option maxHeartbeats 400000 in
theorem rowOkI_any (a : Option Addr) (n cap : Nat) (xs : List Val) (bs : List Nat) (w : World) (h : SliceRep valE w a n cap xs bs) :
    Calls Try.prog 106 #[.agg #[.slice a n cap]] w fun e w' => e = .returned (.bool (rowOk xs)) ∧ Below w.heap.size w w' := by
  have hmax := h.max
  obtain rfl := h.1
  have H0 := (Held.start w).box_ #[.slice a xs.length cap] 92
  by_cases hl : xs.length ≤ 6
  · have HR := Lib.hid (show rowOk xs = !xs.any badVal by simp [rowOk, hl])
    go_enter Try.func106, Try.ntmps106
    go_wp2_with fail
    refine (hasVal_any _ _ _ xs _ _ (h.up H0.below)).mono ?_
    rintro e w1 ⟨rfl, hb1⟩
    go_wp2_with fail
    go_ret
    exact ⟨ret_bool HR.out.symm, (H0.up hb1).below⟩
  · have HR := Lib.hid (show rowOk xs = false by simp [rowOk, hl])
    go_enter Try.func106, Try.ntmps106
    go_wp2_with fail
    go_ret
    exact ⟨ret_bool HR.out.symm, H0.below⟩

set_option maxHeartbeats 800000 in
theorem rowOkS_any (a : Option Addr) (n cap : Nat) (xs : List Val) (bs : List Nat) (w : World) (h : SliceRep valE w a n cap xs bs) :
    Calls Try.prog 103 #[.agg #[.slice a n cap]] w fun e w' => e = .returned (.bool (rowOk xs)) ∧ Below w.heap.size w w' := by
  have hmax := h.max
  obtain rfl := h.1
  have H0 := (Held.start w).box_ #[.slice a xs.length cap] 92
  by_cases hl : xs.length ≤ 6
  · go_enter Try.func103, Try.ntmps103
    go_wp2_with fail
    go_loopw [12] (fun i W => ∃ k : Nat, k ≤ xs.length ∧ i = .int .i64 k ∧ NoneTo badVal xs k ∧ Held w [] W) (fun i _ => xs.length - (intOf i).toNat)
    case atStart => exact ⟨0, Nat.zero_le _, rfl, .zero, H0.drop⟩
    case round =>
      obtain ⟨k, hk, rfl, hall, H⟩ := hrel
      by_cases hlt : k < xs.length
      · obtain ⟨g, off, rfl, c0, c1, hs, hn⟩ := (h.up H.below).val hlt
        cases hp : badVal xs[k]
        · have HA := hall.succ hlt hp
          have hv : valOk xs[k] = true := by simpa [badVal] using hp
          clear hall
          have H1 := H.alloc (.cells #[.int .i64 xs[k].n, .string xs[k].s] 94)
          go_wp2_with fail
          refine (valueOkS_any _ _ _ hs).mono ?_
          rintro e w1 ⟨rfl, hb1⟩
          have H2 := H1.up hb1
          clear H H1 hb1 c0 c1
          go_wp2_with fail
          go_roundw
          case rel => exact ⟨k + 1, by omega, by go_num, HA, H2⟩
          case measure => simp [intOf]; omega
        · have HR := Lib.hid (show rowOk xs = false by simp [rowOk, any_at hlt hp])
          have hv : valOk xs[k] = false := by simpa [badVal] using hp
          clear hall hp
          have H1 := H.alloc (.cells #[.int .i64 xs[k].n, .string xs[k].s] 94)
          go_wp2_with fail
          refine (valueOkS_any _ _ _ hs).mono ?_
          rintro e w1 ⟨rfl, hb1⟩
          have H2 := H1.up hb1
          clear H H1 hb1 c0 c1
          go_wp2_with fail
          go_ret
          exact ⟨ret_bool HR.out.symm, H2.below⟩
      · obtain rfl : k = xs.length := by omega
        have HR := Lib.hid (show rowOk xs = true by simp [rowOk, hall.all, hl])
        clear hall
        go_wp2_with fail
        go_ret
        exact ⟨ret_bool HR.out.symm, H.below⟩
  · have HR := Lib.hid (show rowOk xs = false by simp [rowOk, hl])
    go_enter Try.func103, Try.ntmps103
    go_wp2_with fail
    go_ret
    exact ⟨ret_bool HR.out.symm, H0.below⟩
end Go.Proofs.Ytibhoanjglfaoaa

/- Words for the laws' own functions. -/
namespace Go.Proofs.Ytibhoanjglfaoaa
open Go.RowKit

/-- A size law's answer: what is left, or below 0. -/
def RetSz (S : Prop) (left : Int) (w : World) (e : Ending) (w' : World) : Prop :=
  ∃ r : Int, e = .returned (.int .i64 r) ∧ -1 ≤ r ∧ r ≤ left ∧ (0 ≤ r → S) ∧ Below w.heap.size w w'
def AllTo {α : Type} (p : α → Prop) (xs : List α) (k : Nat) : Prop := ∀ j (h : j < xs.length), j < k → p xs[j]
theorem AllTo.zero {α : Type} {p : α → Prop} {xs : List α} : AllTo p xs 0 := fun _ _ h => absurd h (by omega)
theorem AllTo.succ {α : Type} {p : α → Prop} {xs : List α} {k : Nat} (h : AllTo p xs k) (hk : k < xs.length) (hp : p xs[k]) : AllTo p xs (k + 1) := fun j hj hjk => by
  rcases Nat.lt_or_ge j k with h1 | h1
  · exact h j hj h1
  · obtain rfl : j = k := by omega
    exact hp
theorem AllTo.done {α : Type} {p : α → Prop} {xs : List α} (h : AllTo p xs xs.length) : ∀ y ∈ xs, p y := fun y hy => by
  obtain ⟨i, hi, rfl⟩ := List.getElem_of_mem hy
  exact h i hi hi
theorem Kept.at_ {w W : World} (h : Below w.heap.size w W) : Kept w [] W := ⟨h, fun p hp => by cases hp⟩

theorem Value_rep {w : World} {cs : List Value} {x : Val} {bs : List Nat} : valE.rep w cs x bs ↔ cs = [.int .i64 x.n, .string x.s] ∧ (Lit.int .i64 x.n).wf = true ∧ x.s.size ≤ maxLen ∧ bs = [] := valE_rep
theorem Row_rep {w : World} {cs : List Value} {r : List Val} {bs : List Nat} : rowE.rep w cs r bs ↔ ∃ (a : Option Addr) (n cap : Nat) (b : List Nat), cs = [.slice a n cap] ∧ SliceRep valE w a n cap r b ∧ bs = b := by
  rw [rowE_rep]
  constructor
  · rintro ⟨a, n, cap, h, h2⟩; exact ⟨a, n, cap, bs, h, h2, rfl⟩
  · rintro ⟨a, n, cap, b, h, h2, rfl⟩; exact ⟨a, n, cap, h, h2⟩

/-- From block lo on the two worlds are the same. -/
def Same (lo : Nat) (W W' : World) : Prop := W'.heap.size = W.heap.size ∧ ∀ b, lo ≤ b → W'.heap[b]? = W.heap[b]?
theorem Same.refl (lo : Nat) (W : World) : Same lo W W := ⟨rfl, fun _ _ => rfl⟩
theorem Same.set {lo : Nat} {W W' : World} (h : Same lo W W') {g : Nat} (hg : g < lo) (o : Nat) (v : Value) : Same lo W (W'.setCell ⟨g, o, none⟩ v) :=
  ⟨by rw [← h.1]; simp [World.setCell], fun b hb => (Below.heap_setCell W' _ _ b (by simp; omega)).trans (h.2 b hb)⟩
theorem SliceRep.same {α : Type} {e : Enc α} {lo : Nat} {W W' : World} {a : Option Addr} {n cap : Nat} {xs : List α} {bs : List Nat} (hS : Same lo W W') (hlo : ∀ c ∈ bs, lo ≤ c) (h : SliceRep e W a n cap xs bs) : SliceRep e W' a n cap xs bs :=
  h.keep (fun b hb => hS.2 b (hlo b hb)) (Nat.le_of_eq hS.1.symm)
theorem Fresh.same {lo lo' : Nat} {W W' : World} {bs : List Nat} (hS : Same lo W W') (hlo : ∀ c ∈ bs, lo ≤ c) (h : Fresh lo' W bs) : Fresh lo' W' bs :=
  ⟨h.1, fun b hb => by
    obtain ⟨h1, c, t, h2⟩ := h.2 b hb
    exact ⟨h1, c, t, (hS.2 b (hlo b hb)).trans h2⟩⟩
theorem Fresh.ge {lo : Nat} {W : World} {bs : List Nat} (h : Fresh lo W bs) : ∀ c ∈ bs, lo ≤ c := fun c hc => (h.2 c hc).1
theorem Box.set {W : World} {g : Nat} {cs : Array Value} (h : Box W g cs) (o : Nat) (v : Value) (ho : o < cs.size) : Box (W.setCell ⟨g, o, none⟩ v) g (cs.setIfInBounds o v) := by
  have hc := h.cell o
  refine ⟨fun o' => ?_, fun o' => ?_, by simpa [World.setCell] using h.lt⟩
  · by_cases he : o' = o
    · subst he
      rw [Array.getElem?_setIfInBounds_self_of_lt ho]
      have h1 : W.cell? ⟨g, o', none⟩ = some cs[o'] := by rw [hc]; simp [ho]
      first | exact World.cell?_setCell_same _ _ _ h1 | exact World.cell?_setCell_same h1
    · rw [Array.getElem?_setIfInBounds_ne (by omega), ← h.cell o']
      exact World.cell?_setCell_other W _ _ v (fun e => he (by injection e with _ e; exact e.symm))
  · rw [← h.free o']
    exact World.frozen?_setCells g [v] o W _
theorem Box.setOther {W : World} {g g' : Nat} {cs : Array Value} (h : Box W g cs) (hne : g ≠ g') (o : Nat) (v : Value) : Box (W.setCell ⟨g', o, none⟩ v) g cs := by
  have hb := Below.heap_setCell W ⟨g', o, none⟩ v g hne
  exact ⟨fun o' => (World.cell?_of_block (w := W) (a := ⟨g, o', none⟩) hb).trans (h.cell o'), fun o' => (World.frozen?_of_block (w := W) (a := ⟨g, o', none⟩) hb).trans (h.free o'), by simpa [World.setCell] using h.lt⟩
/-- The three boxes of a 'to': the argument, the result, the variable 'out'. -/
structure Three (w : World) (A Z C : Array Value) (W : World) : Prop where
  below : Below w.heap.size w W
  a : Box W w.heap.size A
  z : Box W (w.heap.size + 1) Z
  c : Box W (w.heap.size + 1 + 1) C
theorem Three.start (w : World) (A Z C : Array Value) (t t' t'' : TypeId) : Three w A Z C (((w.alloc (.cells A t)).alloc (.cells Z t')).alloc (.cells C t'')) := by
  have e1 : (w.alloc (.cells A t)).heap.size = w.heap.size + 1 := by simp
  have e2 : ((w.alloc (.cells A t)).alloc (.cells Z t')).heap.size = w.heap.size + 1 + 1 := by simp
  refine ⟨(((Below.refl _ _).alloc (Nat.le_refl _) _).alloc (by simp) _).alloc (by simp; omega) _, ((Box.new w A t).alloc _).alloc _, ?_, ?_⟩
  · have := (Box.new (w.alloc (.cells A t)) Z t').alloc (.cells C t''); rwa [e1] at this
  · have := Box.new ((w.alloc (.cells A t)).alloc (.cells Z t')) C t''; rwa [e2] at this
theorem Three.up {w W W' : World} {A Z C : Array Value} (hb : Below W.heap.size W W') (h : Three w A Z C W) : Three w A Z C W' :=
  ⟨below_up h.below hb (Nat.le_refl _), h.a.up hb, h.z.up hb, h.c.up hb⟩
theorem Three.set {w W : World} {A Z C C' : Array Value} (h : Three w A Z C W) (o : Nat) (v : Value) (ho : o < C.size) (hC : C.setIfInBounds o v = C') : Three w A Z C' (W.setCell ⟨w.heap.size + 1 + 1, o, none⟩ v) :=
  ⟨h.below.setCell (p := ⟨w.heap.size + 1 + 1, o, none⟩) (by simp; omega) v, h.a.setOther (by omega) o v, h.z.setOther (by omega) o v, hC ▸ h.c.set o v ho⟩
theorem Three.lt {w W : World} {A Z C : Array Value} (h : Three w A Z C W) : w.heap.size + 1 + 1 + 1 ≤ W.heap.size := h.c.lt
theorem Kept.c11 {w W : World} {a0 a1 a2 a3 a4 a5 a6 a7 a8 a9 a10 : Addr} {v0 v1 v2 v3 v4 v5 v6 v7 v8 v9 v10 : Value} (h : Kept w [(a0, v0), (a1, v1), (a2, v2), (a3, v3), (a4, v4), (a5, v5), (a6, v6), (a7, v7), (a8, v8), (a9, v9), (a10, v10)] W) : Kept w [(a0, v0), (a1, v1), (a2, v2), (a3, v3), (a4, v4), (a5, v5), (a6, v6), (a7, v7), (a8, v8), (a9, v9), (a10, v10)] W ∧ W.cell? a0 = some v0 ∧ W.cell? a1 = some v1 ∧ W.cell? a2 = some v2 ∧ W.cell? a3 = some v3 ∧ W.cell? a4 = some v4 ∧ W.cell? a5 = some v5 ∧ W.cell? a6 = some v6 ∧ W.cell? a7 = some v7 ∧ W.cell? a8 = some v8 ∧ W.cell? a9 = some v9 ∧ W.cell? a10 = some v10 := ⟨h, h.2 (a0, v0) (by simp), h.2 (a1, v1) (by simp), h.2 (a2, v2) (by simp), h.2 (a3, v3) (by simp), h.2 (a4, v4) (by simp), h.2 (a5, v5) (by simp), h.2 (a6, v6) (by simp), h.2 (a7, v7) (by simp), h.2 (a8, v8) (by simp), h.2 (a9, v9) (by simp), h.2 (a10, v10) (by simp)⟩
theorem Kept.c12 {w W : World} {a0 a1 a2 a3 a4 a5 a6 a7 a8 a9 a10 a11 : Addr} {v0 v1 v2 v3 v4 v5 v6 v7 v8 v9 v10 v11 : Value} (h : Kept w [(a0, v0), (a1, v1), (a2, v2), (a3, v3), (a4, v4), (a5, v5), (a6, v6), (a7, v7), (a8, v8), (a9, v9), (a10, v10), (a11, v11)] W) : Kept w [(a0, v0), (a1, v1), (a2, v2), (a3, v3), (a4, v4), (a5, v5), (a6, v6), (a7, v7), (a8, v8), (a9, v9), (a10, v10), (a11, v11)] W ∧ W.cell? a0 = some v0 ∧ W.cell? a1 = some v1 ∧ W.cell? a2 = some v2 ∧ W.cell? a3 = some v3 ∧ W.cell? a4 = some v4 ∧ W.cell? a5 = some v5 ∧ W.cell? a6 = some v6 ∧ W.cell? a7 = some v7 ∧ W.cell? a8 = some v8 ∧ W.cell? a9 = some v9 ∧ W.cell? a10 = some v10 ∧ W.cell? a11 = some v11 := ⟨h, h.2 (a0, v0) (by simp), h.2 (a1, v1) (by simp), h.2 (a2, v2) (by simp), h.2 (a3, v3) (by simp), h.2 (a4, v4) (by simp), h.2 (a5, v5) (by simp), h.2 (a6, v6) (by simp), h.2 (a7, v7) (by simp), h.2 (a8, v8) (by simp), h.2 (a9, v9) (by simp), h.2 (a10, v10) (by simp), h.2 (a11, v11) (by simp)⟩
theorem Kept.c13 {w W : World} {a0 a1 a2 a3 a4 a5 a6 a7 a8 a9 a10 a11 a12 : Addr} {v0 v1 v2 v3 v4 v5 v6 v7 v8 v9 v10 v11 v12 : Value} (h : Kept w [(a0, v0), (a1, v1), (a2, v2), (a3, v3), (a4, v4), (a5, v5), (a6, v6), (a7, v7), (a8, v8), (a9, v9), (a10, v10), (a11, v11), (a12, v12)] W) : Kept w [(a0, v0), (a1, v1), (a2, v2), (a3, v3), (a4, v4), (a5, v5), (a6, v6), (a7, v7), (a8, v8), (a9, v9), (a10, v10), (a11, v11), (a12, v12)] W ∧ W.cell? a0 = some v0 ∧ W.cell? a1 = some v1 ∧ W.cell? a2 = some v2 ∧ W.cell? a3 = some v3 ∧ W.cell? a4 = some v4 ∧ W.cell? a5 = some v5 ∧ W.cell? a6 = some v6 ∧ W.cell? a7 = some v7 ∧ W.cell? a8 = some v8 ∧ W.cell? a9 = some v9 ∧ W.cell? a10 = some v10 ∧ W.cell? a11 = some v11 ∧ W.cell? a12 = some v12 := ⟨h, h.2 (a0, v0) (by simp), h.2 (a1, v1) (by simp), h.2 (a2, v2) (by simp), h.2 (a3, v3) (by simp), h.2 (a4, v4) (by simp), h.2 (a5, v5) (by simp), h.2 (a6, v6) (by simp), h.2 (a7, v7) (by simp), h.2 (a8, v8) (by simp), h.2 (a9, v9) (by simp), h.2 (a10, v10) (by simp), h.2 (a11, v11) (by simp), h.2 (a12, v12) (by simp)⟩
theorem Kept.c14 {w W : World} {a0 a1 a2 a3 a4 a5 a6 a7 a8 a9 a10 a11 a12 a13 : Addr} {v0 v1 v2 v3 v4 v5 v6 v7 v8 v9 v10 v11 v12 v13 : Value} (h : Kept w [(a0, v0), (a1, v1), (a2, v2), (a3, v3), (a4, v4), (a5, v5), (a6, v6), (a7, v7), (a8, v8), (a9, v9), (a10, v10), (a11, v11), (a12, v12), (a13, v13)] W) : Kept w [(a0, v0), (a1, v1), (a2, v2), (a3, v3), (a4, v4), (a5, v5), (a6, v6), (a7, v7), (a8, v8), (a9, v9), (a10, v10), (a11, v11), (a12, v12), (a13, v13)] W ∧ W.cell? a0 = some v0 ∧ W.cell? a1 = some v1 ∧ W.cell? a2 = some v2 ∧ W.cell? a3 = some v3 ∧ W.cell? a4 = some v4 ∧ W.cell? a5 = some v5 ∧ W.cell? a6 = some v6 ∧ W.cell? a7 = some v7 ∧ W.cell? a8 = some v8 ∧ W.cell? a9 = some v9 ∧ W.cell? a10 = some v10 ∧ W.cell? a11 = some v11 ∧ W.cell? a12 = some v12 ∧ W.cell? a13 = some v13 := ⟨h, h.2 (a0, v0) (by simp), h.2 (a1, v1) (by simp), h.2 (a2, v2) (by simp), h.2 (a3, v3) (by simp), h.2 (a4, v4) (by simp), h.2 (a5, v5) (by simp), h.2 (a6, v6) (by simp), h.2 (a7, v7) (by simp), h.2 (a8, v8) (by simp), h.2 (a9, v9) (by simp), h.2 (a10, v10) (by simp), h.2 (a11, v11) (by simp), h.2 (a12, v12) (by simp), h.2 (a13, v13) (by simp)⟩
theorem Kept.c15 {w W : World} {a0 a1 a2 a3 a4 a5 a6 a7 a8 a9 a10 a11 a12 a13 a14 : Addr} {v0 v1 v2 v3 v4 v5 v6 v7 v8 v9 v10 v11 v12 v13 v14 : Value} (h : Kept w [(a0, v0), (a1, v1), (a2, v2), (a3, v3), (a4, v4), (a5, v5), (a6, v6), (a7, v7), (a8, v8), (a9, v9), (a10, v10), (a11, v11), (a12, v12), (a13, v13), (a14, v14)] W) : Kept w [(a0, v0), (a1, v1), (a2, v2), (a3, v3), (a4, v4), (a5, v5), (a6, v6), (a7, v7), (a8, v8), (a9, v9), (a10, v10), (a11, v11), (a12, v12), (a13, v13), (a14, v14)] W ∧ W.cell? a0 = some v0 ∧ W.cell? a1 = some v1 ∧ W.cell? a2 = some v2 ∧ W.cell? a3 = some v3 ∧ W.cell? a4 = some v4 ∧ W.cell? a5 = some v5 ∧ W.cell? a6 = some v6 ∧ W.cell? a7 = some v7 ∧ W.cell? a8 = some v8 ∧ W.cell? a9 = some v9 ∧ W.cell? a10 = some v10 ∧ W.cell? a11 = some v11 ∧ W.cell? a12 = some v12 ∧ W.cell? a13 = some v13 ∧ W.cell? a14 = some v14 := ⟨h, h.2 (a0, v0) (by simp), h.2 (a1, v1) (by simp), h.2 (a2, v2) (by simp), h.2 (a3, v3) (by simp), h.2 (a4, v4) (by simp), h.2 (a5, v5) (by simp), h.2 (a6, v6) (by simp), h.2 (a7, v7) (by simp), h.2 (a8, v8) (by simp), h.2 (a9, v9) (by simp), h.2 (a10, v10) (by simp), h.2 (a11, v11) (by simp), h.2 (a12, v12) (by simp), h.2 (a13, v13) (by simp), h.2 (a14, v14) (by simp)⟩
theorem Kept.c16 {w W : World} {a0 a1 a2 a3 a4 a5 a6 a7 a8 a9 a10 a11 a12 a13 a14 a15 : Addr} {v0 v1 v2 v3 v4 v5 v6 v7 v8 v9 v10 v11 v12 v13 v14 v15 : Value} (h : Kept w [(a0, v0), (a1, v1), (a2, v2), (a3, v3), (a4, v4), (a5, v5), (a6, v6), (a7, v7), (a8, v8), (a9, v9), (a10, v10), (a11, v11), (a12, v12), (a13, v13), (a14, v14), (a15, v15)] W) : Kept w [(a0, v0), (a1, v1), (a2, v2), (a3, v3), (a4, v4), (a5, v5), (a6, v6), (a7, v7), (a8, v8), (a9, v9), (a10, v10), (a11, v11), (a12, v12), (a13, v13), (a14, v14), (a15, v15)] W ∧ W.cell? a0 = some v0 ∧ W.cell? a1 = some v1 ∧ W.cell? a2 = some v2 ∧ W.cell? a3 = some v3 ∧ W.cell? a4 = some v4 ∧ W.cell? a5 = some v5 ∧ W.cell? a6 = some v6 ∧ W.cell? a7 = some v7 ∧ W.cell? a8 = some v8 ∧ W.cell? a9 = some v9 ∧ W.cell? a10 = some v10 ∧ W.cell? a11 = some v11 ∧ W.cell? a12 = some v12 ∧ W.cell? a13 = some v13 ∧ W.cell? a14 = some v14 ∧ W.cell? a15 = some v15 := ⟨h, h.2 (a0, v0) (by simp), h.2 (a1, v1) (by simp), h.2 (a2, v2) (by simp), h.2 (a3, v3) (by simp), h.2 (a4, v4) (by simp), h.2 (a5, v5) (by simp), h.2 (a6, v6) (by simp), h.2 (a7, v7) (by simp), h.2 (a8, v8) (by simp), h.2 (a9, v9) (by simp), h.2 (a10, v10) (by simp), h.2 (a11, v11) (by simp), h.2 (a12, v12) (by simp), h.2 (a13, v13) (by simp), h.2 (a14, v14) (by simp), h.2 (a15, v15) (by simp)⟩
theorem Kept.c17 {w W : World} {a0 a1 a2 a3 a4 a5 a6 a7 a8 a9 a10 a11 a12 a13 a14 a15 a16 : Addr} {v0 v1 v2 v3 v4 v5 v6 v7 v8 v9 v10 v11 v12 v13 v14 v15 v16 : Value} (h : Kept w [(a0, v0), (a1, v1), (a2, v2), (a3, v3), (a4, v4), (a5, v5), (a6, v6), (a7, v7), (a8, v8), (a9, v9), (a10, v10), (a11, v11), (a12, v12), (a13, v13), (a14, v14), (a15, v15), (a16, v16)] W) : Kept w [(a0, v0), (a1, v1), (a2, v2), (a3, v3), (a4, v4), (a5, v5), (a6, v6), (a7, v7), (a8, v8), (a9, v9), (a10, v10), (a11, v11), (a12, v12), (a13, v13), (a14, v14), (a15, v15), (a16, v16)] W ∧ W.cell? a0 = some v0 ∧ W.cell? a1 = some v1 ∧ W.cell? a2 = some v2 ∧ W.cell? a3 = some v3 ∧ W.cell? a4 = some v4 ∧ W.cell? a5 = some v5 ∧ W.cell? a6 = some v6 ∧ W.cell? a7 = some v7 ∧ W.cell? a8 = some v8 ∧ W.cell? a9 = some v9 ∧ W.cell? a10 = some v10 ∧ W.cell? a11 = some v11 ∧ W.cell? a12 = some v12 ∧ W.cell? a13 = some v13 ∧ W.cell? a14 = some v14 ∧ W.cell? a15 = some v15 ∧ W.cell? a16 = some v16 := ⟨h, h.2 (a0, v0) (by simp), h.2 (a1, v1) (by simp), h.2 (a2, v2) (by simp), h.2 (a3, v3) (by simp), h.2 (a4, v4) (by simp), h.2 (a5, v5) (by simp), h.2 (a6, v6) (by simp), h.2 (a7, v7) (by simp), h.2 (a8, v8) (by simp), h.2 (a9, v9) (by simp), h.2 (a10, v10) (by simp), h.2 (a11, v11) (by simp), h.2 (a12, v12) (by simp), h.2 (a13, v13) (by simp), h.2 (a14, v14) (by simp), h.2 (a15, v15) (by simp), h.2 (a16, v16) (by simp)⟩
theorem Kept.c18 {w W : World} {a0 a1 a2 a3 a4 a5 a6 a7 a8 a9 a10 a11 a12 a13 a14 a15 a16 a17 : Addr} {v0 v1 v2 v3 v4 v5 v6 v7 v8 v9 v10 v11 v12 v13 v14 v15 v16 v17 : Value} (h : Kept w [(a0, v0), (a1, v1), (a2, v2), (a3, v3), (a4, v4), (a5, v5), (a6, v6), (a7, v7), (a8, v8), (a9, v9), (a10, v10), (a11, v11), (a12, v12), (a13, v13), (a14, v14), (a15, v15), (a16, v16), (a17, v17)] W) : Kept w [(a0, v0), (a1, v1), (a2, v2), (a3, v3), (a4, v4), (a5, v5), (a6, v6), (a7, v7), (a8, v8), (a9, v9), (a10, v10), (a11, v11), (a12, v12), (a13, v13), (a14, v14), (a15, v15), (a16, v16), (a17, v17)] W ∧ W.cell? a0 = some v0 ∧ W.cell? a1 = some v1 ∧ W.cell? a2 = some v2 ∧ W.cell? a3 = some v3 ∧ W.cell? a4 = some v4 ∧ W.cell? a5 = some v5 ∧ W.cell? a6 = some v6 ∧ W.cell? a7 = some v7 ∧ W.cell? a8 = some v8 ∧ W.cell? a9 = some v9 ∧ W.cell? a10 = some v10 ∧ W.cell? a11 = some v11 ∧ W.cell? a12 = some v12 ∧ W.cell? a13 = some v13 ∧ W.cell? a14 = some v14 ∧ W.cell? a15 = some v15 ∧ W.cell? a16 = some v16 ∧ W.cell? a17 = some v17 := ⟨h, h.2 (a0, v0) (by simp), h.2 (a1, v1) (by simp), h.2 (a2, v2) (by simp), h.2 (a3, v3) (by simp), h.2 (a4, v4) (by simp), h.2 (a5, v5) (by simp), h.2 (a6, v6) (by simp), h.2 (a7, v7) (by simp), h.2 (a8, v8) (by simp), h.2 (a9, v9) (by simp), h.2 (a10, v10) (by simp), h.2 (a11, v11) (by simp), h.2 (a12, v12) (by simp), h.2 (a13, v13) (by simp), h.2 (a14, v14) (by simp), h.2 (a15, v15) (by simp), h.2 (a16, v16) (by simp), h.2 (a17, v17) (by simp)⟩
theorem Kept.c19 {w W : World} {a0 a1 a2 a3 a4 a5 a6 a7 a8 a9 a10 a11 a12 a13 a14 a15 a16 a17 a18 : Addr} {v0 v1 v2 v3 v4 v5 v6 v7 v8 v9 v10 v11 v12 v13 v14 v15 v16 v17 v18 : Value} (h : Kept w [(a0, v0), (a1, v1), (a2, v2), (a3, v3), (a4, v4), (a5, v5), (a6, v6), (a7, v7), (a8, v8), (a9, v9), (a10, v10), (a11, v11), (a12, v12), (a13, v13), (a14, v14), (a15, v15), (a16, v16), (a17, v17), (a18, v18)] W) : Kept w [(a0, v0), (a1, v1), (a2, v2), (a3, v3), (a4, v4), (a5, v5), (a6, v6), (a7, v7), (a8, v8), (a9, v9), (a10, v10), (a11, v11), (a12, v12), (a13, v13), (a14, v14), (a15, v15), (a16, v16), (a17, v17), (a18, v18)] W ∧ W.cell? a0 = some v0 ∧ W.cell? a1 = some v1 ∧ W.cell? a2 = some v2 ∧ W.cell? a3 = some v3 ∧ W.cell? a4 = some v4 ∧ W.cell? a5 = some v5 ∧ W.cell? a6 = some v6 ∧ W.cell? a7 = some v7 ∧ W.cell? a8 = some v8 ∧ W.cell? a9 = some v9 ∧ W.cell? a10 = some v10 ∧ W.cell? a11 = some v11 ∧ W.cell? a12 = some v12 ∧ W.cell? a13 = some v13 ∧ W.cell? a14 = some v14 ∧ W.cell? a15 = some v15 ∧ W.cell? a16 = some v16 ∧ W.cell? a17 = some v17 ∧ W.cell? a18 = some v18 := ⟨h, h.2 (a0, v0) (by simp), h.2 (a1, v1) (by simp), h.2 (a2, v2) (by simp), h.2 (a3, v3) (by simp), h.2 (a4, v4) (by simp), h.2 (a5, v5) (by simp), h.2 (a6, v6) (by simp), h.2 (a7, v7) (by simp), h.2 (a8, v8) (by simp), h.2 (a9, v9) (by simp), h.2 (a10, v10) (by simp), h.2 (a11, v11) (by simp), h.2 (a12, v12) (by simp), h.2 (a13, v13) (by simp), h.2 (a14, v14) (by simp), h.2 (a15, v15) (by simp), h.2 (a16, v16) (by simp), h.2 (a17, v17) (by simp), h.2 (a18, v18) (by simp)⟩
theorem Kept.c20 {w W : World} {a0 a1 a2 a3 a4 a5 a6 a7 a8 a9 a10 a11 a12 a13 a14 a15 a16 a17 a18 a19 : Addr} {v0 v1 v2 v3 v4 v5 v6 v7 v8 v9 v10 v11 v12 v13 v14 v15 v16 v17 v18 v19 : Value} (h : Kept w [(a0, v0), (a1, v1), (a2, v2), (a3, v3), (a4, v4), (a5, v5), (a6, v6), (a7, v7), (a8, v8), (a9, v9), (a10, v10), (a11, v11), (a12, v12), (a13, v13), (a14, v14), (a15, v15), (a16, v16), (a17, v17), (a18, v18), (a19, v19)] W) : Kept w [(a0, v0), (a1, v1), (a2, v2), (a3, v3), (a4, v4), (a5, v5), (a6, v6), (a7, v7), (a8, v8), (a9, v9), (a10, v10), (a11, v11), (a12, v12), (a13, v13), (a14, v14), (a15, v15), (a16, v16), (a17, v17), (a18, v18), (a19, v19)] W ∧ W.cell? a0 = some v0 ∧ W.cell? a1 = some v1 ∧ W.cell? a2 = some v2 ∧ W.cell? a3 = some v3 ∧ W.cell? a4 = some v4 ∧ W.cell? a5 = some v5 ∧ W.cell? a6 = some v6 ∧ W.cell? a7 = some v7 ∧ W.cell? a8 = some v8 ∧ W.cell? a9 = some v9 ∧ W.cell? a10 = some v10 ∧ W.cell? a11 = some v11 ∧ W.cell? a12 = some v12 ∧ W.cell? a13 = some v13 ∧ W.cell? a14 = some v14 ∧ W.cell? a15 = some v15 ∧ W.cell? a16 = some v16 ∧ W.cell? a17 = some v17 ∧ W.cell? a18 = some v18 ∧ W.cell? a19 = some v19 := ⟨h, h.2 (a0, v0) (by simp), h.2 (a1, v1) (by simp), h.2 (a2, v2) (by simp), h.2 (a3, v3) (by simp), h.2 (a4, v4) (by simp), h.2 (a5, v5) (by simp), h.2 (a6, v6) (by simp), h.2 (a7, v7) (by simp), h.2 (a8, v8) (by simp), h.2 (a9, v9) (by simp), h.2 (a10, v10) (by simp), h.2 (a11, v11) (by simp), h.2 (a12, v12) (by simp), h.2 (a13, v13) (by simp), h.2 (a14, v14) (by simp), h.2 (a15, v15) (by simp), h.2 (a16, v16) (by simp), h.2 (a17, v17) (by simp), h.2 (a18, v18) (by simp), h.2 (a19, v19) (by simp)⟩
end Go.Proofs.Ytibhoanjglfaoaa

/- The abstract walk: values and rows; contracts between the two ways of saying. -/
namespace Go.Proofs.Ytibhoanjglfaoaa
open Go.RowKit
set_option linter.unusedVariables false

def valC (v : Val) : List Cell := [.c (.int .i64 v.n), .c (.string v.s)]
instance : CellsOf valE valC := ⟨fun {w vs x b} => by
  rw [valE_rep]
  constructor
  · rintro ⟨rfl, h1, h2, rfl⟩; exact ⟨[], [], rfl, ⟨rfl, h1, rfl⟩, [], [], rfl, ⟨rfl, h2, rfl⟩, rfl⟩
  · intro h
    match vs, h with
    | [u, v], ⟨b1, b2, hb, ⟨h1, h2, h3⟩, b3, b4, hb', ⟨h4, h5, h6⟩, h7⟩ =>
      simp only [FR] at h7
      subst h3; subst h6; subst h7; subst h1; subst h4; subst hb'
      exact ⟨rfl, h2, h5, by simpa using hb⟩⟩
def rowC (r : List Val) : List Cell := [.sl valE r]
instance : CellsOf rowE rowC := ⟨fun {w vs x b} => by
  rw [rowE_rep]
  constructor
  · rintro ⟨a, n, cap, rfl, h⟩; exact ⟨b, [], by simp, ⟨a, n, cap, rfl, h⟩, rfl⟩
  · intro h
    match vs, h with
    | [v], ⟨b1, b2, hb, ⟨a, n, cap, h1, h2⟩, h4⟩ => simp only [FR] at h4; subst h4; subst h1; simp at hb; subst hb; exact ⟨a, n, cap, rfl, h2⟩⟩

/-! Two values, compared. -/
def sameVal (x y : Val) : Bool := x.n == y.n && x.s == y.s
theorem sameVal_iff {x y : Val} : sameVal x y = true ↔ x = y := by
  obtain ⟨n, ⟨⟨s⟩⟩⟩ := x
  obtain ⟨m, ⟨⟨r⟩⟩⟩ := y
  simp [sameVal, beq_toListBytes, ByteArray.toList_eq]
instance : DecidableEq Val := fun x y => decidable_of_iff _ sameVal_iff
theorem sameVal_refl (x : Val) : sameVal x x = true := sameVal_iff.2 rfl
theorem sameVal_ne {x y : Val} (h : sameVal x y = false) : x ≠ y := fun e => by rw [sameVal_iff.2 e] at h; cases h
theorem equalIn_val (x y : Val) (w : World) : (Op.equalIn 10000 94 (.agg #[.int .i64 x.n, .string x.s]) (.agg #[.int .i64 y.n, .string y.s])).run Try.prog w = .ok (sameVal x y) w := by
  have hS : Try.prog.underlying 94 = some (.struct (Try.prog.fieldsOf 94)) := by kernel_rfl
  have hp : Try.prog.stoodInHeld 94 = false := by kernel_rfl
  rw [show (10000 : Nat) = 9999 + 1 from rfl, run_equalIn_agg w 9999 94 _ _ hS hp]
  simp only [Program.fieldsOf, Try.underlying94]
  go_simp
  unfold sameVal
  rw [beq_toListBytes]
  by_cases h1 : x.n = y.n <;> by_cases h2 : x.s.toList = y.s.toList <;> simp [h1, h2]
theorem guard_val (op : BinOp) (x y : Operand) (a b : Val) (w : World) : (eqGuard op 94 x y (.agg #[.int .i64 a.n, .string a.s]) (.agg #[.int .i64 b.n, .string b.s])).run Try.prog w = .ok () w := by
  have hg : Try.prog.eqGuardType Try.prog.depth 94 = false := by kernel_rfl
  unfold eqGuard
  cases op <;> simp [hg]
theorem x_val2 {P : Program} {N : Nat} {s : St} {d : Nat} {ty : TypeId} {pos : String} {after : Array Edge} {gd : Option (Nat × Bool)} {op : BinOp} {T T' : TypeId} {x y : Operand} {a b : Val} {v : Bool} (hN : Nat.blt d N = true) (h : evo s.t x = some (.agg (valC a))) (h2 : evo s.t y = some (.agg (valC b)))
    (hr : ∀ w, ((do eqGuard op T x y (.agg #[.int .i64 a.n, .string a.s]) (.agg #[.int .i64 b.n, .string b.s]); binOp op T (.agg #[.int .i64 a.n, .string a.s]) (.agg #[.int .i64 b.n, .string b.s])) : Sem Value).run P w = .ok (.bool v) w) :
    Stp P N ⟨some d, .binOp op T x y T', ty, pos, after, gd⟩ s ⟨(d, .one (.c (.bool v))) :: s.t, s.l⟩ ⟨rdo x (.agg (valC a)) ++ rdo y (.agg (valC b)), [], [(d, .one (.c (.bool v)))], [], []⟩ :=
  Stp.pure rfl hN (two_rd h h2) (by simp) fun g s' ac w ht hl' r => by
    have one : ∀ {o : Operand} {c : Val}, Evs o (.agg (valC c)) → (∀ p ∈ rdo o (.agg (valC c)), lk s'.t p.1 = some p.2) → ac.eval o = .agg #[.int .i64 c.n, .string c.s] := fun {o c} he hp => by
      obtain ⟨vs, e1, e2⟩ : VR g s'.l w (ac.eval o) (.agg (valC c)) := eval_ok r he hp
      match vs, e2 with
      | [u, v], ⟨⟨f1, _⟩, ⟨f2, _⟩, _⟩ => subst f1; subst f2; exact e1
    have e1 := one (evs_of h) fun p hp => ht p (List.mem_append_left _ hp)
    have e2 := one (evs_of h2) fun p hp => ht p (List.mem_append_right _ hp)
    refine ⟨.bool v, run_binOp rfl ?_, rfl, trivial⟩
    rw [e1, e2]; exact hr w
section
variable {N : Nat} {s : St} {d : Nat} {ty : TypeId} {pos : String} {after : Array Edge} {gd : Option (Nat × Bool)} {T' : TypeId} {x y : Operand} {a b : Val}
theorem x_veql (hN : Nat.blt d N = true) (h : evo s.t x = some (.agg (valC a))) (h2 : evo s.t y = some (.agg (valC b))) :
    Stp Try.prog N ⟨some d, .binOp .eql 94 x y T', ty, pos, after, gd⟩ s ⟨(d, .one (.c (.bool (sameVal a b)))) :: s.t, s.l⟩ ⟨rdo x (.agg (valC a)) ++ rdo y (.agg (valC b)), [], [(d, .one (.c (.bool (sameVal a b))))], [], []⟩ :=
  x_val2 hN h h2 fun w => by simp only [Sem.run_bind, guard_val, Result.andThen_ok, binOp, Op.equal, Op.maxDepth, equalIn_val, Sem.run_pure]
theorem x_vneq (hN : Nat.blt d N = true) (h : evo s.t x = some (.agg (valC a))) (h2 : evo s.t y = some (.agg (valC b))) :
    Stp Try.prog N ⟨some d, .binOp .neq 94 x y T', ty, pos, after, gd⟩ s ⟨(d, .one (.c (.bool (!sameVal a b)))) :: s.t, s.l⟩ ⟨rdo x (.agg (valC a)) ++ rdo y (.agg (valC b)), [], [(d, .one (.c (.bool (!sameVal a b))))], [], []⟩ :=
  x_val2 hN h h2 fun w => by simp only [Sem.run_bind, guard_val, Result.andThen_ok, binOp, Op.equal, Op.maxDepth, equalIn_val, Sem.run_pure]
end
/-! Rows, compared. -/
def SameTo (xs ys : List Val) (k : Nat) : Prop := ∀ j (h : j < xs.length) (h' : j < ys.length), j < k → xs[j] = ys[j]
theorem SameTo.zero {xs ys : List Val} : SameTo xs ys 0 := fun _ _ _ h => absurd h (by omega)
theorem SameTo.succ {xs ys : List Val} {k : Nat} (h : SameTo xs ys k) (hk : k < xs.length) (hk' : k < ys.length) (hs : sameVal xs[k] ys[k] = true) : SameTo xs ys (k + 1) := fun j hj hj' hjk => by
  rcases Nat.lt_or_ge j k with h1 | h1
  · exact h j hj hj' h1
  · obtain rfl : j = k := by omega
    exact sameVal_iff.1 hs
theorem SameTo.eq {xs ys : List Val} {k : Nat} (hl : xs.length = ys.length) (hk : xs.length ≤ k) (h : SameTo xs ys k) : xs = ys :=
  List.ext_getElem hl fun j h1 h2 => h j h1 h2 (by omega)
def sameRow (xs ys : List Val) : Bool := decide (xs = ys)
theorem sameRow_len {xs ys : List Val} (h : ¬ xs.length = ys.length) : sameRow xs ys = false := decide_eq_false fun e => h (by rw [e])
theorem sameRow_at {xs ys : List Val} {k : Nat} (hk : k < xs.length) (hk' : k < ys.length) (hs : sameVal xs[k] ys[k] = false) : sameRow xs ys = false := decide_eq_false fun e => by subst e; exact sameVal_ne hs rfl
theorem sameRow_eq {xs ys : List Val} (h : xs = ys) : sameRow xs ys = true := decide_eq_true h
end Go.Proofs.Ytibhoanjglfaoaa

/- Contracts of ValueText and TextValue, and of the laws' own functions over values. -/
namespace Go.Proofs.Ytibhoanjglfaoaa
open Go.RowKit
set_option linter.unusedVariables false

/-! ### Texts -/
def valText (v : Val) : ByteArray := if valOk v then (if v.s.toList.isEmpty then numText v.n else v.s) else ByteArray.empty

def textVal (s : ByteArray) : Val × Bool := if textOk s then (⟨textN s, ByteArray.empty⟩, true) else if wordB s then (⟨0, s⟩, true) else (⟨0, ByteArray.empty⟩, false)
theorem word_not_num {s : ByteArray} (h : wordB s = true) : textOk s = false ∧ textN s = 0 := by
  have hn : textNum s = none := by
    simp only [wordB, Bool.and_eq_true, shortB, decide_eq_true_eq] at h
    have h0 : 0 < s.size := by omega
    refine textNum_bad h0 ?_
    have h2 := h.2
    rw [headB_eq h0] at h2
    simp only [letB, digB, decide_eq_true_eq, decide_eq_false_iff_not] at *; omega
  simp [textOk, textN, hn]
theorem textN_no {s : ByteArray} (h : textOk s = false) : textN s = 0 := by
  unfold textOk at h; unfold textN
  cases hn : textNum s with
  | none => rfl
  | some n => rw [hn] at h; cases h
def retVal (x : Val × Bool) : Ending := .returned (.tuple #[.agg #[.int .i64 x.1.n, .string x.1.s], .bool x.2])

/-! ### The laws' own functions over values -/
def szVal (v : Val) (left : Int) : Int := if left - v.s.size < 0 then -1 else left - v.s.size
theorem szVal_le {v : Val} {left : Int} (h : left ≤ 1048576) : szVal v left ≤ 1048576 ∧ -1 ≤ szVal v left := by unfold szVal; split <;> omega
set_option maxHeartbeats 400000 in
theorem szValue_any (v : Val) (left : Int) (w : World) (hs : v.s.size ≤ maxLen) (h0 : 0 ≤ left) (h1 : left ≤ 1048576) :
    Calls Try.prog 162 #[.agg #[.int .i64 v.n, .string v.s], .int .i64 left] w fun e w' => e = .returned (.int .i64 (szVal v left)) ∧ Below w.heap.size w w' := by
  unfold maxLen at hs
  go_enter Try.func162, Try.ntmps162
  go_wp2
  all_goals
    go_ret
    exact ⟨ret_int (by unfold szVal; split <;> omega), (Below.refl _ _).alloc (Nat.le_refl _) _⟩
set_option maxHeartbeats 400000 in
theorem toValue_any (v : Val) (w : World) :
    Calls Try.prog 164 #[.agg #[.int .i64 v.n, .string v.s]] w fun e w' => e = .returned (.agg #[.int .i64 v.n, .string v.s]) ∧ Below w.heap.size w w' := by
  go_enter Try.func164, Try.ntmps164
  go_wp2
  refine bodyPost_ret (v := .agg #[.int .i64 v.n, .string v.s]) (by simp [results, Try.results164, go_sem]; try rfl) rfl ⟨rfl, ?_⟩
  exact (((Below.refl _ _).alloc (Nat.le_refl _) _).alloc (by simp) _).alloc (by simp; omega) _
def eqVal (a b : Val) : Bool := a.n == b.n && a.s.toList == b.s.toList
set_option maxHeartbeats 400000 in
theorem eqValue_any (a b : Val) (w : World) :
    Calls Try.prog 161 #[.agg #[.int .i64 a.n, .string a.s], .agg #[.int .i64 b.n, .string b.s]] w fun e w' => e = .returned (.bool (eqVal a b)) ∧ Below w.heap.size w w' := by
  cases h1 : (a.n == b.n) <;> cases h2 : (a.s.toList == b.s.toList)
  all_goals
    have HR := Lib.hid (show eqVal a b = _ by unfold eqVal; rw [h1, h2])
    have h1' : (a.n != b.n) = !(a.n == b.n) := rfl
    go_enter Try.func161, Try.ntmps161
    go_wp2
    go_ret
    refine ⟨ret_bool ?_, ((Below.refl _ _).alloc (Nat.le_refl _) _).alloc (by simp) _⟩
    rw [HR.out]
    rfl
end Go.Proofs.Ytibhoanjglfaoaa

/- The laws' own functions: GenA (printed by gen.py) -/
namespace Go.Proofs.Ytibhoanjglfaoaa
open Go.RowKit
set_option linter.unusedVariables false
set_option maxRecDepth 100000

def smallValue (x : Val) : Prop := x.s.size ≤ 1048576

set_option maxHeartbeats 800000 in
theorem szValueA_any (cs : List Value) (x : Val) (bs : List Nat) (left : Int) (w : World) (h : valE.rep w cs x bs) (l0 : 0 ≤ left) (l1 : left ≤ 1048576) :
    Calls Try.prog 162 #[.agg cs.toArray, .int .i64 left] w (RetSz (smallValue x) left w) := by
  obtain ⟨rfl, f0, f1, hbs⟩ := Value_rep.1 h
  obtain rfl := hbs.symm
  unfold maxLen at *
  have H := ((Held.start w).box_ #[.int .i64 x.n, .string x.s] 176).s1
  go_enter Try.func162, Try.ntmps162
  by_cases n0 : left - (x.s.size : Int) < 0
  · go_wp2_with fail
    go_ret
    exact ⟨-1, rfl, by omega, by omega, fun h => absurd h (by omega), H.1.below⟩
  · have m0 : 0 ≤ left - (x.s.size : Int) := by omega
    go_wp2_with fail
    go_ret
    exact ⟨(left - (x.s.size : Int)), rfl, by omega, by omega, fun _ => by unfold smallValue; exact (show x.s.size ≤ 1048576 by omega), H.1.below⟩

set_option maxHeartbeats 800000 in
theorem eqValueA_any (cs ds : List Value) (x : Val) (bs bs' : List Nat) (w : World) (h : valE.rep w cs x bs) (h' : valE.rep w ds x bs') :
    Calls Try.prog 161 #[.agg cs.toArray, .agg ds.toArray] w fun e w' => e = .returned (.bool true) ∧ Below w.heap.size w w' := by
  obtain ⟨rfl, f0, f1, hbs⟩ := Value_rep.1 h
  obtain rfl := hbs.symm
  obtain ⟨rfl, g0, g1, hbs⟩ := Value_rep.1 h'
  obtain rfl := hbs.symm
  have H := ((Held.start w).box_ #[.int .i64 x.n, .string x.s] 94).box_ #[.int .i64 x.n, .string x.s] 94
  rw [show (w.alloc (.cells #[.int .i64 x.n, .string x.s] 94)).heap.size = w.heap.size + 1 by simp] at H
  replace H := H.s2
  go_enter Try.func161, Try.ntmps161
  go_wp2_with fail
  go_ret
  exact ⟨rfl, H.1.below⟩

set_option maxHeartbeats 800000 in
theorem szValueS_any (a : Option Addr) (n cap : Nat) (xs : List (Val)) (bs : List Nat) (left : Int) (w : World) (h : SliceRep valE w a n cap xs bs) (l0 : 0 ≤ left) (l1 : left ≤ 1048576) :
    Calls Try.prog 139 #[.slice a n cap, .int .i64 left] w (RetSz (xs.length ≤ 1048576 ∧ ∀ y ∈ xs, smallValue y) left w) := by
  have hmax := h.max
  obtain rfl := h.1
  by_cases n0 : left - (xs.length : Int) < 0
  · go_enter Try.func139, Try.ntmps139
    go_wp2_with fail
    go_ret
    exact ⟨-1, rfl, by omega, by omega, fun h => absurd h (by omega), Below.refl _ _⟩
  · have m0 : 0 ≤ left - (xs.length : Int) := by omega
    go_enter Try.func139, Try.ntmps139
    go_wp2_with fail
    go_loopw [1, 5] (fun l i W => ∃ (k : Nat) (r : Int), k ≤ xs.length ∧ i = .int .i64 k ∧ l = .int .i64 r ∧ 0 ≤ r ∧ r ≤ left ∧ AllTo smallValue xs k ∧ Below w.heap.size w W) (fun _ i _ => xs.length - (intOf i).toNat)
    case atStart => exact ⟨0, _, Nat.zero_le _, rfl, rfl, m0, by omega, .zero, Below.refl _ _⟩
    case round =>
      obtain ⟨k, r, hk, rfl, rfl, r0, r1, hall, hB⟩ := hrel
      by_cases hlt : k < xs.length
      · obtain ⟨g, off, cs, bk, rfl, hr, hc, hbk, _⟩ := (h.up hB).get hlt
        obtain ⟨rfl, f0, f1, hbs⟩ := Value_rep.1 hr
        obtain rfl := hbs.symm
        have c0 : wr.cell? ⟨g, off + k * 2, none⟩ = some (.int .i64 xs[k].n) := hc 0 _ rfl
        have c1 : wr.cell? ⟨g, off + k * 2 + 1, none⟩ = some (.string xs[k].s) := hc 1 _ rfl
        clear hc
        go_wp2_with fail
        refine (szValueA_any _ xs[k] _ _ _ hr r0 (by omega)).mono ?_
        rintro e w1 ⟨r', rfl, g0, g1, hs, hb⟩
        have hB1 := below_up hB hb (Nat.le_refl _)
        clear hb
        by_cases n1 : r' < 0
        · go_wp2_with fail
          go_ret
          exact ⟨-1, rfl, by omega, by omega, fun h => absurd h (by omega), hB1⟩
        · have m1 : 0 ≤ r' := by omega
          have hall1 := hall.succ hlt (hs m1)
          go_wp2_with fail
          go_roundw
          case rel => exact ⟨k + 1, r', by omega, by go_num, rfl, m1, by omega, hall1, hB1⟩
          case measure => simp [intOf]; omega
      · obtain rfl : k = xs.length := by omega
        have hall1 := hall.done
        clear hall
        go_wp2_with fail
        go_ret
        exact ⟨r, rfl, by omega, by omega, fun _ => ⟨by omega, hall1⟩, hB⟩

set_option maxHeartbeats 1600000 in
theorem eqValueS_any (a : Option Addr) (n cap : Nat) (a' : Option Addr) (n' cap' : Nat) (xs : List (Val)) (bs bs' : List Nat) (w : World) (h : SliceRep valE w a n cap xs bs) (h' : SliceRep valE w a' n' cap' xs bs') :
    Calls Try.prog 138 #[.slice a n cap, .slice a' n' cap'] w fun e w' => e = .returned (.bool true) ∧ Below w.heap.size w w' := by
  have hmax := h.max
  obtain rfl := h.1
  obtain rfl := h'.1
  go_enter Try.func138, Try.ntmps138
  go_wp2_with fail
  go_loopw [5] (fun i W => ∃ (k : Nat), k ≤ xs.length ∧ i = .int .i64 k ∧ Below w.heap.size w W) (fun i _ => xs.length - (intOf i).toNat)
  case atStart => exact ⟨0, Nat.zero_le _, rfl, Below.refl _ _⟩
  case round =>
    obtain ⟨k, hk, rfl, hB⟩ := hrel
    by_cases hlt : k < xs.length
    · obtain ⟨g, off, cs, bk, rfl, hr, hc, hbk, _⟩ := (h.up hB).get hlt
      obtain ⟨rfl, f0, f1, hbs⟩ := Value_rep.1 hr
      obtain rfl := hbs.symm
      have c0 : wr.cell? ⟨g, off + k * 2, none⟩ = some (.int .i64 xs[k].n) := hc 0 _ rfl
      have c1 : wr.cell? ⟨g, off + k * 2 + 1, none⟩ = some (.string xs[k].s) := hc 1 _ rfl
      clear hc
      have hlty := hlt
      obtain ⟨g', off', csy, bky, rfl, hry, hcy, hbky, _⟩ := (h'.up hB).get hlty
      obtain ⟨rfl, p0, p1, hbs⟩ := Value_rep.1 hry
      obtain rfl := hbs.symm
      have d0 : wr.cell? ⟨g', off' + k * 2, none⟩ = some (.int .i64 xs[k].n) := hcy 0 _ rfl
      have d1 : wr.cell? ⟨g', off' + k * 2 + 1, none⟩ = some (.string xs[k].s) := hcy 1 _ rfl
      clear hcy
      have i0 : (0 : Int) ≤ (k : Int) := by omega
      have i1 : (k : Int) < (xs.length : Int) := by omega
      have K : Kept w [(⟨g, off + k * 2, none⟩, .int .i64 xs[k].n), (⟨g, off + k * 2 + 1, none⟩, .string xs[k].s), (⟨g', off' + k * 2, none⟩, .int .i64 xs[k].n), (⟨g', off' + k * 2 + 1, none⟩, .string xs[k].s)] wr := (((((Kept.at_ hB).cons d1).cons d0).cons c1).cons c0)
      go_wp2_with fail
      go_region_held3 (fun W => Kept w [(⟨g, off + k * 2, none⟩, .int .i64 xs[k].n), (⟨g, off + k * 2 + 1, none⟩, .string xs[k].s), (⟨g', off' + k * 2, none⟩, .int .i64 xs[k].n), (⟨g', off' + k * 2 + 1, none⟩, .string xs[k].s)] W ∧ W.cell? ⟨g, off + k * 2, none⟩ = some (.int .i64 xs[k].n) ∧ W.cell? ⟨g, off + k * 2 + 1, none⟩ = some (.string xs[k].s) ∧ W.cell? ⟨g', off' + k * 2, none⟩ = some (.int .i64 xs[k].n) ∧ W.cell? ⟨g', off' + k * 2 + 1, none⟩ = some (.string xs[k].s))
        (first | exact Kept.c4 (Kept.up (by assumption) (And.left (by assumption))) | exact K.drew.c4)
        ((go_at_call 161; refine (eqValueA_any _ _ xs[k] _ _ _ (valE.up hr (by first | exact (Below.refl _ _).drew | exact (Below.refl _ _))) (valE.up hry (by first | exact (Below.refl _ _).drew | exact (Below.refl _ _)))).mono ?_; rintro e w3 ⟨rfl, hb3⟩))
      rename_i hh
      have hB1 := hh.1.1
      clear hh K c0 c1 d0 d1
      go_wp2_with fail
      go_roundw
      case rel => exact ⟨k + 1, by omega, by go_num, hB1⟩
      case measure => simp [intOf]; omega
    · obtain rfl : k = xs.length := by omega
      go_wp2_with fail
      go_ret
      exact ⟨rfl, hB⟩

theorem toValueA_any (cs : List Value) (x : Val) (bs : List Nat) (w : World) (h : valE.rep w cs x bs) (hsm : smallValue x) :
    Calls Try.prog 164 #[.agg cs.toArray] w (RetAgg valE w x) := by
  obtain ⟨rfl, f0, f1, rfl⟩ := Value_rep.1 h
  refine (toValue_any x w).mono ?_
  rintro e w' ⟨rfl, hb⟩
  exact ⟨_, _, rfl, Value_rep.2 ⟨rfl, f0, f1, rfl⟩, Fresh.nil, hb⟩
theorem zeroValue (w : World) : valE.rep w [.int .i64 0, .string ByteArray.empty] ⟨0, ByteArray.empty⟩ [] := by
  exact Value_rep.2 ⟨rfl, by decide, by simp, rfl⟩
theorem infoValue : (Try.prog.info? 94).map (fun i => (i.zero, i.size, i.bytes)) = some (some (.agg #[.int .i64 0, .string ByteArray.empty]), 2, 24) := by kernel_rfl
set_option maxHeartbeats 1600000 in
theorem toValueS_any (a : Option Addr) (n cap : Nat) (xs : List (Val)) (bs : List Nat) (w : World) (h : SliceRep valE w a n cap xs bs) (hsm : xs.length ≤ 1048576 ∧ ∀ y ∈ xs, smallValue y) :
    Calls Try.prog 142 #[.slice a n cap] w (RetSlice valE w xs) := by
  have hmax := h.max
  have hsm0 := hsm.1
  have HSM := Lib.hid hsm.2
  clear hsm
  obtain rfl := h.1
  obtain ⟨i0, hi, hz0, hz1, hz2⟩ := info_parts infoValue
  have hmk := fun W => run_make_rowN (P := Try.prog) 90 94 i0 _ Try.underlying90 hi hz0 .i64 .i64 xs.length xs.length (Nat.le_refl _) (by rw [hz2]; omega) hmax W
  rw [hz1] at hmk
  clear hi hz0 hz1 hz2
  go_enter Try.func142, Try.ntmps142
  go_wp2_with fail
  obtain ⟨bs0, hS0, hF0⟩ := SliceRep.made (e := valE) (z := #[.int .i64 0, .string ByteArray.empty]) (x0 := ⟨0, ByteArray.empty⟩) (fun w => zeroValue w) (by decide) xs.length (by unfold maxLen; omega) w 94
  have hb0 := (Below.refl w.heap.size w).alloc (Nat.le_refl _) (.cells (madeCells #[.int .i64 0, .string ByteArray.empty] (xs.length * valE.size)) 94)
  have hg0 : w.heap.size < (w.alloc (.cells (madeCells #[.int .i64 0, .string ByteArray.empty] (xs.length * valE.size)) 94)).heap.size := by simp
  rw [show valE.size = 2 from rfl] at hS0 hF0 hb0 hg0
  generalize w.alloc (.cells (madeCells #[.int .i64 0, .string ByteArray.empty] (xs.length * 2)) 94) = w0 at *
  clear hmk
  go_loopw [4] (fun i W => ∃ (k : Nat) (ys : List (Val)) (bs' : List Nat), k ≤ xs.length ∧ i = .int .i64 k ∧ Filled xs ⟨0, ByteArray.empty⟩ k ys ∧ SliceRep valE W (some ⟨w.heap.size, 0, none⟩) xs.length xs.length ys bs' ∧ Fresh w.heap.size W bs' ∧ Below w.heap.size w W ∧ w.heap.size < W.heap.size) (fun i _ => xs.length - (intOf i).toNat)
  case atStart => exact ⟨0, _, bs0, Nat.zero_le _, rfl, .zero, hS0, hF0, hb0, hg0⟩
  case round =>
    clear hS0 hF0 hb0 hg0
    obtain ⟨k, ys, bs', hk, rfl, hfill, hS, hF, hB, hG⟩ := hrel
    by_cases hlt : k < xs.length
    · obtain ⟨g, off, cs, bk, rfl, hr, hc, hbk, _⟩ := (h.up hB).get hlt
      obtain ⟨rfl, f0, f1, hbs⟩ := Value_rep.1 hr
      obtain rfl := hbs.symm
      have c0 : wr.cell? ⟨g, off + k * 2, none⟩ = some (.int .i64 xs[k].n) := hc 0 _ rfl
      have c1 : wr.cell? ⟨g, off + k * 2 + 1, none⟩ = some (.string xs[k].s) := hc 1 _ rfl
      clear hc
      go_wp2_with fail
      refine (toValueA_any _ xs[k] _ _ hr (HSM.out _ (List.getElem_mem hlt))).mono ?_
      rintro e w1 ⟨cz, bz, rfl, hrz, hFz, hb1⟩
      have hcz := Value_rep.1 hrz
      obtain ⟨hcz, q0, q1, hbz⟩ := hcz
      obtain rfl : cz = #[.int .i64 xs[k].n, .string xs[k].s] := by cases cz; simpa using hcz
      clear hcz
      have hS1 := hS.up hb1
      have hF1 := hF.up hb1
      have hB1 := below_up hB hb1 (Nat.le_refl _)
      have hly := hfill.len hk
      have hdis : ∀ c ∈ bz, c ∉ bs' := fun c hc hc' => by have h1 := (hFz.2 c hc).1; have h2 := hF.lt c hc'; omega
      have hFz1 : Fresh w.heap.size w1 bz := hFz.mono (Nat.le_of_lt hG)
      obtain ⟨cs1, bo, hr1, _, hsl⟩ := hS1.slot hF1 (k := k) (by omega)
      obtain ⟨rfl, _, _, hbo⟩ := Value_rep.1 hr1
      have s0 := hsl 0 _ rfl
      have s1 := hsl 1 _ rfl
      rw [Nat.zero_add, show valE.size = 2 from rfl] at s0 s1
      simp only [Nat.add_zero] at s0
      clear hsl
      obtain ⟨bs2, hS2, hF2, _⟩ := hS1.store hF1 (by decide) (k := k) (by omega) hrz hFz1 hdis
      have hB2 := setCells_below (Nat.le_refl w.heap.size) [.int .i64 xs[k].n, .string xs[k].s] w1 (0 + k * valE.size) hB1
      have hG2 : w.heap.size < (setCells w1 w.heap.size (0 + k * valE.size) [.int .i64 xs[k].n, .string xs[k].s]).heap.size := by rw [setCells_size]; have := hb1.size; omega
      rw [Nat.zero_add, show valE.size = 2 from rfl] at hS2 hF2 hB2 hG2
      have hf2 := hfill.succ hlt
      clear hfill hS hF hS1 hF1 hdis c0 c1 
      go_wp2_with fail
      go_roundw
      case rel => exact ⟨k + 1, _, bs2, by omega, by go_num, hf2, hS2, hF2, hB2, hG2⟩
      case measure => simp [intOf]; omega
    · obtain rfl : k = xs.length := by omega
      obtain rfl := hfill.done
      go_wp2_with fail
      go_ret
      exact ⟨_, _, _, _, rfl, hS, hF, hB⟩

end Go.Proofs.Ytibhoanjglfaoaa

/- The laws' own functions: GenB (printed by gen.py) -/
namespace Go.Proofs.Ytibhoanjglfaoaa
open Go.RowKit
set_option linter.unusedVariables false
set_option maxRecDepth 100000

def smallRow (x : List Val) : Prop := (x.length ≤ 1048576 ∧ ∀ y ∈ x, smallValue y)

set_option maxHeartbeats 800000 in
theorem szRow_any (cs : List Value) (x : List Val) (bs : List Nat) (left : Int) (w : World) (h : rowE.rep w cs x bs) (l0 : 0 ≤ left) (l1 : left ≤ 1048576) :
    Calls Try.prog 102 #[.agg cs.toArray, .int .i64 left] w (RetSz (smallRow x) left w) := by
  obtain ⟨sa0, sn0, sc0, sb0, rfl, f0, hbs⟩ := Row_rep.1 h
  obtain rfl := hbs.symm
  have H := ((Held.start w).box_ #[.slice sa0 sn0 sc0] 131).s1
  go_enter Try.func102, Try.ntmps102
  go_wp2_with fail
  refine (szValueS_any sa0 sn0 sc0 x sb0 _ _ (f0.up H.1.below) (by omega) (by omega)).mono ?_
  rintro e w0 ⟨r0, rfl, g0, k0, s0, hb⟩
  replace H := (H.1.up hb).s1
  clear hb
  by_cases n0 : r0 < 0
  · go_wp2_with fail
    go_ret
    exact ⟨-1, rfl, by omega, by omega, fun h => absurd h (by omega), H.1.below⟩
  · have m0 : 0 ≤ r0 := by omega
    go_wp2_with fail
    go_ret
    exact ⟨r0, rfl, by omega, by omega, fun _ => by unfold smallRow; exact s0 m0, H.1.below⟩

set_option maxHeartbeats 800000 in
theorem eqRow_any (cs ds : List Value) (x : List Val) (bs bs' : List Nat) (w : World) (h : rowE.rep w cs x bs) (h' : rowE.rep w ds x bs') :
    Calls Try.prog 97 #[.agg cs.toArray, .agg ds.toArray] w fun e w' => e = .returned (.bool true) ∧ Below w.heap.size w w' := by
  obtain ⟨sa0, sn0, sc0, sb0, rfl, f0, hbs⟩ := Row_rep.1 h
  obtain rfl := hbs.symm
  obtain ⟨say0, sny0, scy0, sby0, rfl, g0, hbs⟩ := Row_rep.1 h'
  obtain rfl := hbs.symm
  have H := ((Held.start w).box_ #[.slice sa0 sn0 sc0] 92).box_ #[.slice say0 sny0 scy0] 92
  rw [show (w.alloc (.cells #[.slice sa0 sn0 sc0] 92)).heap.size = w.heap.size + 1 by simp] at H
  replace H := H.s2
  go_enter Try.func97, Try.ntmps97
  go_wp2_with fail
  refine (eqValueS_any _ _ _ _ _ _ x _ _ _ (f0.up H.1.below) (g0.up H.1.below)).mono ?_
  rintro e w0 ⟨rfl, hb⟩
  replace H := (H.1.up hb).s2
  clear hb
  go_wp2_with fail
  go_ret
  exact ⟨rfl, H.1.below⟩

set_option maxHeartbeats 1600000 in
theorem toRow_any (cs : List Value) (x : List Val) (bs : List Nat) (w : World) (h : rowE.rep w cs x bs) (hsm : smallRow x) :
    Calls Try.prog 105 #[.agg cs.toArray] w (RetAgg rowE w x) := by
  obtain ⟨sa0, sn0, sc0, sb0, rfl, f0, hbs⟩ := Row_rep.1 h
  obtain rfl := hbs.symm
  have HSM := Lib.hid hsm
  clear hsm h
  have H := Three.start w #[.slice sa0 sn0 sc0] #[.slice none 0 0] #[.slice none 0 0] 131 92 92
  go_enter Try.func105, Try.ntmps105
  go_wp2_with fail
  generalize ((w.alloc (.cells #[.slice sa0 sn0 sc0] 131)).alloc (.cells #[.slice none 0 0] 92)).alloc (.cells #[.slice none 0 0] 92) = w0 at *
  have hz0 := H.lt
  have ca0 := H.a.cell
  refine (toValueS_any _ _ _ x _ _ (f0.up H.below) HSM.out).mono ?_
  rintro e w1 ⟨ra0, rn0, rc0, rb0, rfl, q0_0, F0, hb⟩
  replace H := H.up hb
  clear hb ca0
  have hcz0 := H.c.cell
  have hfz0 := H.c.free
  have H0_0 : Three w #[.slice sa0 sn0 sc0] #[.slice none 0 0] #[.slice ra0 rn0 rc0] _ := H.set 0 (.slice ra0 rn0 rc0) (by simp) rfl
  have hS0 := ((Same.refl (w.heap.size + 1 + 1 + 1) w1).set (g := w.heap.size + 1 + 1) (by omega) 0 (.slice ra0 rn0 rc0))
  have hge0 : ∀ c ∈ rb0, w.heap.size + 1 + 1 + 1 ≤ c := fun c hc => Nat.le_trans hz0 (F0.ge c hc)
  replace q0_0 := q0_0.same hS0 hge0
  replace F0 := F0.same hS0 hge0
  replace H := H0_0
  have dz := H.z.cell
  have ez := H.z.free
  have hcc := H.c.cell
  go_wp2_with fail
  refine bodyPost_ret (v := .agg #[.slice ra0 rn0 rc0]) (by simp [results, Try.results105, go_sem, dz]; try rfl) rfl ?_
  have hSf := ((Same.refl (w.heap.size + 1 + 1 + 1) (w1.setCell ⟨w.heap.size + 1 + 1, 0, none⟩ (.slice ra0 rn0 rc0))).set (g := w.heap.size + 1) (by omega) 0 (.slice ra0 rn0 rc0))
  refine ⟨#[.slice ra0 rn0 rc0], _, rfl, Row_rep.2 ⟨ra0, rn0, rc0, _, rfl, q0_0.same hSf hge0, rfl⟩, ?_, (H.below.setCell (p := ⟨w.heap.size + 1, 0, none⟩) (by simp) (.slice ra0 rn0 rc0))⟩
  exact ((F0.same hSf hge0).mono (by omega))

set_option maxHeartbeats 800000 in
theorem szRowS_any (a : Option Addr) (n cap : Nat) (xs : List (List Val)) (bs : List Nat) (left : Int) (w : World) (h : SliceRep rowE w a n cap xs bs) (l0 : 0 ≤ left) (l1 : left ≤ 1048576) :
    Calls Try.prog 57 #[.slice a n cap, .int .i64 left] w (RetSz (xs.length ≤ 1048576 ∧ ∀ y ∈ xs, smallRow y) left w) := by
  have hmax := h.max
  obtain rfl := h.1
  by_cases n0 : left - (xs.length : Int) < 0
  · go_enter Try.func57, Try.ntmps57
    go_wp2_with fail
    go_ret
    exact ⟨-1, rfl, by omega, by omega, fun h => absurd h (by omega), Below.refl _ _⟩
  · have m0 : 0 ≤ left - (xs.length : Int) := by omega
    go_enter Try.func57, Try.ntmps57
    go_wp2_with fail
    go_loopw [1, 5] (fun l i W => ∃ (k : Nat) (r : Int), k ≤ xs.length ∧ i = .int .i64 k ∧ l = .int .i64 r ∧ 0 ≤ r ∧ r ≤ left ∧ AllTo smallRow xs k ∧ Below w.heap.size w W) (fun _ i _ => xs.length - (intOf i).toNat)
    case atStart => exact ⟨0, _, Nat.zero_le _, rfl, rfl, m0, by omega, .zero, Below.refl _ _⟩
    case round =>
      obtain ⟨k, r, hk, rfl, rfl, r0, r1, hall, hB⟩ := hrel
      by_cases hlt : k < xs.length
      · obtain ⟨g, off, cs, bk, rfl, hr, hc, hbk, _⟩ := (h.up hB).get hlt
        obtain ⟨sa0, sn0, sc0, sb0, rfl, f0, hbs⟩ := Row_rep.1 hr
        obtain rfl := hbs.symm
        have c0 : wr.cell? ⟨g, off + k, none⟩ = some (.slice sa0 sn0 sc0) := by have := hc 0 _ rfl; rw [show rowE.size = 1 from rfl, Nat.mul_one] at this; exact this
        clear hc
        go_wp2_with fail
        refine (szRow_any _ xs[k] _ _ _ hr r0 (by omega)).mono ?_
        rintro e w1 ⟨r', rfl, g0, g1, hs, hb⟩
        have hB1 := below_up hB hb (Nat.le_refl _)
        clear hb
        by_cases n1 : r' < 0
        · go_wp2_with fail
          go_ret
          exact ⟨-1, rfl, by omega, by omega, fun h => absurd h (by omega), hB1⟩
        · have m1 : 0 ≤ r' := by omega
          have hall1 := hall.succ hlt (hs m1)
          go_wp2_with fail
          go_roundw
          case rel => exact ⟨k + 1, r', by omega, by go_num, rfl, m1, by omega, hall1, hB1⟩
          case measure => simp [intOf]; omega
      · obtain rfl : k = xs.length := by omega
        have hall1 := hall.done
        clear hall
        go_wp2_with fail
        go_ret
        exact ⟨r, rfl, by omega, by omega, fun _ => ⟨by omega, hall1⟩, hB⟩

set_option maxHeartbeats 1600000 in
theorem eqRowS_any (a : Option Addr) (n cap : Nat) (a' : Option Addr) (n' cap' : Nat) (xs : List (List Val)) (bs bs' : List Nat) (w : World) (h : SliceRep rowE w a n cap xs bs) (h' : SliceRep rowE w a' n' cap' xs bs') :
    Calls Try.prog 52 #[.slice a n cap, .slice a' n' cap'] w fun e w' => e = .returned (.bool true) ∧ Below w.heap.size w w' := by
  have hmax := h.max
  obtain rfl := h.1
  obtain rfl := h'.1
  go_enter Try.func52, Try.ntmps52
  go_wp2_with fail
  go_loopw [5] (fun i W => ∃ (k : Nat), k ≤ xs.length ∧ i = .int .i64 k ∧ Below w.heap.size w W) (fun i _ => xs.length - (intOf i).toNat)
  case atStart => exact ⟨0, Nat.zero_le _, rfl, Below.refl _ _⟩
  case round =>
    obtain ⟨k, hk, rfl, hB⟩ := hrel
    by_cases hlt : k < xs.length
    · obtain ⟨g, off, cs, bk, rfl, hr, hc, hbk, _⟩ := (h.up hB).get hlt
      obtain ⟨sa0, sn0, sc0, sb0, rfl, f0, hbs⟩ := Row_rep.1 hr
      obtain rfl := hbs.symm
      have c0 : wr.cell? ⟨g, off + k, none⟩ = some (.slice sa0 sn0 sc0) := by have := hc 0 _ rfl; rw [show rowE.size = 1 from rfl, Nat.mul_one] at this; exact this
      clear hc
      have hlty := hlt
      obtain ⟨g', off', csy, bky, rfl, hry, hcy, hbky, _⟩ := (h'.up hB).get hlty
      obtain ⟨say0, sny0, scy0, sby0, rfl, p0, hbs⟩ := Row_rep.1 hry
      obtain rfl := hbs.symm
      have d0 : wr.cell? ⟨g', off' + k, none⟩ = some (.slice say0 sny0 scy0) := by have := hcy 0 _ rfl; rw [show rowE.size = 1 from rfl, Nat.mul_one] at this; exact this
      clear hcy
      have i0 : (0 : Int) ≤ (k : Int) := by omega
      have i1 : (k : Int) < (xs.length : Int) := by omega
      have K : Kept w [(⟨g, off + k, none⟩, .slice sa0 sn0 sc0), (⟨g', off' + k, none⟩, .slice say0 sny0 scy0)] wr := (((Kept.at_ hB).cons d0).cons c0)
      go_wp2_with fail
      go_region_held3 (fun W => Kept w [(⟨g, off + k, none⟩, .slice sa0 sn0 sc0), (⟨g', off' + k, none⟩, .slice say0 sny0 scy0)] W ∧ W.cell? ⟨g, off + k, none⟩ = some (.slice sa0 sn0 sc0) ∧ W.cell? ⟨g', off' + k, none⟩ = some (.slice say0 sny0 scy0))
        (first | exact Kept.c2 (Kept.up (by assumption) (And.left (by assumption))) | exact K.drew.c2)
        ((go_at_call 97; refine (eqRow_any _ _ xs[k] _ _ _ (rowE.up hr (by first | exact (Below.refl _ _).drew | exact (Below.refl _ _))) (rowE.up hry (by first | exact (Below.refl _ _).drew | exact (Below.refl _ _)))).mono ?_; rintro e w3 ⟨rfl, hb3⟩))
      rename_i hh
      have hB1 := hh.1.1
      clear hh K c0 d0
      go_wp2_with fail
      go_roundw
      case rel => exact ⟨k + 1, by omega, by go_num, hB1⟩
      case measure => simp [intOf]; omega
    · obtain rfl : k = xs.length := by omega
      go_wp2_with fail
      go_ret
      exact ⟨rfl, hB⟩

theorem zeroRow (w : World) : rowE.rep w [.slice none 0 0] [] [] := by
  exact Row_rep.2 ⟨none, 0, 0, [], rfl, ⟨rfl, Nat.le_refl _, Nat.zero_le _, (fun _ => rfl), .inl ⟨rfl, rfl⟩⟩, rfl⟩
theorem infoRow : (Try.prog.info? 92).map (fun i => (i.zero, i.size, i.bytes)) = some (some (.agg #[.slice none 0 0]), 1, 24) := by kernel_rfl
set_option maxHeartbeats 1600000 in
theorem toRowS_any (a : Option Addr) (n cap : Nat) (xs : List (List Val)) (bs : List Nat) (w : World) (h : SliceRep rowE w a n cap xs bs) (hsm : xs.length ≤ 1048576 ∧ ∀ y ∈ xs, smallRow y) :
    Calls Try.prog 61 #[.slice a n cap] w (RetSlice rowE w xs) := by
  have hmax := h.max
  have hsm0 := hsm.1
  have HSM := Lib.hid hsm.2
  clear hsm
  obtain rfl := h.1
  obtain ⟨i0, hi, hz0, hz1, hz2⟩ := info_parts infoRow
  have hmk := fun W => run_make_rowN (P := Try.prog) 26 92 i0 _ Try.underlying26 hi hz0 .i64 .i64 xs.length xs.length (Nat.le_refl _) (by rw [hz2]; omega) hmax W
  rw [hz1] at hmk
  clear hi hz0 hz1 hz2
  go_enter Try.func61, Try.ntmps61
  go_wp2_with fail
  obtain ⟨bs0, hS0, hF0⟩ := SliceRep.made (e := rowE) (z := #[.slice none 0 0]) (x0 := []) (fun w => zeroRow w) (by decide) xs.length (by unfold maxLen; omega) w 92
  have hb0 := (Below.refl w.heap.size w).alloc (Nat.le_refl _) (.cells (madeCells #[.slice none 0 0] (xs.length * rowE.size)) 92)
  have hg0 : w.heap.size < (w.alloc (.cells (madeCells #[.slice none 0 0] (xs.length * rowE.size)) 92)).heap.size := by simp
  rw [show rowE.size = 1 from rfl, Nat.mul_one] at hS0 hF0 hb0 hg0
  generalize w.alloc (.cells (madeCells #[.slice none 0 0] (xs.length)) 92) = w0 at *
  clear hmk
  go_loopw [4] (fun i W => ∃ (k : Nat) (ys : List (List Val)) (bs' : List Nat), k ≤ xs.length ∧ i = .int .i64 k ∧ Filled xs [] k ys ∧ SliceRep rowE W (some ⟨w.heap.size, 0, none⟩) xs.length xs.length ys bs' ∧ Fresh w.heap.size W bs' ∧ Below w.heap.size w W ∧ w.heap.size < W.heap.size) (fun i _ => xs.length - (intOf i).toNat)
  case atStart => exact ⟨0, _, bs0, Nat.zero_le _, rfl, .zero, hS0, hF0, hb0, hg0⟩
  case round =>
    clear hS0 hF0 hb0 hg0
    obtain ⟨k, ys, bs', hk, rfl, hfill, hS, hF, hB, hG⟩ := hrel
    by_cases hlt : k < xs.length
    · obtain ⟨g, off, cs, bk, rfl, hr, hc, hbk, _⟩ := (h.up hB).get hlt
      obtain ⟨sa0, sn0, sc0, sb0, rfl, f0, hbs⟩ := Row_rep.1 hr
      obtain rfl := hbs.symm
      have c0 : wr.cell? ⟨g, off + k, none⟩ = some (.slice sa0 sn0 sc0) := by have := hc 0 _ rfl; rw [show rowE.size = 1 from rfl, Nat.mul_one] at this; exact this
      clear hc
      go_wp2_with fail
      refine (toRow_any _ xs[k] _ _ hr (HSM.out _ (List.getElem_mem hlt))).mono ?_
      rintro e w1 ⟨cz, bz, rfl, hrz, hFz, hb1⟩
      have hcz := Row_rep.1 hrz
      obtain ⟨saz0, snz0, scz0, sbz0, hcz, q0, hbz⟩ := hcz
      obtain rfl : cz = #[.slice saz0 snz0 scz0] := by cases cz; simpa using hcz
      clear hcz
      have hS1 := hS.up hb1
      have hF1 := hF.up hb1
      have hB1 := below_up hB hb1 (Nat.le_refl _)
      have hly := hfill.len hk
      have hdis : ∀ c ∈ bz, c ∉ bs' := fun c hc hc' => by have h1 := (hFz.2 c hc).1; have h2 := hF.lt c hc'; omega
      have hFz1 : Fresh w.heap.size w1 bz := hFz.mono (Nat.le_of_lt hG)
      obtain ⟨cs1, bo, hr1, _, hsl⟩ := hS1.slot hF1 (k := k) (by omega)
      obtain ⟨sao0, sno0, sco0, sbo0, rfl, _, hbo⟩ := Row_rep.1 hr1
      have s0 := hsl 0 _ rfl
      rw [Nat.zero_add, show rowE.size = 1 from rfl, Nat.mul_one] at s0
      simp only [Nat.add_zero] at s0
      clear hsl
      obtain ⟨bs2, hS2, hF2, _⟩ := hS1.store hF1 (by decide) (k := k) (by omega) hrz hFz1 hdis
      have hB2 := setCells_below (Nat.le_refl w.heap.size) [.slice saz0 snz0 scz0] w1 (0 + k * rowE.size) hB1
      have hG2 : w.heap.size < (setCells w1 w.heap.size (0 + k * rowE.size) [.slice saz0 snz0 scz0]).heap.size := by rw [setCells_size]; have := hb1.size; omega
      rw [Nat.zero_add, show rowE.size = 1 from rfl, Nat.mul_one] at hS2 hF2 hB2 hG2
      have hf2 := hfill.succ hlt
      clear hfill hS hF hS1 hF1 hdis c0 
      go_wp2_with fail
      go_roundw
      case rel => exact ⟨k + 1, _, bs2, by omega, by go_num, hf2, hS2, hF2, hB2, hG2⟩
      case measure => simp [intOf]; omega
    · obtain rfl : k = xs.length := by omega
      obtain rfl := hfill.done
      go_wp2_with fail
      go_ret
      exact ⟨_, _, _, _, rfl, hS, hF, hB⟩

structure Relt where
  arity : Int
  rows : List (List Val)
def relE : Enc Relt := isoE (pairE (intE .i64) (pairE (sliceE rowE) unitE)) (fun x => (x.arity, x.rows, ()))
theorem Rel_rep {w : World} {cs : List Value} {x : Relt} {bs : List Nat} : relE.rep w cs x bs ↔ ∃ (sa0 : Option Addr) (sn0 sc0 : Nat) (sb0 : List Nat), cs = [.int .i64 x.arity, .slice sa0 sn0 sc0] ∧ (Lit.int .i64 x.arity).wf = true ∧ SliceRep rowE w sa0 sn0 sc0 x.rows sb0 ∧ bs = sb0 := by
  constructor
  · rintro ⟨c0, r0, d0, q0, rfl, rfl, h0, c1, r1, d1, q1, rfl, rfl, h1, rfl, rfl⟩
    obtain ⟨rfl, f0, rfl⟩ := h0
    obtain ⟨va0, vn0, vc0, rfl, f1⟩ := h1
    exact ⟨va0, vn0, vc0, _, by simp, f0, f1, by simp⟩
  · rintro ⟨sa0, sn0, sc0, sb0, rfl, f0, f1, hbs⟩
    obtain rfl := hbs.symm
    exact ⟨[.int .i64 x.arity], [.slice sa0 sn0 sc0], [], sb0, rfl, by simp, ⟨rfl, f0, rfl⟩, ⟨[.slice sa0 sn0 sc0], [], sb0, [], rfl, by simp, ⟨sa0, sn0, sc0, rfl, f1⟩, ⟨rfl, rfl⟩⟩⟩
theorem opens_lRel : Opens Try.prog relE 42 :=
  opens_iso (fun x => ⟨x.1, x.2.1⟩) (fun _ => rfl) (opens_struct Try.underlying42 (by kernel_rfl) (opensF_cons rfl (by kernel_rfl) (opens_int Try.underlying3) (opensF_cons rfl (by kernel_rfl) (opens_slice Try.underlying40 (by kernel_rfl) (by decide) opens_lRow) opensF_nil)))
def smallRel (x : Relt) : Prop := (x.rows.length ≤ 1048576 ∧ ∀ y ∈ x.rows, smallRow y)

set_option maxHeartbeats 800000 in
theorem szRel_any (cs : List Value) (x : Relt) (bs : List Nat) (left : Int) (w : World) (h : relE.rep w cs x bs) (l0 : 0 ≤ left) (l1 : left ≤ 1048576) :
    Calls Try.prog 19 #[.agg cs.toArray, .int .i64 left] w (RetSz (smallRel x) left w) := by
  obtain ⟨sa0, sn0, sc0, sb0, rfl, f0, f1, hbs⟩ := Rel_rep.1 h
  obtain rfl := hbs.symm
  have H := ((Held.start w).box_ #[.int .i64 x.arity, .slice sa0 sn0 sc0] 42).s1
  go_enter Try.func19, Try.ntmps19
  go_wp2_with fail
  refine (szRowS_any sa0 sn0 sc0 x.rows sb0 _ _ (f1.up H.1.below) (by omega) (by omega)).mono ?_
  rintro e w0 ⟨r0, rfl, g0, k0, s0, hb⟩
  replace H := (H.1.up hb).s1
  clear hb
  by_cases n0 : r0 < 0
  · go_wp2_with fail
    go_ret
    exact ⟨-1, rfl, by omega, by omega, fun h => absurd h (by omega), H.1.below⟩
  · have m0 : 0 ≤ r0 := by omega
    go_wp2_with fail
    go_ret
    exact ⟨r0, rfl, by omega, by omega, fun _ => by unfold smallRel; exact s0 m0, H.1.below⟩

set_option maxHeartbeats 800000 in
theorem eqRel_any (cs ds : List Value) (x : Relt) (bs bs' : List Nat) (w : World) (h : relE.rep w cs x bs) (h' : relE.rep w ds x bs') :
    Calls Try.prog 14 #[.agg cs.toArray, .agg ds.toArray] w fun e w' => e = .returned (.bool true) ∧ Below w.heap.size w w' := by
  obtain ⟨sa0, sn0, sc0, sb0, rfl, f0, f1, hbs⟩ := Rel_rep.1 h
  obtain rfl := hbs.symm
  obtain ⟨say0, sny0, scy0, sby0, rfl, g0, g1, hbs⟩ := Rel_rep.1 h'
  obtain rfl := hbs.symm
  have H := ((Held.start w).box_ #[.int .i64 x.arity, .slice sa0 sn0 sc0] 28).box_ #[.int .i64 x.arity, .slice say0 sny0 scy0] 28
  rw [show (w.alloc (.cells #[.int .i64 x.arity, .slice sa0 sn0 sc0] 28)).heap.size = w.heap.size + 1 by simp] at H
  replace H := H.s2
  go_enter Try.func14, Try.ntmps14
  go_wp2_with fail
  refine (eqRowS_any _ _ _ _ _ _ x.rows _ _ _ (f1.up H.1.below) (g1.up H.1.below)).mono ?_
  rintro e w1 ⟨rfl, hb⟩
  replace H := (H.1.up hb).s2
  clear hb
  go_wp2_with fail
  go_ret
  exact ⟨rfl, H.1.below⟩

set_option maxHeartbeats 1600000 in
theorem toRel_any (cs : List Value) (x : Relt) (bs : List Nat) (w : World) (h : relE.rep w cs x bs) (hsm : smallRel x) :
    Calls Try.prog 21 #[.agg cs.toArray] w (RetAgg relE w x) := by
  obtain ⟨sa0, sn0, sc0, sb0, rfl, f0, f1, hbs⟩ := Rel_rep.1 h
  obtain rfl := hbs.symm
  have HSM := Lib.hid hsm
  clear hsm h
  have H := Three.start w #[.int .i64 x.arity, .slice sa0 sn0 sc0] #[.int .i64 0, .slice none 0 0] #[.int .i64 x.arity, .slice none 0 0] 42 28 28
  go_enter Try.func21, Try.ntmps21
  go_wp2_with fail
  generalize ((w.alloc (.cells #[.int .i64 x.arity, .slice sa0 sn0 sc0] 42)).alloc (.cells #[.int .i64 0, .slice none 0 0] 28)).alloc (.cells #[.int .i64 x.arity, .slice none 0 0] 28) = w0 at *
  have hz0 := H.lt
  have ca0 := H.a.cell
  refine (toRowS_any _ _ _ x.rows _ _ (f1.up H.below) HSM.out).mono ?_
  rintro e w1 ⟨ra0, rn0, rc0, rb0, rfl, q0_0, F0, hb⟩
  replace H := H.up hb
  clear hb ca0
  have hcz0 := H.c.cell
  have hfz0 := H.c.free
  have H0_0 : Three w #[.int .i64 x.arity, .slice sa0 sn0 sc0] #[.int .i64 0, .slice none 0 0] #[.int .i64 x.arity, .slice ra0 rn0 rc0] _ := H.set 1 (.slice ra0 rn0 rc0) (by simp) rfl
  have hS0 := ((Same.refl (w.heap.size + 1 + 1 + 1) w1).set (g := w.heap.size + 1 + 1) (by omega) 1 (.slice ra0 rn0 rc0))
  have hge0 : ∀ c ∈ rb0, w.heap.size + 1 + 1 + 1 ≤ c := fun c hc => Nat.le_trans hz0 (F0.ge c hc)
  replace q0_0 := q0_0.same hS0 hge0
  replace F0 := F0.same hS0 hge0
  replace H := H0_0
  have dz := H.z.cell
  have ez := H.z.free
  have hcc := H.c.cell
  go_wp2_with fail
  refine bodyPost_ret (v := .agg #[.int .i64 x.arity, .slice ra0 rn0 rc0]) (by simp [results, Try.results21, go_sem, dz]; try rfl) rfl ?_
  have hSf := (((Same.refl (w.heap.size + 1 + 1 + 1) (w1.setCell ⟨w.heap.size + 1 + 1, 1, none⟩ (.slice ra0 rn0 rc0))).set (g := w.heap.size + 1) (by omega) 0 (.int .i64 x.arity)).set (g := w.heap.size + 1) (by omega) 1 (.slice ra0 rn0 rc0))
  refine ⟨#[.int .i64 x.arity, .slice ra0 rn0 rc0], _, rfl, Rel_rep.2 ⟨ra0, rn0, rc0, _, rfl, f0, q0_0.same hSf hge0, rfl⟩, ?_, ((H.below.setCell (p := ⟨w.heap.size + 1, 0, none⟩) (by simp) (.int .i64 x.arity)).setCell (p := ⟨w.heap.size + 1, 1, none⟩) (by simp) (.slice ra0 rn0 rc0))⟩
  exact ((F0.same hSf hge0).mono (by omega))

end Go.Proofs.Ytibhoanjglfaoaa

/- The order of rows: byRow, RowOrder and the reference's l09Order. -/
namespace Go.Proofs.Ytibhoanjglfaoaa
open Go.RowKit
set_option linter.unusedVariables false

theorem compareBytes_neg : ∀ a b : List UInt8, Lib.compareBytes a b = - Lib.compareBytes b a
  | [], [] => by simp [Lib.compareBytes]
  | [], _ :: _ => by simp [Lib.compareBytes]
  | _ :: _, [] => by simp [Lib.compareBytes]
  | x :: a, y :: b => by
    have ih := compareBytes_neg a b
    unfold Lib.compareBytes
    by_cases h1 : x < y
    · have h2 : ¬ y < x := fun h => UInt8.lt_irrefl _ (UInt8.lt_trans h1 h)
      simp [h1, h2]
    · by_cases h2 : y < x
      · simp [h1, h2]
      · simp [h1, h2, ih]
theorem cmpVal_neg (a b : Val) : cmpVal a b = - cmpVal b a := by
  unfold cmpVal
  by_cases ha : a.s.toList.isEmpty = true <;> by_cases hb : b.s.toList.isEmpty = true
  · simp only [ha, hb, if_true]; omega
  · simp [ha, hb]
  · simp [ha, hb]
  · simp only [ha, hb]; exact compareBytes_neg _ _
def less09 (a b : Val) : Bool := if a.s.toList.isEmpty && b.s.toList.isEmpty then decide (a.n < b.n) else Op.bytesLess a.s.toList b.s.toList
theorem less09_iff (a b : Val) : less09 a b = true ↔ cmpVal a b < 0 := by
  have hk := valLess_key a.s.toList b.s.toList a.n b.n
  unfold less09 cmpVal
  rw [← hk, ByteArray.toList_eq, ByteArray.toList_eq]

def cmpRow : List Val → List Val → Int
  | [], [] => 0
  | [], _ :: _ => -1
  | _ :: _, [] => 1
  | x :: xs, y :: ys => if cmpVal x y = 0 then cmpRow xs ys else cmpVal x y
def ord09 : List Val → List Val → Int
  | [], [] => 0
  | [], _ :: _ => -1
  | _ :: _, [] => 1
  | x :: xs, y :: ys => if less09 x y then -1 else if less09 y x then 1 else ord09 xs ys
theorem ord09_eq : ∀ a b : List Val, ord09 a b = max (-1) (min (cmpRow a b) 1)
  | [], [] => rfl
  | [], _ :: _ => rfl
  | _ :: _, [] => rfl
  | x :: xs, y :: ys => by
    have ih := ord09_eq xs ys
    unfold ord09 cmpRow
    have h1 := less09_iff x y
    have h2 := less09_iff y x
    rw [cmpVal_neg y x] at h2
    by_cases hc : cmpVal x y = 0
    · rw [if_pos hc, if_neg (by rw [h1]; omega), if_neg (by rw [h2]; omega), ih]
    · rw [if_neg hc]
      by_cases hl : cmpVal x y < 0
      · rw [if_pos (h1.2 hl)]; omega
      · rw [if_neg (by rw [h1]; omega), if_pos (h2.2 (by omega))]; omega
def rowOrder (a b : List Val) : Int := if rowOk a && rowOk b then ord09 a b else 2

set_option maxHeartbeats 800000 in
theorem less09_any (a b : Val) (w : World) :
    Calls Try.prog 163 #[.agg #[.int .i64 a.n, .string a.s], .agg #[.int .i64 b.n, .string b.s]] w fun e w' => e = .returned (.bool (less09 a b)) ∧ Below w.heap.size w w' := by
  have H0 := ((Held.start w).box_ #[.int .i64 a.n, .string a.s] 94).box_ #[.int .i64 b.n, .string b.s] 94
  cases ha : a.s.toList.isEmpty <;> cases hb : b.s.toList.isEmpty
  all_goals
    have HR := Lib.hid (show less09 a b = _ by unfold less09; rw [ha, hb])
    go_enter Try.func163, Try.ntmps163
    go_wp2_with fail
    go_ret
    refine ⟨ret_bool ?_, H0.below⟩
    rw [HR.out]
    try rfl

theorem drop_cons {α : Type} {xs : List α} {k : Nat} (h : k < xs.length) : xs.drop k = xs[k] :: xs.drop (k + 1) := List.drop_eq_getElem_cons h

set_option maxHeartbeats 800000 in
theorem cmpFunc_any (a : Option Addr) (n cap : Nat) (xs : List Val) (bs : List Nat) (b : Option Addr) (m cap' : Nat) (ys : List Val) (bs' : List Nat) (w : World) (h : SliceRep valE w a n cap xs bs) (h' : SliceRep valE w b m cap' ys bs')
    (hx : ∀ v ∈ xs, valOk v = true) (hy : ∀ v ∈ ys, valOk v = true) :
    Calls Try.prog 146 #[.slice a n cap, .slice b m cap', .func (.func 147) #[] #[]] w fun e w' => e = .returned (.int .i64 (cmpRow xs ys)) ∧ Below w.heap.size w w' := by
  have hmax := h.max
  have hmax' := h'.max
  obtain rfl := h.1
  obtain rfl := h'.1
  go_enter Try.func146, Try.ntmps146
  go_wp2
  go_loopw [13] (fun i W => ∃ k : Nat, k ≤ xs.length ∧ k ≤ ys.length ∧ i = .int .i64 k ∧ Hid (cmpRow xs ys = cmpRow (xs.drop k) (ys.drop k)) ∧ Held w [] W) (fun i _ => xs.length - (intOf i).toNat)
  case atStart => exact ⟨0, Nat.zero_le _, Nat.zero_le _, rfl, rfl, Held.start w⟩
  case round =>
    obtain ⟨k, hk, hk', rfl, HC, H⟩ := hrel
    by_cases hlt : k < xs.length
    · obtain ⟨g, off, rfl, c0, c1, hs, hn⟩ := (h.up H.below).val hlt
      by_cases hlt' : k < ys.length
      · obtain ⟨g', off', rfl, d0, d1, hs', hn'⟩ := (h'.up H.below).val hlt'
        have hvx := hx xs[k] (List.getElem_mem hlt)
        have hvy := hy ys[k] (List.getElem_mem hlt')
        have e0 := cell_alloc d0 (.cells #[.int .i64 xs[k].n, .string xs[k].s] 94)
        have e1 := cell_alloc d1 (.cells #[.int .i64 xs[k].n, .string xs[k].s] 94)
        have H1 := (H.alloc (.cells #[.int .i64 xs[k].n, .string xs[k].s] 94)).alloc (.cells #[.int .i64 ys[k].n, .string ys[k].s] 94)
        by_cases hz : cmpVal xs[k] ys[k] = 0
        · have hzb : (cmpVal xs[k] ys[k] != 0) = false := by simp [hz]
          have HC' : Hid (cmpRow xs ys = cmpRow (xs.drop (k + 1)) (ys.drop (k + 1))) := by
            have := HC.out
            rw [drop_cons hlt, drop_cons hlt', cmpRow, if_pos hz] at this
            exact this
          clear HC hz
          go_wp2_with fail
          refine (byValue_any _ _ _ hvx hvy).mono ?_
          rintro e w1 ⟨rfl, hb1⟩
          have H2 := H1.up hb1
          clear H H1 hb1 c0 c1 d0 d1 e0 e1
          go_wp2_with fail
          go_roundw
          case rel => exact ⟨k + 1, by omega, by omega, by go_num, HC', H2⟩
          case measure => simp [intOf]; omega
        · have hzb : (cmpVal xs[k] ys[k] != 0) = true := by simp [hz]
          have HC' : Hid (cmpRow xs ys = cmpVal xs[k] ys[k]) := by
            have := HC.out
            rw [drop_cons hlt, drop_cons hlt', cmpRow, if_neg hz] at this
            exact this
          clear HC hz
          go_wp2_with fail
          refine (byValue_any _ _ _ hvx hvy).mono ?_
          rintro e w1 ⟨rfl, hb1⟩
          have H2 := H1.up hb1
          clear H H1 hb1 c0 c1 d0 d1 e0 e1
          go_wp2_with fail
          go_ret
          exact ⟨ret_int HC'.out.symm, H2.below⟩
      · obtain rfl : k = ys.length := by omega
        have HC' : Hid (cmpRow xs ys = 1) := by
          have := HC.out
          rw [drop_cons hlt, List.drop_length, cmpRow] at this
          exact this
        have H1 := H.alloc (.cells #[.int .i64 xs[ys.length].n, .string xs[ys.length].s] 94)
        clear HC
        go_wp2_with fail
        go_ret
        exact ⟨ret_int HC'.out.symm, H1.below⟩
    · obtain rfl : k = xs.length := by omega
      by_cases hlt' : xs.length < ys.length
      · have HC' : Hid (cmpRow xs ys = -1) := by
          have := HC.out
          rw [drop_cons hlt', List.drop_length, cmpRow] at this
          exact this
        clear HC
        go_wp2_with fail
        go_ret
        exact ⟨ret_int HC'.out.symm, H.below⟩
      · have HC' : Hid (cmpRow xs ys = 0) := by
          have := HC.out
          rw [show xs.length = ys.length by omega, List.drop_length, ← show xs.length = ys.length by omega, List.drop_length, cmpRow] at this
          exact this
        clear HC
        go_wp2_with fail
        go_ret
        exact ⟨ret_int HC'.out.symm, H.below⟩
end Go.Proofs.Ytibhoanjglfaoaa

/- byRow, RowOrder and the reference's l09Order. -/
namespace Go.Proofs.Ytibhoanjglfaoaa
open Go.RowKit
set_option linter.unusedVariables false

theorem rowOk_vals {xs : List Val} (h : rowOk xs = true) : ∀ v ∈ xs, valOk v = true := by
  simp only [rowOk, Bool.and_eq_true, Bool.not_eq_true'] at h
  intro v hv
  have := List.any_eq_false.1 h.2 v hv
  simpa [badVal] using this
theorem cmpRow_range : ∀ (a b : List Val), (∀ v ∈ a, valOk v = true) → (∀ v ∈ b, valOk v = true) → -281474976710655 ≤ cmpRow a b ∧ cmpRow a b ≤ 281474976710655
  | [], [], _, _ => by simp [cmpRow]
  | [], _ :: _, _, _ => by simp [cmpRow]
  | _ :: _, [], _, _ => by simp [cmpRow]
  | x :: xs, y :: ys, hx, hy => by
    have ih := cmpRow_range xs ys (fun v hv => hx v (List.mem_cons_of_mem _ hv)) (fun v hv => hy v (List.mem_cons_of_mem _ hv))
    unfold cmpRow
    split
    · exact ih
    · obtain ⟨a1, a2⟩ := valOk_range (hx x (List.mem_cons_self ..))
      obtain ⟨b1, b2⟩ := valOk_range (hy y (List.mem_cons_self ..))
      unfold cmpVal
      have hc : ∀ a b : List UInt8, -1 ≤ Lib.compareBytes a b ∧ Lib.compareBytes a b ≤ 1 := by
        intro a
        induction a with
        | nil => intro b; cases b <;> simp [Lib.compareBytes]
        | cons p a ih =>
          intro b
          cases b with
          | nil => simp [Lib.compareBytes]
          | cons q b => unfold Lib.compareBytes; split; · omega
                        · split
                          · omega
                          · exact ih b
      have := hc x.s.data.toList y.s.data.toList
      split <;> split <;> omega

set_option maxHeartbeats 400000 in
theorem byRow_any (a : Option Addr) (n cap : Nat) (xs : List Val) (bs : List Nat) (b : Option Addr) (m cap' : Nat) (ys : List Val) (bs' : List Nat) (w : World) (h : SliceRep valE w a n cap xs bs) (h' : SliceRep valE w b m cap' ys bs')
    (hx : ∀ v ∈ xs, valOk v = true) (hy : ∀ v ∈ ys, valOk v = true) :
    Calls Try.prog 107 #[.agg #[.slice a n cap], .agg #[.slice b m cap']] w fun e w' => e = .returned (.int .i64 (cmpRow xs ys)) ∧ Below w.heap.size w w' := by
  have H0 := ((Held.start w).box_ #[.slice a n cap] 92).box_ #[.slice b m cap'] 92
  go_enter Try.func107, Try.ntmps107
  go_wp2_with fail
  refine (cmpFunc_any _ _ _ xs _ _ _ _ ys _ _ (h.up H0.below) (h'.up H0.below) hx hy).mono ?_
  rintro e w1 ⟨rfl, hb1⟩
  go_wp2_with fail
  go_ret
  exact ⟨rfl, (H0.up hb1).below⟩

set_option maxHeartbeats 1600000 in
theorem l09Order_any (a : Option Addr) (n cap : Nat) (xs : List Val) (bs : List Nat) (b : Option Addr) (m cap' : Nat) (ys : List Val) (bs' : List Nat) (w : World) (h : SliceRep valE w a n cap xs bs) (h' : SliceRep valE w b m cap' ys bs') :
    Calls Try.prog 141 #[.agg #[.slice a n cap], .agg #[.slice b m cap']] w fun e w' => e = .returned (.int .i64 (ord09 xs ys)) ∧ Below w.heap.size w w' := by
  have hmax := h.max
  have hmax' := h'.max
  obtain rfl := h.1
  obtain rfl := h'.1
  have H0 := ((Held.start w).box_ #[.slice a xs.length cap] 92).box_ #[.slice b ys.length cap'] 92
  have hz : (w.alloc (.cells #[.slice a xs.length cap] 92)).heap.size = w.heap.size + 1 := by simp
  rw [hz] at H0
  clear hz
  go_enter Try.func141, Try.ntmps141
  go_wp2_with fail
  have K0 : Kept w [(⟨w.heap.size, 0, none⟩, .slice a xs.length cap), (⟨w.heap.size + 1, 0, none⟩, .slice b ys.length cap')] _ := (H0.kept.cons (H0.s2.2.2 0)).cons (H0.s2.2.1 0)
  go_loopw [5] (fun i W => ∃ k : Nat, k ≤ xs.length ∧ k ≤ ys.length ∧ i = .int .i64 k ∧ Hid (ord09 xs ys = ord09 (xs.drop k) (ys.drop k)) ∧ Kept w [(⟨w.heap.size, 0, none⟩, .slice a xs.length cap), (⟨w.heap.size + 1, 0, none⟩, .slice b ys.length cap')] W) (fun i _ => xs.length - (intOf i).toNat)
  case atStart => exact ⟨0, Nat.zero_le _, Nat.zero_le _, rfl, rfl, K0⟩
  case round =>
    clear H0 K0
    obtain ⟨k, hk, hk', rfl, HC, H⟩ := hrel
    have HH := H.c2
    by_cases hlt : k < xs.length
    · by_cases hlt' : k < ys.length
      · obtain ⟨g, off, rfl, c0, c1, hs, hn⟩ := (h.up H.1).val hlt
        obtain ⟨g', off', rfl, d0, d1, hs', hn'⟩ := (h'.up H.1).val hlt'
        have i0 : (0 : Int) ≤ (k : Int) := by omega
        have i1 : (k : Int) < (xs.length : Int) := by omega
        have i2 : (k : Int) < (ys.length : Int) := by omega
        have K : Kept w [(⟨w.heap.size, 0, none⟩, .slice (some ⟨g, off, none⟩) xs.length cap), (⟨w.heap.size + 1, 0, none⟩, .slice (some ⟨g', off', none⟩) ys.length cap'), (⟨g, off + k * 2, none⟩, .int .i64 xs[k].n), (⟨g, off + k * 2 + 1, none⟩, .string xs[k].s), (⟨g', off' + k * 2, none⟩, .int .i64 ys[k].n), (⟨g', off' + k * 2 + 1, none⟩, .string ys[k].s)] wr := (((((H.of (L' := []) (fun _ h => by cases h)).cons d1).cons d0).cons c1).cons c0).cons HH.2.2 |>.cons HH.2.1
        have HC1 : Hid (ord09 xs ys = if less09 xs[k] ys[k] then -1 else if less09 ys[k] xs[k] then 1 else ord09 (xs.drop (k + 1)) (ys.drop (k + 1))) := by
          have := HC.out
          rw [drop_cons hlt, drop_cons hlt', ord09] at this
          exact this
        clear HC
        go_wp2_with fail
        clear HH c0 c1 d0 d1 H
        go_region_held3 (fun W => Kept w [(⟨w.heap.size, 0, none⟩, .slice (some ⟨g, off, none⟩) xs.length cap), (⟨w.heap.size + 1, 0, none⟩, .slice (some ⟨g', off', none⟩) ys.length cap'), (⟨g, off + k * 2, none⟩, .int .i64 xs[k].n), (⟨g, off + k * 2 + 1, none⟩, .string xs[k].s), (⟨g', off' + k * 2, none⟩, .int .i64 ys[k].n), (⟨g', off' + k * 2 + 1, none⟩, .string ys[k].s)] W ∧ W.cell? ⟨w.heap.size, 0, none⟩ = some (.slice (some ⟨g, off, none⟩) xs.length cap) ∧ W.cell? ⟨w.heap.size + 1, 0, none⟩ = some (.slice (some ⟨g', off', none⟩) ys.length cap') ∧ W.cell? ⟨g, off + k * 2, none⟩ = some (.int .i64 xs[k].n) ∧ W.cell? ⟨g, off + k * 2 + 1, none⟩ = some (.string xs[k].s) ∧ W.cell? ⟨g', off' + k * 2, none⟩ = some (.int .i64 ys[k].n) ∧ W.cell? ⟨g', off' + k * 2 + 1, none⟩ = some (.string ys[k].s))
          (first | exact Kept.c6 (Kept.up (by assumption) (And.left (by assumption))) | exact K.drew.c6)
          ((go_at_call 163; refine (less09_any xs[k] ys[k] _).mono ?_; rintro e w3 ⟨rfl, hb3⟩))
        rename_i hh
        clear K hb3
        cases hl : less09 xs[k] ys[k]
        · have HC2 : Hid (ord09 xs ys = if less09 ys[k] xs[k] then 1 else ord09 (xs.drop (k + 1)) (ys.drop (k + 1))) := by
            have := HC1.out
            rw [hl] at this
            exact this
          have K := hh.1
          clear HC1 hh
          go_wp2_with fail
          go_region_held3 (fun W => Kept w [(⟨w.heap.size, 0, none⟩, .slice (some ⟨g, off, none⟩) xs.length cap), (⟨w.heap.size + 1, 0, none⟩, .slice (some ⟨g', off', none⟩) ys.length cap'), (⟨g, off + k * 2, none⟩, .int .i64 xs[k].n), (⟨g, off + k * 2 + 1, none⟩, .string xs[k].s), (⟨g', off' + k * 2, none⟩, .int .i64 ys[k].n), (⟨g', off' + k * 2 + 1, none⟩, .string ys[k].s)] W ∧ W.cell? ⟨w.heap.size, 0, none⟩ = some (.slice (some ⟨g, off, none⟩) xs.length cap) ∧ W.cell? ⟨w.heap.size + 1, 0, none⟩ = some (.slice (some ⟨g', off', none⟩) ys.length cap') ∧ W.cell? ⟨g, off + k * 2, none⟩ = some (.int .i64 xs[k].n) ∧ W.cell? ⟨g, off + k * 2 + 1, none⟩ = some (.string xs[k].s) ∧ W.cell? ⟨g', off' + k * 2, none⟩ = some (.int .i64 ys[k].n) ∧ W.cell? ⟨g', off' + k * 2 + 1, none⟩ = some (.string ys[k].s))
            (first | exact Kept.c6 (Kept.up (by assumption) (And.left (by assumption))) | exact K.drew.c6)
            ((go_at_call 163; refine (less09_any ys[k] xs[k] _).mono ?_; rintro e w3 ⟨rfl, hb3⟩))
          rename_i hh
          clear K hb3
          cases hl2 : less09 ys[k] xs[k]
          · have HC3 : Hid (ord09 xs ys = ord09 (xs.drop (k + 1)) (ys.drop (k + 1))) := by
              have := HC2.out
              rw [hl2] at this
              exact this
            have K := hh.1
            clear HC2 hh
            go_wp2_with fail
            go_roundw
            case rel => exact ⟨k + 1, by omega, by omega, by go_num, HC3, K.of (by simp)⟩
            case measure => simp [intOf]; omega
          · have HC3 : Hid (ord09 xs ys = 1) := by
              have := HC2.out
              rw [hl2] at this
              exact this
            have K := hh.1
            clear HC2 hh
            go_wp2_with fail
            go_ret
            exact ⟨ret_int HC3.out.symm, K.1⟩
        · have HC2 : Hid (ord09 xs ys = -1) := by
            have := HC1.out
            rw [hl] at this
            exact this
          have K := hh.1
          clear HC1 hh
          go_wp2_with fail
          go_ret
          exact ⟨ret_int HC2.out.symm, K.1⟩
      · obtain rfl : k = ys.length := by omega
        have HC' : Hid (ord09 xs ys = 1) := by
          have := HC.out
          rw [drop_cons hlt, List.drop_length, ord09] at this
          exact this
        clear HC
        go_wp2_with fail
        go_ret
        exact ⟨ret_int HC'.out.symm, H.1⟩
    · obtain rfl : k = xs.length := by omega
      by_cases hlt' : xs.length < ys.length
      · have HC' : Hid (ord09 xs ys = -1) := by
          have := HC.out
          rw [drop_cons hlt', List.drop_length, ord09] at this
          exact this
        clear HC
        go_wp2_with fail
        go_ret
        exact ⟨ret_int HC'.out.symm, H.1⟩
      · have HC' : Hid (ord09 xs ys = 0) := by
          have := HC.out
          rw [show xs.length = ys.length by omega, List.drop_length, ← show xs.length = ys.length by omega, List.drop_length, ord09] at this
          exact this
        clear HC
        go_wp2_with fail
        go_ret
        exact ⟨ret_int HC'.out.symm, H.1⟩

set_option maxHeartbeats 800000 in
theorem rowOrderS_any (a : Option Addr) (n cap : Nat) (xs : List Val) (bs : List Nat) (b : Option Addr) (m cap' : Nat) (ys : List Val) (bs' : List Nat) (w : World) (h : SliceRep valE w a n cap xs bs) (h' : SliceRep valE w b m cap' ys bs') :
    Calls Try.prog 104 #[.agg #[.slice a n cap], .agg #[.slice b m cap']] w fun e w' => e = .returned (.int .i64 (rowOrder xs ys)) ∧ Below w.heap.size w w' := by
  have H0 := ((Held.start w).box_ #[.slice a n cap] 92).box_ #[.slice b m cap'] 92
  have hz : (w.alloc (.cells #[.slice a n cap] 92)).heap.size = w.heap.size + 1 := by simp
  rw [hz] at H0
  clear hz
  cases ha : rowOk xs
  · have HR := Lib.hid (show rowOrder xs ys = 2 by simp [rowOrder, ha])
    go_enter Try.func104, Try.ntmps104
    go_wp2_with fail
    refine (rowOkS_any _ _ _ xs _ _ (h.up H0.below)).mono ?_
    rintro e w1 ⟨rfl, hb1⟩
    go_wp2_with fail
    go_ret
    exact ⟨ret_int HR.out.symm, (H0.up hb1).below⟩
  · cases hb : rowOk ys
    · have HR := Lib.hid (show rowOrder xs ys = 2 by simp [rowOrder, hb])
      go_enter Try.func104, Try.ntmps104
      go_wp2_with fail
      refine (rowOkS_any _ _ _ xs _ _ (h.up H0.below)).mono ?_
      rintro e w1 ⟨rfl, hb1⟩
      have H1 := (H0.up hb1).s2
      clear H0 hb1
      go_wp2_with fail
      refine (rowOkS_any _ _ _ ys _ _ (h'.up H1.1.below)).mono ?_
      rintro e w2 ⟨rfl, hb2⟩
      go_wp2_with fail
      go_ret
      exact ⟨ret_int HR.out.symm, (H1.1.up hb2).below⟩
    · have HR := Lib.hid (show rowOrder xs ys = ord09 xs ys by simp [rowOrder, ha, hb])
      go_enter Try.func104, Try.ntmps104
      go_wp2_with fail
      refine (rowOkS_any _ _ _ xs _ _ (h.up H0.below)).mono ?_
      rintro e w1 ⟨rfl, hb1⟩
      have H1 := (H0.up hb1).s2
      clear H0 hb1
      go_wp2_with fail
      refine (rowOkS_any _ _ _ ys _ _ (h'.up H1.1.below)).mono ?_
      rintro e w2 ⟨rfl, hb2⟩
      have H2 := (H1.1.up hb2).s2
      clear H1 hb2
      go_wp2_with fail
      refine (l09Order_any _ _ _ xs _ _ _ _ ys _ _ (h.up H2.1.below) (h'.up H2.1.below)).mono ?_
      rintro e w3 ⟨rfl, hb3⟩
      have H3 := (H2.1.up hb3)
      clear H2 hb3
      go_wp2_with fail
      go_ret
      exact ⟨ret_int HR.out.symm, H3.below⟩
end Go.Proofs.Ytibhoanjglfaoaa

/- Right relations, in plain words. -/
namespace Go.Proofs.Ytibhoanjglfaoaa
open Go.RowKit
set_option linter.unusedVariables false

def rowAt (rows : List (List Val)) (ar : Int) : (k : Nat) → k < rows.length → Bool
  | 0, hk => rowOk rows[0] && ((rows[0].length : Int) == ar)
  | j + 1, hk => rowOk rows[j + 1] && ((rows[j + 1].length : Int) == ar) && decide (cmpRow rows[j] rows[j + 1] < 0)
def GoodTo (rows : List (List Val)) (ar : Int) (k : Nat) : Prop := ∀ j (h : j < rows.length), j < k → rowAt rows ar j h = true
theorem GoodTo.zero {rows : List (List Val)} {ar : Int} : GoodTo rows ar 0 := fun _ _ h => absurd h (by omega)
theorem GoodTo.succ {rows : List (List Val)} {ar : Int} {k : Nat} (h : GoodTo rows ar k) (hk : k < rows.length) (hp : rowAt rows ar k hk = true) : GoodTo rows ar (k + 1) := fun j hj hjk => by
  rcases Nat.lt_or_ge j k with h1 | h1
  · exact h j hj h1
  · obtain rfl : j = k := by omega
    exact hp
def relRows (rows : List (List Val)) (ar : Int) : Bool := (List.range rows.length).all fun k => if h : k < rows.length then rowAt rows ar k h else true
theorem GoodTo.all {rows : List (List Val)} {ar : Int} (h : GoodTo rows ar rows.length) : relRows rows ar = true := by
  unfold relRows
  rw [List.all_eq_true]
  intro k hk
  have hk' : k < rows.length := by simpa using hk
  rw [dif_pos hk']
  exact h k hk' hk'
theorem relRows_good {rows : List (List Val)} {ar : Int} (h : relRows rows ar = true) : GoodTo rows ar rows.length := by
  intro j hj _
  unfold relRows at h
  rw [List.all_eq_true] at h
  have := h j (by simpa using hj)
  rwa [dif_pos hj] at this
theorem relRows_bad {rows : List (List Val)} {ar : Int} {k : Nat} (hk : k < rows.length) (hp : rowAt rows ar k hk = false) : relRows rows ar = false := by
  cases h : relRows rows ar
  · rfl
  · have := relRows_good h k hk hk
    rw [hp] at this; cases this
theorem GoodTo.row {rows : List (List Val)} {ar : Int} {k j : Nat} (h : GoodTo rows ar k) (hj : j < rows.length) (hjk : j < k) : rowOk rows[j] = true := by
  have := h j hj hjk
  cases j with
  | zero => simp only [rowAt, Bool.and_eq_true] at this; exact this.1
  | succ j => simp only [rowAt, Bool.and_eq_true] at this; exact this.1.1
def relOk (r : Relt) : Bool := relRows r.rows r.arity && (decide (0 ≤ r.arity ∧ r.arity ≤ 6) && decide (r.rows.length ≤ 300))


def upToB (n m : Int) : Bool := decide (0 ≤ n ∧ n ≤ m)
theorem upToB_iff {n m : Int} : upToB n m = true ↔ 0 ≤ n ∧ n ≤ m := by simp [upToB]
theorem upToB_not {n m : Int} {p : Prop} (h : upToB n m = false) (hp : ¬ (0 ≤ n ∧ n ≤ m) → p) : p := hp (by simpa [upToB] using h)
theorem relOk_range {r : Relt} (h : r.arity < 0 ∨ 6 < r.arity ∨ 300 < r.rows.length) : relOk r = false := by
  have : (decide (0 ≤ r.arity ∧ r.arity ≤ 6) && decide (r.rows.length ≤ 300)) = false := by
    by_cases h1 : 0 ≤ r.arity ∧ r.arity ≤ 6
    · simp [h1]; omega
    · simp [h1]
  unfold relOk; rw [this]; simp
theorem relOk_bad {r : Relt} {k : Nat} (hk : k < r.rows.length) (h : rowAt r.rows r.arity k hk = false) : relOk r = false := by
  unfold relOk; rw [relRows_bad hk h]; rfl
theorem relOk_good {r : Relt} {k : Nat} (h : GoodTo r.rows r.arity k) (hk : r.rows.length ≤ k) (h0 : 0 ≤ r.arity) (h1 : r.arity ≤ 6) (h2 : r.rows.length ≤ 300) : relOk r = true := by
  have hg : GoodTo r.rows r.arity r.rows.length := fun j hj _ => h j hj (by omega)
  unfold relOk; rw [hg.all]; simp [h0, h1, h2]
theorem rowAt_len {rows : List (List Val)} {ar : Int} {k : Nat} (hk : k < rows.length) (h : ¬ (rows[k].length : Int) = ar) : rowAt rows ar k hk = false := by
  cases k <;> simp [rowAt, h]
theorem rowAt_row {rows : List (List Val)} {ar : Int} {k : Nat} (hk : k < rows.length) (h : rowOk rows[k] = false) : rowAt rows ar k hk = false := by
  cases k <;> simp [rowAt, h]
theorem rowAt_first {rows : List (List Val)} {ar : Int} {k : Nat} (hk : k < rows.length) (h1 : (rows[k].length : Int) = ar) (h2 : rowOk rows[k] = true) (h0 : k = 0) : rowAt rows ar k hk = true := by
  subst h0; simp [rowAt, h1, h2]
theorem rowAt_next {rows : List (List Val)} {ar : Int} {k : Nat} (hk : k < rows.length) (h1 : (rows[k].length : Int) = ar) (h2 : rowOk rows[k] = true) (h0 : 0 < k) (h3 : cmpRow rows[k - 1] rows[k] < 0) : rowAt rows ar k hk = true := by
  obtain ⟨j, rfl⟩ : ∃ j, k = j + 1 := ⟨k - 1, by omega⟩
  simp only [Nat.add_sub_cancel] at h3
  simp [rowAt, h1, h2, h3]
theorem rowAt_order {rows : List (List Val)} {ar : Int} {k : Nat} (hk : k < rows.length) (h0 : 0 < k) (h3 : ¬ cmpRow rows[k - 1] rows[k] < 0) : rowAt rows ar k hk = false := by
  obtain ⟨j, rfl⟩ : ∃ j, k = j + 1 := ⟨k - 1, by omega⟩
  simp only [Nat.add_sub_cancel] at h3
  simp only [rowAt, h3, decide_false, Bool.and_false]
/-- The reference's answer tells the order of right rows. -/
theorem rowOrder_lt {a b : List Val} (ha : rowOk a = true) (hb : rowOk b = true) : rowOrder a b = -1 ↔ cmpRow a b < 0 := by
  have : rowOrder a b = max (-1) (min (cmpRow a b) 1) := by simp [rowOrder, ha, hb, ord09_eq]
  rw [this]; omega
end Go.Proofs.Ytibhoanjglfaoaa

/- Contracts that were walked before, said for the abstract walk. -/
namespace Go.Proofs.Ytibhoanjglfaoaa
open Go.RowKit
set_option linter.unusedVariables false
set_option maxRecDepth 100000

theorem Step.of_below {g : Gh} {w w' : World} (h : Below w.heap.size w w') : Step (keys ([] : Locs)) g [] w g [] w' :=
  ⟨h.os, h.tape, h.output, h.size, fun b hb _ => h.block b hb, fun _ h => h, fun _ h => .inl h, fun b ⟨k, blk, hk, _⟩ => (by simp [lkl, lk] at hk), fun k hk => (by cases hk)⟩
theorem MemR.of_below {g : Gh} {w w' : World} (m : MemR g [] w) (h : Below w.heap.size w w') : MemR g [] w' :=
  ⟨fun b hb => Nat.lt_of_lt_of_le (m.ilt b hb) h.size, fun k cs hk => (by simp [lkl, lk] at hk), fun k α T e xs d hk => (by simp [lkl, lk] at hk), fun j k b b' _ hj => (by simp [lkl, lk] at hj), fun k α T e xs hk => (by simp [lkl, lk] at hk), fun j k α β T U e f xs ys _ hj => (by simp [lkl, lk] at hj)⟩
theorem AC.pure {P : Program} {f : FuncId} {args : List AVal} {v : Value} (hc : Callable P f) (hw : wfV v) (h : ∀ (w : World) (g : Gh) (cargs : Array Value), All2 (VR1 g [] w) cargs.toList args → Calls P f cargs w fun e w' => e = .returned v ∧ Below w.heap.size w w') : AC P f args [] (.one (.c v)) [] :=
  ⟨hc, fun g w cargs m ha => (h w g cargs ha).mono fun e w' ⟨he, hb⟩ => ⟨v, g, he, m.of_below hb, ⟨rfl, hw⟩, Step.of_below hb⟩⟩
theorem AC.pure2 {P : Program} {f : FuncId} {args : List AVal} {u v : Value} (hc : Callable P f) (hu : wfV u) (hw : wfV v) (h : ∀ (w : World) (g : Gh) (cargs : Array Value), All2 (VR1 g [] w) cargs.toList args → Calls P f cargs w fun e w' => e = .returned (.tuple #[u, v]) ∧ Below w.heap.size w w') : AC P f args [] (.tup [.one (.c u), .one (.c v)]) [] :=
  ⟨hc, fun g w cargs m ha => (h w g cargs ha).mono fun e w' ⟨he, hb⟩ => ⟨_, g, he, m.of_below hb, ⟨[u, v], rfl, ⟨rfl, hu⟩, ⟨rfl, hw⟩, trivial⟩, Step.of_below hb⟩⟩
theorem below_eq {w w' : World} (h : w = w') : Below w.heap.size w w' := by subst h; exact Below.refl _ _

section
variable {g : Gh} {l : Locs} {w : World}
theorem inv1 {R : Value → AVal → Prop} {a : Array Value} {x : AVal} (h : All2 R a.toList [x]) : ∃ v, a = #[v] ∧ R v x := by
  obtain ⟨a⟩ := a
  match a, h with
  | [v], h => exact ⟨v, rfl, h.1⟩
theorem inv2 {R : Value → AVal → Prop} {a : Array Value} {x y : AVal} (h : All2 R a.toList [x, y]) : ∃ u v, a = #[u, v] ∧ R u x ∧ R v y := by
  obtain ⟨a⟩ := a
  match a, h with
  | [u, v], h => exact ⟨u, v, rfl, h.1, h.2.1⟩
theorem inv3 {R : Value → AVal → Prop} {a : Array Value} {x y z : AVal} (h : All2 R a.toList [x, y, z]) : ∃ u v t, a = #[u, v, t] ∧ R u x ∧ R v y ∧ R t z := by
  obtain ⟨a⟩ := a
  match a, h with
  | [u, v, t], h => exact ⟨u, v, t, rfl, h.1, h.2.1, h.2.2.1⟩
theorem inv_val {v : Value} {a : Val} (h : VR1 g l w v (.agg (valC a))) : v = .agg #[.int .i64 a.n, .string a.s] ∧ (Lit.int .i64 a.n).wf = true ∧ a.s.size ≤ maxLen := by
  obtain ⟨vs, e1, e2⟩ := h
  match vs, e2 with
  | [x, y], ⟨⟨f1, f2⟩, ⟨f3, f4⟩, _⟩ => subst f1; subst f3; exact ⟨e1, f2, f4⟩
theorem inv_row {v : Value} {r : List Val} (h : VR1 g l w v (.agg (rowC r))) : ∃ a n cap bs, v = .agg #[.slice a n cap] ∧ SliceRep valE w a n cap r bs := by
  obtain ⟨vs, e1, e2⟩ := h
  match vs, e2 with
  | [x], ⟨⟨a, n, cap, bs, f1, f2, _⟩, _⟩ => subst f1; exact ⟨a, n, cap, bs, e1, f2⟩
theorem inv_c {v u : Value} (h : VR1 g l w v (.one (.c u))) : v = u ∧ wfV u := h
end

def relC (r : Relt) : List Cell := [.c (.int .i64 r.arity), .sl rowE r.rows]
instance : CellsOf relE relC := ⟨fun {w vs x b} => by
  rw [Rel_rep]
  constructor
  · rintro ⟨a, n, cap, sb, rfl, h1, h2, rfl⟩; exact ⟨[], _, rfl, ⟨rfl, h1, rfl⟩, b, [], by simp, ⟨a, n, cap, rfl, h2⟩, rfl⟩
  · intro h
    match vs, h with
    | [u, v], ⟨b1, b2, hb, ⟨h1, h2, h3⟩, b3, b4, hb', ⟨a, n, cap, h4, h5⟩, h7⟩ =>
      simp only [FR] at h7
      subst h3; subst h7; subst h1; subst h4; subst hb'
      exact ⟨a, n, cap, b3, rfl, h2, h5, by simpa using hb⟩⟩
theorem valueOkI_c (v : Val) : AC Try.prog 145 [.agg (valC v)] [] (.one (.c (.bool (valOk v)))) [] :=
  AC.pure ⟨_, _, Try.func145, rfl, rfl⟩ trivial fun w g cargs h => by
    obtain ⟨x, rfl, h1⟩ := inv1 h
    obtain ⟨rfl, _, hs⟩ := inv_val h1
    exact valueOkI_any v.n v.s w hs
theorem valueOkS_c (v : Val) : AC Try.prog 140 [.agg (valC v)] [] (.one (.c (.bool (valOk v)))) [] :=
  AC.pure ⟨_, _, Try.func140, rfl, rfl⟩ trivial fun w g cargs h => by
    obtain ⟨x, rfl, h1⟩ := inv1 h
    obtain ⟨rfl, _, hs⟩ := inv_val h1
    exact valueOkS_any v.n v.s w hs
theorem rowOkI_c (r : List Val) : AC Try.prog 106 [.agg (rowC r)] [] (.one (.c (.bool (rowOk r)))) [] :=
  AC.pure ⟨_, _, Try.func106, rfl, rfl⟩ trivial fun w g cargs h => by
    obtain ⟨x, rfl, h1⟩ := inv1 h
    obtain ⟨a, n, cap, bs, rfl, hs⟩ := inv_row h1
    exact rowOkI_any a n cap r bs w hs
theorem rowOkS_c (r : List Val) : AC Try.prog 103 [.agg (rowC r)] [] (.one (.c (.bool (rowOk r)))) [] :=
  AC.pure ⟨_, _, Try.func103, rfl, rfl⟩ trivial fun w g cargs h => by
    obtain ⟨x, rfl, h1⟩ := inv1 h
    obtain ⟨a, n, cap, bs, rfl, hs⟩ := inv_row h1
    exact rowOkS_any a n cap r bs w hs
theorem ord09_range (xs ys : List Val) : -1 ≤ ord09 xs ys ∧ ord09 xs ys ≤ 1 := by rw [ord09_eq]; omega
theorem rowOrder_range (xs ys : List Val) : -1 ≤ rowOrder xs ys ∧ rowOrder xs ys ≤ 2 := by
  have := ord09_range xs ys
  unfold rowOrder; split <;> omega
theorem byRow_c (a b : List Val) (ha : ∀ v ∈ a, valOk v = true) (hb : ∀ v ∈ b, valOk v = true) : AC Try.prog 107 [.agg (rowC a), .agg (rowC b)] [] (.one (.c (.int .i64 (cmpRow a b)))) [] :=
  AC.pure ⟨_, _, Try.func107, rfl, rfl⟩ (WalkArith.wf_i64 (by have := cmpRow_range a b ha hb; omega)) fun w g cargs h => by
    obtain ⟨x, y, rfl, h1, h2⟩ := inv2 h
    obtain ⟨a1, n1, cap1, bs1, rfl, hs1⟩ := inv_row h1
    obtain ⟨a2, n2, cap2, bs2, rfl, hs2⟩ := inv_row h2
    exact byRow_any a1 n1 cap1 a bs1 a2 n2 cap2 b bs2 w hs1 hs2 ha hb
theorem rowOrderS_c (a b : List Val) : AC Try.prog 104 [.agg (rowC a), .agg (rowC b)] [] (.one (.c (.int .i64 (rowOrder a b)))) [] :=
  AC.pure ⟨_, _, Try.func104, rfl, rfl⟩ (WalkArith.wf_i64 (by have := rowOrder_range a b; omega)) fun w g cargs h => by
    obtain ⟨x, y, rfl, h1, h2⟩ := inv2 h
    obtain ⟨a1, n1, cap1, bs1, rfl, hs1⟩ := inv_row h1
    obtain ⟨a2, n2, cap2, bs2, rfl, hs2⟩ := inv_row h2
    exact rowOrderS_any a1 n1 cap1 a bs1 a2 n2 cap2 b bs2 w hs1 hs2
end Go.Proofs.Ytibhoanjglfaoaa

/- Data that lead nowhere. -/
namespace Go.Proofs.Ytibhoanjglfaoaa
open Go.RowKit
set_option linter.unusedVariables false
theorem valE_nofp : ∀ w cs (y : Val) b, valE.rep w cs y b → b = [] := fun w cs y b h => (valE_rep.1 h).2.2.2
theorem strE_nofp : ∀ w cs (y : ByteArray) b, strE.rep w cs y b → b = [] := fun w cs y b h => h.2.2
theorem intE_nofp {k : IntKind} : ∀ w cs (y : Int) b, (intE k).rep w cs y b → b = [] := fun w cs y b h => h.2.2
/-! truth values compared -/
section ops
variable {P : Program} {N : Nat} {s : St} {d : Nat} {ty : TypeId} {pos : String} {after : Array Edge} {gd : Option (Nat × Bool)}
theorem x_bool2 {op : BinOp} {T T' : TypeId} {x y : Operand} {m n : Bool} {v : Value} (hN : Nat.blt d N = true) (h : evo s.t x = some (.one (.c (.bool m)))) (h2 : evo s.t y = some (.one (.c (.bool n))))
    (hr : ∀ w, (binOp op T (.bool m) (.bool n)).run P w = .ok v w) (hw : wfV v) :
    Stp P N ⟨some d, .binOp op T x y T', ty, pos, after, gd⟩ s ⟨(d, .one (.c v)) :: s.t, s.l⟩ ⟨rdo x (.one (.c (.bool m))) ++ rdo y (.one (.c (.bool n))), [], [(d, .one (.c v))], [], []⟩ :=
  Stp.pure rfl hN (two_rd h h2) (by simp) fun g s' a w ht hl' r => by
    obtain ⟨⟨e1, w1⟩, e2, w2⟩ := two_c r (evs_of h) (evs_of h2) ht
    refine ⟨v, run_binOp rfl ?_, rfl, hw⟩
    rw [e1, e2]
    have hg : (eqGuard op T x y (.bool m) (.bool n)).run P w = .ok () w := by cases op <;> rfl
    simp only [Sem.run_bind, hg, Result.andThen_ok, hr]
theorem x_beql {T T' : TypeId} {x y : Operand} {m n : Bool} (hN : Nat.blt d N = true) (h : evo s.t x = some (.one (.c (.bool m)))) (h2 : evo s.t y = some (.one (.c (.bool n)))) (hT : P.underlying T = some .bool) :
    Stp P N ⟨some d, .binOp .eql T x y T', ty, pos, after, gd⟩ s ⟨(d, .one (.c (.bool (m == n)))) :: s.t, s.l⟩ ⟨rdo x (.one (.c (.bool m))) ++ rdo y (.one (.c (.bool n))), [], [(d, .one (.c (.bool (m == n))))], [], []⟩ :=
  x_bool2 hN h h2 (fun w => run_eql_bool w T m n hT) trivial
theorem x_bneq {T T' : TypeId} {x y : Operand} {m n : Bool} (hN : Nat.blt d N = true) (h : evo s.t x = some (.one (.c (.bool m)))) (h2 : evo s.t y = some (.one (.c (.bool n)))) (hT : P.underlying T = some .bool) :
    Stp P N ⟨some d, .binOp .neq T x y T', ty, pos, after, gd⟩ s ⟨(d, .one (.c (.bool (!(m == n))))) :: s.t, s.l⟩ ⟨rdo x (.one (.c (.bool m))) ++ rdo y (.one (.c (.bool n))), [], [(d, .one (.c (.bool (!(m == n)))))], [], []⟩ :=
  x_bool2 hN h h2 (fun w => run_neq_bool w T m n hT) trivial
end ops
/-! rows picked out -/
def filtTo {α : Type} (p : α → Bool) (rows : List α) (k : Nat) : List α := (rows.take k).filter p
theorem filtTo_zero {α : Type} {p : α → Bool} {rows : List α} : ([] : List α) = filtTo p rows 0 := rfl
theorem filtTo_yes {α : Type} {p : α → Bool} {rows : List α} {k : Nat} (hk : k < rows.length) (h : p rows[k] = true) : filtTo p rows k ++ [rows[k]] = filtTo p rows (k + 1) := by
  unfold filtTo; rw [List.take_succ_eq_append_getElem hk, List.filter_append]; simp [h]
theorem filtTo_no {α : Type} {p : α → Bool} {rows : List α} {k : Nat} (hk : k < rows.length) (h : p rows[k] = false) : filtTo p rows k = filtTo p rows (k + 1) := by
  unfold filtTo; rw [List.take_succ_eq_append_getElem hk, List.filter_append]; simp [h]
theorem filtTo_len {α : Type} {p : α → Bool} {rows : List α} {k : Nat} : (filtTo p rows k).length ≤ rows.length := by
  unfold filtTo; exact Nat.le_trans (List.length_filter_le ..) (by simp; omega)
theorem filtTo_all {α : Type} {p : α → Bool} {rows : List α} {k : Nat} (hk : rows.length ≤ k) : filtTo p rows k = rows.filter p := by
  unfold filtTo; rw [List.take_of_length_le hk]
end Go.Proofs.Ytibhoanjglfaoaa

/- The abstract walk: a slice is nil or it is not. -/
namespace Go.Proofs.Ytibhoanjglfaoaa
open Go.RowKit
set_option linter.unusedVariables false
def caught (L : Locs) (ks : List Nat) : Bool := ks.all fun k => L.any fun p => Nat.beq p.1 k && (match p.2 with | some (.box _) => true | _ => false)
theorem caught_of {L : Locs} {ks : List Nat} (h : caught L ks = true) : ∀ k ∈ ks, ∃ cs, (k, some (Blk.box cs)) ∈ L := fun k hk => by
  obtain ⟨⟨j, b⟩, h1, h2⟩ := List.any_eq_true.1 (List.all_eq_true.1 h k hk)
  simp only [Bool.and_eq_true] at h2
  have e := Nat.eq_of_beq_eq_true h2.1
  subst e
  match b, h2.2, h1 with
  | some (.box cs), _, h1 => exact ⟨cs, h1⟩
section rules
variable {P : Program} {N : Nat} {K : List Nat} {Kn : St → Prop} {Q : Exit → St → Prop} {s : St}
theorem AW_split {α : Type} {e : Enc α} {xs : List α} {c : Code} (t : Nat) (h : lk s.t t = some (.one (.sl e xs))) (h1 : xs = [] → AW P N K c Kn Q ⟨(t, .one (.c (.slice none 0 0))) :: s.t, s.l⟩)
    (h2 : AW P N K c Kn Q ⟨(t, .one (.sn e xs)) :: s.t, s.l⟩) : AW P N K c Kn Q s := fun g a w r => by
  obtain ⟨ad, n, cap, bs, hv, hS, hI⟩ : CellR g s.l w (a.tmps.getD t undef) (.sl e xs) := r.tmp t _ h
  have up : ∀ {x : AVal}, VR g s.l w (a.tmps.getD t undef) x → Rep N g ⟨(t, x) :: s.t, s.l⟩ a w := fun {x} hx => ⟨r.size, r.defers, fun j y hj => by
    by_cases e : t = j
    · subst e; rw [lk_cons_self] at hj; cases hj; exact hx
    · rw [lk_cons_ne e] at hj; exact r.tmp j y hj, r.mem⟩
  cases ad with
  | none =>
    have hc := hS.2.2.2.1 rfl
    have hn : n = 0 := by have := hS.2.1; omega
    have hx : xs = [] := List.eq_nil_of_length_eq_zero (by have := hS.1; omega)
    subst hc; subst hn
    exact h1 hx g a w (up (x := .one (.c (.slice none 0 0))) ⟨hv, trivial⟩)
  | some ad => exact h2 g a w (up (x := .one (.sn e xs)) ⟨ad, n, cap, bs, hv, hS, hI⟩)
end rules
section names
variable {P : Program} {N : Nat} {dr : Bool} {ops r : List Oper} {opsA : Array Oper} {Kn : St → Prop} {s : St} {acc : List Cert}
/-- A truth value that a call with lent blocks returns gets a name. -/
theorem AL_bc {d : Nat} {op : Op} {ty : TypeId} {pos : String} {after : Array Edge} {e : Bool} {l' wl : Locs} {nw : List Nat} {rt : List (Nat × AVal)} {rl : List (Nat × Blk)} (h : Stp P N ⟨some d, op, ty, pos, after, none⟩ s ⟨(d, .one (.c (.bool e))) :: s.t, l'⟩ ⟨rt, rl, [(d, .one (.c (.bool e)))], wl, nw⟩)
    (next : ∀ b, e = b → AL P N dr opsA Kn r ⟨(d, .one (.c (.bool b))) :: s.t, l'⟩ (⟨rt, rl, [(d, .one (.c (.bool b)))], wl, nw⟩ :: acc)) : AL P N dr opsA Kn (⟨some d, op, ty, pos, after, none⟩ :: r) s acc :=
  AL_p h (next e rfl)
theorem AL_gbc {d : Nat} {op : Op} {ty : TypeId} {pos : String} {after : Array Edge} {j t : Nat} {g : Bool} {e : Bool} {l' wl : Locs} {nw : List Nat} {rt : List (Nat × AVal)} {rl : List (Nat × Blk)} (hj : gslot opsA j = some t) (hb : lk s.t t = some (.one (.c (.bool g))))
    (h : Stp P N ⟨some d, op, ty, pos, after, some (j, g)⟩ s ⟨(d, .one (.c (.bool e))) :: s.t, l'⟩ ⟨rt, rl, [(d, .one (.c (.bool e)))], wl, nw⟩)
    (next : ∀ b, e = b → AL P N dr opsA Kn r ⟨(d, .one (.c (.bool b))) :: s.t, l'⟩ (⟨(t, .one (.c (.bool g))) :: rt, rl, [(d, .one (.c (.bool b)))], wl, nw⟩ :: acc)) : AL P N dr opsA Kn (⟨some d, op, ty, pos, after, some (j, g)⟩ :: r) s acc :=
  AL_g hj hb h (next e rfl)
end names
section ops
variable {P : Program} {N : Nat} {s : St} {d : Nat} {ty : TypeId} {pos : String} {after : Array Edge} {gd : Option (Nat × Bool)}
theorem guard_slice {op : BinOp} {T : TypeId} {x y : Operand} {a b : Option Addr} {n c m k : Nat} {w : World} : (eqGuard op T x y (.slice a n c) (.slice b m k)).run P w = .ok () w := by cases op <;> rfl
theorem x_nilnil {T T' E n : Nat} {x y : Operand} (hN : Nat.blt d N = true) (h : evo s.t x = some (.one (.c (.slice none 0 0)))) (h2 : evo s.t y = some (.one (.c (.slice none 0 0)))) (hT : sliceT P T = some (E, n)) :
    Stp P N ⟨some d, .binOp .eql T x y T', ty, pos, after, gd⟩ s ⟨(d, .one (.c (.bool true))) :: s.t, s.l⟩ ⟨rdo x (.one (.c (.slice none 0 0))) ++ rdo y (.one (.c (.slice none 0 0))), [], [(d, .one (.c (.bool true)))], [], []⟩ :=
  Stp.pure rfl hN (two_rd h h2) (by simp) fun g s' a w ht hl' r => by
    obtain ⟨⟨e1, _⟩, e2, _⟩ := two_c r (evs_of h) (evs_of h2) ht
    refine ⟨.bool true, run_binOp rfl ?_, rfl, trivial⟩
    rw [e1, e2]
    simp only [Sem.run_bind, guard_slice, Result.andThen_ok, Lib.run_eql_slice_nil w T E none 0 0 0 0 (sliceT_spec hT).1]; rfl
theorem x_snnil {α : Type} {e : Enc α} {xs : List α} {T T' E n : Nat} {x y : Operand} (hN : Nat.blt d N = true) (h : evo s.t x = some (.one (.sn e xs))) (h2 : evo s.t y = some (.one (.c (.slice none 0 0)))) (hT : sliceT P T = some (E, n)) :
    Stp P N ⟨some d, .binOp .eql T x y T', ty, pos, after, gd⟩ s ⟨(d, .one (.c (.bool false))) :: s.t, s.l⟩ ⟨rdo x (.one (.sn e xs)) ++ rdo y (.one (.c (.slice none 0 0))), [], [(d, .one (.c (.bool false)))], [], []⟩ :=
  Stp.pure rfl hN (two_rd h h2) (by simp) fun g s' a w ht hl' r => by
    obtain ⟨ad, m, cap, bs, e1, _⟩ : CellR g s'.l w (a.eval x) (.sn e xs) := eval_ok r (evs_of h) fun p hp => ht p (List.mem_append_left _ hp)
    obtain ⟨e2, _⟩ : a.eval y = .slice none 0 0 ∧ wfV _ := eval_ok r (evs_of h2) fun p hp => ht p (List.mem_append_right _ hp)
    refine ⟨.bool false, run_binOp rfl ?_, rfl, trivial⟩
    rw [e1, e2]
    simp only [Sem.run_bind, guard_slice, Result.andThen_ok, Lib.run_eql_slice_nil w T E (some ad) m cap 0 0 (sliceT_spec hT).1]; rfl
theorem x_move_sn {α : Type} {e : Enc α} {xs : List α} {x : Operand} (hN : Nat.blt d N = true) (h : evo s.t x = some (.one (.sn e xs))) : Stp P N ⟨some d, .move x, ty, pos, after, gd⟩ s ⟨(d, .one (.sl e xs)) :: s.t, s.l⟩ ⟨rdo x (.one (.sn e xs)), [], [(d, .one (.sl e xs))], [], []⟩ :=
  Stp.pure rfl hN (rdo_of h) (by simp) fun g s' a w ht hl' r => by
    obtain ⟨ad, m, cap, bs, e1, e2, e3⟩ : CellR g s'.l w (a.eval x) (.sn e xs) := eval_ok r (evs_of h) ht
    exact ⟨a.eval x, by simp [execOp], some ad, m, cap, bs, e1, e2, e3⟩
end ops
/-- What lies in memory is not too long. -/
theorem AW_slmax {P : Program} {N : Nat} {K : List Nat} {c : Code} {Kn : St → Prop} {Q : Exit → St → Prop} {s : St} {α : Type} {e : Enc α} {xs : List α} (t : Nat) (h : lk s.t t = some (.one (.sl e xs))) (hA : xs.length ≤ 9223372036854775807 → AW P N K c Kn Q s) : AW P N K c Kn Q s := fun g a w r => by
  obtain ⟨a0, n, cap, bs, _, h1, _⟩ : ∃ a0 n cap bs, a.tmps.getD t undef = .slice a0 n cap ∧ SliceRep e w a0 n cap xs bs ∧ ∀ b ∈ bs, g.I b := r.tmp t _ h
  exact hA h1.max g a w r
theorem AW_aggmax {P : Program} {N : Nat} {K : List Nat} {c : Code} {Kn : St → Prop} {Q : Exit → St → Prop} {s : St} {α : Type} {e : Enc α} {xs : List α} {cs : List Cell} (t i : Nat) (h : lk s.t t = some (.agg cs)) (hi : nthC cs i = some (.sl e xs)) (hA : xs.length ≤ 9223372036854775807 → AW P N K c Kn Q s) : AW P N K c Kn Q s := fun g a w r => by
  obtain ⟨vs, _, h2⟩ : ∃ vs : List Value, a.tmps.getD t undef = .agg vs.toArray ∧ All2 (CellR g s.l w) vs cs := r.tmp t _ h
  obtain ⟨v, _, h4⟩ := h2.get (nthC_get hi)
  obtain ⟨a0, n, cap, bs, _, h1, _⟩ := h4
  exact hA h1.max g a w r
theorem AW_aggsmax {P : Program} {N : Nat} {K : List Nat} {c : Code} {Kn : St → Prop} {Q : Exit → St → Prop} {s : St} {b : ByteArray} {cs : List Cell} (t i : Nat) (h : lk s.t t = some (.agg cs)) (hi : nthC cs i = some (.c (.string b))) (hA : b.size ≤ 9223372036854775807 → AW P N K c Kn Q s) : AW P N K c Kn Q s := fun g a w r => by
  obtain ⟨vs, _, h2⟩ : ∃ vs : List Value, a.tmps.getD t undef = .agg vs.toArray ∧ All2 (CellR g s.l w) vs cs := r.tmp t _ h
  obtain ⟨v, _, h4⟩ := h2.get (nthC_get hi)
  exact hA (by have h3 : b.size ≤ maxLen := h4.2; unfold maxLen at h3; omega) g a w r
/-- A text in a slot is not too long. -/
theorem AW_strmax {P : Program} {N : Nat} {K : List Nat} {c : Code} {Kn : St → Prop} {Q : Exit → St → Prop} {s : St} {b : ByteArray} (t : Nat) (h : lk s.t t = some (.one (.c (.string b)))) (hA : b.size ≤ 9223372036854775807 → AW P N K c Kn Q s) : AW P N K c Kn Q s := fun g a w r => by
  obtain ⟨_, h1⟩ : a.tmps.getD t undef = .string b ∧ wfV (.string b) := r.tmp t _ h
  exact hA (by have h2 : b.size ≤ maxLen := h1; unfold maxLen at h2; omega) g a w r
theorem ba_beq_self (a : ByteArray) : (a == a) = true := by rw [beq_toListBytes]; simp
end Go.Proofs.Ytibhoanjglfaoaa

/- From a contract of the abstract walk back to a call in a world. -/
namespace Go.Proofs.Ytibhoanjglfaoaa
open Go.RowKit
set_option linter.unusedVariables false

/-- All memory that stands is read alone. -/
def allI (w : World) : Gh := ⟨fun b => b < w.heap.size, id, fun _ => .slice none 0 0, fun _ => []⟩
theorem allI_mem (w : World) : MemR (allI w) [] w :=
  ⟨fun b hb => hb, fun k cs hk => (by simp [lkl, lk] at hk), fun k α T e xs d hk => (by simp [lkl, lk] at hk), fun j k b b' _ hj => (by simp [lkl, lk] at hj), fun k α T e xs hk => (by simp [lkl, lk] at hk), fun j k α β T U e f xs ys _ hj => (by simp [lkl, lk] at hj)⟩
theorem Step.below {g g' : Gh} {w w' : World} (h : Step (keys ([] : Locs)) g [] w g' [] w') : Below w.heap.size w w' :=
  ⟨h.os, h.tape, h.output, h.size, fun b hb => h.keep b hb fun k blk hk => (by simp [lkl, lk] at hk)⟩
theorem AC.calls {P : Program} {f : FuncId} {args : List AVal} {v : Value} (h : AC P f args [] (.one (.c v)) []) (w : World) (cargs : Array Value) (ha : All2 (VR1 (allI w) [] w) cargs.toList args) :
    Calls P f cargs w fun e w' => e = .returned v ∧ Below w.heap.size w w' :=
  (h.run (allI w) w cargs (allI_mem w) ha).mono fun e w' ⟨u, g', he, _, hv, hs⟩ => ⟨by rw [he, show u = v from hv.1], hs.below⟩
theorem arg_agg {α : Type} {e : Enc α} {f : α → List Cell} [i : CellsOf e f] {w : World} {cs : Array Value} {x : α} {b : List Nat} (h : e.rep w cs.toList x b) : VR1 (allI w) [] w (.agg cs) (.agg (f x)) :=
  ⟨cs.toList, rfl, (i.iff.1 h).all2 fun j hj => e.lt h j hj⟩
theorem arg_sl {α : Type} {e : Enc α} {w : World} {a : Option Addr} {n cap : Nat} {xs : List α} {b : List Nat} (h : SliceRep e w a n cap xs b) (hb : ∀ i ∈ b, i < w.heap.size) : VR1 (allI w) [] w (.slice a n cap) (.one (.sl e xs)) := ⟨a, n, cap, b, rfl, h, hb⟩
end Go.Proofs.Ytibhoanjglfaoaa

/- From contracts that leave own memory to calls in a world: what is handed back is fresh. -/
namespace Go.Proofs.Ytibhoanjglfaoaa
open Go.RowKit
set_option linter.unusedVariables false

theorem Step.below' {K : List Nat} {g g' : Gh} {l' : Locs} {w w' : World} (h : Step K g [] w g' l' w') : Below w.heap.size w w' :=
  ⟨h.os, h.tape, h.output, h.size, fun b hb => h.keep b hb fun k blk hk => (by simp [lkl, lk] at hk)⟩
theorem fresh_of {α : Type} {E : Enc α} {F : α → List Cell} [hc : CellsOf E F] {K : List Nat} {g g' : Gh} {l' : Locs} {w w' : World} (m : MemR g' l' w') (hs : Step K g [] w g' l' w') {x : α} {vs : List Value} {cs ds : List Cell} {js : List Nat}
    (hA : All2 (CellR g' l' w') vs cs) (hmv : mvC l' cs = some (ds, js, true)) (hjs : noDup js = true) (hfit : FitL ds (F x)) : ∃ bs, E.rep w' vs x bs ∧ Fresh w.heap.size w' bs := by
  obtain ⟨bs, f1, f2, f3⟩ := mvC_ok m hA hmv (noDup_of hjs)
  obtain ⟨n1, n2⟩ := f3 rfl
  refine ⟨bs, hc.iff.2 (f1.fit hfit), n1, fun b hb => ?_⟩
  obtain ⟨j, _, hv⟩ := n2 b hb
  refine ⟨?_, hv.cells m⟩
  rcases hs.own b hv.own with ⟨k, blk, hk, _⟩ | h
  · simp [lkl, lk] at hk
  · exact h
theorem AC.retTup {P : Program} {f : FuncId} {args : List AVal} {L' : Locs} {α : Type} {E : Enc α} {F : α → List Cell} [hc : CellsOf E F] {x : α} {cs ds : List Cell} {js : List Nat} {v : Value} (h : AC P f args [] (.tup [.agg cs, .one (.c v)]) L')
    (hmv : mvC L' cs = some (ds, js, true)) (hjs : noDup js = true) (hfit : FitL ds (F x)) (w : World) (cargs : Array Value) (ha : All2 (VR1 (allI w) [] w) cargs.toList args) :
    Calls P f cargs w fun e w' => ∃ vs bs, e = .returned (.tuple #[.agg vs, v]) ∧ E.rep w' vs.toList x bs ∧ Fresh w.heap.size w' bs ∧ Below w.heap.size w w' :=
  (h.run (allI w) w cargs (allI_mem w) ha).mono fun e w' ⟨u, g', he, m, hv, hs⟩ => by
    obtain ⟨us, e1, e2⟩ := hv
    match us, e2 with
    | [a, b], ⟨⟨vs, h1, h2⟩, h3, _⟩ =>
      obtain ⟨bs, r1, r2⟩ := fresh_of (E := E) (x := x) m hs h2 hmv hjs hfit
      have h4 : b = v := h3.1
      subst h4; subst h1; subst e1
      exact ⟨vs.toArray, bs, he, by simpa using r1, r2, hs.below'⟩
theorem AC.retAgg {P : Program} {f : FuncId} {args : List AVal} {L' : Locs} {α : Type} {E : Enc α} {F : α → List Cell} [hc : CellsOf E F] {x : α} {cs ds : List Cell} {js : List Nat} (h : AC P f args [] (.agg cs) L')
    (hmv : mvC L' cs = some (ds, js, true)) (hjs : noDup js = true) (hfit : FitL ds (F x)) (w : World) (cargs : Array Value) (ha : All2 (VR1 (allI w) [] w) cargs.toList args) :
    Calls P f cargs w (RetAgg E w x) :=
  (h.run (allI w) w cargs (allI_mem w) ha).mono fun e w' ⟨u, g', he, m, hv, hs⟩ => by
    obtain ⟨vs, h1, h2⟩ := hv
    obtain ⟨bs, r1, r2⟩ := fresh_of (E := E) (x := x) m hs h2 hmv hjs hfit
    subst h1
    exact ⟨vs.toArray, bs, he, by simpa using r1, r2, hs.below'⟩
end Go.Proofs.Ytibhoanjglfaoaa

/- The abstract walk: make. -/
namespace Go.Proofs.Ytibhoanjglfaoaa
open Go.RowKit
set_option linter.unusedVariables false

theorem plainL_fr {w : World} : ∀ {vs : List Value} {cs : List Cell}, plainL vs = some cs → FR w vs cs []
  | [], cs, h => by cases h; rfl
  | v :: vs, cs, h => by
    simp only [plainL] at h
    split at h
    · rename_i hb hc
      cases h
      exact ⟨[], [], rfl, ⟨rfl, wf_of_plain hb, rfl⟩, plainL_fr hc⟩
    · cases h
section ops
variable {P : Program} {N : Nat} {s : St} {d : Nat} {ty : TypeId} {pos : String} {after : Array Edge} {gd : Option (Nat × Bool)}
/-- A new array of n zero elements. -/
theorem x_make {α : Type} {e : Enc α} {f : α → List Cell} [hc : CellsOf e f] {T E n : Nat} {x y : Operand} (x0 : α) {z : Value} {cs : List Cell} (k : Nat) (hN : Nat.blt d N = true)
    (h : evo s.t x = some (.one (.c (.int .i64 (n : Int))))) (h2 : evo s.t y = some (.one (.c (.int .i64 (n : Int))))) (hz : zeroT P E = some z) (hzc : plainL z.cells.toList = some cs) (hfit : FitL cs (f x0))
    (hk : lk s.l k = none) (hi : noId k s.ids = true) (hT : arrOk P T E e.size = true) (hn : n ≤ 1000000000) :
    Stp P N ⟨some d, .makeSlice T x y, ty, pos, after, gd⟩ s ⟨(d, .one (.own k)) :: s.t, (k, some (.arr E e (List.replicate n x0) true)) :: s.l⟩ ⟨rdo x (.one (.c (.int .i64 (n : Int)))) ++ rdo y (.one (.c (.int .i64 (n : Int)))), [], [(d, .one (.own k))], [(k, some (.arr E e (List.replicate n x0) true))], [k]⟩ := by
  refine ⟨fun K g s' a w hp r => ?_, ⟨two_rd h h2, by simp, fun j hj => by simp at hj; subst hj; exact ⟨hk, noId_of hi⟩⟩, rfl⟩
  obtain ⟨p1, p2, p3⟩ := hp
  obtain ⟨⟨e1, _⟩, e2, _⟩ := two_c r (evs_of h) (evs_of h2) p1
  obtain ⟨n1, n2⟩ := p3 k (by simp)
  obtain ⟨b, hTT, hb⟩ := arrOk_spec hT
  obtain ⟨hu, hn0, ti, z', hti, hz', hzs, htis, htib⟩ := arrT_spec hTT
  have hzz : z' = z := by
    unfold zeroT at hz
    rw [hti] at hz
    simp only at hz
    rw [hz'] at hz
    exact Option.some.inj hz
  subst hzz
  have hb' := Nat.le_of_ble_eq_true hb
  have hrun := run_make_rowN (P := P) T E ti z' hu hti hz' .i64 .i64 n n (Nat.le_refl _) (by
    rw [htib]
    have : b * n ≤ 100000 * 1000000000 := Nat.mul_le_mul hb' hn
    omega) (by omega) w
  rw [htis] at hrun
  have hrep : ∀ w, e.rep w z'.cells.toList x0 [] := fun w => hc.iff.2 ((plainL_fr hzc).fit hfit)
  obtain ⟨bs, hS, hF⟩ := SliceRep.made hrep hn0 n (by unfold maxLen; omega) w E
  have hmax : n ≤ maxLen := by unfold maxLen; omega
  have hsz : (madeCells z'.cells (n * e.size)).size = n * e.size := by simp [madeCells]
  obtain ⟨g', q1, q2, q3, q4, q5, q6, q7⟩ := arr_new (w' := w.alloc (.cells (madeCells z'.cells (n * e.size)) E)) r.mem n1 (fun h => n2 (List.mem_append_right _ h)) (js := []) (fz := []) (fun _ h => h) (fun j hj => by cases hj) (T := E) (e := e) (xs := List.replicate n x0) (d := true) (blk := w.heap.size) (v := .slice (some ⟨w.heap.size, 0, none⟩) n n) (fp := [])
    rfl rfl rfl (by simp) (fun b hb _ => Below.heap_alloc w _ b hb)
    (.inr ⟨n, madeCells z'.cells (n * e.size), List.replicate n [], by
      show setAt g.hd k _ k = .slice (some ⟨setAt g.ρ k _ k, 0, none⟩) _ _
      rw [setAt_self, setAt_self]; simp, by simp, hmax, by
      show (w.alloc _).heap[setAt g.ρ k _ k]? = _
      rw [setAt_self]; exact heap_alloc_new w _, hsz, by
      show Elems e _ (setAt g.ρ k _ k) 0 _ _
      rw [setAt_self]
      refine ⟨by simp, fun i x b hx hb => ?_⟩
      have hi : i < n := by have := (List.getElem?_eq_some_iff.1 hx).1; simpa using this
      have hne : List.replicate n x0 ≠ [] := by intro e; have := congrArg List.length e; simp at this; omega
      obtain ⟨g2, off, bss, ha, _, _, hE⟩ := hS.parts hne
      simp only [Option.some.injEq, Addr.mk.injEq, and_true] at ha
      obtain ⟨rfl, rfl⟩ := ha
      rw [List.getElem?_replicate, if_pos hi] at hx hb
      cases hx; cases hb
      have hzl : z'.cells.size = e.size := by simpa using e.len (hrep w)
      refine ⟨z'.cells.toList, hrep _, fun j u hu => ?_⟩
      have hj : j < z'.cells.size := by have := (List.getElem?_eq_some_iff.1 hu).1; simpa using this
      rw [cell_of_heap (heap_alloc_new w _), Nat.zero_add]
      have := madeCells_get (z := z'.cells) hi hj
      rw [hzl] at this
      rw [this]
      simpa [List.getElem?_eq_getElem (l := z'.cells.toList) (by simpa using hj)] using hu,
      (fun b hb => by simp at hb), (fun hI => by
        have h3 : (g.I (setAt g.ρ k w.heap.size k) ∨ liveA g [] (setAt g.ρ k w.heap.size k)) := hI
        rw [setAt_self] at h3
        rcases h3 with hI | ⟨j, hj, _⟩
        · have := r.mem.ilt _ hI; omega
        · cases hj), fun _ => by show setAt g.F k [] k = _; rw [setAt_self]; simp⟩)
    (fun _ => ⟨by simp, .inl (Nat.le_refl _)⟩) (fun _ => ⟨List.nodup_nil, fun b hb => by cases hb⟩)
  unfold Oper.wp
  have hrun' : (execOp a.eval ⟨some d, .makeSlice T x y, ty, pos, after, gd⟩).run P w = .ok (.value (.slice (some ⟨w.heap.size, 0, none⟩) n n)) (w.alloc (.cells (madeCells z'.cells (n * e.size)) E)) := by
    simp only [execOp, e1, e2, Sem.run_bind, hrun, Result.andThen_ok]; rfl
  rw [hrun', Oper.upon_value]
  refine ⟨g', r.next (blt_lt hN) q5 q6 (by simp) (fun j hj => q7 j fun e => n2 (e ▸ hj)) (fun β U e2 ys dd hc => ?_) q3, q4 K⟩
  exact q2.symm
end ops
end Go.Proofs.Ytibhoanjglfaoaa

/- The abstract walk: an element of an own array written anew. -/
namespace Go.Proofs.Ytibhoanjglfaoaa
open Go.RowKit
set_option linter.unusedVariables false
section
variable {g : Gh} {l : Locs} {w w' : World}
/-- The array k holds other elements; the arrays js are gone into it. -/
theorem arr_put (m : MemR g l w) {k : Nat} {α : Type} {T : TypeId} {e : Enc α} {xs0 xs : List α} {d0 d : Bool} (hk : lkl l k = some (.arr T e xs0 d0)) (hlv : g.hd k ≠ .slice none 0 0) {js : List Nat} (hkj : k ∉ js)
    (hjs : ∀ j ∈ js, ∃ (α : Type) (T : TypeId) (e : Enc α) (xs : List α) (d : Bool), lkl l j = some (.arr T e xs d)) {fp : List Nat}
    (hos : w'.os = w.os) (htp : w'.tape = w.tape) (hout : w'.output = w.output) (hs : w'.heap.size = w.heap.size) (hkeep : ∀ b, b ≠ g.ρ k → w'.heap[b]? = w.heap[b]?)
    (hA : ArrR ⟨fun b => g.I b ∨ liveA g js b, g.ρ, g.hd, setAt g.F k fp⟩ w' k T e xs d)
    (hfp : d = true → fp.Nodup ∧ ∀ b ∈ fp, (g.I b ∨ liveA g js b) ∧ (∃ c t, w'.heap[b]? = some (.cells c t (0, 0))) ∧ ((d0 = true ∧ b ∈ g.F k) ∨ ∃ j ∈ js, Via g l j b)) :
    ∃ g', g'.ρ k = g.ρ k ∧ g'.hd k = g.hd k ∧ MemR g' ((k, some (.arr T e xs d)) :: (gones js ++ l)) w' ∧ (∀ K, Step K g l w g' ((k, some (.arr T e xs d)) :: (gones js ++ l)) w') ∧
      (∀ b, g.I b → w'.heap[b]? = w.heap[b]?) ∧ (∀ b, g.I b → g'.I b) ∧ ∀ j, okK g l g' ((k, some (.arr T e xs d)) :: (gones js ++ l)) j := by
  let g' : Gh := ⟨fun b => g.I b ∨ liveA g js b, g.ρ, g.hd, setAt g.F k fp⟩
  have hnI := m.notI hk hlv
  have hi : ∀ b, g.I b → w'.heap[b]? = w.heap[b]? := fun b hb => hkeep b fun e => hnI (e ▸ hb)
  have hl' : ∀ j, j ≠ k → lkl ((k, some (.arr T e xs d)) :: (gones js ++ l)) j = if j ∈ js then none else lkl l j := fun j hj => by
    rw [lkl_cons_ne (Ne.symm hj), lkl_gones]
  have hu : ∀ j, j ≠ k → lkl ((k, some (.arr T e xs d)) :: (gones js ++ l)) j = none ∨ Untouched g l w g' ((k, some (.arr T e xs d)) :: (gones js ++ l)) w' j := fun j hj => by
    by_cases h : j ∈ js
    · left; rw [hl' j hj, if_pos h]
    · right
      refine ⟨by rw [hl' j hj, if_neg h], rfl, rfl, setAt_ne hj, fun b hb hlv' => ⟨hkeep _ (m.dis j k _ _ hj hb hk hlv' hlv), fun hI => ?_⟩⟩
      rcases hI with hI | ⟨i, hij, hil, e⟩
      · exact m.notI hb hlv' hI
      · obtain ⟨_, _, _, _, _, h1⟩ := hjs i hij
        exact m.dis j i _ _ (fun e => h (e ▸ hij)) hb h1 hlv' hil e
  have ok : ∀ j, okK g l g' ((k, some (.arr T e xs d)) :: (gones js ++ l)) j := fun j => by
    by_cases hj : j = k
    · subst hj
      refine ⟨fun cs hc => ?_, fun β U e2 ys dd hc => ?_⟩
      · rw [lkl_cons_self] at hc; cases hc
      · rw [lkl_cons_self] at hc; cases hc
        exact ⟨α, T, e, xs0, d0, hk, rfl, rfl, rfl⟩
    · rcases hu j hj with h | h
      · exact okK.gone h
      · exact h.ok
  have hlt : ∀ b, g'.I b → b < w'.heap.size := fun b hb => by
    rw [hs]
    rcases hb with hb | ⟨i, hij, hil, e⟩
    · exact m.ilt b hb
    · obtain ⟨_, _, _, _, _, h1⟩ := hjs i hij
      rw [e]; exact m.lt h1 hil
  refine ⟨g', rfl, rfl, m.set1 k hi (fun b hb => .inl hb) (Nat.le_of_eq hs.symm) hlt hu (.inl (ok k)) (fun cs hc => ?_) (fun β U e2 ys d2 hc => ?_) (fun j b b' hj h1 h2 h3 l1 l2 => m.dis j k _ _ hj h2 hk l1 hlv) (fun β U e2 ys hc => ?_) (fun j β γ U V e2 e3 ys zs hj h1 h2 h3 => ?_), fun K => ?_, hi, fun b hb => .inl hb, ok⟩
  · rw [lkl_cons_self] at hc; cases hc
  · rw [lkl_cons_self] at hc; cases hc; exact hA
  · rw [lkl_cons_self] at hc; cases hc
    rw [show g'.F k = fp from setAt_self]
    obtain ⟨n1, n2⟩ := hfp rfl
    exact ⟨n1, fun b hb => ⟨(n2 b hb).1, (n2 b hb).2.1⟩⟩
  · rw [lkl_cons_self] at h3; cases h3
    rw [show g'.F k = fp from setAt_self]
    intro b hb hb'
    rcases ((hfp rfl).2 b hb').2.2 with ⟨rfl, h5⟩ | ⟨i, hij, hvia⟩
    · exact m.fd j k _ _ _ _ _ _ _ _ hj h2 hk b hb h5
    · have : j = i := Via.disj m (b := b) ⟨β, U, e2, ys, h2, .inr hb⟩ hvia
      subst this
      rw [hl' j hj, if_pos hij] at h1; cases h1
  · refine ⟨hos, htp, hout, Nat.le_of_eq hs.symm, fun b hb hn => hkeep b (hn k _ hk hlv), fun b hb => .inl hb, fun b hb => ?_, own_set1 k hu (fun b hb hl => .inl (OwnB.of_live hk hlv)) (fun β U e2 ys hc b hb => ?_), fun j hj hn => ?_⟩
    · rcases hb with hb | ⟨i, hij, hil, e⟩
      · exact .inl hb
      · obtain ⟨_, _, _, _, _, h1⟩ := hjs i hij
        exact .inr (.inr (e ▸ OwnB.of_live h1 hil))
    · rw [lkl_cons_self] at hc; cases hc
      rw [show g'.F k = fp from setAt_self] at hb
      rcases ((hfp rfl).2 b hb).2.2 with ⟨rfl, h5⟩ | ⟨i, hij, hvia⟩
      · exact .inl ⟨k, _, hk, .inr ⟨_, _, _, _, rfl, h5⟩⟩
      · exact .inl hvia.own
    · refine ⟨?_, ok j, fun cs hc => ?_⟩
      · by_cases hjk : j = k
        · subst hjk; rw [lk_cons_self]; simp
        · rw [lk_cons_ne (Ne.symm hjk), lk_gones]
          split
          · simp
          · exact hn
      · have hjk : j ≠ k := fun e => by subst e; rw [hk] at hc; cases hc
        refine ⟨cs, ?_⟩
        rw [hl' j hjk, if_neg]
        · exact hc
        · intro hjj
          obtain ⟨_, _, _, _, _, h1⟩ := hjs j hjj
          rw [hc] at h1; cases h1
end
section ops
variable {P : Program} {N : Nat} {s : St} {ty : TypeId} {pos : String} {after : Array Edge} {gd : Option (Nat × Bool)}
/-- A whole element written. -/
theorem x_ostore {α : Type} {e : Enc α} {f : α → List Cell} [hc : CellsOf e f] {T E n i k : Nat} {x y : Operand} {X : AVal} {xs : List α} (x' : α) {ds : List Cell} {js : List Nat} {d1 d2 : Bool} (h : evo s.t x = some (.one (.optr k i 0))) (hl : lkl s.l k = some (.arr E e xs d1)) (h2 : evo s.t y = some X) (hf : X.flat = true)
    (hT : sizeT P T = some n) (hn : X.cells.length = n) (hes : e.size = n) (hsol : X.cells.all (solid s.l) = true) (hmv : mvC s.l X.cells = some (ds, js, d2)) (hfit : FitL ds (f x')) (hnd : noDup js = true) (hkj : noId k js = true) (hi : i < xs.length) :
    Stp P N ⟨none, .store T x y, ty, pos, after, gd⟩ s ⟨s.t, (k, some (.arr E e (xs.set i x') (d1 && d2))) :: (gones js ++ s.l)⟩ ⟨rdo x (.one (.optr k i 0)) ++ rdo y X, (k, .arr E e xs d1) :: rlC s.l X.cells, [], (k, some (.arr E e (xs.set i x') (d1 && d2))) :: gones js, []⟩ := by
  refine ⟨fun K g s' a w hpre r => ?_, ⟨two_rd h h2, fun p hp => by
    rcases List.mem_cons.1 hp with rfl | hp
    · exact hl
    · exact rlC_self p hp, by simp⟩, by simp [Cert.upd]⟩
  obtain ⟨p1, p2, _⟩ := hpre
  have hk : lkl s'.l k = some (.arr E e xs d1) := p2 (k, .arr E e xs d1) (List.mem_cons_self ..)
  have p2' : ∀ p ∈ rlC s.l X.cells, lkl s'.l p.1 = some p.2 := fun p hp => p2 p (List.mem_cons_of_mem _ hp)
  have ha : a.eval x = .pointer (some ⟨g.ρ k, i * e.size + 0, none⟩) := (eval_ok r (evs_of h) fun p hm => p1 p (List.mem_append_left _ hm) : CellR g s'.l w _ (.optr k i 0)) _ _ _ _ _ hk
  have hv := eval_ok r (evs_of h2) fun p hm => p1 p (List.mem_append_right _ hm)
  have hs' : X.cells.all (solid s'.l) = true := List.all_eq_true.2 fun z hz => solid_of p2' hz (List.all_eq_true.1 hsol z hz)
  have hall := vr1_cells hs' r.mem hv hf
  have hmv' := mvC_of hmv p2'
  have hjn := noDup_of hnd
  have hkj' := noId_of hkj
  have hgone : ∀ j ∈ js, ∃ (α : Type) (T : TypeId) (e : Enc α) (xs : List α) (d : Bool), lkl s'.l j = some (.arr T e xs d) := fun j hj => (mvC_gone hmv' j hj).1
  obtain ⟨b', f1, f2, f3⟩ := mvC_ok r.mem hall hmv' hjn
  have hrep := hc.iff.2 (f1.fit hfit)
  have hlen : (a.eval y).cells.size = n := by rw [← hn]; simpa using hall.len
  have hll : (a.eval y).cells.toList.length = e.size := e.len hrep
  rcases r.mem.arr k _ _ _ _ _ hk with ⟨rfl, _⟩ | ⟨cap, vs, bss, g1, g2, g3, g4, g5, g6, g7, g8, g9⟩
  · simp at hi
  have hlv : g.hd k ≠ .slice none 0 0 := by rw [g1]; intro e; cases e
  have hib : i < bss.length := by rw [g6.1]; exact hi
  have hfitc : i * e.size + (a.eval y).cells.toList.length ≤ vs.size := by
    rw [hll, g5]
    have : (i + 1) * e.size ≤ cap * e.size := Nat.mul_le_mul_right _ (by omega)
    rw [Nat.add_mul] at this; omega
  have one : ∀ v ∈ (a.eval y).cells.toList, v.oneCell' = true := FR.one f1
  have hst := run_storeCells_at P (g.ρ k) (i * e.size) E (a.eval y).cells.toList 0 vs w g4 (by simpa using hfitc) one
  generalize hnew : (vs.toList.take (i * e.size) ++ (a.eval y).cells.toList ++ vs.toList.drop (i * e.size + (a.eval y).cells.toList.length)).toArray = new at *
  have hng : ∀ q, new[q]? = if i * e.size ≤ q ∧ q < i * e.size + e.size then (a.eval y).cells.toList[q - i * e.size]? else vs[q]? := fun q => by
    rw [← hnew, List.getElem?_toArray]
    have hl0 : (vs.toList.take (i * e.size)).length = i * e.size := by simp; omega
    rcases Nat.lt_or_ge q (i * e.size) with hq | hq
    · rw [if_neg (by omega), List.append_assoc, List.getElem?_append_left (by omega), List.getElem?_take, if_pos hq]; simp
    · rw [List.append_assoc, List.getElem?_append_right (by omega), hl0]
      rcases Nat.lt_or_ge q (i * e.size + e.size) with hq2 | hq2
      · rw [if_pos ⟨hq, hq2⟩, List.getElem?_append_left (by omega)]
      · rw [if_neg (by omega), List.getElem?_append_right (by omega), List.getElem?_drop, hll, show i * e.size + e.size + (q - i * e.size - e.size) = q by omega]; simp
  have hns : new.size = vs.size := by rw [← hnew]; simp; omega
  have hwk : (w.setRow (g.ρ k) new).heap[g.ρ k]? = some (.cells new E (0, 0)) := setRow_heap w _ _ _ E _ g4
  have hwo : ∀ b, b ≠ g.ρ k → (w.setRow (g.ρ k) new).heap[b]? = w.heap[b]? := fun b hb => setRow_other w _ b _ hb
  have hsz : (w.setRow (g.ρ k) new).heap.size = w.heap.size := by simp
  have hbk : ∀ b ∈ b', b ≠ g.ρ k := fun b hb eq => by
    rcases f2 b hb with h3 | ⟨j, hj, h3, h4⟩
    · exact g8 (eq ▸ h3)
    · obtain ⟨_, _, _, _, _, h5⟩ := hgone j hj
      exact r.mem.dis j k _ _ (fun e => hkj' (e ▸ hj)) h5 hk h3 hlv (h4 ▸ eq)
  have hE := g6.upd (w' := w.setRow (g.ρ k) new) (k := i) (x' := x') (b' := b') (e.keep hrep (fun b hb => hwo b (hbk b hb)) (Nat.le_of_eq hsz.symm)) (fun j u hu => by
      have hj := (List.getElem?_eq_some_iff.1 hu).1
      rw [cell_of_heap hwk, hng, if_pos (by omega), show 0 + i * e.size + j - i * e.size = j by omega, hu]) (fun q hq => by
      rw [cell_of_heap hwk, hng, cell_of_heap g4, if_neg (by rw [Nat.add_mul] at hq; omega)]) (fun q b hq hb c hcb => hwo c fun eq => g8 (eq ▸ g7 c (List.mem_flatten.2 ⟨b, List.mem_of_getElem? hb, hcb⟩))) (Nat.le_of_eq hsz.symm)
  have hmem : ∀ b ∈ (bss.set i b').flatten, g.I b ∨ liveA g js b := fun b hb => by
    rcases flatten_set bss hib b hb with h3 | h3
    · exact f2 b h3
    · exact .inl (g7 b h3)
  obtain ⟨g', q1, q2, q3, q4, q5, q6, q7⟩ := arr_put (w' := w.setRow (g.ρ k) new) r.mem hk hlv hkj' hgone (xs := xs.set i x') (d := d1 && d2) (fp := (bss.set i b').flatten) rfl rfl rfl hsz hwo
    (.inr ⟨cap, new, bss.set i b', by rw [List.length_set]; exact g1, by rw [List.length_set]; exact g2, g3, hwk, hns.trans g5, hE, hmem, (fun hI => by
      rcases hI with hI | ⟨j, hj, h3, h4⟩
      · exact g8 hI
      · obtain ⟨_, _, _, _, _, h5⟩ := hgone j hj
        exact r.mem.dis j k _ _ (fun e => hkj' (e ▸ hj)) h5 hk h3 hlv h4.symm), fun _ => setAt_self⟩)
    (fun hd => by
      simp only [Bool.and_eq_true] at hd
      obtain ⟨rfl, rfl⟩ := hd
      obtain ⟨n1, n2⟩ := f3 rfl
      have hF := g9 rfl
      have hvk : ∀ b ∈ bss.flatten, Via g s'.l k b := fun b hb => ⟨α, E, e, xs, hk, .inr (by rw [hF]; exact hb)⟩
      refine ⟨nodup_set n1 bss i hib (by rw [← hF]; exact (r.mem.fr k _ _ _ _ hk).1) (fun c hcb => .inr fun h3 => by
        obtain ⟨j, hj, hvj⟩ := n2 c hcb
        exact hkj' ((hvk c h3).disj r.mem hvj ▸ hj)), fun b hb => ⟨hmem b hb, ?_, ?_⟩⟩
      · rcases flatten_set bss hib b hb with h3 | h3
        · obtain ⟨j, hj, hvj⟩ := n2 b h3
          obtain ⟨c, t, h4⟩ := hvj.cells r.mem
          exact ⟨c, t, by rw [hwo b (hbk b h3)]; exact h4⟩
        · obtain ⟨c, t, h4⟩ := (hvk b h3).cells r.mem
          exact ⟨c, t, by rw [hwo b fun eq => g8 (eq ▸ g7 b h3)]; exact h4⟩
      · rcases flatten_set bss hib b hb with h3 | h3
        · exact .inr (n2 b h3)
        · exact .inl ⟨rfl, by rw [hF]; exact h3⟩)
  unfold Oper.wp
  have hrun : (execOp a.eval ⟨none, .store T x y, ty, pos, after, gd⟩).run P w = .ok .skip (w.setRow (g.ρ k) new) := by
    unfold sizeT at hT
    split at hT
    · rename_i ti hti
      cases hT
      simp only [execOp, Instr.storeAt, ha, Instr.sureAddr, storeVar, sizeOf, typeInfo, Sem.run_bind, Sem.run_pure, program, Sem.run, hti, Result.andThen_ok, hlen, ne_eq, not_true_eq_false, if_false]
      simp only [Nat.add_zero] at hst ⊢
      rw [hst]; rfl
    · cases hT
  rw [hrun, Oper.upon_skip]
  exact ⟨g', r.next0 q5 q6 (Nat.le_of_eq hsz.symm) (fun j _ => q7 j) q3, q4 K⟩
end ops
/-! filled from the front -/
def filledTo {α : Type} (xs : List α) (x0 : α) (k : Nat) : List α := xs.take k ++ List.replicate (xs.length - k) x0
theorem filledTo_zero {α : Type} {xs : List α} {x0 : α} : List.replicate xs.length x0 = filledTo xs x0 0 := by simp [filledTo]
theorem filledTo_len {α : Type} {xs : List α} {x0 : α} {k : Nat} (hk : k ≤ xs.length) : (filledTo xs x0 k).length = xs.length := by simp [filledTo]; omega
theorem filledTo_succ {α : Type} {xs : List α} {x0 : α} {k : Nat} (hk : k < xs.length) : (filledTo xs x0 k).set k xs[k] = filledTo xs x0 (k + 1) := (Filled.succ (xs := xs) (x0 := x0) (ys := filledTo xs x0 k) rfl hk)
theorem filledTo_done {α : Type} {xs : List α} {x0 : α} {k : Nat} (hk : xs.length ≤ k) : filledTo xs x0 k = xs := by
  unfold filledTo
  rw [List.take_of_length_le hk, show xs.length - k = 0 by omega]; simp
end Go.Proofs.Ytibhoanjglfaoaa
