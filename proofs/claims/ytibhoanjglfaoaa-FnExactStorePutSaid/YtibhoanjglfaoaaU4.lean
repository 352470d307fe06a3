/- Lemmas of the walks, part 4. -/
import Derived.Test.YtibhoanjglfaoaaU3
import Derived.Laws.CopyRow
import Derived.Laws.NewBlocks
import Derived.Lib.AppendZerosOnto
import Derived.Lib.Overlaps
import Derived.Lib.SliceRun
import Derived.Lib.JoinLaws
import Derived.Shelf.Spec.SlicesInsert
import Derived.Deep.RegionLaw
import Derived.Laws.Small
/- Contracts told of the cells of a row, ars contracts of arrays of one's own. -/
namespace Go.Proofs.Ytibhoanjglfaoaa
open Go.RowKit
set_option linter.unusedVariables false

section
variable {g : Gh} {l : Locs} {w w' : World}
/-- A row of one's own made anew out of others, ars it is seen from numbers. -/
theorem row_lay (m : MemR g l w) {k k' : Nat} (hk' : lk l k' = none) (hki : k' ∉ l.ids) {js : List Nat} (hkj : k ∈ js) (hjs : ∀ j ∈ js, ∃ (α : Type) (T : TypeId) (e : Enc α) (xs : List α) (d : Bool), lkl l j = some (.arr T e xs d))
    {α : Type} {E : TypeId} {e : Enc α} {f : α → List Cell} [hc : CellsOf e f] {zs : List α} {d : Bool} {cells : List Value} {b3 : List Nat} {v' : Value}
    (hF : FR w cells (zs.flatMap f) b3) (hI : ∀ b ∈ b3, g.I b) (hob : ∀ b, (g.hd k).ownBlock = some b → b = g.ρ k)
    (hrow : w'.ownsRow 0 E e.size v' zs.length cells) (hgr : w.grownBy w' (g.hd k).ownBlock) (hblk : ∀ b, v'.ownBlock = some b → (g.hd k).ownBlock = some b ∨ w.heap.size ≤ b)
    (hd : d = true → b3.Nodup ∧ ∀ b ∈ b3, ∃ j ∈ js, Via g l j b) :
    ∃ g', g'.hd k' = v' ∧ MemR g' ((k', some (.arr E e zs d)) :: (gones js ++ l)) w' ∧ (∀ K, Step K g l w g' ((k', some (.arr E e zs d)) :: (gones js ++ l)) w') := by
  obtain ⟨α0, T0, e0, xs0, d0, hk0⟩ := hjs k hkj
  have hlive : ∀ b, (g.hd k).ownBlock = some b → g.hd k ≠ .slice none 0 0 := fun b hb e => by rw [e] at hb; cases hb
  have hnI : ∀ b, (g.hd k).ownBlock = some b → ¬ g.I b := fun b hb => by rw [hob b hb]; exact m.notI hk0 (hlive b hb)
  have hkeepI : ∀ b, g.I b → w'.heap[b]? = w.heap[b]? := fun b hb => hgr.block b (m.ilt b hb) fun e => hnI b e.symm hb
  have hFR := hF.keep (w' := w') (fun b hb => hkeepI b (hI b hb)) hgr.size
  have hIb : ∀ b, v'.ownBlock = some b → ¬ (g.I b ∨ liveA g [] b) := fun b hb h => by
    rcases h with h | ⟨j, hj, _⟩
    · rcases hblk b hb with h1 | h1
      · exact hnI b h1 h
      · have := m.ilt b h; omega
    · cases hj
  obtain ⟨g', q1, q2, q3, q4, q5, q6, q7⟩ := arr_new (w' := w') m hk' hki (js := js) (fz := []) (fun _ h => by cases h) hjs (T := E) (e := e) (xs := zs) (d := d) (blk := (v'.ownBlock).getD 0) (v := v') (fp := b3)
    hgr.os hgr.tape hgr.output hgr.size (fun b hb hn => hgr.block b hb fun e => hn k hkj (by simp) (hlive b e.symm) (hob b e.symm))
    (ArrR.lay hrow hFR (fun b hb => .inl (hI b hb)) (fun b hb => ⟨by rw [hb]; rfl, hIb b hb⟩))
    (fun hv => by
      rcases hrow.2 with ⟨h1, _⟩ | ⟨b, cap, cur, h1, _, h3, _⟩
      · exact absurd h1 hv
      · have hb : v'.ownBlock = some b := by rw [h1]; rfl
        rw [hb]
        refine ⟨(Array.getElem?_eq_some_iff.1 h3).1, ?_⟩
        rcases hblk b hb with h | h
        · exact .inr ⟨k, hkj, by simp, hlive b h, hob b h⟩
        · exact .inl h)
    (fun hdd => ⟨(hd hdd).1, fun b hb => ⟨.inl (hI b hb), by
      obtain ⟨j, hj, hv⟩ := (hd hdd).2 b hb
      obtain ⟨c, t, h⟩ := hv.cells m
      exact ⟨c, t, by rw [hkeepI b (hI b hb)]; exact h⟩, (hd hdd).2 b hb⟩⟩)
  exact ⟨g', q2, q3, q4⟩
end
/-- Only the last-made array is left. -/
theorem MemR.last {g : Gh} {l : Locs} {w : World} {k : Nat} {b : Blk} (m : MemR g ((k, some b) :: l) w) : MemR g [(k, some b)] w := by
  have hlk : ∀ j c, lkl [(k, some b)] j = some c → lkl ((k, some b) :: l) j = some c := fun j c hc => by
    by_cases h : k = j
    · subst h; rw [lkl_cons_self] at hc ⊢; exact hc
    · rw [lkl_cons_ne h] at hc; cases hc
  refine ⟨m.ilt, fun j cs hc => ?_, fun j β T e2 ys2 d hc => m.arr j _ _ _ _ _ (hlk _ _ hc), fun i j b1 b2 hij h1 h2 => m.dis i j _ _ hij (hlk _ _ h1) (hlk _ _ h2), fun j β T e2 ys2 hc => m.fr j _ _ _ _ (hlk _ _ hc), fun i j β γ T U e2 e3 y2 z2 hij h1 h2 => m.fd i j _ _ _ _ _ _ _ _ hij (hlk _ _ h1) (hlk _ _ h2)⟩
  obtain ⟨vs, t, h1, h2, h3⟩ := m.box j cs (hlk _ _ hc)
  refine ⟨vs, t, h1, h2.mono fun a c hcm hr => ?_, h3⟩
  exact CellR.step (fun _ _ => rfl) (fun _ h => h) (Nat.le_refl _) (fun i _ => ⟨fun cs' h => ⟨rfl, cs', hlk _ _ h⟩, fun β T e2 xs d h => ⟨β, T, e2, xs, d, hlk _ _ h, rfl, rfl, rfl⟩⟩) hr
theorem Step.last {g g' : Gh} {l0 l : Locs} {w w' : World} {k : Nat} {b : Blk} (h : Step [] g l0 w g' ((k, some b) :: l) w') : Step [] g l0 w g' [(k, some b)] w' :=
  ⟨h.os, h.tape, h.output, h.size, h.keep, h.imm, h.imm', (fun c hc => by
    obtain ⟨j, blk, h1, h2⟩ := hc
    refine h.own c ⟨j, blk, ?_, h2⟩
    by_cases e : k = j
    · subst e; rw [lkl_cons_self] at h1 ⊢; exact h1
    · rw [lkl_cons_ne e] at h1; exact absurd h1 (by simp [lkl, lk])), fun k hk => by cases hk⟩
/-- What a function does with the cells of one row. -/
theorem AT.row1 {P : Program} {fid : FuncId} {rest : List AVal} {α : Type} {e : Enc α} {f : α → List Cell} [hc : CellsOf e f] {E : TypeId} {xs ys : List α} {d : Bool} (hfn : Callable P fid)
    (h : ∀ (w : World) (v : Value) (vs : List Value) (cells : List Value) (bs : List Nat) (g : Gh) (L : Locs), All2 (VR1 g L w) vs rest → MemR g L w → w.ownsRow 0 E e.size v xs.length cells → FR w cells (xs.flatMap f) bs → (∀ u ∈ cells, u.oneCell' = true) → (∀ b ∈ bs, v.ownBlock ≠ some b) →
      Calls P fid (v :: vs).toArray w fun en w' => ∃ v' cells', en = .returned v' ∧ w'.ownsRow 0 E e.size v' ys.length cells' ∧ w.grownBy w' v.ownBlock ∧ (∀ b, v'.ownBlock = some b → v.ownBlock = some b ∨ w.heap.size ≤ b) ∧
        ∃ bs', FR w cells' (ys.flatMap f) bs' ∧ (bs.Nodup → bs'.Nodup) ∧ ∀ b ∈ bs', b ∈ bs) :
    AT P fid (.one (.own 0) :: rest) [(0, some (.arr E e xs d))] (.one (.own 1)) [(1, some (.arr E e ys d))] := by
  refine ⟨hfn, fun g w cargs m ha => ?_⟩
  have hk : lkl [(0, some (Blk.arr E e xs d))] 0 = some (.arr E e xs d) := rfl
  obtain ⟨cells, bs, r1, f1, i1, F1, ob1⟩ := (m.arr 0 _ _ _ _ _ hk).row
  have : ∃ v vs, cargs = (v :: vs).toArray := by
    cases hc' : cargs.toList with
    | nil => rw [hc'] at ha; exact ha.elim
    | cons v vs => exact ⟨v, vs, by rw [← hc', Array.toArray_toList]⟩
  obtain ⟨v, vs, rfl⟩ := this
  have hv : v = g.hd 0 := ha.1 _ _ _ _ _ hk
  subst hv
  refine (h w _ vs cells bs g _ ha.2 m r1 f1 (FR.one f1) (fun b hb e0 => ?_)).mono ?_
  · have h1 := ob1 b e0
    subst h1
    exact m.notI hk (fun e1 => by rw [e1] at e0; cases e0) (i1 _ hb)
  · rintro en w' ⟨v', cells', rfl, t1, t2, t3, bs', t4, t5, t6⟩
    obtain ⟨g', s1, s2, s3⟩ := row_lay (w' := w') m (k := 0) (k' := 1) rfl (by simp [Locs.ids]) (js := [0]) (by simp) (fun j hj => by simp at hj; subst hj; exact ⟨α, E, e, xs, d, hk⟩) (zs := ys) (d := d) t4 (fun b hb => i1 b (t6 b hb)) ob1 t1 t2 t3 (fun hd => by
      subst hd
      refine ⟨t5 (by rw [← F1 rfl]; exact (m.fr 0 _ _ _ _ hk).1), fun b hb => ⟨0, by simp, α, E, e, xs, hk, .inr (by rw [F1 rfl]; exact t6 b hb)⟩⟩)
    exact ⟨v', g', rfl, s2.last, fun β U e2 ys2 dd hcx => s1.symm, (s3 []).last⟩
/-- .. of two rows: the second lies apart. -/
theorem AT.row2 {P : Program} {fid : FuncId} {rest : List AVal} {α : Type} {e : Enc α} {f : α → List Cell} [hc : CellsOf e f] {E : TypeId} {xs zs ys : List α} {d : Bool} (hfn : Callable P fid)
    (h : ∀ (w : World) (v u : Value) (vs : List Value) (cells news : List Value) (bs b2 : List Nat), All2 (fun v x => x = AVal.one (.c v)) vs rest → w.ownsRow 0 E e.size v xs.length cells → w.ownsRow 0 E e.size u zs.length news → FR w cells (xs.flatMap f) bs → FR w news (zs.flatMap f) b2 → (∀ u ∈ cells ++ news, u.oneCell' = true) →
      (∀ b, u.ownBlock = some b → v.ownBlock ≠ some b) →
      Calls P fid ((v :: vs) ++ [u]).toArray w fun en w' => ∃ v' cells', en = .returned v' ∧ w'.ownsRow 0 E e.size v' ys.length cells' ∧ w.grownBy w' v.ownBlock ∧ (∀ b, v'.ownBlock = some b → v.ownBlock = some b ∨ w.heap.size ≤ b) ∧
        ∃ bs', FR w cells' (ys.flatMap f) bs' ∧ ((bs ++ b2).Nodup → bs'.Nodup) ∧ ∀ b ∈ bs', b ∈ bs ++ b2)
    (hrest : ∀ x ∈ rest, ∃ v, x = AVal.one (.c v)) :
    AT P fid ((.one (.own 0) :: rest) ++ [.one (.own 2)]) [(0, some (.arr E e xs d)), (2, some (.arr E e zs d))] (.one (.own 1)) [(1, some (.arr E e ys d))] := by
  refine ⟨hfn, fun g w cargs m ha => ?_⟩
  have hk : lkl [(0, some (Blk.arr E e xs d)), (2, some (Blk.arr E e zs d))] 0 = some (.arr E e xs d) := rfl
  have hk2 : lkl [(0, some (Blk.arr E e xs d)), (2, some (Blk.arr E e zs d))] 2 = some (.arr E e zs d) := rfl
  obtain ⟨cells, bs, r1, f1, i1, F1, ob1⟩ := (m.arr 0 _ _ _ _ _ hk).row
  obtain ⟨news, b2, r2, f2, i2, F2, ob2⟩ := (m.arr 2 _ _ _ _ _ hk2).row
  have : ∃ v vs u, cargs = ((v :: vs) ++ [u]).toArray ∧ All2 (VR1 g [(0, some (Blk.arr E e xs d)), (2, some (Blk.arr E e zs d))] w) vs rest ∧ v = g.hd 0 ∧ u = g.hd 2 := by
    obtain ⟨l1, l2, h1, h2, h3⟩ := All2.split ha
    cases l1 with
    | nil => exact h2.elim
    | cons v vs =>
      cases l2 with
      | nil => exact h3.elim
      | cons u us =>
        cases us with
        | cons _ _ => exact h3.2.elim
        | nil => exact ⟨v, vs, u, by have q := congrArg List.toArray h1; simpa using q, h2.2, h2.1 _ _ _ _ _ hk, h3.1 _ _ _ _ _ hk2⟩
  obtain ⟨v, vs, u, rfl, ha2, rfl, rfl⟩ := this
  have hvs : All2 (fun v x => x = AVal.one (.c v)) vs rest := ha2.mono fun a x hx hr => by
    obtain ⟨y, rfl⟩ := hrest x hx
    have := (hr : CellR g _ w a (.c y)).1
    rw [this]
  have hlive : ∀ k b, (g.hd k).ownBlock = some b → g.hd k ≠ .slice none 0 0 := fun k b hb e => by rw [e] at hb; cases hb
  refine (h w _ _ vs cells news bs b2 hvs r1 r2 f1 f2 (fun u hu => (List.mem_append.1 hu).elim (FR.one f1 u) (FR.one f2 u)) (fun b hb e0 => ?_)).mono ?_
  · have q1 := ob1 b e0
    have q2 := ob2 b hb
    exact m.dis 0 2 _ _ (by decide) hk hk2 (hlive 0 b e0) (hlive 2 b hb) (q1.symm.trans q2)
  · rintro en w' ⟨v', cells', rfl, t1, t2, t3, bs', t4, t5, t6⟩
    obtain ⟨g', s1, s2, s3⟩ := row_lay (w' := w') m (k := 0) (k' := 1) rfl (by simp [Locs.ids]) (js := [0, 2]) (by simp) (fun j hj => by
        simp at hj
        rcases hj with rfl | rfl
        · exact ⟨α, E, e, xs, d, hk⟩
        · exact ⟨α, E, e, zs, d, hk2⟩) (zs := ys) (d := d) t4 (fun b hb => (List.mem_append.1 (t6 b hb)).elim (i1 b) (i2 b)) ob1 t1 t2 t3 (fun hd => by
      subst hd
      have v1 : ∀ b ∈ bs, Via g _ 0 b := fun b hb => ⟨α, E, e, xs, hk, .inr (by rw [F1 rfl]; exact hb)⟩
      have v2 : ∀ b ∈ b2, Via g _ 2 b := fun b hb => ⟨α, E, e, zs, hk2, .inr (by rw [F2 rfl]; exact hb)⟩
      refine ⟨t5 (List.nodup_append.2 ⟨by rw [← F1 rfl]; exact (m.fr 0 _ _ _ _ hk).1, by rw [← F2 rfl]; exact (m.fr 2 _ _ _ _ hk2).1, fun x hx y hy exy => ?_⟩), fun b hb => ?_⟩
      · subst exy
        have := (v1 x hx).disj m (v2 x hy)
        cases this
      · rcases List.mem_append.1 (t6 b hb) with hb | hb
        · exact ⟨0, by simp, v1 b hb⟩
        · exact ⟨2, by simp, v2 b hb⟩)
    exact ⟨v', g', rfl, s2.last, fun β U e2 ys2 dd hcx => s1.symm, (s3 []).last⟩
/-- .. under numbers of the caller's. -/
theorem AT.lend2 {P : Program} {f : FuncId} {rest : List AVal} {α : Type} {T : TypeId} {e : Enc α} {xs zs ys : List α} {d : Bool}
    (h : AT P f ((.one (.own 0) :: rest) ++ [.one (.own 2)]) [(0, some (.arr T e xs d)), (2, some (.arr T e zs d))] (.one (.own 1)) [(1, some (.arr T e ys d))]) (a b c : Nat) (hac : Nat.beq a c = false) (hbc : Nat.beq b c = false) (hab : Nat.beq a b = false) (hrest : ∀ r, rest.map (AVal.ren1 r) = rest) :
    AC P f ((.one (.own a) :: rest) ++ [.one (.own b)]) [(a, some (.arr T e xs d)), (b, some (.arr T e zs d))] (.one (.own c)) [(a, none), (b, none), (c, some (.arr T e ys d))] := by
  have key : ∀ {p q : Nat}, Nat.beq p q = false → Nat.beq q p = false := fun {p q} h => by
    cases e : Nat.beq q p
    · rfl
    · have h1 := Nat.eq_of_beq_eq_true e
      subst h1
      rw [Nat.beq_refl] at h; cases h
  have hcc : Nat.beq c c = true := Nat.beq_refl c
  have haa : Nat.beq a a = true := Nat.beq_refl a
  have hca := key hac
  have hcb := key hbc
  have hba := key hab
  let r1 : Nat → Nat := fun k => bif Nat.beq k 0 then a else b
  let s1 : Nat → Nat := fun k => bif Nat.beq k c then 1 else bif Nat.beq k a then 0 else 2
  have z20 : Nat.beq 2 0 = false := rfl
  have z10 : Nat.beq 1 0 = false := rfl
  have z12 : Nat.beq 1 2 = false := rfl
  have sc : s1 c = 1 := by show (bif Nat.beq c c then 1 else _) = 1; rw [hcc]; rfl
  have sa : s1 a = 0 := by show (bif Nat.beq a c then 1 else bif Nat.beq a a then 0 else 2) = 0; rw [hac, haa]; rfl
  have sb : s1 b = 2 := by show (bif Nat.beq b c then 1 else bif Nat.beq b a then 0 else 2) = 2; rw [hbc, hba]; rfl
  have := AT.lend (P := P) (f := f) (args := (.one (.own 0) :: rest) ++ [.one (.own 2)]) (res' := .one (.own c)) (l := [(a, some (.arr T e xs d)), (b, some (.arr T e zs d))]) (l' := [(a, none), (b, none), (c, some (.arr T e ys d))]) r1 s1 (L := [(0, some (.arr T e xs d)), (2, some (.arr T e zs d))]) (L' := [(1, some (.arr T e ys d))])
    (by show AT P f _ _ (.one (.own (s1 c))) _; rw [sc]; exact h)
    ⟨⟨.arr T e xs d, by show lkl _ a = _; rw [lkl_cons_self], BLe.rf⟩, ⟨.arr T e zs d, by show lkl _ b = _; rw [lkl_cons_ne (fun q => by subst q; rw [haa] at hab; cases hab), lkl_cons_self], BLe.rf⟩, trivial⟩ (by simp [injL, keys, r1, hba, z20])
    ⟨⟨_, by rw [sc]; rfl, BLe.rf⟩, trivial⟩ (by
      simp [injL, keys, sa, sb, sc, z20, z10, z12]) (fun k hk => by
      simp [keys] at hk
      rcases hk with rfl | rfl
      · rw [lk_cons_self]
      · rw [lk_cons_ne (fun q => by subst q; rw [haa] at hab; cases hab), lk_cons_self]) (fun k cs hc => by
        by_cases q : a = k
        · subst q; rw [lkl_cons_self] at hc; cases hc
        · rw [lkl_cons_ne q] at hc
          by_cases q : b = k
          · subst q; rw [lkl_cons_self] at hc; cases hc
          · rw [lkl_cons_ne q] at hc; cases hc)
  rw [List.map_append, List.map_cons, hrest] at this
  exact this
/-! ### Elements of some cells, copied and cleared -/
theorem run_copy_rowK {P : Program} (w : World) (dT sT ty elem : TypeId) (k g o dLen dCap : Nat) (a : Addr) (sLen sCap : Nat) (cur : Array Value) (t : TypeId) (cs : List Value)
    (hu : P.underlying dT = some (.slice elem)) (hs : (P.info? elem).map (·.size) = some k)
    (hg : w.heap[g]? = some (.cells cur t (0, 0))) (hn : cs.length = Nat.min sLen dLen * k)
    (hsrc : ∀ j v, cs[j]? = some v → w.cell? (a.add j) = some v) (hfit : o + cs.length ≤ cur.size) (h1 : ∀ v ∈ cs, v.oneCell' = true) :
    (Builtin.copy_ #[dT, sT] ty #[.slice (some ⟨g, o, none⟩) dLen dCap, .slice (some a) sLen sCap]).run P w =
      .ok (goInt (Nat.min sLen dLen)) (w.setRow g (cur.toList.take o ++ cs ++ cur.toList.drop (o + cs.length)).toArray) := by
  have hl := run_loadCells_list (P := P) w a cs hsrc
  have hst := run_storeCells_at P g o t cs 0 cur w hg (by simpa using hfit) h1
  cases hq : P.info? elem with
  | none => simp [hq] at hs
  | some i =>
    have hi : i.size = k := by simpa [hq] using hs
    simp [Builtin.copy_, run_underlying hu, Builtin.lenOf, Builtin.firstCells, sizeOf, typeInfo, hq, hi, ← hn, hl, hst]
theorem insRow {A C N : List Value} {x y z : Nat} (hx : x ≤ C.length) (hy : y = x + N.length) (hz : z = C.length + N.length) (hA : A.take C.length = C) (hlen : z ≤ A.length) :
    ((A.take y ++ C.drop x ++ A.drop z).take x ++ N ++ (A.take y ++ C.drop x ++ A.drop z).drop (x + N.length)) = C.take x ++ N ++ C.drop x ++ A.drop z := by
  subst hy; subst hz
  have e1 : (A.take (x + N.length) ++ C.drop x ++ A.drop (C.length + N.length)).take x = C.take x := by
    have e0 : C.take x = A.take x := by
      conv => lhs; rw [← hA]
      rw [List.take_take, Nat.min_eq_left hx]
    rw [List.append_assoc, List.take_append_of_le_length (by simp; omega), List.take_take, Nat.min_eq_left (by omega), e0]
  have e2 : (A.take (x + N.length) ++ C.drop x ++ A.drop (C.length + N.length)).drop (x + N.length) = C.drop x ++ A.drop (C.length + N.length) := by
    rw [List.append_assoc, List.drop_left' (by simp; omega)]
  rw [e1, e2, List.append_assoc, List.append_assoc, List.append_assoc]
theorem FR.flatLen {α : Type} {e : Enc α} {f : α → List Cell} [hc : CellsOf e f] {w : World} : ∀ {xs : List α} {vs : List Value} {b : List Nat}, FR w vs (xs.flatMap f) b → vs.length = xs.length * e.size
  | [], [], b, h => by simp
  | [], _ :: _, b, h => h.elim
  | x :: xs, vs, b, h => by
    rw [List.flatMap_cons] at h
    obtain ⟨v1, v2, b1, b2, rfl, rfl, h1, h2⟩ := FR.app.1 h
    have l1 := e.len (hc.iff.2 h1)
    have l2 := FR.flatLen (e := e) h2
    rw [List.length_append, l1, l2, List.length_cons, Nat.add_mul]; omega
theorem FR.parts {α : Type} {e : Enc α} {f : α → List Cell} [hc : CellsOf e f] {w : World} {xs : List α} {cells : List Value} {bs : List Nat} (h : FR w cells (xs.flatMap f) bs) {i : Nat} (hi : i ≤ xs.length) :
    ∃ b1 b3, bs = b1 ++ b3 ∧ FR w (cells.take (i * e.size)) ((xs.take i).flatMap f) b1 ∧ FR w (cells.drop (i * e.size)) ((xs.drop i).flatMap f) b3 := by
  have e0 : xs.flatMap f = (xs.take i).flatMap f ++ (xs.drop i).flatMap f := by rw [← List.flatMap_append, List.take_append_drop]
  rw [e0] at h
  obtain ⟨v1, v2, b1, b3, rfl, rfl, h1, h2⟩ := FR.app.1 h
  have l1 := FR.flatLen (e := e) h1
  rw [List.length_take, Nat.min_eq_left hi] at l1
  exact ⟨b1, b3, rfl, by rw [List.take_left' l1]; exact h1, by rw [List.drop_left' l1]; exact h2⟩
theorem FR.ins {α : Type} {e : Enc α} {f : α → List Cell} [hc : CellsOf e f] {w : World} {xs zs : List α} {cells news : List Value} {bs b2 : List Nat} (h : FR w cells (xs.flatMap f) bs) (h2 : FR w news (zs.flatMap f) b2) {i : Nat} (hi : i ≤ xs.length) :
    ∃ bs', FR w (cells.take (i * e.size) ++ news ++ cells.drop (i * e.size)) ((xs.take i ++ zs ++ xs.drop i).flatMap f) bs' ∧ ((bs ++ b2).Nodup → bs'.Nodup) ∧ ∀ b ∈ bs', b ∈ bs ++ b2 := by
  obtain ⟨b1, b3, rfl, q1, q3⟩ := FR.parts (e := e) h hi
  refine ⟨b1 ++ b2 ++ b3, ?_, fun hn => ?_, fun b hb => ?_⟩
  · rw [List.flatMap_append, List.flatMap_append]
    exact FR.app.2 ⟨_, _, _, _, rfl, rfl, FR.app.2 ⟨_, _, _, _, rfl, rfl, q1, h2⟩, q3⟩
  · have hp : (b1 ++ b3 ++ b2).Perm (b1 ++ b2 ++ b3) := by
      rw [List.append_assoc, List.append_assoc]
      exact List.Perm.append_left b1 List.perm_append_comm
    exact hp.nodup_iff.1 hn
  · simp only [List.mem_append] at hb ⊢
    rcases hb with (hb | hb) | hb <;> simp [hb]
end Go.Proofs.Ytibhoanjglfaoaa

/- Results that nobody writes any more; arrays whose elements are shared; appending and clearing in regions. -/
namespace Go.Proofs.Ytibhoanjglfaoaa
open Go.RowKit
set_option linter.unusedVariables false

/-! ### An array's elements are no longer its own alone -/
section
variable {g : Gh} {l : Locs} {w : World}
variable {P : Program} {N : Nat} {K : List Nat} {Kn : St → Prop} {Q : Exit → St → Prop} {s : St}
end

/-! ### A result that is given up to be read alone -/
section
variable {g g' : Gh} {w : World} {α : Type} {T : TypeId} {e : Enc α} {xs : List α} {d : Bool}
end
/-! ### append and clear, where their runs are known by equations -/
end Go.Proofs.Ytibhoanjglfaoaa

/- Functions of the library on rows (printed by walk.py) -/
namespace Go.Proofs.Ytibhoanjglfaoaa
open Go.RowKit
set_option linter.unusedVariables false
set_option linter.unusedSimpArgs false
set_option maxRecDepth 100000


theorem cloneNamed_T : ∃ i z, Try.prog.underlying 31 = some (.slice 89) ∧ Try.prog.info? 89 = some i ∧ i.zero = some z ∧ z.cells.size = 3 ∧ i.size = 3 ∧ i.bytes = 48 := by
  obtain ⟨hu, hn0, ti, z, hti, hz, hzs, htis, htib⟩ := arrT_spec (P := Try.prog) (T := 31) (E := 89) (n := 3) (b := 48) (by kernel_rfl)
  exact ⟨ti, z, hu, hti, hz, hzs, htis, htib⟩
set_option maxHeartbeats 4000000 in
set_option maxRecDepth 100000 in
theorem cloneNamed_run (w : World) (base : Option Addr) (n c : Nat) (cells : List Value) (hown : w.ownsRow 0 89 3 (.slice base n c) n cells) (hn : n ≤ 100000000) (h1 : ∀ u ∈ cells, u.oneCell' = true) :
    Calls Try.prog 111 #[.slice base n c] w fun en w' => ∃ v', en = .returned v' ∧ w'.ownsRow 0 89 3 v' n cells ∧ w.grownBy w' (Value.slice base n c).ownBlock ∧ ∀ b, v'.ownBlock = some b → (Value.slice base n c).ownBlock = some b ∨ w.heap.size ≤ b := by
  obtain ⟨ti, z, hT, hti, hz, hzs, htis, htib⟩ := cloneNamed_T
  have hcl := hown.1
  rcases hown.2 with ⟨h0, hn0⟩ | ⟨g, cap, cur, hv, hbg, hg, hnc, hcm, hcs, htake⟩
  · cases h0
    go_enter Try.func111, Try.ntmps111
    go_wp2_with fail
    rw [Lib.run_eql_slice_nil _ 31 89 none 0 0 0 0 hT]
    go_wp2_with fail
    go_ret
    exact ⟨.slice none 0 0, rfl, hown, World.grownBy.refl _ _, fun b hb => by cases hb⟩
  · cases hv
    have hgl : g < w.heap.size := (Array.getElem?_eq_some_iff.1 hg).1
    have hwa : ∀ b, b < w.heap.size → (w.alloc (.cells #[] 89)).heap[b]? = w.heap[b]? := fun b hb => Below.heap_alloc w _ b hb
    have hws : (w.alloc (.cells #[] 89)).heap.size = w.heap.size + 1 := by simp
    have hown1 : (w.alloc (.cells #[] 89)).ownsRow 0 89 3 (.slice (some ⟨w.heap.size, 0, none⟩) 0 0) 0 [] :=
      ⟨rfl, .inr ⟨w.heap.size, 0, #[], rfl, Nat.zero_le _, heap_alloc_new w _, Nat.le_refl _, Nat.zero_le _, rfl, rfl⟩⟩
    obtain ⟨v', w', q1, q2, q3, q4⟩ := run_app (P := Try.prog) (w.alloc (.cells #[] 89)) 31 31 89 ti z 3 48 hT hti hz htis htib hzs (by decide) _ _ _ hown1 ⟨g, 0, none⟩ n c cells hcl (fun j u hj => by
      rw [Addr.add_lit, cell_of_row _ g _ cur 89 (0, 0) ((hwa g hgl).trans hg)]
      rw [← htake, List.getElem?_take] at hj
      split at hj
      · simpa using hj
      · cases hj) h1 (by unfold maxLen; omega) (by omega)
    go_enter Try.func111, Try.ntmps111
    go_wp2_with (first | rw [Lib.run_eql_slice_nil _ 31 89 (some ⟨g, 0, none⟩) n c 0 0 hT] | (at_builtin; refine Lib.wpList_append_run _ rfl _ _ _ _ rfl _ _ rfl rfl _ _ q1 ?_))
    go_ret
    refine ⟨v', rfl, by simpa using q2, ?_, fun b hb => .inr ?_⟩
    · obtain ⟨a1, a2, a3, a4, a5⟩ := q3
      exact ⟨a1, a2, a3, Nat.le_trans (by rw [hws]; omega) a4, fun b hb hne => (a5 b (by rw [hws]; omega) (fun e => by have := Option.some.inj e; dsimp only at this; omega)).trans (hwa b hb)⟩
    · rcases q4 b hb with h | h
      · cases h; exact Nat.le_refl _
      · rw [hws] at h; omega
theorem cloneNamed_t {α : Type} {e : Enc α} {f : α → List Cell} [hc : CellsOf e f] (he : e.size = 3) {d : Bool} {xs : List α} (hx : xs.length ≤ 100000000) :
    AT Try.prog 111 [.one (.own 0)] [(0, some (.arr 89 e xs d))] (.one (.own 1)) [(1, some (.arr 89 e xs d))] := by
  refine AT.row1 (rest := []) ⟨_, _, Try.func111, rfl, rfl⟩ (fun w v vs cells bs gg LL hvs _ hown hF h1 hap => ?_)
  have hv1 : vs = [] := by
    cases vs with
    | nil => rfl
    | cons _ _ => exact hvs.elim
  subst hv1
  rw [he] at hown ⊢
  have key : ∃ base c, v = .slice base xs.length c := by
    rcases hown.2 with ⟨rfl, h0⟩ | ⟨g, c, cur, rfl, _⟩
    · exact ⟨none, 0, by rw [h0]⟩
    · exact ⟨_, _, rfl⟩
  obtain ⟨base, c, rfl⟩ := key
  refine (cloneNamed_run w base xs.length c cells hown hx h1).mono ?_
  rintro en w' ⟨v', rfl, q1, q2, q3⟩
  exact ⟨v', cells, rfl, q1, q2, q3, bs, hF, fun h => h, fun b hb => hb⟩


theorem insNamed_T : ∃ i z, Try.prog.underlying 31 = some (.slice 89) ∧ Try.prog.info? 89 = some i ∧ i.zero = some z ∧ z.cells.size = 3 ∧ i.size = 3 ∧ i.bytes = 48 := by
  obtain ⟨hu, hn0, ti, z, hti, hz, hzs, htis, htib⟩ := arrT_spec (P := Try.prog) (T := 31) (E := 89) (n := 3) (b := 48) (by kernel_rfl)
  exact ⟨ti, z, hu, hti, hz, hzs, htis, htib⟩
set_option maxHeartbeats 4000000 in
set_option maxRecDepth 100000 in
theorem insNamed_end (w : World) (base : Option Addr) (n c i : Nat) (cells news : List Value) (vb vc m : Nat) (hown : w.ownsRow 0 89 3 (.slice base n c) n cells) (hu : w.ownsRow 0 89 3 (.slice (some ⟨vb, 0, none⟩) m vc) m news) (hin : i = n) (hm : 0 < m) (hm1 : m ≤ 1000) (hn : n ≤ 100000000) (hc63 : c ≤ 9223372036854775807) (h1 : ∀ u ∈ news, u.oneCell' = true) (hnc : n ≤ c) :
    Calls Try.prog 114 #[.slice base n c, .int .i64 (i : Int), .slice (some ⟨vb, 0, none⟩) m vc] w fun en w' => ∃ v', en = .returned v' ∧ w'.ownsRow 0 89 3 v' (n + m) (cells ++ news) ∧ w.grownBy w' (Value.slice base n c).ownBlock ∧ ∀ b, v'.ownBlock = some b → (Value.slice base n c).ownBlock = some b ∨ w.heap.size ≤ b := by
  subst hin
  obtain ⟨ti, z, hT, hti, hz, hzs, htis, htib⟩ := insNamed_T
  obtain ⟨v', w', q1, q2, q3, q4⟩ := run_app (P := Try.prog) w 31 31 89 ti z 3 48 hT hti hz htis htib hzs (by decide) _ _ _ hown ⟨vb, 0, none⟩ m vc news hu.1 (hu.cells rfl) h1 (by unfold maxLen; omega) (by omega)
  have hi : (0 : Int) ≤ (i : Int) := by omega
  have hz1 : ¬ ((m : Int) = 0) := by omega
  clear hown hu
  by_cases hci : c = i
  · subst hci
    go_enter Try.func114, Try.ntmps114
    go_wp2_with (at_builtin; refine Lib.wpList_append_run _ rfl _ _ _ _ rfl _ _ rfl rfl _ _ q1 ?_)
    go_ret
    exact ⟨v', rfl, q2, q3, q4⟩
  · go_enter Try.func114, Try.ntmps114
    go_wp2_with (at_builtin; refine Lib.wpList_append_run _ rfl _ _ _ _ rfl _ _ rfl rfl _ _ q1 ?_)
    go_ret
    exact ⟨v', rfl, q2, q3, q4⟩
set_option maxHeartbeats 4000000 in
set_option maxRecDepth 100000 in
theorem insNamed_shift (w : World) (g n c i : Nat) (cur : Array Value) (cells news : List Value) (vb vc m : Nat) (vcur : Array Value) (hg : w.heap[g]? = some (.cells cur 89 (0, 0))) (hgv : w.heap[vb]? = some (.cells vcur 89 (0, 0))) (hne : vb ≠ g) (hcs : cur.size = c * 3) (htk : cur.toList.take (n * 3) = cells) (hl : cells.length = n * 3) (hnv : ∀ j u, news[j]? = some u → w.cell? ((⟨vb, 0, none⟩ : Addr).add j) = some u) (hnl : news.length = m * 3)
    (hin : i < n) (hroom : n + m ≤ c) (hm : 0 < m) (hc63 : c ≤ 9223372036854775807) (h1 : ∀ u ∈ cells ++ news, u.oneCell' = true) (hvs : vcur.size = vc * 3) (hv1 : m ≤ vc) :
    Calls Try.prog 114 #[.slice (some ⟨g, 0, none⟩) n c, .int .i64 (i : Int), .slice (some ⟨vb, 0, none⟩) m vc] w fun en w' => en = .returned (.slice (some ⟨g, 0, none⟩) (n + m) c) ∧ w'.heap[g]? = some (.cells (cells.take (i * 3) ++ news ++ cells.drop (i * 3) ++ cur.toList.drop ((n + m) * 3)).toArray 89 (0, 0)) ∧ w.grownBy w' (some g) := by
  obtain ⟨ti, z, hT, hti, hz, hzs, htis, htib⟩ := insNamed_T
  have hsz : (Try.prog.info? 89).map (·.size) = some 3 := by rw [hti]; simp [htis]
  have hov : ∀ (W : World), W.heap = w.heap → ∀ lb cb, (callFunc 148 #[.slice (some ⟨vb, 0, none⟩) m vc, .slice (some ⟨g, ((i + m) * 3), none⟩) lb cb]).run Try.prog W = .ok (.value (.bool false)) W := fun W hW lb cb => by
    rw [run_callFunc_extern Try.func148 (by kernel_rfl) (by kernel_rfl) (by kernel_rfl) (e := Extern.SlicesOverlaps.overlaps #[31, 31] #[4]) (by kernel_rfl),
      Lib.run_overlaps_apart W 31 4 89 hT 3 (by intro w; simp [Go.sizeOf, typeInfo, hti, htis]) ⟨vb, 0, none⟩ ⟨g, ((i + m) * 3), none⟩ m vc lb cb hne 89 89 vcur.size cur.size (by simp [World.shape?, hW, hgv]) (by simp [World.shape?, hW, hg]) (by rw [hcs]; omega) (by simp [World.frozen?, hW, hgv]) (by simp [World.frozen?, hW, hgv])]
    rfl
  obtain ⟨A1, hA1⟩ : ∃ A1, A1 = (cur.toList.take ((i + m) * 3) ++ cells.drop (i * 3) ++ cur.toList.drop ((n + m) * 3)) := ⟨_, rfl⟩
  have hcur : cur.toList.length = c * 3 := by rw [← hcs, Array.length_toList]
  have hdl : (cells.drop (i * 3)).length = (n - i) * 3 := by rw [List.length_drop, hl]; omega
  have hcp1 : ∀ W : World, W.heap = w.heap → ∀ ty dc sc, (Builtin.copy_ #[31, 31] ty #[.slice (some ⟨g, ((i + m) * 3), none⟩) (n + m - (i + m)) dc, .slice (some ⟨g, ((i) * 3), none⟩) (n + m - i) sc]).run Try.prog W = .ok (goInt (n - i : Nat)) (W.setRow g A1.toArray) := fun W hW ty dc sc => by
    have hmn : Nat.min (n + m - i) (n + m - (i + m)) = n - i := by simp only [Nat.min_def]; split <;> omega
    have := run_copy_rowK (P := Try.prog) W 31 31 ty 89 3 g ((i + m) * 3) (n + m - (i + m)) dc ⟨g, ((i) * 3), none⟩ (n + m - i) sc cur 89 (cells.drop (i * 3)) hT hsz (by rw [hW]; exact hg) (by rw [hmn, hdl])
      (fun j v hj => by
        rw [Addr.add_lit, cell_of_row W g _ cur 89 (0, 0) (by rw [hW]; exact hg)]
        rw [List.getElem?_drop, ← htk, List.getElem?_take] at hj
        split at hj
        · simpa using hj
        · cases hj) (by rw [hdl, hcs]; omega) (fun v hv => h1 v (List.mem_append_left _ (List.mem_of_mem_drop hv)))
    rw [hmn] at this
    rw [this, hA1, hdl]
    have e : ((i + m) * 3) + (n - i) * 3 = (n + m) * 3 := by omega
    rw [e]
    try simp only [Nat.mul_one]
  have hA1l : A1.length = c * 3 := by rw [hA1]; simp [hdl, hcur]; omega
  have hcp2 : ∀ W0 : World, W0.heap = w.heap → ∀ ty dc, (Builtin.copy_ #[31, 31] ty #[.slice (some ⟨g, ((i) * 3), none⟩) (n + m - i) dc, .slice (some ⟨vb, 0, none⟩) m vc]).run Try.prog (W0.setRow g A1.toArray) = .ok (goInt m) ((W0.setRow g A1.toArray).setRow g (cells.take (i * 3) ++ news ++ cells.drop (i * 3) ++ cur.toList.drop ((n + m) * 3)).toArray) := fun W0 hW0 ty dc => by
    have hW : (W0.setRow g A1.toArray).heap[g]? = some (.cells A1.toArray 89 (0, 0)) := setRow_heap W0 g cur _ _ _ (by rw [hW0]; exact hg)
    have hWv : (W0.setRow g A1.toArray).heap[vb]? = w.heap[vb]? := (setRow_other W0 g vb _ hne).trans (by rw [hW0])
    generalize W0.setRow g A1.toArray = W at *
    have hmn : Nat.min m (n + m - i) = m := by simp only [Nat.min_def]; split <;> omega
    have := run_copy_rowK (P := Try.prog) W 31 31 ty 89 3 g ((i) * 3) (n + m - i) dc ⟨vb, 0, none⟩ m vc A1.toArray 89 news hT hsz hW (by rw [hmn, hnl]) (fun j v hj => by
        have h2 := hnv j v hj
        rw [Addr.add_lit] at h2 ⊢
        simp only [World.cell?, hWv] at h2 ⊢
        exact h2) (by rw [hnl, List.size_toArray, hA1l]; omega) (fun v hv => h1 v (List.mem_append_right _ hv))
    rw [hmn] at this
    rw [this]
    congr 3
    have hx := insRow (A := cur.toList) (C := cells) (N := news) (x := i * 3) (y := (i + m) * 3) (z := (n + m) * 3) (by rw [hl]; omega) (by rw [hnl]; omega) (by rw [hl, hnl]; omega) (by rw [hl]; exact htk) (by rw [hcur]; omega)
    rw [hA1]
    first | exact hx | simpa only [Nat.mul_one] using hx
  have hz1 : ¬ ((m : Int) = 0) := by omega
  have hz2 : ¬ ((i : Int) = (n : Int)) := by omega
  have hw1 : IntKind.i64.wrap ((i : Int) + (m : Int)) = (i : Int) + (m : Int) := by rw [IntKind.wrap_i64]; omega
  have hw2 : IntKind.i64.wrap ((n : Int) + (m : Int)) = (n : Int) + (m : Int) := by rw [IntKind.wrap_i64]; omega
  have hw3 : ¬ ((c : Int) < (n : Int) + (m : Int)) := by omega
  have hb1 : (0 : Int) ≤ (i : Int) + (m : Int) := by omega
  have hb1' : (0 : Int) ≤ (n : Int) + (m : Int) := by omega
  have hin' : i ≤ n := by omega
  have htn : ((i : Int) + (m : Int)).toNat = i + m := by omega
  have htn2 : ((n : Int) + (m : Int)).toNat = n + m := by omega
  have hb2 : ¬ (c = i + m) := by omega
  have hb3 : (i : Int) ≤ (n : Int) + (m : Int) := by omega
  have hb3' : (i : Int) + (m : Int) ≤ (n : Int) + (m : Int) := by omega
  have hb5 : (n : Int) + (m : Int) ≤ (c : Int) := by omega
  have hb4 : ¬ (c = i) := by omega
  have hgw : (w.setRow g A1.toArray).heap[g]? = some (.cells A1.toArray 89 (0, 0)) := setRow_heap w g cur _ _ _ hg
  have hgo : (w.setRow g A1.toArray).heap[vb]? = w.heap[vb]? := setRow_other w g vb _ hne
  clear hA1
  go_enter Try.func114, Try.ntmps114
  go_wp2_with (simp only [hov _ rfl])
  go_region_law (refine step_copy_runI rfl (.tmp 73) (.tmp 76) 31 31 rfl (.slice (some ⟨g, ((i + m) * 3), none⟩) (n + m - (i + m)) (c - (i + m))) (.slice (some ⟨g, ((i) * 3), none⟩) (n + m - i) (c - i)) (by simp [Act.eval, Act.put]) (by simp [Act.eval, Act.put]) (hcp1 _ (by rfl) _ _ _) ?_)
  go_wp2
  rw [hcp2 w.drew rfl]
  go_wp2
  go_ret
  refine ⟨rfl, ?_, ?_⟩
  · have hh := setRow_heap (w.drew.setRow g A1.toArray) g A1.toArray (cells.take (i * 3) ++ news ++ cells.drop (i * 3) ++ cur.toList.drop ((n + m) * 3)).toArray 89 (0, 0) hgw
    simpa only [List.append_assoc, Nat.mul_one] using hh
  · exact ⟨rfl, rfl, rfl, by simp, fun b hb hne => by
      have hb2 : b ≠ g := fun e => hne (by rw [e])
      exact (setRow_other _ g b _ hb2).trans (setRow_other w g b _ hb2)⟩

set_option maxHeartbeats 4000000 in
set_option maxRecDepth 100000 in
theorem insNamed_grow (w : World) (g n c i : Nat) (cur : Array Value) (cells news : List Value) (vb vc m : Nat) (hg : w.heap[g]? = some (.cells cur 89 (0, 0))) (hvbl : vb < w.heap.size) (hcs : cur.size = c * 3) (htk : cur.toList.take (n * 3) = cells) (hl : cells.length = n * 3) (hnv : ∀ j u, news[j]? = some u → w.cell? ((⟨vb, 0, none⟩ : Addr).add j) = some u) (hnl : news.length = m * 3)
    (hin : i < n) (hnc : n ≤ c) (hroom : c < n + m) (hm : 0 < m) (hm1 : m ≤ 1000) (hn : n ≤ 100000000) (hc63 : c ≤ 9223372036854775807) (h1 : ∀ u ∈ cells ++ news, u.oneCell' = true) :
    Calls Try.prog 114 #[.slice (some ⟨g, 0, none⟩) n c, .int .i64 (i : Int), .slice (some ⟨vb, 0, none⟩) m vc] w fun en w' => ∃ (G : Nat) (T : List Value), en = .returned (.slice (some ⟨w.heap.size, 0, none⟩) (n + m) G) ∧ n + m ≤ G ∧ G ≤ maxLen ∧ T.length = G * 3 ∧ T.take ((n + m) * 3) = cells.take (i * 3) ++ news ++ cells.drop (i * 3) ∧ w'.heap[w.heap.size]? = some (.cells T.toArray 89 (0, 0)) ∧ w.grownBy w' none := by
  obtain ⟨ti, z, hT, hti, hz, hzs, htis, htib⟩ := insNamed_T
  have hsz : (Try.prog.info? 89).map (·.size) = some 3 := by rw [hti]; simp [htis]
  have hgl : g < w.heap.size := (Array.getElem?_eq_some_iff.1 hg).1
  have hcell : ∀ j v, cells[j]? = some v → w.cell? ⟨g, j, none⟩ = some v := fun j v hj => by
    rw [cell_of_row w g _ cur 89 (0, 0) hg]
    rw [← htk, List.getElem?_take] at hj
    split at hj
    · simpa using hj
    · cases hj
  have hkk : (n : Int) + (m : Int) - (i : Int) = ((n + m - i : Nat) : Int) := by omega
  have hik : i + (n + m - i) = n + m := by omega
  have hold : (Builtin.firstCells ti.size i (.slice (some ⟨g, 0, none⟩) i c)).run Try.prog w.drew = .ok (cells.take (i * 3)).toArray w.drew := by
    rw [htis]
    exact run_firstCells_some w.drew 3 i ⟨g, 0, none⟩ i c (cells.take (i * 3)) (by rw [List.length_take, hl]; omega) (fun j v hj => by
      rw [Addr.add_lit, Nat.zero_add]
      rw [List.getElem?_take] at hj
      split at hj
      · exact hcell j v hj
      · cases hj)
  obtain ⟨G, hG⟩ : ∃ G, G = grownCap w (n + m) c 89 := ⟨_, rfl⟩
  obtain ⟨ROW, hROW⟩ : ∃ ROW : Array Value, ROW = (cells.take (i * 3)).toArray ++ Builtin.zeroCells z.cells (n + m - i) ++ Builtin.zeroCells z.cells (G - (n + m)) := ⟨_, rfl⟩
  have hrz : ∀ ty, (Builtin.append_ #[31, 3] ty #[.slice (some ⟨g, 0, none⟩) i c, .int .i64 ((n : Int) + (m : Int) - (i : Int))]).run Try.prog w = .ok (.slice (some ⟨w.heap.size, 0, none⟩) (n + m) G) (w.drew.alloc (.cells ROW 89)) := fun ty => by
    have h := Lib.run_append_grow_zeros (P := Try.prog) w 31 3 ty 89 ti z .i64 .i64 hT Try.underlying3 hti hz (some ⟨g, 0, none⟩) i c (cells.take (i * 3)).toArray.toList hold (n + m - i) (by omega) (by rw [htis]; decide) (by omega) (by omega) (by rw [htib]; omega) (by rw [htib, hik]; exact growslice_fits hroom (by omega))
    rw [hik, ← hG] at h
    rw [hkk, hROW]
    exact h
  have hGn : n + m ≤ G := by rw [hG]; exact grownCap_ge w _ _ _
  have hGm : G ≤ maxLen := by rw [hG]; exact grownCap_le_maxLen w (n + m) c 89 (by unfold maxLen; omega)
  have hG63 : G ≤ 9223372036854775807 := by unfold maxLen at hGm; omega
  have hRl : ROW.size = G * 3 := by
    rw [hROW, Array.size_append, Array.size_append, size_zeroCells, size_zeroCells, List.size_toArray, List.length_take, hl, hzs]
    omega
  have hRt : ROW.toList.take (i * 3) = cells.take (i * 3) := by
    rw [hROW]
    simp only [Array.toList_append, List.append_assoc]
    exact List.take_left' (by rw [List.length_take, hl]; omega)
  have hdl : (cells.drop (i * 3)).length = (n - i) * 3 := by rw [List.length_drop, hl]; omega
  obtain ⟨A1, hA1⟩ : ∃ A1, A1 = (ROW.toList.take (i * 3) ++ news ++ ROW.toList.drop ((i + m) * 3)) := ⟨_, rfl⟩
  have hrl : ROW.toList.length = G * 3 := by rw [← hRl, Array.length_toList]
  have hA1l : A1.length = G * 3 := by rw [hA1]; simp [hnl, hrl]; omega
  obtain ⟨A2, hA2⟩ : ∃ A2, A2 = (A1.take ((i + m) * 3) ++ cells.drop (i * 3) ++ A1.drop ((n + m) * 3)) := ⟨_, rfl⟩
  have hA2l : A2.length = G * 3 := by rw [hA2]; simp [hdl, hA1l]; omega
  have hcpA : ∀ W : World, W.heap[w.heap.size]? = some (.cells ROW 89 (0, 0)) → (∀ b, b < w.heap.size → W.heap[b]? = w.heap[b]?) → ∀ ty dc, (Builtin.copy_ #[31, 31] ty #[.slice (some ⟨w.heap.size, ((i) * 3), none⟩) (n + m - i) dc, .slice (some ⟨vb, 0, none⟩) m vc]).run Try.prog W = .ok (goInt m) (W.setRow w.heap.size A1.toArray) := fun W hW hWv ty dc => by
    have hmn : Nat.min m (n + m - i) = m := by simp only [Nat.min_def]; split <;> omega
    have := run_copy_rowK (P := Try.prog) W 31 31 ty 89 3 w.heap.size ((i) * 3) (n + m - i) dc ⟨vb, 0, none⟩ m vc ROW 89 news hT hsz hW (by rw [hmn, hnl]) (fun j v hj => by
        have h2 := hnv j v hj
        rw [Addr.add_lit] at h2 ⊢
        simp only [World.cell?, hWv vb hvbl] at h2 ⊢
        exact h2) (by rw [hnl, hRl]; omega) (fun v hv => h1 v (List.mem_append_right _ hv))
    rw [hmn] at this
    rw [this, hA1, hnl]
    have e : ((i) * 3) + m * 3 = (i + m) * 3 := by omega
    rw [e]
    try simp only [Nat.mul_one]
  have hcpB : ∀ W : World, W.heap[w.heap.size]? = some (.cells A1.toArray 89 (0, 0)) → (∀ b, b < w.heap.size → W.heap[b]? = w.heap[b]?) → ∀ ty dc sc, (Builtin.copy_ #[31, 31] ty #[.slice (some ⟨w.heap.size, ((i + m) * 3), none⟩) (n + m - (i + m)) dc, .slice (some ⟨g, ((i) * 3), none⟩) (n - i) sc]).run Try.prog W = .ok (goInt (n - i : Nat)) (W.setRow w.heap.size A2.toArray) := fun W hW hWv ty dc sc => by
    have hmn : Nat.min (n - i) (n + m - (i + m)) = n - i := by simp only [Nat.min_def]; split <;> omega
    have := run_copy_rowK (P := Try.prog) W 31 31 ty 89 3 w.heap.size ((i + m) * 3) (n + m - (i + m)) dc ⟨g, ((i) * 3), none⟩ (n - i) sc A1.toArray 89 (cells.drop (i * 3)) hT hsz hW (by rw [hmn, hdl]) (fun j v hj => by
        rw [List.getElem?_drop] at hj
        have h2 := hcell _ v hj
        rw [Addr.add_lit]
        simp only [World.cell?, hWv g hgl] at h2 ⊢
        first | exact h2 | simpa only [Nat.mul_one] using h2) (by rw [hdl, List.size_toArray, hA1l]; omega) (fun v hv => h1 v (List.mem_append_left _ (List.mem_of_mem_drop hv)))
    rw [hmn] at this
    rw [this, hA2, hdl]
    have e : ((i + m) * 3) + (n - i) * 3 = (n + m) * 3 := by omega
    rw [e]
    try simp only [Nat.mul_one]
  have hfin : A2.take ((n + m) * 3) = cells.take (i * 3) ++ news ++ cells.drop (i * 3) := by
    rw [hA2, List.take_left' (by rw [List.length_append, List.length_take, hA1l, hdl]; omega)]
    congr 1
    rw [hA1, hRt, List.take_left' (by rw [List.length_append, List.length_take, hl, hnl]; omega)]
  have hz1 : ¬ ((m : Int) = 0) := by omega
  have hz2 : ¬ ((i : Int) = (n : Int)) := by omega
  have hz3 : (c : Int) < (n : Int) + (m : Int) := by omega
  have hw1 : IntKind.i64.wrap ((i : Int) + (m : Int)) = (i : Int) + (m : Int) := by rw [IntKind.wrap_i64]; omega
  have hw2 : IntKind.i64.wrap ((n : Int) + (m : Int)) = (n : Int) + (m : Int) := by rw [IntKind.wrap_i64]; omega
  have hw3 : IntKind.i64.wrap ((n : Int) + (m : Int) - (i : Int)) = (n : Int) + (m : Int) - (i : Int) := by rw [IntKind.wrap_i64]; omega
  have hb1 : (0 : Int) ≤ (i : Int) + (m : Int) := by omega
  have hin' : i ≤ n := by omega
  have hic : i ≤ c := by omega
  have htn : ((i : Int) + (m : Int)).toNat = i + m := by omega
  have hb3 : (i : Int) ≤ (n : Int) + (m : Int) := by omega
  have hb3' : (i : Int) + (m : Int) ≤ (n : Int) + (m : Int) := by omega
  have hGi : ¬ (G = i) := by omega
  have hGim : ¬ (G = i + m) := by omega
  have hci : ¬ (c = i) := by omega
  have hA0 : ∀ W : World, W.heap = w.heap → ((W.alloc (.cells ROW 89)).heap[w.heap.size]? = some (.cells ROW 89 (0, 0)) ∧ ∀ b, b < w.heap.size → (W.alloc (.cells ROW 89)).heap[b]? = w.heap[b]?) := fun W hW => ⟨by rw [← hW]; exact heap_alloc_new W _, fun b hb => by rw [← hW] at hb ⊢; show (W.heap.push _)[b]? = _; rw [Array.getElem?_push, if_neg (Nat.ne_of_lt hb)]⟩
  have hB0 : ∀ W : World, W.heap[w.heap.size]? = some (.cells ROW 89 (0, 0)) → (∀ b, b < w.heap.size → W.heap[b]? = w.heap[b]?) → ((W.setRow w.heap.size A1.toArray).heap[w.heap.size]? = some (.cells A1.toArray 89 (0, 0)) ∧ ∀ b, b < w.heap.size → (W.setRow w.heap.size A1.toArray).heap[b]? = w.heap[b]?) := fun W h1 h2 => ⟨setRow_heap W _ _ _ _ _ h1, fun b hb => by rw [setRow_other W _ b _ (by omega)]; exact h2 b hb⟩
  obtain ⟨a1, a2⟩ := hA0 w.drew rfl
  obtain ⟨b1, b2⟩ := hB0 (w.drew.alloc (.cells ROW 89)) a1 a2
  have hcA := hcpA (w.alloc (.cells ROW 89)).drew a1 a2
  clear hkk hik hold hROW hG hA1 hA2 hcpA hA0 hB0 hRt hRl
  go_enter Try.func114, Try.ntmps114
  go_wp2_with (at_builtin; refine Lib.wpList_append_run _ rfl _ _ _ _ rfl _ _ rfl rfl _ _ (hrz _) ?_)
  first | (rw [hcA]; go_wp2_with fail) | skip
  go_region_law (refine step_copy_runI rfl (.tmp 50) (.tmp 53) 31 31 rfl (.slice (some ⟨w.heap.size, ((i + m) * 3), none⟩) (n + m - (i + m)) (G - (i + m))) (.slice (some ⟨g, ((i) * 3), none⟩) (n - i) (c - i)) (by simp [Act.eval, Act.put]) (by simp [Act.eval, Act.put]) (hcpB _ (by exact b1) (by exact b2) _ _ _) ?_)
  go_wp2
  go_ret
  refine ⟨G, A2, rfl, hGn, hGm, hA2l, hfin, ?_, ?_⟩
  · exact setRow_heap _ _ A1.toArray A2.toArray 89 (0, 0) b1
  · exact ⟨rfl, rfl, rfl, by simp, fun b hb _ => (setRow_other _ _ b _ (by omega)).trans (b2 b hb)⟩
theorem insNamed_t {α : Type} {e : Enc α} {f : α → List Cell} [hc : CellsOf e f] (he : e.size = 3) {d : Bool} {xs zs : List α} {i : Nat} (hi : i ≤ xs.length) (hz : 0 < zs.length) (hz1 : zs.length ≤ 1000) (hx : xs.length ≤ 100000000) :
    AT Try.prog 114 ([.one (.own 0), .one (.c (.int .i64 (i : Int)))] ++ [.one (.own 2)]) [(0, some (.arr 89 e xs d)), (2, some (.arr 89 e zs d))] (.one (.own 1)) [(1, some (.arr 89 e (xs.take i ++ zs ++ xs.drop i) d))] := by
  refine AT.row2 (rest := [.one (.c (.int .i64 (i : Int)))]) ⟨_, _, Try.func114, rfl, rfl⟩ (fun w v u vs cells news bs b2 hvs hown hu hF hF2 h1 hap => ?_) (fun x hx => by simp at hx; exact ⟨_, hx⟩)
  have hv1 : vs = [.int .i64 (i : Int)] := by
    cases vs with
    | nil => exact hvs.elim
    | cons a as' =>
      cases as' with
      | nil => have := hvs.1; cases this; rfl
      | cons _ _ => exact hvs.2.elim
  subst hv1
  obtain ⟨bs', q1, q2, q3⟩ := FR.ins (e := e) hF hF2 hi
  rw [he] at hown hu q1 ⊢
  have hln : (xs.take i ++ zs ++ xs.drop i).length = xs.length + zs.length := by simp; omega
  rw [hln]
  have hcl := hown.1
  rcases hu.2 with ⟨_, h0⟩ | ⟨vb, vc, vcur, rfl, _, g2, g3, g4, g5, g6⟩
  · omega
  have hap' : v.ownBlock ≠ some vb := hap vb rfl
  have hcut : i = xs.length → cells.take (i * 3) ++ news ++ cells.drop (i * 3) = cells ++ news := fun e0 => by
    rw [e0, ← hcl, List.take_length, List.drop_length, List.append_nil]
  show Calls Try.prog 114 #[v, .int .i64 (i : Int), .slice (some ⟨vb, 0, none⟩) zs.length vc] w _
  rcases hown.2 with ⟨rfl, h0⟩ | ⟨g, c, cur, rfl, _, r3, r4, r5, r6, r7⟩
  · rw [h0]
    refine (insNamed_end w none 0 0 i cells news vb vc zs.length (by rw [h0] at hown; exact hown) hu (by omega) hz hz1 (by omega) (by omega) (fun u hu => h1 u (List.mem_append_right _ hu)) (by omega)).mono ?_
    rintro en w' ⟨v', rfl, t1, t2, t3⟩
    exact ⟨v', _, rfl, by rw [hcut (by omega)]; exact t1, t2, t3, bs', q1, q2, q3⟩
  · have hne : vb ≠ g := fun e0 => hap' (by rw [e0]; rfl)
    have hc63 : c ≤ 9223372036854775807 := by unfold maxLen at r5; omega
    by_cases hin : i = xs.length
    · refine (insNamed_end w (some ⟨g, 0, none⟩) xs.length c i cells news vb vc zs.length hown hu hin hz hz1 hx hc63 (fun u hu => h1 u (List.mem_append_right _ hu)) r4).mono ?_
      rintro en w' ⟨v', rfl, t1, t2, t3⟩
      exact ⟨v', _, rfl, by rw [hcut hin]; exact t1, t2, t3, bs', q1, q2, q3⟩
    · have hnv := hu.cells (g := vb) rfl
      by_cases hroom : xs.length + zs.length ≤ c
      · refine (insNamed_shift w g xs.length c i cur cells news vb vc zs.length vcur r3 g2 hne r6 r7 hcl hnv hu.1 (by omega) hroom hz hc63 h1 g5 g3).mono ?_
        rintro en w' ⟨rfl, t1, t2⟩
        refine ⟨_, cells.take (i * 3) ++ news ++ cells.drop (i * 3), rfl, ⟨?_, .inr ⟨g, c, _, rfl, Nat.zero_le _, t1, hroom, r5, ?_, ?_⟩⟩, t2, fun b hb => .inl hb, bs', q1, q2, q3⟩
        · simp [hcl, hu.1]; omega
        · have hz := hu.1
          have hsz : cur.toList.length = c * 3 := by rw [Array.length_toList]; exact r6
          simp [hcl, hz, hsz]; omega
        · have hz := hu.1
          simp only [List.toList_toArray]
          exact List.take_left' (by simp [hcl, hz]; omega)
      · refine (insNamed_grow w g xs.length c i cur cells news vb vc zs.length r3 (Array.getElem?_eq_some_iff.1 g2).1 r6 r7 hcl hnv hu.1 (by omega) r4 (by omega) hz hz1 hx hc63 h1).mono ?_
        rintro en w' ⟨G, T, rfl, t1, t2, t3, t4, t5, t6⟩
        refine ⟨_, cells.take (i * 3) ++ news ++ cells.drop (i * 3), rfl, ⟨?_, .inr ⟨_, G, _, rfl, Nat.zero_le _, t5, t1, t2, ?_, ?_⟩⟩, ⟨t6.os, t6.tape, t6.output, t6.size, fun b hb _ => t6.block b hb (by simp)⟩, fun b hb => .inr ?_, bs', q1, q2, q3⟩
        · simp [hcl, hu.1]; omega
        · simp [t3]
        · simpa using t4
        · have hb' : some w.heap.size = some b := hb
          cases hb'; exact Nat.le_refl _
end Go.Proofs.Ytibhoanjglfaoaa

/- Numbers and texts ars bytes, in plain words. -/
namespace Go.Proofs.Ytibhoanjglfaoaa
open Go.RowKit
set_option linter.unusedVariables false

/-- The bytes of n, the highest first, but for the last j of size. -/
def bpTo (n : Int) (size j : Nat) : List Int := (List.range (size - j)).map fun q => n / 256 ^ (size - 1 - q) % 256
def putB (n : Int) (size : Nat) : List Int := bpTo n size 0
theorem putB_len {n : Int} {size : Nat} : (putB n size).length = size := by simp [putB, bpTo]
theorem texts_eq {a b : ByteArray} (h : a.data.toList = b.data.toList) : a = b := by
  obtain ⟨⟨a⟩⟩ := a
  obtain ⟨⟨b⟩⟩ := b
  simp at h; rw [h]
theorem relOk_small {r : Relt} (h : relOk r = true) : 0 ≤ r.arity ∧ r.arity ≤ 6 ∧ r.rows.length ≤ 300 ∧ ∀ row ∈ r.rows, row.length ≤ 6 := by
  have hp := relOk_parts h
  refine ⟨hp.2.1, hp.2.2.1, hp.2.2.2, fun row hr => ?_⟩
  obtain ⟨j, hj, rfl⟩ := List.getElem_of_mem hr
  have := relOk_ar h hj
  omega
end Go.Proofs.Ytibhoanjglfaoaa

/- Numbers copied into a part of an own array; nil ars an array that is taken; numbers in memory are not too great. -/
namespace Go.Proofs.Ytibhoanjglfaoaa
open Go.RowKit
set_option linter.unusedVariables false
set_option linter.unusedSimpArgs false

section ops
variable {P : Program} {N : Nat} {s : St} {d : Nat} {ty : TypeId} {pos : String} {after : Array Edge} {gd : Option (Nat × Bool)}
end ops
/-- A contract that takes an array takes nil, too. -/
theorem AT.nil {P : Program} {f : FuncId} {rest : List AVal} {α β : Type} {T U : TypeId} {e : Enc α} {e' : Enc β} {ys : List β} {d' : Bool}
    (h : AT P f (.one (.own 0) :: rest) [(0, some (.arr T e [] true))] (.one (.own 1)) [(1, some (.arr U e' ys d'))]) (hrest : rest.flatMap AVal.ids1 = []) (c : Nat) :
    AC P f (.one (.c (.slice none 0 0)) :: rest) [] (.one (.own c)) [(c, some (.arr U e' ys d'))] := by
  refine ⟨h.fn, fun g w cargs m ha => ?_⟩
  obtain ⟨g', q1, q2, q3, q4, q5⟩ := nil_new m (k := 0) rfl (by simp [Locs.ids]) α T e
  have ha' : All2 (VR1 g' [(0, some (.arr (α := α) T e [] true))] w) cargs.toList (.one (.own 0) :: rest) := by
    generalize cargs.toList = vs at ha
    cases vs with
    | nil => exact ha
    | cons v vs =>
      refine ⟨fun β U e2 ys dd hc => by rw [q1]; exact ha.1.1, ha.2.mono fun a b hb hr => VR1.step (fun _ _ => rfl) q4 (Nat.le_refl _) (fun k hk => ?_) hr⟩
      have : k ∈ rest.flatMap AVal.ids1 := List.mem_flatMap.2 ⟨b, hb, hk⟩
      rw [hrest] at this; cases this
  refine (h.run g' w cargs q2 ha').mono ?_
  rintro r w' ⟨v, g1, rfl, m1, hv, hs⟩
  have hle : LeL (fun _ => 1) [(1, some (.arr U e' ys d'))] [(c, some (.arr U e' ys d'))] := ⟨⟨_, rfl, BLe.rf⟩, trivial⟩
  have T1 := ((q3 []).trans m q2 hs).trans m m1 (Step.unren hle trivial)
  exact ⟨v, g1.ren _, rfl, m1.unren hle (by simp [injL, keys]), VR.unren (x := .one (.own c)) hle hv, T1⟩
end Go.Proofs.Ytibhoanjglfaoaa

/- Smaller numbers of two; pointers that are not nil; bytes in memory are bytes. -/
namespace Go.Proofs.Ytibhoanjglfaoaa
open Go.RowKit
set_option linter.unusedVariables false
section ops
variable {P : Program} {N : Nat} {s : St} {d : Nat} {ty : TypeId} {pos : String} {after : Array Edge} {gd : Option (Nat × Bool)}
end ops
theorem byte_wf {x : Int} (h : (Lit.int .u8 x).wf = true) : 0 ≤ x ∧ x ≤ 255 := by
  simp only [Lit.wf, Bool.and_eq_true, decide_eq_true_eq] at h
  exact h
theorem SliceRep.bytes {w : World} {a : Option Addr} {n cap : Nat} {xs : List Int} {bs : List Nat} (h : SliceRep (intE .u8) w a n cap xs bs) : ∀ x ∈ xs, 0 ≤ x ∧ x ≤ 255 := fun x hx => by
  obtain ⟨j, hj, rfl⟩ := List.getElem_of_mem hx
  obtain ⟨gb, o, cs, b, _, f1, _⟩ := h.get hj
  exact byte_wf f1.2.1
end Go.Proofs.Ytibhoanjglfaoaa

/- Bytes read again, in plain words. -/
namespace Go.Proofs.Ytibhoanjglfaoaa
open Go.RowKit
set_option linter.unusedVariables false
set_option linter.unusedSimpArgs false

/-- The number in bytes. -/
def bign (l : List Int) : Int := l.foldl (fun a x => 256 * a + x % 256) 0
theorem bign_fold (l : List Int) : ∀ a : Int, l.foldl (fun a x => 256 * a + x % 256) a = a * 256 ^ l.length + bign l := by
  induction l with
  | nil => intro a; simp [bign]
  | cons x l ih =>
    intro a
    have h1 := ih (256 * a + x % 256)
    have h2 := ih (256 * 0 + x % 256)
    simp only [List.foldl_cons, List.length_cons, bign] at *
    rw [h1, h2, Int.pow_succ]
    grind
theorem bign_cons (x : Int) (l : List Int) : bign (x :: l) = x % 256 * 256 ^ l.length + bign l := by
  have := bign_fold l (256 * 0 + x % 256)
  show l.foldl _ (256 * 0 + x % 256) = _
  rw [this]; simp
theorem putB_succ (n : Int) (s : Nat) : putB n (s + 1) = n / 256 ^ s % 256 :: putB n s := by
  unfold putB bpTo
  rw [Nat.sub_zero, Nat.sub_zero, List.range_succ_eq_map, List.map_cons, List.map_map]
  congr 1
  apply List.map_congr_left
  intro q hq
  simp only [Function.comp, Nat.succ_eq_add_one]
  rw [show s + 1 - 1 - (q + 1) = s - 1 - q by omega]
theorem bign_putB (n : Int) (h0 : 0 ≤ n) : ∀ s : Nat, bign (putB n s) = n % 256 ^ s
  | 0 => by simp [putB, bpTo, bign]
  | s + 1 => by
    rw [putB_succ, bign_cons, bign_putB n h0 s, putB_len]
    have hp : (0 : Int) < 256 ^ s := Int.pow_pos (by omega)
    have e1 : n / 256 ^ s % 256 % 256 = n / 256 ^ s % 256 := by omega
    rw [e1, Int.pow_succ]
    have e2 := Int.emod_add_mul_ediv n (256 ^ s)
    have e3 := Int.emod_add_mul_ediv (n / 256 ^ s) 256
    have e4 := Int.emod_add_mul_ediv n (256 ^ s * 256)
    have e5 : n / (256 ^ s * 256) = n / 256 ^ s / 256 := (Int.ediv_ediv_of_nonneg (Int.le_of_lt hp)).symm
    rw [e5] at e4
    generalize n / 256 ^ s / 256 = d at *
    generalize n / 256 ^ s % 256 = c at *
    generalize n / 256 ^ s = b at *
    generalize (256 : Int) ^ s = P at *
    grind
theorem bign_put {n : Int} {s : Nat} (h0 : 0 ≤ n) (h1 : n < 256 ^ s) : bign (putB n s) = n := by
  rw [bign_putB n h0, Int.emod_eq_of_lt h0 h1]

/-! ### From the front -/
def takeI (xs : List Int) (n : Int) : Int × List Int := if (xs.length : Int) < n then (0, []) else (bign (xs.take n.toNat), xs.drop n.toNat)
theorem takeI_ok {xs : List Int} {n : Int} (h : ¬ (xs.length : Int) < n) : takeI xs n = (bign (xs.take n.toNat), xs.drop n.toNat) := if_neg h
theorem takeI_put {n : Int} {s : Nat} {r : List Int} (h0 : 0 ≤ n) (h1 : n < 256 ^ s) : takeI (putB n s ++ r) s = (n, r) := by
  rw [takeI_ok (by rw [List.length_append, putB_len]; omega), Int.toNat_natCast]
  have : s = (putB n s).length := putB_len.symm
  rw [List.take_append_of_le_length (by omega), List.drop_append_of_le_length (by omega)]
  rw [List.take_of_length_le (by omega), List.drop_eq_nil_of_le (by omega), bign_put h0 h1, List.nil_append]
/-! ### At a place -/
def getS (b : List Int) (z n : Int) : Int := if z + n ≤ (b.length : Int) then bign ((b.drop z.toNat).take n.toNat) else 0
theorem getS_take {b : List Int} {z n : Int} (h0 : 0 ≤ z) (hn : 0 ≤ n) (h : z ≤ (b.length : Int)) : getS b z n = (takeI (b.drop z.toNat) n).1 := by
  unfold getS takeI
  rw [List.length_drop]
  split
  · rw [if_neg (by omega)]
  · rw [if_pos (by omega)]
section
variable {b : List Int}
/-- From place z on there lies r. -/
def Lies (b : List Int) (z : Int) (r : List Int) : Prop := 0 ≤ z ∧ z ≤ (b.length : Int) ∧ b.drop z.toNat = r
theorem Lies.take {z : Int} {n : Int} {s : Nat} {r : List Int} (h : Lies b z (putB n s ++ r)) (h0 : 0 ≤ n) (h1 : n < 256 ^ s) : getS b z s = n ∧ Lies b (z + s) r := by
  have h2 := takeI_put (r := r) h0 h1
  have hl := congrArg List.length h.2.2
  rw [List.length_drop, List.length_append, putB_len] at hl
  refine ⟨by rw [getS_take h.1 (by omega) h.2.1, h.2.2, h2], by have := h.1; omega, by have := h.1; have := h.2.1; omega, ?_⟩
  have e : (z + (s : Int)).toNat = z.toNat + s := by have := h.1; omega
  rw [e, ← List.drop_drop, h.2.2]
  have : s = (putB n s).length := putB_len.symm
  conv => lhs; rw [this]
  rw [putB_len]
  exact List.drop_left' putB_len
end
end Go.Proofs.Ytibhoanjglfaoaa

/- How much the marks of a store that was read count. -/
namespace Go.Proofs.Ytibhoanjglfaoaa
open Go.RowKit
set_option linter.unusedVariables false

end Go.Proofs.Ytibhoanjglfaoaa

/- A relation put under a name in a right store: the place where it goes. -/
namespace Go.Proofs.Ytibhoanjglfaoaa
open Go.RowKit
set_option linter.unusedVariables false

def nlt (a b : ByteArray) : Prop := Op.bytesLess a.toList b.toList = true
theorem nlt_iff {a b : ByteArray} : nlt a b ↔ Lib.compareBytes a.toList b.toList < 0 := by unfold nlt; rw [bytesLess_cmp]; simp
theorem nlt_trans {a b c : ByteArray} (h : nlt a b) (h2 : nlt b c) : nlt a c := nlt_iff.2 (compareBytes_trans (nlt_iff.1 h) (nlt_iff.1 h2))
theorem nlt_irr {a : ByteArray} (h : nlt a a) : False := by
  have := nlt_iff.1 h
  rw [compareBytes_self] at this; omega
theorem name_eq {a b : ByteArray} : (a == b) = true ↔ a = b := by
  constructor
  · intro h
    rw [beq_toListBytes, ByteArray.toList_eq, ByteArray.toList_eq] at h
    exact texts_eq (by simpa using h)
  · intro h; subst h; rw [beq_toListBytes]; simp
theorem name_ne {a b : ByteArray} : (a == b) = false ↔ a ≠ b := by
  constructor
  · intro h e; rw [name_eq.2 e] at h; cases h
  · intro h
    cases hb : (a == b)
    · rfl
    · exact absurd (name_eq.1 hb) h
theorem nlt_tri {a b : ByteArray} (h : ¬ nlt a b) (h2 : ¬ nlt b a) : a = b := by
  rw [nlt_iff] at h h2
  have h3 := compareBytes_neg a.toList b.toList
  have h4 : Lib.compareBytes a.toList b.toList = 0 := by omega
  have h5 := compareBytes_eq h4
  rw [ByteArray.toList_eq, ByteArray.toList_eq] at h5
  exact texts_eq h5
def SortedN (rels : List Namedt) : Prop := ∀ i j (hi : i < rels.length) (hj : j < rels.length), i < j → nlt rels[i].name rels[j].name
theorem storeOk_names {s : Storet} (h : storeOk s = true) : SortedN s.rels := by
  simp only [storeOk, Bool.and_eq_true] at h
  have adj : ∀ j (hj : j + 1 < s.rels.length), nlt (s.rels[j]'(by omega)).name s.rels[j + 1].name := fun j hj => by
    have := everyB_get h.1 hj
    simp only [namedAt, Bool.and_eq_true, Bool.or_eq_true, decide_eq_true_eq] at this
    rcases this.2.2 with h0 | h0
    · omega
    · exact h0
  intro i j hi hj hij
  obtain ⟨d, rfl⟩ : ∃ d, j = i + 1 + d := ⟨j - (i + 1), by omega⟩
  clear hij
  induction d with
  | zero => exact adj i hj
  | succ d ih => exact nlt_trans (ih (by omega)) (adj (i + 1 + d) hj)
section
variable {rels : List Namedt} {nw : Namedt} {i : Nat}
theorem le_no {x : ByteArray} {y : ByteArray} (h : nlt y x) : leB x y = false := by
  have h1 : Op.bytesLess x.toList y.toList = false := by
    cases hb : Op.bytesLess x.toList y.toList
    · rfl
    · exact absurd (nlt_trans h hb) nlt_irr
  have h2 : (x == y) = false := name_ne.2 fun e => by subst e; exact nlt_irr h
  simp [leB, h1, h2]
theorem le_yes {x : ByteArray} {y : ByteArray} (h : ¬ nlt y x) : leB x y = true := by
  unfold leB
  by_cases h1 : nlt x y
  · rw [show Op.bytesLess x.toList y.toList = true from h1]; rfl
  · rw [name_eq.2 (nlt_tri h1 h)]; simp
theorem setTo_low (hi : i ≤ rels.length) (h0 : ∀ j (hj : j < rels.length), j < i → nlt rels[j].name nw.name) : ∀ k, k ≤ i → setTo rels nw k = (false, rels.take k)
  | 0, _ => rfl
  | k + 1, hk => by
    have ih := setTo_low hi h0 k (by omega)
    have hlt := h0 k (by omega) (by omega)
    have hne : (!((rels[k]'(by omega)).name == nw.name)) = true := by
      rw [name_ne.2 fun e => by rw [e] at hlt; exact nlt_irr hlt]; rfl
    rw [setTo_next (by omega) (by rw [ih]) (le_no hlt) hne, ih, List.take_succ_eq_append_getElem (show k < rels.length by omega)]
    rfl
theorem setTo_high (hs : SortedN rels) (hi : i < rels.length) (hge : ¬ nlt rels[i].name nw.name) {F : List Namedt} (hF : setTo rels nw (i + 1) = (true, F)) : ∀ k, i + 1 ≤ k → k ≤ rels.length → setTo rels nw k = (true, F ++ (rels.take k).drop (i + 1))
  | 0, h, _ => by omega
  | k + 1, h, hk => by
    by_cases e : k = i
    · subst e
      rw [hF, List.drop_eq_nil_of_le (by simp; omega), List.append_nil]
    · have ih := setTo_high hs hi hge hF k (by omega) (by omega)
      have hlt := hs i k hi (by omega) (by omega)
      have hne : (!((rels[k]'(by omega)).name == nw.name)) = true := by
        rw [name_ne.2 fun e => by rw [e] at hlt; exact hge hlt]; rfl
      rw [setTo_skip (by omega) (by rw [ih]) hne, ih, List.take_succ_eq_append_getElem (show k < rels.length by omega), List.drop_append_of_le_length (by simp; omega), ← List.append_assoc]
      rfl
theorem setRel_ins (hs : SortedN rels) (hi : i ≤ rels.length) (h0 : ∀ j (hj : j < rels.length), j < i → nlt rels[j].name nw.name) (h1 : ∀ (h : i < rels.length), ¬ nlt rels[i].name nw.name ∧ (rels[i].name == nw.name) = false) :
    setRel rels nw = rels.take i ++ [nw] ++ rels.drop i := by
  have hl := setTo_low hi h0 i (Nat.le_refl _)
  by_cases hlt : i < rels.length
  · obtain ⟨hge, hne⟩ := h1 hlt
    have hF : setTo rels nw (i + 1) = (true, rels.take i ++ [nw] ++ [rels[i]]) := by
      rw [setTo_next (ne := true) hlt (by rw [hl]) (le_yes hge) (by rw [hne]; rfl), hl]; rfl
    have := setTo_high hs hlt hge hF rels.length (by omega) (Nat.le_refl _)
    unfold setRel
    rw [this, List.take_length]
    show rels.take i ++ [nw] ++ [rels[i]] ++ rels.drop (i + 1) = _
    rw [List.append_assoc _ [rels[i]], List.singleton_append, ← List.drop_eq_getElem_cons hlt]
  · obtain rfl : i = rels.length := by omega
    unfold setRel
    rw [hl, List.drop_eq_nil_of_le (Nat.le_refl _), List.append_nil]
    rfl
theorem setRel_rep (hs : SortedN rels) (hi : i < rels.length) (h0 : ∀ j (hj : j < rels.length), j < i → nlt rels[j].name nw.name) (heq : (rels[i].name == nw.name) = true) : setRel rels nw = rels.set i nw := by
  have hl := setTo_low (Nat.le_of_lt hi) h0 i (Nat.le_refl _)
  have hge : ¬ nlt rels[i].name nw.name := fun h => by rw [name_eq.1 heq] at h; exact nlt_irr h
  have hF : setTo rels nw (i + 1) = (true, rels.take i ++ [nw]) := by
    rw [setTo_next (ne := false) hi (by rw [hl]) (le_yes hge) (by rw [heq]; rfl), hl]; rfl
  have := setTo_high hs hi hge hF rels.length (by omega) (Nat.le_refl _)
  unfold setRel
  rw [this, List.take_length, List.set_eq_take_append_cons_drop, if_pos hi]
  show rels.take i ++ [nw] ++ rels.drop (i + 1) = _
  simp
end
def nameGe (nm : ByteArray) (x : Namedt) : Bool := !Op.bytesLess x.name.toList nm.toList
theorem noneGe {rels : List Namedt} {nm : ByteArray} {k : Nat} (h : NoneTo (nameGe nm) rels k) : ∀ j (hj : j < rels.length), j < k → nlt rels[j].name nm := fun j hj hjk => by
  have := h j hj hjk
  simp only [nameGe, Bool.not_eq_false'] at this
  exact this
/-- Where the first name lies that is not before. -/
def placeN (rels : List Namedt) (nm : ByteArray) : Int := firstIdx (nameGe nm) rels
/-- .. and the place itself. -/
def posN (rels : List Namedt) (nm : ByteArray) : Nat := if placeN rels nm < 0 then rels.length else (placeN rels nm).toNat
theorem placeN_is (rels : List Namedt) (nm : ByteArray) : posN rels nm ≤ rels.length ∧ (placeN rels nm < 0 → posN rels nm = rels.length) ∧ (¬ placeN rels nm < 0 → placeN rels nm = (posN rels nm : Int) ∧ posN rels nm < rels.length) ∧ (∀ j (hj : j < rels.length), j < posN rels nm → nlt rels[j].name nm) ∧ ∀ (h : posN rels nm < rels.length), ¬ nlt rels[posN rels nm].name nm := by
  by_cases hex : ∃ k, ∃ h : k < rels.length, nameGe nm rels[k] = true ∧ NoneTo (nameGe nm) rels k
  · obtain ⟨k, hk, h1, h2⟩ := hex
    have e : placeN rels nm = (k : Int) := firstIdx_at hk (fun j hj hjk => h2 j hj hjk) h1
    have hp : posN rels nm = k := by unfold posN; rw [e, if_neg (by omega)]; omega
    rw [hp, e]
    refine ⟨by omega, fun h => by omega, fun _ => ⟨rfl, hk⟩, noneGe h2, fun h hn => ?_⟩
    simp only [nameGe, show Op.bytesLess rels[k].name.toList nm.toList = true from hn] at h1
    cases h1
  · have hn : ∀ k, k ≤ rels.length → NoneTo (nameGe nm) rels k := fun k => by
      induction k with
      | zero => exact fun _ => .zero
      | succ k ih =>
        intro hk
        have h2 := ih (by omega)
        refine h2.succ (by omega) ?_
        cases hp : nameGe nm (rels[k]'(by omega))
        · rfl
        · exact absurd ⟨k, by omega, hp, h2⟩ hex
    have h2 := hn rels.length (Nat.le_refl _)
    have e : placeN rels nm = -1 := h2.none
    have hp : posN rels nm = rels.length := by unfold posN; rw [e, if_pos (by omega)]
    rw [hp, e]
    exact ⟨Nat.le_refl _, fun _ => rfl, fun h => by omega, noneGe h2, fun h => by omega⟩
def withRel (rels : List Namedt) (nw : Namedt) : List Namedt :=
  if h : posN rels nw.name < rels.length ∧ ((rels.getD (posN rels nw.name) noNamed).name == nw.name) = true then rels.set (posN rels nw.name) nw else rels.take (posN rels nw.name) ++ [nw] ++ rels.drop (posN rels nw.name)
theorem withRel_set {rels : List Namedt} {nw : Namedt} (hs : SortedN rels) : withRel rels nw = setRel rels nw := by
  obtain ⟨p1, p2, p3, p4, p5⟩ := placeN_is rels nw.name
  unfold withRel
  split
  · rename_i h
    have e : rels.getD (posN rels nw.name) noNamed = rels[posN rels nw.name] := by simp [List.getD, h.1]
    rw [e] at h
    exact (setRel_rep hs h.1 p4 h.2).symm
  · rename_i h
    refine (setRel_ins hs p1 p4 fun hl => ⟨p5 hl, ?_⟩).symm
    have e : rels.getD (posN rels nw.name) noNamed = rels[posN rels nw.name] := by simp [List.getD, hl]
    rw [e] at h
    cases hb : (rels[posN rels nw.name].name == nw.name)
    · rfl
    · exact absurd ⟨hl, hb⟩ h
def storePut (s : Storet) (nm : ByteArray) (r : Relt) : Storet × Bool :=
  if (storeOk s && relOk r && wordB nm) = true then (if 24 < (setRel s.rels ⟨nm, r⟩).length then (⟨[]⟩, false) else (⟨setRel s.rels ⟨nm, r⟩⟩, true)) else (⟨[]⟩, false)
theorem storePut_no {s : Storet} {nm : ByteArray} {r : Relt} (h : (storeOk s && relOk r && wordB nm) = false) : storePut s nm r = (⟨[]⟩, false) := by unfold storePut; rw [h]; rfl
theorem storePut_big {s : Storet} {nm : ByteArray} {r : Relt} (h1 : storeOk s = true) (h2 : relOk r = true) (h3 : wordB nm = true) (h : 24 < (setRel s.rels ⟨nm, r⟩).length) : storePut s nm r = (⟨[]⟩, false) := by
  unfold storePut; rw [if_pos (by simp [h1, h2, h3]), if_pos h]
theorem storePut_ok {s : Storet} {nm : ByteArray} {r : Relt} (h1 : storeOk s = true) (h2 : relOk r = true) (h3 : wordB nm = true) (h : ¬ 24 < (setRel s.rels ⟨nm, r⟩).length) : storePut s nm r = (⟨setRel s.rels ⟨nm, r⟩⟩, true) := by
  unfold storePut; rw [if_pos (by simp [h1, h2, h3]), if_neg h]
theorem rels_cnt {l : List Namedt} (hl : l.length ≤ 24) (h : ∀ x ∈ l, relOk x.rel = true) : cntL cntNamed l ≤ 1152921504606846976 := by
  have h1 := cntL_le (c := cntNamed) (M := 3602) (xs := l) fun x hx => by
    have hr := relOk_small (h x hx)
    have h2 := cntL_le (c := cntRow) (M := 12) (xs := x.rel.rows) fun row hrow => by
      have h3 := cntL_le (c := cntValue) (M := 2) (xs := row) fun v _ => by simp [cntValue]
      have := hr.2.2.2 row hrow
      unfold cntRow; omega
    have := hr.2.2.1
    unfold cntNamed; omega
  omega
theorem storePut_cnt (s : Storet) (nm : ByteArray) (r : Relt) : cntDStore (storePut s nm r).1 ≤ 1152921504606846976 := by
  unfold storePut
  split
  · rename_i h
    simp only [Bool.and_eq_true] at h
    split
    · simp [cntDStore, cntL]
    · rename_i hl
      exact rels_cnt (show (setRel s.rels ⟨nm, r⟩).length ≤ 24 by omega) (setRel_all (p := fun x => relOk x.rel = true) h.1.2 fun y hy => by
        obtain ⟨j, hj, rfl⟩ := List.getElem_of_mem hy
        exact storeOk_rel h.1.1 hj)
  · simp [cntDStore, cntL]
end Go.Proofs.Ytibhoanjglfaoaa

/- The abstract walk: a field of an element of an own array written anew. -/
namespace Go.Proofs.Ytibhoanjglfaoaa
open Go.RowKit
set_option linter.unusedVariables false
section ops
variable {P : Program} {N : Nat} {s : St} {ty : TypeId} {pos : String} {after : Array Edge} {gd : Option (Nat × Bool)}
theorem x_ofstore {α : Type} {e : Enc α} {f : α → List Cell} [hc : CellsOf e f] {T E n i k o : Nat} {x y : Operand} {X : AVal} {xs : List α} (x' : α) {A B C ds ds' : List Cell} {js : List Nat} {d1 d2 : Bool} (h : evo s.t x = some (.one (.optr k i o))) (hl : lkl s.l k = some (.arr E e xs d1)) (h2 : evo s.t y = some X) (hf : X.flat = true)
    (hT : sizeT P T = some n) (hn : X.cells.length = n) (hsol : X.cells.all (solid s.l) = true) (hmv : mvC s.l X.cells = some (ds, js, d2)) (hfit : FitL ds ds') (hnd : noDup js = true) (hkj : noId k js = true) (hi : i < xs.length)
    (hA : f xs[i] = A ++ (B ++ C)) (hAo : A.length = o) (hB : B.length = n) (hx' : f x' = A ++ (ds' ++ C)) :
    Stp P N ⟨none, .store T x y, ty, pos, after, gd⟩ s ⟨s.t, (k, some (.arr E e (xs.set i x') (d1 && d2))) :: (gones js ++ s.l)⟩ ⟨rdo x (.one (.optr k i o)) ++ rdo y X, (k, .arr E e xs d1) :: rlC s.l X.cells, [], (k, some (.arr E e (xs.set i x') (d1 && d2))) :: gones js, []⟩ := by
  refine ⟨fun K g s' a w hpre r => ?_, ⟨two_rd h h2, fun p hp => by
    rcases List.mem_cons.1 hp with rfl | hp
    · exact hl
    · exact rlC_self p hp, by simp⟩, by simp [Cert.upd]⟩
  obtain ⟨p1, p2, _⟩ := hpre
  have hk : lkl s'.l k = some (.arr E e xs d1) := p2 (k, .arr E e xs d1) (List.mem_cons_self ..)
  have p2' : ∀ p ∈ rlC s.l X.cells, lkl s'.l p.1 = some p.2 := fun p hp => p2 p (List.mem_cons_of_mem _ hp)
  have ha : a.eval x = .pointer (some ⟨g.ρ k, i * e.size + o, none⟩) := (eval_ok r (evs_of h) fun p hm => p1 p (List.mem_append_left _ hm) : CellR g s'.l w _ (.optr k i o)) _ _ _ _ _ hk
  have hv := eval_ok r (evs_of h2) fun p hm => p1 p (List.mem_append_right _ hm)
  have hs' : X.cells.all (solid s'.l) = true := List.all_eq_true.2 fun z hz => solid_of p2' hz (List.all_eq_true.1 hsol z hz)
  have hall := vr1_cells hs' r.mem hv hf
  have hmv' := mvC_of hmv p2'
  have hjn := noDup_of hnd
  have hkj' := noId_of hkj
  have hgone : ∀ j ∈ js, ∃ (α : Type) (T : TypeId) (e : Enc α) (xs : List α) (d : Bool), lkl s'.l j = some (.arr T e xs d) := fun j hj => (mvC_gone hmv' j hj).1
  obtain ⟨b', f1, f2, f3⟩ := mvC_ok r.mem hall hmv' hjn
  have hlen : (a.eval y).cells.size = n := by rw [← hn]; simpa using hall.len
  have hll : (a.eval y).cells.toList.length = n := by simpa using hlen
  rcases r.mem.arr k _ _ _ _ _ hk with ⟨rfl, _⟩ | ⟨cap, vs, bss, g1, g2, g3, g4, g5, g6, g7, g8, g9⟩
  · simp at hi
  have hlv : g.hd k ≠ .slice none 0 0 := by rw [g1]; intro e; cases e
  have hib : i < bss.length := by rw [g6.1]; exact hi
  obtain ⟨us, hus, hcell⟩ := g6.2 i xs[i] bss[i] (List.getElem?_eq_getElem hi) (List.getElem?_eq_getElem hib)
  have hul := e.len hus
  have hfr := hc.iff.1 hus
  rw [hA] at hfr
  obtain ⟨u1, ur, c1, cr, eu, ec, fr1, fr2⟩ := FR.app.1 hfr
  obtain ⟨u2, u3, c2, c3, eu2, ec2, fr3, fr4⟩ := FR.app.1 fr2
  have l1 : u1.length = o := by rw [fr1.length]; exact hAo
  have l2 : u2.length = n := by rw [fr3.length]; exact hB
  subst eu; subst eu2
  have l3 : o + n + u3.length = e.size := by rw [← hul]; simp [l1, l2]; omega
  have hfitc : i * e.size + o + n ≤ vs.size := by
    rw [g5]
    have : (i + 1) * e.size ≤ cap * e.size := Nat.mul_le_mul_right _ (by omega)
    rw [Nat.add_mul] at this; omega
  have one : ∀ v ∈ (a.eval y).cells.toList, v.oneCell' = true := FR.one f1
  have hst := run_storeCells_at P (g.ρ k) (i * e.size + o) E (a.eval y).cells.toList 0 vs w g4 (by rw [hll]; simpa using hfitc) one
  generalize hnew : (vs.toList.take (i * e.size + o) ++ (a.eval y).cells.toList ++ vs.toList.drop (i * e.size + o + (a.eval y).cells.toList.length)).toArray = new at *
  have hng : ∀ q, new[q]? = if i * e.size + o ≤ q ∧ q < i * e.size + o + n then (a.eval y).cells.toList[q - (i * e.size + o)]? else vs[q]? := fun q => by
    rw [← hnew, List.getElem?_toArray]
    have hl0 : (vs.toList.take (i * e.size + o)).length = i * e.size + o := by simp; omega
    rcases Nat.lt_or_ge q (i * e.size + o) with hq | hq
    · rw [if_neg (by omega), List.append_assoc, List.getElem?_append_left (by omega), List.getElem?_take, if_pos hq]; simp
    · rw [List.append_assoc, List.getElem?_append_right (by omega), hl0]
      rcases Nat.lt_or_ge q (i * e.size + o + n) with hq2 | hq2
      · rw [if_pos ⟨hq, hq2⟩, List.getElem?_append_left (by omega)]
      · rw [if_neg (by omega), List.getElem?_append_right (by omega), List.getElem?_drop, hll, show i * e.size + o + n + (q - (i * e.size + o) - n) = q by omega]; simp
  have hns : new.size = vs.size := by rw [← hnew]; simp; omega
  have hwk : (w.setRow (g.ρ k) new).heap[g.ρ k]? = some (.cells new E (0, 0)) := setRow_heap w _ _ _ E _ g4
  have hwo : ∀ b, b ≠ g.ρ k → (w.setRow (g.ρ k) new).heap[b]? = w.heap[b]? := fun b hb => setRow_other w _ b _ hb
  have hsz : (w.setRow (g.ρ k) new).heap.size = w.heap.size := by simp
  have hbk' : ∀ b ∈ b', b ≠ g.ρ k := fun b hb eq => by
    rcases f2 b hb with h3 | ⟨j, hj, h3, h4⟩
    · exact g8 (eq ▸ h3)
    · obtain ⟨_, _, _, _, _, h5⟩ := hgone j hj
      exact r.mem.dis j k _ _ (fun e => hkj' (e ▸ hj)) h5 hk h3 hlv (h4 ▸ eq)
  have hold : ∀ b ∈ bss[i], b ∈ bss.flatten := fun b hb => List.mem_flatten.2 ⟨_, List.getElem_mem hib, hb⟩
  have hc1 : ∀ b ∈ c1, b ∈ bss[i] := fun b hb => by rw [ec]; exact List.mem_append_left _ hb
  have hc3 : ∀ b ∈ c3, b ∈ bss[i] := fun b hb => by rw [ec, ec2]; exact List.mem_append_right _ (List.mem_append_right _ hb)
  have hbn : ∀ b ∈ c1 ++ (b' ++ c3), b ∈ b' ∨ b ∈ bss[i] := fun b hb => by
    rcases List.mem_append.1 hb with hb | hb
    · exact .inr (hc1 b hb)
    · rcases List.mem_append.1 hb with hb | hb
      · exact .inl hb
      · exact .inr (hc3 b hb)
  have hbk : ∀ b ∈ c1 ++ (b' ++ c3), b ≠ g.ρ k := fun b hb eq => by
    rcases hbn b hb with hb | hb
    · exact hbk' b hb eq
    · exact g8 (eq ▸ g7 b (hold b hb))
  have hrep : e.rep w (u1 ++ ((a.eval y).cells.toList ++ u3)) x' (c1 ++ (b' ++ c3)) := hc.iff.2 (by
    rw [hx']
    exact FR.app.2 ⟨u1, _, c1, _, rfl, rfl, fr1, FR.app.2 ⟨_, u3, b', c3, rfl, rfl, f1.fit hfit, fr4⟩⟩)
  have hE := g6.upd (w' := w.setRow (g.ρ k) new) (k := i) (x' := x') (b' := c1 ++ (b' ++ c3)) (e.keep hrep (fun b hb => hwo b (hbk b hb)) (Nat.le_of_eq hsz.symm)) (fun j u hu => by
      have hj := (List.getElem?_eq_some_iff.1 hu).1
      simp only [List.length_append, l1, hll] at hj
      rw [cell_of_heap hwk, hng]
      by_cases h1 : j < o
      · rw [if_neg (by omega)]
        rw [List.getElem?_append_left (by omega)] at hu
        have := hcell j u (by rw [List.getElem?_append_left (by omega)]; exact hu)
        rw [cell_of_heap g4] at this; exact this
      · rw [List.getElem?_append_right (by omega), l1] at hu
        by_cases h2 : j - o < n
        · rw [if_pos (by omega), show 0 + i * e.size + j - (i * e.size + o) = j - o by omega]
          rw [List.getElem?_append_left (by omega)] at hu; exact hu
        · rw [if_neg (by omega)]
          rw [List.getElem?_append_right (by omega), hll] at hu
          have := hcell j u (by rw [List.getElem?_append_right (by omega), List.getElem?_append_right (by omega), l1, l2]; exact hu)
          rw [cell_of_heap g4] at this; exact this) (fun q hq => by
      rw [cell_of_heap hwk, hng, cell_of_heap g4, if_neg (by rw [Nat.add_mul] at hq; omega)]) (fun q b hq hb c hcb => hwo c fun eq => g8 (eq ▸ g7 c (List.mem_flatten.2 ⟨b, List.mem_of_getElem? hb, hcb⟩))) (Nat.le_of_eq hsz.symm)
  have hmem : ∀ b ∈ (bss.set i (c1 ++ (b' ++ c3))).flatten, g.I b ∨ liveA g js b := fun b hb => by
    rcases flatten_set bss hib b hb with h3 | h3
    · rcases hbn b h3 with h3 | h3
      · exact f2 b h3
      · exact .inl (g7 b (hold b h3))
    · exact .inl (g7 b h3)
  obtain ⟨g', q1, q2, q3, q4, q5, q6, q7⟩ := arr_put (w' := w.setRow (g.ρ k) new) r.mem hk hlv hkj' hgone (xs := xs.set i x') (d := d1 && d2) (fp := (bss.set i (c1 ++ (b' ++ c3))).flatten) rfl rfl rfl hsz hwo
    (.inr ⟨cap, new, bss.set i (c1 ++ (b' ++ c3)), by rw [List.length_set]; exact g1, by rw [List.length_set]; exact g2, g3, hwk, hns.trans g5, hE, hmem, (fun hI => by
      rcases hI with hI | ⟨j, hj, h3, h4⟩
      · exact g8 hI
      · obtain ⟨_, _, _, _, _, h5⟩ := hgone j hj
        exact r.mem.dis j k _ _ (fun e => hkj' (e ▸ hj)) h5 hk h3 hlv h4.symm), fun _ => setAt_self⟩)
    (fun hd => by
      simp only [Bool.and_eq_true] at hd
      obtain ⟨rfl, rfl⟩ := hd
      obtain ⟨n1, n2⟩ := f3 rfl
      have hF := g9 rfl
      have hvk : ∀ b ∈ bss.flatten, Via g s'.l k b := fun b hb => ⟨α, E, e, xs, hk, .inr (by rw [hF]; exact hb)⟩
      have hfn : bss.flatten.Nodup := by rw [← hF]; exact (r.mem.fr k _ _ _ _ hk).1
      have hin : bss[i].Nodup := (List.pairwise_flatten.1 hfn).1 _ (List.getElem_mem hib)
      have hdj : ∀ c ∈ b', c ∉ bss.flatten := fun c hcb h3 => by
        obtain ⟨j, hj, hvj⟩ := n2 c hcb
        exact hkj' ((hvk c h3).disj r.mem hvj ▸ hj)
      have hnn : (c1 ++ (b' ++ c3)).Nodup := by
        rw [ec, ec2] at hin
        have h1 := List.nodup_append.1 hin
        have h2 := List.nodup_append.1 h1.2.1
        refine List.nodup_append.2 ⟨h1.1, List.nodup_append.2 ⟨n1, h2.2.1, fun x hx y hy e => ?_⟩, fun x hx y hy e => ?_⟩
        · subst e; exact hdj x hx (hold x (hc3 x hy))
        · subst e
          rcases List.mem_append.1 hy with hy | hy
          · exact hdj x hy (hold x (hc1 x hx))
          · exact h1.2.2 x hx x (List.mem_append_right _ hy) rfl
      refine ⟨nodup_set hnn bss i hib hfn (fun c hcb => by
        rcases hbn c hcb with h3 | h3
        · exact .inr (hdj c h3)
        · exact .inl h3), fun b hb => ⟨hmem b hb, ?_, ?_⟩⟩
      · rcases flatten_set bss hib b hb with h3 | h3
        · rcases hbn b h3 with h4 | h4
          · obtain ⟨j, hj, hvj⟩ := n2 b h4
            obtain ⟨c, t, h5⟩ := hvj.cells r.mem
            exact ⟨c, t, by rw [hwo b (hbk b h3)]; exact h5⟩
          · obtain ⟨c, t, h5⟩ := (hvk b (hold b h4)).cells r.mem
            exact ⟨c, t, by rw [hwo b (hbk b h3)]; exact h5⟩
        · obtain ⟨c, t, h4⟩ := (hvk b h3).cells r.mem
          exact ⟨c, t, by rw [hwo b fun eq => g8 (eq ▸ g7 b h3)]; exact h4⟩
      · rcases flatten_set bss hib b hb with h3 | h3
        · rcases hbn b h3 with h4 | h4
          · exact .inr (n2 b h4)
          · exact .inl ⟨rfl, by rw [hF]; exact hold b h4⟩
        · exact .inl ⟨rfl, by rw [hF]; exact h3⟩)
  unfold Oper.wp
  have hrun : (execOp a.eval ⟨none, .store T x y, ty, pos, after, gd⟩).run P w = .ok .skip (w.setRow (g.ρ k) new) := by
    unfold sizeT at hT
    split at hT
    · rename_i ti hti
      cases hT
      simp only [execOp, Instr.storeAt, ha, Instr.sureAddr, storeVar, sizeOf, typeInfo, Sem.run_bind, Sem.run_pure, program, Sem.run, hti, Result.andThen_ok, hlen, ne_eq, not_true_eq_false, if_false]
      rw [hst]; rfl
    · cases hT
  rw [hrun, Oper.upon_skip]
  exact ⟨g', r.next0 q5 q6 (Nat.le_of_eq hsz.symm) (fun j _ => q7 j) q3, q4 K⟩
end ops
end Go.Proofs.Ytibhoanjglfaoaa

/- Operations whose new array is at once given up to be read alone. -/
namespace Go.Proofs.Ytibhoanjglfaoaa
open Go.RowKit
set_option linter.unusedVariables false

section
variable {g g' : Gh} {l l' : Locs} {w w' : World}
theorem okK.congr {l2 : Locs} (h : ∀ j, lkl l' j = lkl l2 j) {k : Nat} (hk : okK g l g' l' k) : okK g l g' l2 k :=
  ⟨fun cs hc => hk.1 cs (by rw [h]; exact hc), fun α T e xs d hc => hk.2 α T e xs d (by rw [h]; exact hc)⟩
theorem okK.back {l2 : Locs} (h : ∀ j, lkl l j = lkl l2 j) {k : Nat} : okK g l g l2 k := okK.same (h k).symm rfl rfl
theorem MemR.congr (h : ∀ j, lkl l j = lkl l' j) (m : MemR g l w) : MemR g l' w := by
  refine ⟨m.ilt, fun k cs hc => ?_, fun k α T e xs d hc => m.arr k _ _ _ _ _ (by rw [h]; exact hc), fun j k b b' hjk h1 h2 => m.dis j k _ _ hjk (by rw [h]; exact h1) (by rw [h]; exact h2), fun k α T e xs hc => m.fr k _ _ _ _ (by rw [h]; exact hc), fun j k α β T U e f xs ys hjk h1 h2 => m.fd j k _ _ _ _ _ _ _ _ hjk (by rw [h]; exact h1) (by rw [h]; exact h2)⟩
  obtain ⟨vs, t, h1, h2, h3⟩ := m.box k cs (by rw [h]; exact hc)
  exact ⟨vs, t, h1, h2.mono fun a c _ hr => CellR.step (fun _ _ => rfl) (fun _ h => h) (Nat.le_refl _) (fun i _ => okK.back h) hr, h3⟩
theorem VR.congr (h : ∀ j, lkl l j = lkl l' j) {v : Value} {x : AVal} (hv : VR g l w v x) : VR g l' w v x := hv.step (fun _ _ => rfl) (fun _ h => h) (Nat.le_refl _) (fun i _ => okK.back h)
theorem OwnB.congr (h : ∀ j, lkl l j = lkl l' j) {b : Nat} (hb : OwnB g l b) : OwnB g l' b := by
  obtain ⟨k, blk, h1, h2⟩ := hb
  exact ⟨k, blk, by rw [← h]; exact h1, h2⟩
end
section ops
variable {P : Program} {N : Nat} {s : St} {d : Nat} {ty : TypeId} {pos : String} {after : Array Edge} {gd : Option (Nat × Bool)}
end ops
end Go.Proofs.Ytibhoanjglfaoaa

/- Rules for the draws' contracts: a cursor that is lent while an array is left, two results in variables. -/
namespace Go.Proofs.Ytibhoanjglfaoaa
open Go.RowKit
set_option linter.unusedVariables false

def rnC (j : Nat) : Nat := bif Nat.beq j 200 then 200 else 0
theorem rnC_k {k : Nat} (hk : Nat.beq k 200 = false) : rnC k = 0 := by unfold rnC; rw [hk]; rfl
theorem curB_ren (b : List Int) (c : Cur) (r : Nat → Nat) : (curB b c).ren r = curB b c := rfl
/-- The array that is left beside a cursor, under another number. -/
theorem AC.cur {P : Program} {f : FuncId} {args : List AVal} {bs : List Int} {c c' : Cur} {res res0 : AVal} {blk : Blk} (h : AC P f args [(200, some (curB bs c))] res0 [(200, some (curB bs c')), (0, some blk)]) (k : Nat) (hk : Nat.beq k 200 = false)
    (hres : ∀ r : Nat → Nat, r k = 0 → res.ren r = res0) (hbl : ∀ r : Nat → Nat, blk.ren r = blk) : AC P f args [(200, some (curB bs c))] res [(200, some (curB bs c')), (k, some blk)] := by
  have hL : LeL rnC [(200, some (curB bs c')), (0, some blk)] [(200, some (curB bs c')), (k, some blk)] :=
    ⟨⟨curB bs c', rfl, by rw [curB_ren]; exact BLe.rf⟩, ⟨blk, by rw [rnC_k hk]; rfl, by rw [hbl]; exact BLe.rf⟩, trivial⟩
  have hi : injL rnC (keys [(200, some (curB bs c')), (k, some blk)]) = true := by
    have h2 : rnC 200 = 200 := rfl
    simp [injL, keys, rnC_k hk, h2]
    exact .inr rfl
  have hK : LeK rnC [(200, some (curB bs c')), (0, some blk)] [(200, some (curB bs c')), (k, some blk)] (keys [(200, some (curB bs c))]) :=
    ⟨⟨rfl, .inl (by simp [lk]), fun cs _ => ⟨_, rfl⟩⟩, trivial⟩
  refine ⟨h.fn, fun g w cargs m ha => (h.run g w cargs m ha).mono ?_⟩
  rintro e w' ⟨v, g1, rfl, m1, hv, hs⟩
  exact ⟨v, g1.ren rnC, rfl, m1.unren hL hi, VR.unren hL (by rw [hres rnC (rnC_k hk)]; exact hv), hs.trans m m1 (Step.unren hL hK)⟩
/-- What a slot holds, said in other words. -/
theorem AW_slot {P : Program} {N : Nat} {K : List Nat} {c : Code} {Kn : St → Prop} {Q : Exit → St → Prop} {s : St} {t : Nat} {x y : AVal} (ht : lk s.t t = some x) (h : x = y) (hA : AW P N K c Kn Q ⟨(t, y) :: s.t, s.l⟩) : AW P N K c Kn Q s := fun g a w r =>
  hA g a w ⟨r.size, r.defers, fun k z hk => by
    by_cases e : t = k
    · subst e; rw [lk_cons_self] at hk; cases hk; exact r.tmp _ _ (h ▸ ht)
    · rw [lk_cons_ne e] at hk; exact r.tmp k z hk, r.mem⟩
section results
variable {P : Program} {f : FuncId} {fn : Func} {c : Code} {N : Nat} {args : List AVal} {L L' : Locs}
end results
end Go.Proofs.Ytibhoanjglfaoaa

/- StorePut (printed by walk.py) -/
namespace Go.Proofs.Ytibhoanjglfaoaa
open Go.RowKit
set_option linter.unusedVariables false
set_option linter.unusedSimpArgs false
set_option maxRecDepth 100000

set_option maxHeartbeats 4000000 in
theorem geN_c (x : Namedt) (nm : ByteArray) : AC Try.prog 113 [.agg (namedC x), .one (.ptr 200 0)] [(200, some (.box [.c (.string nm)]))] (.one (.c (.bool (nameGe nm x)))) [(200, some (.box [.c (.string nm)]))] := by
  refine AC_body1 Try.func113 rfl rfl Try.ntmps113 rfl Try.results113 ?_
  refine AW_seq ?_
  refine AW_region ?_
  refine AL_p (x_box 100 rfl rfl rfl rfl rfl rfl rfl) ?_
  refine AL_p (x_assign rfl rfl) ?_
  refine AL_nil ?_
  refine AW_seq ?_
  refine AW_region ?_
  refine AL_p (x_field (off := 0) (o' := 0) rfl rfl rfl (by kernel_rfl) rfl) ?_
  refine AL_p (x_load1 rfl rfl rfl (by kernel_rfl) rfl) ?_
  refine AL_p (x_load1 rfl rfl rfl (by kernel_rfl) rfl) ?_
  refine AL_b (x_sgeq rfl rfl rfl) (fun b7 h7 => ?_)
  refine AL_p (x_assign rfl rfl) ?_
  refine AL_nil ?_
  refine AW_ret ?_
  cases b7
  rotate_left
  · try simp only [tdy] at h7
    exact ⟨rn [], ⟨⟨⟨_, rfl, vle_bool (by unfold nameGe; rw [h7]; rfl)⟩, trivial⟩, ⟨⟨_, rfl, BLe.rf⟩, trivial⟩, by repeat (first | exact trivial | refine ⟨⟨rfl, by first | (left; intro h; cases h) | (right; rfl), by first | exact (fun _ h => ⟨_, h⟩) | exact (fun _ _ => ⟨_, rfl⟩)⟩, ?_⟩), rfl⟩⟩
  try simp only [tdy] at h7
  exact ⟨rn [], ⟨⟨⟨_, rfl, vle_bool (by unfold nameGe; rw [h7]; rfl)⟩, trivial⟩, ⟨⟨_, rfl, BLe.rf⟩, trivial⟩, by repeat (first | exact trivial | refine ⟨⟨rfl, by first | (left; intro h; cases h) | (right; rfl), by first | exact (fun _ h => ⟨_, h⟩) | exact (fun _ _ => ⟨_, rfl⟩)⟩, ?_⟩), rfl⟩⟩

set_option maxHeartbeats 4000000 in
theorem idxN_c (rels : List Namedt) (nm : ByteArray) (hl : rels.length ≤ 1048576) : AC Try.prog 112 [.one (.own 300), .one (.clo 113 [200])] [(300, some (.arr 89 namedE rels true)), (200, some (.box [.c (.string nm)]))] (.one (.c (.int .i64 (placeN rels nm)))) [(300, some (.arr 89 namedE rels true)), (200, some (.box [.c (.string nm)]))] := by
  refine AC_body1 Try.func112 rfl rfl Try.ntmps112 rfl Try.results112 ?_
  refine AW_seq ?_
  refine AW_region ?_
  refine AL_p (x_assign rfl rfl) ?_
  refine AL_nil ?_
  refine AW_seq ?_
  refine AW_seq ?_
  refine AW_region ?_
  refine AL_p (x_move rfl rfl) ?_
  refine AL_p (x_olen (E := 89) (n := 3) rfl rfl rfl (by kernel_rfl)) ?_
  refine AL_p (x_move rfl rfl) ?_
  refine AL_nil ?_
  refine AW_block ?_
  refine AW_loop2 (ι := {q : Nat // q ≤ rels.length ∧ NoneTo (nameGe nm) rels q}) (fun p => [(8, .one (.c (.int .i64 ((p.1) : Int))))]) (fun p => []) [0, 1, 7] [200, 300] (fun p => rels.length - (p.1)) ⟨0, ⟨by omega, .zero⟩⟩ (rn []) ?_ ?_
  exact ⟨by (repeat refine ⟨⟨_, rfl, by first | exact VLe.rf | exact vle_int (by dsimp only; omega)⟩, ?_⟩); exact trivial, by (repeat refine ⟨⟨_, rfl, by first | exact BLe.rf | exact BLe.box AllC.rf | exact BLe.arr (by exact rfl)⟩, ?_⟩); exact trivial, by repeat (first | exact trivial | refine ⟨⟨rfl, by first | (left; intro h; cases h) | (right; rfl), by first | exact (fun _ h => ⟨_, h⟩) | exact (fun _ _ => ⟨_, rfl⟩)⟩, ?_⟩), rfl⟩
  rintro ⟨k, hinv⟩
  dsimp only
  obtain ⟨hk, hn⟩ := hinv
  have hk : k ≤ rels.length := hk
  refine AW_seq ?_
  refine AW_region ?_
  refine AL_b (x_lss rfl rfl rfl) (fun b9 h9 => ?_)
  refine AL_nil ?_
  refine AW_seq ?_
  cases b9
  · try simp only [tdy] at h9
    obtain rfl : k = rels.length := by omega
    have hno : placeN rels nm = -1 := hn.none
    refine AW_condF rfl ?_
    refine AW_exit (BQ_hit ?_)
    refine AW_seq ?_
    refine AW_region ?_
    refine AL_p (x_assign rfl rfl) ?_
    refine AL_nil ?_
    refine AW_ret ?_
    exact ⟨rn [], ⟨⟨⟨_, rfl, vle_int (by rw [hno])⟩, trivial⟩, ⟨⟨_, rfl, BLe.rf⟩, ⟨_, rfl, BLe.rf⟩, trivial⟩, by repeat (first | exact trivial | refine ⟨⟨rfl, by first | (left; intro h; cases h) | (right; rfl), by first | exact (fun _ h => ⟨_, h⟩) | exact (fun _ _ => ⟨_, rfl⟩)⟩, ?_⟩), rfl⟩⟩
  try simp only [tdy] at h9
  refine AW_condT rfl ?_
  refine AW_skip ?_
  refine AW_seq ?_
  refine AW_block ?_
  refine AW_seq ?_
  refine AW_region ?_
  refine AL_p (x_move rfl rfl) ?_
  refine AL_p (x_assign rfl rfl) ?_
  refine AL_nil ?_
  refine AW_seq ?_
  refine AW_region ?_
  refine AL_p (x_move rfl rfl) ?_
  refine AL_p (x_move rfl rfl) ?_
  refine AL_p (x_move rfl rfl) ?_
  refine AL_p (x_oindex (n := 3) rfl rfl rfl rfl (by kernel_rfl) rfl (k := k) rfl (by omega)) ?_
  refine AL_p (x_oloadN (n := 3) rfl rfl rfl (by kernel_rfl) (by omega) rfl rfl) ?_
  refine AL_bc (x_call (ks := [200]) (L := [(200, some (.box [.c (.string nm)]))]) (L' := [(200, some (.box [.c (.string nm)]))]) rfl rfl rfl (geN_c (rels[k]'(by omega)) nm) rfl AllV.rf (caught_of rfl) rfl rfl rfl (by repeat (first | exact trivial | refine ⟨rfl, ?_⟩)) rfl) (fun b16 h16 => ?_)
  refine AL_nil ?_
  cases b16
  · try simp only [tdy] at h16
    refine AW_condF rfl ?_
    refine AW_skip ?_
    refine AW_region ?_
    refine AL_p (x_add rfl rfl rfl (IntWalk.i64_in _ (by omega))) ?_
    refine AL_p (x_move rfl rfl) ?_
    refine AL_nil ?_
    refine ⟨⟨k + 1, ⟨by omega, hn.succ (by omega) h16⟩⟩, rn [], ?_, by dsimp only; omega⟩
    exact ⟨by (repeat refine ⟨⟨_, rfl, by first | exact VLe.rf | exact vle_int (by dsimp only; omega)⟩, ?_⟩); exact trivial, by (repeat refine ⟨⟨_, rfl, by first | exact BLe.rf | exact BLe.box AllC.rf | exact BLe.arr (by exact rfl)⟩, ?_⟩); exact trivial, by repeat (first | exact trivial | refine ⟨⟨rfl, by first | (left; intro h; cases h) | (right; rfl), by first | exact (fun _ h => ⟨_, h⟩) | exact (fun _ _ => ⟨_, rfl⟩)⟩, ?_⟩), rfl⟩
  try simp only [tdy] at h16
  have hno : placeN rels nm = (k : Int) := firstIdx_at (by omega) (fun j hj hjk => hn j hj hjk) h16
  refine AW_condT rfl ?_
  refine AW_seq ?_
  refine AW_region ?_
  refine AL_p (x_move rfl rfl) ?_
  refine AL_p (x_assign rfl rfl) ?_
  refine AL_nil ?_
  refine AW_ret (BQ_ret (BQ_ret ?_))
  exact ⟨rn [], ⟨⟨⟨_, rfl, vle_int (by rw [hno])⟩, trivial⟩, ⟨⟨_, rfl, BLe.rf⟩, ⟨_, rfl, BLe.rf⟩, trivial⟩, by repeat (first | exact trivial | refine ⟨⟨rfl, by first | (left; intro h; cases h) | (right; rfl), by first | exact (fun _ h => ⟨_, h⟩) | exact (fun _ _ => ⟨_, rfl⟩)⟩, ?_⟩), rfl⟩⟩

set_option maxHeartbeats 4000000 in
theorem withI_c (rels : List Namedt) (nm : ByteArray) (r : Relt) (hs : rels.length ≤ 100000) : AC Try.prog 64 [.agg [.own 0], .one (.c (.string nm)), .agg [.c (.int .i64 r.arity), .own 1]] [(0, some (.arr 89 namedE rels true)), (1, some (.arr 92 rowE r.rows true))] (.agg [.own 2]) [(0, none), (1, none), (2, some (.arr 89 namedE (withRel rels (⟨nm, r⟩ : Namedt)) true))] := by
  obtain ⟨p1, p2, p3, p4, p5⟩ := placeN_is rels nm
  refine AC_bodyC (n := 1) (k := 9) (T := [(6, .one (.ptr 9 0))]) (Lf := ((9, some (.box [.own 2])) :: [(0, none), (1, none), (2, some (.arr 89 namedE (withRel rels (⟨nm, r⟩ : Namedt)) true))])) Try.func64 rfl rfl Try.ntmps64 rfl Try.results64 rfl rfl (by kernel_rfl) rfl rfl ⟨trivial, (by repeat (first | exact trivial | refine ⟨⟨_, rfl, BLe.rf⟩, ?_⟩)), (by repeat (first | exact trivial | refine ⟨⟨rfl, by first | (left; intro h; cases h) | (right; rfl), by first | exact (fun _ h => ⟨_, h⟩) | exact (fun _ _ => ⟨_, rfl⟩)⟩, ?_⟩)), rfl⟩ ?_
  refine AW_seq ?_
  refine AW_region ?_
  refine AL_p (x_box 100 rfl rfl rfl rfl rfl rfl rfl) ?_
  refine AL_p (x_box 200 rfl rfl rfl rfl rfl rfl rfl) ?_
  refine AL_p (x_box 101 rfl rfl rfl rfl rfl rfl rfl) ?_
  refine AL_p (x_alloc (z := .agg #[.slice none 0 0]) 102 rfl (by kernel_rfl) rfl rfl rfl rfl) ?_
  refine AL_nil ?_
  refine AW_seq ?_
  refine AW_region ?_
  refine AL_p (x_field (off := 0) (o' := 0) rfl rfl rfl (by kernel_rfl) rfl) ?_
  refine AL_p (x_load1 rfl rfl rfl (by kernel_rfl) rfl) ?_
  refine AL_p (x_call (ks := []) (L := [(0, some _)]) (L' := [(0, none), (300, some _)]) rfl rfl rfl (AT.lend1 (cloneNamed_t rfl (by omega)) 0 300 rfl (fun _ => rfl)) rfl AllV.rf (caught_of rfl) rfl rfl rfl ⟨rfl, trivial⟩ rfl) ?_
  refine AL_p (x_build (zs := [.slice none 0 0]) (places := [(0, 1)]) rfl (by kernel_rfl) rfl rfl rfl rfl rfl) ?_
  refine AL_p (x_store (n := 1) rfl rfl rfl rfl (by kernel_rfl) rfl rfl rfl) ?_
  refine AL_nil ?_
  refine AW_seq ?_
  refine AW_region ?_
  refine AL_p (x_field (off := 0) (o' := 0) rfl rfl rfl (by kernel_rfl) rfl) ?_
  refine AL_p (x_load1 rfl rfl rfl (by kernel_rfl) rfl) ?_
  refine AL_p (x_makeFunc (ks := [200]) rfl rfl) ?_
  refine AL_p (x_call (ks := []) (L := [(300, some (.arr 89 namedE rels true)), (200, some (.box [.c (.string nm)]))]) (L' := [(300, some (.arr 89 namedE rels true)), (200, some (.box [.c (.string nm)]))]) rfl rfl rfl (idxN_c rels nm (by omega)) rfl AllV.rf (caught_of rfl) rfl rfl rfl ⟨rfl, rfl, trivial⟩ rfl) ?_
  refine AL_p (x_assign rfl rfl) ?_
  refine AL_nil ?_
  refine AW_seq ?_
  refine AW_seq ?_
  refine AW_region ?_
  refine AL_p (x_move rfl rfl) ?_
  refine AL_b (x_lss rfl rfl rfl) (fun b17 h17 => ?_)
  refine AL_nil ?_
  cases b17
  · try simp only [tdy] at h17
    have hpe := (p3 (by omega)).1
    refine AW_condF rfl ?_
    refine AW_skip ?_
    refine AW_seq ?_
    refine AW_seq ?_
    refine AW_slot (t := 7) (y := .one (.c (.int .i64 ((posN rels nm) : Int)))) rfl (by rw [hpe]) ?_
    refine AW_draw rfl ?_
    refine AL_p (x_move rfl rfl) ?_
    refine AL_p (x_field (off := 0) (o' := 0) rfl rfl rfl (by kernel_rfl) rfl) ?_
    refine AL_p (x_load1 rfl rfl rfl (by kernel_rfl) rfl) ?_
    refine AL_p (x_olen (E := 89) (n := 3) rfl rfl rfl (by kernel_rfl)) ?_
    refine AL_b (x_lss rfl rfl rfl) (fun b25 h25 => ?_)
    refine AL_p (x_move rfl rfl) ?_
    cases b25
    · try simp only [tdy] at h25
      have hno : withRel rels (⟨nm, r⟩ : Namedt) = rels.take (posN rels nm) ++ [(⟨nm, r⟩ : Namedt)] ++ rels.drop (posN rels nm) := dif_neg (fun h => by have := h.1; dsimp only at this; omega)
      refine AL_o rfl rfl rfl rfl ?_
      refine AL_o rfl rfl rfl rfl ?_
      refine AL_o rfl rfl rfl rfl ?_
      refine AL_o rfl rfl rfl rfl ?_
      refine AL_o rfl rfl rfl rfl ?_
      refine AL_o rfl rfl rfl rfl ?_
      refine AL_o rfl rfl rfl rfl ?_
      refine AL_o rfl rfl rfl rfl ?_
      refine AL_p (x_pickF rfl rfl rfl) ?_
      refine AL_nild (by kernel_rfl) ?_
      refine AW_condF rfl ?_
      refine AW_region ?_
      refine AL_p (x_field (off := 0) (o' := 0) rfl rfl rfl (by kernel_rfl) rfl) ?_
      refine AL_p (x_load1 rfl rfl rfl (by kernel_rfl) rfl) ?_
      refine AL_p (x_move rfl rfl) ?_
      refine AL_p (x_load1 rfl rfl rfl (by kernel_rfl) rfl) ?_
      refine AL_p (x_loadN (n := 2) rfl rfl rfl (by kernel_rfl) rfl rfl) ?_
      refine AL_p (x_build (zs := [.string ⟨#[]⟩, .int .i64 0, .slice none 0 0]) (places := [(0, 1), (1, 2)]) rfl (by kernel_rfl) rfl rfl rfl rfl rfl) ?_
      refine AL_p (y_bslice (E := 89) (e := namedE) [.tmp 47] ([(⟨nm, r⟩ : Namedt)]) 103 rfl rfl rfl rfl rfl rfl rfl rfl FitL.rf rfl rfl rfl rfl rfl rfl (by kernel_rfl)) ?_
      refine AL_p (x_call (ks := []) (L := [(300, some _), (103, some _)]) (L' := [(300, none), (103, none), (104, some _)]) rfl rfl rfl (AT.lend2 (insNamed_t rfl (i := (posN rels nm)) (zs := [(⟨nm, r⟩ : Namedt)]) (by omega) (by simp) (by simp) (by omega)) 300 103 104 rfl rfl rfl (fun _ => rfl)) rfl AllV.rf (caught_of rfl) rfl rfl rfl ⟨rfl, rfl, trivial⟩ rfl) ?_
      refine AL_p (x_field (off := 0) (o' := 0) rfl rfl rfl (by kernel_rfl) rfl) ?_
      refine AL_p (x_store (n := 1) rfl rfl rfl rfl (by kernel_rfl) rfl rfl rfl) ?_
      refine AL_nil ?_
      refine AW_seq ?_
      refine AW_region ?_
      refine AL_p (x_loadN (n := 1) rfl rfl rfl (by kernel_rfl) rfl rfl) ?_
      refine AL_p (x_store (n := 1) rfl rfl rfl rfl (by kernel_rfl) rfl rfl rfl) ?_
      refine AL_nil ?_
      refine AW_ret ?_
      exact ⟨rn [(9, 102), (2, 104)], ⟨⟨⟨_, rfl, VLe.rf⟩, trivial⟩, ⟨⟨_, rfl, BLe.rf⟩, ⟨_, rfl, BLe.arr hno.symm⟩, trivial⟩, by repeat (first | exact trivial | refine ⟨⟨rfl, by first | (left; intro h; cases h) | (right; rfl), by first | exact (fun _ h => ⟨_, h⟩) | exact (fun _ _ => ⟨_, rfl⟩)⟩, ?_⟩), rfl⟩⟩
    try simp only [tdy] at h25
    refine AL_g rfl rfl (x_field (off := 0) (o' := 0) rfl rfl rfl (by kernel_rfl) rfl) ?_
    refine AL_g rfl rfl (x_load1 rfl rfl rfl (by kernel_rfl) rfl) ?_
    refine AL_g rfl rfl (x_move rfl rfl) ?_
    refine AL_g rfl rfl (x_oindex (n := 3) rfl rfl rfl rfl (by kernel_rfl) rfl (k := (posN rels nm)) rfl (by omega)) ?_
    refine AL_g rfl rfl (x_ofield (off := 0) (o' := 0) rfl rfl rfl (by kernel_rfl) rfl) ?_
    refine AL_g rfl rfl (x_oload1 rfl rfl rfl (by kernel_rfl) (by omega) rfl) ?_
    refine AL_g rfl rfl (x_load1 rfl rfl rfl (by kernel_rfl) rfl) ?_
    refine AL_gb rfl rfl (x_seql rfl rfl rfl) (fun b34 h34 => ?_)
    refine AL_p (x_pickT rfl rfl rfl) ?_
    refine AL_nild (by kernel_rfl) ?_
    cases b34
    rotate_left
    · try simp only [tdy] at h34
      have hnm := name_eq.1 h34
      have hno : withRel rels (⟨nm, r⟩ : Namedt) = rels.set (posN rels nm) (⟨nm, r⟩ : Namedt) := dif_pos ⟨by dsimp only; omega, by simp only [List.getD]; rw [List.getElem?_eq_getElem (by omega)]; exact h34⟩
      refine AW_condT rfl ?_
      refine AW_region ?_
      refine AL_p (x_field (off := 0) (o' := 0) rfl rfl rfl (by kernel_rfl) rfl) ?_
      refine AL_p (x_load1 rfl rfl rfl (by kernel_rfl) rfl) ?_
      refine AL_p (x_move rfl rfl) ?_
      refine AL_p (x_loadN (n := 2) rfl rfl rfl (by kernel_rfl) rfl rfl) ?_
      refine AL_p (x_oindex (n := 3) rfl rfl rfl rfl (by kernel_rfl) rfl (k := (posN rels nm)) rfl (by omega)) ?_
      refine AL_p (x_ofield (off := 1) (o' := 1) rfl rfl rfl (by kernel_rfl) rfl) ?_
      refine AL_p (x_ofstore (⟨nm, r⟩ : Namedt) (A := [.c (.string (rels[(posN rels nm)]'(by omega)).name)]) (B := [.c (.int .i64 (rels[(posN rels nm)]'(by omega)).rel.arity), .sl rowE (rels[(posN rels nm)]'(by omega)).rel.rows]) (C := []) rfl rfl rfl rfl (by kernel_rfl) rfl rfl rfl FitL.rf rfl rfl (by omega) rfl rfl rfl (by rw [hnm]; rfl)) ?_
      refine AL_nil ?_
      refine AW_seq ?_
      refine AW_region ?_
      refine AL_p (x_loadN (n := 1) rfl rfl rfl (by kernel_rfl) rfl rfl) ?_
      refine AL_p (x_store (n := 1) rfl rfl rfl rfl (by kernel_rfl) rfl rfl rfl) ?_
      refine AL_nil ?_
      refine AW_ret ?_
      exact ⟨rn [(9, 102), (2, 300)], ⟨⟨⟨_, rfl, VLe.rf⟩, trivial⟩, ⟨⟨_, rfl, BLe.rf⟩, ⟨_, rfl, BLe.arr hno.symm⟩, trivial⟩, by repeat (first | exact trivial | refine ⟨⟨rfl, by first | (left; intro h; cases h) | (right; rfl), by first | exact (fun _ h => ⟨_, h⟩) | exact (fun _ _ => ⟨_, rfl⟩)⟩, ?_⟩), rfl⟩⟩
    try simp only [tdy] at h34
    have hno : withRel rels (⟨nm, r⟩ : Namedt) = rels.take (posN rels nm) ++ [(⟨nm, r⟩ : Namedt)] ++ rels.drop (posN rels nm) := dif_neg (fun h => by have h2 := h.2; simp only [List.getD] at h2; rw [List.getElem?_eq_getElem (by omega)] at h2; exact absurd (h34.symm.trans h2) (by decide))
    refine AW_condF rfl ?_
    refine AW_region ?_
    refine AL_p (x_field (off := 0) (o' := 0) rfl rfl rfl (by kernel_rfl) rfl) ?_
    refine AL_p (x_load1 rfl rfl rfl (by kernel_rfl) rfl) ?_
    refine AL_p (x_move rfl rfl) ?_
    refine AL_p (x_load1 rfl rfl rfl (by kernel_rfl) rfl) ?_
    refine AL_p (x_loadN (n := 2) rfl rfl rfl (by kernel_rfl) rfl rfl) ?_
    refine AL_p (x_build (zs := [.string ⟨#[]⟩, .int .i64 0, .slice none 0 0]) (places := [(0, 1), (1, 2)]) rfl (by kernel_rfl) rfl rfl rfl rfl rfl) ?_
    refine AL_p (y_bslice (E := 89) (e := namedE) [.tmp 47] ([(⟨nm, r⟩ : Namedt)]) 103 rfl rfl rfl rfl rfl rfl rfl rfl FitL.rf rfl rfl rfl rfl rfl rfl (by kernel_rfl)) ?_
    refine AL_p (x_call (ks := []) (L := [(300, some _), (103, some _)]) (L' := [(300, none), (103, none), (104, some _)]) rfl rfl rfl (AT.lend2 (insNamed_t rfl (i := (posN rels nm)) (zs := [(⟨nm, r⟩ : Namedt)]) (by omega) (by simp) (by simp) (by omega)) 300 103 104 rfl rfl rfl (fun _ => rfl)) rfl AllV.rf (caught_of rfl) rfl rfl rfl ⟨rfl, rfl, trivial⟩ rfl) ?_
    refine AL_p (x_field (off := 0) (o' := 0) rfl rfl rfl (by kernel_rfl) rfl) ?_
    refine AL_p (x_store (n := 1) rfl rfl rfl rfl (by kernel_rfl) rfl rfl rfl) ?_
    refine AL_nil ?_
    refine AW_seq ?_
    refine AW_region ?_
    refine AL_p (x_loadN (n := 1) rfl rfl rfl (by kernel_rfl) rfl rfl) ?_
    refine AL_p (x_store (n := 1) rfl rfl rfl rfl (by kernel_rfl) rfl rfl rfl) ?_
    refine AL_nil ?_
    refine AW_ret ?_
    exact ⟨rn [(9, 102), (2, 104)], ⟨⟨⟨_, rfl, VLe.rf⟩, trivial⟩, ⟨⟨_, rfl, BLe.rf⟩, ⟨_, rfl, BLe.arr hno.symm⟩, trivial⟩, by repeat (first | exact trivial | refine ⟨⟨rfl, by first | (left; intro h; cases h) | (right; rfl), by first | exact (fun _ h => ⟨_, h⟩) | exact (fun _ _ => ⟨_, rfl⟩)⟩, ?_⟩), rfl⟩⟩
  try simp only [tdy] at h17
  have hpe := p2 (by omega)
  refine AW_condT rfl ?_
  refine AW_region ?_
  refine AL_p (x_field (off := 0) (o' := 0) rfl rfl rfl (by kernel_rfl) rfl) ?_
  refine AL_p (x_load1 rfl rfl rfl (by kernel_rfl) rfl) ?_
  refine AL_p (x_olen (E := 89) (n := 3) rfl rfl rfl (by kernel_rfl)) ?_
  refine AL_p (x_assign rfl rfl) ?_
  refine AL_nil ?_
  refine AW_seq ?_
  refine AW_seq ?_
  refine AW_slot (t := 7) (y := .one (.c (.int .i64 ((posN rels nm) : Int)))) rfl (by rw [hpe]) ?_
  refine AW_draw rfl ?_
  refine AL_p (x_move rfl rfl) ?_
  refine AL_p (x_field (off := 0) (o' := 0) rfl rfl rfl (by kernel_rfl) rfl) ?_
  refine AL_p (x_load1 rfl rfl rfl (by kernel_rfl) rfl) ?_
  refine AL_p (x_olen (E := 89) (n := 3) rfl rfl rfl (by kernel_rfl)) ?_
  refine AL_b (x_lss rfl rfl rfl) (fun b25 h25 => ?_)
  refine AL_p (x_move rfl rfl) ?_
  cases b25
  · try simp only [tdy] at h25
    have hno : withRel rels (⟨nm, r⟩ : Namedt) = rels.take (posN rels nm) ++ [(⟨nm, r⟩ : Namedt)] ++ rels.drop (posN rels nm) := dif_neg (fun h => by have := h.1; dsimp only at this; omega)
    refine AL_o rfl rfl rfl rfl ?_
    refine AL_o rfl rfl rfl rfl ?_
    refine AL_o rfl rfl rfl rfl ?_
    refine AL_o rfl rfl rfl rfl ?_
    refine AL_o rfl rfl rfl rfl ?_
    refine AL_o rfl rfl rfl rfl ?_
    refine AL_o rfl rfl rfl rfl ?_
    refine AL_o rfl rfl rfl rfl ?_
    refine AL_p (x_pickF rfl rfl rfl) ?_
    refine AL_nild (by kernel_rfl) ?_
    refine AW_condF rfl ?_
    refine AW_region ?_
    refine AL_p (x_field (off := 0) (o' := 0) rfl rfl rfl (by kernel_rfl) rfl) ?_
    refine AL_p (x_load1 rfl rfl rfl (by kernel_rfl) rfl) ?_
    refine AL_p (x_move rfl rfl) ?_
    refine AL_p (x_load1 rfl rfl rfl (by kernel_rfl) rfl) ?_
    refine AL_p (x_loadN (n := 2) rfl rfl rfl (by kernel_rfl) rfl rfl) ?_
    refine AL_p (x_build (zs := [.string ⟨#[]⟩, .int .i64 0, .slice none 0 0]) (places := [(0, 1), (1, 2)]) rfl (by kernel_rfl) rfl rfl rfl rfl rfl) ?_
    refine AL_p (y_bslice (E := 89) (e := namedE) [.tmp 47] ([(⟨nm, r⟩ : Namedt)]) 103 rfl rfl rfl rfl rfl rfl rfl rfl FitL.rf rfl rfl rfl rfl rfl rfl (by kernel_rfl)) ?_
    refine AL_p (x_call (ks := []) (L := [(300, some _), (103, some _)]) (L' := [(300, none), (103, none), (104, some _)]) rfl rfl rfl (AT.lend2 (insNamed_t rfl (i := (posN rels nm)) (zs := [(⟨nm, r⟩ : Namedt)]) (by omega) (by simp) (by simp) (by omega)) 300 103 104 rfl rfl rfl (fun _ => rfl)) rfl AllV.rf (caught_of rfl) rfl rfl rfl ⟨rfl, rfl, trivial⟩ rfl) ?_
    refine AL_p (x_field (off := 0) (o' := 0) rfl rfl rfl (by kernel_rfl) rfl) ?_
    refine AL_p (x_store (n := 1) rfl rfl rfl rfl (by kernel_rfl) rfl rfl rfl) ?_
    refine AL_nil ?_
    refine AW_seq ?_
    refine AW_region ?_
    refine AL_p (x_loadN (n := 1) rfl rfl rfl (by kernel_rfl) rfl rfl) ?_
    refine AL_p (x_store (n := 1) rfl rfl rfl rfl (by kernel_rfl) rfl rfl rfl) ?_
    refine AL_nil ?_
    refine AW_ret ?_
    exact ⟨rn [(9, 102), (2, 104)], ⟨⟨⟨_, rfl, VLe.rf⟩, trivial⟩, ⟨⟨_, rfl, BLe.rf⟩, ⟨_, rfl, BLe.arr hno.symm⟩, trivial⟩, by repeat (first | exact trivial | refine ⟨⟨rfl, by first | (left; intro h; cases h) | (right; rfl), by first | exact (fun _ h => ⟨_, h⟩) | exact (fun _ _ => ⟨_, rfl⟩)⟩, ?_⟩), rfl⟩⟩
  try simp only [tdy] at h25
  refine AL_g rfl rfl (x_field (off := 0) (o' := 0) rfl rfl rfl (by kernel_rfl) rfl) ?_
  refine AL_g rfl rfl (x_load1 rfl rfl rfl (by kernel_rfl) rfl) ?_
  refine AL_g rfl rfl (x_move rfl rfl) ?_
  refine AL_g rfl rfl (x_oindex (n := 3) rfl rfl rfl rfl (by kernel_rfl) rfl (k := (posN rels nm)) rfl (by omega)) ?_
  refine AL_g rfl rfl (x_ofield (off := 0) (o' := 0) rfl rfl rfl (by kernel_rfl) rfl) ?_
  refine AL_g rfl rfl (x_oload1 rfl rfl rfl (by kernel_rfl) (by omega) rfl) ?_
  refine AL_g rfl rfl (x_load1 rfl rfl rfl (by kernel_rfl) rfl) ?_
  refine AL_gb rfl rfl (x_seql rfl rfl rfl) (fun b34 h34 => ?_)
  refine AL_p (x_pickT rfl rfl rfl) ?_
  refine AL_nild (by kernel_rfl) ?_
  cases b34
  rotate_left
  · try simp only [tdy] at h34
    have hnm := name_eq.1 h34
    have hno : withRel rels (⟨nm, r⟩ : Namedt) = rels.set (posN rels nm) (⟨nm, r⟩ : Namedt) := dif_pos ⟨by dsimp only; omega, by simp only [List.getD]; rw [List.getElem?_eq_getElem (by omega)]; exact h34⟩
    refine AW_condT rfl ?_
    refine AW_region ?_
    refine AL_p (x_field (off := 0) (o' := 0) rfl rfl rfl (by kernel_rfl) rfl) ?_
    refine AL_p (x_load1 rfl rfl rfl (by kernel_rfl) rfl) ?_
    refine AL_p (x_move rfl rfl) ?_
    refine AL_p (x_loadN (n := 2) rfl rfl rfl (by kernel_rfl) rfl rfl) ?_
    refine AL_p (x_oindex (n := 3) rfl rfl rfl rfl (by kernel_rfl) rfl (k := (posN rels nm)) rfl (by omega)) ?_
    refine AL_p (x_ofield (off := 1) (o' := 1) rfl rfl rfl (by kernel_rfl) rfl) ?_
    refine AL_p (x_ofstore (⟨nm, r⟩ : Namedt) (A := [.c (.string (rels[(posN rels nm)]'(by omega)).name)]) (B := [.c (.int .i64 (rels[(posN rels nm)]'(by omega)).rel.arity), .sl rowE (rels[(posN rels nm)]'(by omega)).rel.rows]) (C := []) rfl rfl rfl rfl (by kernel_rfl) rfl rfl rfl FitL.rf rfl rfl (by omega) rfl rfl rfl (by rw [hnm]; rfl)) ?_
    refine AL_nil ?_
    refine AW_seq ?_
    refine AW_region ?_
    refine AL_p (x_loadN (n := 1) rfl rfl rfl (by kernel_rfl) rfl rfl) ?_
    refine AL_p (x_store (n := 1) rfl rfl rfl rfl (by kernel_rfl) rfl rfl rfl) ?_
    refine AL_nil ?_
    refine AW_ret ?_
    exact ⟨rn [(9, 102), (2, 300)], ⟨⟨⟨_, rfl, VLe.rf⟩, trivial⟩, ⟨⟨_, rfl, BLe.rf⟩, ⟨_, rfl, BLe.arr hno.symm⟩, trivial⟩, by repeat (first | exact trivial | refine ⟨⟨rfl, by first | (left; intro h; cases h) | (right; rfl), by first | exact (fun _ h => ⟨_, h⟩) | exact (fun _ _ => ⟨_, rfl⟩)⟩, ?_⟩), rfl⟩⟩
  try simp only [tdy] at h34
  have hno : withRel rels (⟨nm, r⟩ : Namedt) = rels.take (posN rels nm) ++ [(⟨nm, r⟩ : Namedt)] ++ rels.drop (posN rels nm) := dif_neg (fun h => by have h2 := h.2; simp only [List.getD] at h2; rw [List.getElem?_eq_getElem (by omega)] at h2; exact absurd (h34.symm.trans h2) (by decide))
  refine AW_condF rfl ?_
  refine AW_region ?_
  refine AL_p (x_field (off := 0) (o' := 0) rfl rfl rfl (by kernel_rfl) rfl) ?_
  refine AL_p (x_load1 rfl rfl rfl (by kernel_rfl) rfl) ?_
  refine AL_p (x_move rfl rfl) ?_
  refine AL_p (x_load1 rfl rfl rfl (by kernel_rfl) rfl) ?_
  refine AL_p (x_loadN (n := 2) rfl rfl rfl (by kernel_rfl) rfl rfl) ?_
  refine AL_p (x_build (zs := [.string ⟨#[]⟩, .int .i64 0, .slice none 0 0]) (places := [(0, 1), (1, 2)]) rfl (by kernel_rfl) rfl rfl rfl rfl rfl) ?_
  refine AL_p (y_bslice (E := 89) (e := namedE) [.tmp 47] ([(⟨nm, r⟩ : Namedt)]) 103 rfl rfl rfl rfl rfl rfl rfl rfl FitL.rf rfl rfl rfl rfl rfl rfl (by kernel_rfl)) ?_
  refine AL_p (x_call (ks := []) (L := [(300, some _), (103, some _)]) (L' := [(300, none), (103, none), (104, some _)]) rfl rfl rfl (AT.lend2 (insNamed_t rfl (i := (posN rels nm)) (zs := [(⟨nm, r⟩ : Namedt)]) (by omega) (by simp) (by simp) (by omega)) 300 103 104 rfl rfl rfl (fun _ => rfl)) rfl AllV.rf (caught_of rfl) rfl rfl rfl ⟨rfl, rfl, trivial⟩ rfl) ?_
  refine AL_p (x_field (off := 0) (o' := 0) rfl rfl rfl (by kernel_rfl) rfl) ?_
  refine AL_p (x_store (n := 1) rfl rfl rfl rfl (by kernel_rfl) rfl rfl rfl) ?_
  refine AL_nil ?_
  refine AW_seq ?_
  refine AW_region ?_
  refine AL_p (x_loadN (n := 1) rfl rfl rfl (by kernel_rfl) rfl rfl) ?_
  refine AL_p (x_store (n := 1) rfl rfl rfl rfl (by kernel_rfl) rfl rfl rfl) ?_
  refine AL_nil ?_
  refine AW_ret ?_
  exact ⟨rn [(9, 102), (2, 104)], ⟨⟨⟨_, rfl, VLe.rf⟩, trivial⟩, ⟨⟨_, rfl, BLe.rf⟩, ⟨_, rfl, BLe.arr hno.symm⟩, trivial⟩, by repeat (first | exact trivial | refine ⟨⟨rfl, by first | (left; intro h; cases h) | (right; rfl), by first | exact (fun _ h => ⟨_, h⟩) | exact (fun _ _ => ⟨_, rfl⟩)⟩, ?_⟩), rfl⟩⟩

set_option maxHeartbeats 4000000 in
theorem copyStI_c0 (rels : List Namedt) (hs : rels.length ≤ 1048576) (hm : ∀ y ∈ rels, smallNamed y) : AC Try.prog 65 [.agg [.sl namedE rels]] [] (.agg [.own 0]) [(0, some (.arr 89 namedE rels true))] := by
  refine AC_bodyC (n := 1) (k := 9) (T := [(2, .one (.ptr 9 0))]) (Lf := ((9, some (.box [.own 0])) :: [(0, some (.arr 89 namedE rels true))])) Try.func65 rfl rfl Try.ntmps65 rfl Try.results65 rfl rfl (by kernel_rfl) rfl rfl ⟨trivial, (by repeat (first | exact trivial | refine ⟨⟨_, rfl, BLe.rf⟩, ?_⟩)), (by repeat (first | exact trivial | refine ⟨⟨rfl, by first | (left; intro h; cases h) | (right; rfl), by first | exact (fun _ h => ⟨_, h⟩) | exact (fun _ _ => ⟨_, rfl⟩)⟩, ?_⟩)), rfl⟩ ?_
  refine AW_seq ?_
  refine AW_region ?_
  refine AL_p (x_box 100 rfl rfl rfl rfl rfl rfl rfl) ?_
  refine AL_p (x_alloc (z := .agg #[.slice none 0 0]) 101 rfl (by kernel_rfl) rfl rfl rfl rfl) ?_
  refine AL_nil ?_
  refine AW_seq ?_
  refine AW_region ?_
  refine AL_p (x_build (zs := [.slice none 0 0]) (places := [(0, 1)]) rfl (by kernel_rfl) rfl rfl rfl rfl rfl) ?_
  refine AL_p (x_alloc (z := .agg #[.slice none 0 0]) 102 rfl (by kernel_rfl) rfl rfl rfl rfl) ?_
  refine AL_p (x_store (n := 1) rfl rfl rfl rfl (by kernel_rfl) rfl rfl rfl) ?_
  refine AL_nil ?_
  refine AW_seq ?_
  refine AW_seq ?_
  refine AW_region ?_
  refine AL_p (x_field (off := 0) (o' := 0) rfl rfl rfl (by kernel_rfl) rfl) ?_
  refine AL_p (x_load1 rfl rfl rfl (by kernel_rfl) rfl) ?_
  refine AL_p (x_len (E := 89) (n := 3) rfl rfl (by kernel_rfl)) ?_
  refine AL_p (x_move rfl rfl) ?_
  refine AL_nil ?_
  refine AW_block ?_
  refine AW_adopt (T := 89) (e := namedE) 103 102 0 rfl rfl rfl rfl rfl ?_
  refine AW_loop2 (ι := {q : Nat // q ≤ rels.length}) (fun p => [(10, .one (.c (.int .i64 ((p.1) : Int))))]) (fun p => [(103, some (.arr 89 namedE (rels.take (p.1)) true))]) [2, 3, 8, 9] [100, 101, 102] (fun p => rels.length - (p.1)) ⟨0, by omega⟩ (rn []) ?_ ?_
  exact ⟨by (repeat refine ⟨⟨_, rfl, by first | exact VLe.rf | exact vle_int (by dsimp only; omega)⟩, ?_⟩); exact trivial, by (repeat refine ⟨⟨_, rfl, by first | exact BLe.rf | exact BLe.box AllC.rf | exact BLe.arr (by first | exact take_none | exact take_more (by omega))⟩, ?_⟩); exact trivial, by repeat (first | exact trivial | refine ⟨⟨rfl, by first | (left; intro h; cases h) | (right; rfl), by first | exact (fun _ h => ⟨_, h⟩) | exact (fun _ _ => ⟨_, rfl⟩)⟩, ?_⟩), rfl⟩
  rintro ⟨k, hinv⟩
  dsimp only
  have hk := hinv
  refine AW_seq ?_
  refine AW_region ?_
  refine AL_b (x_lss rfl rfl rfl) (fun b11 h11 => ?_)
  refine AL_nil ?_
  refine AW_seq ?_
  cases b11
  · try simp only [tdy] at h11
    refine AW_condF rfl ?_
    refine AW_exit (BQ_hit ?_)
    refine AW_seq ?_
    refine AW_region ?_
    refine AL_p (x_loadN (n := 1) rfl rfl rfl (by kernel_rfl) rfl rfl) ?_
    refine AL_p (x_store (n := 1) rfl rfl rfl rfl (by kernel_rfl) rfl rfl rfl) ?_
    refine AL_nil ?_
    refine AW_ret ?_
    exact ⟨rn [(9, 101), (0, 103)], ⟨⟨⟨_, rfl, VLe.rf⟩, trivial⟩, ⟨⟨_, rfl, by first | exact BLe.rf | (subst_vars; exact BLe.rf)⟩, ⟨_, rfl, BLe.arr (List.take_of_length_le (by omega))⟩, trivial⟩, trivial, rfl⟩⟩
  try simp only [tdy] at h11
  refine AW_condT rfl ?_
  refine AW_skip ?_
  refine AW_seq ?_
  refine AW_block ?_
  refine AW_seq ?_
  refine AW_region ?_
  refine AL_p (x_index (E := 89) (n := 3) rfl rfl rfl (by kernel_rfl) rfl (k := k) rfl (by omega)) ?_
  refine AL_p (x_eloadW (n := 3) rfl rfl (by kernel_rfl) rfl) ?_
  refine AL_p (x_alloc (z := .agg #[.string ⟨#[]⟩, .int .i64 0, .slice none 0 0]) 104 rfl (by kernel_rfl) rfl rfl rfl rfl) ?_
  refine AL_p (x_store (n := 3) rfl rfl rfl rfl (by kernel_rfl) rfl rfl rfl) ?_
  refine AL_nil ?_
  refine AW_draw rfl ?_
  refine AL_p (x_field (off := 0) (o' := 0) rfl rfl rfl (by kernel_rfl) rfl) ?_
  refine AL_p (x_load1 rfl rfl rfl (by kernel_rfl) rfl) ?_
  refine AL_p (x_field (off := 0) (o' := 0) rfl rfl rfl (by kernel_rfl) rfl) ?_
  refine AL_p (x_load1 rfl rfl rfl (by kernel_rfl) rfl) ?_
  refine AL_p (x_field (off := 1) (o' := 1) rfl rfl rfl (by kernel_rfl) rfl) ?_
  refine AL_p (x_loadN (n := 2) rfl rfl rfl (by kernel_rfl) rfl rfl) ?_
  refine AL_p (x_call1 rfl rfl rfl (copyI_c (rels[k]'(by omega)).rel (hm _ (List.getElem_mem _)).2 105) rfl rfl rfl rfl) ?_
  refine AL_p (x_build (zs := [.string ⟨#[]⟩, .int .i64 0, .slice none 0 0]) (places := [(0, 1), (1, 2)]) rfl (by kernel_rfl) rfl rfl rfl rfl rfl) ?_
  refine AL_p (y_bslice (E := 89) (e := namedE) [.tmp 21] ([(rels[k]'(by omega))]) 106 rfl rfl rfl rfl rfl rfl rfl rfl FitL.rf rfl rfl rfl rfl rfl rfl (by kernel_rfl)) ?_
  refine AL_p (y_append 107 rfl rfl rfl rfl rfl rfl rfl rfl (by kernel_rfl) (by simp only [List.length_take, List.length_cons, List.length_nil]; omega)) ?_
  refine AL_p (x_field (off := 0) (o' := 0) rfl rfl rfl (by kernel_rfl) rfl) ?_
  refine AL_p (x_store (n := 1) rfl rfl rfl rfl (by kernel_rfl) rfl rfl rfl) ?_
  refine AL_nild (by kernel_rfl) ?_
  refine AW_region ?_
  refine AL_p (x_add rfl rfl rfl (IntWalk.i64_in _ (by omega))) ?_
  refine AL_p (x_move rfl rfl) ?_
  refine AL_nil ?_
  refine ⟨⟨k + 1, by omega⟩, rn [(103, 107)], ?_, by dsimp only; omega⟩
  exact ⟨by (repeat refine ⟨⟨_, rfl, by first | exact VLe.rf | exact vle_int (by dsimp only; omega)⟩, ?_⟩); exact trivial, by (repeat refine ⟨⟨_, rfl, by first | exact BLe.rf | exact BLe.box AllC.rf | exact BLe.arr (by first | exact take_none | exact take_more (by omega))⟩, ?_⟩); exact trivial, by repeat (first | exact trivial | refine ⟨⟨rfl, by first | (left; intro h; cases h) | (right; rfl), by first | exact (fun _ h => ⟨_, h⟩) | exact (fun _ _ => ⟨_, rfl⟩)⟩, ?_⟩), rfl⟩
theorem copyStI_c (rels : List Namedt) (hs : rels.length ≤ 1048576) (hm : ∀ y ∈ rels, smallNamed y) (k : Nat) : AC Try.prog 65 [.agg [.sl namedE rels]] [] (.agg [.own k]) [(k, some (.arr 89 namedE rels true))] := AC.at (copyStI_c0 rels hs hm) k

set_option maxHeartbeats 4000000 in
theorem storePutI_c0 (s : Storet) (nm : ByteArray) (r : Relt) (hs : smallStore s) (hr : smallRel r) : AC Try.prog 22 [.agg (storeC s), .one (.c (.string nm)), .agg (relC r)] [] (.tup [.agg [.own 0], .one (.c (.bool (storePut s nm r).2))]) [(0, some (.arr 89 namedE (storePut s nm r).1.rels true))] := by
  refine AC_bodyCT (n := 1) (k := 9) (T := [(6, .one (.ptr 9 0)), (7, .one (.c (.bool (storePut s nm r).2)))]) (Lf := ((9, some (.box [.own 0])) :: [(0, some (.arr 89 namedE (storePut s nm r).1.rels true))])) Try.func22 rfl rfl Try.ntmps22 rfl Try.results22 rfl rfl rfl rfl (by kernel_rfl) rfl rfl ⟨trivial, (by repeat (first | exact trivial | refine ⟨⟨_, rfl, BLe.rf⟩, ?_⟩)), (by repeat (first | exact trivial | refine ⟨⟨rfl, by first | (left; intro h; cases h) | (right; rfl), by first | exact (fun _ h => ⟨_, h⟩) | exact (fun _ _ => ⟨_, rfl⟩)⟩, ?_⟩)), rfl⟩ ?_
  refine AW_seq ?_
  refine AW_region ?_
  refine AL_p (x_box 100 rfl rfl rfl rfl rfl rfl rfl) ?_
  refine AL_p (x_box 101 rfl rfl rfl rfl rfl rfl rfl) ?_
  refine AL_p (x_alloc (z := .agg #[.slice none 0 0]) 102 rfl (by kernel_rfl) rfl rfl rfl rfl) ?_
  refine AL_p (x_assign rfl rfl) ?_
  refine AL_nil ?_
  refine AW_seq ?_
  refine AW_seq ?_
  refine AW_region ?_
  refine AL_p (x_loadN (n := 1) rfl rfl rfl (by kernel_rfl) rfl rfl) ?_
  refine AL_b (x_call0 rfl rfl rfl (storeOkI_c _ hs) rfl rfl) (fun b10 h10 => ?_)
  refine AL_p (x_not rfl rfl) ?_
  refine AL_p (x_move rfl rfl) ?_
  cases b10
  · try simp only [tdy] at h10
    have hno := storePut_no (s := s) (nm := nm) (r := r) (by simp [h10])
    refine AL_o rfl rfl rfl rfl ?_
    refine AL_o rfl rfl rfl rfl ?_
    refine AL_o rfl rfl rfl rfl ?_
    refine AL_p (x_pickT rfl rfl rfl) ?_
    refine AL_p (x_move rfl rfl) ?_
    refine AL_o rfl rfl rfl rfl ?_
    refine AL_o rfl rfl rfl rfl ?_
    refine AL_o rfl rfl rfl rfl ?_
    refine AL_p (x_pickT rfl rfl rfl) ?_
    refine AL_nil ?_
    refine AW_condT rfl ?_
    refine AW_seq ?_
    refine AW_region ?_
    refine AL_p (x_build (zs := [.slice none 0 0]) (places := [(0, 1)]) rfl (by kernel_rfl) rfl rfl rfl rfl rfl) ?_
    refine AL_p (x_store (n := 1) rfl rfl rfl rfl (by kernel_rfl) rfl rfl rfl) ?_
    refine AL_p (x_assign rfl rfl) ?_
    refine AL_nil ?_
    refine AW_adopt (T := 89) (e := namedE) 104 102 0 rfl rfl rfl rfl rfl ?_
    refine AW_ret ?_
    exact ⟨rn [(9, 102), (0, 104)], ⟨⟨⟨_, rfl, VLe.rf⟩, ⟨_, rfl, by first | (refine vle_bool ?_; rw [hno]; done) | exact VLe.rf | (refine vle_bool ?_; rw [hno]; apply Eq.symm; assumption) | exact vle_bool (by rw [hno])⟩, trivial⟩, ⟨⟨_, rfl, by first | (refine ble_eq ?_; rw [hno]; done) | (refine ble_eq ?_; rw [hno]; rfl) | exact BLe.rf⟩, ⟨_, rfl, by first | (refine BLe.arr ?_; rw [hno]; done) | (refine BLe.arr ?_; rw [hno]; rfl) | exact BLe.rf⟩, trivial⟩, trivial, rfl⟩⟩
  try simp only [tdy] at h10
  refine AL_g rfl rfl (x_loadN (n := 2) rfl rfl rfl (by kernel_rfl) rfl rfl) ?_
  refine AL_gb rfl rfl (x_call0 rfl rfl rfl (relOkI_c _ hr.1) rfl rfl) (fun b14 h14 => ?_)
  refine AL_g rfl rfl (x_not rfl rfl) ?_
  refine AL_p (x_pickF rfl rfl rfl) ?_
  refine AL_p (x_move rfl rfl) ?_
  cases b14
  · try simp only [tdy] at h14
    have hno := storePut_no (s := s) (nm := nm) (r := r) (by simp [h14])
    refine AL_o rfl rfl rfl rfl ?_
    refine AL_o rfl rfl rfl rfl ?_
    refine AL_o rfl rfl rfl rfl ?_
    refine AL_p (x_pickT rfl rfl rfl) ?_
    refine AL_nil ?_
    refine AW_condT rfl ?_
    refine AW_seq ?_
    refine AW_region ?_
    refine AL_p (x_build (zs := [.slice none 0 0]) (places := [(0, 1)]) rfl (by kernel_rfl) rfl rfl rfl rfl rfl) ?_
    refine AL_p (x_store (n := 1) rfl rfl rfl rfl (by kernel_rfl) rfl rfl rfl) ?_
    refine AL_p (x_assign rfl rfl) ?_
    refine AL_nil ?_
    refine AW_adopt (T := 89) (e := namedE) 104 102 0 rfl rfl rfl rfl rfl ?_
    refine AW_ret ?_
    exact ⟨rn [(9, 102), (0, 104)], ⟨⟨⟨_, rfl, VLe.rf⟩, ⟨_, rfl, by first | (refine vle_bool ?_; rw [hno]; done) | exact VLe.rf | (refine vle_bool ?_; rw [hno]; apply Eq.symm; assumption) | exact vle_bool (by rw [hno])⟩, trivial⟩, ⟨⟨_, rfl, by first | (refine ble_eq ?_; rw [hno]; done) | (refine ble_eq ?_; rw [hno]; rfl) | exact BLe.rf⟩, ⟨_, rfl, by first | (refine BLe.arr ?_; rw [hno]; done) | (refine BLe.arr ?_; rw [hno]; rfl) | exact BLe.rf⟩, trivial⟩, trivial, rfl⟩⟩
  try simp only [tdy] at h14
  refine AL_g rfl rfl (x_move rfl rfl) ?_
  refine AL_gb rfl rfl (x_call0 rfl rfl rfl (wordOkI_c _) rfl rfl) (fun b19 h19 => ?_)
  refine AL_g rfl rfl (x_not rfl rfl) ?_
  refine AL_p (x_pickF rfl rfl rfl) ?_
  refine AL_nil ?_
  cases b19
  · try simp only [tdy] at h19
    have hno := storePut_no (s := s) (nm := nm) (r := r) (by simp [h19])
    refine AW_condT rfl ?_
    refine AW_seq ?_
    refine AW_region ?_
    refine AL_p (x_build (zs := [.slice none 0 0]) (places := [(0, 1)]) rfl (by kernel_rfl) rfl rfl rfl rfl rfl) ?_
    refine AL_p (x_store (n := 1) rfl rfl rfl rfl (by kernel_rfl) rfl rfl rfl) ?_
    refine AL_p (x_assign rfl rfl) ?_
    refine AL_nil ?_
    refine AW_adopt (T := 89) (e := namedE) 104 102 0 rfl rfl rfl rfl rfl ?_
    refine AW_ret ?_
    exact ⟨rn [(9, 102), (0, 104)], ⟨⟨⟨_, rfl, VLe.rf⟩, ⟨_, rfl, by first | (refine vle_bool ?_; rw [hno]; done) | exact VLe.rf | (refine vle_bool ?_; rw [hno]; apply Eq.symm; assumption) | exact vle_bool (by rw [hno])⟩, trivial⟩, ⟨⟨_, rfl, by first | (refine ble_eq ?_; rw [hno]; done) | (refine ble_eq ?_; rw [hno]; rfl) | exact BLe.rf⟩, ⟨_, rfl, by first | (refine BLe.arr ?_; rw [hno]; done) | (refine BLe.arr ?_; rw [hno]; rfl) | exact BLe.rf⟩, trivial⟩, trivial, rfl⟩⟩
  try simp only [tdy] at h19
  have hwe := withRel_set (nw := (⟨nm, r⟩ : Namedt)) (storeOk_names h10)
  refine AW_condF rfl ?_
  refine AW_skip ?_
  refine AW_seq ?_
  refine AW_draw rfl ?_
  refine AL_p (x_loadN (n := 1) rfl rfl rfl (by kernel_rfl) rfl rfl) ?_
  refine AL_p (x_call1 rfl rfl rfl (copyStI_c s.rels hs.1 hs.2 0) rfl rfl rfl rfl) ?_
  refine AL_p (x_move rfl rfl) ?_
  refine AL_p (x_loadN (n := 2) rfl rfl rfl (by kernel_rfl) rfl rfl) ?_
  refine AL_p (x_call1 rfl rfl rfl (copyI_c r hr 1) rfl rfl rfl rfl) ?_
  refine AL_p (x_call (ks := []) (L := [(0, some _), (1, some _)]) (L' := [(0, none), (1, none), (2, some _)]) rfl rfl rfl (withI_c s.rels nm r (by have := storeOk_max h10; omega)) rfl AllV.rf (caught_of rfl) rfl rfl rfl ⟨rfl, rfl, trivial⟩ rfl) ?_
  refine AL_p (x_alloc (z := .agg #[.slice none 0 0]) 103 rfl (by kernel_rfl) rfl rfl rfl rfl) ?_
  refine AL_p (x_store (n := 1) rfl rfl rfl rfl (by kernel_rfl) rfl rfl rfl) ?_
  refine AL_nild (by kernel_rfl) ?_
  refine AW_seq ?_
  refine AW_seq ?_
  refine AW_region ?_
  refine AL_p (x_field (off := 0) (o' := 0) rfl rfl rfl (by kernel_rfl) rfl) ?_
  refine AL_p (x_load1 rfl rfl rfl (by kernel_rfl) rfl) ?_
  refine AL_p (x_olen (E := 89) (n := 3) rfl rfl rfl (by kernel_rfl)) ?_
  refine AL_b (x_gtr rfl rfl rfl) (fun b32 h32 => ?_)
  refine AL_nil ?_
  cases b32
  rotate_left
  · try simp only [tdy] at h32
    have hno := storePut_big h10 h14 h19 (by rw [← hwe]; omega)
    refine AW_condT rfl ?_
    refine AW_seq ?_
    refine AW_region ?_
    refine AL_p (x_build (zs := [.slice none 0 0]) (places := [(0, 1)]) rfl (by kernel_rfl) rfl rfl rfl rfl rfl) ?_
    refine AL_p (x_store (n := 1) rfl rfl rfl rfl (by kernel_rfl) rfl rfl rfl) ?_
    refine AL_p (x_assign rfl rfl) ?_
    refine AL_nil ?_
    refine AW_adopt (T := 89) (e := namedE) 104 102 0 rfl rfl rfl rfl rfl ?_
    refine AW_ret ?_
    exact ⟨rn [(9, 102), (0, 104)], ⟨⟨⟨_, rfl, VLe.rf⟩, ⟨_, rfl, by first | (refine vle_bool ?_; rw [hno]; done) | exact VLe.rf | (refine vle_bool ?_; rw [hno]; apply Eq.symm; assumption) | exact vle_bool (by rw [hno])⟩, trivial⟩, ⟨⟨_, rfl, by first | (refine ble_eq ?_; rw [hno]; done) | (refine ble_eq ?_; rw [hno]; rfl) | exact BLe.rf⟩, ⟨_, rfl, by first | (refine BLe.arr ?_; rw [hno]; done) | (refine BLe.arr ?_; rw [hno]; rfl) | exact BLe.rf⟩, trivial⟩, trivial, rfl⟩⟩
  try simp only [tdy] at h32
  have hno := (storePut_ok h10 h14 h19 (by rw [← hwe]; omega)).trans (by rw [← hwe])
  refine AW_condF rfl ?_
  refine AW_skip ?_
  refine AW_seq ?_
  refine AW_region ?_
  refine AL_p (x_loadN (n := 1) rfl rfl rfl (by kernel_rfl) rfl rfl) ?_
  refine AL_p (x_store (n := 1) rfl rfl rfl rfl (by kernel_rfl) rfl rfl rfl) ?_
  refine AL_p (x_assign rfl rfl) ?_
  refine AL_nil ?_
  refine AW_ret ?_
  exact ⟨rn [(9, 102), (0, 2)], ⟨⟨⟨_, rfl, VLe.rf⟩, ⟨_, rfl, by first | (refine vle_bool ?_; rw [hno]; done) | exact VLe.rf | (refine vle_bool ?_; rw [hno]; apply Eq.symm; assumption) | exact vle_bool (by rw [hno])⟩, trivial⟩, ⟨⟨_, rfl, by first | (refine ble_eq ?_; rw [hno]; done) | (refine ble_eq ?_; rw [hno]; rfl) | exact BLe.rf⟩, ⟨_, rfl, by first | (refine BLe.arr ?_; rw [hno]; done) | (refine BLe.arr ?_; rw [hno]; rfl) | exact BLe.rf⟩, trivial⟩, trivial, rfl⟩⟩
theorem storePutI_c (s : Storet) (nm : ByteArray) (r : Relt) (hs : smallStore s) (hr : smallRel r) (k : Nat) : AC Try.prog 22 [.agg (storeC s), .one (.c (.string nm)), .agg (relC r)] [] (.tup [.agg [.own k], .one (.c (.bool (storePut s nm r).2))]) [(k, some (.arr 89 namedE (storePut s nm r).1.rels true))] := AC.at (storePutI_c0 s nm r hs hr) k

set_option maxHeartbeats 4000000 in
theorem storePutS_c0 (s : Storet) (nm : ByteArray) (r : Relt) (hs : smallStore s) (hr : smallRel r) : AC Try.prog 20 [.agg (storeC s), .one (.c (.string nm)), .agg (relC r)] [] (.tup [.agg [.own 0], .one (.c (.bool (storePut s nm r).2))]) [(0, some (.arr 89 namedE (storePut s nm r).1.rels true))] := by
  refine AC_bodyCT (n := 1) (k := 9) (T := [(6, .one (.ptr 9 0)), (7, .one (.c (.bool (storePut s nm r).2)))]) (Lf := ((9, some (.box [.own 0])) :: [(0, some (.arr 89 namedE (storePut s nm r).1.rels true))])) Try.func20 rfl rfl Try.ntmps20 rfl Try.results20 rfl rfl rfl rfl (by kernel_rfl) rfl rfl ⟨trivial, (by repeat (first | exact trivial | refine ⟨⟨_, rfl, BLe.rf⟩, ?_⟩)), (by repeat (first | exact trivial | refine ⟨⟨rfl, by first | (left; intro h; cases h) | (right; rfl), by first | exact (fun _ h => ⟨_, h⟩) | exact (fun _ _ => ⟨_, rfl⟩)⟩, ?_⟩)), rfl⟩ ?_
  refine AW_seq ?_
  refine AW_region ?_
  refine AL_p (x_box 100 rfl rfl rfl rfl rfl rfl rfl) ?_
  refine AL_p (x_box 101 rfl rfl rfl rfl rfl rfl rfl) ?_
  refine AL_p (x_alloc (z := .agg #[.slice none 0 0]) 102 rfl (by kernel_rfl) rfl rfl rfl rfl) ?_
  refine AL_p (x_assign rfl rfl) ?_
  refine AL_nil ?_
  refine AW_seq ?_
  refine AW_seq ?_
  refine AW_region ?_
  refine AL_p (x_loadN (n := 1) rfl rfl rfl (by kernel_rfl) rfl rfl) ?_
  refine AL_b (x_call0 rfl rfl rfl (storeOkS_c _ hs) rfl rfl) (fun b10 h10 => ?_)
  refine AL_p (x_not rfl rfl) ?_
  refine AL_p (x_move rfl rfl) ?_
  cases b10
  · try simp only [tdy] at h10
    have hno := storePut_no (s := s) (nm := nm) (r := r) (by simp [h10])
    refine AL_o rfl rfl rfl rfl ?_
    refine AL_o rfl rfl rfl rfl ?_
    refine AL_o rfl rfl rfl rfl ?_
    refine AL_p (x_pickT rfl rfl rfl) ?_
    refine AL_p (x_move rfl rfl) ?_
    refine AL_o rfl rfl rfl rfl ?_
    refine AL_o rfl rfl rfl rfl ?_
    refine AL_o rfl rfl rfl rfl ?_
    refine AL_p (x_pickT rfl rfl rfl) ?_
    refine AL_nil ?_
    refine AW_condT rfl ?_
    refine AW_seq ?_
    refine AW_region ?_
    refine AL_p (x_build (zs := [.slice none 0 0]) (places := [(0, 1)]) rfl (by kernel_rfl) rfl rfl rfl rfl rfl) ?_
    refine AL_p (x_store (n := 1) rfl rfl rfl rfl (by kernel_rfl) rfl rfl rfl) ?_
    refine AL_p (x_assign rfl rfl) ?_
    refine AL_nil ?_
    refine AW_adopt (T := 89) (e := namedE) 105 102 0 rfl rfl rfl rfl rfl ?_
    refine AW_ret ?_
    exact ⟨rn [(9, 102), (0, 105)], ⟨⟨⟨_, rfl, VLe.rf⟩, ⟨_, rfl, by first | (refine vle_bool ?_; rw [hno]; done) | exact VLe.rf | (refine vle_bool ?_; rw [hno]; apply Eq.symm; assumption) | exact vle_bool (by rw [hno])⟩, trivial⟩, ⟨⟨_, rfl, by first | (refine ble_eq ?_; rw [hno]; done) | (refine ble_eq ?_; rw [hno]; rfl) | exact BLe.rf⟩, ⟨_, rfl, by first | (refine BLe.arr ?_; rw [hno]; done) | (refine BLe.arr ?_; rw [hno]; rfl) | exact BLe.rf⟩, trivial⟩, trivial, rfl⟩⟩
  try simp only [tdy] at h10
  refine AL_g rfl rfl (x_loadN (n := 2) rfl rfl rfl (by kernel_rfl) rfl rfl) ?_
  refine AL_gb rfl rfl (x_call0 rfl rfl rfl (relOkS_c _ hr.1) rfl rfl) (fun b14 h14 => ?_)
  refine AL_g rfl rfl (x_not rfl rfl) ?_
  refine AL_p (x_pickF rfl rfl rfl) ?_
  refine AL_p (x_move rfl rfl) ?_
  cases b14
  · try simp only [tdy] at h14
    have hno := storePut_no (s := s) (nm := nm) (r := r) (by simp [h14])
    refine AL_o rfl rfl rfl rfl ?_
    refine AL_o rfl rfl rfl rfl ?_
    refine AL_o rfl rfl rfl rfl ?_
    refine AL_p (x_pickT rfl rfl rfl) ?_
    refine AL_nil ?_
    refine AW_condT rfl ?_
    refine AW_seq ?_
    refine AW_region ?_
    refine AL_p (x_build (zs := [.slice none 0 0]) (places := [(0, 1)]) rfl (by kernel_rfl) rfl rfl rfl rfl rfl) ?_
    refine AL_p (x_store (n := 1) rfl rfl rfl rfl (by kernel_rfl) rfl rfl rfl) ?_
    refine AL_p (x_assign rfl rfl) ?_
    refine AL_nil ?_
    refine AW_adopt (T := 89) (e := namedE) 105 102 0 rfl rfl rfl rfl rfl ?_
    refine AW_ret ?_
    exact ⟨rn [(9, 102), (0, 105)], ⟨⟨⟨_, rfl, VLe.rf⟩, ⟨_, rfl, by first | (refine vle_bool ?_; rw [hno]; done) | exact VLe.rf | (refine vle_bool ?_; rw [hno]; apply Eq.symm; assumption) | exact vle_bool (by rw [hno])⟩, trivial⟩, ⟨⟨_, rfl, by first | (refine ble_eq ?_; rw [hno]; done) | (refine ble_eq ?_; rw [hno]; rfl) | exact BLe.rf⟩, ⟨_, rfl, by first | (refine BLe.arr ?_; rw [hno]; done) | (refine BLe.arr ?_; rw [hno]; rfl) | exact BLe.rf⟩, trivial⟩, trivial, rfl⟩⟩
  try simp only [tdy] at h14
  refine AL_g rfl rfl (x_move rfl rfl) ?_
  refine AL_gb rfl rfl (x_call0 rfl rfl rfl (wordOkS_c _) rfl rfl) (fun b19 h19 => ?_)
  refine AL_g rfl rfl (x_not rfl rfl) ?_
  refine AL_p (x_pickF rfl rfl rfl) ?_
  refine AL_nil ?_
  cases b19
  · try simp only [tdy] at h19
    have hno := storePut_no (s := s) (nm := nm) (r := r) (by simp [h19])
    refine AW_condT rfl ?_
    refine AW_seq ?_
    refine AW_region ?_
    refine AL_p (x_build (zs := [.slice none 0 0]) (places := [(0, 1)]) rfl (by kernel_rfl) rfl rfl rfl rfl rfl) ?_
    refine AL_p (x_store (n := 1) rfl rfl rfl rfl (by kernel_rfl) rfl rfl rfl) ?_
    refine AL_p (x_assign rfl rfl) ?_
    refine AL_nil ?_
    refine AW_adopt (T := 89) (e := namedE) 105 102 0 rfl rfl rfl rfl rfl ?_
    refine AW_ret ?_
    exact ⟨rn [(9, 102), (0, 105)], ⟨⟨⟨_, rfl, VLe.rf⟩, ⟨_, rfl, by first | (refine vle_bool ?_; rw [hno]; done) | exact VLe.rf | (refine vle_bool ?_; rw [hno]; apply Eq.symm; assumption) | exact vle_bool (by rw [hno])⟩, trivial⟩, ⟨⟨_, rfl, by first | (refine ble_eq ?_; rw [hno]; done) | (refine ble_eq ?_; rw [hno]; rfl) | exact BLe.rf⟩, ⟨_, rfl, by first | (refine BLe.arr ?_; rw [hno]; done) | (refine BLe.arr ?_; rw [hno]; rfl) | exact BLe.rf⟩, trivial⟩, trivial, rfl⟩⟩
  try simp only [tdy] at h19
  refine AW_condF rfl ?_
  refine AW_skip ?_
  refine AW_seq ?_
  refine AW_region ?_
  refine AL_p (x_loadN (n := 1) rfl rfl rfl (by kernel_rfl) rfl rfl) ?_
  refine AL_p (x_move rfl rfl) ?_
  refine AL_p (x_loadN (n := 2) rfl rfl rfl (by kernel_rfl) rfl rfl) ?_
  refine AL_p (x_call1 rfl rfl rfl (l12Set_c s.rels nm r (by have := storeOk_max h10; omega) hs.2 hr 103) rfl rfl rfl rfl) ?_
  refine AL_p (x_alloc (z := .agg #[.slice none 0 0]) 104 rfl (by kernel_rfl) rfl rfl rfl rfl) ?_
  refine AL_p (x_store (n := 1) rfl rfl rfl rfl (by kernel_rfl) rfl rfl rfl) ?_
  refine AL_nil ?_
  refine AW_seq ?_
  refine AW_seq ?_
  refine AW_region ?_
  refine AL_p (x_field (off := 0) (o' := 0) rfl rfl rfl (by kernel_rfl) rfl) ?_
  refine AL_p (x_load1 rfl rfl rfl (by kernel_rfl) rfl) ?_
  refine AL_p (x_olen (E := 89) (n := 3) rfl rfl rfl (by kernel_rfl)) ?_
  refine AL_b (x_gtr rfl rfl rfl) (fun b30 h30 => ?_)
  refine AL_nil ?_
  cases b30
  rotate_left
  · try simp only [tdy] at h30
    have hno := storePut_big h10 h14 h19 (by omega)
    refine AW_condT rfl ?_
    refine AW_seq ?_
    refine AW_region ?_
    refine AL_p (x_build (zs := [.slice none 0 0]) (places := [(0, 1)]) rfl (by kernel_rfl) rfl rfl rfl rfl rfl) ?_
    refine AL_p (x_store (n := 1) rfl rfl rfl rfl (by kernel_rfl) rfl rfl rfl) ?_
    refine AL_p (x_assign rfl rfl) ?_
    refine AL_nil ?_
    refine AW_adopt (T := 89) (e := namedE) 105 102 0 rfl rfl rfl rfl rfl ?_
    refine AW_ret ?_
    exact ⟨rn [(9, 102), (0, 105)], ⟨⟨⟨_, rfl, VLe.rf⟩, ⟨_, rfl, by first | (refine vle_bool ?_; rw [hno]; done) | exact VLe.rf | (refine vle_bool ?_; rw [hno]; apply Eq.symm; assumption) | exact vle_bool (by rw [hno])⟩, trivial⟩, ⟨⟨_, rfl, by first | (refine ble_eq ?_; rw [hno]; done) | (refine ble_eq ?_; rw [hno]; rfl) | exact BLe.rf⟩, ⟨_, rfl, by first | (refine BLe.arr ?_; rw [hno]; done) | (refine BLe.arr ?_; rw [hno]; rfl) | exact BLe.rf⟩, trivial⟩, trivial, rfl⟩⟩
  try simp only [tdy] at h30
  have hno := storePut_ok h10 h14 h19 (by omega)
  refine AW_condF rfl ?_
  refine AW_skip ?_
  refine AW_seq ?_
  refine AW_region ?_
  refine AL_p (x_loadN (n := 1) rfl rfl rfl (by kernel_rfl) rfl rfl) ?_
  refine AL_p (x_store (n := 1) rfl rfl rfl rfl (by kernel_rfl) rfl rfl rfl) ?_
  refine AL_p (x_assign rfl rfl) ?_
  refine AL_nil ?_
  refine AW_ret ?_
  exact ⟨rn [(9, 102), (0, 103)], ⟨⟨⟨_, rfl, VLe.rf⟩, ⟨_, rfl, by first | (refine vle_bool ?_; rw [hno]; done) | exact VLe.rf | (refine vle_bool ?_; rw [hno]; apply Eq.symm; assumption) | exact vle_bool (by rw [hno])⟩, trivial⟩, ⟨⟨_, rfl, by first | (refine ble_eq ?_; rw [hno]; done) | (refine ble_eq ?_; rw [hno]; rfl) | exact BLe.rf⟩, ⟨_, rfl, by first | (refine BLe.arr ?_; rw [hno]; done) | (refine BLe.arr ?_; rw [hno]; rfl) | exact BLe.rf⟩, trivial⟩, trivial, rfl⟩⟩
theorem storePutS_c (s : Storet) (nm : ByteArray) (r : Relt) (hs : smallStore s) (hr : smallRel r) (k : Nat) : AC Try.prog 20 [.agg (storeC s), .one (.c (.string nm)), .agg (relC r)] [] (.tup [.agg [.own k], .one (.c (.bool (storePut s nm r).2))]) [(k, some (.arr 89 namedE (storePut s nm r).1.rels true))] := AC.at (storePutS_c0 s nm r hs hr) k
end Go.Proofs.Ytibhoanjglfaoaa

/- The walk of FnExactStorePut (printed by walk.py) -/
namespace Go.Proofs.Ytibhoanjglfaoaa
open Go.RowKit
set_option linter.unusedVariables false
set_option linter.unusedSimpArgs false
set_option maxRecDepth 100000

set_option maxHeartbeats 4000000 in
theorem lawFnExactStorePut.walk (w : World) (c0 : Array Value) (x0 : Storet) (b0 : List Nat) (h0 : storeE.rep w c0.toList x0 b0) (x1 : ByteArray) (h1 : x1.size ≤ maxLen) (c2 : Array Value) (x2 : Relt) (b2 : List Nat) (h2 : relE.rep w c2.toList x2 b2) :
    Calls Try.prog 4 #[.agg c0, .string x1, .agg c2] w fun e w' => e = .returned (.bool true) ∧ Below w.heap.size w w' := by
  refine AM_law (r := 6) Try.func4 rfl Try.ntmps4 rfl Try.results4 w _ (args := [.agg (storeC x0), .one (.c (.string x1)), .agg (relC x2)]) ⟨arg_agg h0, ⟨rfl, h1⟩, arg_agg h2, trivial⟩ (fun B => ?_)
  refine AM_seq ?_
  refine AM_region ?_
  refine AL_p (x_box 100 rfl rfl rfl rfl rfl rfl rfl) ?_
  refine AL_p (x_box 101 rfl rfl rfl rfl rfl rfl rfl) ?_
  refine AL_p (x_assign rfl rfl) ?_
  refine AL_nil ?_
  refine AM_seq ?_
  refine AM_seq ?_
  refine AM_region ?_
  refine AL_p (x_move rfl rfl) ?_
  refine AL_p (x_lens rfl rfl (by kernel_rfl)) ?_
  refine AL_b (x_gtr rfl rfl rfl) (fun b21 h21 => ?_)
  refine AL_nil ?_
  cases b21
  rotate_left
  · try simp only [tdy] at h21
    refine AM_condT rfl ?_
    refine AM_seq ?_
    refine AM_region ?_
    refine AL_p (x_assign rfl rfl) ?_
    refine AL_nil ?_
    refine AM_ret ?_
    exact rfl
  try simp only [tdy] at h21
  refine AM_condF rfl ?_
  refine AM_skip ?_
  refine AM_seq ?_
  refine AM_region ?_
  refine AL_p (x_assign rfl rfl) ?_
  refine AL_nil ?_
  refine AM_seq ?_
  refine AM_region ?_
  refine AL_p (x_loadN (n := 1) rfl rfl rfl (by kernel_rfl) rfl rfl) ?_
  refine AL_p (x_move rfl rfl) ?_
  refine AL_p (x_call0 rfl rfl rfl (szStore_c _ _ (by omega) (by omega)) rfl rfl) ?_
  refine AL_p (x_assign rfl rfl) ?_
  refine AL_nil ?_
  refine AM_seq ?_
  refine AM_seq ?_
  refine AM_region ?_
  refine AL_p (x_move rfl rfl) ?_
  refine AL_b (x_lss rfl rfl rfl) (fun b26 h26 => ?_)
  refine AL_nil ?_
  cases b26
  rotate_left
  · try simp only [tdy] at h26
    refine AM_condT rfl ?_
    refine AM_seq ?_
    refine AM_region ?_
    refine AL_p (x_assign rfl rfl) ?_
    refine AL_nil ?_
    refine AM_ret ?_
    exact rfl
  try simp only [tdy] at h26
  have f26 := (szR_nonneg h26).1
  have e26 := (szR_nonneg h26).2
  refine AM_condF rfl ?_
  refine AM_skip ?_
  refine AM_seq ?_
  refine AM_region ?_
  refine AL_p (x_loadN (n := 2) rfl rfl rfl (by kernel_rfl) rfl rfl) ?_
  refine AL_p (x_move rfl rfl) ?_
  refine AL_p (x_call0 rfl rfl rfl (szRel_c _ _ (by omega) (by omega)) rfl rfl) ?_
  refine AL_p (x_assign rfl rfl) ?_
  refine AL_nil ?_
  refine AM_seq ?_
  refine AM_seq ?_
  refine AM_region ?_
  refine AL_p (x_move rfl rfl) ?_
  refine AL_b (x_lss rfl rfl rfl) (fun b31 h31 => ?_)
  refine AL_nil ?_
  cases b31
  rotate_left
  · try simp only [tdy] at h31
    refine AM_condT rfl ?_
    refine AM_seq ?_
    refine AM_region ?_
    refine AL_p (x_assign rfl rfl) ?_
    refine AL_nil ?_
    refine AM_ret ?_
    exact rfl
  try simp only [tdy] at h31
  have f31 := (szR_nonneg h31).1
  have e31 := (szR_nonneg h31).2
  have t0 : totStore x0 ≤ 1048576 := by omega
  have t2 : totRel x2 ≤ 1048576 := by omega
  have s0 := totStore_small t0
  have s2 := totRel_small t2
  refine AM_condF rfl ?_
  refine AM_skip ?_
  refine AM_seq ?_
  refine AM_draw rfl ?_
  refine AL_p (x_loadN (n := 1) rfl rfl rfl (by kernel_rfl) rfl rfl) ?_
  refine AL_p (x_callR rfl rfl rfl (toStore_c x0 s0 102) rfl AllV.rf rfl rfl rfl rfl rfl) ?_
  refine AL_p (x_move rfl rfl) ?_
  refine AL_p (x_loadN (n := 2) rfl rfl rfl (by kernel_rfl) rfl rfl) ?_
  refine AL_p (x_callR rfl rfl rfl (toRel_c x2 s2 103) rfl AllV.rf rfl rfl rfl rfl rfl) ?_
  refine AL_p (x_callR rfl rfl rfl (storePutS_c x0 x1 x2 s0 s2 104) rfl AllV.rf rfl rfl rfl rfl rfl) ?_
  refine AL_p (x_move rfl rfl) ?_
  refine AL_p (x_extract rfl rfl rfl) ?_
  refine AL_p (x_extract rfl rfl rfl) ?_
  refine AL_p (x_alloc (z := .agg #[.slice none 0 0]) 105 rfl (by kernel_rfl) rfl rfl rfl rfl) ?_
  refine AL_p (x_store (n := 1) rfl rfl rfl rfl (by kernel_rfl) rfl rfl rfl) ?_
  refine AL_p (x_assign rfl rfl) ?_
  refine AL_nild (by kernel_rfl) ?_
  refine AM_raise (fun B' => [(1, .one (.c _)), (3, .one (.epo B' storeE (x0) 0)), (5, .one (.epo B' relE (x2) 0)), (8, .one (.epo B' storeE ((storePut x0 x1 x2).1) 0)), (9, .one (.c _))]) (fun B' => ⟨⟨_, rfl, .c⟩, ⟨_, rfl, .box (f := storeC) rfl rfl rfl FitL.rf⟩, ⟨_, rfl, .box (f := relC) rfl rfl rfl FitL.rf⟩, ⟨_, rfl, .box (f := storeC) rfl rfl rfl FitL.rf⟩, ⟨_, rfl, .c⟩, trivial⟩) (fun B' => ?_)
  refine AM_seq ?_
  refine AM_region ?_
  refine AL_p (x_pload (f := storeC) (n := 1) rfl rfl (by kernel_rfl) rfl rfl) ?_
  refine AL_p (x_callR rfl rfl rfl (toStore_c x0 s0 106) rfl AllV.rf rfl rfl rfl rfl rfl) ?_
  refine AL_p (x_alloc (z := .agg #[.slice none 0 0]) 107 rfl (by kernel_rfl) rfl rfl rfl rfl) ?_
  refine AL_p (x_store (n := 1) rfl rfl rfl rfl (by kernel_rfl) rfl rfl rfl) ?_
  refine AL_nil ?_
  refine AM_seq ?_
  refine AM_region ?_
  refine AL_p (x_pload (f := relC) (n := 2) rfl rfl (by kernel_rfl) rfl rfl) ?_
  refine AL_p (x_callR rfl rfl rfl (toRel_c x2 s2 108) rfl AllV.rf rfl rfl rfl rfl rfl) ?_
  refine AL_p (x_alloc (z := .agg #[.int .i64 0, .slice none 0 0]) 109 rfl (by kernel_rfl) rfl rfl rfl rfl) ?_
  refine AL_p (x_store (n := 2) rfl rfl rfl rfl (by kernel_rfl) rfl rfl rfl) ?_
  refine AL_nil ?_
  refine AM_seq ?_
  refine AM_region ?_
  refine AL_p (x_loadN (n := 1) rfl rfl rfl (by kernel_rfl) rfl rfl) ?_
  refine AL_p (x_move rfl rfl) ?_
  refine AL_p (x_loadN (n := 2) rfl rfl rfl (by kernel_rfl) rfl rfl) ?_
  refine AL_p (x_callR rfl rfl rfl (storePutI_c x0 x1 x2 s0 s2 110) rfl AllV.rf rfl rfl rfl rfl rfl) ?_
  refine AL_p (x_move rfl rfl) ?_
  refine AL_p (x_extract rfl rfl rfl) ?_
  refine AL_p (x_extract rfl rfl rfl) ?_
  refine AL_p (x_alloc (z := .agg #[.slice none 0 0]) 111 rfl (by kernel_rfl) rfl rfl rfl rfl) ?_
  refine AL_p (x_store (n := 1) rfl rfl rfl rfl (by kernel_rfl) rfl rfl rfl) ?_
  refine AL_p (x_assign rfl rfl) ?_
  refine AL_nil ?_
  refine AM_seq ?_
  refine AM_seq ?_
  refine AM_region ?_
  refine AL_p (x_loadN (n := 1) rfl rfl rfl (by kernel_rfl) rfl rfl) ?_
  refine AL_p (x_pload (f := storeC) (n := 1) rfl rfl (by kernel_rfl) rfl rfl) ?_
  refine AL_p (x_callR rfl rfl rfl (eqStore_c ((storePut x0 x1 x2).1)) rfl AllV.rf rfl rfl rfl rfl rfl) ?_
  refine AL_p (x_not rfl rfl) ?_
  refine AL_p (x_move rfl rfl) ?_
  refine AL_g rfl rfl (x_move rfl rfl) ?_
  refine AL_g rfl rfl (x_move rfl rfl) ?_
  refine AL_gb rfl rfl (x_bneq rfl rfl rfl (by kernel_rfl)) (fun b59 h59 => ?_)
  refine AL_p (x_pickF rfl rfl rfl) ?_
  refine AL_nil ?_
  cases b59
  rotate_left
  · exfalso; first | (simp [ba_beq_self] at h59; done) | (simp at h59; omega)
  try simp only [tdy] at h59
  refine AM_condF rfl ?_
  refine AM_skip ?_
  refine AM_seq ?_
  refine AM_seq ?_
  refine AM_draw rfl ?_
  refine AL_p (x_loadN (n := 1) rfl rfl rfl (by kernel_rfl) rfl rfl) ?_
  refine AL_p (x_pload (f := storeC) (n := 1) rfl rfl (by kernel_rfl) rfl rfl) ?_
  refine AL_p (x_callR rfl rfl rfl (toStore_c x0 s0 112) rfl AllV.rf rfl rfl rfl rfl rfl) ?_
  refine AL_p (x_callR rfl rfl rfl (eqStore_c (x0)) rfl AllV.rf rfl rfl rfl rfl rfl) ?_
  refine AL_p (x_not rfl rfl) ?_
  refine AL_nild (by kernel_rfl) ?_
  refine AM_condF rfl ?_
  refine AM_skip ?_
  refine AM_seq ?_
  refine AM_seq ?_
  refine AM_draw rfl ?_
  refine AL_p (x_loadN (n := 2) rfl rfl rfl (by kernel_rfl) rfl rfl) ?_
  refine AL_p (x_pload (f := relC) (n := 2) rfl rfl (by kernel_rfl) rfl rfl) ?_
  refine AL_p (x_callR rfl rfl rfl (toRel_c x2 s2 113) rfl AllV.rf rfl rfl rfl rfl rfl) ?_
  refine AL_p (x_callR rfl rfl rfl (eqRel_c (x2)) rfl AllV.rf rfl rfl rfl rfl rfl) ?_
  refine AL_p (x_not rfl rfl) ?_
  refine AL_nild (by kernel_rfl) ?_
  refine AM_condF rfl ?_
  refine AM_skip ?_
  refine AM_seq ?_
  refine AM_region ?_
  refine AL_p (x_assign rfl rfl) ?_
  refine AL_nil ?_
  refine AM_seq ?_
  refine AM_regionM ?_
  refine LM_p (x_loadN (n := 1) rfl rfl rfl (by kernel_rfl) rfl rfl) ?_
  refine LM_p (x_move rfl rfl) ?_
  have n0 : cntDStore (x0) ≤ 1152921504606846976 := cntStore_le t0
  have v0 := markDStore_cnt (x0) (1)
  refine LM_markA (F := storeC) (z := x0) (z' := (markDStore x0 (1)).1) [(1, _), (3, _), (5, _), (8, _), (9, _), (11, _), (12, _), (13, _), (14, _)] [(109, some _), (111, some _), (108, some _), (110, some _)] rfl rfl rfl rfl ⟨_, _, Try.func16, rfl, rfl⟩ (fun w cs bs h hF => markDStore_any cs _ bs _ 0 w h hF (by omega) (by omega)) rfl rfl FitL.rf (wf64 (by omega) (by omega)) ⟨⟨rfl, trivial⟩, ⟨rfl, rfl⟩, ⟨rfl, rfl⟩, ⟨rfl, rfl⟩, ⟨rfl, trivial⟩, ⟨rfl, trivial⟩, ⟨rfl, trivial⟩, ⟨rfl, trivial⟩, ⟨rfl, trivial⟩, trivial⟩ ⟨⟨rfl, ⟨trivial, rfl, trivial⟩⟩, ⟨rfl, ⟨rfl, trivial⟩⟩, ⟨rfl, rfl, rfl⟩, ⟨rfl, rfl, rfl⟩, trivial⟩ ?_
  refine LM_p (x_assign rfl rfl) ?_
  refine LM_nil ?_
  refine AM_seq ?_
  refine AM_regionM ?_
  refine LM_p (x_loadN (n := 2) rfl rfl rfl (by kernel_rfl) rfl rfl) ?_
  refine LM_p (x_move rfl rfl) ?_
  have n1 : cntDRel (x2) ≤ 1152921504606846976 := cntRel_le s2
  have v1 := markDRel_cnt (x2) ((markDStore x0 (1)).2)
  refine LM_markA (F := relC) (z := x2) (z' := (markDRel x2 ((markDStore x0 (1)).2)).1) [(1, _), (3, _), (5, _), (8, _), (9, _), (12, _), (13, _), (14, _)] [(111, some _), (110, some _)] rfl rfl rfl rfl ⟨_, _, Try.func17, rfl, rfl⟩ (fun w cs bs h hF => markDRel_any cs _ bs _ 0 w h hF (by omega) (by omega)) rfl rfl FitL.rf (wf64 (by omega) (by omega)) ⟨⟨rfl, trivial⟩, ⟨rfl, rfl⟩, ⟨rfl, rfl⟩, ⟨rfl, rfl⟩, ⟨rfl, trivial⟩, ⟨rfl, trivial⟩, ⟨rfl, trivial⟩, ⟨rfl, trivial⟩, trivial⟩ ⟨⟨rfl, ⟨rfl, trivial⟩⟩, ⟨rfl, rfl, rfl⟩, trivial⟩ ?_
  refine LM_p (x_assign rfl rfl) ?_
  refine LM_nil ?_
  refine AM_seq ?_
  refine AM_seq ?_
  refine AM_region ?_
  refine AL_p (x_move rfl rfl) ?_
  refine AL_b (x_lss rfl rfl rfl) (fun b78 h78 => ?_)
  refine AL_p (x_move rfl rfl) ?_
  cases b78
  rotate_left
  · exfalso; first | (simp [ba_beq_self] at h78; done) | (simp at h78; omega)
  try simp only [tdy] at h78
  refine AL_g rfl rfl (x_loadN (n := 1) rfl rfl rfl (by kernel_rfl) rfl rfl) ?_
  refine AL_g rfl rfl (x_pload (f := storeC) (n := 1) rfl rfl (by kernel_rfl) rfl rfl) ?_
  refine AL_g rfl rfl (x_callR rfl rfl rfl (eqStore_c ((storePut x0 x1 x2).1)) rfl AllV.rf rfl rfl rfl rfl rfl) ?_
  refine AL_g rfl rfl (x_not rfl rfl) ?_
  refine AL_p (x_pickF rfl rfl rfl) ?_
  refine AL_p (x_move rfl rfl) ?_
  refine AL_g rfl rfl (x_move rfl rfl) ?_
  refine AL_g rfl rfl (x_move rfl rfl) ?_
  refine AL_gb rfl rfl (x_bneq rfl rfl rfl (by kernel_rfl)) (fun b88 h88 => ?_)
  refine AL_p (x_pickF rfl rfl rfl) ?_
  refine AL_nil ?_
  cases b88
  rotate_left
  · exfalso; first | (simp [ba_beq_self] at h88; done) | (simp at h88; omega)
  try simp only [tdy] at h88
  refine AM_condF rfl ?_
  refine AM_skip ?_
  refine AM_seq ?_
  refine AM_region ?_
  refine AL_p (x_assign rfl rfl) ?_
  refine AL_nil ?_
  refine AM_seq ?_
  refine AM_regionM ?_
  refine LM_p (x_loadN (n := 1) rfl rfl rfl (by kernel_rfl) rfl rfl) ?_
  refine LM_p (x_move rfl rfl) ?_
  have n2 : cntDStore ((storePut x0 x1 x2).1) ≤ 1152921504606846976 := storePut_cnt _ _ _
  have v2 := markDStore_cnt ((storePut x0 x1 x2).1) (1)
  refine LM_markAK (F := storeC) (z := (storePut x0 x1 x2).1) (z' := (markDStore (storePut x0 x1 x2).1 (1)).1) 12 111 (fun B' => [(1, .one (.c _)), (3, .one (.epo B' storeE (x0) 0)), (5, .one (.epo B' relE (x2) 0)), (8, .one (.epo B' storeE ((storePut x0 x1 x2).1) 0)), (9, .one (.c _)), (15, .one (.c _))]) rfl rfl rfl rfl rfl rfl rfl rfl ⟨_, _, Try.func16, rfl, rfl⟩ (fun w cs bs h hF => markDStore_any cs _ bs _ 0 w h hF (by omega) (by omega)) rfl rfl FitL.rf (wf64 (by omega) (by omega)) (fun B' => ⟨⟨_, rfl, .c⟩, ⟨_, rfl, .epo⟩, ⟨_, rfl, .epo⟩, ⟨_, rfl, .epo⟩, ⟨_, rfl, .c⟩, ⟨_, rfl, .c⟩, trivial⟩) (fun B' => ?_)
  refine LM_p (x_assign rfl rfl) ?_
  refine LM_nil ?_
  refine AM_seq ?_
  refine AM_region ?_
  refine AL_p (x_assign rfl rfl) ?_
  refine AL_nil ?_
  refine AM_seq ?_
  refine AM_region ?_
  refine AL_p (x_pload (f := storeC) (n := 1) rfl rfl (by kernel_rfl) rfl rfl) ?_
  refine AL_p (x_move rfl rfl) ?_
  refine AL_p (x_callR rfl rfl rfl (heldDStore_c ((storePut x0 x1 x2).1) (1) (by omega) (by omega)) rfl AllV.rf rfl rfl rfl rfl rfl) ?_
  refine AL_p (x_assign rfl rfl) ?_
  refine AL_nil ?_
  refine AM_seq ?_
  refine AM_seq ?_
  refine AM_region ?_
  refine AL_p (x_move rfl rfl) ?_
  refine AL_b (x_lss rfl rfl rfl) (fun b97 h97 => ?_)
  refine AL_nil ?_
  cases b97
  rotate_left
  · exfalso; first | (simp [ba_beq_self] at h97; done) | (simp at h97; omega)
  try simp only [tdy] at h97
  refine AM_condF rfl ?_
  refine AM_skip ?_
  refine AM_seq ?_
  refine AM_seq ?_
  refine AM_region ?_
  refine AL_p (x_move rfl rfl) ?_
  refine AL_p (x_move rfl rfl) ?_
  refine AL_b (x_neq rfl rfl rfl) (fun b100 h100 => ?_)
  refine AL_nil ?_
  cases b100
  rotate_left
  · exfalso; first | (simp [ba_beq_self] at h100; done) | (simp at h100; omega)
  try simp only [tdy] at h100
  refine AM_condF rfl ?_
  refine AM_skip ?_
  refine AM_seq ?_
  refine AM_draw rfl ?_
  refine AL_p (x_pload (f := storeC) (n := 1) rfl rfl (by kernel_rfl) rfl rfl) ?_
  refine AL_p (x_callR rfl rfl rfl (toStore_c x0 s0 114) rfl AllV.rf rfl rfl rfl rfl rfl) ?_
  refine AL_p (x_move rfl rfl) ?_
  refine AL_p (x_pload (f := relC) (n := 2) rfl rfl (by kernel_rfl) rfl rfl) ?_
  refine AL_p (x_callR rfl rfl rfl (toRel_c x2 s2 115) rfl AllV.rf rfl rfl rfl rfl rfl) ?_
  refine AL_p (x_callR rfl rfl rfl (storePutI_c x0 x1 x2 s0 s2 116) rfl AllV.rf rfl rfl rfl rfl rfl) ?_
  refine AL_p (x_move rfl rfl) ?_
  refine AL_p (x_extract rfl rfl rfl) ?_
  refine AL_p (x_extract rfl rfl rfl) ?_
  refine AL_p (x_alloc (z := .agg #[.slice none 0 0]) 117 rfl (by kernel_rfl) rfl rfl rfl rfl) ?_
  refine AL_p (x_store (n := 1) rfl rfl rfl rfl (by kernel_rfl) rfl rfl rfl) ?_
  refine AL_p (x_assign rfl rfl) ?_
  refine AL_nild (by kernel_rfl) ?_
  refine AM_seq ?_
  refine AM_seq ?_
  refine AM_region ?_
  refine AL_p (x_loadN (n := 1) rfl rfl rfl (by kernel_rfl) rfl rfl) ?_
  refine AL_p (x_pload (f := storeC) (n := 1) rfl rfl (by kernel_rfl) rfl rfl) ?_
  refine AL_p (x_callR rfl rfl rfl (eqStore_c ((storePut x0 x1 x2).1)) rfl AllV.rf rfl rfl rfl rfl rfl) ?_
  refine AL_p (x_not rfl rfl) ?_
  refine AL_p (x_move rfl rfl) ?_
  refine AL_g rfl rfl (x_move rfl rfl) ?_
  refine AL_g rfl rfl (x_move rfl rfl) ?_
  refine AL_gb rfl rfl (x_bneq rfl rfl rfl (by kernel_rfl)) (fun b117 h117 => ?_)
  refine AL_p (x_pickF rfl rfl rfl) ?_
  refine AL_nil ?_
  cases b117
  rotate_left
  · exfalso; first | (simp [ba_beq_self] at h117; done) | (simp at h117; omega)
  try simp only [tdy] at h117
  refine AM_condF rfl ?_
  refine AM_skip ?_
  refine AM_seq ?_
  refine AM_region ?_
  refine AL_p (x_assign rfl rfl) ?_
  refine AL_nil ?_
  refine AM_seq ?_
  refine AM_region ?_
  refine AL_p (x_pload (f := storeC) (n := 1) rfl rfl (by kernel_rfl) rfl rfl) ?_
  refine AL_p (x_move rfl rfl) ?_
  refine AL_p (x_callR rfl rfl rfl (heldDStore_c ((storePut x0 x1 x2).1) (1) (by omega) (by omega)) rfl AllV.rf rfl rfl rfl rfl rfl) ?_
  refine AL_p (x_assign rfl rfl) ?_
  refine AL_nil ?_
  refine AM_seq ?_
  refine AM_seq ?_
  refine AM_region ?_
  refine AL_p (x_move rfl rfl) ?_
  refine AL_b (x_lss rfl rfl rfl) (fun b123 h123 => ?_)
  refine AL_nil ?_
  cases b123
  rotate_left
  · exfalso; first | (simp [ba_beq_self] at h123; done) | (simp at h123; omega)
  try simp only [tdy] at h123
  refine AM_condF rfl ?_
  refine AM_skip ?_
  refine AM_seq ?_
  refine AM_seq ?_
  refine AM_region ?_
  refine AL_p (x_move rfl rfl) ?_
  refine AL_p (x_move rfl rfl) ?_
  refine AL_b (x_neq rfl rfl rfl) (fun b126 h126 => ?_)
  refine AL_nil ?_
  cases b126
  rotate_left
  · exfalso; first | (simp [ba_beq_self] at h126; done) | (simp at h126; omega)
  try simp only [tdy] at h126
  refine AM_condF rfl ?_
  refine AM_skip ?_
  refine AM_seq ?_
  refine AM_region ?_
  refine AL_p (x_assign rfl rfl) ?_
  refine AL_nil ?_
  refine AM_ret ?_
  exact rfl
end Go.Proofs.Ytibhoanjglfaoaa
