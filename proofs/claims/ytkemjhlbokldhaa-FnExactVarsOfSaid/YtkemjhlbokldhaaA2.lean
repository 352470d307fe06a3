/- Lemmas of the walks, part 2. -/
import Derived.Test.YtkemjhlbokldhaaA1
import Derived.Test.YtkemjhlbokldhaaRows
import Derived.Deep.RegionWith
import Derived.BigQuiet
import Derived.Deep.RegionHeld3
import Derived.Deep.QuietTactic
import Derived.Deep.Draws
import Derived.Lib.Bytealg
import Derived.Laws.StructEq
/- The abstract walk: append; an empty array; a struct built; nil taken ars an array of one's own. -/
namespace Go.Proofs.Ytkemjhlbokldhaa
open Go.RowKit
set_option linter.unusedVariables false

/-- What is appended: a value, ars cells read in the world. -/
def Src2 (w : World) (v : Value) (m size : Nat) (news : List Value) : Prop :=
  news.length = m * size ∧ ((v = .slice none 0 0 ∧ m = 0) ∨ ∃ a c, v = .slice (some a) m c ∧ ∀ j u, news[j]? = some u → w.cell? (a.add j) = some u)
theorem run_app2 {P : Program} (w : World) (t ty e : TypeId) (i : TypeInfo) (z : Value) (size bytes : Nat) (ht : P.underlying t = some (.slice e)) (hi : P.info? e = some i) (hz : i.zero = some z)
    (hsize : i.size = size) (hby : i.bytes = bytes) (hzs : z.cells.size = size) (hsz : 0 < size)
    (v : Value) (n : Nat) (xs : List Value) (hown : w.ownsRow 0 e size v n xs) (u : Value) (m : Nat) (news : List Value) (hsrc : Src2 w u m size news) (h1 : ∀ u ∈ news, u.oneCell' = true)
    (h63 : n + m ≤ maxLen) (hbytes : (n + m) * bytes ≤ 140737488355328) :
    ∃ v' w', (Builtin.append_ #[t, t] ty #[v, u]).run P w = .ok v' w' ∧ w'.ownsRow 0 e size v' (n + m) (xs ++ news) ∧ w.grownBy w' v.ownBlock ∧
      ∀ b, v'.ownBlock = some b → v.ownBlock = some b ∨ w.heap.size ≤ b := by
  rcases hsrc.2 with ⟨rfl, rfl⟩ | ⟨a, c, rfl, hc⟩
  · have hn : news = [] := List.eq_nil_of_length_eq_zero (by simpa using hsrc.1)
    subst hn
    have : ∃ base n' cap, v = .slice base n' cap ∧ n' ≤ cap := by
      rcases hown.2 with ⟨rfl, _⟩ | ⟨g, cap, cur, rfl, _, _, hnc, _⟩
      · exact ⟨none, 0, 0, rfl, Nat.le_refl _⟩
      · exact ⟨_, _, _, rfl, hnc⟩
    obtain ⟨base, n', cap, rfl, hle⟩ := this
    exact ⟨_, w, run_app_nil w t ty e i ht hi base n' cap hle, by simpa using hown, ⟨rfl, rfl, rfl, Nat.le_refl _, fun _ _ _ => rfl⟩, fun b hb => .inl hb⟩
  · exact run_app w t ty e i z size bytes ht hi hz hsize hby hzs hsz v n xs hown a m c news hsrc.1 hc h1 h63 hbytes
theorem src_of_row {w : World} {T : TypeId} {size n : Nat} {v : Value} {cells : List Value} (h : w.ownsRow 0 T size v n cells) : Src2 w v n size cells := by
  refine ⟨h.1, ?_⟩
  rcases h.2 with h1 | ⟨g, cap, cur, rfl, _⟩
  · exact .inl h1
  · exact .inr ⟨_, cap, rfl, h.cells rfl⟩
theorem src_of_slice {α : Type} {e : Enc α} {f : α → List Cell} [hc : CellsOf e f] {w : World} {a : Option Addr} {n cap : Nat} {xs : List α} {bs : List Nat} (h : SliceRep e w a n cap xs bs) :
    ∃ cells b2, Src2 w (.slice a n cap) xs.length e.size cells ∧ FR w cells (xs.flatMap f) b2 ∧ ∀ b ∈ b2, b ∈ bs := by
  obtain ⟨h1, h2, h3, h4, h5⟩ := h
  rcases h5 with ⟨rfl, rfl⟩ | ⟨g, off, bss, hne, rfl, hg, rfl, hE⟩
  · cases a with
    | none =>
      have := h4 rfl
      subst this
      simp at h1
      subst h1
      exact ⟨[], [], ⟨by simp, .inl ⟨rfl, rfl⟩⟩, rfl, fun _ hb => by cases hb⟩
    | some a =>
      simp at h1
      subst h1
      exact ⟨[], [], ⟨by simp, .inr ⟨a, cap, rfl, fun j u hu => by simp at hu⟩⟩, rfl, fun _ hb => by cases hb⟩
  · obtain ⟨vs, f1, f2, f3⟩ := hE.flat
    subst h1
    exact ⟨vs, bss.flatten, ⟨f2, .inr ⟨_, cap, rfl, fun j u hu => by rw [addr_add]; exact f3 j u hu⟩⟩, f1, fun b hb => List.mem_cons_of_mem _ hb⟩
theorem FR.nofp {α : Type} {e : Enc α} {f : α → List Cell} [hc : CellsOf e f] (he : ∀ w cs y b, e.rep w cs y b → b = []) {w : World} : ∀ {xs : List α} {vs : List Value} {bs : List Nat}, FR w vs (xs.flatMap f) bs → bs = []
  | [], [], bs, h => h
  | [], v :: vs, bs, h => h.elim
  | x :: xs, vs, bs, h => by
    rw [List.flatMap_cons] at h
    obtain ⟨v1, v2, b1, b2, rfl, rfl, h1, h2⟩ := FR.app.1 h
    rw [he _ _ _ _ (hc.iff.2 h1), FR.nofp he h2]; rfl
theorem flatMap_app {α : Type} {f : α → List Cell} {xs ys : List α} : (xs ++ ys).flatMap f = xs.flatMap f ++ ys.flatMap f := List.flatMap_append

section
variable {g : Gh} {l : Locs} {w w' : World}
/-- append ars it is seen from numbers: k grows into k', the numbers js (k among them) are gone. -/
theorem app_lay (m : MemR g l w) {k k' : Nat} (hk' : lk l k' = none) (hki : k' ∉ l.ids) {js : List Nat} (hkj : k ∈ js) (hjs : ∀ j ∈ js, ∃ (α : Type) (T : TypeId) (e : Enc α) (xs : List α) (d : Bool), lkl l j = some (.arr T e xs d))
    {α : Type} {E : TypeId} {e : Enc α} {f : α → List Cell} [hc : CellsOf e f] {xs ys : List α} {d : Bool} {cells news : List Value} {b1 b2 : List Nat} {v' : Value}
    (hF : FR w cells (xs.flatMap f) b1) (hF2 : FR w news (ys.flatMap f) b2) (hI : ∀ b ∈ b1 ++ b2, g.I b) (hob : ∀ b, (g.hd k).ownBlock = some b → b = g.ρ k)
    (hrow : w'.ownsRow 0 E e.size v' (xs.length + ys.length) (cells ++ news)) (hgr : w.grownBy w' (g.hd k).ownBlock) (hblk : ∀ b, v'.ownBlock = some b → (g.hd k).ownBlock = some b ∨ w.heap.size ≤ b)
    (hd : d = true → (b1 ++ b2).Nodup ∧ ∀ b ∈ b1 ++ b2, ∃ j ∈ js, Via g l j b) :
    ∃ g', g'.hd k' = v' ∧ MemR g' ((k', some (.arr E e (xs ++ ys) d)) :: (gones js ++ l)) w' ∧ (∀ K, Step K g l w g' ((k', some (.arr E e (xs ++ ys) d)) :: (gones js ++ l)) w') ∧
      (∀ b, g.I b → w'.heap[b]? = w.heap[b]?) ∧ (∀ b, g.I b → g'.I b) ∧ ∀ j, j ≠ k' → okK g l g' ((k', some (.arr E e (xs ++ ys) d)) :: (gones js ++ l)) j := by
  obtain ⟨α0, T0, e0, xs0, d0, hk0⟩ := hjs k hkj
  have hlive : ∀ b, (g.hd k).ownBlock = some b → g.hd k ≠ .slice none 0 0 := fun b hb e => by rw [e] at hb; cases hb
  have hnI : ∀ b, (g.hd k).ownBlock = some b → ¬ g.I b := fun b hb => by rw [hob b hb]; exact m.notI hk0 (hlive b hb)
  have hkeepI : ∀ b, g.I b → w'.heap[b]? = w.heap[b]? := fun b hb => hgr.block b (m.ilt b hb) fun e => hnI b e.symm hb
  have hFR := (FR.app.2 ⟨cells, news, b1, b2, rfl, rfl, hF, hF2⟩).keep (w' := w') (fun b hb => hkeepI b (hI b hb)) hgr.size
  rw [← flatMap_app] at hFR
  have hIb : ∀ b, v'.ownBlock = some b → ¬ (g.I b ∨ liveA g [] b) := fun b hb h => by
    rcases h with h | ⟨j, hj, _⟩
    · rcases hblk b hb with h1 | h1
      · exact hnI b h1 h
      · have := m.ilt b h; omega
    · cases hj
  obtain ⟨g', q1, q2, q3, q4, q5, q6, q7⟩ := arr_new (w' := w') m hk' hki (js := js) (fz := []) (fun _ h => by cases h) hjs (T := E) (e := e) (xs := xs ++ ys) (d := d) (blk := (v'.ownBlock).getD 0) (v := v') (fp := b1 ++ b2)
    hgr.os hgr.tape hgr.output hgr.size (fun b hb hn => hgr.block b hb fun e => hn k hkj (by simp) (hlive b e.symm) (hob b e.symm))
    (ArrR.lay (by rw [List.length_append]; exact hrow) hFR (fun b hb => .inl (hI b hb)) (fun b hb => ⟨by rw [hb]; rfl, hIb b hb⟩))
    (fun hv => by
      rcases hrow.2 with ⟨h1, _⟩ | ⟨b, cap, cur, h1, _, h3, _⟩
      · exact absurd h1 hv
      · have hb : v'.ownBlock = some b := by rw [h1]; rfl
        rw [hb]
        refine ⟨(Array.getElem?_eq_some_iff.1 h3).1, ?_⟩
        rcases hblk b hb with h | h
        · exact .inr ⟨k, hkj, by simp, hlive b h, hob b h⟩
        · exact .inl h)
    (fun hdd => ⟨(hd hdd).1, fun b hb => ⟨.inl (hI b hb), by
      obtain ⟨j, hj, hv⟩ := (hd hdd).2 b hb
      obtain ⟨c, t, h⟩ := hv.cells m
      exact ⟨c, t, by rw [hkeepI b (hI b hb)]; exact h⟩, (hd hdd).2 b hb⟩⟩)
  exact ⟨g', q2, q3, q4, q5, q6, q7⟩
end

section ops
variable {P : Program} {N : Nat} {s : St} {d : Nat} {ty : TypeId} {pos : String} {after : Array Edge} {gd : Option (Nat × Bool)}
theorem run_appop {P : Program} {N : Nat} {a : Act} {w w' : World} {v' : Value} {x y : Operand} {T : TypeId} (h : (Builtin.append_ #[T, T] ty #[a.eval x, a.eval y]).run P w = .ok v' w') :
    (execOp a.eval ⟨some d, .call { callee := .builtin .append, args := #[x, y], argTypes := #[T, T] }, ty, pos, after, gd⟩).run P w = .ok (.value v') w' := by
  simp only [execOp, resolve, invoke, builtin, Sem.run_bind, Sem.run_pure, Result.andThen_ok, List.map_toArray, List.map_cons, List.map_nil, h]
/-- append of an own array to another. -/
theorem x_append {α : Type} {e : Enc α} {f : α → List Cell} [hc : CellsOf e f] {T E n b : Nat} {x y : Operand} {xs ys : List α} {d1 d2 : Bool} {k j : Nat} (k' : Nat) (hN : Nat.blt d N = true)
    (h : evo s.t x = some (.one (.own k))) (h2 : evo s.t y = some (.one (.own j))) (hl : lkl s.l k = some (.arr E e xs d1)) (hl2 : lkl s.l j = some (.arr E e ys d2)) (hkj : Nat.beq k j = false)
    (hT : arrT P T = some (E, n, b)) (hes : e.size = n) (hk : lk s.l k' = none) (hi : noId k' s.ids = true) (hbnd : xs.length + ys.length ≤ 1000000000) (hb : Nat.ble b 100000 = true) :
    Stp P N ⟨some d, .call { callee := .builtin .append, args := #[x, y], argTypes := #[T, T] }, ty, pos, after, gd⟩ s ⟨(d, .one (.own k')) :: s.t, (k', some (.arr E e (xs ++ ys) (d1 && d2))) :: (gones [k, j] ++ s.l)⟩
      ⟨rdo x (.one (.own k)) ++ rdo y (.one (.own j)), [(k, .arr E e xs d1), (j, .arr E e ys d2)], [(d, .one (.own k'))], (k', some (.arr E e (xs ++ ys) (d1 && d2))) :: gones [k, j], [k']⟩ := by
  refine ⟨fun K g s' a w hp r => ?_, ⟨two_rd h h2, by simp [hl, hl2], fun j hj => by simp at hj; subst hj; exact ⟨hk, noId_of hi⟩⟩, by simp [Cert.upd]⟩
  obtain ⟨p1, p2, p3⟩ := hp
  have e1 : CellR g s'.l w (a.eval x) (.own k) := eval_ok r (evs_of h) fun p hp => p1 p (List.mem_append_left _ hp)
  have e2 : CellR g s'.l w (a.eval y) (.own j) := eval_ok r (evs_of h2) fun p hp => p1 p (List.mem_append_right _ hp)
  have hl' : lkl s'.l k = some (.arr E e xs d1) := p2 (k, .arr E e xs d1) (by simp)
  have hl2' : lkl s'.l j = some (.arr E e ys d2) := p2 (j, .arr E e ys d2) (by simp)
  replace e1 := e1 _ _ _ _ _ hl'
  replace e2 := e2 _ _ _ _ _ hl2'
  obtain ⟨n1, n2⟩ := p3 k' (by simp)
  obtain ⟨hu, hn0, ti, z, hti, hz, hzs, htis, htib⟩ := arrT_spec hT
  obtain ⟨cells, b1, r1, f1, i1, F1, ob1⟩ := (r.mem.arr k _ _ _ _ _ hl').row
  obtain ⟨news, b2, r2, f2, i2, F2, ob2⟩ := (r.mem.arr j _ _ _ _ _ hl2').row
  have hkj' : k ≠ j := fun e => by subst e; simp at hkj
  have hb' := Nat.le_of_ble_eq_true hb
  obtain ⟨v', w', q1, q2, q3, q4⟩ := run_app2 (P := P) w T ty E ti z e.size b hu hti hz (by rw [hes]; exact htis) htib (by rw [hes]; exact hzs) (by rw [hes]; exact hn0) _ _ _ r1 _ _ _ (src_of_row r2) (FR.one f2)
    (by unfold maxLen; omega) (by
      have : (xs.length + ys.length) * b ≤ 1000000000 * 100000 := Nat.mul_le_mul hbnd hb'
      omega)
  have hgone : ∀ i ∈ [k, j], ∃ (α : Type) (T : TypeId) (e : Enc α) (xs : List α) (d : Bool), lkl s'.l i = some (.arr T e xs d) := fun i hi => by
    simp at hi
    rcases hi with rfl | rfl
    · exact ⟨α, E, e, xs, d1, hl'⟩
    · exact ⟨α, E, e, ys, d2, hl2'⟩
  obtain ⟨g', s1, s2, s3, s4, s5, s6⟩ := app_lay (w' := w') r.mem n1 (fun h => n2 (List.mem_append_right _ h)) (js := [k, j]) (List.mem_cons_self ..) hgone (E := E) (e := e) (xs := xs) (ys := ys) (d := d1 && d2) f1 f2
    (fun b hb => (List.mem_append.1 hb).elim (i1 b) (i2 b)) ob1 q2 q3 q4 (fun hd => by
      simp only [Bool.and_eq_true] at hd
      obtain ⟨rfl, rfl⟩ := hd
      have v1 : ∀ b ∈ b1, Via g s'.l k b := fun b hb => ⟨α, E, e, xs, hl', .inr (by rw [F1 rfl]; exact hb)⟩
      have v2 : ∀ b ∈ b2, Via g s'.l j b := fun b hb => ⟨α, E, e, ys, hl2', .inr (by rw [F2 rfl]; exact hb)⟩
      refine ⟨List.nodup_append.2 ⟨by rw [← F1 rfl]; exact (r.mem.fr k _ _ _ _ hl').1, by rw [← F2 rfl]; exact (r.mem.fr j _ _ _ _ hl2').1, fun x hx y hy exy => ?_⟩, fun b hb => ?_⟩
      · subst exy
        exact hkj' ((v1 x hx).disj r.mem (v2 x hy))
      · rcases List.mem_append.1 hb with hb | hb
        · exact ⟨k, by simp, v1 b hb⟩
        · exact ⟨j, by simp, v2 b hb⟩)
  unfold Oper.wp
  rw [run_appop (N := N) (by rw [e1, e2]; exact q1), Oper.upon_value]
  refine ⟨g', r.next (blt_lt hN) s4 s5 q3.size (fun j hj => s6 j fun e => n2 (e ▸ hj)) (fun β U e2 ys dd hc => ?_) s2, s3 K⟩
  exact s1.symm
/-- append of a slice that nobody writes. -/
theorem x_append_sl {α : Type} {e : Enc α} {f : α → List Cell} [hc : CellsOf e f] {T E n b : Nat} {x y : Operand} {xs ys : List α} {d1 : Bool} {k : Nat} (k' : Nat) (d2 : Bool) (hd2 : d2 = false ∨ ∀ w cs y b, e.rep w cs y b → b = []) (hN : Nat.blt d N = true)
    (h : evo s.t x = some (.one (.own k))) (h2 : evo s.t y = some (.one (.sl e ys))) (hl : lkl s.l k = some (.arr E e xs d1))
    (hT : arrT P T = some (E, n, b)) (hes : e.size = n) (hk : lk s.l k' = none) (hi : noId k' s.ids = true) (hbnd : xs.length + ys.length ≤ 1000000000) (hb : Nat.ble b 100000 = true) :
    Stp P N ⟨some d, .call { callee := .builtin .append, args := #[x, y], argTypes := #[T, T] }, ty, pos, after, gd⟩ s ⟨(d, .one (.own k')) :: s.t, (k', some (.arr E e (xs ++ ys) (d1 && d2))) :: (gones [k] ++ s.l)⟩
      ⟨rdo x (.one (.own k)) ++ rdo y (.one (.sl e ys)), [(k, .arr E e xs d1)], [(d, .one (.own k'))], (k', some (.arr E e (xs ++ ys) (d1 && d2))) :: gones [k], [k']⟩ := by
  refine ⟨fun K g s' a w hp r => ?_, ⟨two_rd h h2, by simp [hl], fun j hj => by simp at hj; subst hj; exact ⟨hk, noId_of hi⟩⟩, by simp [Cert.upd]⟩
  obtain ⟨p1, p2, p3⟩ := hp
  have e1 : CellR g s'.l w (a.eval x) (.own k) := eval_ok r (evs_of h) fun p hp => p1 p (List.mem_append_left _ hp)
  obtain ⟨aa, nn, cap, bs, e2, hS, hSI⟩ : CellR g s'.l w (a.eval y) (.sl e ys) := eval_ok r (evs_of h2) fun p hp => p1 p (List.mem_append_right _ hp)
  have hl' : lkl s'.l k = some (.arr E e xs d1) := p2 (k, .arr E e xs d1) (by simp)
  replace e1 := e1 _ _ _ _ _ hl'
  obtain ⟨n1, n2⟩ := p3 k' (by simp)
  obtain ⟨hu, hn0, ti, z, hti, hz, hzs, htis, htib⟩ := arrT_spec hT
  obtain ⟨cells, b1, r1, f1, i1, F1, ob1⟩ := (r.mem.arr k _ _ _ _ _ hl').row
  obtain ⟨news, b2, r2, f2, i2⟩ := src_of_slice hS
  have hb' := Nat.le_of_ble_eq_true hb
  obtain ⟨v', w', q1, q2, q3, q4⟩ := run_app2 (P := P) w T ty E ti z e.size b hu hti hz (by rw [hes]; exact htis) htib (by rw [hes]; exact hzs) (by rw [hes]; exact hn0) _ _ _ r1 _ _ _ r2 (FR.one f2)
    (by unfold maxLen; omega) (by
      have : (xs.length + ys.length) * b ≤ 1000000000 * 100000 := Nat.mul_le_mul hbnd hb'
      omega)
  have hgone : ∀ i ∈ [k], ∃ (α : Type) (T : TypeId) (e : Enc α) (xs : List α) (d : Bool), lkl s'.l i = some (.arr T e xs d) := fun i hi => by
    simp at hi
    subst hi
    exact ⟨α, E, e, xs, d1, hl'⟩
  obtain ⟨g', s1, s2, s3, s4, s5, s6⟩ := app_lay (w' := w') r.mem n1 (fun h => n2 (List.mem_append_right _ h)) (js := [k]) (List.mem_cons_self ..) hgone (E := E) (e := e) (xs := xs) (ys := ys) (d := d1 && d2) f1 f2
    (fun b hb => (List.mem_append.1 hb).elim (i1 b) fun h => hSI b (i2 b h)) ob1 q2 q3 q4 (fun hd => by
      simp only [Bool.and_eq_true] at hd
      obtain ⟨rfl, rfl⟩ := hd
      have hb2 : b2 = [] := FR.nofp (e := e) (hd2.resolve_left (by simp)) f2
      subst hb2
      rw [List.append_nil]
      have v1 : ∀ b ∈ b1, Via g s'.l k b := fun b hb => ⟨α, E, e, xs, hl', .inr (by rw [F1 rfl]; exact hb)⟩
      exact ⟨by rw [← F1 rfl]; exact (r.mem.fr k _ _ _ _ hl').1, fun b hb => ⟨k, by simp, v1 b hb⟩⟩)
  unfold Oper.wp
  rw [run_appop (N := N) (by rw [e1, e2]; exact q1), Oper.upon_value]
  refine ⟨g', r.next (blt_lt hN) s4 s5 q3.size (fun j hj => s6 j fun e => n2 (e ▸ hj)) (fun β U e2 ys dd hc => ?_) s2, s3 K⟩
  exact s1.symm
end ops
end Go.Proofs.Ytkemjhlbokldhaa

/- The abstract walk: a struct built from parts; an empty array; nil taken ars an array of one's own; results that lie in variables. -/
namespace Go.Proofs.Ytkemjhlbokldhaa
open Go.RowKit
set_option linter.unusedVariables false

/-! ### A struct from parts -/
def setCs (cs : List Cell) (off : Nat) (xs : List Cell) : List Cell := cs.take off ++ (xs ++ cs.drop (off + xs.length))
def nthP : List (Nat × Nat) → Nat → Option (Nat × Nat)
  | [], _ => none
  | p :: _, 0 => some p
  | _ :: r, n + 1 => nthP r n
theorem nthP_get : ∀ {l : List (Nat × Nat)} {n : Nat}, nthP l n = l[n]?
  | [], n => by simp [nthP]
  | p :: l, 0 => rfl
  | _ :: r, n + 1 => by simpa [nthP] using nthP_get (l := r)
def bldA (places : List (Nat × Nat)) : List Cell → List Nat → List AVal → Option (List Cell)
  | cs, i :: is, X :: Xs => match nthP places i with
    | some (off, size) => match Nat.beq X.cells.length size, Nat.ble (off + size) cs.length with
      | true, true => bldA places (setCs cs off X.cells) is Xs
      | _, _ => none
    | none => none
  | cs, [], [] => some cs
  | _, _, _ => none
theorem fold_cells (off : Nat) (vs : List Value) (cs : Array Value) (h : off + vs.length ≤ cs.size) : (vs.toArray.zipIdx.foldl (fun cs (x : Value × Nat) => cs.setIfInBounds (off + x.2) x.1) cs).toList = cs.toList.take off ++ (vs ++ cs.toList.drop (off + vs.length)) := by
  obtain ⟨h1, h2⟩ := Great.foldl_set off vs 0 cs
  have e : (vs.toArray.zipIdx.foldl (fun cs (x : Value × Nat) => cs.setIfInBounds (off + x.2) x.1) cs) = ((vs.zipIdx 0).foldl (fun cs (x : Value × Nat) => cs.setIfInBounds (off + x.2) x.1) cs) := by simp
  rw [e]
  refine List.ext_getElem? fun k => ?_
  rw [Array.getElem?_toList, h2 k]
  simp only [Nat.add_zero]
  have hl : (cs.toList.take off).length = off := by simp; omega
  rcases Nat.lt_or_ge k off with hk | hk
  · rw [if_neg (by omega), List.getElem?_append_left (by omega), List.getElem?_take, if_pos hk]; simp
  · rw [List.getElem?_append_right (by omega), hl]
    rcases Nat.lt_or_ge k (off + vs.length) with hk2 | hk2
    · rw [if_pos ⟨hk, hk2, by omega⟩, List.getElem?_append_left (by omega)]
    · rw [if_neg (by omega), List.getElem?_append_right (by omega), List.getElem?_drop, show off + vs.length + (k - off - vs.length) = k by omega]; simp
theorem fill_bld {g : Gh} {l : Locs} {w : World} (m : MemR g l w) {places : List (Nat × Nat)} : ∀ {ps : List (Nat × Value)} {Xs : List AVal} {cells : Array Value} {cs ds : List Cell}, All2 (VR g l w) (ps.map (·.2)) Xs → flats Xs = true →
    (Xs.flatMap AVal.cells).all (solid l) = true → All2 (CellR g l w) cells.toList cs → bldA places cs (ps.map (·.1)) Xs = some ds → ∃ r, Instr.fill (places.toArray[·]?) cells ps = some r ∧ All2 (CellR g l w) r.toList ds
  | [], [], cells, cs, ds, _, _, _, hA, hb => by
    simp only [List.map_nil, bldA, Option.some.injEq] at hb
    subst hb
    exact ⟨cells, rfl, hA⟩
  | (i, v) :: ps, X :: Xs, cells, cs, ds, h, hf, hs, hA, hb => by
    simp only [flats, Bool.and_eq_true] at hf
    rw [List.flatMap_cons, List.all_append, Bool.and_eq_true] at hs
    have hv := vr1_cells hs.1 m h.1 hf.1
    simp only [List.map_cons, bldA] at hb
    split at hb
    · rename_i off size hp
      split at hb
      · rename_i h1 h2
        have h1 := Nat.eq_of_beq_eq_true h1
        have h2 := Nat.le_of_ble_eq_true h2
        have hvl : v.cells.toList.length = size := by rw [hv.len]; exact h1
        have hcl : cells.size = cs.length := by simpa using hA.len
        have hfc := fold_cells off v.cells.toList cells (by omega)
        have hA2 : All2 (CellR g l w) (v.cells.zipIdx.foldl (fun cs (x : Value × Nat) => cs.setIfInBounds (off + x.2) x.1) cells).toList (setCs cs off X.cells) := by
          have e : v.cells.toList.toArray = v.cells := by simp
          rw [e] at hfc
          rw [hfc]
          unfold setCs
          rw [← hv.len]
          exact (hA.take off).app (hv.app (hA.drop _))
        obtain ⟨r, r1, r2⟩ := fill_bld m h.2 hf.2 hs.2 hA2 hb
        refine ⟨r, ?_, r2⟩
        rw [nthP_get] at hp
        unfold Instr.fill
        simp only [List.getElem?_toArray, hp]
        rw [if_neg (by
          have : v.cells.size = size := by simpa using hvl
          simp [this]; omega)]
        simpa only [List.getElem?_toArray] using r1
      · cases hb
    · cases hb
def bldT (P : Program) (T : TypeId) : Option (List Value × List (Nat × Nat)) :=
  match P.info? T, P.underlying T with
  | some it, some (.struct fields) =>
    match it.zero, fields.toList.mapM (fun f => (P.info? f.type).map fun i => (f.offset, i.size)) with
    | some z, some places => some (z.cells.toList, places)
    | _, _ => none
  | _, _ => none
theorem bldT_spec {P : Program} {T : TypeId} {zs : List Value} {places : List (Nat × Nat)} (h : bldT P T = some (zs, places)) (parts : List (Nat × Value)) : P.built T parts = Instr.fill (places.toArray[·]?) zs.toArray parts := by
  unfold bldT at h
  split at h
  · rename_i it fields h1 h2
    split at h
    · rename_i z pl h3 h4
      cases h
      simp only [Program.built, h1, h2, h3, h4]
    · cases h
  · cases h
section ops
variable {P : Program} {N : Nat} {s : St} {d : Nat} {ty : TypeId} {pos : String} {after : Array Edge} {gd : Option (Nat × Bool)}
theorem x_build {T : TypeId} {parts : Array (Nat × Operand)} {zs : List Value} {places : List (Nat × Nat)} {Xs : List AVal} {cs ds : List Cell} (hN : Nat.blt d N = true) (hT : bldT P T = some (zs, places)) (hz : plainL zs = some cs)
    (hev : evl s.t (parts.toList.map (·.2)) = some Xs) (hfl : flats Xs = true) (hsol : (Xs.flatMap AVal.cells).all (solid s.l) = true) (hb : bldA places cs (parts.toList.map (·.1)) Xs = some ds) :
    Stp P N ⟨some d, .build T parts, ty, pos, after, gd⟩ s ⟨(d, .agg ds) :: s.t, s.l⟩ ⟨rdl s.t (parts.toList.map (·.2)), rlC s.l (Xs.flatMap AVal.cells), [(d, .agg ds)], [], []⟩ :=
  Stp.pure rfl hN (evl_ok (N := N) hev).1 rlC_self fun g s' a w p1 p2 r => by
    have hvs := (evl_ok hev).2 r p1
    have hs' : (Xs.flatMap AVal.cells).all (solid s'.l) = true := List.all_eq_true.2 fun x hx => solid_of p2 hx (List.all_eq_true.1 hsol x hx)
    have hps : (parts.toList.map fun x => (x.1, a.eval x.2)).map (·.2) = (parts.toList.map (·.2)).map a.eval := by simp
    have hps1 : (parts.toList.map fun x => (x.1, a.eval x.2)).map (·.1) = parts.toList.map (·.1) := by simp [Function.comp_def]
    obtain ⟨rr, r1, r2⟩ := fill_bld r.mem (ps := parts.toList.map fun x => (x.1, a.eval x.2)) (cells := zs.toArray) (by rw [hps]; exact hvs) hfl hs' (by simpa using plainL_ok hz) (by rw [hps1]; exact hb)
    have hrun := run_build (P := P) w T (parts.map fun (i, x) => (i, a.eval x)) rr (by
      rw [bldT_spec hT, Array.toList_map]
      exact r1)
    refine ⟨.agg rr, by simp only [execOp, Sem.run_bind, hrun, Result.andThen_ok]; rfl, rr.toList, by simp, r2⟩
/-- A new array with no element. -/
theorem x_bslice0 {α : Type} {e : Enc α} {f : α → List Cell} [hc : CellsOf e f] {T E n b : Nat} (k : Nat) (hN : Nat.blt d N = true) (hT : arrT P T = some (E, n, b)) (hk : lk s.l k = none) (hi : noId k s.ids = true) :
    Stp P N ⟨some d, .buildSlice T 0 #[], ty, pos, after, gd⟩ s ⟨(d, .one (.own k)) :: s.t, (k, some (.arr (α := α) E e [] true)) :: s.l⟩ ⟨[], [], [(d, .one (.own k))], [(k, some (.arr (α := α) E e [] true))], [k]⟩ := by
  refine ⟨fun K g s' a w hp r => ?_, ⟨by simp, by simp, fun j hj => by simp at hj; subst hj; exact ⟨hk, noId_of hi⟩⟩, rfl⟩
  obtain ⟨p1, p2, p3⟩ := hp
  obtain ⟨n1, n2⟩ := p3 k (by simp)
  obtain ⟨hu, hn0, ti, z, hti, hz, hzs, htis, htib⟩ := arrT_spec hT
  have hrun : (execOp a.eval ⟨some d, .buildSlice T 0 #[], ty, pos, after, gd⟩).run P w = .ok (.value (.slice (some ⟨w.heap.size, 0, none⟩) 0 0)) (w.alloc (.cells #[] E)) := by
    simp only [execOp, Instr.buildSlice, Sem.run_bind, run_underlying hu, sizeOf, typeInfo, Result.andThen_ok, Sem.run_pure]
    simp [Instr.fill, newRow, hti, show Array.range 0 = #[] from rfl]
  obtain ⟨g', q1, q2, q3, q4, q5, q6, q7⟩ := arr_new (w' := w.alloc (.cells #[] E)) r.mem n1 (fun h => n2 (List.mem_append_right _ h)) (js := []) (fz := []) (fun _ h => h) (fun j hj => by cases hj) (T := E) (e := e) (xs := ([] : List α)) (d := true) (blk := w.heap.size) (v := .slice (some ⟨w.heap.size, 0, none⟩) 0 0) (fp := [])
    rfl rfl rfl (by simp) (fun b hb _ => Below.heap_alloc w _ b hb)
    (ArrR.lay (cells := []) ⟨by simp, .inr ⟨w.heap.size, 0, #[], rfl, Nat.zero_le _, heap_alloc_new w _, Nat.le_refl _, by unfold maxLen; omega, by simp, by simp⟩⟩ (by rfl) (fun b hb => by cases hb) (fun b hb => by
      simp [Value.ownBlock] at hb
      subst hb
      refine ⟨rfl, fun hI => ?_⟩
      rcases hI with hI | ⟨j, hj, _⟩
      · have := r.mem.ilt _ hI; omega
      · cases hj))
    (fun _ => ⟨by simp, .inl (Nat.le_refl _)⟩) (fun _ => ⟨List.nodup_nil, fun b hb => by cases hb⟩)
  unfold Oper.wp
  rw [hrun, Oper.upon_value]
  refine ⟨g', r.next (blt_lt hN) q5 q6 (by simp) (fun j hj => q7 j fun e => n2 (e ▸ hj)) (fun β U e2 ys dd hc => ?_) q3, q4 K⟩
  exact q2.symm
end ops

/-! ### nil ars an array of one's own -/
section adopt
variable {P : Program} {N : Nat} {K : List Nat} {Kn : St → Prop} {Q : Exit → St → Prop} {s : St}
theorem nil_new {g : Gh} {l : Locs} {w : World} (m : MemR g l w) {k : Nat} (hk : lk l k = none) (hki : k ∉ l.ids) (α : Type) (T : TypeId) (e : Enc α) :
    ∃ g', g'.hd k = .slice none 0 0 ∧ MemR g' ((k, some (.arr (α := α) T e [] true)) :: l) w ∧ (∀ K, Step K g l w g' ((k, some (.arr (α := α) T e [] true)) :: l) w) ∧ (∀ b, g.I b → g'.I b) ∧ ∀ j, j ≠ k → okK g l g' ((k, some (.arr (α := α) T e [] true)) :: l) j := by
  obtain ⟨g', q1, q2, q3, q4, q5, q6, q7⟩ := arr_new (w' := w) m hk hki (js := []) (fz := []) (fun _ h => h) (fun j hj => by cases hj) (T := T) (e := e) (xs := ([] : List α)) (d := true) (blk := 0) (v := .slice none 0 0) (fp := [])
    rfl rfl rfl (Nat.le_refl _) (fun b hb _ => rfl) (.inl ⟨rfl, setAt_self, fun _ => setAt_self⟩) (fun h => absurd rfl h) (fun _ => ⟨List.nodup_nil, fun b hb => by cases hb⟩)
  exact ⟨g', q2, q3, q4, q6, q7⟩
/-- .. a slot that holds nil. -/
theorem AW_adoptT {α : Type} {T : TypeId} {e : Enc α} {c : Code} (k t : Nat) (ht : lk s.t t = some (.one (.c (.slice none 0 0)))) (hk : lk s.l k = none) (hi : noId k s.ids = true)
    (h : AW P N K c Kn Q ⟨(t, .one (.own k)) :: s.t, (k, some (.arr (α := α) T e [] true)) :: s.l⟩) : AW P N K c Kn Q s := fun g a w r => by
  have hki := noId_of hi
  obtain ⟨g', q1, q2, q3, q4, q5⟩ := nil_new r.mem hk (fun h => hki (List.mem_append_right _ h)) α T e
  have r1 := r.next0 (g' := g') (l' := (k, some (.arr (α := α) T e [] true)) :: s.l) (w' := w) (fun _ _ => rfl) q4 (Nat.le_refl _) (fun j hj => q5 j fun e => hki (e ▸ hj)) q2
  have hv : VR g s.l w (a.tmps.getD t undef) (.one (.c (.slice none 0 0))) := r.tmp t _ ht
  have r2 : Rep N g' ⟨(t, .one (.own k)) :: s.t, (k, some (.arr (α := α) T e [] true)) :: s.l⟩ a w := ⟨r1.size, r1.defers, fun j x hj => by
    by_cases hjt : t = j
    · subst hjt
      rw [lk_cons_self] at hj; cases hj
      exact fun β U e2 ys dd hh => by rw [q1]; exact hv.1
    · rw [lk_cons_ne hjt] at hj
      exact r1.tmp j x hj, r1.mem⟩
  exact Go.wp_mono (h g' a w r2) fun e a1 w1 h1 => h1.trans r.mem q2 (q3 K)
end adopt

/-! ### Results in variables -/
section results
variable {P : Program} {f : FuncId} {fn : Func} {c : Code} {N : Nat} {args : List AVal} {L L' : Locs}
theorem AC_ofB {res : AVal} {T : Tmps} {Lf : Locs} (hf : P.funcs[f]? = some fn) (hb : fn.body = some c) (hn : (fn.name == "runtime.NumGoroutine") = false) (hN : fn.ntmps = N) (hA : Nat.ble args.length N = true)
    (hren : res.ren (rn []) = res) (hle : LeS (keys L) (rn []) ⟨T, Lf⟩ ⟨[], L'⟩)
    (hr : ∀ (g : Gh) (a : Act) (w : World), Rep N g ⟨T, Lf⟩ a w → ∃ v, (results fn a.tmps).run P w = .ok v w ∧ VR g Lf w v res)
    (h : AW P N (keys L) c (RetS (keys L) T Lf) (RetQ (keys L) T Lf) ⟨args0 args 0, L⟩) : AC P f args L res L' := by
  have h0 := AC_of (L' := Lf) hf hb hn hN hA hr h
  refine ⟨h0.fn, fun g w cargs m ha => (h0.run g w cargs m ha).mono ?_⟩
  rintro e w' ⟨v, g1, rfl, m1, hv, hs⟩
  exact ⟨v, g1.ren (rn []), rfl, m1.unren hle.l hle.inj, VR.unren hle.l (by rw [hren]; exact hv), hs.trans m m1 (Step.unren hle.l hle.k)⟩
theorem run_results_c {ty : TypeId} {r n k : Nat} {cs : List Cell} {T : Tmps} {Lf : Locs} {g : Gh} {a : Act} {w : World} (R : Rep N g ⟨T, Lf⟩ a w) (ht : lk T r = some (.one (.ptr k 0))) (hl : lkl Lf k = some (.box cs)) (hk : kindT P ty = some (some n)) (hn : cs.length = n) :
    ∃ ad v, (asAddr (a.tmps.getD r undef)).run P w = .ok ad w ∧ (loadVar ty ad).run P w = .ok v w ∧ VR1 g Lf w v (.agg cs) := by
  have hp : a.tmps.getD r undef = .pointer (some ⟨g.ρ k, 0, none⟩) := (R.tmp r _ ht : CellR g Lf w _ (.ptr k 0)) cs hl
  obtain ⟨vs, h1, h2, h3⟩ := box_loads R.mem hl (off := 0) (n := n) (xs := cs) (by rw [List.drop_zero, ← hn, List.take_length]) hn
  exact ⟨_, .agg vs.toArray, by rw [hp]; rfl, run_load_agg hk h1 h2, vs, rfl, h3⟩
theorem AC_bodyC {ty : TypeId} {r n k : Nat} {cs : List Cell} {T : Tmps} {Lf : Locs} (hf : P.funcs[f]? = some fn) (hb : fn.body = some c) (hn : (fn.name == "runtime.NumGoroutine") = false) (hN : fn.ntmps = N) (hA : Nat.ble args.length N = true) (hr : fn.results = #[.cell r ty])
    (ht : lk T r = some (.one (.ptr k 0))) (hl : lkl Lf k = some (.box cs)) (hk : kindT P ty = some (some n)) (hcn : cs.length = n) (hren : (AVal.agg cs).ren (rn []) = .agg cs) (hle : LeS (keys L) (rn []) ⟨T, Lf⟩ ⟨[], L'⟩)
    (h : AW P N (keys L) c (RetS (keys L) T Lf) (RetQ (keys L) T Lf) ⟨args0 args 0, L⟩) : AC P f args L (.agg cs) L' :=
  AC_ofB hf hb hn hN hA hren hle (fun g a w R => by
    obtain ⟨ad, v, h1, h2, h3⟩ := run_results_c R ht hl hk hcn
    refine ⟨v, ?_, h3⟩
    simp only [Array.getD_eq_getD_getElem?] at h1
    simp [results, hr, h1, h2]) h
end results
end Go.Proofs.Ytkemjhlbokldhaa

/- More operations of the abstract walk: numbers of other kinds, shifts. -/
namespace Go.Proofs.Ytkemjhlbokldhaa
open Go.RowKit
set_option linter.unusedVariables false
section ops
variable {P : Program} {N : Nat} {s : St} {d : Nat} {ty : TypeId} {pos : String} {after : Array Edge} {gd : Option (Nat × Bool)}

end ops
end Go.Proofs.Ytkemjhlbokldhaa

/- The abstract walk: calls that lend and leave; rules with the element's size found by the kernel. -/
namespace Go.Proofs.Ytkemjhlbokldhaa
open Go.RowKit
set_option linter.unusedVariables false

def arrOk (P : Program) (T E n : Nat) : Bool := match arrT P T with
  | some (E', n', b) => Nat.beq E' E && Nat.beq n' n && Nat.ble b 100000
  | none => false
theorem arrOk_spec {P : Program} {T E n : Nat} (h : arrOk P T E n = true) : ∃ b, arrT P T = some (E, n, b) ∧ Nat.ble b 100000 = true := by
  unfold arrOk at h
  split at h
  · rename_i E' n' b hT
    simp only [Bool.and_eq_true] at h
    obtain ⟨⟨h1, h2⟩, h3⟩ := h
    have h1 := Nat.eq_of_beq_eq_true h1
    have h2 := Nat.eq_of_beq_eq_true h2
    subst h1; subst h2
    exact ⟨b, hT, h3⟩
  · cases h
section ops
variable {P : Program} {N : Nat} {s : St} {d : Nat} {ty : TypeId} {pos : String} {after : Array Edge} {gd : Option (Nat × Bool)}
theorem y_append {α : Type} {e : Enc α} {f : α → List Cell} [hc : CellsOf e f] {T E : Nat} {x y : Operand} {xs ys : List α} {d1 d2 : Bool} {k j : Nat} (k' : Nat) (hN : Nat.blt d N = true)
    (h : evo s.t x = some (.one (.own k))) (h2 : evo s.t y = some (.one (.own j))) (hl : lkl s.l k = some (.arr E e xs d1)) (hl2 : lkl s.l j = some (.arr E e ys d2)) (hkj : Nat.beq k j = false)
    (hk : lk s.l k' = none) (hi : noId k' s.ids = true) (hT : arrOk P T E e.size = true) (hbnd : xs.length + ys.length ≤ 1000000000) :
    Stp P N ⟨some d, .call { callee := .builtin .append, args := #[x, y], argTypes := #[T, T] }, ty, pos, after, gd⟩ s ⟨(d, .one (.own k')) :: s.t, (k', some (.arr E e (xs ++ ys) (d1 && d2))) :: (gones [k, j] ++ s.l)⟩
      ⟨rdo x (.one (.own k)) ++ rdo y (.one (.own j)), [(k, .arr E e xs d1), (j, .arr E e ys d2)], [(d, .one (.own k'))], (k', some (.arr E e (xs ++ ys) (d1 && d2))) :: gones [k, j], [k']⟩ := by
  obtain ⟨b, h3, h4⟩ := arrOk_spec hT
  exact x_append k' hN h h2 hl hl2 hkj h3 rfl hk hi hbnd h4
theorem y_append_sl {α : Type} {e : Enc α} {f : α → List Cell} [hc : CellsOf e f] {T E : Nat} {x y : Operand} {xs ys : List α} {d1 : Bool} {k : Nat} (k' : Nat) (d2 : Bool) (hd2 : d2 = false ∨ ∀ w cs y b, e.rep w cs y b → b = []) (hN : Nat.blt d N = true)
    (h : evo s.t x = some (.one (.own k))) (h2 : evo s.t y = some (.one (.sl e ys))) (hl : lkl s.l k = some (.arr E e xs d1)) (hk : lk s.l k' = none) (hi : noId k' s.ids = true) (hT : arrOk P T E e.size = true) (hbnd : xs.length + ys.length ≤ 1000000000) :
    Stp P N ⟨some d, .call { callee := .builtin .append, args := #[x, y], argTypes := #[T, T] }, ty, pos, after, gd⟩ s ⟨(d, .one (.own k')) :: s.t, (k', some (.arr E e (xs ++ ys) (d1 && d2))) :: (gones [k] ++ s.l)⟩
      ⟨rdo x (.one (.own k)) ++ rdo y (.one (.sl e ys)), [(k, .arr E e xs d1)], [(d, .one (.own k'))], (k', some (.arr E e (xs ++ ys) (d1 && d2))) :: gones [k], [k']⟩ := by
  obtain ⟨b, h3, h4⟩ := arrOk_spec hT
  exact x_append_sl k' d2 hd2 hN h h2 hl h3 rfl hk hi hbnd h4
theorem y_bslice0 {α : Type} {e : Enc α} {f : α → List Cell} [hc : CellsOf e f] {T E : Nat} (k : Nat) (hN : Nat.blt d N = true) (hk : lk s.l k = none) (hi : noId k s.ids = true) (hT : arrOk P T E e.size = true) :
    Stp P N ⟨some d, .buildSlice T 0 #[], ty, pos, after, gd⟩ s ⟨(d, .one (.own k)) :: s.t, (k, some (.arr (α := α) E e [] true)) :: s.l⟩ ⟨[], [], [(d, .one (.own k))], [(k, some (.arr (α := α) E e [] true))], [k]⟩ := by
  obtain ⟨b, h3, h4⟩ := arrOk_spec hT
  exact x_bslice0 (f := f) k hN h3 hk hi
theorem y_bslice {α : Type} {e : Enc α} {f : α → List Cell} [hc : CellsOf e f] {T E len : Nat} (ops : List Operand) {parts : Array (Nat × Operand)} {Xs : List AVal} (xs : List α) {ds : List Cell} {js : List Nat} {dp : Bool} (k : Nat) (hN : Nat.blt d N = true)
    (hparts : parts = ((ops.zipIdx 0).map fun x => (x.2, x.1)).toArray) (hev : evl s.t ops = some Xs) (hfl : flats Xs = true) (hsol : (Xs.flatMap AVal.cells).all (solid s.l) = true)
    (hlen : ops.length = len) (hsz : Xs.all (fun X => Nat.beq X.cells.length e.size) = true)
    (hmv : mvC s.l (Xs.flatMap AVal.cells) = some (ds, js, dp)) (hfit : FitL ds (xs.flatMap f)) (hnd : noDup js = true) (hxs : xs.length = len) (hpos : Nat.blt 0 len = true) (hsmall : Nat.ble (len * e.size) 16777216 = true)
    (hk : lk s.l k = none) (hi : noId k s.ids = true) (hT : arrOk P T E e.size = true) :
    Stp P N ⟨some d, .buildSlice T len parts, ty, pos, after, gd⟩ s ⟨(d, .one (.own k)) :: s.t, (k, some (.arr E e xs dp)) :: (gones js ++ s.l)⟩ ⟨rdl s.t ops, rlC s.l (Xs.flatMap AVal.cells), [(d, .one (.own k))], (k, some (.arr E e xs dp)) :: gones js, [k]⟩ := by
  obtain ⟨b, h3, h4⟩ := arrOk_spec hT
  exact x_bslice ops xs k hN hparts hev hfl hsol h3 hlen hsz rfl hmv hfit hnd hxs hpos hsmall hk hi
/-! calls -/
def newOk (s : St) (ks : List Nat) : Bool := ks.all fun k => (match lk s.l k with | none => true | some _ => false) && noId k s.ids
theorem newOk_of {s : St} {ks : List Nat} (h : newOk s ks = true) : ∀ k ∈ ks, lk s.l k = none ∧ k ∉ s.ids := fun k hk => by
  have h1 := List.all_eq_true.1 h k hk
  simp only [Bool.and_eq_true] at h1
  refine ⟨?_, noId_of h1.2⟩
  have h2 := h1.1
  split at h2
  · assumption
  · cases h2
/-- A call that lends the blocks L and leaves the blocks L'. -/
theorem x_call {fo : Operand} {f : FuncId} {ks : List Nat} {ars : Array Operand} {ats : Array TypeId} {xs ys : List AVal} {L L' : Locs} {res : AVal} (hN : Nat.blt d N = true) (hev : evo s.t fo = some (.one (.clo f ks)))
    (hxs : evl s.t ars.toList = some xs) (hac : AC P f ys L res L') (hfl : flats xs = true) (hle : AllV (xs ++ caps ks) ys) (hks : ∀ k ∈ ks, ∃ cs, (k, some (Blk.box cs)) ∈ L) (hLs : okL L = true) (hsc : closedIn (keys L') L'.ids = true) (hsr : closedIn (keys L') res.ids = true)
    (hsub : sub s.l L) (hnew : newOk s (newOf L L') = true) :
    Stp P N ⟨some d, .call { callee := .value fo, args := ars, argTypes := ats }, ty, pos, after, gd⟩ s ⟨(d, res) :: s.t, L' ++ (goneL L ++ s.l)⟩ ⟨rdo fo (.one (.clo f ks)) ++ rdl s.t ars.toList, rlOf L, [(d, res)], L' ++ goneL L, newOf L L'⟩ :=
  ⟨OpOK.call rfl rfl (blt_lt hN) hev hxs hfl hac hle hks hLs hsc hsr, ⟨fun p hp => by
      rcases List.mem_append.1 hp with hp | hp
      · exact rdo_of hev p hp
      · exact (evl_ok (N := N) hxs).1 p hp, sub_rlOf hsub, newOk_of hnew⟩, by simp [Cert.upd, List.append_assoc]⟩
/-- .. that lends nothing and leaves one array. -/
theorem x_call1 {fo : Operand} {f : FuncId} {ars : Array Operand} {ats : Array TypeId} {xs : List AVal} {k : Nat} {b : Option Blk} {res : AVal} (hN : Nat.blt d N = true) (hev : evo s.t fo = some (.one (.clo f [])))
    (hxs : evl s.t ars.toList = some xs) (hac : AC P f xs [] res [(k, b)]) (hfl : flats xs = true) (hsc : closedIn [k] (Locs.ids [(k, b)]) = true) (hsr : closedIn [k] res.ids = true) (hnew : newOk s [k] = true) :
    Stp P N ⟨some d, .call { callee := .value fo, args := ars, argTypes := ats }, ty, pos, after, gd⟩ s ⟨(d, res) :: s.t, (k, b) :: s.l⟩ ⟨rdo fo (.one (.clo f [])) ++ rdl s.t ars.toList, [], [(d, res)], [(k, b)], [k]⟩ :=
  x_call (L := []) (L' := [(k, b)]) hN hev hxs hac hfl (by rw [show caps [] = [] from rfl, List.append_nil]; exact AllV.rf) (fun k hk => by cases hk) rfl hsc hsr trivial hnew
end ops
theorem BLe.arr {α : Type} {T : TypeId} {e : Enc α} {xs ys : List α} {d : Bool} (h : xs = ys) : BLe (.arr T e xs d) (.arr T e ys d) := by subst h; exact BLe.rf
/-- The array that is left, under another number. -/
theorem AC.at {P : Program} {f : FuncId} {args : List AVal} {res : AVal} {b : Blk} (h : AC P f args [] (res.ren fun _ => 0) [(0, some (b.ren fun _ => 0))]) (k : Nat) : AC P f args [] res [(k, some b)] :=
  ⟨h.fn, fun g w cargs m ha => (h.run g w cargs m ha).mono (by
    rintro e w' ⟨v, g1, rfl, m1, hv, hs⟩
    have hL : LeL (fun _ => 0) [(0, some (b.ren fun _ => 0))] [(k, some b)] := ⟨⟨_, rfl, BLe.rf⟩, trivial⟩
    have hi : injL (fun _ => 0) (keys [(k, some b)]) = true := by simp [injL, keys]
    exact ⟨v, g1.ren fun _ => 0, rfl, m1.unren hL hi, VR.unren hL hv, hs.trans m m1 (Step.unren hL trivial)⟩)⟩
/-- The arrays that are left, under other numbers. -/
theorem AC.renum {P : Program} {f : FuncId} {args : List AVal} {res : AVal} {L0 L : Locs} {r : Nat → Nat} (h : AC P f args [] (res.ren r) L0) (hL : LeL r L0 L) (hi : injL r (keys L) = true) : AC P f args [] res L :=
  ⟨h.fn, fun g w cargs m ha => (h.run g w cargs m ha).mono (by
    rintro e w' ⟨v, g1, rfl, m1, hv, hs⟩
    exact ⟨v, g1.ren r, rfl, m1.unren hL hi, VR.unren hL hv, hs.trans m m1 (Step.unren hL trivial)⟩)⟩
end Go.Proofs.Ytkemjhlbokldhaa

/- The abstract walk: own arrays are read by a callee; own arrays are given up to be read alone. -/
namespace Go.Proofs.Ytkemjhlbokldhaa
open Go.RowKit
set_option linter.unusedVariables false

/-- A part of a slice. -/
theorem SliceRep.part {α : Type} {e : Enc α} {w : World} {a : Option Addr} {n cap : Nat} {xs : List α} {bs : List Nat} (h : SliceRep e w a n cap xs bs) {lo hi : Nat} (h1 : lo ≤ hi) (h2 : hi ≤ xs.length) :
    ∃ bs', SliceRep e w (if cap = lo then a else a.map (·.add (lo * e.size))) (hi - lo) (cap - lo) ((xs.drop lo).take (hi - lo)) bs' ∧ ∀ b ∈ bs', b ∈ bs := by
  obtain ⟨rfl, g1, g2, g3, g4⟩ := h
  by_cases he : lo = hi
  · subst he
    refine ⟨[], ⟨by simp, by omega, by omega, fun hn => ?_, .inl ⟨by simp, rfl⟩⟩, fun b hb => by cases hb⟩
    split at hn
    · omega
    · cases a with
      | none => have := g3 rfl; omega
      | some a => cases hn
  · have hne : xs ≠ [] := by intro e; subst e; simp at h2; omega
    rcases g4 with ⟨rfl, _⟩ | ⟨g, off, bss, _, rfl, hg, rfl, hE⟩
    · exact absurd rfl hne
    · have hc : ¬ cap = lo := by omega
      refine ⟨g :: ((bss.drop lo).take (hi - lo)).flatten, ⟨by simp; omega, by omega, by omega, fun hn => ?_, .inr ⟨g, off + lo * e.size, (bss.drop lo).take (hi - lo), ?_, ?_, hg, rfl, ?_, ?_⟩⟩, fun b hb => ?_⟩
      · rw [if_neg hc] at hn; cases hn
      · intro e0; have := congrArg List.length e0; simp at this; omega
      · rw [if_neg hc]; simp [addr_add]
      · simp [hE.1]
      · intro i x b hx hb
        rw [List.getElem?_take] at hx hb
        split at hx
        · rename_i hi
          rw [if_pos hi] at hb
          rw [List.getElem?_drop] at hx hb
          obtain ⟨cs, q1, q2⟩ := hE.2 (lo + i) x b hx hb
          exact ⟨cs, q1, fun j u hu => by rw [show off + lo * e.size + i * e.size + j = off + (lo + i) * e.size + j by rw [Nat.add_mul]; omega]; exact q2 j u hu⟩
        · cases hx
      · rcases List.mem_cons.1 hb with rfl | hb
        · exact List.mem_cons_self ..
        · obtain ⟨l, hl, hbl⟩ := List.mem_flatten.1 hb
          exact List.mem_cons_of_mem _ (List.mem_flatten.2 ⟨l, List.mem_of_mem_drop (List.mem_of_mem_take hl), hbl⟩)
/-- What a callee may read of a cell. -/
def rdC (l : Locs) : Cell → Option Cell
  | .own k => match lkl l k with | some (.arr _ e xs _) => some (.sl e xs) | _ => none
  | .slo _ e xs => some (.sl e xs)
  | .epo _ e x o => some (.ep e x o)
  | .c v => some (.c v)
  | .sl e xs => some (.sl e xs)
  | .ep e x o => some (.ep e x o)
  | .sn e xs => some (.sl e xs)
  | .osl k lo n => match lkl l k with | some (.arr _ e xs _) => some (.sl e ((xs.drop lo).take n)) | _ => none
  | _ => none
def rdCs (l : Locs) : List Cell → Option (List Cell)
  | [] => some []
  | c :: cs => match rdC l c, rdCs l cs with | some d, some ds => some (d :: ds) | _, _ => none
def rdA (l : Locs) : AVal → Option AVal
  | .one x => match rdC l x with | some y => some (.one y) | none => none
  | .agg xs => match rdCs l xs with | some ys => some (.agg ys) | none => none
  | .tup _ => none
def rdAs (l : Locs) : List AVal → Option (List AVal)
  | [] => some []
  | x :: xs => match rdA l x, rdAs l xs with | some y, some ys => some (y :: ys) | _, _ => none
/-- Cells that speak of no memory that is only read. -/
def cleanC : Cell → Bool
  | .c _ => true
  | .own _ => true
  | .any => true
  | _ => false
def cleanV : AVal → Bool
  | .one x => cleanC x
  | .agg xs => xs.all cleanC
  | .tup xs => xs.all fun | .one x => cleanC x | .agg ys => ys.all cleanC | .tup _ => false
def cleanL : Locs → Bool
  | [] => true
  | (_, some (.arr _ _ _ d)) :: r => d && cleanL r
  | (_, some (.box _)) :: _ => false
  | (_, none) :: r => cleanL r
/-- The arrays that are read. -/
def liveR (g : Gh) (l : Locs) (b : Nat) : Prop := ∃ k blk, lkl l k = some blk ∧ liv g k blk ∧ b = g.ρ k

theorem rdC_ok {g : Gh} {l : Locs} {w : World} (m : MemR g l w) {v : Value} {x y : Cell} (h : CellR g l w v x) (hr : rdC l x = some y) : CellR { g with I := fun b => g.I b ∨ liveR g l b } [] w v y := by
  cases x with
  | c u => cases hr; exact h
  | sl e xs => cases hr; obtain ⟨a, n, cap, bs, h1, h2, h3⟩ := h; exact ⟨a, n, cap, bs, h1, h2, fun b hb => .inl (h3 b hb)⟩
  | own k =>
    simp only [rdC] at hr
    split at hr
    · rename_i T e xs d hk
      cases hr
      obtain ⟨a, n, cap, bs, h1, h2, h3, _⟩ := (m.arr k _ _ _ _ _ hk).slice
      exact ⟨a, n, cap, bs, (h _ _ _ _ _ hk).trans h1, h2, fun b hb => by
        rcases h3 b hb with h4 | ⟨h4, h5⟩
        · exact .inl h4
        · exact .inr ⟨k, _, hk, h4, h5⟩⟩
    · cases hr
  | ep e z off => cases hr; obtain ⟨gb, o, cs, b, h1, h2, h3, h4, h5⟩ := h; exact ⟨gb, o, cs, b, h1, .inl h2, h3, fun c hc => .inl (h4 c hc), h5⟩
  | slo B e xs => cases hr; obtain ⟨a, n, cap, bs, h1, h2, h3⟩ := h; exact ⟨a, n, cap, bs, h1, h2, fun b hb => .inl (h3 b hb).1⟩
  | epo B e z off => cases hr; obtain ⟨gb, o, cs, b, h1, h2, h3, h4, h5⟩ := h; exact ⟨gb, o, cs, b, h1, .inl h2.1, h3, fun c hc => .inl (h4 c hc).1, h5⟩
  | sn e xs => cases hr; obtain ⟨a, n, cap, bs, h1, h2, h3⟩ := h; exact ⟨_, n, cap, bs, h1, h2, fun b hb => .inl (h3 b hb)⟩
  | osl k lo n =>
    simp only [rdC] at hr
    split at hr
    · rename_i T e xs d hk
      cases hr
      obtain ⟨a, m0, cap0, bs, h1, h2, h3, _⟩ := (m.arr k _ _ _ _ _ hk).slice
      have conv : ∀ b, b ∈ bs → g.I b ∨ liveR g l b := fun b hb => by
        rcases h3 b hb with h4 | ⟨h4, h5⟩
        · exact .inl h4
        · exact .inr ⟨k, _, hk, h4, h5⟩
      rcases h _ _ _ _ _ hk with ⟨f1, f2, rfl, rfl⟩ | ⟨len, cap, off, f1, f2, f3, f4, f5⟩
      · exact ⟨none, 0, 0, [], f2, ⟨by simp, Nat.le_refl _, by unfold maxLen; omega, fun _ => rfl, .inl ⟨by simp, rfl⟩⟩, fun b hb => by cases hb⟩
      · rw [f1] at h1; cases h1
        have hlen := h2.1
        have hcm := h2.2.2.1
        obtain ⟨bs', p1, p2⟩ := h2.part (lo := lo) (hi := lo + n) (by omega) (by omega)
        rw [Nat.add_sub_cancel_left] at p1
        by_cases hc : lo < cap0
        · rw [if_neg (by omega)] at p1
          refine ⟨_, _, _, bs', ?_, p1, fun b hb => conv b (p2 b hb)⟩
          rw [f2, f5 hc]; simp [addr_add]
        · have hn : n = 0 := by omega
          subst hn
          exact ⟨_, _, _, [], f2, ⟨by simp, Nat.zero_le _, by omega, (fun h => by cases h), .inl ⟨by simp, rfl⟩⟩, fun b hb => by cases hb⟩
    · cases hr
  | _ => cases hr
theorem rdCs_ok {g : Gh} {l : Locs} {w : World} (m : MemR g l w) : ∀ {vs : List Value} {xs ys : List Cell}, All2 (CellR g l w) vs xs → rdCs l xs = some ys → All2 (CellR { g with I := fun b => g.I b ∨ liveR g l b } [] w) vs ys
  | [], [], ys, _, hr => by cases hr; trivial
  | v :: vs, x :: xs, ys, h, hr => by
    simp only [rdCs] at hr
    split at hr
    · rename_i d ds h1 h2; cases hr; exact ⟨rdC_ok m h.1 h1, rdCs_ok m h.2 h2⟩
    · cases hr
theorem rdA_ok {g : Gh} {l : Locs} {w : World} (m : MemR g l w) {v : Value} {x y : AVal} (h : VR1 g l w v x) (hr : rdA l x = some y) : VR1 { g with I := fun b => g.I b ∨ liveR g l b } [] w v y := by
  cases x with
  | one x =>
    simp only [rdA] at hr
    split at hr
    · rename_i d h1; cases hr; exact rdC_ok m h h1
    · cases hr
  | agg xs =>
    simp only [rdA] at hr
    split at hr
    · rename_i ds h1; cases hr
      obtain ⟨vs, h2, h3⟩ := h
      exact ⟨vs, h2, rdCs_ok m h3 h1⟩
    · cases hr
  | tup xs => cases hr
theorem rdAs_ok {g : Gh} {l : Locs} {w : World} (m : MemR g l w) : ∀ {vs : List Value} {xs ys : List AVal}, All2 (VR1 g l w) vs xs → rdAs l xs = some ys → All2 (VR1 { g with I := fun b => g.I b ∨ liveR g l b } [] w) vs ys
  | [], [], ys, _, hr => by cases hr; trivial
  | v :: vs, x :: xs, ys, h, hr => by
    simp only [rdAs] at hr
    split at hr
    · rename_i d ds h1 h2; cases hr; exact ⟨rdA_ok m h.1 h1, rdAs_ok m h.2 h2⟩
    · cases hr
theorem rdAs_flats {l : Locs} : ∀ {xs ys : List AVal}, rdAs l xs = some ys → flats xs = true
  | [], _, _ => rfl
  | x :: xs, ys, h => by
    simp only [rdAs] at h
    split at h
    · rename_i d ds h1 h2
      simp only [flats, Bool.and_eq_true]
      refine ⟨?_, rdAs_flats h2⟩
      cases x <;> first | rfl | cases h1
    · cases h
/-- The reading depends on the blocks that the cells speak of alone. -/
theorem rdC_of {l l' : Locs} {xs : List Cell} (h : ∀ p ∈ rlC l xs, lkl l' p.1 = some p.2) {x y : Cell} (hx : x ∈ xs) (hr : rdC l x = some y) : rdC l' x = some y := by
  cases x with
  | own k =>
    simp only [rdC] at hr ⊢
    split at hr
    · rename_i T e zs d hk; cases hr; rw [rlC_get h hx (by simp [Cell.ids]) hk]
    · cases hr
  | osl k lo n =>
    simp only [rdC] at hr ⊢
    split at hr
    · rename_i T e zs d hk; cases hr; rw [rlC_get h hx (by simp [Cell.ids]) hk]
    · cases hr
  | _ => first | exact hr | cases hr
theorem rdCs_of {l l' : Locs} {zs : List Cell} (h : ∀ p ∈ rlC l zs, lkl l' p.1 = some p.2) : ∀ {xs ys : List Cell}, (∀ x ∈ xs, x ∈ zs) → rdCs l xs = some ys → rdCs l' xs = some ys
  | [], ys, _, hr => hr
  | x :: xs, ys, hx, hr => by
    simp only [rdCs] at hr ⊢
    split at hr
    · rename_i d ds h1 h2
      cases hr
      rw [rdC_of h (hx x (List.mem_cons_self ..)) h1, rdCs_of h (fun y hy => hx y (List.mem_cons_of_mem _ hy)) h2]
    · cases hr
theorem rdA_of {l l' : Locs} {zs : List Cell} (h : ∀ p ∈ rlC l zs, lkl l' p.1 = some p.2) {x y : AVal} (hx : ∀ c ∈ x.cells, c ∈ zs) (hr : rdA l x = some y) : rdA l' x = some y := by
  cases x with
  | one x =>
    simp only [rdA] at hr ⊢
    split at hr
    · rename_i d h1; rw [rdC_of h (hx x (List.mem_singleton.2 rfl)) h1]; exact hr
    · cases hr
  | agg xs =>
    simp only [rdA] at hr ⊢
    split at hr
    · rename_i ds h1; rw [rdCs_of (xs := xs) h hx h1]; exact hr
    · cases hr
  | tup xs => cases hr
theorem rdAs_of {l l' : Locs} {zs : List Cell} (h : ∀ p ∈ rlC l zs, lkl l' p.1 = some p.2) : ∀ {xs ys : List AVal}, (∀ c ∈ xs.flatMap AVal.cells, c ∈ zs) → rdAs l xs = some ys → rdAs l' xs = some ys
  | [], ys, _, hr => hr
  | x :: xs, ys, hx, hr => by
    simp only [rdAs] at hr ⊢
    split at hr
    · rename_i d ds h1 h2
      cases hr
      rw [rdA_of h (fun c hc => hx c (List.mem_flatMap.2 ⟨x, List.mem_cons_self .., hc⟩)) h1, rdAs_of h (fun c hc => by
        obtain ⟨y, hy, hcy⟩ := List.mem_flatMap.1 hc
        exact hx c (List.mem_flatMap.2 ⟨y, List.mem_cons_of_mem _ hy, hcy⟩)) h2]
    · cases hr

theorem cleanC_re {g : Gh} {I : Nat → Prop} {l : Locs} {w : World} {v : Value} {x : Cell} (hc : cleanC x = true) (h : CellR g l w v x) : CellR { g with I := I } l w v x := by
  cases x <;> first | exact h | cases hc
theorem cleanCs_re {g : Gh} {I : Nat → Prop} {l : Locs} {w : World} : ∀ {vs : List Value} {xs : List Cell}, xs.all cleanC = true → All2 (CellR g l w) vs xs → All2 (CellR { g with I := I } l w) vs xs
  | [], [], _, _ => trivial
  | v :: vs, x :: xs, hc, h => by
    simp only [List.all_cons, Bool.and_eq_true] at hc
    exact ⟨cleanC_re hc.1 h.1, cleanCs_re hc.2 h.2⟩
theorem cleanV1_re {g : Gh} {I : Nat → Prop} {l : Locs} {w : World} {v : Value} {x : AVal} (hc : cleanV x = true) (h : VR1 g l w v x) : VR1 { g with I := I } l w v x := by
  cases x with
  | one x => exact cleanC_re hc h
  | agg xs => obtain ⟨vs, h1, h2⟩ := h; exact ⟨vs, h1, cleanCs_re hc h2⟩
  | tup xs => exact h
theorem cleanV_re {g : Gh} {I : Nat → Prop} {l : Locs} {w : World} {v : Value} {x : AVal} (hc : cleanV x = true) (h : VR g l w v x) : VR { g with I := I } l w v x := by
  cases x with
  | one x => exact cleanC_re hc h
  | agg xs => exact cleanV1_re (x := .agg xs) hc h
  | tup xs =>
    obtain ⟨vs, h1, h2⟩ := h
    refine ⟨vs, h1, ?_⟩
    clear h1
    simp only [cleanV, List.all_eq_true] at hc
    exact h2.mono fun a b hb hr => by
      have := hc b hb
      cases b with
      | one x => exact cleanC_re this hr
      | agg ys => obtain ⟨vs, h3, h4⟩ := hr; exact ⟨vs, h3, cleanCs_re this h4⟩
      | tup _ => exact hr
theorem cleanL_arr : ∀ {L : Locs} {k : Nat} {b : Blk}, cleanL L = true → lkl L k = some b → ∃ (α : Type) (T : TypeId) (e : Enc α) (xs : List α), b = .arr T e xs true
  | [], k, b, _, h => by simp [lkl, lk] at h
  | (j, none) :: r, k, b, hc, h => by
    by_cases e : j = k
    · subst e; rw [lkl_cons_self] at h; cases h
    · rw [lkl_cons_ne e] at h; exact cleanL_arr (L := r) hc h
  | (j, some (.arr T e xs d)) :: r, k, b, hc, h => by
    simp only [cleanL, Bool.and_eq_true] at hc
    by_cases ek : j = k
    · subst ek; rw [lkl_cons_self] at h; cases h; obtain ⟨rfl, _⟩ := hc; exact ⟨_, T, e, xs, rfl⟩
    · rw [lkl_cons_ne ek] at h; exact cleanL_arr (L := r) hc.2 h
  | (j, some (.box cs)) :: r, k, b, hc, h => by cases hc

theorem liveR_lt {g : Gh} {l : Locs} {w : World} (m : MemR g l w) {b : Nat} (h : liveR g l b) : b < w.heap.size ∧ ¬ g.I b := by
  obtain ⟨k, blk, h1, h2, rfl⟩ := h
  exact ⟨m.lt h1 h2, m.notI h1 h2⟩
/-- What a callee that was lent nothing but reading leaves. -/
theorem read_back {g g' : Gh} {l L' : Locs} {w w' : World} (m : MemR g l w) (m' : MemR g' L' w') (hs : Step (keys ([] : Locs)) { g with I := fun b => g.I b ∨ liveR g l b } [] w g' L' w') (hc : cleanL L' = true) :
    MemR { g' with I := fun b => g'.I b ∧ ¬ liveR g l b } L' w' ∧ Step (keys ([] : Locs)) g [] w { g' with I := fun b => g'.I b ∧ ¬ liveR g l b } L' w' := by
  have own : ∀ b, OwnB g' L' b → w.heap.size ≤ b := fun b hb => by
    rcases hs.own b hb with ⟨k, blk, hk, _⟩ | h
    · simp [lkl, lk] at hk
    · exact h
  have nl : ∀ b, w.heap.size ≤ b → ¬ liveR g l b := fun b hb hl => by have := (liveR_lt m hl).1; omega
  refine ⟨⟨fun b hb => m'.ilt b hb.1, fun k cs hk => ?_, fun k α T e xs d hk => ?_, m'.dis, fun k α T e xs hk => ?_, m'.fd⟩, ⟨hs.os, hs.tape, hs.output, hs.size, fun b hb _ => hs.keep b hb fun k blk hk => (by simp [lkl, lk] at hk), fun b hb => ⟨hs.imm b (.inl hb), fun hl => (liveR_lt m hl).2 hb⟩, fun b hb => ?_, fun b hb => .inr (own b ?_), fun k hk => by cases hk⟩⟩
  · obtain ⟨_, _, _, _, h⟩ := cleanL_arr hc hk; cases h
  · obtain ⟨_, _, _, _, h⟩ := cleanL_arr hc hk
    cases h
    rcases m'.arr k α T e xs true hk with h1 | ⟨cap, vs, bss, a1, a2, a3, a4, a5, a6, a7, a8, a9⟩
    · exact .inl h1
    · refine .inr ⟨cap, vs, bss, a1, a2, a3, a4, a5, a6, fun b hb => ⟨a7 b hb, nl b (own b ⟨k, _, hk, .inr ⟨α, T, e, xs, rfl, by rw [a9 rfl]; exact hb⟩⟩)⟩, fun h => a8 h.1, a9⟩
  · obtain ⟨h1, h2⟩ := m'.fr k α T e xs hk
    exact ⟨h1, fun b hb => ⟨⟨(h2 b hb).1, nl b (own b ⟨k, _, hk, .inr ⟨α, T, e, xs, rfl, hb⟩⟩)⟩, (h2 b hb).2⟩⟩
  · rcases hs.imm' b hb.1 with (h | h) | h | h
    · exact .inl h
    · exact absurd h hb.2
    · exact .inr (.inl h)
    · obtain ⟨k, blk, hk, _⟩ := h; simp [lkl, lk] at hk
  · obtain ⟨k, blk, hk, h⟩ := hb
    exact ⟨k, blk, hk, h⟩
section ops
variable {P : Program} {N : Nat} {s : St} {d : Nat} {ty : TypeId} {pos : String} {after : Array Edge} {gd : Option (Nat × Bool)}
/-- A call that reads own arrays and leaves new ones. -/
theorem x_callR {fo : Operand} {f : FuncId} {ars : Array Operand} {ats : Array TypeId} {xs ys zs : List AVal} {L' : Locs} {res : AVal} (hN : Nat.blt d N = true) (hev : evo s.t fo = some (.one (.clo f [])))
    (hxs : evl s.t ars.toList = some xs) (hac : AC P f zs [] res L') (hrd : rdAs s.l xs = some ys) (hle : AllV ys zs) (hcr : cleanV res = true) (hcl : cleanL L' = true) (hsc : closedIn (keys L') L'.ids = true) (hsr : closedIn (keys L') res.ids = true) (hnew : newOk s (keys L') = true) :
    Stp P N ⟨some d, .call { callee := .value fo, args := ars, argTypes := ats }, ty, pos, after, gd⟩ s ⟨(d, res) :: s.t, L' ++ s.l⟩ ⟨rdo fo (.one (.clo f [])) ++ rdl s.t ars.toList, rlC s.l (xs.flatMap AVal.cells), [(d, res)], L', keys L'⟩ := by
  have nwe : newOf [] L' = keys L' := by simp [newOf, keys]
  refine ⟨fun K g s' a w hp R => ?_, ⟨fun p hp => by
      rcases List.mem_append.1 hp with hp | hp
      · exact rdo_of hev p hp
      · exact (evl_ok (N := N) hxs).1 p hp, rlC_self, newOk_of hnew⟩, rfl⟩
  obtain ⟨p1, p2, p3⟩ := hp
  have q1 : ∀ p ∈ rdo fo (.one (.clo f [])), lk s'.t p.1 = some p.2 := fun p hm => p1 p (List.mem_append_left _ hm)
  have q2 : ∀ p ∈ rdl s.t ars.toList, lk s'.t p.1 = some p.2 := fun p hm => p1 p (List.mem_append_right _ hm)
  have hfv : VR g s'.l w (a.eval fo) (.one (.clo f [])) := eval_ok R (evs_of hev) q1
  have hfe : a.eval fo = .func (.func f) #[] #[] := hfv (fun k hk => by cases hk)
  have hargs : All2 (VR1 { g with I := fun b => g.I b ∨ liveR g s'.l b } [] w) ((ars.map a.eval) ++ #[]).toList zs := by
    refine hle.all2 ?_
    rw [Array.append_empty, Array.toList_map]
    exact rdAs_ok R.mem (((evl_ok hxs).2 R q2).vr1 (rdAs_flats hrd)) (rdAs_of p2 (fun c hc => hc) hrd)
  have mc : MemR { g with I := fun b => g.I b ∨ liveR g s'.l b } [] w :=
    ⟨fun b hb => hb.elim (R.mem.ilt b) fun h => (liveR_lt R.mem h).1, fun k cs hk => (by simp [lkl, lk] at hk), fun k α T e xs d hk => (by simp [lkl, lk] at hk), fun j k b b' _ hj => (by simp [lkl, lk] at hj), fun k α T e xs hk => (by simp [lkl, lk] at hk), fun j k α β T U e f xs ys _ hj => (by simp [lkl, lk] at hj)⟩
  unfold Oper.wp
  rw [run_enter rfl hac.fn hfe, Oper.upon_enter]
  refine (hac.run _ w _ mc hargs).mono ?_
  rintro e w' ⟨v, g', rfl, m', hv, hs⟩
  obtain ⟨m2, s2⟩ := read_back R.mem m' hs hcl
  have hnw : ∀ k ∈ newOf [] L', lk s'.l k = none ∧ k ∉ s'.l.ids := fun k hk => by
    rw [nwe] at hk
    exact ⟨(p3 k hk).1, fun h => (p3 k hk).2 (List.mem_append_right _ h)⟩
  obtain ⟨c1, c2, c3, c4, c5⟩ := call_mem (L := []) R.mem trivial m2 s2 hsc rfl hnw K
  have hmm : ∀ b, g.I b → (g.mix { g' with I := fun b => g'.I b ∧ ¬ liveR g s'.l b } (keys L' ++ keys ([] : Locs))).I b := fun b hb => s2.imm b hb
  show ∃ g2, Rep N g2 ⟨[(d, res)] ++ s'.t, L' ++ s'.l⟩ (a.put (some d) v) w' ∧ Step K g s'.l w g2 (L' ++ s'.l) w'
  exact ⟨_, R.next (blt_lt hN) c3 hmm s2.size (fun k hk => c4 k fun h => (p3 k (by rw [← nwe]; exact h)).2 hk) (VR.step (g := { g' with I := fun b => g'.I b ∧ ¬ liveR g s'.l b }) (l := L') (fun _ _ => rfl) (fun b hb => hb) (Nat.le_refl _) (fun k hk => c5 k (closedIn_get hsr hk)) (cleanV_re hcr hv)) c1, c2⟩
end ops
end Go.Proofs.Ytkemjhlbokldhaa

/- Contracts of the functions over bytes and strings: letters, words, variables, keywords. -/
namespace Go.Proofs.Ytkemjhlbokldhaa
open Go.RowKit

def keptB (s : ByteArray) : Bool := s.toList == [115, 116, 97, 116, 101] || s.toList == [101, 118, 101, 110, 116] || s.toList == [118, 105, 101, 119] || s.toList == [110, 111, 116]

theorem keptS_any (s : ByteArray) (w : World) :
    Calls Try.prog 57 #[.string s] w fun e w' => e = .returned (.bool (keptB s)) ∧ w = w' := by
  go_enter Try.func57, Try.ntmps57
  go_wp2
  all_goals
    go_ret
    exact ⟨by simp [keptB, *], rfl⟩
theorem keptI_any (s : ByteArray) (w : World) :
    Calls Try.prog 110 #[.string s] w fun e w' => e = .returned (.bool (keptB s)) ∧ w = w' := by
  go_enter Try.func110, Try.ntmps110
  go_wp2
  all_goals
    go_ret
    exact ⟨by simp [keptB, *], rfl⟩

def letB (c : Int) : Bool := decide (97 ≤ c ∧ c ≤ 122)
def upB (c : Int) : Bool := decide (65 ≤ c ∧ c ≤ 90)
def digB (c : Int) : Bool := decide (48 ≤ c ∧ c ≤ 57)
def classI (c : Int) : Int := if letB c then 1 else if upB c then 2 else if digB c then 3 else 0

theorem isLetter_any (c : Int) (w : World) :
    Calls Try.prog 48 #[.int .u8 c] w fun e w' => e = .returned (.bool (letB c)) ∧ w = w' := by
  go_enter Try.func48, Try.ntmps48
  go_wp2
  all_goals
    go_ret
    exact ⟨by simp [letB, *]; try omega, rfl⟩
theorem isUpper_any (c : Int) (w : World) :
    Calls Try.prog 49 #[.int .u8 c] w fun e w' => e = .returned (.bool (upB c)) ∧ w = w' := by
  go_enter Try.func49, Try.ntmps49
  go_wp2
  all_goals
    go_ret
    exact ⟨by simp [upB, *]; try omega, rfl⟩
theorem isDigit_any (c : Int) (w : World) :
    Calls Try.prog 50 #[.int .u8 c] w fun e w' => e = .returned (.bool (digB c)) ∧ w = w' := by
  go_enter Try.func50, Try.ntmps50
  go_wp2
  all_goals
    go_ret
    exact ⟨by simp [digB, *]; try omega, rfl⟩
theorem class_any (c : Int) (w : World) :
    Calls Try.prog 42 #[.int .u8 c] w fun e w' => e = .returned (.int .i64 (classI c)) ∧ w = w' := by
  go_enter Try.func42, Try.ntmps42
  go_wp2
  all_goals
    go_ret
    refine ⟨ret_int ?_, rfl⟩
    simp only [classI, letB, upB, digB, decide_eq_true_eq]
    (repeat' split) <;> omega

def alnumB (c : Int) : Bool := letB c || upB c || digB c
def wordC (c : Int) : Bool := letB c || digB c
/-- Each of the first k bytes meets p. -/
def allTo (p : Int → Bool) (s : ByteArray) (k : Nat) : Prop := ∀ i (h : i < s.size), i < k → p s[i].toNat = true
theorem allTo_succ {p : Int → Bool} {s : ByteArray} {k : Nat} (h : allTo p s k) (hk : k < s.size) (hp : p s[k].toNat = true) : allTo p s (k + 1) := by
  intro i hi hik
  rcases Nat.lt_or_ge i k with h1 | h1
  · exact h i hi h1
  · obtain rfl : i = k := by omega
    exact hp
def allB (p : Int → Bool) (s : ByteArray) : Bool := s.data.toList.all fun c => p c.toNat
theorem getElem_data (s : ByteArray) (i : Nat) (h : i < s.size) : s.data.toList[i]'(by simpa using h) = s[i] := by
  simp [ByteArray.getElem_eq_getElem_data]
theorem allB_true {p : Int → Bool} {s : ByteArray} (h : allTo p s s.size) : allB p s = true := by
  unfold allB
  rw [List.all_eq_true]
  intro c hc
  obtain ⟨i, hi, rfl⟩ := List.getElem_of_mem hc
  have hi' : i < s.size := by simpa using hi
  rw [getElem_data s i hi']
  exact h i hi' hi'
theorem allB_false {p : Int → Bool} {s : ByteArray} {k : Nat} (hk : k < s.size) (h : p s[k].toNat = false) : allB p s = false := by
  unfold allB
  rw [List.all_eq_false]
  refine ⟨s[k], ?_, by simp [h]⟩
  rw [← getElem_data s k hk]
  exact List.getElem_mem _
def headB (p : Int → Bool) (s : ByteArray) : Bool := match s.data.toList with | [] => false | c :: _ => p c.toNat
theorem headB_eq {p : Int → Bool} {s : ByteArray} (h : 0 < s.size) : headB p s = p s[0].toNat := by
  have h1 := getElem_data s 0 h
  unfold headB
  cases hl : s.data.toList with
  | nil => have : s.data.toList.length = s.size := by simp
           rw [hl] at this; simp at this; omega
  | cons c l => simp [hl] at h1; simp [h1]
def shortB (s : ByteArray) : Bool := decide (1 ≤ s.size) && decide (s.size ≤ 12)
def varB (s : ByteArray) : Bool := allB alnumB s && shortB s && headB upB s
def wordB (s : ByteArray) : Bool := allB wordC s && shortB s && headB letB s

set_option maxHeartbeats 400000 in
theorem varOkI_any (s : ByteArray) (w : World) (hs : s.size ≤ maxLen) :
    Calls Try.prog 153 #[.string s] w fun e w' => e = .returned (.bool (varB s)) ∧ w = w' := by
  unfold maxLen at hs
  go_enter Try.func153, Try.ntmps153
  go_wp2
  go_loop [2, 6] (fun r i => ∃ k : Nat, k ≤ s.size ∧ i = .int .i64 k ∧ allTo alnumB s k) (fun _ i => s.size - (intOf i).toNat)
  case atStart => exact ⟨0, Nat.zero_le _, rfl, fun i _ h => by omega⟩
  case round =>
    obtain ⟨k, hk, rfl, ha⟩ := hrel
    have HA := Lib.hid ha
    clear ha
    by_cases hlt : k < s.size
    · go_wp2_with (first | (go_at_call 48; refine (isLetter_any _ _).mono ?_; rintro e w' ⟨rfl, rfl⟩) | (go_at_call 49; refine (isUpper_any _ _).mono ?_; rintro e w' ⟨rfl, rfl⟩) | (go_at_call 50; refine (isDigit_any _ _).mono ?_; rintro e w' ⟨rfl, rfl⟩))
      all_goals first
        | (go_round
           case rel => exact ⟨k + 1, by omega, by go_num, allTo_succ HA.out hlt (by simp_all [alnumB])⟩
           case measure => simp [intOf]; omega)
        | (go_ret
           exact ⟨ret_bool (by simp [varB, allB_false (p := alnumB) hlt (by simp_all [alnumB])]), rfl⟩)
    · obtain rfl : k = s.size := by omega
      have H1 := Lib.hid (allB_true HA.out)
      go_wp2_with (first | (go_at_call 49; refine (isUpper_any _ _).mono ?_; rintro e w' ⟨rfl, rfl⟩))
      all_goals
        go_ret
        refine ⟨ret_bool ?_, rfl⟩
        have h1 := H1.out
        first
          | (have h2 : 0 < s.size := by omega
             simp only [varB, h1, shortB, headB_eq h2]
             simp; omega)
          | (simp [varB, shortB]; omega)

set_option maxHeartbeats 400000 in
theorem wordOkI_any (s : ByteArray) (w : World) (hs : s.size ≤ maxLen) :
    Calls Try.prog 103 #[.string s] w fun e w' => e = .returned (.bool (wordB s)) ∧ w = w' := by
  unfold maxLen at hs
  go_enter Try.func103, Try.ntmps103
  go_wp2
  go_loop [2, 6] (fun r i => ∃ k : Nat, k ≤ s.size ∧ i = .int .i64 k ∧ allTo wordC s k) (fun _ i => s.size - (intOf i).toNat)
  case atStart => exact ⟨0, Nat.zero_le _, rfl, fun i _ h => by omega⟩
  case round =>
    obtain ⟨k, hk, rfl, ha⟩ := hrel
    have HA := Lib.hid ha
    clear ha
    by_cases hlt : k < s.size
    · go_wp2_with (first | (go_at_call 48; refine (isLetter_any _ _).mono ?_; rintro e w' ⟨rfl, rfl⟩) | (go_at_call 50; refine (isDigit_any _ _).mono ?_; rintro e w' ⟨rfl, rfl⟩))
      all_goals first
        | (go_round
           case rel => exact ⟨k + 1, by omega, by go_num, allTo_succ HA.out hlt (by simp_all [wordC])⟩
           case measure => simp [intOf]; omega)
        | (go_ret
           exact ⟨ret_bool (by simp [wordB, allB_false (p := wordC) hlt (by simp_all [wordC])]), rfl⟩)
    · obtain rfl : k = s.size := by omega
      have H1 := Lib.hid (allB_true HA.out)
      go_wp2_with (first | (go_at_call 48; refine (isLetter_any _ _).mono ?_; rintro e w' ⟨rfl, rfl⟩))
      all_goals
        go_ret
        refine ⟨ret_bool ?_, rfl⟩
        have h1 := H1.out
        first
          | (have h2 : 0 < s.size := by omega
             simp only [wordB, h1, shortB, headB_eq h2]
             simp; omega)
          | (simp [wordB, shortB]; omega)

theorem class_zero (c : Int) : (classI c == 0) = !alnumB c := by
  simp only [classI, alnumB]
  cases letB c <;> cases upB c <;> cases digB c <;> rfl
theorem class_two (c : Int) : (classI c != 2) = !(upB c && !letB c) := by
  simp only [classI]
  cases letB c <;> cases upB c <;> cases digB c <;> rfl
theorem up_let {c : Int} (h : upB c = true) : letB c = false := by
  simp only [upB, letB, decide_eq_true_eq, decide_eq_false_iff_not] at *; omega

set_option maxHeartbeats 400000 in
theorem varOkS_any (s : ByteArray) (w : World) (hs : s.size ≤ maxLen) :
    Calls Try.prog 46 #[.string s] w fun e w' => e = .returned (.bool (varB s)) ∧ w = w' := by
  unfold maxLen at hs
  by_cases hsh : 1 ≤ s.size ∧ s.size ≤ 12 ∧ headB upB s = true
  · obtain ⟨h1, h2, h3⟩ := hsh
    rw [headB_eq (by omega)] at h3
    have hq : (classI ↑s[0].toNat != 2) = false := by rw [class_two, h3, up_let h3]; rfl
    have H3 := Lib.hid h3
    clear h3
    go_enter Try.func46, Try.ntmps46
    go_wp2_with (first | (go_at_call 42; refine (class_any _ _).mono ?_; rintro e w' ⟨rfl, rfl⟩))
    go_loop [2, 3] (fun r i => ∃ k : Nat, k ≤ s.size ∧ i = .int .i64 k ∧ allTo alnumB s k) (fun _ i => s.size - (intOf i).toNat)
    case atStart => exact ⟨0, Nat.zero_le _, rfl, fun i _ h => by omega⟩
    case round =>
      obtain ⟨k, hk, rfl, ha⟩ := hrel
      have HA := Lib.hid ha
      clear ha
      by_cases hlt : k < s.size
      · have hz := class_zero ↑s[k].toNat
        cases hb : alnumB ↑s[k].toNat
        · rw [hb] at hz
          have HB := Lib.hid hb
          clear hb
          go_wp2_with (first | (go_at_call 42; refine (class_any _ _).mono ?_; rintro e w' ⟨rfl, rfl⟩))
          go_ret
          exact ⟨ret_bool (by simp [varB, allB_false (p := alnumB) hlt HB.out]), rfl⟩
        · rw [hb] at hz
          have HB := Lib.hid hb
          clear hb
          go_wp2_with (first | (go_at_call 42; refine (class_any _ _).mono ?_; rintro e w' ⟨rfl, rfl⟩))
          go_round
          case rel => exact ⟨k + 1, by omega, by go_num, allTo_succ HA.out hlt HB.out⟩
          case measure => simp [intOf]; omega
      · obtain rfl : k = s.size := by omega
        have H1 := Lib.hid (allB_true HA.out)
        go_wp2
        go_ret
        refine ⟨ret_bool ?_, rfl⟩
        have h3 := H3.out
        rw [← headB_eq (p := upB) (by omega : 0 < s.size)] at h3
        simp [varB, shortB, H1.out, h3]; omega
  · by_cases h1 : 1 ≤ s.size ∧ s.size ≤ 12
    · have h3 : headB upB s = false := by
        cases h : headB upB s
        · rfl
        · exact absurd ⟨h1.1, h1.2, h⟩ hsh
      obtain ⟨h1, h2⟩ := h1
      have hv : varB s = false := by simp [varB, h3]
      rw [headB_eq (by omega)] at h3
      have hq : (classI ↑s[0].toNat != 2) = true := by rw [class_two, h3]; rfl
      have HV := Lib.hid hv
      clear h3 hsh hv
      go_enter Try.func46, Try.ntmps46
      go_wp2_with (first | (go_at_call 42; refine (class_any _ _).mono ?_; rintro e w' ⟨rfl, rfl⟩))
      go_ret
      exact ⟨ret_bool HV.out.symm, rfl⟩
    · have hv : varB s = false := by simp [varB, shortB]; omega
      have HV := Lib.hid hv
      clear hsh hv
      rcases Nat.lt_or_ge s.size 1 with h2 | h2
      · go_enter Try.func46, Try.ntmps46
        go_wp2
        go_ret
        exact ⟨ret_bool HV.out.symm, rfl⟩
      · have h4 : 12 < s.size := by omega
        go_enter Try.func46, Try.ntmps46
        go_wp2
        go_ret
        exact ⟨ret_bool HV.out.symm, rfl⟩

theorem five (c : Int) : c < 48 ∨ (48 ≤ c ∧ c ≤ 57) ∨ (57 < c ∧ c < 97) ∨ (97 ≤ c ∧ c ≤ 122) ∨ 122 < c := by omega
set_option maxHeartbeats 400000 in
theorem wordOkS_any (s : ByteArray) (w : World) (hs : s.size ≤ maxLen) :
    Calls Try.prog 45 #[.string s] w fun e w' => e = .returned (.bool (wordB s)) ∧ w = w' := by
  unfold maxLen at hs
  by_cases h1 : 1 ≤ s.size ∧ s.size ≤ 12
  · obtain ⟨h1, h2⟩ := h1
    go_enter Try.func45, Try.ntmps45
    go_wp2
    go_loop [2, 3, 4, 5] (fun r i l d => ∃ k : Nat, k ≤ s.size ∧ i = .int .i64 k ∧ allTo wordC s k ∧ (k ≠ 0 → headB letB s = true)) (fun _ i _ _ => s.size - (intOf i).toNat)
    case atStart => exact ⟨0, Nat.zero_le _, rfl, (fun i _ h => by omega), fun h => absurd rfl h⟩
    case round =>
      obtain ⟨k, hk, rfl, ha, hd⟩ := hrel
      have HA := Lib.hid ha
      have HD := Lib.hid hd
      clear ha hd
      by_cases hlt : k < s.size
      · by_cases hz : k = 0
        · subst hz
          rcases five ↑s[0].toNat with h5 | ⟨h5, h6⟩ | ⟨h5, h6⟩ | ⟨h5, h6⟩ | h5
          all_goals
            go_wp2
          all_goals first
            | (exfalso; simp only [Bool.not_eq_false', decide_eq_true_eq] at *; omega)
            | (go_round
               case rel => exact ⟨1, by omega, by rfl, allTo_succ HA.out hlt (by simp [wordC, letB, digB]; omega), fun _ => by rw [headB_eq hlt]; simp [letB]; omega⟩
               case measure => simp [intOf]; omega)
            | (go_ret
               exact ⟨ret_bool (by simp [wordB, headB_eq hlt, letB]; omega), rfl⟩)
        · rcases five ↑s[k].toNat with h5 | ⟨h5, h6⟩ | ⟨h5, h6⟩ | ⟨h5, h6⟩ | h5
          all_goals
            go_wp2
          all_goals first
            | (exfalso; simp only [Bool.not_eq_false', decide_eq_true_eq] at *; omega)
            | (go_round
               case rel => exact ⟨k + 1, by omega, by go_num, allTo_succ HA.out hlt (by simp [wordC, letB, digB]; omega), fun _ => HD.out hz⟩
               case measure => simp [intOf]; omega)
            | (go_ret
               exact ⟨ret_bool (by simp [wordB, allB_false (p := wordC) hlt (by simp [wordC, letB, digB]; omega)]), rfl⟩)
      · obtain rfl : k = s.size := by omega
        have H1 := Lib.hid (allB_true HA.out)
        go_wp2
        go_ret
        refine ⟨ret_bool ?_, rfl⟩
        have h3 := HD.out (by omega)
        simp [wordB, shortB, H1.out, h3]; omega
  · have hv : wordB s = false := by simp [wordB, shortB]; omega
    have HV := Lib.hid hv
    clear hv
    rcases Nat.lt_or_ge s.size 1 with h2 | h2
    · go_enter Try.func45, Try.ntmps45
      go_wp2
      go_ret
      exact ⟨ret_bool HV.out.symm, rfl⟩
    · have h4 : 12 < s.size := by omega
      go_enter Try.func45, Try.ntmps45
      go_wp2
      go_ret
      exact ⟨ret_bool HV.out.symm, rfl⟩
end Go.Proofs.Ytkemjhlbokldhaa

/- Plain facts on decimal texts: no program in sight. -/
namespace Go.Proofs.Ytkemjhlbokldhaa
open Go.RowKit
set_option linter.unusedVariables false

def bytes (l : List UInt8) : ByteArray := ⟨l.toArray⟩
@[simp] theorem bytes_toList (l : List UInt8) : (bytes l).data.toList = l := rfl
theorem utf8_dig {d : Int} (h0 : 0 ≤ d) (h1 : d < 10) : Utf8.encode (48 + d) = bytes [UInt8.ofNat (48 + d.toNat)] := by
  have : d = 0 ∨ d = 1 ∨ d = 2 ∨ d = 3 ∨ d = 4 ∨ d = 5 ∨ d = 6 ∨ d = 7 ∨ d = 8 ∨ d = 9 := by omega
  rcases this with rfl | rfl | rfl | rfl | rfl | rfl | rfl | rfl | rfl | rfl <;> decide +kernel

def isDig (c : UInt8) : Bool := decide (48 ≤ c.toNat) && decide (c.toNat ≤ 57)
def digVal (l : List UInt8) : Nat := l.foldl (fun n c => 10 * n + (c.toNat - 48)) 0
theorem digVal_snoc (l : List UInt8) (c : UInt8) : digVal (l ++ [c]) = 10 * digVal l + (c.toNat - 48) := by simp [digVal]
theorem digVal_lt : ∀ (n : Nat) (l : List UInt8), l.length = n → l.all isDig = true → digVal l < 10 ^ n := by
  intro n
  induction n with
  | zero => intro l h _; have := List.eq_nil_of_length_eq_zero h; subst this; simp [digVal]
  | succ n ih =>
    intro l h hd
    have hne : l ≠ [] := by intro e; subst e; simp at h
    have hl := (List.dropLast_concat_getLast hne)
    rw [← hl] at hd ⊢
    rw [digVal_snoc]
    rw [List.all_append, Bool.and_eq_true] at hd
    have h1 := ih l.dropLast (by simp [h]) hd.1
    have h2 : isDig (l.getLast hne) = true := by simpa using hd.2
    simp only [isDig, Bool.and_eq_true, decide_eq_true_eq] at h2
    rw [Nat.pow_succ]
    omega
theorem toNat_dig {d : Nat} (h : d < 10) : (UInt8.ofNat (48 + d)).toNat = 48 + d := by simp; omega
end Go.Proofs.Ytkemjhlbokldhaa

/- Contracts of the functions over numbers and values. -/
namespace Go.Proofs.Ytkemjhlbokldhaa
open Go.RowKit
set_option linter.unusedVariables false

def numB (n : Int) : Bool := decide (0 ≤ n ∧ n ≤ 281474976710655)
theorem isNumber_any (n : Int) (w : World) :
    Calls Try.prog 121 #[.int .i64 n] w fun e w' => e = .returned (.bool (numB n)) ∧ w = w' := by
  go_enter Try.func121, Try.ntmps121
  go_wp2
  all_goals
    go_ret
    exact ⟨ret_bool (by simp [numB, *]; try omega), rfl⟩
theorem l01Num_any (n : Int) (w : World) :
    Calls Try.prog 99 #[.int .i64 n] w fun e w' => e = .returned (.bool (numB n)) ∧ w = w' := by
  go_enter Try.func99, Try.ntmps99
  go_wp2
  all_goals
    go_ret
    exact ⟨ret_bool (by simp [numB, *]; try omega), rfl⟩


theorem conv_one {d : Int} (h0 : 0 ≤ d) (h1 : d < 10) (D : ByteArray) (hD : D = Utf8.encode (48 + d)) (W : World) (g : Nat) (hc : W.cell? ⟨g, 0, none⟩ = some (.int .u8 (48 + d))) :
    Sem.run Try.prog (convert 57 9 (.slice (some ⟨g, 0, none⟩) 1 1)) W = .ok (.string D) W := by
  have h := run_convert_bytes_back (P := Try.prog) W 57 9 5 ⟨g, 0, none⟩ 1 [UInt8.ofNat (48 + d.toNat)] Try.underlying57 Try.underlying5 Try.underlying9 (by
    intro j hj
    have : j = 0 := by simpa using hj
    subst this
    have e : (⟨g, 0, none⟩ : Addr).add 0 = ⟨g, 0, none⟩ := rfl
    rw [e, hc]
    simp only [List.getElem_cons_zero]
    rw [toNat_dig (by omega)]
    congr 2; omega)
  rw [hD, utf8_dig h0 h1]
  exact h

/-- The first k bytes are digits, and v is their number. -/
def Dig (s : ByteArray) (k v : Nat) : Prop := v = digVal (s.data.toList.take k) ∧ (s.data.toList.take k).all isDig = true
theorem take_succ (s : ByteArray) (k : Nat) (hk : k < s.size) : s.data.toList.take (k + 1) = s.data.toList.take k ++ [s[k]] := by
  rw [List.take_succ_eq_append_getElem (by simpa using hk), getElem_data s k hk]
theorem isDig_eq (c : UInt8) : isDig c = digB c.toNat := by
  simp only [isDig, digB, Bool.and_eq_decide]
  congr 1
  simp only [decide_eq_true_eq, eq_iff_iff]; omega
theorem Dig.succ {s : ByteArray} {k v : Nat} (h : Dig s k v) (hk : k < s.size) (hd : digB s[k].toNat = true) : Dig s (k + 1) (10 * v + (s[k].toNat - 48)) := by
  unfold Dig
  rw [take_succ s k hk, digVal_snoc, List.all_append, h.2, ← h.1]
  exact ⟨rfl, by simp [isDig_eq, hd]⟩
theorem Dig.lt {s : ByteArray} {k v : Nat} (h : Dig s k v) (hk : k ≤ 15) : v < 1000000000000000 := by
  have h1 := digVal_lt _ _ rfl h.2
  rw [← h.1] at h1
  have h2 : (s.data.toList.take k).length ≤ 15 := by rw [List.length_take]; omega
  have h3 : 10 ^ (s.data.toList.take k).length ≤ 10 ^ 15 := Nat.pow_le_pow_right (by omega) h2
  omega
end Go.Proofs.Ytkemjhlbokldhaa

/- Contracts of the functions over values: ValueOk, ValueLess, ValueText, TextValue, and the laws' szValue, toValue, eqValue. -/
namespace Go.Proofs.Ytkemjhlbokldhaa
open Go.RowKit
set_option linter.unusedVariables false

structure Val where
  n : Int
  s : ByteArray
def valE : Enc Val := isoE (pairE (intE .i64) (pairE strE unitE)) (fun v => (v.n, v.s, ()))
theorem valE_rep {w : World} {cs : List Value} {v : Val} {bs : List Nat} : valE.rep w cs v bs ↔ cs = [.int .i64 v.n, .string v.s] ∧ (Lit.int .i64 v.n).wf = true ∧ v.s.size ≤ maxLen ∧ bs = [] := by
  constructor
  · rintro ⟨c1, c2, b1, b2, rfl, rfl, ⟨rfl, h2, rfl⟩, c3, c4, b3, b4, rfl, rfl, ⟨rfl, h3, rfl⟩, rfl, rfl⟩
    exact ⟨rfl, h2, h3, rfl⟩
  · rintro ⟨rfl, h2, h3, rfl⟩
    exact ⟨[_], [_], [], [], rfl, rfl, ⟨rfl, h2, rfl⟩, [_], [], [], [], rfl, rfl, ⟨rfl, h3, rfl⟩, rfl, rfl⟩
theorem opens_lValue : Opens Try.prog valE 123 :=
  opens_iso (fun x => ⟨x.1, x.2.1⟩) (fun _ => rfl) (opens_struct Try.underlying123 (by kernel_rfl) (opensF_cons rfl (by kernel_rfl) (opens_int Try.underlying3) (opensF_cons rfl (by kernel_rfl) (opens_string Try.underlying9) opensF_nil)))

def valOk (v : Val) : Bool := if v.s.toList.isEmpty then numB v.n else v.n == 0 && wordB v.s
theorem valOk_num {v : Val} (h : v.s.toList.isEmpty = true) : valOk v = numB v.n := by rw [valOk, if_pos h]
theorem valOk_word {v : Val} (h : v.s.toList.isEmpty = false) : valOk v = (v.n == 0 && wordB v.s) := by rw [valOk, if_neg (by simp [h])]

set_option maxHeartbeats 400000 in
theorem valueOkI_any (n : Int) (s : ByteArray) (w : World) (hs : s.size ≤ maxLen) :
    Calls Try.prog 154 #[.agg #[.int .i64 n, .string s]] w fun e w' => e = .returned (.bool (valOk ⟨n, s⟩)) ∧ Below w.heap.size w w' := by
  cases hq : s.toList.isEmpty
  · have HR := Lib.hid (valOk_word (v := ⟨n, s⟩) hq)
    cases hz : (n == 0)
    · go_enter Try.func154, Try.ntmps154
      go_wp2_with (first | (go_at_call 121; refine (isNumber_any _ _).mono ?_; rintro e w' ⟨rfl, rfl⟩) | (go_at_call 103; refine (wordOkI_any _ _ hs).mono ?_; rintro e w' ⟨rfl, rfl⟩))
      go_ret
      exact ⟨ret_bool (by rw [HR.out, hz]; rfl), (Below.refl _ _).alloc (Nat.le_refl _) _⟩
    · go_enter Try.func154, Try.ntmps154
      go_wp2_with (first | (go_at_call 121; refine (isNumber_any _ _).mono ?_; rintro e w' ⟨rfl, rfl⟩) | (go_at_call 103; refine (wordOkI_any _ _ hs).mono ?_; rintro e w' ⟨rfl, rfl⟩))
      go_ret
      exact ⟨ret_bool (by rw [HR.out, hz]; rfl), (Below.refl _ _).alloc (Nat.le_refl _) _⟩
  · have HR := Lib.hid (valOk_num (v := ⟨n, s⟩) hq)
    go_enter Try.func154, Try.ntmps154
    go_wp2_with (first | (go_at_call 121; refine (isNumber_any _ _).mono ?_; rintro e w' ⟨rfl, rfl⟩) | (go_at_call 103; refine (wordOkI_any _ _ hs).mono ?_; rintro e w' ⟨rfl, rfl⟩))
    go_ret
    exact ⟨ret_bool HR.out.symm, (Below.refl _ _).alloc (Nat.le_refl _) _⟩

set_option maxHeartbeats 400000 in
theorem valueOkS_any (n : Int) (s : ByteArray) (w : World) (hs : s.size ≤ maxLen) :
    Calls Try.prog 150 #[.agg #[.int .i64 n, .string s]] w fun e w' => e = .returned (.bool (valOk ⟨n, s⟩)) ∧ Below w.heap.size w w' := by
  cases hq : s.toList.isEmpty
  · have HR := Lib.hid (valOk_word (v := ⟨n, s⟩) hq)
    cases hz : (n == 0)
    · go_enter Try.func150, Try.ntmps150
      go_wp2_with (first | (go_at_call 99; refine (l01Num_any _ _).mono ?_; rintro e w' ⟨rfl, rfl⟩) | (go_at_call 45; refine (wordOkS_any _ _ hs).mono ?_; rintro e w' ⟨rfl, rfl⟩))
      go_ret
      exact ⟨ret_bool (by rw [HR.out, hz]; rfl), (Below.refl _ _).alloc (Nat.le_refl _) _⟩
    · go_enter Try.func150, Try.ntmps150
      go_wp2_with (first | (go_at_call 99; refine (l01Num_any _ _).mono ?_; rintro e w' ⟨rfl, rfl⟩) | (go_at_call 45; refine (wordOkS_any _ _ hs).mono ?_; rintro e w' ⟨rfl, rfl⟩))
      go_ret
      exact ⟨ret_bool (by rw [HR.out, hz]; rfl), (Below.refl _ _).alloc (Nat.le_refl _) _⟩
  · have HR := Lib.hid (valOk_num (v := ⟨n, s⟩) hq)
    go_enter Try.func150, Try.ntmps150
    go_wp2_with (first | (go_at_call 99; refine (l01Num_any _ _).mono ?_; rintro e w' ⟨rfl, rfl⟩) | (go_at_call 45; refine (wordOkS_any _ _ hs).mono ?_; rintro e w' ⟨rfl, rfl⟩))
    go_ret
    exact ⟨ret_bool HR.out.symm, (Below.refl _ _).alloc (Nat.le_refl _) _⟩

/-! ### The order -/
theorem bytesLess_cmp : ∀ a b : List UInt8, Op.bytesLess a b = decide (Lib.compareBytes a b < 0)
  | [], [] => by simp [Op.bytesLess, Lib.compareBytes]
  | [], _ :: _ => by simp [Op.bytesLess, Lib.compareBytes]
  | _ :: _, [] => by simp [Op.bytesLess, Lib.compareBytes]
  | x :: a, y :: b => by
    have ih := bytesLess_cmp a b
    unfold Op.bytesLess Lib.compareBytes
    by_cases h1 : x < y
    · simp [h1]
    · by_cases h2 : y < x
      · have : ¬ x = y := by rintro rfl; exact h1 h2
        simp [h1, h2, this]
      · have : x = y := UInt8.le_antisymm (UInt8.not_lt.1 h2) (UInt8.not_lt.1 h1)
        subst this
        simp [h1, ih]

def cmpVal (a b : Val) : Int :=
  if a.s.toList.isEmpty then (if b.s.toList.isEmpty then a.n - b.n else -1) else if b.s.toList.isEmpty then 1 else Lib.compareBytes a.s.data.toList b.s.data.toList
end Go.Proofs.Ytkemjhlbokldhaa

/- Contracts of the functions over rows: RowOk and RowOrder. -/
namespace Go.Proofs.Ytkemjhlbokldhaa
open Go.RowKit
set_option linter.unusedVariables false

/-- Nothing that lay in w has turned, and these cells hold these values. -/
def Kept (w : World) (L : List (Addr × Value)) (W : World) : Prop := Below w.heap.size w W ∧ ∀ p ∈ L, W.cell? p.1 = some p.2
theorem Kept.up {w W w' : World} {L : List (Addr × Value)} (hb : Below W.heap.size W w') (h : Kept w L W) : Kept w L w' :=
  ⟨below_up h.1 hb (Nat.le_refl _), fun p hp => (hb.cell (World.block_lt_of_cell? W p.1 (h.2 p hp))).trans (h.2 p hp)⟩
theorem Kept.alloc {w W : World} {L : List (Addr × Value)} (h : Kept w L W) (o : Obj) : Kept w L (W.alloc o) := h.up ((Below.refl _ _).alloc (Nat.le_refl _) o)
theorem Kept.start (w : World) : Kept w [] w := ⟨Below.refl _ _, fun p hp => by cases hp⟩
theorem Kept.cons {w W : World} {L : List (Addr × Value)} {a : Addr} {v : Value} (hc : W.cell? a = some v) (h : Kept w L W) : Kept w ((a, v) :: L) W :=
  ⟨h.1, fun p hp => by
    rcases List.mem_cons.1 hp with rfl | hp
    · exact hc
    · exact h.2 p hp⟩
theorem Kept.of {w W : World} {L L' : List (Addr × Value)} (h : Kept w L W) (hL : ∀ p ∈ L', p ∈ L) : Kept w L' W := ⟨h.1, fun p hp => h.2 p (hL p hp)⟩
theorem Kept.held {w W : World} {L : List (Addr × Value)} (h : Kept w L W) : Held w [] W := ⟨h.1, fun p hp => by cases hp⟩
theorem Kept.c1 {w W : World} {a0 : Addr} {v0 : Value} (h : Kept w [(a0, v0)] W) : Kept w [(a0, v0)] W ∧ W.cell? a0 = some v0 := ⟨h, h.2 (a0, v0) (by simp)⟩
theorem Kept.c2 {w W : World} {a0 a1 : Addr} {v0 v1 : Value} (h : Kept w [(a0, v0), (a1, v1)] W) : Kept w [(a0, v0), (a1, v1)] W ∧ W.cell? a0 = some v0 ∧ W.cell? a1 = some v1 := ⟨h, h.2 (a0, v0) (by simp), h.2 (a1, v1) (by simp)⟩
theorem Kept.c3 {w W : World} {a0 a1 a2 : Addr} {v0 v1 v2 : Value} (h : Kept w [(a0, v0), (a1, v1), (a2, v2)] W) : Kept w [(a0, v0), (a1, v1), (a2, v2)] W ∧ W.cell? a0 = some v0 ∧ W.cell? a1 = some v1 ∧ W.cell? a2 = some v2 := ⟨h, h.2 (a0, v0) (by simp), h.2 (a1, v1) (by simp), h.2 (a2, v2) (by simp)⟩
theorem Kept.c4 {w W : World} {a0 a1 a2 a3 : Addr} {v0 v1 v2 v3 : Value} (h : Kept w [(a0, v0), (a1, v1), (a2, v2), (a3, v3)] W) : Kept w [(a0, v0), (a1, v1), (a2, v2), (a3, v3)] W ∧ W.cell? a0 = some v0 ∧ W.cell? a1 = some v1 ∧ W.cell? a2 = some v2 ∧ W.cell? a3 = some v3 := ⟨h, h.2 (a0, v0) (by simp), h.2 (a1, v1) (by simp), h.2 (a2, v2) (by simp), h.2 (a3, v3) (by simp)⟩
theorem Kept.c5 {w W : World} {a0 a1 a2 a3 a4 : Addr} {v0 v1 v2 v3 v4 : Value} (h : Kept w [(a0, v0), (a1, v1), (a2, v2), (a3, v3), (a4, v4)] W) : Kept w [(a0, v0), (a1, v1), (a2, v2), (a3, v3), (a4, v4)] W ∧ W.cell? a0 = some v0 ∧ W.cell? a1 = some v1 ∧ W.cell? a2 = some v2 ∧ W.cell? a3 = some v3 ∧ W.cell? a4 = some v4 := ⟨h, h.2 (a0, v0) (by simp), h.2 (a1, v1) (by simp), h.2 (a2, v2) (by simp), h.2 (a3, v3) (by simp), h.2 (a4, v4) (by simp)⟩
theorem Kept.c6 {w W : World} {a0 a1 a2 a3 a4 a5 : Addr} {v0 v1 v2 v3 v4 v5 : Value} (h : Kept w [(a0, v0), (a1, v1), (a2, v2), (a3, v3), (a4, v4), (a5, v5)] W) : Kept w [(a0, v0), (a1, v1), (a2, v2), (a3, v3), (a4, v4), (a5, v5)] W ∧ W.cell? a0 = some v0 ∧ W.cell? a1 = some v1 ∧ W.cell? a2 = some v2 ∧ W.cell? a3 = some v3 ∧ W.cell? a4 = some v4 ∧ W.cell? a5 = some v5 := ⟨h, h.2 (a0, v0) (by simp), h.2 (a1, v1) (by simp), h.2 (a2, v2) (by simp), h.2 (a3, v3) (by simp), h.2 (a4, v4) (by simp), h.2 (a5, v5) (by simp)⟩
theorem Kept.c7 {w W : World} {a0 a1 a2 a3 a4 a5 a6 : Addr} {v0 v1 v2 v3 v4 v5 v6 : Value} (h : Kept w [(a0, v0), (a1, v1), (a2, v2), (a3, v3), (a4, v4), (a5, v5), (a6, v6)] W) : Kept w [(a0, v0), (a1, v1), (a2, v2), (a3, v3), (a4, v4), (a5, v5), (a6, v6)] W ∧ W.cell? a0 = some v0 ∧ W.cell? a1 = some v1 ∧ W.cell? a2 = some v2 ∧ W.cell? a3 = some v3 ∧ W.cell? a4 = some v4 ∧ W.cell? a5 = some v5 ∧ W.cell? a6 = some v6 := ⟨h, h.2 (a0, v0) (by simp), h.2 (a1, v1) (by simp), h.2 (a2, v2) (by simp), h.2 (a3, v3) (by simp), h.2 (a4, v4) (by simp), h.2 (a5, v5) (by simp), h.2 (a6, v6) (by simp)⟩
theorem Kept.c8 {w W : World} {a0 a1 a2 a3 a4 a5 a6 a7 : Addr} {v0 v1 v2 v3 v4 v5 v6 v7 : Value} (h : Kept w [(a0, v0), (a1, v1), (a2, v2), (a3, v3), (a4, v4), (a5, v5), (a6, v6), (a7, v7)] W) : Kept w [(a0, v0), (a1, v1), (a2, v2), (a3, v3), (a4, v4), (a5, v5), (a6, v6), (a7, v7)] W ∧ W.cell? a0 = some v0 ∧ W.cell? a1 = some v1 ∧ W.cell? a2 = some v2 ∧ W.cell? a3 = some v3 ∧ W.cell? a4 = some v4 ∧ W.cell? a5 = some v5 ∧ W.cell? a6 = some v6 ∧ W.cell? a7 = some v7 := ⟨h, h.2 (a0, v0) (by simp), h.2 (a1, v1) (by simp), h.2 (a2, v2) (by simp), h.2 (a3, v3) (by simp), h.2 (a4, v4) (by simp), h.2 (a5, v5) (by simp), h.2 (a6, v6) (by simp), h.2 (a7, v7) (by simp)⟩
theorem Kept.c9 {w W : World} {a0 a1 a2 a3 a4 a5 a6 a7 a8 : Addr} {v0 v1 v2 v3 v4 v5 v6 v7 v8 : Value} (h : Kept w [(a0, v0), (a1, v1), (a2, v2), (a3, v3), (a4, v4), (a5, v5), (a6, v6), (a7, v7), (a8, v8)] W) : Kept w [(a0, v0), (a1, v1), (a2, v2), (a3, v3), (a4, v4), (a5, v5), (a6, v6), (a7, v7), (a8, v8)] W ∧ W.cell? a0 = some v0 ∧ W.cell? a1 = some v1 ∧ W.cell? a2 = some v2 ∧ W.cell? a3 = some v3 ∧ W.cell? a4 = some v4 ∧ W.cell? a5 = some v5 ∧ W.cell? a6 = some v6 ∧ W.cell? a7 = some v7 ∧ W.cell? a8 = some v8 := ⟨h, h.2 (a0, v0) (by simp), h.2 (a1, v1) (by simp), h.2 (a2, v2) (by simp), h.2 (a3, v3) (by simp), h.2 (a4, v4) (by simp), h.2 (a5, v5) (by simp), h.2 (a6, v6) (by simp), h.2 (a7, v7) (by simp), h.2 (a8, v8) (by simp)⟩
/-- Element i of a slice of values. -/
theorem SliceRep.val {w : World} {a : Option Addr} {n cap : Nat} {xs : List Val} {bs : List Nat} (h : SliceRep valE w a n cap xs bs) {i : Nat} (hi : i < xs.length) :
    ∃ g off, a = some ⟨g, off, none⟩ ∧ w.cell? ⟨g, off + i * 2, none⟩ = some (.int .i64 xs[i].n) ∧ w.cell? ⟨g, off + i * 2 + 1, none⟩ = some (.string xs[i].s) ∧ xs[i].s.size ≤ maxLen ∧ (Lit.int .i64 xs[i].n).wf = true := by
  obtain ⟨g, off, cs, b, ha, hr, hc, _, _⟩ := h.get hi
  obtain ⟨rfl, h1, h2, _⟩ := valE_rep.1 hr
  exact ⟨g, off, ha, hc 0 _ rfl, hc 1 _ rfl, h2, h1⟩

/-- The place of the first element that meets p, or -1. -/
def firstIdx {α : Type} (p : α → Bool) (xs : List α) : Int := match xs.findIdx? p with | some i => i | none => -1
theorem firstIdx_none {α : Type} {p : α → Bool} {xs : List α} (h0 : ∀ j (h : j < xs.length), p xs[j] = false) : firstIdx p xs = -1 := by
  have : xs.findIdx? p = none := by
    rw [List.findIdx?_eq_none_iff]
    intro x hx
    obtain ⟨i, hi, rfl⟩ := List.getElem_of_mem hx
    exact h0 i hi
  simp [firstIdx, this]
/-- None of the first k elements meets p. -/
def NoneTo {α : Type} (p : α → Bool) (xs : List α) (k : Nat) : Prop := ∀ j (h : j < xs.length), j < k → p xs[j] = false
theorem NoneTo.zero {α : Type} {p : α → Bool} {xs : List α} : NoneTo p xs 0 := fun _ _ h => by omega
theorem NoneTo.succ {α : Type} {p : α → Bool} {xs : List α} {k : Nat} (h : NoneTo p xs k) (hk : k < xs.length) (hp : p xs[k] = false) : NoneTo p xs (k + 1) := fun j hj hjk => by
  rcases Nat.lt_or_ge j k with h1 | h1
  · exact h j hj h1
  · obtain rfl : j = k := by omega
    exact hp
theorem NoneTo.none {α : Type} {p : α → Bool} {xs : List α} (h : NoneTo p xs xs.length) : firstIdx p xs = -1 := firstIdx_none fun j hj => h j hj hj
theorem NoneTo.all {α : Type} {p : α → Bool} {xs : List α} (h : NoneTo p xs xs.length) : xs.any p = false := by
  rw [List.any_eq_false]
  intro x hx
  obtain ⟨i, hi, rfl⟩ := List.getElem_of_mem hx
  simp [h i hi hi]
def badVal (v : Val) : Bool := !valOk v
def rowOk (r : List Val) : Bool := decide (r.length ≤ 6) && !r.any badVal
end Go.Proofs.Ytkemjhlbokldhaa

/- Words for the laws' own functions. -/
namespace Go.Proofs.Ytkemjhlbokldhaa
open Go.RowKit

def AllTo {α : Type} (p : α → Prop) (xs : List α) (k : Nat) : Prop := ∀ j (h : j < xs.length), j < k → p xs[j]
theorem AllTo.zero {α : Type} {p : α → Prop} {xs : List α} : AllTo p xs 0 := fun _ _ h => absurd h (by omega)
theorem AllTo.succ {α : Type} {p : α → Prop} {xs : List α} {k : Nat} (h : AllTo p xs k) (hk : k < xs.length) (hp : p xs[k]) : AllTo p xs (k + 1) := fun j hj hjk => by
  rcases Nat.lt_or_ge j k with h1 | h1
  · exact h j hj h1
  · obtain rfl : j = k := by omega
    exact hp
theorem AllTo.done {α : Type} {p : α → Prop} {xs : List α} (h : AllTo p xs xs.length) : ∀ y ∈ xs, p y := fun y hy => by
  obtain ⟨i, hi, rfl⟩ := List.getElem_of_mem hy
  exact h i hi hi
theorem Kept.at_ {w W : World} (h : Below w.heap.size w W) : Kept w [] W := ⟨h, fun p hp => by cases hp⟩

theorem Value_rep {w : World} {cs : List Value} {x : Val} {bs : List Nat} : valE.rep w cs x bs ↔ cs = [.int .i64 x.n, .string x.s] ∧ (Lit.int .i64 x.n).wf = true ∧ x.s.size ≤ maxLen ∧ bs = [] := valE_rep
/-- From block lo on the two worlds are the same. -/
def Same (lo : Nat) (W W' : World) : Prop := W'.heap.size = W.heap.size ∧ ∀ b, lo ≤ b → W'.heap[b]? = W.heap[b]?
theorem Same.refl (lo : Nat) (W : World) : Same lo W W := ⟨rfl, fun _ _ => rfl⟩
theorem Same.set {lo : Nat} {W W' : World} (h : Same lo W W') {g : Nat} (hg : g < lo) (o : Nat) (v : Value) : Same lo W (W'.setCell ⟨g, o, none⟩ v) :=
  ⟨by rw [← h.1]; simp [World.setCell], fun b hb => (Below.heap_setCell W' _ _ b (by simp; omega)).trans (h.2 b hb)⟩
theorem SliceRep.same {α : Type} {e : Enc α} {lo : Nat} {W W' : World} {a : Option Addr} {n cap : Nat} {xs : List α} {bs : List Nat} (hS : Same lo W W') (hlo : ∀ c ∈ bs, lo ≤ c) (h : SliceRep e W a n cap xs bs) : SliceRep e W' a n cap xs bs :=
  h.keep (fun b hb => hS.2 b (hlo b hb)) (Nat.le_of_eq hS.1.symm)
theorem Fresh.same {lo lo' : Nat} {W W' : World} {bs : List Nat} (hS : Same lo W W') (hlo : ∀ c ∈ bs, lo ≤ c) (h : Fresh lo' W bs) : Fresh lo' W' bs :=
  ⟨h.1, fun b hb => by
    obtain ⟨h1, c, t, h2⟩ := h.2 b hb
    exact ⟨h1, c, t, (hS.2 b (hlo b hb)).trans h2⟩⟩
theorem Box.set {W : World} {g : Nat} {cs : Array Value} (h : Box W g cs) (o : Nat) (v : Value) (ho : o < cs.size) : Box (W.setCell ⟨g, o, none⟩ v) g (cs.setIfInBounds o v) := by
  have hc := h.cell o
  refine ⟨fun o' => ?_, fun o' => ?_, by simpa [World.setCell] using h.lt⟩
  · by_cases he : o' = o
    · subst he
      rw [Array.getElem?_setIfInBounds_self_of_lt ho]
      have h1 : W.cell? ⟨g, o', none⟩ = some cs[o'] := by rw [hc]; simp [ho]
      first | exact World.cell?_setCell_same _ _ _ h1 | exact World.cell?_setCell_same h1
    · rw [Array.getElem?_setIfInBounds_ne (by omega), ← h.cell o']
      exact World.cell?_setCell_other W _ _ v (fun e => he (by injection e with _ e; exact e.symm))
  · rw [← h.free o']
    exact World.frozen?_setCells g [v] o W _
theorem Box.setOther {W : World} {g g' : Nat} {cs : Array Value} (h : Box W g cs) (hne : g ≠ g') (o : Nat) (v : Value) : Box (W.setCell ⟨g', o, none⟩ v) g cs := by
  have hb := Below.heap_setCell W ⟨g', o, none⟩ v g hne
  exact ⟨fun o' => (World.cell?_of_block (w := W) (a := ⟨g, o', none⟩) hb).trans (h.cell o'), fun o' => (World.frozen?_of_block (w := W) (a := ⟨g, o', none⟩) hb).trans (h.free o'), by simpa [World.setCell] using h.lt⟩
/-- The three boxes of a 'to': the argument, the result, the variable 'out'. -/
structure Three (w : World) (A Z C : Array Value) (W : World) : Prop where
  below : Below w.heap.size w W
  a : Box W w.heap.size A
  z : Box W (w.heap.size + 1) Z
  c : Box W (w.heap.size + 1 + 1) C
theorem Three.start (w : World) (A Z C : Array Value) (t t' t'' : TypeId) : Three w A Z C (((w.alloc (.cells A t)).alloc (.cells Z t')).alloc (.cells C t'')) := by
  have e1 : (w.alloc (.cells A t)).heap.size = w.heap.size + 1 := by simp
  have e2 : ((w.alloc (.cells A t)).alloc (.cells Z t')).heap.size = w.heap.size + 1 + 1 := by simp
  refine ⟨(((Below.refl _ _).alloc (Nat.le_refl _) _).alloc (by simp) _).alloc (by simp; omega) _, ((Box.new w A t).alloc _).alloc _, ?_, ?_⟩
  · have := (Box.new (w.alloc (.cells A t)) Z t').alloc (.cells C t''); rwa [e1] at this
  · have := Box.new ((w.alloc (.cells A t)).alloc (.cells Z t')) C t''; rwa [e2] at this
theorem Three.up {w W W' : World} {A Z C : Array Value} (hb : Below W.heap.size W W') (h : Three w A Z C W) : Three w A Z C W' :=
  ⟨below_up h.below hb (Nat.le_refl _), h.a.up hb, h.z.up hb, h.c.up hb⟩
theorem Three.set {w W : World} {A Z C C' : Array Value} (h : Three w A Z C W) (o : Nat) (v : Value) (ho : o < C.size) (hC : C.setIfInBounds o v = C') : Three w A Z C' (W.setCell ⟨w.heap.size + 1 + 1, o, none⟩ v) :=
  ⟨h.below.setCell (p := ⟨w.heap.size + 1 + 1, o, none⟩) (by simp; omega) v, h.a.setOther (by omega) o v, h.z.setOther (by omega) o v, hC ▸ h.c.set o v ho⟩
theorem Three.lt {w W : World} {A Z C : Array Value} (h : Three w A Z C W) : w.heap.size + 1 + 1 + 1 ≤ W.heap.size := h.c.lt
end Go.Proofs.Ytkemjhlbokldhaa

/- The abstract walk: values and rows; contracts between the two ways of saying. -/
namespace Go.Proofs.Ytkemjhlbokldhaa
open Go.RowKit
set_option linter.unusedVariables false

def valC (v : Val) : List Cell := [.c (.int .i64 v.n), .c (.string v.s)]
instance : CellsOf valE valC := ⟨fun {w vs x b} => by
  rw [valE_rep]
  constructor
  · rintro ⟨rfl, h1, h2, rfl⟩; exact ⟨[], [], rfl, ⟨rfl, h1, rfl⟩, [], [], rfl, ⟨rfl, h2, rfl⟩, rfl⟩
  · intro h
    match vs, h with
    | [u, v], ⟨b1, b2, hb, ⟨h1, h2, h3⟩, b3, b4, hb', ⟨h4, h5, h6⟩, h7⟩ =>
      simp only [FR] at h7
      subst h3; subst h6; subst h7; subst h1; subst h4; subst hb'
      exact ⟨rfl, h2, h5, by simpa using hb⟩⟩
/-! Two values, compared. -/
def sameVal (x y : Val) : Bool := x.n == y.n && x.s == y.s
theorem sameVal_iff {x y : Val} : sameVal x y = true ↔ x = y := by
  obtain ⟨n, ⟨⟨s⟩⟩⟩ := x
  obtain ⟨m, ⟨⟨r⟩⟩⟩ := y
  simp [sameVal, beq_toListBytes, ByteArray.toList_eq]
instance : DecidableEq Val := fun x y => decidable_of_iff _ sameVal_iff
theorem equalIn_val (x y : Val) (w : World) : (Op.equalIn 10000 68 (.agg #[.int .i64 x.n, .string x.s]) (.agg #[.int .i64 y.n, .string y.s])).run Try.prog w = .ok (sameVal x y) w := by
  have hS : Try.prog.underlying 68 = some (.struct (Try.prog.fieldsOf 68)) := by kernel_rfl
  have hp : Try.prog.stoodInHeld 68 = false := by kernel_rfl
  rw [show (10000 : Nat) = 9999 + 1 from rfl, run_equalIn_agg w 9999 68 _ _ hS hp]
  simp only [Program.fieldsOf, Try.underlying68]
  go_simp
  unfold sameVal
  rw [beq_toListBytes]
  by_cases h1 : x.n = y.n <;> by_cases h2 : x.s.toList = y.s.toList <;> simp [h1, h2]
theorem guard_val (op : BinOp) (x y : Operand) (a b : Val) (w : World) : (eqGuard op 68 x y (.agg #[.int .i64 a.n, .string a.s]) (.agg #[.int .i64 b.n, .string b.s])).run Try.prog w = .ok () w := by
  have hg : Try.prog.eqGuardType Try.prog.depth 68 = false := by kernel_rfl
  unfold eqGuard
  cases op <;> simp [hg]
theorem x_val2 {P : Program} {N : Nat} {s : St} {d : Nat} {ty : TypeId} {pos : String} {after : Array Edge} {gd : Option (Nat × Bool)} {op : BinOp} {T T' : TypeId} {x y : Operand} {a b : Val} {v : Bool} (hN : Nat.blt d N = true) (h : evo s.t x = some (.agg (valC a))) (h2 : evo s.t y = some (.agg (valC b)))
    (hr : ∀ w, ((do eqGuard op T x y (.agg #[.int .i64 a.n, .string a.s]) (.agg #[.int .i64 b.n, .string b.s]); binOp op T (.agg #[.int .i64 a.n, .string a.s]) (.agg #[.int .i64 b.n, .string b.s])) : Sem Value).run P w = .ok (.bool v) w) :
    Stp P N ⟨some d, .binOp op T x y T', ty, pos, after, gd⟩ s ⟨(d, .one (.c (.bool v))) :: s.t, s.l⟩ ⟨rdo x (.agg (valC a)) ++ rdo y (.agg (valC b)), [], [(d, .one (.c (.bool v)))], [], []⟩ :=
  Stp.pure rfl hN (two_rd h h2) (by simp) fun g s' ac w ht hl' r => by
    have one : ∀ {o : Operand} {c : Val}, Evs o (.agg (valC c)) → (∀ p ∈ rdo o (.agg (valC c)), lk s'.t p.1 = some p.2) → ac.eval o = .agg #[.int .i64 c.n, .string c.s] := fun {o c} he hp => by
      obtain ⟨vs, e1, e2⟩ : VR g s'.l w (ac.eval o) (.agg (valC c)) := eval_ok r he hp
      match vs, e2 with
      | [u, v], ⟨⟨f1, _⟩, ⟨f2, _⟩, _⟩ => subst f1; subst f2; exact e1
    have e1 := one (evs_of h) fun p hp => ht p (List.mem_append_left _ hp)
    have e2 := one (evs_of h2) fun p hp => ht p (List.mem_append_right _ hp)
    refine ⟨.bool v, run_binOp rfl ?_, rfl, trivial⟩
    rw [e1, e2]; exact hr w
section
variable {N : Nat} {s : St} {d : Nat} {ty : TypeId} {pos : String} {after : Array Edge} {gd : Option (Nat × Bool)} {T' : TypeId} {x y : Operand} {a b : Val}
theorem x_veql (hN : Nat.blt d N = true) (h : evo s.t x = some (.agg (valC a))) (h2 : evo s.t y = some (.agg (valC b))) :
    Stp Try.prog N ⟨some d, .binOp .eql 68 x y T', ty, pos, after, gd⟩ s ⟨(d, .one (.c (.bool (sameVal a b)))) :: s.t, s.l⟩ ⟨rdo x (.agg (valC a)) ++ rdo y (.agg (valC b)), [], [(d, .one (.c (.bool (sameVal a b))))], [], []⟩ :=
  x_val2 hN h h2 fun w => by simp only [Sem.run_bind, guard_val, Result.andThen_ok, binOp, Op.equal, Op.maxDepth, equalIn_val, Sem.run_pure]
end
/-! Rows, compared. -/
def SameTo (xs ys : List Val) (k : Nat) : Prop := ∀ j (h : j < xs.length) (h' : j < ys.length), j < k → xs[j] = ys[j]
theorem SameTo.zero {xs ys : List Val} : SameTo xs ys 0 := fun _ _ _ h => absurd h (by omega)
theorem SameTo.succ {xs ys : List Val} {k : Nat} (h : SameTo xs ys k) (hk : k < xs.length) (hk' : k < ys.length) (hs : sameVal xs[k] ys[k] = true) : SameTo xs ys (k + 1) := fun j hj hj' hjk => by
  rcases Nat.lt_or_ge j k with h1 | h1
  · exact h j hj hj' h1
  · obtain rfl : j = k := by omega
    exact sameVal_iff.1 hs
theorem SameTo.eq {xs ys : List Val} {k : Nat} (hl : xs.length = ys.length) (hk : xs.length ≤ k) (h : SameTo xs ys k) : xs = ys :=
  List.ext_getElem hl fun j h1 h2 => h j h1 h2 (by omega)
end Go.Proofs.Ytkemjhlbokldhaa

/- Contracts of ValueText and TextValue, and of the laws' own functions over values. -/
namespace Go.Proofs.Ytkemjhlbokldhaa
open Go.RowKit
set_option linter.unusedVariables false

/-! ### Texts -/
/-! ### The laws' own functions over values -/
end Go.Proofs.Ytkemjhlbokldhaa

/- The laws' own functions: GenA (printed by gen.py) -/
namespace Go.Proofs.Ytkemjhlbokldhaa
open Go.RowKit
set_option linter.unusedVariables false
set_option maxRecDepth 100000

def smallValue (x : Val) : Prop := x.s.size ≤ 1048576

theorem zeroValue (w : World) : valE.rep w [.int .i64 0, .string ByteArray.empty] ⟨0, ByteArray.empty⟩ [] := by
  exact Value_rep.2 ⟨rfl, by decide, by simp, rfl⟩
end Go.Proofs.Ytkemjhlbokldhaa

/- The laws' own functions: GenB (printed by gen.py) -/
namespace Go.Proofs.Ytkemjhlbokldhaa
open Go.RowKit
set_option linter.unusedVariables false
set_option maxRecDepth 100000

structure Relt where
  arity : Int
  rows : List (List Val)
end Go.Proofs.Ytkemjhlbokldhaa

/- The order of rows: byRow, RowOrder and the reference's l09Order. -/
namespace Go.Proofs.Ytkemjhlbokldhaa
open Go.RowKit
set_option linter.unusedVariables false

theorem compareBytes_neg : ∀ a b : List UInt8, Lib.compareBytes a b = - Lib.compareBytes b a
  | [], [] => by simp [Lib.compareBytes]
  | [], _ :: _ => by simp [Lib.compareBytes]
  | _ :: _, [] => by simp [Lib.compareBytes]
  | x :: a, y :: b => by
    have ih := compareBytes_neg a b
    unfold Lib.compareBytes
    by_cases h1 : x < y
    · have h2 : ¬ y < x := fun h => UInt8.lt_irrefl _ (UInt8.lt_trans h1 h)
      simp [h1, h2]
    · by_cases h2 : y < x
      · simp [h1, h2]
      · simp [h1, h2, ih]
def cmpRow : List Val → List Val → Int
  | [], [] => 0
  | [], _ :: _ => -1
  | _ :: _, [] => 1
  | x :: xs, y :: ys => if cmpVal x y = 0 then cmpRow xs ys else cmpVal x y
end Go.Proofs.Ytkemjhlbokldhaa

/- byRow, RowOrder and the reference's l09Order. -/
namespace Go.Proofs.Ytkemjhlbokldhaa
open Go.RowKit
set_option linter.unusedVariables false

end Go.Proofs.Ytkemjhlbokldhaa

/- Right relations, in plain words. -/
namespace Go.Proofs.Ytkemjhlbokldhaa
open Go.RowKit
set_option linter.unusedVariables false

def rowAt (rows : List (List Val)) (ar : Int) : (k : Nat) → k < rows.length → Bool
  | 0, hk => rowOk rows[0] && ((rows[0].length : Int) == ar)
  | j + 1, hk => rowOk rows[j + 1] && ((rows[j + 1].length : Int) == ar) && decide (cmpRow rows[j] rows[j + 1] < 0)
def GoodTo (rows : List (List Val)) (ar : Int) (k : Nat) : Prop := ∀ j (h : j < rows.length), j < k → rowAt rows ar j h = true
theorem GoodTo.zero {rows : List (List Val)} {ar : Int} : GoodTo rows ar 0 := fun _ _ h => absurd h (by omega)
theorem GoodTo.succ {rows : List (List Val)} {ar : Int} {k : Nat} (h : GoodTo rows ar k) (hk : k < rows.length) (hp : rowAt rows ar k hk = true) : GoodTo rows ar (k + 1) := fun j hj hjk => by
  rcases Nat.lt_or_ge j k with h1 | h1
  · exact h j hj h1
  · obtain rfl : j = k := by omega
    exact hp
def relRows (rows : List (List Val)) (ar : Int) : Bool := (List.range rows.length).all fun k => if h : k < rows.length then rowAt rows ar k h else true
theorem GoodTo.all {rows : List (List Val)} {ar : Int} (h : GoodTo rows ar rows.length) : relRows rows ar = true := by
  unfold relRows
  rw [List.all_eq_true]
  intro k hk
  have hk' : k < rows.length := by simpa using hk
  rw [dif_pos hk']
  exact h k hk' hk'
theorem GoodTo.row {rows : List (List Val)} {ar : Int} {k j : Nat} (h : GoodTo rows ar k) (hj : j < rows.length) (hjk : j < k) : rowOk rows[j] = true := by
  have := h j hj hjk
  cases j with
  | zero => simp only [rowAt, Bool.and_eq_true] at this; exact this.1
  | succ j => simp only [rowAt, Bool.and_eq_true] at this; exact this.1.1
end Go.Proofs.Ytkemjhlbokldhaa

/- Contracts that were walked before, said for the abstract walk. -/
namespace Go.Proofs.Ytkemjhlbokldhaa
open Go.RowKit
set_option linter.unusedVariables false
set_option maxRecDepth 100000

/-- What tidies the truth of a test. -/
theorem tdy : (∀ (p : Prop) [Decidable p], (decide p = true) = p) ∧ (∀ (p : Prop) [Decidable p], (decide p = false) = ¬ p) ∧ (∀ b : Bool, (¬ b = true) = (b = false)) ∧ (∀ b : Bool, (¬ b = false) = (b = true)) ∧ (∀ b : Bool, ((!b) = true) = (b = false)) ∧ (∀ b : Bool, ((!b) = false) = (b = true)) ∧
    (∀ {α : Type} [BEq α] [LawfulBEq α] (a b : α), ((a == b) = true) = (a = b)) ∧ (∀ {α : Type} [BEq α] [LawfulBEq α] (a b : α), ((a != b) = true) = (a ≠ b)) ∧ (∀ {α : Type} [BEq α] [LawfulBEq α] (a b : α), ((a == b) = false) = ¬ (a = b)) ∧ (∀ {α : Type} [BEq α] [LawfulBEq α] (a b : α), ((a != b) = false) = (a = b)) ∧
    (∀ a b : Int, (¬ a < b) = (b ≤ a)) ∧ (∀ a b : Int, (¬ a ≤ b) = (b < a)) ∧ (∀ a b : Int, (a ≥ b) = (b ≤ a)) ∧ (∀ a b : Int, (a > b) = (b < a)) ∧ (∀ a b : Nat, (a ≥ b) = (b ≤ a)) ∧ (∀ a b : Nat, (a > b) = (b < a)) :=
  ⟨fun p _ => by simp, fun p _ => by simp, fun b => by simp, fun b => by simp, fun b => by simp, fun b => by simp, fun a b => by simp, fun a b => by simp, fun a b => by simp, fun a b => by simp, fun a b => by simp, fun a b => by simp, fun a b => rfl, fun a b => rfl, fun a b => rfl, fun a b => rfl⟩
theorem Step.of_below {g : Gh} {w w' : World} (h : Below w.heap.size w w') : Step (keys ([] : Locs)) g [] w g [] w' :=
  ⟨h.os, h.tape, h.output, h.size, fun b hb _ => h.block b hb, fun _ h => h, fun _ h => .inl h, fun b ⟨k, blk, hk, _⟩ => (by simp [lkl, lk] at hk), fun k hk => (by cases hk)⟩
theorem MemR.of_below {g : Gh} {w w' : World} (m : MemR g [] w) (h : Below w.heap.size w w') : MemR g [] w' :=
  ⟨fun b hb => Nat.lt_of_lt_of_le (m.ilt b hb) h.size, fun k cs hk => (by simp [lkl, lk] at hk), fun k α T e xs d hk => (by simp [lkl, lk] at hk), fun j k b b' _ hj => (by simp [lkl, lk] at hj), fun k α T e xs hk => (by simp [lkl, lk] at hk), fun j k α β T U e f xs ys _ hj => (by simp [lkl, lk] at hj)⟩
theorem AC.pure {P : Program} {f : FuncId} {args : List AVal} {v : Value} (hc : Callable P f) (hw : wfV v) (h : ∀ (w : World) (g : Gh) (cargs : Array Value), All2 (VR1 g [] w) cargs.toList args → Calls P f cargs w fun e w' => e = .returned v ∧ Below w.heap.size w w') : AC P f args [] (.one (.c v)) [] :=
  ⟨hc, fun g w cargs m ha => (h w g cargs ha).mono fun e w' ⟨he, hb⟩ => ⟨v, g, he, m.of_below hb, ⟨rfl, hw⟩, Step.of_below hb⟩⟩
theorem below_eq {w w' : World} (h : w = w') : Below w.heap.size w w' := by subst h; exact Below.refl _ _

section
variable {g : Gh} {l : Locs} {w : World}
theorem inv1 {R : Value → AVal → Prop} {a : Array Value} {x : AVal} (h : All2 R a.toList [x]) : ∃ v, a = #[v] ∧ R v x := by
  obtain ⟨a⟩ := a
  match a, h with
  | [v], h => exact ⟨v, rfl, h.1⟩
theorem inv_val {v : Value} {a : Val} (h : VR1 g l w v (.agg (valC a))) : v = .agg #[.int .i64 a.n, .string a.s] ∧ (Lit.int .i64 a.n).wf = true ∧ a.s.size ≤ maxLen := by
  obtain ⟨vs, e1, e2⟩ := h
  match vs, e2 with
  | [x, y], ⟨⟨f1, f2⟩, ⟨f3, f4⟩, _⟩ => subst f1; subst f3; exact ⟨e1, f2, f4⟩
theorem inv_c {v u : Value} (h : VR1 g l w v (.one (.c u))) : v = u ∧ wfV u := h
end

theorem valueOkI_c (v : Val) : AC Try.prog 154 [.agg (valC v)] [] (.one (.c (.bool (valOk v)))) [] :=
  AC.pure ⟨_, _, Try.func154, rfl, rfl⟩ trivial fun w g cargs h => by
    obtain ⟨x, rfl, h1⟩ := inv1 h
    obtain ⟨rfl, _, hs⟩ := inv_val h1
    exact valueOkI_any v.n v.s w hs
theorem valueOkS_c (v : Val) : AC Try.prog 150 [.agg (valC v)] [] (.one (.c (.bool (valOk v)))) [] :=
  AC.pure ⟨_, _, Try.func150, rfl, rfl⟩ trivial fun w g cargs h => by
    obtain ⟨x, rfl, h1⟩ := inv1 h
    obtain ⟨rfl, _, hs⟩ := inv_val h1
    exact valueOkS_any v.n v.s w hs
end Go.Proofs.Ytkemjhlbokldhaa

/- Data that lead nowhere. -/
namespace Go.Proofs.Ytkemjhlbokldhaa
open Go.RowKit
set_option linter.unusedVariables false
/-! truth values compared -/
section ops
variable {P : Program} {N : Nat} {s : St} {d : Nat} {ty : TypeId} {pos : String} {after : Array Edge} {gd : Option (Nat × Bool)}
end ops
/-! rows picked out -/
end Go.Proofs.Ytkemjhlbokldhaa

/- The abstract walk: a slice is nil or it is not. -/
namespace Go.Proofs.Ytkemjhlbokldhaa
open Go.RowKit
set_option linter.unusedVariables false
def caught (L : Locs) (ks : List Nat) : Bool := ks.all fun k => L.any fun p => Nat.beq p.1 k && (match p.2 with | some (.box _) => true | _ => false)
theorem caught_of {L : Locs} {ks : List Nat} (h : caught L ks = true) : ∀ k ∈ ks, ∃ cs, (k, some (Blk.box cs)) ∈ L := fun k hk => by
  obtain ⟨⟨j, b⟩, h1, h2⟩ := List.any_eq_true.1 (List.all_eq_true.1 h k hk)
  simp only [Bool.and_eq_true] at h2
  have e := Nat.eq_of_beq_eq_true h2.1
  subst e
  match b, h2.2, h1 with
  | some (.box cs), _, h1 => exact ⟨cs, h1⟩
section rules
variable {P : Program} {N : Nat} {K : List Nat} {Kn : St → Prop} {Q : Exit → St → Prop} {s : St}
theorem AW_split {α : Type} {e : Enc α} {xs : List α} {c : Code} (t : Nat) (h : lk s.t t = some (.one (.sl e xs))) (h1 : xs = [] → AW P N K c Kn Q ⟨(t, .one (.c (.slice none 0 0))) :: s.t, s.l⟩)
    (h2 : AW P N K c Kn Q ⟨(t, .one (.sn e xs)) :: s.t, s.l⟩) : AW P N K c Kn Q s := fun g a w r => by
  obtain ⟨ad, n, cap, bs, hv, hS, hI⟩ : CellR g s.l w (a.tmps.getD t undef) (.sl e xs) := r.tmp t _ h
  have up : ∀ {x : AVal}, VR g s.l w (a.tmps.getD t undef) x → Rep N g ⟨(t, x) :: s.t, s.l⟩ a w := fun {x} hx => ⟨r.size, r.defers, fun j y hj => by
    by_cases e : t = j
    · subst e; rw [lk_cons_self] at hj; cases hj; exact hx
    · rw [lk_cons_ne e] at hj; exact r.tmp j y hj, r.mem⟩
  cases ad with
  | none =>
    have hc := hS.2.2.2.1 rfl
    have hn : n = 0 := by have := hS.2.1; omega
    have hx : xs = [] := List.eq_nil_of_length_eq_zero (by have := hS.1; omega)
    subst hc; subst hn
    exact h1 hx g a w (up (x := .one (.c (.slice none 0 0))) ⟨hv, trivial⟩)
  | some ad => exact h2 g a w (up (x := .one (.sn e xs)) ⟨ad, n, cap, bs, hv, hS, hI⟩)
end rules
section names
variable {P : Program} {N : Nat} {dr : Bool} {ops r : List Oper} {opsA : Array Oper} {Kn : St → Prop} {s : St} {acc : List Cert}
/-- A truth value that a call with lent blocks returns gets a name. -/
theorem AL_bc {d : Nat} {op : Op} {ty : TypeId} {pos : String} {after : Array Edge} {e : Bool} {l' wl : Locs} {nw : List Nat} {rt : List (Nat × AVal)} {rl : List (Nat × Blk)} (h : Stp P N ⟨some d, op, ty, pos, after, none⟩ s ⟨(d, .one (.c (.bool e))) :: s.t, l'⟩ ⟨rt, rl, [(d, .one (.c (.bool e)))], wl, nw⟩)
    (next : ∀ b, e = b → AL P N dr opsA Kn r ⟨(d, .one (.c (.bool b))) :: s.t, l'⟩ (⟨rt, rl, [(d, .one (.c (.bool b)))], wl, nw⟩ :: acc)) : AL P N dr opsA Kn (⟨some d, op, ty, pos, after, none⟩ :: r) s acc :=
  AL_p h (next e rfl)
theorem AL_gbc {d : Nat} {op : Op} {ty : TypeId} {pos : String} {after : Array Edge} {j t : Nat} {g : Bool} {e : Bool} {l' wl : Locs} {nw : List Nat} {rt : List (Nat × AVal)} {rl : List (Nat × Blk)} (hj : gslot opsA j = some t) (hb : lk s.t t = some (.one (.c (.bool g))))
    (h : Stp P N ⟨some d, op, ty, pos, after, some (j, g)⟩ s ⟨(d, .one (.c (.bool e))) :: s.t, l'⟩ ⟨rt, rl, [(d, .one (.c (.bool e)))], wl, nw⟩)
    (next : ∀ b, e = b → AL P N dr opsA Kn r ⟨(d, .one (.c (.bool b))) :: s.t, l'⟩ (⟨(t, .one (.c (.bool g))) :: rt, rl, [(d, .one (.c (.bool b)))], wl, nw⟩ :: acc)) : AL P N dr opsA Kn (⟨some d, op, ty, pos, after, some (j, g)⟩ :: r) s acc :=
  AL_g hj hb h (next e rfl)
end names
section ops
variable {P : Program} {N : Nat} {s : St} {d : Nat} {ty : TypeId} {pos : String} {after : Array Edge} {gd : Option (Nat × Bool)}
theorem guard_slice {op : BinOp} {T : TypeId} {x y : Operand} {a b : Option Addr} {n c m k : Nat} {w : World} : (eqGuard op T x y (.slice a n c) (.slice b m k)).run P w = .ok () w := by cases op <;> rfl
theorem x_nilnil {T T' E n : Nat} {x y : Operand} (hN : Nat.blt d N = true) (h : evo s.t x = some (.one (.c (.slice none 0 0)))) (h2 : evo s.t y = some (.one (.c (.slice none 0 0)))) (hT : sliceT P T = some (E, n)) :
    Stp P N ⟨some d, .binOp .eql T x y T', ty, pos, after, gd⟩ s ⟨(d, .one (.c (.bool true))) :: s.t, s.l⟩ ⟨rdo x (.one (.c (.slice none 0 0))) ++ rdo y (.one (.c (.slice none 0 0))), [], [(d, .one (.c (.bool true)))], [], []⟩ :=
  Stp.pure rfl hN (two_rd h h2) (by simp) fun g s' a w ht hl' r => by
    obtain ⟨⟨e1, _⟩, e2, _⟩ := two_c r (evs_of h) (evs_of h2) ht
    refine ⟨.bool true, run_binOp rfl ?_, rfl, trivial⟩
    rw [e1, e2]
    simp only [Sem.run_bind, guard_slice, Result.andThen_ok, Lib.run_eql_slice_nil w T E none 0 0 0 0 (sliceT_spec hT).1]; rfl
theorem x_snnil {α : Type} {e : Enc α} {xs : List α} {T T' E n : Nat} {x y : Operand} (hN : Nat.blt d N = true) (h : evo s.t x = some (.one (.sn e xs))) (h2 : evo s.t y = some (.one (.c (.slice none 0 0)))) (hT : sliceT P T = some (E, n)) :
    Stp P N ⟨some d, .binOp .eql T x y T', ty, pos, after, gd⟩ s ⟨(d, .one (.c (.bool false))) :: s.t, s.l⟩ ⟨rdo x (.one (.sn e xs)) ++ rdo y (.one (.c (.slice none 0 0))), [], [(d, .one (.c (.bool false)))], [], []⟩ :=
  Stp.pure rfl hN (two_rd h h2) (by simp) fun g s' a w ht hl' r => by
    obtain ⟨ad, m, cap, bs, e1, _⟩ : CellR g s'.l w (a.eval x) (.sn e xs) := eval_ok r (evs_of h) fun p hp => ht p (List.mem_append_left _ hp)
    obtain ⟨e2, _⟩ : a.eval y = .slice none 0 0 ∧ wfV _ := eval_ok r (evs_of h2) fun p hp => ht p (List.mem_append_right _ hp)
    refine ⟨.bool false, run_binOp rfl ?_, rfl, trivial⟩
    rw [e1, e2]
    simp only [Sem.run_bind, guard_slice, Result.andThen_ok, Lib.run_eql_slice_nil w T E (some ad) m cap 0 0 (sliceT_spec hT).1]; rfl
theorem x_move_sn {α : Type} {e : Enc α} {xs : List α} {x : Operand} (hN : Nat.blt d N = true) (h : evo s.t x = some (.one (.sn e xs))) : Stp P N ⟨some d, .move x, ty, pos, after, gd⟩ s ⟨(d, .one (.sl e xs)) :: s.t, s.l⟩ ⟨rdo x (.one (.sn e xs)), [], [(d, .one (.sl e xs))], [], []⟩ :=
  Stp.pure rfl hN (rdo_of h) (by simp) fun g s' a w ht hl' r => by
    obtain ⟨ad, m, cap, bs, e1, e2, e3⟩ : CellR g s'.l w (a.eval x) (.sn e xs) := eval_ok r (evs_of h) ht
    exact ⟨a.eval x, by simp [execOp], some ad, m, cap, bs, e1, e2, e3⟩
end ops
/-- What lies in memory is not too long. -/
theorem AW_slmax {P : Program} {N : Nat} {K : List Nat} {c : Code} {Kn : St → Prop} {Q : Exit → St → Prop} {s : St} {α : Type} {e : Enc α} {xs : List α} (t : Nat) (h : lk s.t t = some (.one (.sl e xs))) (hA : xs.length ≤ 9223372036854775807 → AW P N K c Kn Q s) : AW P N K c Kn Q s := fun g a w r => by
  obtain ⟨a0, n, cap, bs, _, h1, _⟩ : ∃ a0 n cap bs, a.tmps.getD t undef = .slice a0 n cap ∧ SliceRep e w a0 n cap xs bs ∧ ∀ b ∈ bs, g.I b := r.tmp t _ h
  exact hA h1.max g a w r
theorem AW_aggmax {P : Program} {N : Nat} {K : List Nat} {c : Code} {Kn : St → Prop} {Q : Exit → St → Prop} {s : St} {α : Type} {e : Enc α} {xs : List α} {cs : List Cell} (t i : Nat) (h : lk s.t t = some (.agg cs)) (hi : nthC cs i = some (.sl e xs)) (hA : xs.length ≤ 9223372036854775807 → AW P N K c Kn Q s) : AW P N K c Kn Q s := fun g a w r => by
  obtain ⟨vs, _, h2⟩ : ∃ vs : List Value, a.tmps.getD t undef = .agg vs.toArray ∧ All2 (CellR g s.l w) vs cs := r.tmp t _ h
  obtain ⟨v, _, h4⟩ := h2.get (nthC_get hi)
  obtain ⟨a0, n, cap, bs, _, h1, _⟩ := h4
  exact hA h1.max g a w r
theorem AW_aggsmax {P : Program} {N : Nat} {K : List Nat} {c : Code} {Kn : St → Prop} {Q : Exit → St → Prop} {s : St} {b : ByteArray} {cs : List Cell} (t i : Nat) (h : lk s.t t = some (.agg cs)) (hi : nthC cs i = some (.c (.string b))) (hA : b.size ≤ 9223372036854775807 → AW P N K c Kn Q s) : AW P N K c Kn Q s := fun g a w r => by
  obtain ⟨vs, _, h2⟩ : ∃ vs : List Value, a.tmps.getD t undef = .agg vs.toArray ∧ All2 (CellR g s.l w) vs cs := r.tmp t _ h
  obtain ⟨v, _, h4⟩ := h2.get (nthC_get hi)
  exact hA (by have h3 : b.size ≤ maxLen := h4.2; unfold maxLen at h3; omega) g a w r
theorem ba_beq_self (a : ByteArray) : (a == a) = true := by rw [beq_toListBytes]; simp
end Go.Proofs.Ytkemjhlbokldhaa

/- From a contract of the abstract walk back to a call in a world. -/
namespace Go.Proofs.Ytkemjhlbokldhaa
open Go.RowKit
set_option linter.unusedVariables false

/-- All memory that stands is read alone. -/
def allI (w : World) : Gh := ⟨fun b => b < w.heap.size, id, fun _ => .slice none 0 0, fun _ => []⟩
theorem allI_mem (w : World) : MemR (allI w) [] w :=
  ⟨fun b hb => hb, fun k cs hk => (by simp [lkl, lk] at hk), fun k α T e xs d hk => (by simp [lkl, lk] at hk), fun j k b b' _ hj => (by simp [lkl, lk] at hj), fun k α T e xs hk => (by simp [lkl, lk] at hk), fun j k α β T U e f xs ys _ hj => (by simp [lkl, lk] at hj)⟩
theorem Step.below {g g' : Gh} {w w' : World} (h : Step (keys ([] : Locs)) g [] w g' [] w') : Below w.heap.size w w' :=
  ⟨h.os, h.tape, h.output, h.size, fun b hb => h.keep b hb fun k blk hk => (by simp [lkl, lk] at hk)⟩
theorem arg_agg {α : Type} {e : Enc α} {f : α → List Cell} [i : CellsOf e f] {w : World} {cs : Array Value} {x : α} {b : List Nat} (h : e.rep w cs.toList x b) : VR1 (allI w) [] w (.agg cs) (.agg (f x)) :=
  ⟨cs.toList, rfl, (i.iff.1 h).all2 fun j hj => e.lt h j hj⟩
end Go.Proofs.Ytkemjhlbokldhaa

/- From contracts that leave own memory to calls in a world: what is handed back is fresh. -/
namespace Go.Proofs.Ytkemjhlbokldhaa
open Go.RowKit
set_option linter.unusedVariables false

end Go.Proofs.Ytkemjhlbokldhaa

/- The abstract walk: make. -/
namespace Go.Proofs.Ytkemjhlbokldhaa
open Go.RowKit
set_option linter.unusedVariables false

theorem plainL_fr {w : World} : ∀ {vs : List Value} {cs : List Cell}, plainL vs = some cs → FR w vs cs []
  | [], cs, h => by cases h; rfl
  | v :: vs, cs, h => by
    simp only [plainL] at h
    split at h
    · rename_i hb hc
      cases h
      exact ⟨[], [], rfl, ⟨rfl, wf_of_plain hb, rfl⟩, plainL_fr hc⟩
    · cases h
section ops
variable {P : Program} {N : Nat} {s : St} {d : Nat} {ty : TypeId} {pos : String} {after : Array Edge} {gd : Option (Nat × Bool)}
/-- A new array of n zero elements. -/
theorem x_make {α : Type} {e : Enc α} {f : α → List Cell} [hc : CellsOf e f] {T E n : Nat} {x y : Operand} (x0 : α) {z : Value} {cs : List Cell} (k : Nat) (hN : Nat.blt d N = true)
    (h : evo s.t x = some (.one (.c (.int .i64 (n : Int))))) (h2 : evo s.t y = some (.one (.c (.int .i64 (n : Int))))) (hz : zeroT P E = some z) (hzc : plainL z.cells.toList = some cs) (hfit : FitL cs (f x0))
    (hk : lk s.l k = none) (hi : noId k s.ids = true) (hT : arrOk P T E e.size = true) (hn : n ≤ 1000000000) :
    Stp P N ⟨some d, .makeSlice T x y, ty, pos, after, gd⟩ s ⟨(d, .one (.own k)) :: s.t, (k, some (.arr E e (List.replicate n x0) true)) :: s.l⟩ ⟨rdo x (.one (.c (.int .i64 (n : Int)))) ++ rdo y (.one (.c (.int .i64 (n : Int)))), [], [(d, .one (.own k))], [(k, some (.arr E e (List.replicate n x0) true))], [k]⟩ := by
  refine ⟨fun K g s' a w hp r => ?_, ⟨two_rd h h2, by simp, fun j hj => by simp at hj; subst hj; exact ⟨hk, noId_of hi⟩⟩, rfl⟩
  obtain ⟨p1, p2, p3⟩ := hp
  obtain ⟨⟨e1, _⟩, e2, _⟩ := two_c r (evs_of h) (evs_of h2) p1
  obtain ⟨n1, n2⟩ := p3 k (by simp)
  obtain ⟨b, hTT, hb⟩ := arrOk_spec hT
  obtain ⟨hu, hn0, ti, z', hti, hz', hzs, htis, htib⟩ := arrT_spec hTT
  have hzz : z' = z := by
    unfold zeroT at hz
    rw [hti] at hz
    simp only at hz
    rw [hz'] at hz
    exact Option.some.inj hz
  subst hzz
  have hb' := Nat.le_of_ble_eq_true hb
  have hrun := run_make_rowN (P := P) T E ti z' hu hti hz' .i64 .i64 n n (Nat.le_refl _) (by
    rw [htib]
    have : b * n ≤ 100000 * 1000000000 := Nat.mul_le_mul hb' hn
    omega) (by omega) w
  rw [htis] at hrun
  have hrep : ∀ w, e.rep w z'.cells.toList x0 [] := fun w => hc.iff.2 ((plainL_fr hzc).fit hfit)
  obtain ⟨bs, hS, hF⟩ := SliceRep.made hrep hn0 n (by unfold maxLen; omega) w E
  have hmax : n ≤ maxLen := by unfold maxLen; omega
  have hsz : (madeCells z'.cells (n * e.size)).size = n * e.size := by simp [madeCells]
  obtain ⟨g', q1, q2, q3, q4, q5, q6, q7⟩ := arr_new (w' := w.alloc (.cells (madeCells z'.cells (n * e.size)) E)) r.mem n1 (fun h => n2 (List.mem_append_right _ h)) (js := []) (fz := []) (fun _ h => h) (fun j hj => by cases hj) (T := E) (e := e) (xs := List.replicate n x0) (d := true) (blk := w.heap.size) (v := .slice (some ⟨w.heap.size, 0, none⟩) n n) (fp := [])
    rfl rfl rfl (by simp) (fun b hb _ => Below.heap_alloc w _ b hb)
    (.inr ⟨n, madeCells z'.cells (n * e.size), List.replicate n [], by
      show setAt g.hd k _ k = .slice (some ⟨setAt g.ρ k _ k, 0, none⟩) _ _
      rw [setAt_self, setAt_self]; simp, by simp, hmax, by
      show (w.alloc _).heap[setAt g.ρ k _ k]? = _
      rw [setAt_self]; exact heap_alloc_new w _, hsz, by
      show Elems e _ (setAt g.ρ k _ k) 0 _ _
      rw [setAt_self]
      refine ⟨by simp, fun i x b hx hb => ?_⟩
      have hi : i < n := by have := (List.getElem?_eq_some_iff.1 hx).1; simpa using this
      have hne : List.replicate n x0 ≠ [] := by intro e; have := congrArg List.length e; simp at this; omega
      obtain ⟨g2, off, bss, ha, _, _, hE⟩ := hS.parts hne
      simp only [Option.some.injEq, Addr.mk.injEq, and_true] at ha
      obtain ⟨rfl, rfl⟩ := ha
      rw [List.getElem?_replicate, if_pos hi] at hx hb
      cases hx; cases hb
      have hzl : z'.cells.size = e.size := by simpa using e.len (hrep w)
      refine ⟨z'.cells.toList, hrep _, fun j u hu => ?_⟩
      have hj : j < z'.cells.size := by have := (List.getElem?_eq_some_iff.1 hu).1; simpa using this
      rw [cell_of_heap (heap_alloc_new w _), Nat.zero_add]
      have := madeCells_get (z := z'.cells) hi hj
      rw [hzl] at this
      rw [this]
      simpa [List.getElem?_eq_getElem (l := z'.cells.toList) (by simpa using hj)] using hu,
      (fun b hb => by simp at hb), (fun hI => by
        have h3 : (g.I (setAt g.ρ k w.heap.size k) ∨ liveA g [] (setAt g.ρ k w.heap.size k)) := hI
        rw [setAt_self] at h3
        rcases h3 with hI | ⟨j, hj, _⟩
        · have := r.mem.ilt _ hI; omega
        · cases hj), fun _ => by show setAt g.F k [] k = _; rw [setAt_self]; simp⟩)
    (fun _ => ⟨by simp, .inl (Nat.le_refl _)⟩) (fun _ => ⟨List.nodup_nil, fun b hb => by cases hb⟩)
  unfold Oper.wp
  have hrun' : (execOp a.eval ⟨some d, .makeSlice T x y, ty, pos, after, gd⟩).run P w = .ok (.value (.slice (some ⟨w.heap.size, 0, none⟩) n n)) (w.alloc (.cells (madeCells z'.cells (n * e.size)) E)) := by
    simp only [execOp, e1, e2, Sem.run_bind, hrun, Result.andThen_ok]; rfl
  rw [hrun', Oper.upon_value]
  refine ⟨g', r.next (blt_lt hN) q5 q6 (by simp) (fun j hj => q7 j fun e => n2 (e ▸ hj)) (fun β U e2 ys dd hc => ?_) q3, q4 K⟩
  exact q2.symm
end ops
end Go.Proofs.Ytkemjhlbokldhaa

/- The abstract walk: an element of an own array written anew. -/
namespace Go.Proofs.Ytkemjhlbokldhaa
open Go.RowKit
set_option linter.unusedVariables false
section
variable {g : Gh} {l : Locs} {w w' : World}
/-- The array k holds other elements; the arrays js are gone into it. -/
theorem arr_put (m : MemR g l w) {k : Nat} {α : Type} {T : TypeId} {e : Enc α} {xs0 xs : List α} {d0 d : Bool} (hk : lkl l k = some (.arr T e xs0 d0)) (hlv : g.hd k ≠ .slice none 0 0) {js : List Nat} (hkj : k ∉ js)
    (hjs : ∀ j ∈ js, ∃ (α : Type) (T : TypeId) (e : Enc α) (xs : List α) (d : Bool), lkl l j = some (.arr T e xs d)) {fp : List Nat}
    (hos : w'.os = w.os) (htp : w'.tape = w.tape) (hout : w'.output = w.output) (hs : w'.heap.size = w.heap.size) (hkeep : ∀ b, b ≠ g.ρ k → w'.heap[b]? = w.heap[b]?)
    (hA : ArrR ⟨fun b => g.I b ∨ liveA g js b, g.ρ, g.hd, setAt g.F k fp⟩ w' k T e xs d)
    (hfp : d = true → fp.Nodup ∧ ∀ b ∈ fp, (g.I b ∨ liveA g js b) ∧ (∃ c t, w'.heap[b]? = some (.cells c t (0, 0))) ∧ ((d0 = true ∧ b ∈ g.F k) ∨ ∃ j ∈ js, Via g l j b)) :
    ∃ g', g'.ρ k = g.ρ k ∧ g'.hd k = g.hd k ∧ MemR g' ((k, some (.arr T e xs d)) :: (gones js ++ l)) w' ∧ (∀ K, Step K g l w g' ((k, some (.arr T e xs d)) :: (gones js ++ l)) w') ∧
      (∀ b, g.I b → w'.heap[b]? = w.heap[b]?) ∧ (∀ b, g.I b → g'.I b) ∧ ∀ j, okK g l g' ((k, some (.arr T e xs d)) :: (gones js ++ l)) j := by
  let g' : Gh := ⟨fun b => g.I b ∨ liveA g js b, g.ρ, g.hd, setAt g.F k fp⟩
  have hnI := m.notI hk hlv
  have hi : ∀ b, g.I b → w'.heap[b]? = w.heap[b]? := fun b hb => hkeep b fun e => hnI (e ▸ hb)
  have hl' : ∀ j, j ≠ k → lkl ((k, some (.arr T e xs d)) :: (gones js ++ l)) j = if j ∈ js then none else lkl l j := fun j hj => by
    rw [lkl_cons_ne (Ne.symm hj), lkl_gones]
  have hu : ∀ j, j ≠ k → lkl ((k, some (.arr T e xs d)) :: (gones js ++ l)) j = none ∨ Untouched g l w g' ((k, some (.arr T e xs d)) :: (gones js ++ l)) w' j := fun j hj => by
    by_cases h : j ∈ js
    · left; rw [hl' j hj, if_pos h]
    · right
      refine ⟨by rw [hl' j hj, if_neg h], rfl, rfl, setAt_ne hj, fun b hb hlv' => ⟨hkeep _ (m.dis j k _ _ hj hb hk hlv' hlv), fun hI => ?_⟩⟩
      rcases hI with hI | ⟨i, hij, hil, e⟩
      · exact m.notI hb hlv' hI
      · obtain ⟨_, _, _, _, _, h1⟩ := hjs i hij
        exact m.dis j i _ _ (fun e => h (e ▸ hij)) hb h1 hlv' hil e
  have ok : ∀ j, okK g l g' ((k, some (.arr T e xs d)) :: (gones js ++ l)) j := fun j => by
    by_cases hj : j = k
    · subst hj
      refine ⟨fun cs hc => ?_, fun β U e2 ys dd hc => ?_⟩
      · rw [lkl_cons_self] at hc; cases hc
      · rw [lkl_cons_self] at hc; cases hc
        exact ⟨α, T, e, xs0, d0, hk, rfl, rfl, rfl⟩
    · rcases hu j hj with h | h
      · exact okK.gone h
      · exact h.ok
  have hlt : ∀ b, g'.I b → b < w'.heap.size := fun b hb => by
    rw [hs]
    rcases hb with hb | ⟨i, hij, hil, e⟩
    · exact m.ilt b hb
    · obtain ⟨_, _, _, _, _, h1⟩ := hjs i hij
      rw [e]; exact m.lt h1 hil
  refine ⟨g', rfl, rfl, m.set1 k hi (fun b hb => .inl hb) (Nat.le_of_eq hs.symm) hlt hu (.inl (ok k)) (fun cs hc => ?_) (fun β U e2 ys d2 hc => ?_) (fun j b b' hj h1 h2 h3 l1 l2 => m.dis j k _ _ hj h2 hk l1 hlv) (fun β U e2 ys hc => ?_) (fun j β γ U V e2 e3 ys zs hj h1 h2 h3 => ?_), fun K => ?_, hi, fun b hb => .inl hb, ok⟩
  · rw [lkl_cons_self] at hc; cases hc
  · rw [lkl_cons_self] at hc; cases hc; exact hA
  · rw [lkl_cons_self] at hc; cases hc
    rw [show g'.F k = fp from setAt_self]
    obtain ⟨n1, n2⟩ := hfp rfl
    exact ⟨n1, fun b hb => ⟨(n2 b hb).1, (n2 b hb).2.1⟩⟩
  · rw [lkl_cons_self] at h3; cases h3
    rw [show g'.F k = fp from setAt_self]
    intro b hb hb'
    rcases ((hfp rfl).2 b hb').2.2 with ⟨rfl, h5⟩ | ⟨i, hij, hvia⟩
    · exact m.fd j k _ _ _ _ _ _ _ _ hj h2 hk b hb h5
    · have : j = i := Via.disj m (b := b) ⟨β, U, e2, ys, h2, .inr hb⟩ hvia
      subst this
      rw [hl' j hj, if_pos hij] at h1; cases h1
  · refine ⟨hos, htp, hout, Nat.le_of_eq hs.symm, fun b hb hn => hkeep b (hn k _ hk hlv), fun b hb => .inl hb, fun b hb => ?_, own_set1 k hu (fun b hb hl => .inl (OwnB.of_live hk hlv)) (fun β U e2 ys hc b hb => ?_), fun j hj hn => ?_⟩
    · rcases hb with hb | ⟨i, hij, hil, e⟩
      · exact .inl hb
      · obtain ⟨_, _, _, _, _, h1⟩ := hjs i hij
        exact .inr (.inr (e ▸ OwnB.of_live h1 hil))
    · rw [lkl_cons_self] at hc; cases hc
      rw [show g'.F k = fp from setAt_self] at hb
      rcases ((hfp rfl).2 b hb).2.2 with ⟨rfl, h5⟩ | ⟨i, hij, hvia⟩
      · exact .inl ⟨k, _, hk, .inr ⟨_, _, _, _, rfl, h5⟩⟩
      · exact .inl hvia.own
    · refine ⟨?_, ok j, fun cs hc => ?_⟩
      · by_cases hjk : j = k
        · subst hjk; rw [lk_cons_self]; simp
        · rw [lk_cons_ne (Ne.symm hjk), lk_gones]
          split
          · simp
          · exact hn
      · have hjk : j ≠ k := fun e => by subst e; rw [hk] at hc; cases hc
        refine ⟨cs, ?_⟩
        rw [hl' j hjk, if_neg]
        · exact hc
        · intro hjj
          obtain ⟨_, _, _, _, _, h1⟩ := hjs j hjj
          rw [hc] at h1; cases h1
end
section ops
variable {P : Program} {N : Nat} {s : St} {ty : TypeId} {pos : String} {after : Array Edge} {gd : Option (Nat × Bool)}
/-- A whole element written. -/
theorem x_ostore {α : Type} {e : Enc α} {f : α → List Cell} [hc : CellsOf e f] {T E n i k : Nat} {x y : Operand} {X : AVal} {xs : List α} (x' : α) {ds : List Cell} {js : List Nat} {d1 d2 : Bool} (h : evo s.t x = some (.one (.optr k i 0))) (hl : lkl s.l k = some (.arr E e xs d1)) (h2 : evo s.t y = some X) (hf : X.flat = true)
    (hT : sizeT P T = some n) (hn : X.cells.length = n) (hes : e.size = n) (hsol : X.cells.all (solid s.l) = true) (hmv : mvC s.l X.cells = some (ds, js, d2)) (hfit : FitL ds (f x')) (hnd : noDup js = true) (hkj : noId k js = true) (hi : i < xs.length) :
    Stp P N ⟨none, .store T x y, ty, pos, after, gd⟩ s ⟨s.t, (k, some (.arr E e (xs.set i x') (d1 && d2))) :: (gones js ++ s.l)⟩ ⟨rdo x (.one (.optr k i 0)) ++ rdo y X, (k, .arr E e xs d1) :: rlC s.l X.cells, [], (k, some (.arr E e (xs.set i x') (d1 && d2))) :: gones js, []⟩ := by
  refine ⟨fun K g s' a w hpre r => ?_, ⟨two_rd h h2, fun p hp => by
    rcases List.mem_cons.1 hp with rfl | hp
    · exact hl
    · exact rlC_self p hp, by simp⟩, by simp [Cert.upd]⟩
  obtain ⟨p1, p2, _⟩ := hpre
  have hk : lkl s'.l k = some (.arr E e xs d1) := p2 (k, .arr E e xs d1) (List.mem_cons_self ..)
  have p2' : ∀ p ∈ rlC s.l X.cells, lkl s'.l p.1 = some p.2 := fun p hp => p2 p (List.mem_cons_of_mem _ hp)
  have ha : a.eval x = .pointer (some ⟨g.ρ k, i * e.size + 0, none⟩) := (eval_ok r (evs_of h) fun p hm => p1 p (List.mem_append_left _ hm) : CellR g s'.l w _ (.optr k i 0)) _ _ _ _ _ hk
  have hv := eval_ok r (evs_of h2) fun p hm => p1 p (List.mem_append_right _ hm)
  have hs' : X.cells.all (solid s'.l) = true := List.all_eq_true.2 fun z hz => solid_of p2' hz (List.all_eq_true.1 hsol z hz)
  have hall := vr1_cells hs' r.mem hv hf
  have hmv' := mvC_of hmv p2'
  have hjn := noDup_of hnd
  have hkj' := noId_of hkj
  have hgone : ∀ j ∈ js, ∃ (α : Type) (T : TypeId) (e : Enc α) (xs : List α) (d : Bool), lkl s'.l j = some (.arr T e xs d) := fun j hj => (mvC_gone hmv' j hj).1
  obtain ⟨b', f1, f2, f3⟩ := mvC_ok r.mem hall hmv' hjn
  have hrep := hc.iff.2 (f1.fit hfit)
  have hlen : (a.eval y).cells.size = n := by rw [← hn]; simpa using hall.len
  have hll : (a.eval y).cells.toList.length = e.size := e.len hrep
  rcases r.mem.arr k _ _ _ _ _ hk with ⟨rfl, _⟩ | ⟨cap, vs, bss, g1, g2, g3, g4, g5, g6, g7, g8, g9⟩
  · simp at hi
  have hlv : g.hd k ≠ .slice none 0 0 := by rw [g1]; intro e; cases e
  have hib : i < bss.length := by rw [g6.1]; exact hi
  have hfitc : i * e.size + (a.eval y).cells.toList.length ≤ vs.size := by
    rw [hll, g5]
    have : (i + 1) * e.size ≤ cap * e.size := Nat.mul_le_mul_right _ (by omega)
    rw [Nat.add_mul] at this; omega
  have one : ∀ v ∈ (a.eval y).cells.toList, v.oneCell' = true := FR.one f1
  have hst := run_storeCells_at P (g.ρ k) (i * e.size) E (a.eval y).cells.toList 0 vs w g4 (by simpa using hfitc) one
  generalize hnew : (vs.toList.take (i * e.size) ++ (a.eval y).cells.toList ++ vs.toList.drop (i * e.size + (a.eval y).cells.toList.length)).toArray = new at *
  have hng : ∀ q, new[q]? = if i * e.size ≤ q ∧ q < i * e.size + e.size then (a.eval y).cells.toList[q - i * e.size]? else vs[q]? := fun q => by
    rw [← hnew, List.getElem?_toArray]
    have hl0 : (vs.toList.take (i * e.size)).length = i * e.size := by simp; omega
    rcases Nat.lt_or_ge q (i * e.size) with hq | hq
    · rw [if_neg (by omega), List.append_assoc, List.getElem?_append_left (by omega), List.getElem?_take, if_pos hq]; simp
    · rw [List.append_assoc, List.getElem?_append_right (by omega), hl0]
      rcases Nat.lt_or_ge q (i * e.size + e.size) with hq2 | hq2
      · rw [if_pos ⟨hq, hq2⟩, List.getElem?_append_left (by omega)]
      · rw [if_neg (by omega), List.getElem?_append_right (by omega), List.getElem?_drop, hll, show i * e.size + e.size + (q - i * e.size - e.size) = q by omega]; simp
  have hns : new.size = vs.size := by rw [← hnew]; simp; omega
  have hwk : (w.setRow (g.ρ k) new).heap[g.ρ k]? = some (.cells new E (0, 0)) := setRow_heap w _ _ _ E _ g4
  have hwo : ∀ b, b ≠ g.ρ k → (w.setRow (g.ρ k) new).heap[b]? = w.heap[b]? := fun b hb => setRow_other w _ b _ hb
  have hsz : (w.setRow (g.ρ k) new).heap.size = w.heap.size := by simp
  have hbk : ∀ b ∈ b', b ≠ g.ρ k := fun b hb eq => by
    rcases f2 b hb with h3 | ⟨j, hj, h3, h4⟩
    · exact g8 (eq ▸ h3)
    · obtain ⟨_, _, _, _, _, h5⟩ := hgone j hj
      exact r.mem.dis j k _ _ (fun e => hkj' (e ▸ hj)) h5 hk h3 hlv (h4 ▸ eq)
  have hE := g6.upd (w' := w.setRow (g.ρ k) new) (k := i) (x' := x') (b' := b') (e.keep hrep (fun b hb => hwo b (hbk b hb)) (Nat.le_of_eq hsz.symm)) (fun j u hu => by
      have hj := (List.getElem?_eq_some_iff.1 hu).1
      rw [cell_of_heap hwk, hng, if_pos (by omega), show 0 + i * e.size + j - i * e.size = j by omega, hu]) (fun q hq => by
      rw [cell_of_heap hwk, hng, cell_of_heap g4, if_neg (by rw [Nat.add_mul] at hq; omega)]) (fun q b hq hb c hcb => hwo c fun eq => g8 (eq ▸ g7 c (List.mem_flatten.2 ⟨b, List.mem_of_getElem? hb, hcb⟩))) (Nat.le_of_eq hsz.symm)
  have hmem : ∀ b ∈ (bss.set i b').flatten, g.I b ∨ liveA g js b := fun b hb => by
    rcases flatten_set bss hib b hb with h3 | h3
    · exact f2 b h3
    · exact .inl (g7 b h3)
  obtain ⟨g', q1, q2, q3, q4, q5, q6, q7⟩ := arr_put (w' := w.setRow (g.ρ k) new) r.mem hk hlv hkj' hgone (xs := xs.set i x') (d := d1 && d2) (fp := (bss.set i b').flatten) rfl rfl rfl hsz hwo
    (.inr ⟨cap, new, bss.set i b', by rw [List.length_set]; exact g1, by rw [List.length_set]; exact g2, g3, hwk, hns.trans g5, hE, hmem, (fun hI => by
      rcases hI with hI | ⟨j, hj, h3, h4⟩
      · exact g8 hI
      · obtain ⟨_, _, _, _, _, h5⟩ := hgone j hj
        exact r.mem.dis j k _ _ (fun e => hkj' (e ▸ hj)) h5 hk h3 hlv h4.symm), fun _ => setAt_self⟩)
    (fun hd => by
      simp only [Bool.and_eq_true] at hd
      obtain ⟨rfl, rfl⟩ := hd
      obtain ⟨n1, n2⟩ := f3 rfl
      have hF := g9 rfl
      have hvk : ∀ b ∈ bss.flatten, Via g s'.l k b := fun b hb => ⟨α, E, e, xs, hk, .inr (by rw [hF]; exact hb)⟩
      refine ⟨nodup_set n1 bss i hib (by rw [← hF]; exact (r.mem.fr k _ _ _ _ hk).1) (fun c hcb => .inr fun h3 => by
        obtain ⟨j, hj, hvj⟩ := n2 c hcb
        exact hkj' ((hvk c h3).disj r.mem hvj ▸ hj)), fun b hb => ⟨hmem b hb, ?_, ?_⟩⟩
      · rcases flatten_set bss hib b hb with h3 | h3
        · obtain ⟨j, hj, hvj⟩ := n2 b h3
          obtain ⟨c, t, h4⟩ := hvj.cells r.mem
          exact ⟨c, t, by rw [hwo b (hbk b h3)]; exact h4⟩
        · obtain ⟨c, t, h4⟩ := (hvk b h3).cells r.mem
          exact ⟨c, t, by rw [hwo b fun eq => g8 (eq ▸ g7 b h3)]; exact h4⟩
      · rcases flatten_set bss hib b hb with h3 | h3
        · exact .inr (n2 b h3)
        · exact .inl ⟨rfl, by rw [hF]; exact h3⟩)
  unfold Oper.wp
  have hrun : (execOp a.eval ⟨none, .store T x y, ty, pos, after, gd⟩).run P w = .ok .skip (w.setRow (g.ρ k) new) := by
    unfold sizeT at hT
    split at hT
    · rename_i ti hti
      cases hT
      simp only [execOp, Instr.storeAt, ha, Instr.sureAddr, storeVar, sizeOf, typeInfo, Sem.run_bind, Sem.run_pure, program, Sem.run, hti, Result.andThen_ok, hlen, ne_eq, not_true_eq_false, if_false]
      simp only [Nat.add_zero] at hst ⊢
      rw [hst]; rfl
    · cases hT
  rw [hrun, Oper.upon_skip]
  exact ⟨g', r.next0 q5 q6 (Nat.le_of_eq hsz.symm) (fun j _ => q7 j) q3, q4 K⟩
end ops
/-! filled from the front -/
def filledTo {α : Type} (xs : List α) (x0 : α) (k : Nat) : List α := xs.take k ++ List.replicate (xs.length - k) x0
theorem filledTo_zero {α : Type} {xs : List α} {x0 : α} : List.replicate xs.length x0 = filledTo xs x0 0 := by simp [filledTo]
theorem filledTo_len {α : Type} {xs : List α} {x0 : α} {k : Nat} (hk : k ≤ xs.length) : (filledTo xs x0 k).length = xs.length := by simp [filledTo]; omega
theorem filledTo_succ {α : Type} {xs : List α} {x0 : α} {k : Nat} (hk : k < xs.length) : (filledTo xs x0 k).set k xs[k] = filledTo xs x0 (k + 1) := (Filled.succ (xs := xs) (x0 := x0) (ys := filledTo xs x0 k) rfl hk)
theorem filledTo_done {α : Type} {xs : List α} {x0 : α} {k : Nat} (hk : xs.length ≤ k) : filledTo xs x0 k = xs := by
  unfold filledTo
  rw [List.take_of_length_le hk, show xs.length - k = 0 by omega]; simp
end Go.Proofs.Ytkemjhlbokldhaa

/- Marks: own data written anew in place, cell by cell. -/
namespace Go.Proofs.Ytkemjhlbokldhaa
open Go.RowKit
set_option linter.unusedVariables false

/-- Of the blocks that stood, only those named may have turned; they may still be written. -/
structure Only (bs : List Nat) (w w' : World) : Prop where
  os : w'.os = w.os
  tape : w'.tape = w.tape
  output : w'.output = w.output
  size : w.heap.size ≤ w'.heap.size
  keep : ∀ b, b < w.heap.size → b ∉ bs → w'.heap[b]? = w.heap[b]?
  shape : ∀ b ∈ bs, ∀ c t, w.heap[b]? = some (.cells c t (0, 0)) → ∃ c', w'.heap[b]? = some (.cells c' t (0, 0)) ∧ c'.size = c.size
theorem Only.refl (bs : List Nat) (w : World) : Only bs w w := ⟨rfl, rfl, rfl, Nat.le_refl _, fun _ _ _ => rfl, fun _ _ c t h => ⟨c, h, rfl⟩⟩
theorem Only.trans {bs : List Nat} {w w1 w2 : World} (h : Only bs w w1) (h' : Only bs w1 w2) : Only bs w w2 :=
  ⟨h'.os.trans h.os, h'.tape.trans h.tape, h'.output.trans h.output, Nat.le_trans h.size h'.size, fun b hb hn => (h'.keep b (Nat.lt_of_lt_of_le hb h.size) hn).trans (h.keep b hb hn), fun b hb c t hc => by
    obtain ⟨c1, h1, z1⟩ := h.shape b hb c t hc
    obtain ⟨c2, h2, z2⟩ := h'.shape b hb c1 t h1
    exact ⟨c2, h2, z2.trans z1⟩⟩
theorem Only.below {bs : List Nat} {w w' : World} (h : Below w.heap.size w w') : Only bs w w' :=
  ⟨h.os, h.tape, h.output, h.size, fun b hb _ => h.block b hb, fun b hb c t hc => ⟨c, (h.block b (Array.getElem?_eq_some_iff.1 hc).1).trans hc, rfl⟩⟩
theorem Only.mono {bs bs' : List Nat} {w w' : World} (h : Only bs' w w') (hs : ∀ b ∈ bs', b ∈ bs) : Only bs w w' :=
  ⟨h.os, h.tape, h.output, h.size, fun b hb hn => h.keep b hb fun hm => hn (hs b hm), fun b hb c t hc => by
    by_cases hm : b ∈ bs'
    · exact h.shape b hm c t hc
    · exact ⟨c, (h.keep b (Array.getElem?_eq_some_iff.1 hc).1 hm).trans hc, rfl⟩⟩
theorem Fresh.only {lo : Nat} {bs bs' : List Nat} {w w' : World} (h : Fresh lo w bs) (o : Only bs' w w') : Fresh lo w' bs :=
  ⟨h.1, fun b hb => by
    obtain ⟨h1, c, t, hc⟩ := h.2 b hb
    by_cases hm : b ∈ bs'
    · obtain ⟨c', h2, _⟩ := o.shape b hm c t hc
      exact ⟨h1, c', t, h2⟩
    · exact ⟨h1, c, t, (o.keep b (Array.getElem?_eq_some_iff.1 hc).1 hm).trans hc⟩⟩
theorem Enc.only {α : Type} {e : Enc α} {cs : List Value} {x : α} {b bs : List Nat} {w w' : World} (h : e.rep w cs x b) (o : Only bs w w') (hd : ∀ c ∈ b, c ∉ bs) : e.rep w' cs x b :=
  e.keep h (fun c hc => o.keep c (e.lt h c hc) (hd c hc)) o.size
theorem Below.only {lo : Nat} {bs : List Nat} {w0 w w' : World} (h : Below lo w0 w) (o : Only bs w w') (hl : ∀ b ∈ bs, lo ≤ b) (hlo : lo ≤ w.heap.size) : Below lo w0 w' :=
  ⟨o.os.trans h.os, o.tape.trans h.tape, o.output.trans h.output, Nat.le_trans h.size o.size, fun b hb => (o.keep b (by omega) fun hm => by have := hl b hm; omega).trans (h.block b hb)⟩
theorem Only.setCell {bs : List Nat} {w : World} {g : Nat} (hg : g ∈ bs) (o : Nat) (v : Value) : Only bs w (w.setCell ⟨g, o, none⟩ v) :=
  ⟨rfl, rfl, rfl, by simp [World.setCell], fun b hb hn => Below.heap_setCell w _ _ b (fun e => hn (by rw [e]; exact hg)), fun b hb c t hc => by
    by_cases e : b = g
    · subst e
      exact ⟨c.setIfInBounds o v, by simp [World.setCell, Array.getElem?_modify, hc], by simp⟩
    · exact ⟨c, (Below.heap_setCell w ⟨g, o, none⟩ v b e).trans hc, rfl⟩⟩

theorem FR.keepM {w w' : World} : ∀ {vs : List Value} {cs : List Cell} {b : List Nat}, FR w vs cs b → (∀ x ∈ b, w'.heap[x]? = w.heap[x]?) → w.heap.size ≤ w'.heap.size → FR w' vs cs b
  | [], [], b, h, _, _ => h
  | v :: vs, c :: cs, b, h, hk, hs => by
    obtain ⟨b1, b2, rfl, h1, h2⟩ := h
    refine ⟨b1, b2, rfl, ?_, FR.keepM h2 (fun x hx => hk x (List.mem_append_right _ hx)) hs⟩
    cases c with
    | c u => exact h1
    | sl e xs =>
      obtain ⟨a, n, cap, h3, h4⟩ := h1
      exact ⟨a, n, cap, h3, h4.keep (fun x hx => hk x (List.mem_append_left _ hx)) hs⟩
    | rx e x us b j =>
      obtain ⟨h3, h4, rfl⟩ := h1
      exact ⟨h3, e.keep h4 (fun x hx => hk x (List.mem_append_left _ hx)) hs, rfl⟩
    | _ => exact h1.elim
theorem FR.get_c {w : World} : ∀ {vs : List Value} {cs : List Cell} {b : List Nat} {i : Nat} {u : Value}, FR w vs cs b → cs[i]? = some (.c u) → vs[i]? = some u
  | [], [], b, i, u, _, h => by simp at h
  | v :: vs, c :: cs, b, 0, u, h, hi => by
    obtain ⟨b1, b2, rfl, h1, h2⟩ := h
    simp only [List.getElem?_cons_zero, Option.some.injEq] at hi
    subst hi
    simp [h1.1]
  | v :: vs, c :: cs, b, i + 1, u, h, hi => by
    obtain ⟨b1, b2, rfl, h1, h2⟩ := h
    simpa using FR.get_c h2 (by simpa using hi)
theorem FR.set_c {w : World} : ∀ {vs : List Value} {cs : List Cell} {b : List Nat} {i : Nat} {u v : Value}, FR w vs cs b → cs[i]? = some (.c u) → wfV v → FR w (vs.set i v) (cs.set i (.c v)) b
  | [], [], b, i, u, v, _, h, _ => by simp at h
  | y :: vs, c :: cs, b, 0, u, v, h, hi, hv => by
    obtain ⟨b1, b2, rfl, h1, h2⟩ := h
    simp only [List.getElem?_cons_zero, Option.some.injEq] at hi
    subst hi
    obtain rfl := h1.2.2
    exact ⟨[], b2, rfl, ⟨rfl, hv, rfl⟩, h2⟩
  | y :: vs, c :: cs, b, i + 1, u, v, h, hi, hv => by
    obtain ⟨b1, b2, rfl, h1, h2⟩ := h
    exact ⟨b1, b2, rfl, h1, FR.set_c h2 (by simpa using hi) hv⟩
theorem FR.get_sl {w : World} {α : Type} {e : Enc α} {ys : List α} : ∀ {vs : List Value} {cs : List Cell} {b : List Nat} {i : Nat}, FR w vs cs b → cs[i]? = some (.sl e ys) →
    ∃ b1 b2 b3 a n cap, b = b1 ++ (b2 ++ b3) ∧ vs[i]? = some (.slice a n cap) ∧ SliceRep e w a n cap ys b2 ∧
      ∀ (w' : World) (ys' : List α), SliceRep e w' a n cap ys' b2 → (∀ x ∈ b1, w'.heap[x]? = w.heap[x]?) → (∀ x ∈ b3, w'.heap[x]? = w.heap[x]?) → w.heap.size ≤ w'.heap.size → FR w' vs (cs.set i (.sl e ys')) b
  | [], [], b, i, _, h => by simp at h
  | y :: vs, c :: cs, b, 0, h, hi => by
    obtain ⟨b1, b2, rfl, h1, h2⟩ := h
    simp only [List.getElem?_cons_zero, Option.some.injEq] at hi
    subst hi
    obtain ⟨a, n, cap, rfl, h3⟩ := h1
    exact ⟨[], b1, b2, a, n, cap, rfl, rfl, h3, fun w' ys' hr _ hk hs => ⟨b1, b2, rfl, ⟨a, n, cap, rfl, hr⟩, h2.keepM hk hs⟩⟩
  | y :: vs, c :: cs, b, i + 1, h, hi => by
    obtain ⟨b1, b2, rfl, h1, h2⟩ := h
    obtain ⟨c1, c2, c3, a, n, cap, rfl, h3, h4, h5⟩ := FR.get_sl h2 (by simpa using hi)
    refine ⟨b1 ++ c1, c2, c3, a, n, cap, by simp, by simpa using h3, h4, fun w' ys' hr k1 k2 hs => ⟨b1, c1 ++ (c2 ++ c3), rfl, ?_, h5 w' ys' hr (fun x hx => k1 x (List.mem_append_right _ hx)) k2 hs⟩⟩
    have k1' : ∀ x ∈ b1, w'.heap[x]? = w.heap[x]? := fun x hx => k1 x (List.mem_append_left _ hx)
    cases c with
    | c u => exact h1
    | sl e xs =>
      obtain ⟨a, n, cap, h3, h4⟩ := h1
      exact ⟨a, n, cap, h3, h4.keep k1' hs⟩
    | rx e x us b j =>
      obtain ⟨h3, h4, rfl⟩ := h1
      exact ⟨h3, e.keep h4 k1' hs, rfl⟩
    | _ => exact h1.elim

theorem flatten_apart : ∀ {bss : List (List Nat)} {i j : Nat} {b b' : List Nat} {x : Nat}, bss.flatten.Nodup → i ≠ j → bss[i]? = some b → bss[j]? = some b' → x ∈ b → x ∉ b'
  | [], i, j, b, b', x, _, _, h, _, _ => by simp at h
  | c :: bss, 0, 0, b, b', x, _, hij, _, _, _ => absurd rfl hij
  | c :: bss, 0, j + 1, b, b', x, hn, _, hi, hj, hx => fun hx' => by
    simp only [List.getElem?_cons_zero, Option.some.injEq] at hi
    subst hi
    rw [List.flatten_cons, List.nodup_append] at hn
    exact hn.2.2 x hx x (List.mem_flatten.2 ⟨b', List.mem_of_getElem? (by simpa using hj), hx'⟩) rfl
  | c :: bss, i + 1, 0, b, b', x, hn, _, hi, hj, hx => fun hx' => by
    simp only [List.getElem?_cons_zero, Option.some.injEq] at hj
    subst hj
    rw [List.flatten_cons, List.nodup_append] at hn
    exact hn.2.2 x hx' x (List.mem_flatten.2 ⟨b, List.mem_of_getElem? (by simpa using hi), hx⟩) rfl
  | c :: bss, i + 1, j + 1, b, b', x, hn, hij, hi, hj, hx => by
    rw [List.flatten_cons, List.nodup_append] at hn
    exact flatten_apart (bss := bss) (i := i) (j := j) hn.2.1 (by omega) (by simpa using hi) (by simpa using hj) hx

section
variable {α : Type} {e : Enc α} {f : α → List Cell} [he : CellsOf e f] {w : World} {lo g off n cap k : Nat} {xs : List α} {bs : List Nat}
/-- A plain cell of element k. -/
theorem SliceRep.cellAt (h : SliceRep e w (some ⟨g, off, none⟩) n cap xs bs) (hF : Fresh lo w bs) {x0 : α} (hx0 : xs[k]? = some x0) {c : Nat} {u : Value} (h0 : (f x0)[c]? = some (.c u)) :
    w.cell? ⟨g, off + k * e.size + c, none⟩ = some u ∧ w.frozen? ⟨g, off + k * e.size + c, none⟩ = false := by
  obtain ⟨hk, rfl⟩ := List.getElem?_eq_some_iff.1 hx0
  obtain ⟨cs, b, hr, _, hs⟩ := h.slot hF hk
  exact hs c u (FR.get_c (he.iff.1 hr) h0)
/-- A plain cell of element k written anew. -/
theorem SliceRep.put (h : SliceRep e w (some ⟨g, off, none⟩) n cap xs bs) (hF : Fresh lo w bs) {x0 : α} (hx0 : xs[k]? = some x0) (c : Nat) {u : Value} (v : Value) (x' : α) (h0 : (f x0)[c]? = some (.c u)) (hv : wfV v) (hx : f x' = (f x0).set c (.c v)) :
    SliceRep e (w.setCell ⟨g, off + k * e.size + c, none⟩ v) (some ⟨g, off, none⟩) n cap (xs.set k x') bs ∧ Only bs w (w.setCell ⟨g, off + k * e.size + c, none⟩ v) := by
  obtain ⟨hk, rfl⟩ := List.getElem?_eq_some_iff.1 hx0
  have hne : xs ≠ [] := by intro e; subst e; simp at hk
  obtain ⟨g', off', bss, ha, hg, rfl, hE⟩ := h.parts hne
  simp only [Option.some.injEq, Addr.mk.injEq, and_true] at ha
  obtain ⟨rfl, rfl⟩ := ha
  have hkb : k < bss.length := by rw [hE.1]; exact hk
  have hnd : g ∉ bss.flatten ∧ bss.flatten.Nodup := List.nodup_cons.1 hF.1
  obtain ⟨_, ca, t, hblk⟩ := hF.2 g (List.mem_cons_self ..)
  obtain ⟨cs, hr, hcs⟩ := hE.2 k xs[k] bss[k] (List.getElem?_eq_getElem hk) (List.getElem?_eq_getElem hkb)
  have hfr := he.iff.1 hr
  have hcu := FR.get_c hfr h0
  have hc : c < e.size := by rw [← e.len hr]; exact (List.getElem?_eq_some_iff.1 hcu).1
  have hin := hcs c u hcu
  have hO : Only (g :: bss.flatten) w (w.setCell ⟨g, off + k * e.size + c, none⟩ v) := Only.setCell (List.mem_cons_self ..) _ _
  have hfl : ∀ x ∈ bss.flatten, (w.setCell ⟨g, off + k * e.size + c, none⟩ v).heap[x]? = w.heap[x]? := fun x hx => Below.heap_setCell w _ _ x (fun e => hnd.1 (by rw [← show x = g from e]; exact hx))
  have hbk : ∀ x ∈ bss[k], (w.setCell ⟨g, off + k * e.size + c, none⟩ v).heap[x]? = w.heap[x]? := fun x hx => hfl x (List.mem_flatten.2 ⟨_, List.getElem_mem hkb, hx⟩)
  have hr' : e.rep (w.setCell ⟨g, off + k * e.size + c, none⟩ v) (cs.set c v) x' bss[k] := he.iff.2 (by rw [hx]; exact (hfr.set_c h0 hv).keepM hbk hO.size)
  have hE' := hE.upd (k := k) (x' := x') hr' (fun j u' hu => ?_) (fun i hi => ?_) (fun i b hik hb x hx => hfl x (List.mem_flatten.2 ⟨b, List.mem_of_getElem? hb, hx⟩)) hO.size
  · rw [List.set_getElem_self] at hE'
    exact ⟨SliceRep.mk (by simpa using h.1) h.2.1 h.2.2.1 (by intro e; simp at e; exact hne e) (Nat.lt_of_lt_of_le hg hO.size) hE', hO⟩
  · by_cases ej : j = c
    · subst ej
      rw [List.getElem?_set_self (by rw [e.len hr]; exact hc)] at hu
      cases hu
      exact World.cell?_setCell_same _ _ _ hin
    · rw [List.getElem?_set_ne (Ne.symm ej)] at hu
      rw [World.cell?_setCell_other w _ _ v (fun e => ej (by injection e with _ e; omega))]
      exact hcs j u' hu
  · exact World.cell?_setCell_other w _ _ v (fun e => by injection e with _ e; rw [Nat.add_mul] at hi; omega)
/-- A list in element k, for a call that writes it anew. -/
theorem SliceRep.nest (h : SliceRep e w (some ⟨g, off, none⟩) n cap xs bs) (hF : Fresh lo w bs) {x0 : α} (hx0 : xs[k]? = some x0) {c : Nat} {β : Type} {e' : Enc β} {ys : List β} (h0 : (f x0)[c]? = some (.sl e' ys)) :
    ∃ a' n' cap' b', w.cell? ⟨g, off + k * e.size + c, none⟩ = some (.slice a' n' cap') ∧ SliceRep e' w a' n' cap' ys b' ∧ Fresh lo w b' ∧
      ∀ (w' : World) (ys' : List β) (x' : α), SliceRep e' w' a' n' cap' ys' b' → Only b' w w' → f x' = (f x0).set c (.sl e' ys') → SliceRep e w' (some ⟨g, off, none⟩) n cap (xs.set k x') bs ∧ Only bs w w' := by
  obtain ⟨hk, rfl⟩ := List.getElem?_eq_some_iff.1 hx0
  have hne : xs ≠ [] := by intro e; subst e; simp at hk
  have hlt := h.lt
  obtain ⟨g', off', bss, ha, hg, rfl, hE⟩ := h.parts hne
  simp only [Option.some.injEq, Addr.mk.injEq, and_true] at ha
  obtain ⟨rfl, rfl⟩ := ha
  have hkb : k < bss.length := by rw [hE.1]; exact hk
  have hnd : g ∉ bss.flatten ∧ bss.flatten.Nodup := List.nodup_cons.1 hF.1
  obtain ⟨cs, hr, hcs⟩ := hE.2 k xs[k] bss[k] (List.getElem?_eq_getElem hk) (List.getElem?_eq_getElem hkb)
  obtain ⟨b1, b2, b3, a, n', cap', hb, h3, h4, h5⟩ := FR.get_sl (he.iff.1 hr) h0
  have inF : ∀ x ∈ bss[k], x ∈ bss.flatten := fun x hx => List.mem_flatten.2 ⟨_, List.getElem_mem hkb, hx⟩
  have in2 : ∀ x ∈ b2, x ∈ bss[k] := fun x hx => by rw [hb]; exact List.mem_append_right _ (List.mem_append_left _ hx)
  have hbn : bss[k].Nodup := List.Sublist.nodup (List.sublist_flatten_of_mem (List.getElem_mem hkb)) hnd.2
  rw [hb, List.nodup_append, List.nodup_append] at hbn
  refine ⟨a, n', cap', b2, hcs c _ h3, h4, ⟨hbn.2.1.1, fun x hx => hF.2 x (List.mem_cons_of_mem _ (inF x (in2 x hx)))⟩, fun w' ys' x' hr' hO hx => ?_⟩
  have ltF : ∀ x ∈ bss.flatten, x < w.heap.size := fun x hx => hlt x (List.mem_cons_of_mem _ hx)
  have keep : ∀ x, x < w.heap.size → x ∉ b2 → w'.heap[x]? = w.heap[x]? := hO.keep
  have hg2 : w'.heap[g]? = w.heap[g]? := keep g hg fun hm => hnd.1 (inF g (in2 g hm))
  have hr2 : e.rep w' cs x' bss[k] := he.iff.2 (by
    rw [hx]
    refine h5 w' ys' hr' (fun x hx1 => keep x (ltF x (inF x (by rw [hb]; exact List.mem_append_left _ hx1))) fun hx2 => hbn.2.2 x hx1 x (List.mem_append_left _ hx2) rfl) (fun x hx3 => keep x (ltF x (inF x (by rw [hb]; exact List.mem_append_right _ (List.mem_append_right _ hx3)))) fun hx2 => hbn.2.1.2.2 x hx2 x hx3 rfl) hO.size)
  have hE' := hE.upd (k := k) (x' := x') hr2 (fun j u' hu => (World.cell?_of_block (w := w) hg2).trans (hcs j u' hu)) (fun i hi => World.cell?_of_block (w := w) hg2) (fun i b hik hbi x hx => keep x (ltF x (List.mem_flatten.2 ⟨b, List.mem_of_getElem? hbi, hx⟩)) fun hx2 => flatten_apart hnd.2 hik hbi (List.getElem?_eq_getElem hkb) hx (in2 x hx2)) hO.size
  rw [List.set_getElem_self] at hE'
  exact ⟨SliceRep.mk (by simpa using h.1) h.2.1 h.2.2.1 (by intro e; simp at e; exact hne e) (Nat.lt_of_lt_of_le hg hO.size) hE', hO.mono fun x hx => List.mem_cons_of_mem _ (inF x (in2 x hx))⟩
end

/-! ### The same, element k named -/
section
variable {α : Type} {e : Enc α} {f : α → List Cell} [he : CellsOf e f] {w : World} {lo g off n cap k : Nat} {ys : List α} {bs : List Nat}
theorem set_at {x : α} (hk : k < ys.length) : (ys.set k x)[k]? = some x := List.getElem?_set_self hk
theorem set_same {x : α} (h : ys[k]? = some x) : ys.set k x = ys := by
  obtain ⟨hk, rfl⟩ := List.getElem?_eq_some_iff.1 h
  exact List.set_getElem_self hk
theorem SliceRep.cellAt2 {x0 : α} (h : SliceRep e w (some ⟨g, off, none⟩) n cap (ys.set k x0) bs) (hF : Fresh lo w bs) (hk : k < ys.length) {c : Nat} {u : Value} (h0 : (f x0)[c]? = some (.c u)) :
    w.cell? ⟨g, off + k * e.size + c, none⟩ = some u ∧ w.frozen? ⟨g, off + k * e.size + c, none⟩ = false := h.cellAt hF (set_at hk) h0
theorem SliceRep.put2 {x0 : α} (h : SliceRep e w (some ⟨g, off, none⟩) n cap (ys.set k x0) bs) (hF : Fresh lo w bs) (hk : k < ys.length) (c : Nat) {u : Value} (v : Value) (x' : α) (h0 : (f x0)[c]? = some (.c u)) (hv : wfV v) (hx : f x' = (f x0).set c (.c v)) :
    SliceRep e (w.setCell ⟨g, off + k * e.size + c, none⟩ v) (some ⟨g, off, none⟩) n cap (ys.set k x') bs ∧ Only bs w (w.setCell ⟨g, off + k * e.size + c, none⟩ v) := by
  have := h.put hF (set_at hk) c v x' h0 hv hx
  rwa [List.set_set] at this
theorem SliceRep.nest2 {x0 : α} (h : SliceRep e w (some ⟨g, off, none⟩) n cap (ys.set k x0) bs) (hF : Fresh lo w bs) (hk : k < ys.length) {c : Nat} {β : Type} {e' : Enc β} {zs : List β} (h0 : (f x0)[c]? = some (.sl e' zs)) :
    ∃ a' n' cap' b', w.cell? ⟨g, off + k * e.size + c, none⟩ = some (.slice a' n' cap') ∧ SliceRep e' w a' n' cap' zs b' ∧ Fresh lo w b' ∧
      ∀ (w' : World) (zs' : List β) (x' : α), SliceRep e' w' a' n' cap' zs' b' → Only b' w w' → f x' = (f x0).set c (.sl e' zs') → SliceRep e w' (some ⟨g, off, none⟩) n cap (ys.set k x') bs ∧ Only bs w w' := by
  obtain ⟨a', n', cap', b', h1, h2, h3, h4⟩ := h.nest hF (set_at hk) h0
  refine ⟨a', n', cap', b', h1, h2, h3, fun w' zs' x' r o hx => ?_⟩
  have := h4 w' zs' x' r o hx
  rwa [List.set_set] at this
/-- A list in a datum, for a call that writes it anew. -/
theorem Enc.nest {cs : List Value} {x : α} (h : e.rep w cs x bs) (hF : Fresh lo w bs) {c : Nat} {β : Type} {e' : Enc β} {zs : List β} (h0 : (f x)[c]? = some (.sl e' zs)) :
    ∃ a' n' cap' b', cs[c]? = some (.slice a' n' cap') ∧ SliceRep e' w a' n' cap' zs b' ∧ Fresh lo w b' ∧
      ∀ (w' : World) (zs' : List β) (x' : α), SliceRep e' w' a' n' cap' zs' b' → Only b' w w' → f x' = (f x).set c (.sl e' zs') → e.rep w' cs x' bs ∧ Only bs w w' := by
  have hlt := e.lt h
  obtain ⟨b1, b2, b3, a, n', cap', rfl, h3, h4, h5⟩ := FR.get_sl (he.iff.1 h) h0
  have hn := hF.1
  rw [List.nodup_append, List.nodup_append] at hn
  refine ⟨a, n', cap', b2, h3, h4, ⟨hn.2.1.1, fun x hx => hF.2 x (List.mem_append_right _ (List.mem_append_left _ hx))⟩, fun w' zs' x' hr hO hx => ⟨he.iff.2 ?_, hO.mono fun x hx => List.mem_append_right _ (List.mem_append_left _ hx)⟩⟩
  rw [hx]
  exact h5 w' zs' hr (fun y hy => hO.keep y (hlt y (List.mem_append_left _ hy)) fun hy2 => hn.2.2 y hy y (List.mem_append_left _ hy2) rfl) (fun y hy => hO.keep y (hlt y (List.mem_append_right _ (List.mem_append_right _ hy))) fun hy2 => hn.2.1.2.2 y hy2 y hy rfl) hO.size
/-- A struct in a struct, for a call that writes it anew. -/
theorem FR.lenM {w : World} : ∀ {vs : List Value} {cs : List Cell} {b : List Nat}, FR w vs cs b → vs.length = cs.length
  | [], [], b, _ => rfl
  | v :: vs, c :: cs, b, h => by
    obtain ⟨b1, b2, rfl, h1, h2⟩ := h
    simp [FR.lenM h2]
theorem Enc.nestR {cs : List Value} {x : α} (h : e.rep w cs x bs) (hF : Fresh lo w bs) {β : Type} {e' : Enc β} {g : β → List Cell} [hg : CellsOf e' g] {y : β} (c m : Nat) (h0 : f x = (f x).take c ++ g y ++ (f x).drop (c + m)) (hc : ((f x).take c).length = c) (hm : (g y).length = m) :
    ∃ b', e'.rep w ((cs.drop c).take m) y b' ∧ Fresh lo w b' ∧
      ∀ (w' : World) (y' : β) (x' : α), e'.rep w' ((cs.drop c).take m) y' b' → Only b' w w' → f x' = (f x).take c ++ g y' ++ (f x).drop (c + m) → e.rep w' cs x' bs ∧ Only bs w w' := by
  have hlt := e.lt h
  have h1 := he.iff.1 h
  rw [h0] at h1
  obtain ⟨v12, v3, b12, b3, rfl, rfl, h12, h3⟩ := FR.app.1 h1
  obtain ⟨v1, v2, b1, b2, rfl, rfl, h1', h2⟩ := FR.app.1 h12
  have l1 : v1.length = c := by rw [h1'.lenM, hc]
  have l2 : v2.length = m := by rw [h2.lenM, hm]
  have e2 : ((v1 ++ v2 ++ v3).drop c).take m = v2 := by
    rw [← l1, List.append_assoc, List.drop_left, ← l2, List.take_left]
  rw [e2]
  have hn := hF.1
  rw [List.nodup_append, List.nodup_append] at hn
  refine ⟨b2, hg.iff.2 h2, ⟨hn.1.2.1, fun i hi => hF.2 i (List.mem_append_left _ (List.mem_append_right _ hi))⟩, fun w' y' x' r o hx => ⟨he.iff.2 ?_, o.mono fun i hi => List.mem_append_left _ (List.mem_append_right _ hi)⟩⟩
  rw [hx]
  refine FR.app.2 ⟨v1 ++ v2, v3, b1 ++ b2, b3, rfl, rfl, FR.app.2 ⟨v1, v2, b1, b2, rfl, rfl, h1'.keepM (fun i hi => o.keep i (hlt i (List.mem_append_left _ (List.mem_append_left _ hi))) fun h2 => hn.1.2.2 i hi i h2 rfl) o.size, hg.iff.1 r⟩, h3.keepM (fun i hi => o.keep i (hlt i (List.mem_append_right _ hi)) fun h2 => hn.2.2 i (List.mem_append_right _ h2) i hi rfl) o.size⟩
end
theorem wf64 {q : Int} (h0 : -9223372036854775808 ≤ q) (h1 : q ≤ 9223372036854775807) : wfV (.int .i64 q) := by
  show (Lit.int .i64 q).wf = true
  have h2 : IntKind.i64.min = -9223372036854775808 := by decide
  have h3 : IntKind.i64.max = 9223372036854775807 := by decide
  simp only [Lit.wf, h2, h3, Bool.and_eq_true, decide_eq_true_eq]; omega

/-! ### Lists -/
section
variable {α : Type} (f : α → Int → α × Int)
def markL : List α → Int → List α × Int
  | [], k => ([], k)
  | x :: xs, k => ((f x k).1 :: (markL xs (f x k).2).1, (markL xs (f x k).2).2)
def cntL (c : α → Nat) : List α → Nat
  | [] => 0
  | x :: xs => c x + cntL c xs
theorem markL_len : ∀ (xs : List α) (k : Int), (markL f xs k).1.length = xs.length
  | [], k => rfl
  | x :: xs, k => by simp [markL, markL_len xs]
theorem markL_cnt {c : α → Nat} (hc : ∀ x k, (f x k).2 = k + c x) : ∀ (xs : List α) (k : Int), (markL f xs k).2 = k + cntL c xs
  | [], k => by simp [markL, cntL]
  | x :: xs, k => by simp only [markL, cntL]; rw [markL_cnt hc xs, hc]; omega
theorem cntL_take {α : Type} {c : α → Nat} : ∀ {xs : List α} {j : Nat} (hj : j < xs.length), cntL c (xs.take j) + c xs[j] ≤ cntL c xs
  | [], j, h => by simp at h
  | x :: xs, 0, h => by simp [cntL]
  | x :: xs, j + 1, h => by
    have := cntL_take (c := c) (xs := xs) (j := j) (by simpa using h)
    simp only [List.take_succ_cons, cntL, List.getElem_cons_succ]; omega
theorem markL_app : ∀ (xs : List α) (y : α) (k : Int), markL f (xs ++ [y]) k = ((markL f xs k).1 ++ [(f y (markL f xs k).2).1], (f y (markL f xs k).2).2)
  | [], y, k => rfl
  | x :: xs, y, k => by simp [markL, markL_app xs]
/-- Marked up to j. -/
def markTo (xs : List α) (k : Int) (j : Nat) : List α := (markL f (xs.take j) k).1 ++ xs.drop j
def markK (xs : List α) (k : Int) (j : Nat) : Int := (markL f (xs.take j) k).2
theorem markTo_zero (xs : List α) (k : Int) : markTo f xs k 0 = xs := by simp [markTo, markL]
theorem markK_zero (xs : List α) (k : Int) : markK f xs k 0 = k := by simp [markK, markL]
theorem markTo_len (xs : List α) (k : Int) (j : Nat) : (markTo f xs k j).length = xs.length := by
  simp [markTo, markL_len]; omega
theorem markTo_at {xs : List α} {k : Int} {j : Nat} (hj : j < xs.length) : (markTo f xs k j)[j]? = some xs[j] := by
  rw [List.getElem?_eq_getElem (by rw [markTo_len]; exact hj)]
  simp only [markTo]
  congr 1
  rw [List.getElem_append_right (by rw [markL_len]; simp; omega)]
  simp only [markL_len, List.length_take, List.getElem_drop]
  congr 1; omega
theorem markTo_succ {xs : List α} {k : Int} {j : Nat} (hj : j < xs.length) : (markTo f xs k j).set j (f xs[j] (markK f xs k j)).1 = markTo f xs k (j + 1) := by
  simp only [markTo, markK]
  rw [List.set_append_right _ _ (by rw [markL_len]; simp; omega), markL_len]
  have h1 : j - (List.take j xs).length = 0 := by simp; omega
  rw [h1, List.drop_eq_getElem_cons hj, List.set_cons_zero, List.take_succ_eq_append_getElem (l := xs) hj, markL_app, List.append_assoc]
  rfl
theorem markK_succ {xs : List α} {k : Int} {j : Nat} (hj : j < xs.length) : markK f xs k (j + 1) = (f xs[j] (markK f xs k j)).2 := by
  simp only [markK]
  rw [List.take_succ_eq_append_getElem (l := xs) hj, markL_app]
theorem markTo_done (xs : List α) (k : Int) : markTo f xs k xs.length = (markL f xs k).1 := by simp [markTo]
theorem markK_done (xs : List α) (k : Int) : markK f xs k xs.length = (markL f xs k).2 := by simp [markK]
theorem markL_at : ∀ {xs : List α} {k : Int} {j : Nat} (hj : j < xs.length), (markL f xs k).1[j]'(by rw [markL_len]; exact hj) = (f xs[j] (markK f xs k j)).1
  | [], k, j, h => by simp at h
  | x :: xs, k, 0, h => by simp [markL, markK]
  | x :: xs, k, j + 1, h => by
    have := markL_at (xs := xs) (k := (f x k).2) (j := j) (by simpa using h)
    simp only [markL, List.getElem_cons_succ, this, markK, List.take_succ_cons]
theorem markL_at' {xs ys : List α} {k : Int} (h : (markL f xs k).1 = ys) {j : Nat} (hj : j < xs.length) : ys[j]'(by rw [← h, markL_len]; exact hj) = (f (xs[j]'hj) (markK f xs k j)).1 := by
  subst h; exact markL_at f hj
theorem markK_bound {c : α → Nat} (hc : ∀ x k, (f x k).2 = k + c x) {xs : List α} {k M : Int} (h0 : 0 ≤ k) (h1 : k + cntL c xs ≤ M) {j : Nat} (hj : j < xs.length) : 0 ≤ markK f xs k j ∧ markK f xs k j + c xs[j] ≤ M := by
  have := cntL_take (c := c) hj
  simp only [markK, markL_cnt f hc]
  omega
end
theorem cntL_le {α : Type} {c : α → Nat} {M : Nat} : ∀ {xs : List α}, (∀ x ∈ xs, c x ≤ M) → cntL c xs ≤ M * xs.length
  | [], _ => by simp [cntL]
  | x :: xs, h => by
    have h1 := h x (List.mem_cons_self ..)
    have h2 := cntL_le (c := c) (M := M) (xs := xs) fun y hy => h y (List.mem_cons_of_mem _ hy)
    simp only [cntL, List.length_cons, Nat.mul_add, Nat.mul_one]; omega
end Go.Proofs.Ytkemjhlbokldhaa

/- The laws' markText: a text for a number. -/
namespace Go.Proofs.Ytkemjhlbokldhaa
open Go.RowKit
set_option linter.unusedVariables false

/-- The digits of m ahead of out. -/
def digs (m : Nat) (out : ByteArray) : ByteArray := if h : m = 0 then out else digs (m / 10) (Utf8.encode (48 + ((m % 10 : Nat) : Int)) ++ out)
termination_by m
decreasing_by omega
theorem digs_zero (out : ByteArray) : digs 0 out = out := by rw [digs]; rfl
theorem digs_step {m : Nat} (h : 0 < m) (out : ByteArray) : digs (m / 10) (Utf8.encode (48 + ((m % 10 : Nat) : Int)) ++ out) = digs m out := by
  conv => rhs; rw [digs]
  rw [dif_neg (by omega)]
def markText (k : Int) : ByteArray := if k ≤ 0 then ⟨#[109, 48]⟩ else ⟨#[109]⟩ ++ digs k.toNat ⟨#[]⟩
theorem markText_neg {k : Int} (h : k ≤ 0) : markText k = ⟨#[109, 48]⟩ := if_pos h
theorem markText_pos {k : Int} (h : ¬ k ≤ 0) : markText k = ⟨#[109]⟩ ++ digs k.toNat ⟨#[]⟩ := if_neg h
theorem enc_dig_size {d : Int} (h0 : 0 ≤ d) (h1 : d < 10) : (Utf8.encode (48 + d)).size = 1 := by rw [utf8_dig h0 h1]; rfl
theorem digs_size : ∀ (m : Nat) (out : ByteArray), m < 10 ^ (20 - out.size) → out.size ≤ 20 → (digs m out).size ≤ 20 := by
  intro m
  induction m using Nat.strongRecOn with
  | _ m ih =>
    intro out h hs
    by_cases h0 : m = 0
    · subst h0; rw [digs_zero]; exact hs
    · rw [← digs_step (by omega)]
      have hz : (Utf8.encode (48 + ((m % 10 : Nat) : Int)) ++ out).size = out.size + 1 := by rw [ByteArray.size_append, enc_dig_size (by omega) (by omega)]; omega
      have h20 : out.size < 20 := by
        rcases Nat.lt_or_ge out.size 20 with h2 | h2
        · exact h2
        · rw [show 20 - out.size = 0 by omega] at h; simp at h; omega
      refine ih (m / 10) (by omega) _ ?_ (by omega)
      rw [hz, Nat.div_lt_iff_lt_mul (by omega), ← Nat.pow_succ, show (20 - (out.size + 1)).succ = 20 - out.size by omega]
      exact h
theorem markText_size {k : Int} (h : k ≤ 9223372036854775807) : (markText k).size ≤ 21 := by
  unfold markText
  split
  · decide
  · rw [ByteArray.size_append]
    have h1 : k.toNat < 10 ^ (20 - (⟨#[]⟩ : ByteArray).size) := by
      have : (⟨#[]⟩ : ByteArray).size = 0 := rfl
      rw [this]
      have : (10 : Nat) ^ (20 - 0) = 100000000000000000000 := by decide
      omega
    have := digs_size k.toNat ⟨#[]⟩ h1 (by decide)
    have h2 : (⟨#[109]⟩ : ByteArray).size = 1 := rfl
    omega

theorem wfText {k : Int} (h : k ≤ 9223372036854775807) : wfV (.string (markText k)) := by
  have := markText_size h
  show (markText k).size ≤ maxLen
  unfold maxLen; omega
theorem cell_only {bs : List Nat} {w w' : World} {a : Addr} {v : Value} (h : w.cell? a = some v) (o : Only bs w w') (hn : a.block ∉ bs) : w'.cell? a = some v := by
  have hlt : a.block < w.heap.size := by
    unfold World.cell? at h
    rcases Nat.lt_or_ge a.block w.heap.size with hlt | hge
    · exact hlt
    · rw [Array.getElem?_eq_none hge] at h; cases h
  exact (World.cell?_of_block (w := w) (o.keep a.block hlt hn)).trans h

set_option maxRecDepth 100000 in
set_option maxHeartbeats 4000000 in
theorem markText_any (k : Int) (w : World) (h1 : k ≤ 9223372036854775807) :
    Calls Try.prog 41 #[.int .i64 k] w fun e w' => e = .returned (.string (markText k)) ∧ Below w.heap.size w w' := by
  by_cases hk : k ≤ 0
  · have HR := Lib.hid (markText_neg hk)
    go_enter Try.func41, Try.ntmps41
    go_wp2_with fail
    go_ret
    exact ⟨ret_str HR.out.symm, Below.refl _ _⟩
  · have HR := Lib.hid (markText_pos hk)
    go_enter Try.func41, Try.ntmps41
    go_wp2_with fail
    go_loopw [0, 3] (fun kk oo W => ∃ (m : Nat) (out : ByteArray), kk = .int .i64 m ∧ oo = .string out ∧ digs m out = digs k.toNat ⟨#[]⟩ ∧ m ≤ 9223372036854775807 ∧ m < 10 ^ (20 - out.size) ∧ out.size ≤ 20 ∧ Below w.heap.size w W) (fun kk _ _ => (intOf kk).toNat)
    case atStart => exact ⟨k.toNat, ⟨#[]⟩, by rw [Int.toNat_of_nonneg (by omega)], rfl, rfl, by omega, by
      have : (10 : Nat) ^ (20 - (⟨#[]⟩ : ByteArray).size) = 100000000000000000000 := by decide
      omega, by decide, Below.refl _ _⟩
    case round =>
      obtain ⟨m, out, rfl, rfl, hd, hm, hp, hs, hB⟩ := hrel
      by_cases h0 : 0 < m
      · have hcv := conv_one (d := ((m % 10 : Nat) : Int)) (by omega) (by omega) _ rfl
        have hdig := enc_dig_size (d := ((m % 10 : Nat) : Int)) (by omega) (by omega)
        have hstep := digs_step h0 out
        have h20 : out.size < 20 := by
          rcases Nat.lt_or_ge out.size 20 with h2 | h2
          · exact h2
          · rw [show 20 - out.size = 0 by omega] at hp; simp at hp; omega
        have hp2 : m / 10 < 10 ^ (20 - (out.size + 1)) := by
          rw [Nat.div_lt_iff_lt_mul (by omega), ← Nat.pow_succ, show (20 - (out.size + 1)).succ = 20 - out.size by omega]; exact hp
        clear hp
        generalize Utf8.encode (48 + ((m % 10 : Nat) : Int)) = D at hcv hdig hstep
        have hroom : ¬ 9223372036854775807 < D.size + out.size := by omega
        have hz : (D ++ out).size = out.size + 1 := by rw [ByteArray.size_append, hdig]; omega
        have e1 : IntKind.i64.wrap ((m : Int).tdiv 10) = ((m / 10 : Nat) : Int) := by rw [Int.tdiv_eq_ediv_of_nonneg (by omega)]; rw [IntWalk.i64_in _ (by omega)]; omega
        have e2 : (m : Int).tmod 10 = ((m % 10 : Nat) : Int) := by rw [Int.tmod_eq_emod_of_nonneg (by omega)]; omega
        have e3 : IntKind.i64.wrap (48 + ((m % 10 : Nat) : Int)) = 48 + ((m % 10 : Nat) : Int) := IntWalk.i64_in _ (by omega)
        have e4 : IntKind.u8.wrap (48 + ((m % 10 : Nat) : Int)) = 48 + ((m % 10 : Nat) : Int) := IntWalk.u8_in _ (by omega)
        go_wp2_with fail
        go_roundw
        case rel => exact ⟨m / 10, D ++ out, by simp, rfl, by rw [hstep, hd], by omega, by rw [hz]; exact hp2, by omega, by first | exact hB.alloc (by have := hB.size; omega) _ | exact hB⟩
        case measure => simp [intOf]; omega
      · obtain rfl : m = 0 := by omega
        rw [digs_zero] at hd
        have HD := Lib.hid hd
        clear hd
        have hroom : ¬ 9223372036854775807 < 1 + out.size := by omega
        go_wp2_with fail
        go_ret
        exact ⟨ret_str (by rw [HR.out, HD.out]), hB⟩
end Go.Proofs.Ytkemjhlbokldhaa

/- The laws' marks: MarkA (printed by genmark.py) -/
namespace Go.Proofs.Ytkemjhlbokldhaa
open Go.RowKit
set_option linter.unusedVariables false
set_option linter.unusedSimpArgs false
set_option maxRecDepth 100000

end Go.Proofs.Ytkemjhlbokldhaa

/- The order of values and rows ars plain laws: equal, transitive; a binary search's answer. -/
namespace Go.Proofs.Ytkemjhlbokldhaa
open Go.RowKit
set_option linter.unusedVariables false

def hasRow (rows : List (List Val)) (row : List Val) : Bool := decide (row ∈ rows)
theorem compareBytes_eq : ∀ {a b : List UInt8}, Lib.compareBytes a b = 0 → a = b
  | [], [], _ => rfl
  | [], _ :: _, h => by simp [Lib.compareBytes] at h
  | _ :: _, [], h => by simp [Lib.compareBytes] at h
  | x :: a, y :: b, h => by
    unfold Lib.compareBytes at h
    by_cases h1 : x < y
    · simp [h1] at h
    · by_cases h2 : y < x
      · simp [h1, h2] at h
      · simp only [h1, h2, if_false] at h
        have e : x = y := UInt8.le_antisymm (UInt8.not_lt.1 h2) (UInt8.not_lt.1 h1)
        rw [e, compareBytes_eq h]
theorem compareBytes_self : ∀ (a : List UInt8), Lib.compareBytes a a = 0
  | [] => by simp [Lib.compareBytes]
  | x :: a => by
    have := compareBytes_self a
    unfold Lib.compareBytes
    simp [UInt8.lt_irrefl, this]
theorem compareBytes_trans : ∀ {a b c : List UInt8}, Lib.compareBytes a b < 0 → Lib.compareBytes b c < 0 → Lib.compareBytes a c < 0
  | [], [], _, h, _ => by simp [Lib.compareBytes] at h
  | [], _ :: _, [], _, h => by simp [Lib.compareBytes] at h
  | [], _ :: _, _ :: _, _, _ => by simp [Lib.compareBytes]
  | _ :: _, [], _, h, _ => by simp [Lib.compareBytes] at h
  | _ :: _, _ :: _, [], _, h => by simp [Lib.compareBytes] at h
  | x :: a, y :: b, z :: c, h, h' => by
    unfold Lib.compareBytes at h h' ⊢
    by_cases h1 : x < y
    · by_cases h3 : y < z
      · simp [UInt8.lt_trans h1 h3]
      · by_cases h4 : z < y
        · simp [h3, h4] at h'
        · have e : y = z := UInt8.le_antisymm (UInt8.not_lt.1 h4) (UInt8.not_lt.1 h3)
          subst e; simp [h1]
    · by_cases h2 : y < x
      · simp [h1, h2] at h
      · have e : x = y := UInt8.le_antisymm (UInt8.not_lt.1 h2) (UInt8.not_lt.1 h1)
        subst e
        simp only [h1, if_false] at h
        by_cases h3 : x < z
        · simp [h3]
        · by_cases h4 : z < x
          · simp [h3, h4] at h'
          · simp only [h3, h4, if_false] at h' ⊢
            exact compareBytes_trans h h'

theorem valOk_zero {v : Val} (h : valOk v = true) (hs : v.s.toList.isEmpty = false) : v.n = 0 := by
  rw [valOk_word hs] at h
  simp only [Bool.and_eq_true, beq_iff_eq] at h
  exact h.1
theorem bytes_ext {a b : ByteArray} (h : a.data.toList = b.data.toList) : a = b := by
  obtain ⟨⟨a⟩⟩ := a
  obtain ⟨⟨b⟩⟩ := b
  simp at h; rw [h]
theorem bytes_empty {a : ByteArray} (h : a.toList.isEmpty = true) : a.data.toList = [] := by
  rw [ByteArray.toList_eq] at h
  simpa using h
theorem cmpVal_eq {a b : Val} (ha : valOk a = true) (hb : valOk b = true) (h : cmpVal a b = 0) : a = b := by
  obtain ⟨n, s⟩ := a
  obtain ⟨m, r⟩ := b
  unfold cmpVal at h
  cases h1 : s.toList.isEmpty <;> cases h2 : r.toList.isEmpty
  · simp only [h1, h2] at h
    have hn := valOk_zero ha h1
    have hm := valOk_zero hb h2
    have := bytes_ext (compareBytes_eq h)
    simp_all
  · simp [h1, h2] at h
  · simp [h1, h2] at h
  · simp only [h1, h2, if_true] at h
    have e : s = r := bytes_ext (by rw [bytes_empty h1, bytes_empty h2])
    have : n = m := by omega
    rw [e, this]
theorem cmpVal_trans {a b c : Val} (h : cmpVal a b < 0) (h' : cmpVal b c < 0) : cmpVal a c < 0 := by
  unfold cmpVal at *
  cases h1 : a.s.toList.isEmpty <;> cases h2 : b.s.toList.isEmpty <;> cases h3 : c.s.toList.isEmpty <;> simp only [h1, h2, h3, if_true, Bool.false_eq_true, if_false] at h h' ⊢ <;> first | omega | exact compareBytes_trans h h'

theorem cmpRow_trans : ∀ {a b c : List Val}, (∀ v ∈ a, valOk v = true) → (∀ v ∈ b, valOk v = true) → (∀ v ∈ c, valOk v = true) → cmpRow a b < 0 → cmpRow b c < 0 → cmpRow a c < 0
  | [], [], _, _, _, _, h, _ => by simp [cmpRow] at h
  | [], _ :: _, [], _, _, _, _, h => by simp [cmpRow] at h
  | [], _ :: _, _ :: _, _, _, _, _, _ => by simp [cmpRow]
  | _ :: _, [], _, _, _, _, h, _ => by simp [cmpRow] at h
  | _ :: _, _ :: _, [], _, _, _, _, h => by simp [cmpRow] at h
  | x :: a, y :: b, z :: c, ha, hb, hc, h, h' => by
    unfold cmpRow at h h' ⊢
    by_cases h1 : cmpVal x y = 0
    · have e := cmpVal_eq (ha x (by simp)) (hb y (by simp)) h1
      subst e
      rw [if_pos h1] at h
      by_cases h2 : cmpVal x z = 0
      · rw [if_pos h2] at h' ⊢
        exact cmpRow_trans (fun v hv => ha v (by simp [hv])) (fun v hv => hb v (by simp [hv])) (fun v hv => hc v (by simp [hv])) h h'
      · rw [if_neg h2] at h' ⊢; exact h'
    · rw [if_neg h1] at h
      by_cases h2 : cmpVal y z = 0
      · have e := cmpVal_eq (hb y (by simp)) (hc z (by simp)) h2
        subst e
        rw [if_neg h1]; exact h
      · rw [if_neg h2] at h'
        have h3 := cmpVal_trans h h'
        rw [if_neg (by omega)]; exact h3

/-- Rows of right values, each before the next. -/
def Sorted (rows : List (List Val)) : Prop := (∀ j (h : j < rows.length), ∀ v ∈ rows[j], valOk v = true) ∧ ∀ i j (hi : i < rows.length) (hj : j < rows.length), i < j → cmpRow rows[i] rows[j] < 0
/-- Everything ahead of i stands before the row; nothing from j on does. -/
def Between (rows : List (List Val)) (row : List Val) (i j : Nat) : Prop :=
  (∀ t (h : t < rows.length), t < i → cmpRow rows[t] row < 0) ∧ ∀ t (h : t < rows.length), j ≤ t → ¬ cmpRow rows[t] row < 0
theorem Between.start {rows : List (List Val)} {row : List Val} : Between rows row 0 rows.length := ⟨fun _ _ h => absurd h (by omega), fun _ h h' => absurd h (by omega)⟩
theorem Between.right {rows : List (List Val)} {row : List Val} {i j h : Nat} (hs : Sorted rows) (hr : ∀ v ∈ row, valOk v = true) (H : Between rows row i j) (hh : h < rows.length) (hc : cmpRow rows[h] row < 0) : Between rows row (h + 1) j :=
  ⟨fun t ht hth => by
    rcases Nat.lt_or_ge t h with h1 | h1
    · exact cmpRow_trans (hs.1 t ht) (hs.1 h hh) hr (hs.2 t h ht hh h1) hc
    · obtain rfl : t = h := by omega
      exact hc, H.2⟩
theorem Between.left {rows : List (List Val)} {row : List Val} {i j h : Nat} (hs : Sorted rows) (hr : ∀ v ∈ row, valOk v = true) (H : Between rows row i j) (hh : h < rows.length) (hc : ¬ cmpRow rows[h] row < 0) : Between rows row i h :=
  ⟨H.1, fun t ht hth hlt => by
    rcases Nat.lt_or_ge h t with h1 | h1
    · exact hc (cmpRow_trans (hs.1 h hh) (hs.1 t ht) hr (hs.2 h t hh ht h1) hlt)
    · obtain rfl : t = h := by omega
      exact hc hlt⟩
/-- The place of a row in a right relation, or where it would be. -/
def pos (rows : List (List Val)) (row : List Val) : Nat := rows.findIdx fun r => !decide (cmpRow r row < 0)
theorem Between.pos {rows : List (List Val)} {row : List Val} {i : Nat} (hi : i ≤ rows.length) (H : Between rows row i i) : pos rows row = i := by
  unfold Proofs.Ytkemjhlbokldhaa.pos
  rcases Nat.lt_or_ge i rows.length with h1 | h1
  · rw [List.findIdx_eq h1]
    exact ⟨by simpa using H.2 i h1 (Nat.le_refl _), fun j hj => by simpa using H.1 j (by omega) hj⟩
  · obtain rfl : i = rows.length := by omega
    rw [List.findIdx_eq_length]
    intro r hr
    obtain ⟨j, hj, rfl⟩ := List.getElem_of_mem hr
    simpa using H.1 j hj hj
end Go.Proofs.Ytkemjhlbokldhaa

/- Like relations, in plain words. -/
namespace Go.Proofs.Ytkemjhlbokldhaa
open Go.RowKit
set_option linter.unusedVariables false

def LikeTo {α : Type} (xs ys : List α) (k : Nat) : Prop := ∀ j (h : j < xs.length) (h' : j < ys.length), j < k → xs[j] = ys[j]
theorem LikeTo.zero {α : Type} {xs ys : List α} : LikeTo xs ys 0 := fun _ _ _ h => absurd h (by omega)
theorem LikeTo.succ {α : Type} {xs ys : List α} {k : Nat} (h : LikeTo xs ys k) (hk : k < xs.length) (hk' : k < ys.length) (hs : xs[k] = ys[k]) : LikeTo xs ys (k + 1) := fun j hj hj' hjk => by
  rcases Nat.lt_or_ge j k with h1 | h1
  · exact h j hj hj' h1
  · obtain rfl : j = k := by omega
    exact hs
theorem LikeTo.eq {α : Type} {xs ys : List α} {k : Nat} (hl : xs.length = ys.length) (hk : xs.length ≤ k) (h : LikeTo xs ys k) : xs = ys :=
  List.ext_getElem hl fun j h1 h2 => h j h1 h2 (by omega)
def sameRows (a b : List (List Val)) : Bool := decide (a = b)
def likeRel (a b : Relt) : Bool := a.arity == b.arity && sameRows a.rows b.rows
end Go.Proofs.Ytkemjhlbokldhaa

/- Sizes of data (printed by mktot.py) -/
namespace Go.Proofs.Ytkemjhlbokldhaa
open Go.RowKit
set_option linter.unusedVariables false

def totL {α : Type} (c : α → Nat) (xs : List α) : Nat := xs.length + cntL c xs
def szR (n : Nat) (left : Int) : Int := if (n : Int) ≤ left then left - n else -1
theorem szR_neg {n : Nat} {l : Int} (h : szR n l < 0) : l < (n : Int) := by
  unfold szR at h; split at h <;> omega
theorem szR_nonneg {n : Nat} {l : Int} (h : 0 ≤ szR n l) : (n : Int) ≤ l ∧ szR n l = l - n := by
  unfold szR at *; split at h
  · rename_i h1; exact ⟨h1, if_pos h1⟩
  · omega
theorem cntL_snoc {α : Type} {c : α → Nat} {xs : List α} {k : Nat} (hk : k < xs.length) : cntL c (xs.take (k + 1)) = cntL c (xs.take k) + c xs[k] := by
  rw [List.take_succ_eq_append_getElem hk]
  generalize xs.take k = ys
  generalize xs[k] = y
  induction ys with
  | nil => simp [cntL]
  | cons z zs ih => simp only [List.cons_append, cntL, ih]; omega
theorem cntL_all {α : Type} {c : α → Nat} {xs : List α} {k : Nat} (hk : xs.length ≤ k) : cntL c (xs.take k) = cntL c xs := by rw [List.take_of_length_le hk]
theorem cntL_mem {α : Type} {c : α → Nat} : ∀ {xs : List α} {x : α}, x ∈ xs → c x ≤ cntL c xs
  | y :: ys, x, h => by
    rcases List.mem_cons.1 h with rfl | h
    · simp only [cntL]; omega
    · have := cntL_mem (c := c) h; simp only [cntL]; omega

def totValue (x : Val) : Nat := x.s.size
end Go.Proofs.Ytkemjhlbokldhaa

/- Plain laws on relations that are copied, marked, counted. -/
namespace Go.Proofs.Ytkemjhlbokldhaa
open Go.RowKit
set_option linter.unusedVariables false

theorem totL_len {α : Type} {c : α → Nat} {xs : List α} {M : Nat} (h : totL c xs ≤ M) : xs.length ≤ M := by unfold totL at h; omega
theorem totL_mem {α : Type} {c : α → Nat} {xs : List α} {M : Nat} (h : totL c xs ≤ M) {x : α} (hx : x ∈ xs) : c x ≤ M := by
  have := cntL_mem (c := c) hx
  unfold totL at h; omega
end Go.Proofs.Ytkemjhlbokldhaa

/- The laws' own functions: GenF (printed by gen.py) -/
namespace Go.Proofs.Ytkemjhlbokldhaa
open Go.RowKit
set_option linter.unusedVariables false
set_option maxRecDepth 100000

structure Termt where
  var : ByteArray
  val : Val
def termE : Enc Termt := isoE (pairE strE (pairE valE unitE)) (fun x => (x.var, x.val, ()))
theorem Term_rep {w : World} {cs : List Value} {x : Termt} {bs : List Nat} : termE.rep w cs x bs ↔ cs = [.string x.var, .int .i64 x.val.n, .string x.val.s] ∧ x.var.size ≤ maxLen ∧ (Lit.int .i64 x.val.n).wf = true ∧ x.val.s.size ≤ maxLen ∧ bs = [] := by
  constructor
  · rintro ⟨c0, r0, d0, q0, rfl, rfl, h0, c1, r1, d1, q1, rfl, rfl, h1, rfl, rfl⟩
    obtain ⟨rfl, f0, rfl⟩ := h0
    obtain ⟨rfl, f1_0, f1_1, hbs⟩ := Value_rep.1 h1
    obtain rfl := hbs.symm
    exact ⟨by simp, f0, f1_0, f1_1, by simp⟩
  · rintro ⟨rfl, f0, f1, f2, hbs⟩
    obtain rfl := hbs.symm
    exact ⟨[.string x.var], [.int .i64 x.val.n, .string x.val.s], [], [], rfl, by simp, ⟨rfl, f0, rfl⟩, ⟨[.int .i64 x.val.n, .string x.val.s], [], [], [], rfl, by simp, Value_rep.2 ⟨rfl, f1, f2, rfl⟩, ⟨rfl, rfl⟩⟩⟩
theorem opens_lTerm : Opens Try.prog termE 125 :=
  opens_iso (fun x => ⟨x.1, x.2.1⟩) (fun _ => rfl) (opens_struct Try.underlying125 (by kernel_rfl) (opensF_cons rfl (by kernel_rfl) (opens_string Try.underlying9) (opensF_cons rfl (by kernel_rfl) opens_lValue opensF_nil)))
def termC (x : Termt) : List Cell := [.c (.string x.var), .c (.int .i64 x.val.n), .c (.string x.val.s)]
instance : CellsOf termE termC := cellsIso (e := (pairE strE (pairE valE unitE))) (fun x : Termt => (x.var, x.val, ()))
def smallTerm (x : Termt) : Prop := x.var.size ≤ 1048576 ∧ smallValue x.val

structure Atomt where
  name : ByteArray
  args : List (Termt)
def atomE : Enc Atomt := isoE (pairE strE (pairE (sliceE termE) unitE)) (fun x => (x.name, x.args, ()))
theorem Atom_rep {w : World} {cs : List Value} {x : Atomt} {bs : List Nat} : atomE.rep w cs x bs ↔ ∃ (sa0 : Option Addr) (sn0 sc0 : Nat) (sb0 : List Nat), cs = [.string x.name, .slice sa0 sn0 sc0] ∧ x.name.size ≤ maxLen ∧ SliceRep termE w sa0 sn0 sc0 x.args sb0 ∧ bs = sb0 := by
  constructor
  · rintro ⟨c0, r0, d0, q0, rfl, rfl, h0, c1, r1, d1, q1, rfl, rfl, h1, rfl, rfl⟩
    obtain ⟨rfl, f0, rfl⟩ := h0
    obtain ⟨va0, vn0, vc0, rfl, f1⟩ := h1
    exact ⟨va0, vn0, vc0, _, by simp, f0, f1, by simp⟩
  · rintro ⟨sa0, sn0, sc0, sb0, rfl, f0, f1, hbs⟩
    obtain rfl := hbs.symm
    exact ⟨[.string x.name], [.slice sa0 sn0 sc0], [], sb0, rfl, by simp, ⟨rfl, f0, rfl⟩, ⟨[.slice sa0 sn0 sc0], [], sb0, [], rfl, by simp, ⟨sa0, sn0, sc0, rfl, f1⟩, ⟨rfl, rfl⟩⟩⟩
theorem opens_lAtom : Opens Try.prog atomE 24 :=
  opens_iso (fun x => ⟨x.1, x.2.1⟩) (fun _ => rfl) (opens_struct Try.underlying24 (by kernel_rfl) (opensF_cons rfl (by kernel_rfl) (opens_string Try.underlying9) (opensF_cons rfl (by kernel_rfl) (opens_slice Try.underlying22 (by kernel_rfl) (by decide) opens_lTerm) opensF_nil)))
def atomC (x : Atomt) : List Cell := [.c (.string x.name), .sl termE x.args]
instance : CellsOf atomE atomC := cellsIso (e := (pairE strE (pairE (sliceE termE) unitE))) (fun x : Atomt => (x.name, x.args, ()))
def smallAtom (x : Atomt) : Prop := x.name.size ≤ 1048576 ∧ (x.args.length ≤ 1048576 ∧ ∀ y ∈ x.args, smallTerm y)

structure Litt where
  kind : Int
  atom : Atomt
  op : Int
  a : Termt
  b : Termt
def litE : Enc Litt := isoE (pairE (intE .i64) (pairE atomE (pairE (intE .i64) (pairE termE (pairE termE unitE))))) (fun x => (x.kind, x.atom, x.op, x.a, x.b, ()))
theorem opens_lLit : Opens Try.prog litE 127 :=
  opens_iso (fun x => ⟨x.1, x.2.1, x.2.2.1, x.2.2.2.1, x.2.2.2.2.1⟩) (fun _ => rfl) (opens_struct Try.underlying127 (by kernel_rfl) (opensF_cons rfl (by kernel_rfl) (opens_int Try.underlying3) (opensF_cons rfl (by kernel_rfl) opens_lAtom (opensF_cons rfl (by kernel_rfl) (opens_int Try.underlying3) (opensF_cons rfl (by kernel_rfl) opens_lTerm (opensF_cons rfl (by kernel_rfl) opens_lTerm opensF_nil))))))
def litC (x : Litt) : List Cell := [.c (.int .i64 x.kind), .c (.string x.atom.name), .sl termE x.atom.args, .c (.int .i64 x.op), .c (.string x.a.var), .c (.int .i64 x.a.val.n), .c (.string x.a.val.s), .c (.string x.b.var), .c (.int .i64 x.b.val.n), .c (.string x.b.val.s)]
instance : CellsOf litE litC := cellsIso (e := (pairE (intE .i64) (pairE atomE (pairE (intE .i64) (pairE termE (pairE termE unitE)))))) (fun x : Litt => (x.kind, x.atom, x.op, x.a, x.b, ()))
def smallLit (x : Litt) : Prop := smallAtom x.atom ∧ smallTerm x.a ∧ smallTerm x.b

structure Rulet where
  kind : Int
  head : Atomt
  body : List (Litt)
def ruleE : Enc Rulet := isoE (pairE (intE .i64) (pairE atomE (pairE (sliceE litE) unitE))) (fun x => (x.kind, x.head, x.body, ()))
theorem Rule_rep {w : World} {cs : List Value} {x : Rulet} {bs : List Nat} : ruleE.rep w cs x bs ↔ ∃ (sa0 : Option Addr) (sn0 sc0 : Nat) (sb0 : List Nat) (sa1 : Option Addr) (sn1 sc1 : Nat) (sb1 : List Nat), cs = [.int .i64 x.kind, .string x.head.name, .slice sa0 sn0 sc0, .slice sa1 sn1 sc1] ∧ (Lit.int .i64 x.kind).wf = true ∧ x.head.name.size ≤ maxLen ∧ SliceRep termE w sa0 sn0 sc0 x.head.args sb0 ∧ SliceRep litE w sa1 sn1 sc1 x.body sb1 ∧ bs = sb0 ++ sb1 := by
  constructor
  · rintro ⟨c0, r0, d0, q0, rfl, rfl, h0, c1, r1, d1, q1, rfl, rfl, h1, c2, r2, d2, q2, rfl, rfl, h2, rfl, rfl⟩
    obtain ⟨rfl, f0, rfl⟩ := h0
    obtain ⟨va0, vn0, vc0, vb0, rfl, f1_0, f1_1, hbs⟩ := Atom_rep.1 h1
    obtain rfl := hbs.symm
    obtain ⟨va1, vn1, vc1, rfl, f2⟩ := h2
    exact ⟨_, _, _, _, va1, vn1, vc1, _, by simp, f0, f1_0, f1_1, f2, by simp⟩
  · rintro ⟨sa0, sn0, sc0, sb0, sa1, sn1, sc1, sb1, rfl, f0, f1, f2, f3, hbs⟩
    obtain rfl := hbs.symm
    exact ⟨[.int .i64 x.kind], [.string x.head.name, .slice sa0 sn0 sc0, .slice sa1 sn1 sc1], [], (sb0) ++ sb1, rfl, by simp, ⟨rfl, f0, rfl⟩, ⟨[.string x.head.name, .slice sa0 sn0 sc0], [.slice sa1 sn1 sc1], (sb0), sb1, rfl, by simp, Atom_rep.2 ⟨sa0, sn0, sc0, sb0, rfl, f1, f2, rfl⟩, ⟨[.slice sa1 sn1 sc1], [], sb1, [], rfl, by simp, ⟨sa1, sn1, sc1, rfl, f3⟩, ⟨rfl, rfl⟩⟩⟩⟩
theorem opens_lRule : Opens Try.prog ruleE 27 :=
  opens_iso (fun x => ⟨x.1, x.2.1, x.2.2.1⟩) (fun _ => rfl) (opens_struct Try.underlying27 (by kernel_rfl) (opensF_cons rfl (by kernel_rfl) (opens_int Try.underlying3) (opensF_cons rfl (by kernel_rfl) opens_lAtom (opensF_cons rfl (by kernel_rfl) (opens_slice Try.underlying25 (by kernel_rfl) (by decide) opens_lLit) opensF_nil))))
def ruleC (x : Rulet) : List Cell := [.c (.int .i64 x.kind), .c (.string x.head.name), .sl termE x.head.args, .sl litE x.body]
instance : CellsOf ruleE ruleC := cellsIso (e := (pairE (intE .i64) (pairE atomE (pairE (sliceE litE) unitE)))) (fun x : Rulet => (x.kind, x.head, x.body, ()))
def smallRule (x : Rulet) : Prop := smallAtom x.head ∧ (x.body.length ≤ 1048576 ∧ ∀ y ∈ x.body, smallLit y)

structure Declt where
  kind : Int
  name : ByteArray
  arity : Int
structure Programt where
  decls : List (Declt)
  rules : List (Rulet)
end Go.Proofs.Ytkemjhlbokldhaa

/- Sizes of data (printed by mktot.py) -/
namespace Go.Proofs.Ytkemjhlbokldhaa
open Go.RowKit
set_option linter.unusedVariables false

def totTerm (x : Termt) : Nat := x.var.size + totValue x.val
def totAtom (x : Atomt) : Nat := x.name.size + totL totTerm x.args
def totLit (x : Litt) : Nat := totAtom x.atom + totTerm x.a + totTerm x.b
def totRule (x : Rulet) : Nat := totAtom x.head + totL totLit x.body
theorem totTerm_small {x : Termt} (h : totTerm x ≤ 1048576) : smallTerm x := by
  simp only [totTerm, totValue] at h
  exact ⟨by omega, by unfold smallValue; omega⟩
theorem totAtom_small {x : Atomt} (h : totAtom x ≤ 1048576) : smallAtom x := by
  simp only [totAtom] at h
  exact ⟨by omega, totL_len (c := totTerm) (by omega), fun y hy => totTerm_small (totL_mem (c := totTerm) (by omega) hy)⟩
theorem totLit_small {x : Litt} (h : totLit x ≤ 1048576) : smallLit x := by
  simp only [totLit] at h
  exact ⟨totAtom_small (by omega), totTerm_small (by omega), totTerm_small (by omega)⟩
theorem totRule_small {x : Rulet} (h : totRule x ≤ 1048576) : smallRule x := by
  simp only [totRule] at h
  exact ⟨totAtom_small (by omega), totL_len (c := totLit) (by omega), fun y hy => totLit_small (totL_mem (c := totLit) (by omega) hy)⟩
end Go.Proofs.Ytkemjhlbokldhaa

/- The laws' own functions (printed by walk.py) -/
namespace Go.Proofs.Ytkemjhlbokldhaa
open Go.RowKit
set_option linter.unusedVariables false
set_option linter.unusedSimpArgs false
set_option maxRecDepth 100000

set_option maxHeartbeats 4000000 in
theorem szValue_c (x : Val) (left : Int) (l0 : 0 ≤ left) (l1 : left ≤ 1048576) : AC Try.prog 149 [.agg (valC x), .one (.c (.int .i64 left))] [] (.one (.c (.int .i64 (szR (totValue x) left)))) [] := by
  refine AC_body1 Try.func149 rfl rfl Try.ntmps149 rfl Try.results149 ?_
  refine AW_aggsmax 0 1 rfl rfl (fun hs0_1 => ?_)
  refine AW_seq ?_
  refine AW_region ?_
  refine AL_p (x_box 100 rfl rfl rfl rfl rfl rfl rfl) ?_
  refine AL_p (x_assign rfl rfl) ?_
  refine AL_nil ?_
  refine AW_seq ?_
  refine AW_region ?_
  refine AL_p (x_move rfl rfl) ?_
  refine AL_p (x_field (off := 1) (o' := 1) rfl rfl rfl (by kernel_rfl) rfl) ?_
  refine AL_p (x_load1 rfl rfl rfl (by kernel_rfl) rfl) ?_
  refine AL_p (x_lens rfl rfl (by kernel_rfl)) ?_
  refine AL_p (x_sub rfl rfl rfl (IntWalk.i64_in _ (by omega))) ?_
  refine AL_p (x_assign rfl rfl) ?_
  refine AL_nil ?_
  refine AW_seq ?_
  refine AW_seq ?_
  refine AW_region ?_
  refine AL_p (x_move rfl rfl) ?_
  refine AL_b (x_lss rfl rfl rfl) (fun b11 h11 => ?_)
  refine AL_nil ?_
  cases b11
  rotate_left
  · try simp only [tdy] at h11
    refine AW_condT rfl ?_
    refine AW_seq ?_
    refine AW_region ?_
    refine AL_p (x_assign rfl rfl) ?_
    refine AL_nil ?_
    refine AW_ret ?_
    exact ⟨rn [], ⟨⟨⟨_, rfl, vle_int (by first | (simp only [totValue]; unfold szR; omega) | (simp only [totValue]; done))⟩, trivial⟩, trivial, trivial, rfl⟩⟩
  try simp only [tdy] at h11
  refine AW_condF rfl ?_
  refine AW_skip ?_
  refine AW_seq ?_
  refine AW_region ?_
  refine AL_p (x_move rfl rfl) ?_
  refine AL_p (x_assign rfl rfl) ?_
  refine AL_nil ?_
  refine AW_ret ?_
  exact ⟨rn [], ⟨⟨⟨_, rfl, vle_int (by first | (simp only [totValue]; unfold szR; omega) | (simp only [totValue]; done))⟩, trivial⟩, trivial, trivial, rfl⟩⟩

set_option maxHeartbeats 4000000 in
theorem eqValue_c (x : Val) : AC Try.prog 157 [.agg (valC x), .agg (valC x)] [] (.one (.c (.bool true))) [] := by
  refine AC_body1 Try.func157 rfl rfl Try.ntmps157 rfl Try.results157 ?_
  refine AW_seq ?_
  refine AW_region ?_
  refine AL_p (x_box 100 rfl rfl rfl rfl rfl rfl rfl) ?_
  refine AL_p (x_box 101 rfl rfl rfl rfl rfl rfl rfl) ?_
  refine AL_p (x_assign rfl rfl) ?_
  refine AL_nil ?_
  refine AW_seq ?_
  refine AW_seq ?_
  refine AW_region ?_
  refine AL_p (x_field (off := 0) (o' := 0) rfl rfl rfl (by kernel_rfl) rfl) ?_
  refine AL_p (x_load1 rfl rfl rfl (by kernel_rfl) rfl) ?_
  refine AL_p (x_field (off := 0) (o' := 0) rfl rfl rfl (by kernel_rfl) rfl) ?_
  refine AL_p (x_load1 rfl rfl rfl (by kernel_rfl) rfl) ?_
  refine AL_b (x_neq rfl rfl rfl) (fun b9 h9 => ?_)
  refine AL_nil ?_
  cases b9
  rotate_left
  · exfalso; first | (simp [ba_beq_self] at h9; done) | grind
  try simp only [tdy] at h9
  refine AW_condF rfl ?_
  refine AW_skip ?_
  refine AW_seq ?_
  refine AW_seq ?_
  refine AW_region ?_
  refine AL_p (x_field (off := 1) (o' := 1) rfl rfl rfl (by kernel_rfl) rfl) ?_
  refine AL_p (x_load1 rfl rfl rfl (by kernel_rfl) rfl) ?_
  refine AL_p (x_field (off := 1) (o' := 1) rfl rfl rfl (by kernel_rfl) rfl) ?_
  refine AL_p (x_load1 rfl rfl rfl (by kernel_rfl) rfl) ?_
  refine AL_b (x_sneq rfl rfl rfl) (fun b14 h14 => ?_)
  refine AL_nil ?_
  cases b14
  rotate_left
  · exfalso; first | (simp [ba_beq_self] at h14; done) | grind
  try simp only [tdy] at h14
  refine AW_condF rfl ?_
  refine AW_skip ?_
  refine AW_seq ?_
  refine AW_region ?_
  refine AL_p (x_assign rfl rfl) ?_
  refine AL_nil ?_
  refine AW_ret ?_
  exact ⟨rn [], ⟨⟨⟨_, rfl, vle_bool (rfl)⟩, trivial⟩, trivial, trivial, rfl⟩⟩

set_option maxHeartbeats 4000000 in
theorem toValue_c (x : Val) : AC Try.prog 151 [.agg (valC x)] [] (.agg (valC x)) [] := by
  refine AC_bodyC (n := 2) (k := 9) (T := [(2, .one (.ptr 9 0))]) (Lf := ((9, some (.box (valC x))) :: [])) Try.func151 rfl rfl Try.ntmps151 rfl Try.results151 rfl rfl (by kernel_rfl) rfl rfl ⟨trivial, (by repeat (first | exact trivial | refine ⟨⟨_, rfl, BLe.rf⟩, ?_⟩)), (by repeat (first | exact trivial | refine ⟨⟨rfl, by first | (left; intro h; cases h) | (right; rfl), by first | exact (fun _ h => ⟨_, h⟩) | exact (fun _ _ => ⟨_, rfl⟩) | (intro _ h; cases h)⟩, ?_⟩)), rfl⟩ ?_
  refine AW_seq ?_
  refine AW_region ?_
  refine AL_p (x_box 100 rfl rfl rfl rfl rfl rfl rfl) ?_
  refine AL_p (x_alloc (z := .agg #[.int .i64 0, .string ⟨#[]⟩]) 101 rfl (by kernel_rfl) rfl rfl rfl rfl) ?_
  refine AL_nil ?_
  refine AW_seq ?_
  refine AW_region ?_
  refine AL_p (x_alloc (z := .agg #[.int .i64 0, .string ⟨#[]⟩]) 102 rfl (by kernel_rfl) rfl rfl rfl rfl) ?_
  refine AL_nil ?_
  refine AW_seq ?_
  refine AW_region ?_
  refine AL_p (x_field (off := 0) (o' := 0) rfl rfl rfl (by kernel_rfl) rfl) ?_
  refine AL_p (x_load1 rfl rfl rfl (by kernel_rfl) rfl) ?_
  refine AL_p (x_field (off := 0) (o' := 0) rfl rfl rfl (by kernel_rfl) rfl) ?_
  refine AL_p (x_store (n := 1) rfl rfl rfl rfl (by kernel_rfl) rfl rfl rfl) ?_
  refine AL_nil ?_
  refine AW_seq ?_
  refine AW_region ?_
  refine AL_p (x_field (off := 1) (o' := 1) rfl rfl rfl (by kernel_rfl) rfl) ?_
  refine AL_p (x_load1 rfl rfl rfl (by kernel_rfl) rfl) ?_
  refine AL_p (x_field (off := 1) (o' := 1) rfl rfl rfl (by kernel_rfl) rfl) ?_
  refine AL_p (x_store (n := 1) rfl rfl rfl rfl (by kernel_rfl) rfl rfl rfl) ?_
  refine AL_nil ?_
  refine AW_seq ?_
  refine AW_region ?_
  refine AL_p (x_loadN (n := 2) rfl rfl rfl (by kernel_rfl) rfl rfl) ?_
  refine AL_p (x_store (n := 2) rfl rfl rfl rfl (by kernel_rfl) rfl rfl rfl) ?_
  refine AL_nil ?_
  refine AW_ret ?_
  exact ⟨rn [(9, 101)], ⟨⟨⟨_, rfl, VLe.rf⟩, trivial⟩, ⟨⟨_, rfl, by first | exact BLe.rf | (subst_vars; exact BLe.rf)⟩, trivial⟩, trivial, rfl⟩⟩

set_option maxHeartbeats 4000000 in
theorem szTerm_c (x : Termt) (left : Int) (l0 : 0 ≤ left) (l1 : left ≤ 1048576) : AC Try.prog 126 [.agg (termC x), .one (.c (.int .i64 left))] [] (.one (.c (.int .i64 (szR (totTerm x) left)))) [] := by
  refine AC_body1 Try.func126 rfl rfl Try.ntmps126 rfl Try.results126 ?_
  refine AW_aggsmax 0 0 rfl rfl (fun hs0_0 => ?_)
  refine AW_aggsmax 0 2 rfl rfl (fun hs0_2 => ?_)
  refine AW_seq ?_
  refine AW_region ?_
  refine AL_p (x_box 100 rfl rfl rfl rfl rfl rfl rfl) ?_
  refine AL_p (x_assign rfl rfl) ?_
  refine AL_nil ?_
  refine AW_seq ?_
  refine AW_region ?_
  refine AL_p (x_move rfl rfl) ?_
  refine AL_p (x_field (off := 0) (o' := 0) rfl rfl rfl (by kernel_rfl) rfl) ?_
  refine AL_p (x_load1 rfl rfl rfl (by kernel_rfl) rfl) ?_
  refine AL_p (x_lens rfl rfl (by kernel_rfl)) ?_
  refine AL_p (x_sub rfl rfl rfl (IntWalk.i64_in _ (by omega))) ?_
  refine AL_p (x_assign rfl rfl) ?_
  refine AL_nil ?_
  refine AW_seq ?_
  refine AW_seq ?_
  refine AW_region ?_
  refine AL_p (x_move rfl rfl) ?_
  refine AL_b (x_lss rfl rfl rfl) (fun b11 h11 => ?_)
  refine AL_nil ?_
  cases b11
  rotate_left
  · try simp only [tdy] at h11
    refine AW_condT rfl ?_
    refine AW_seq ?_
    refine AW_region ?_
    refine AL_p (x_assign rfl rfl) ?_
    refine AL_nil ?_
    refine AW_ret ?_
    exact ⟨rn [], ⟨⟨⟨_, rfl, vle_int (by first | (simp only [totTerm]; unfold szR; omega) | (simp only [totTerm]; done))⟩, trivial⟩, trivial, trivial, rfl⟩⟩
  try simp only [tdy] at h11
  refine AW_condF rfl ?_
  refine AW_skip ?_
  refine AW_seq ?_
  refine AW_region ?_
  refine AL_p (x_field (off := 1) (o' := 1) rfl rfl rfl (by kernel_rfl) rfl) ?_
  refine AL_p (x_loadN (n := 2) rfl rfl rfl (by kernel_rfl) rfl rfl) ?_
  refine AL_p (x_move rfl rfl) ?_
  refine AL_p (x_call0 rfl rfl rfl (szValue_c _ _ (by omega) (by omega)) rfl rfl) ?_
  refine AL_p (x_assign rfl rfl) ?_
  refine AL_nil ?_
  refine AW_seq ?_
  refine AW_seq ?_
  refine AW_region ?_
  refine AL_p (x_move rfl rfl) ?_
  refine AL_b (x_lss rfl rfl rfl) (fun b17 h17 => ?_)
  refine AL_nil ?_
  cases b17
  rotate_left
  · try simp only [tdy] at h17
    have g17 := szR_neg h17
    refine AW_condT rfl ?_
    refine AW_seq ?_
    refine AW_region ?_
    refine AL_p (x_assign rfl rfl) ?_
    refine AL_nil ?_
    refine AW_ret ?_
    exact ⟨rn [], ⟨⟨⟨_, rfl, vle_int (by first | (simp only [totTerm]; unfold szR; omega) | (simp only [totTerm]; done))⟩, trivial⟩, trivial, trivial, rfl⟩⟩
  try simp only [tdy] at h17
  have f17 := (szR_nonneg h17).1
  have e17 := (szR_nonneg h17).2
  refine AW_condF rfl ?_
  refine AW_skip ?_
  refine AW_seq ?_
  refine AW_region ?_
  refine AL_p (x_move rfl rfl) ?_
  refine AL_p (x_assign rfl rfl) ?_
  refine AL_nil ?_
  refine AW_ret ?_
  exact ⟨rn [], ⟨⟨⟨_, rfl, vle_int (by first | (simp only [totTerm]; unfold szR; omega) | (simp only [totTerm]; done))⟩, trivial⟩, trivial, trivial, rfl⟩⟩

set_option maxHeartbeats 4000000 in
theorem szTermS_c (xs : List (Termt)) (left : Int) (l0 : 0 ≤ left) (l1 : left ≤ 1048576) : AC Try.prog 82 [.one (.sl termE xs), .one (.c (.int .i64 left))] [] (.one (.c (.int .i64 (szR (totL totTerm xs) left)))) [] := by
  refine AC_body1 Try.func82 rfl rfl Try.ntmps82 rfl Try.results82 ?_
  refine AW_slmax 0 rfl (fun hm0 => ?_)
  refine AW_seq ?_
  refine AW_region ?_
  refine AL_p (x_assign rfl rfl) ?_
  refine AL_nil ?_
  refine AW_seq ?_
  refine AW_region ?_
  refine AL_p (x_move rfl rfl) ?_
  refine AL_p (x_move rfl rfl) ?_
  refine AL_p (x_len (E := 125) (n := 3) rfl rfl (by kernel_rfl)) ?_
  refine AL_p (x_sub rfl rfl rfl (IntWalk.i64_in _ (by omega))) ?_
  refine AL_p (x_assign rfl rfl) ?_
  refine AL_nil ?_
  refine AW_seq ?_
  refine AW_seq ?_
  refine AW_region ?_
  refine AL_p (x_move rfl rfl) ?_
  refine AL_b (x_lss rfl rfl rfl) (fun b11 h11 => ?_)
  refine AL_nil ?_
  cases b11
  rotate_left
  · try simp only [tdy] at h11
    refine AW_condT rfl ?_
    refine AW_seq ?_
    refine AW_region ?_
    refine AL_p (x_assign rfl rfl) ?_
    refine AL_nil ?_
    refine AW_ret ?_
    exact ⟨rn [], ⟨⟨⟨_, rfl, vle_int (by first | (simp only [totL]; unfold szR; omega) | (simp only [totL]; done))⟩, trivial⟩, trivial, trivial, rfl⟩⟩
  try simp only [tdy] at h11
  refine AW_condF rfl ?_
  refine AW_skip ?_
  refine AW_seq ?_
  refine AW_seq ?_
  refine AW_region ?_
  refine AL_p (x_assign rfl rfl) ?_
  refine AL_nil ?_
  refine AW_block ?_
  refine AW_loop2 (ι := {q : Nat // q ≤ xs.length ∧ ((cntL totTerm (xs.take q) : Nat) : Int) ≤ left - (xs.length : Int)}) (fun p => [(1, .one (.c (.int .i64 (left - (xs.length : Int) - ((cntL totTerm (xs.take (p.1)) : Nat) : Int))))), (5, .one (.c (.int .i64 ((p.1) : Int))))]) (fun p => []) [0] [] (fun p => xs.length - (p.1)) ⟨0, ⟨by omega, by first | (simp [cntL]; done) | (simp [cntL]; try omega)⟩⟩ (rn []) ?_ ?_
  exact ⟨by (repeat refine ⟨⟨_, rfl, by first | exact VLe.rf | exact vle_int (by dsimp only; omega) | exact vle_int (by first | (simp [cntL]; done) | (simp [cntL]; try omega))⟩, ?_⟩); exact trivial, by (repeat refine ⟨⟨_, rfl, by first | exact BLe.rf | exact BLe.box AllC.rf | exact BLe.arr (by exact rfl)⟩, ?_⟩); exact trivial, by repeat (first | exact trivial | refine ⟨⟨rfl, by first | (left; intro h; cases h) | (right; rfl), by first | exact (fun _ h => ⟨_, h⟩) | exact (fun _ _ => ⟨_, rfl⟩) | (intro _ h; cases h)⟩, ?_⟩), rfl⟩
  rintro ⟨k, hinv⟩
  dsimp only
  obtain ⟨hk, hc⟩ := hinv
  refine AW_seq ?_
  refine AW_seq ?_
  refine AW_region ?_
  refine AL_p (x_move rfl rfl) ?_
  refine AL_p (x_move rfl rfl) ?_
  refine AL_p (x_len (E := 125) (n := 3) rfl rfl (by kernel_rfl)) ?_
  refine AL_b (x_lss rfl rfl rfl) (fun b15 h15 => ?_)
  refine AL_nil ?_
  cases b15
  · try simp only [tdy] at h15
    have ha := cntL_all (c := totTerm) (xs := xs) (k := k) (by omega)
    refine AW_condF rfl ?_
    refine AW_exit (BQ_hit ?_)
    refine AW_seq ?_
    refine AW_region ?_
    refine AL_p (x_move rfl rfl) ?_
    refine AL_p (x_assign rfl rfl) ?_
    refine AL_nil ?_
    refine AW_ret ?_
    exact ⟨rn [], ⟨⟨⟨_, rfl, vle_int (by first | (simp only [totL]; unfold szR; omega) | (simp only [totL]; done))⟩, trivial⟩, trivial, trivial, rfl⟩⟩
  try simp only [tdy] at h15
  have hlt : k < xs.length := by omega
  have hs := cntL_snoc (c := totTerm) hlt
  have ht := cntL_take (c := totTerm) hlt
  refine AW_condT rfl ?_
  refine AW_skip ?_
  refine AW_seq ?_
  refine AW_block ?_
  refine AW_seq ?_
  refine AW_region ?_
  refine AL_p (x_move rfl rfl) ?_
  refine AL_p (x_move rfl rfl) ?_
  refine AL_p (x_index (E := 125) (n := 3) rfl rfl rfl (by kernel_rfl) rfl (k := k) (by omega) (by omega)) ?_
  refine AL_p (x_eloadW (n := 3) rfl rfl (by kernel_rfl) rfl) ?_
  refine AL_p (x_move rfl rfl) ?_
  refine AL_p (x_call0 rfl rfl rfl (szTerm_c _ _ (by omega) (by omega)) rfl rfl) ?_
  refine AL_p (x_assign rfl rfl) ?_
  refine AL_nil ?_
  refine AW_seq ?_
  refine AW_region ?_
  refine AL_p (x_move rfl rfl) ?_
  refine AL_b (x_lss rfl rfl rfl) (fun b25 h25 => ?_)
  refine AL_nil ?_
  cases b25
  rotate_left
  · try simp only [tdy] at h25
    have g25 := szR_neg h25
    refine AW_condT rfl ?_
    refine AW_seq ?_
    refine AW_region ?_
    refine AL_p (x_assign rfl rfl) ?_
    refine AL_nil ?_
    refine AW_ret (BQ_ret (BQ_ret ?_))
    exact ⟨rn [], ⟨⟨⟨_, rfl, vle_int (by first | (simp only [totL]; unfold szR; omega) | (simp only [totL]; done))⟩, trivial⟩, trivial, trivial, rfl⟩⟩
  try simp only [tdy] at h25
  have f25 := (szR_nonneg h25).1
  have e25 := (szR_nonneg h25).2
  refine AW_condF rfl ?_
  refine AW_skip ?_
  refine AW_region ?_
  refine AL_p (x_move rfl rfl) ?_
  refine AL_p (x_add rfl rfl rfl (IntWalk.i64_in _ (by omega))) ?_
  refine AL_p (x_assign rfl rfl) ?_
  refine AL_nil ?_
  refine ⟨⟨k + 1, ⟨by omega, by omega⟩⟩, rn [], ?_, by dsimp only; omega⟩
  exact ⟨by (repeat refine ⟨⟨_, rfl, by first | exact VLe.rf | exact vle_int (by dsimp only; omega) | exact vle_int (by first | (simp [cntL]; done) | (simp [cntL]; try omega))⟩, ?_⟩); exact trivial, by (repeat refine ⟨⟨_, rfl, by first | exact BLe.rf | exact BLe.box AllC.rf | exact BLe.arr (by exact rfl)⟩, ?_⟩); exact trivial, by repeat (first | exact trivial | refine ⟨⟨rfl, by first | (left; intro h; cases h) | (right; rfl), by first | exact (fun _ h => ⟨_, h⟩) | exact (fun _ _ => ⟨_, rfl⟩) | (intro _ h; cases h)⟩, ?_⟩), rfl⟩

set_option maxHeartbeats 4000000 in
theorem eqTerm_c (x : Termt) : AC Try.prog 136 [.agg (termC x), .agg (termC x)] [] (.one (.c (.bool true))) [] := by
  refine AC_body1 Try.func136 rfl rfl Try.ntmps136 rfl Try.results136 ?_
  refine AW_seq ?_
  refine AW_region ?_
  refine AL_p (x_box 100 rfl rfl rfl rfl rfl rfl rfl) ?_
  refine AL_p (x_box 101 rfl rfl rfl rfl rfl rfl rfl) ?_
  refine AL_p (x_assign rfl rfl) ?_
  refine AL_nil ?_
  refine AW_seq ?_
  refine AW_seq ?_
  refine AW_region ?_
  refine AL_p (x_field (off := 0) (o' := 0) rfl rfl rfl (by kernel_rfl) rfl) ?_
  refine AL_p (x_load1 rfl rfl rfl (by kernel_rfl) rfl) ?_
  refine AL_p (x_field (off := 0) (o' := 0) rfl rfl rfl (by kernel_rfl) rfl) ?_
  refine AL_p (x_load1 rfl rfl rfl (by kernel_rfl) rfl) ?_
  refine AL_b (x_sneq rfl rfl rfl) (fun b9 h9 => ?_)
  refine AL_nil ?_
  cases b9
  rotate_left
  · exfalso; first | (simp [ba_beq_self] at h9; done) | grind
  try simp only [tdy] at h9
  refine AW_condF rfl ?_
  refine AW_skip ?_
  refine AW_seq ?_
  refine AW_seq ?_
  refine AW_region ?_
  refine AL_p (x_field (off := 1) (o' := 1) rfl rfl rfl (by kernel_rfl) rfl) ?_
  refine AL_p (x_loadN (n := 2) rfl rfl rfl (by kernel_rfl) rfl rfl) ?_
  refine AL_p (x_field (off := 1) (o' := 1) rfl rfl rfl (by kernel_rfl) rfl) ?_
  refine AL_p (x_loadN (n := 2) rfl rfl rfl (by kernel_rfl) rfl rfl) ?_
  refine AL_p (x_call0 rfl rfl rfl (eqValue_c _) rfl rfl) ?_
  refine AL_p (x_not rfl rfl) ?_
  refine AL_nil ?_
  refine AW_condF rfl ?_
  refine AW_skip ?_
  refine AW_seq ?_
  refine AW_region ?_
  refine AL_p (x_assign rfl rfl) ?_
  refine AL_nil ?_
  refine AW_ret ?_
  exact ⟨rn [], ⟨⟨⟨_, rfl, vle_bool (rfl)⟩, trivial⟩, trivial, trivial, rfl⟩⟩

set_option maxHeartbeats 4000000 in
theorem eqTermS_c (xs : List (Termt)) : AC Try.prog 96 [.one (.sl termE xs), .one (.sl termE xs)] [] (.one (.c (.bool true))) [] := by
  refine AC_body1 Try.func96 rfl rfl Try.ntmps96 rfl Try.results96 ?_
  refine AW_slmax 0 rfl (fun hm0 => ?_)
  refine AW_seq ?_
  refine AW_region ?_
  refine AL_p (x_assign rfl rfl) ?_
  refine AL_nil ?_
  refine AW_seq ?_
  refine AW_seq ?_
  refine AW_region ?_
  refine AL_p (x_move rfl rfl) ?_
  refine AL_p (x_len (E := 70) (n := 3) rfl rfl (by kernel_rfl)) ?_
  refine AL_p (x_move rfl rfl) ?_
  refine AL_p (x_len (E := 70) (n := 3) rfl rfl (by kernel_rfl)) ?_
  refine AL_b (x_neq rfl rfl rfl) (fun b10 h10 => ?_)
  refine AL_nil ?_
  cases b10
  rotate_left
  · exfalso; first | (simp [ba_beq_self] at h10; done) | grind
  try simp only [tdy] at h10
  refine AW_condF rfl ?_
  refine AW_skip ?_
  refine AW_seq ?_
  refine AW_seq ?_
  refine AW_region ?_
  refine AL_p (x_assign rfl rfl) ?_
  refine AL_nil ?_
  refine AW_block ?_
  refine AW_loop2 (ι := {q : Nat // q ≤ xs.length}) (fun p => [(5, .one (.c (.int .i64 ((p.1) : Int))))]) (fun p => []) [0, 1] [] (fun p => xs.length - (p.1)) ⟨0, by omega⟩ (rn []) ?_ ?_
  exact ⟨by (repeat refine ⟨⟨_, rfl, by first | exact VLe.rf | exact vle_int (by dsimp only; omega)⟩, ?_⟩); exact trivial, by (repeat refine ⟨⟨_, rfl, by first | exact BLe.rf | exact BLe.box AllC.rf | exact BLe.arr (by exact rfl)⟩, ?_⟩); exact trivial, by repeat (first | exact trivial | refine ⟨⟨rfl, by first | (left; intro h; cases h) | (right; rfl), by first | exact (fun _ h => ⟨_, h⟩) | exact (fun _ _ => ⟨_, rfl⟩) | (intro _ h; cases h)⟩, ?_⟩), rfl⟩
  rintro ⟨k, hinv⟩
  dsimp only
  refine AW_seq ?_
  refine AW_seq ?_
  refine AW_region ?_
  refine AL_p (x_move rfl rfl) ?_
  refine AL_p (x_move rfl rfl) ?_
  refine AL_p (x_len (E := 70) (n := 3) rfl rfl (by kernel_rfl)) ?_
  refine AL_b (x_lss rfl rfl rfl) (fun b14 h14 => ?_)
  refine AL_nil ?_
  cases b14
  · try simp only [tdy] at h14
    refine AW_condF rfl ?_
    refine AW_exit (BQ_hit ?_)
    refine AW_seq ?_
    refine AW_region ?_
    refine AL_p (x_assign rfl rfl) ?_
    refine AL_nil ?_
    refine AW_ret ?_
    exact ⟨rn [], ⟨⟨⟨_, rfl, vle_bool (rfl)⟩, trivial⟩, trivial, trivial, rfl⟩⟩
  try simp only [tdy] at h14
  refine AW_condT rfl ?_
  refine AW_skip ?_
  refine AW_seq ?_
  refine AW_block ?_
  refine AW_seq ?_
  refine AW_draw rfl ?_
  refine AL_p (x_move rfl rfl) ?_
  refine AL_p (x_move rfl rfl) ?_
  refine AL_p (x_index (E := 70) (n := 3) rfl rfl rfl (by kernel_rfl) rfl (k := k) (by omega) (by omega)) ?_
  refine AL_p (x_eloadW (n := 3) rfl rfl (by kernel_rfl) rfl) ?_
  refine AL_p (x_move rfl rfl) ?_
  refine AL_p (x_move rfl rfl) ?_
  refine AL_p (x_index (E := 70) (n := 3) rfl rfl rfl (by kernel_rfl) rfl (k := k) (by omega) (by omega)) ?_
  refine AL_p (x_eloadW (n := 3) rfl rfl (by kernel_rfl) rfl) ?_
  refine AL_p (x_call0 rfl rfl rfl (eqTerm_c _) rfl rfl) ?_
  refine AL_p (x_not rfl rfl) ?_
  refine AL_nild (by kernel_rfl) ?_
  refine AW_condF rfl ?_
  refine AW_skip ?_
  refine AW_region ?_
  refine AL_p (x_move rfl rfl) ?_
  refine AL_p (x_add rfl rfl rfl (IntWalk.i64_in _ (by omega))) ?_
  refine AL_p (x_assign rfl rfl) ?_
  refine AL_nil ?_
  refine ⟨⟨k + 1, by omega⟩, rn [], ?_, by dsimp only; omega⟩
  exact ⟨by (repeat refine ⟨⟨_, rfl, by first | exact VLe.rf | exact vle_int (by dsimp only; omega)⟩, ?_⟩); exact trivial, by (repeat refine ⟨⟨_, rfl, by first | exact BLe.rf | exact BLe.box AllC.rf | exact BLe.arr (by exact rfl)⟩, ?_⟩); exact trivial, by repeat (first | exact trivial | refine ⟨⟨rfl, by first | (left; intro h; cases h) | (right; rfl), by first | exact (fun _ h => ⟨_, h⟩) | exact (fun _ _ => ⟨_, rfl⟩) | (intro _ h; cases h)⟩, ?_⟩), rfl⟩

set_option maxHeartbeats 4000000 in
theorem toTerm_c (x : Termt) : AC Try.prog 129 [.agg (termC x)] [] (.agg (termC x)) [] := by
  refine AC_bodyC (n := 3) (k := 9) (T := [(2, .one (.ptr 9 0))]) (Lf := ((9, some (.box (termC x))) :: [])) Try.func129 rfl rfl Try.ntmps129 rfl Try.results129 rfl rfl (by kernel_rfl) rfl rfl ⟨trivial, (by repeat (first | exact trivial | refine ⟨⟨_, rfl, BLe.rf⟩, ?_⟩)), (by repeat (first | exact trivial | refine ⟨⟨rfl, by first | (left; intro h; cases h) | (right; rfl), by first | exact (fun _ h => ⟨_, h⟩) | exact (fun _ _ => ⟨_, rfl⟩) | (intro _ h; cases h)⟩, ?_⟩)), rfl⟩ ?_
  refine AW_seq ?_
  refine AW_region ?_
  refine AL_p (x_box 100 rfl rfl rfl rfl rfl rfl rfl) ?_
  refine AL_p (x_alloc (z := .agg #[.string ⟨#[]⟩, .int .i64 0, .string ⟨#[]⟩]) 101 rfl (by kernel_rfl) rfl rfl rfl rfl) ?_
  refine AL_nil ?_
  refine AW_seq ?_
  refine AW_region ?_
  refine AL_p (x_alloc (z := .agg #[.string ⟨#[]⟩, .int .i64 0, .string ⟨#[]⟩]) 102 rfl (by kernel_rfl) rfl rfl rfl rfl) ?_
  refine AL_nil ?_
  refine AW_seq ?_
  refine AW_region ?_
  refine AL_p (x_field (off := 0) (o' := 0) rfl rfl rfl (by kernel_rfl) rfl) ?_
  refine AL_p (x_load1 rfl rfl rfl (by kernel_rfl) rfl) ?_
  refine AL_p (x_field (off := 0) (o' := 0) rfl rfl rfl (by kernel_rfl) rfl) ?_
  refine AL_p (x_store (n := 1) rfl rfl rfl rfl (by kernel_rfl) rfl rfl rfl) ?_
  refine AL_nil ?_
  refine AW_seq ?_
  refine AW_region ?_
  refine AL_p (x_field (off := 1) (o' := 1) rfl rfl rfl (by kernel_rfl) rfl) ?_
  refine AL_p (x_loadN (n := 2) rfl rfl rfl (by kernel_rfl) rfl rfl) ?_
  refine AL_p (x_call0 rfl rfl rfl (toValue_c x.val) rfl rfl) ?_
  refine AL_p (x_field (off := 1) (o' := 1) rfl rfl rfl (by kernel_rfl) rfl) ?_
  refine AL_p (x_store (n := 2) rfl rfl rfl rfl (by kernel_rfl) rfl rfl rfl) ?_
  refine AL_nil ?_
  refine AW_seq ?_
  refine AW_region ?_
  refine AL_p (x_loadN (n := 3) rfl rfl rfl (by kernel_rfl) rfl rfl) ?_
  refine AL_p (x_store (n := 3) rfl rfl rfl rfl (by kernel_rfl) rfl rfl rfl) ?_
  refine AL_nil ?_
  refine AW_ret ?_
  exact ⟨rn [(9, 101)], ⟨⟨⟨_, rfl, VLe.rf⟩, trivial⟩, ⟨⟨_, rfl, by first | exact BLe.rf | (subst_vars; exact BLe.rf)⟩, trivial⟩, trivial, rfl⟩⟩

set_option maxHeartbeats 4000000 in
theorem toTermS_c0 (xs : List (Termt)) (hs : xs.length ≤ 1048576) : AC Try.prog 87 [.one (.sl termE xs)] [] (.one (.own 0)) [(0, some (.arr 70 termE xs true))] := by
  refine AC_body1 Try.func87 rfl rfl Try.ntmps87 rfl Try.results87 ?_
  refine AW_seq ?_
  refine AW_region ?_
  refine AL_p (x_assign rfl rfl) ?_
  refine AL_nil ?_
  refine AW_seq ?_
  refine AW_region ?_
  refine AL_p (x_move rfl rfl) ?_
  refine AL_p (x_len (E := 125) (n := 3) rfl rfl (by kernel_rfl)) ?_
  refine AL_p (x_make (T := 31) (E := 70) (e := termE) ((⟨⟨#[]⟩, ⟨0, ⟨#[]⟩⟩⟩ : Termt)) (z := .agg #[.string ⟨#[]⟩, .int .i64 0, .string ⟨#[]⟩]) 100 rfl rfl rfl (by kernel_rfl) rfl FitL.rf rfl rfl (by kernel_rfl) (by have := hs; omega)) ?_
  refine AL_p (x_assign rfl rfl) ?_
  refine AL_nil ?_
  refine AW_seq ?_
  refine AW_seq ?_
  refine AW_region ?_
  refine AL_p (x_assign rfl rfl) ?_
  refine AL_nil ?_
  refine AW_block ?_
  refine AW_loop2 (ι := {q : Nat // q ≤ xs.length}) (fun p => [(4, .one (.c (.int .i64 ((p.1) : Int))))]) (fun p => [(100, some (.arr 70 termE (filledTo xs ((⟨⟨#[]⟩, ⟨0, ⟨#[]⟩⟩⟩ : Termt)) (p.1)) true))]) [0, 3] [] (fun p => xs.length - (p.1)) ⟨0, by omega⟩ (rn []) ?_ ?_
  exact ⟨by (repeat refine ⟨⟨_, rfl, by first | exact VLe.rf | exact vle_int (by dsimp only; omega)⟩, ?_⟩); exact trivial, by (repeat refine ⟨⟨_, rfl, by first | exact BLe.rf | exact BLe.box AllC.rf | exact BLe.arr (by first | exact filledTo_zero | exact filledTo_succ (by omega))⟩, ?_⟩); exact trivial, by repeat (first | exact trivial | refine ⟨⟨rfl, by first | (left; intro h; cases h) | (right; rfl), by first | exact (fun _ h => ⟨_, h⟩) | exact (fun _ _ => ⟨_, rfl⟩) | (intro _ h; cases h)⟩, ?_⟩), rfl⟩
  rintro ⟨k, hinv⟩
  dsimp only
  have hlen := hs
  refine AW_seq ?_
  refine AW_seq ?_
  refine AW_region ?_
  refine AL_p (x_move rfl rfl) ?_
  refine AL_p (x_move rfl rfl) ?_
  refine AL_p (x_len (E := 125) (n := 3) rfl rfl (by kernel_rfl)) ?_
  refine AL_b (x_lss rfl rfl rfl) (fun b11 h11 => ?_)
  refine AL_nil ?_
  cases b11
  · try simp only [tdy] at h11
    refine AW_condF rfl ?_
    refine AW_exit (BQ_hit ?_)
    refine AW_seq ?_
    refine AW_region ?_
    refine AL_p (x_move rfl rfl) ?_
    refine AL_p (x_assign rfl rfl) ?_
    refine AL_nil ?_
    refine AW_ret ?_
    exact ⟨rn [(0, 100)], ⟨⟨⟨_, rfl, VLe.rf⟩, trivial⟩, ⟨⟨_, rfl, BLe.arr (filledTo_done (by omega))⟩, trivial⟩, trivial, rfl⟩⟩
  try simp only [tdy] at h11
  refine AW_condT rfl ?_
  refine AW_skip ?_
  refine AW_seq ?_
  refine AW_block ?_
  refine AW_region ?_
  refine AL_p (x_move rfl rfl) ?_
  refine AL_p (x_move rfl rfl) ?_
  refine AL_p (x_move rfl rfl) ?_
  refine AL_p (x_move rfl rfl) ?_
  refine AL_p (x_index (E := 125) (n := 3) rfl rfl rfl (by kernel_rfl) rfl (k := k) (by omega) (by omega)) ?_
  refine AL_p (x_eloadW (n := 3) rfl rfl (by kernel_rfl) rfl) ?_
  refine AL_p (x_callR rfl rfl rfl (toTerm_c (xs[k]'(by omega))) rfl AllV.rf rfl rfl rfl rfl rfl) ?_
  refine AL_p (x_oindex (n := 3) rfl rfl rfl rfl (by kernel_rfl) rfl (k := k) rfl (by rw [filledTo_len (by omega)]; omega)) ?_
  refine AL_p (x_ostore (xs[k]'(by omega)) rfl rfl rfl rfl (by kernel_rfl) rfl rfl rfl rfl FitL.rf rfl rfl (by first | omega | (rw [filledTo_len (by omega)]; omega) | (simp; omega))) ?_
  refine AL_nil ?_
  refine AW_region ?_
  refine AL_p (x_move rfl rfl) ?_
  refine AL_p (x_add rfl rfl rfl (IntWalk.i64_in _ (by omega))) ?_
  refine AL_p (x_assign rfl rfl) ?_
  refine AL_nil ?_
  refine ⟨⟨k + 1, by omega⟩, rn [], ?_, by dsimp only; omega⟩
  exact ⟨by (repeat refine ⟨⟨_, rfl, by first | exact VLe.rf | exact vle_int (by dsimp only; omega)⟩, ?_⟩); exact trivial, by (repeat refine ⟨⟨_, rfl, by first | exact BLe.rf | exact BLe.box AllC.rf | exact BLe.arr (by first | exact filledTo_zero | exact filledTo_succ (by omega))⟩, ?_⟩); exact trivial, by repeat (first | exact trivial | refine ⟨⟨rfl, by first | (left; intro h; cases h) | (right; rfl), by first | exact (fun _ h => ⟨_, h⟩) | exact (fun _ _ => ⟨_, rfl⟩) | (intro _ h; cases h)⟩, ?_⟩), rfl⟩
theorem toTermS_c (xs : List (Termt)) (hs : xs.length ≤ 1048576) (k : Nat) : AC Try.prog 87 [.one (.sl termE xs)] [] (.one (.own k)) [(k, some (.arr 70 termE xs true))] := AC.at (toTermS_c0 xs hs) k

set_option maxHeartbeats 4000000 in
theorem szAtom_c (x : Atomt) (left : Int) (l0 : 0 ≤ left) (l1 : left ≤ 1048576) : AC Try.prog 29 [.agg (atomC x), .one (.c (.int .i64 left))] [] (.one (.c (.int .i64 (szR (totAtom x) left)))) [] := by
  refine AC_body1 Try.func29 rfl rfl Try.ntmps29 rfl Try.results29 ?_
  refine AW_aggsmax 0 0 rfl rfl (fun hs0_0 => ?_)
  refine AW_seq ?_
  refine AW_region ?_
  refine AL_p (x_box 100 rfl rfl rfl rfl rfl rfl rfl) ?_
  refine AL_p (x_assign rfl rfl) ?_
  refine AL_nil ?_
  refine AW_seq ?_
  refine AW_region ?_
  refine AL_p (x_move rfl rfl) ?_
  refine AL_p (x_field (off := 0) (o' := 0) rfl rfl rfl (by kernel_rfl) rfl) ?_
  refine AL_p (x_load1 rfl rfl rfl (by kernel_rfl) rfl) ?_
  refine AL_p (x_lens rfl rfl (by kernel_rfl)) ?_
  refine AL_p (x_sub rfl rfl rfl (IntWalk.i64_in _ (by omega))) ?_
  refine AL_p (x_assign rfl rfl) ?_
  refine AL_nil ?_
  refine AW_seq ?_
  refine AW_seq ?_
  refine AW_region ?_
  refine AL_p (x_move rfl rfl) ?_
  refine AL_b (x_lss rfl rfl rfl) (fun b11 h11 => ?_)
  refine AL_nil ?_
  cases b11
  rotate_left
  · try simp only [tdy] at h11
    refine AW_condT rfl ?_
    refine AW_seq ?_
    refine AW_region ?_
    refine AL_p (x_assign rfl rfl) ?_
    refine AL_nil ?_
    refine AW_ret ?_
    exact ⟨rn [], ⟨⟨⟨_, rfl, vle_int (by first | (simp only [totAtom]; unfold szR; omega) | (simp only [totAtom]; done))⟩, trivial⟩, trivial, trivial, rfl⟩⟩
  try simp only [tdy] at h11
  refine AW_condF rfl ?_
  refine AW_skip ?_
  refine AW_seq ?_
  refine AW_region ?_
  refine AL_p (x_field (off := 1) (o' := 1) rfl rfl rfl (by kernel_rfl) rfl) ?_
  refine AL_p (x_load1 rfl rfl rfl (by kernel_rfl) rfl) ?_
  refine AL_p (x_move rfl rfl) ?_
  refine AL_p (x_call0 rfl rfl rfl (szTermS_c _ _ (by omega) (by omega)) rfl rfl) ?_
  refine AL_p (x_assign rfl rfl) ?_
  refine AL_nil ?_
  refine AW_seq ?_
  refine AW_seq ?_
  refine AW_region ?_
  refine AL_p (x_move rfl rfl) ?_
  refine AL_b (x_lss rfl rfl rfl) (fun b17 h17 => ?_)
  refine AL_nil ?_
  cases b17
  rotate_left
  · try simp only [tdy] at h17
    have g17 := szR_neg h17
    refine AW_condT rfl ?_
    refine AW_seq ?_
    refine AW_region ?_
    refine AL_p (x_assign rfl rfl) ?_
    refine AL_nil ?_
    refine AW_ret ?_
    exact ⟨rn [], ⟨⟨⟨_, rfl, vle_int (by first | (simp only [totAtom]; unfold szR; omega) | (simp only [totAtom]; done))⟩, trivial⟩, trivial, trivial, rfl⟩⟩
  try simp only [tdy] at h17
  have f17 := (szR_nonneg h17).1
  have e17 := (szR_nonneg h17).2
  refine AW_condF rfl ?_
  refine AW_skip ?_
  refine AW_seq ?_
  refine AW_region ?_
  refine AL_p (x_move rfl rfl) ?_
  refine AL_p (x_assign rfl rfl) ?_
  refine AL_nil ?_
  refine AW_ret ?_
  exact ⟨rn [], ⟨⟨⟨_, rfl, vle_int (by first | (simp only [totAtom]; unfold szR; omega) | (simp only [totAtom]; done))⟩, trivial⟩, trivial, trivial, rfl⟩⟩

set_option maxHeartbeats 4000000 in
theorem eqAtom_c (x : Atomt) : AC Try.prog 37 [.agg (atomC x), .agg (atomC x)] [] (.one (.c (.bool true))) [] := by
  refine AC_body1 Try.func37 rfl rfl Try.ntmps37 rfl Try.results37 ?_
  refine AW_seq ?_
  refine AW_region ?_
  refine AL_p (x_box 100 rfl rfl rfl rfl rfl rfl rfl) ?_
  refine AL_p (x_box 101 rfl rfl rfl rfl rfl rfl rfl) ?_
  refine AL_p (x_assign rfl rfl) ?_
  refine AL_nil ?_
  refine AW_seq ?_
  refine AW_seq ?_
  refine AW_region ?_
  refine AL_p (x_field (off := 0) (o' := 0) rfl rfl rfl (by kernel_rfl) rfl) ?_
  refine AL_p (x_load1 rfl rfl rfl (by kernel_rfl) rfl) ?_
  refine AL_p (x_field (off := 0) (o' := 0) rfl rfl rfl (by kernel_rfl) rfl) ?_
  refine AL_p (x_load1 rfl rfl rfl (by kernel_rfl) rfl) ?_
  refine AL_b (x_sneq rfl rfl rfl) (fun b9 h9 => ?_)
  refine AL_nil ?_
  cases b9
  rotate_left
  · exfalso; first | (simp [ba_beq_self] at h9; done) | grind
  try simp only [tdy] at h9
  refine AW_condF rfl ?_
  refine AW_skip ?_
  refine AW_seq ?_
  refine AW_seq ?_
  refine AW_region ?_
  refine AL_p (x_field (off := 1) (o' := 1) rfl rfl rfl (by kernel_rfl) rfl) ?_
  refine AL_p (x_load1 rfl rfl rfl (by kernel_rfl) rfl) ?_
  refine AL_p (x_field (off := 1) (o' := 1) rfl rfl rfl (by kernel_rfl) rfl) ?_
  refine AL_p (x_load1 rfl rfl rfl (by kernel_rfl) rfl) ?_
  refine AL_p (x_call0 rfl rfl rfl (eqTermS_c _) rfl rfl) ?_
  refine AL_p (x_not rfl rfl) ?_
  refine AL_nil ?_
  refine AW_condF rfl ?_
  refine AW_skip ?_
  refine AW_seq ?_
  refine AW_region ?_
  refine AL_p (x_assign rfl rfl) ?_
  refine AL_nil ?_
  refine AW_ret ?_
  exact ⟨rn [], ⟨⟨⟨_, rfl, vle_bool (rfl)⟩, trivial⟩, trivial, trivial, rfl⟩⟩

set_option maxHeartbeats 4000000 in
theorem toAtom_c0 (x : Atomt) (hs : smallAtom x) : AC Try.prog 33 [.agg (atomC x)] [] (.agg [.c (.string x.name), .own 0]) [(0, some (.arr 70 termE x.args true))] := by
  refine AC_bodyC (n := 2) (k := 9) (T := [(2, .one (.ptr 9 0))]) (Lf := ((9, some (.box [.c (.string x.name), .own 0])) :: [(0, some (.arr 70 termE x.args true))])) Try.func33 rfl rfl Try.ntmps33 rfl Try.results33 rfl rfl (by kernel_rfl) rfl rfl ⟨trivial, (by repeat (first | exact trivial | refine ⟨⟨_, rfl, BLe.rf⟩, ?_⟩)), (by repeat (first | exact trivial | refine ⟨⟨rfl, by first | (left; intro h; cases h) | (right; rfl), by first | exact (fun _ h => ⟨_, h⟩) | exact (fun _ _ => ⟨_, rfl⟩) | (intro _ h; cases h)⟩, ?_⟩)), rfl⟩ ?_
  refine AW_seq ?_
  refine AW_region ?_
  refine AL_p (x_box 100 rfl rfl rfl rfl rfl rfl rfl) ?_
  refine AL_p (x_alloc (z := .agg #[.string ⟨#[]⟩, .slice none 0 0]) 101 rfl (by kernel_rfl) rfl rfl rfl rfl) ?_
  refine AL_nil ?_
  refine AW_seq ?_
  refine AW_region ?_
  refine AL_p (x_alloc (z := .agg #[.string ⟨#[]⟩, .slice none 0 0]) 102 rfl (by kernel_rfl) rfl rfl rfl rfl) ?_
  refine AL_nil ?_
  refine AW_seq ?_
  refine AW_region ?_
  refine AL_p (x_field (off := 0) (o' := 0) rfl rfl rfl (by kernel_rfl) rfl) ?_
  refine AL_p (x_load1 rfl rfl rfl (by kernel_rfl) rfl) ?_
  refine AL_p (x_field (off := 0) (o' := 0) rfl rfl rfl (by kernel_rfl) rfl) ?_
  refine AL_p (x_store (n := 1) rfl rfl rfl rfl (by kernel_rfl) rfl rfl rfl) ?_
  refine AL_nil ?_
  refine AW_seq ?_
  refine AW_region ?_
  refine AL_p (x_field (off := 1) (o' := 1) rfl rfl rfl (by kernel_rfl) rfl) ?_
  refine AL_p (x_load1 rfl rfl rfl (by kernel_rfl) rfl) ?_
  refine AL_p (x_call1 rfl rfl rfl (toTermS_c x.args (hs.2).1 103) rfl rfl rfl rfl) ?_
  refine AL_p (x_field (off := 1) (o' := 1) rfl rfl rfl (by kernel_rfl) rfl) ?_
  refine AL_p (x_store (n := 1) rfl rfl rfl rfl (by kernel_rfl) rfl rfl rfl) ?_
  refine AL_nil ?_
  refine AW_seq ?_
  refine AW_region ?_
  refine AL_p (x_loadN (n := 2) rfl rfl rfl (by kernel_rfl) rfl rfl) ?_
  refine AL_p (x_store (n := 2) rfl rfl rfl rfl (by kernel_rfl) rfl rfl rfl) ?_
  refine AL_nil ?_
  refine AW_ret ?_
  exact ⟨rn [(9, 101), (0, 103)], ⟨⟨⟨_, rfl, VLe.rf⟩, trivial⟩, ⟨⟨_, rfl, by first | exact BLe.rf | (subst_vars; exact BLe.rf)⟩, ⟨_, rfl, BLe.rf⟩, trivial⟩, trivial, rfl⟩⟩
theorem toAtom_c (x : Atomt) (hs : smallAtom x) (k : Nat) : AC Try.prog 33 [.agg (atomC x)] [] (.agg [.c (.string x.name), .own k]) [(k, some (.arr 70 termE x.args true))] := AC.at (toAtom_c0 x hs) k

set_option maxHeartbeats 4000000 in
theorem szLit_c (x : Litt) (left : Int) (l0 : 0 ≤ left) (l1 : left ≤ 1048576) : AC Try.prog 83 [.agg (litC x), .one (.c (.int .i64 left))] [] (.one (.c (.int .i64 (szR (totLit x) left)))) [] := by
  refine AC_body1 Try.func83 rfl rfl Try.ntmps83 rfl Try.results83 ?_
  refine AW_aggsmax 0 1 rfl rfl (fun hs0_1 => ?_)
  refine AW_aggsmax 0 4 rfl rfl (fun hs0_4 => ?_)
  refine AW_aggsmax 0 6 rfl rfl (fun hs0_6 => ?_)
  refine AW_aggsmax 0 7 rfl rfl (fun hs0_7 => ?_)
  refine AW_aggsmax 0 9 rfl rfl (fun hs0_9 => ?_)
  refine AW_seq ?_
  refine AW_region ?_
  refine AL_p (x_box 100 rfl rfl rfl rfl rfl rfl rfl) ?_
  refine AL_p (x_assign rfl rfl) ?_
  refine AL_nil ?_
  refine AW_seq ?_
  refine AW_region ?_
  refine AL_p (x_field (off := 1) (o' := 1) rfl rfl rfl (by kernel_rfl) rfl) ?_
  refine AL_p (x_loadN (n := 2) rfl rfl rfl (by kernel_rfl) rfl rfl) ?_
  refine AL_p (x_move rfl rfl) ?_
  refine AL_p (x_call0 rfl rfl rfl (szAtom_c _ _ (by omega) (by omega)) rfl rfl) ?_
  refine AL_p (x_assign rfl rfl) ?_
  refine AL_nil ?_
  refine AW_seq ?_
  refine AW_seq ?_
  refine AW_region ?_
  refine AL_p (x_move rfl rfl) ?_
  refine AL_b (x_lss rfl rfl rfl) (fun b10 h10 => ?_)
  refine AL_nil ?_
  cases b10
  rotate_left
  · try simp only [tdy] at h10
    have g10 := szR_neg h10
    refine AW_condT rfl ?_
    refine AW_seq ?_
    refine AW_region ?_
    refine AL_p (x_assign rfl rfl) ?_
    refine AL_nil ?_
    refine AW_ret ?_
    exact ⟨rn [], ⟨⟨⟨_, rfl, vle_int (by first | (simp only [totLit]; unfold szR; omega) | (simp only [totLit]; done))⟩, trivial⟩, trivial, trivial, rfl⟩⟩
  try simp only [tdy] at h10
  have f10 := (szR_nonneg h10).1
  have e10 := (szR_nonneg h10).2
  refine AW_condF rfl ?_
  refine AW_skip ?_
  refine AW_seq ?_
  refine AW_region ?_
  refine AL_p (x_field (off := 4) (o' := 4) rfl rfl rfl (by kernel_rfl) rfl) ?_
  refine AL_p (x_loadN (n := 3) rfl rfl rfl (by kernel_rfl) rfl rfl) ?_
  refine AL_p (x_move rfl rfl) ?_
  refine AL_p (x_call0 rfl rfl rfl (szTerm_c _ _ (by omega) (by omega)) rfl rfl) ?_
  refine AL_p (x_assign rfl rfl) ?_
  refine AL_nil ?_
  refine AW_seq ?_
  refine AW_seq ?_
  refine AW_region ?_
  refine AL_p (x_move rfl rfl) ?_
  refine AL_b (x_lss rfl rfl rfl) (fun b16 h16 => ?_)
  refine AL_nil ?_
  cases b16
  rotate_left
  · try simp only [tdy] at h16
    have g16 := szR_neg h16
    refine AW_condT rfl ?_
    refine AW_seq ?_
    refine AW_region ?_
    refine AL_p (x_assign rfl rfl) ?_
    refine AL_nil ?_
    refine AW_ret ?_
    exact ⟨rn [], ⟨⟨⟨_, rfl, vle_int (by first | (simp only [totLit]; unfold szR; omega) | (simp only [totLit]; done))⟩, trivial⟩, trivial, trivial, rfl⟩⟩
  try simp only [tdy] at h16
  have f16 := (szR_nonneg h16).1
  have e16 := (szR_nonneg h16).2
  refine AW_condF rfl ?_
  refine AW_skip ?_
  refine AW_seq ?_
  refine AW_region ?_
  refine AL_p (x_field (off := 7) (o' := 7) rfl rfl rfl (by kernel_rfl) rfl) ?_
  refine AL_p (x_loadN (n := 3) rfl rfl rfl (by kernel_rfl) rfl rfl) ?_
  refine AL_p (x_move rfl rfl) ?_
  refine AL_p (x_call0 rfl rfl rfl (szTerm_c _ _ (by omega) (by omega)) rfl rfl) ?_
  refine AL_p (x_assign rfl rfl) ?_
  refine AL_nil ?_
  refine AW_seq ?_
  refine AW_seq ?_
  refine AW_region ?_
  refine AL_p (x_move rfl rfl) ?_
  refine AL_b (x_lss rfl rfl rfl) (fun b22 h22 => ?_)
  refine AL_nil ?_
  cases b22
  rotate_left
  · try simp only [tdy] at h22
    have g22 := szR_neg h22
    refine AW_condT rfl ?_
    refine AW_seq ?_
    refine AW_region ?_
    refine AL_p (x_assign rfl rfl) ?_
    refine AL_nil ?_
    refine AW_ret ?_
    exact ⟨rn [], ⟨⟨⟨_, rfl, vle_int (by first | (simp only [totLit]; unfold szR; omega) | (simp only [totLit]; done))⟩, trivial⟩, trivial, trivial, rfl⟩⟩
  try simp only [tdy] at h22
  have f22 := (szR_nonneg h22).1
  have e22 := (szR_nonneg h22).2
  refine AW_condF rfl ?_
  refine AW_skip ?_
  refine AW_seq ?_
  refine AW_region ?_
  refine AL_p (x_move rfl rfl) ?_
  refine AL_p (x_assign rfl rfl) ?_
  refine AL_nil ?_
  refine AW_ret ?_
  exact ⟨rn [], ⟨⟨⟨_, rfl, vle_int (by first | (simp only [totLit]; unfold szR; omega) | (simp only [totLit]; done))⟩, trivial⟩, trivial, trivial, rfl⟩⟩

set_option maxHeartbeats 4000000 in
theorem szLitS_c (xs : List (Litt)) (left : Int) (l0 : 0 ≤ left) (l1 : left ≤ 1048576) : AC Try.prog 30 [.one (.sl litE xs), .one (.c (.int .i64 left))] [] (.one (.c (.int .i64 (szR (totL totLit xs) left)))) [] := by
  refine AC_body1 Try.func30 rfl rfl Try.ntmps30 rfl Try.results30 ?_
  refine AW_slmax 0 rfl (fun hm0 => ?_)
  refine AW_seq ?_
  refine AW_region ?_
  refine AL_p (x_assign rfl rfl) ?_
  refine AL_nil ?_
  refine AW_seq ?_
  refine AW_region ?_
  refine AL_p (x_move rfl rfl) ?_
  refine AL_p (x_move rfl rfl) ?_
  refine AL_p (x_len (E := 127) (n := 10) rfl rfl (by kernel_rfl)) ?_
  refine AL_p (x_sub rfl rfl rfl (IntWalk.i64_in _ (by omega))) ?_
  refine AL_p (x_assign rfl rfl) ?_
  refine AL_nil ?_
  refine AW_seq ?_
  refine AW_seq ?_
  refine AW_region ?_
  refine AL_p (x_move rfl rfl) ?_
  refine AL_b (x_lss rfl rfl rfl) (fun b11 h11 => ?_)
  refine AL_nil ?_
  cases b11
  rotate_left
  · try simp only [tdy] at h11
    refine AW_condT rfl ?_
    refine AW_seq ?_
    refine AW_region ?_
    refine AL_p (x_assign rfl rfl) ?_
    refine AL_nil ?_
    refine AW_ret ?_
    exact ⟨rn [], ⟨⟨⟨_, rfl, vle_int (by first | (simp only [totL]; unfold szR; omega) | (simp only [totL]; done))⟩, trivial⟩, trivial, trivial, rfl⟩⟩
  try simp only [tdy] at h11
  refine AW_condF rfl ?_
  refine AW_skip ?_
  refine AW_seq ?_
  refine AW_seq ?_
  refine AW_region ?_
  refine AL_p (x_assign rfl rfl) ?_
  refine AL_nil ?_
  refine AW_block ?_
  refine AW_loop2 (ι := {q : Nat // q ≤ xs.length ∧ ((cntL totLit (xs.take q) : Nat) : Int) ≤ left - (xs.length : Int)}) (fun p => [(1, .one (.c (.int .i64 (left - (xs.length : Int) - ((cntL totLit (xs.take (p.1)) : Nat) : Int))))), (5, .one (.c (.int .i64 ((p.1) : Int))))]) (fun p => []) [0] [] (fun p => xs.length - (p.1)) ⟨0, ⟨by omega, by first | (simp [cntL]; done) | (simp [cntL]; try omega)⟩⟩ (rn []) ?_ ?_
  exact ⟨by (repeat refine ⟨⟨_, rfl, by first | exact VLe.rf | exact vle_int (by dsimp only; omega) | exact vle_int (by first | (simp [cntL]; done) | (simp [cntL]; try omega))⟩, ?_⟩); exact trivial, by (repeat refine ⟨⟨_, rfl, by first | exact BLe.rf | exact BLe.box AllC.rf | exact BLe.arr (by exact rfl)⟩, ?_⟩); exact trivial, by repeat (first | exact trivial | refine ⟨⟨rfl, by first | (left; intro h; cases h) | (right; rfl), by first | exact (fun _ h => ⟨_, h⟩) | exact (fun _ _ => ⟨_, rfl⟩) | (intro _ h; cases h)⟩, ?_⟩), rfl⟩
  rintro ⟨k, hinv⟩
  dsimp only
  obtain ⟨hk, hc⟩ := hinv
  refine AW_seq ?_
  refine AW_seq ?_
  refine AW_region ?_
  refine AL_p (x_move rfl rfl) ?_
  refine AL_p (x_move rfl rfl) ?_
  refine AL_p (x_len (E := 127) (n := 10) rfl rfl (by kernel_rfl)) ?_
  refine AL_b (x_lss rfl rfl rfl) (fun b15 h15 => ?_)
  refine AL_nil ?_
  cases b15
  · try simp only [tdy] at h15
    have ha := cntL_all (c := totLit) (xs := xs) (k := k) (by omega)
    refine AW_condF rfl ?_
    refine AW_exit (BQ_hit ?_)
    refine AW_seq ?_
    refine AW_region ?_
    refine AL_p (x_move rfl rfl) ?_
    refine AL_p (x_assign rfl rfl) ?_
    refine AL_nil ?_
    refine AW_ret ?_
    exact ⟨rn [], ⟨⟨⟨_, rfl, vle_int (by first | (simp only [totL]; unfold szR; omega) | (simp only [totL]; done))⟩, trivial⟩, trivial, trivial, rfl⟩⟩
  try simp only [tdy] at h15
  have hlt : k < xs.length := by omega
  have hs := cntL_snoc (c := totLit) hlt
  have ht := cntL_take (c := totLit) hlt
  refine AW_condT rfl ?_
  refine AW_skip ?_
  refine AW_seq ?_
  refine AW_block ?_
  refine AW_seq ?_
  refine AW_region ?_
  refine AL_p (x_move rfl rfl) ?_
  refine AL_p (x_move rfl rfl) ?_
  refine AL_p (x_index (E := 127) (n := 10) rfl rfl rfl (by kernel_rfl) rfl (k := k) (by omega) (by omega)) ?_
  refine AL_p (x_eloadW (n := 10) rfl rfl (by kernel_rfl) rfl) ?_
  refine AL_p (x_move rfl rfl) ?_
  refine AL_p (x_call0 rfl rfl rfl (szLit_c _ _ (by omega) (by omega)) rfl rfl) ?_
  refine AL_p (x_assign rfl rfl) ?_
  refine AL_nil ?_
  refine AW_seq ?_
  refine AW_region ?_
  refine AL_p (x_move rfl rfl) ?_
  refine AL_b (x_lss rfl rfl rfl) (fun b25 h25 => ?_)
  refine AL_nil ?_
  cases b25
  rotate_left
  · try simp only [tdy] at h25
    have g25 := szR_neg h25
    refine AW_condT rfl ?_
    refine AW_seq ?_
    refine AW_region ?_
    refine AL_p (x_assign rfl rfl) ?_
    refine AL_nil ?_
    refine AW_ret (BQ_ret (BQ_ret ?_))
    exact ⟨rn [], ⟨⟨⟨_, rfl, vle_int (by first | (simp only [totL]; unfold szR; omega) | (simp only [totL]; done))⟩, trivial⟩, trivial, trivial, rfl⟩⟩
  try simp only [tdy] at h25
  have f25 := (szR_nonneg h25).1
  have e25 := (szR_nonneg h25).2
  refine AW_condF rfl ?_
  refine AW_skip ?_
  refine AW_region ?_
  refine AL_p (x_move rfl rfl) ?_
  refine AL_p (x_add rfl rfl rfl (IntWalk.i64_in _ (by omega))) ?_
  refine AL_p (x_assign rfl rfl) ?_
  refine AL_nil ?_
  refine ⟨⟨k + 1, ⟨by omega, by omega⟩⟩, rn [], ?_, by dsimp only; omega⟩
  exact ⟨by (repeat refine ⟨⟨_, rfl, by first | exact VLe.rf | exact vle_int (by dsimp only; omega) | exact vle_int (by first | (simp [cntL]; done) | (simp [cntL]; try omega))⟩, ?_⟩); exact trivial, by (repeat refine ⟨⟨_, rfl, by first | exact BLe.rf | exact BLe.box AllC.rf | exact BLe.arr (by exact rfl)⟩, ?_⟩); exact trivial, by repeat (first | exact trivial | refine ⟨⟨rfl, by first | (left; intro h; cases h) | (right; rfl), by first | exact (fun _ h => ⟨_, h⟩) | exact (fun _ _ => ⟨_, rfl⟩) | (intro _ h; cases h)⟩, ?_⟩), rfl⟩

set_option maxHeartbeats 4000000 in
theorem eqLit_c (x : Litt) : AC Try.prog 97 [.agg (litC x), .agg (litC x)] [] (.one (.c (.bool true))) [] := by
  refine AC_body1 Try.func97 rfl rfl Try.ntmps97 rfl Try.results97 ?_
  refine AW_seq ?_
  refine AW_region ?_
  refine AL_p (x_box 100 rfl rfl rfl rfl rfl rfl rfl) ?_
  refine AL_p (x_box 101 rfl rfl rfl rfl rfl rfl rfl) ?_
  refine AL_p (x_assign rfl rfl) ?_
  refine AL_nil ?_
  refine AW_seq ?_
  refine AW_seq ?_
  refine AW_region ?_
  refine AL_p (x_field (off := 0) (o' := 0) rfl rfl rfl (by kernel_rfl) rfl) ?_
  refine AL_p (x_load1 rfl rfl rfl (by kernel_rfl) rfl) ?_
  refine AL_p (x_field (off := 0) (o' := 0) rfl rfl rfl (by kernel_rfl) rfl) ?_
  refine AL_p (x_load1 rfl rfl rfl (by kernel_rfl) rfl) ?_
  refine AL_b (x_neq rfl rfl rfl) (fun b9 h9 => ?_)
  refine AL_nil ?_
  cases b9
  rotate_left
  · exfalso; first | (simp [ba_beq_self] at h9; done) | grind
  try simp only [tdy] at h9
  refine AW_condF rfl ?_
  refine AW_skip ?_
  refine AW_seq ?_
  refine AW_seq ?_
  refine AW_region ?_
  refine AL_p (x_field (off := 1) (o' := 1) rfl rfl rfl (by kernel_rfl) rfl) ?_
  refine AL_p (x_loadN (n := 2) rfl rfl rfl (by kernel_rfl) rfl rfl) ?_
  refine AL_p (x_field (off := 1) (o' := 1) rfl rfl rfl (by kernel_rfl) rfl) ?_
  refine AL_p (x_loadN (n := 2) rfl rfl rfl (by kernel_rfl) rfl rfl) ?_
  refine AL_p (x_call0 rfl rfl rfl (eqAtom_c _) rfl rfl) ?_
  refine AL_p (x_not rfl rfl) ?_
  refine AL_nil ?_
  refine AW_condF rfl ?_
  refine AW_skip ?_
  refine AW_seq ?_
  refine AW_seq ?_
  refine AW_region ?_
  refine AL_p (x_field (off := 3) (o' := 3) rfl rfl rfl (by kernel_rfl) rfl) ?_
  refine AL_p (x_load1 rfl rfl rfl (by kernel_rfl) rfl) ?_
  refine AL_p (x_field (off := 3) (o' := 3) rfl rfl rfl (by kernel_rfl) rfl) ?_
  refine AL_p (x_load1 rfl rfl rfl (by kernel_rfl) rfl) ?_
  refine AL_b (x_neq rfl rfl rfl) (fun b20 h20 => ?_)
  refine AL_nil ?_
  cases b20
  rotate_left
  · exfalso; first | (simp [ba_beq_self] at h20; done) | grind
  try simp only [tdy] at h20
  refine AW_condF rfl ?_
  refine AW_skip ?_
  refine AW_seq ?_
  refine AW_seq ?_
  refine AW_region ?_
  refine AL_p (x_field (off := 4) (o' := 4) rfl rfl rfl (by kernel_rfl) rfl) ?_
  refine AL_p (x_loadN (n := 3) rfl rfl rfl (by kernel_rfl) rfl rfl) ?_
  refine AL_p (x_field (off := 4) (o' := 4) rfl rfl rfl (by kernel_rfl) rfl) ?_
  refine AL_p (x_loadN (n := 3) rfl rfl rfl (by kernel_rfl) rfl rfl) ?_
  refine AL_p (x_call0 rfl rfl rfl (eqTerm_c _) rfl rfl) ?_
  refine AL_p (x_not rfl rfl) ?_
  refine AL_nil ?_
  refine AW_condF rfl ?_
  refine AW_skip ?_
  refine AW_seq ?_
  refine AW_seq ?_
  refine AW_region ?_
  refine AL_p (x_field (off := 7) (o' := 7) rfl rfl rfl (by kernel_rfl) rfl) ?_
  refine AL_p (x_loadN (n := 3) rfl rfl rfl (by kernel_rfl) rfl rfl) ?_
  refine AL_p (x_field (off := 7) (o' := 7) rfl rfl rfl (by kernel_rfl) rfl) ?_
  refine AL_p (x_loadN (n := 3) rfl rfl rfl (by kernel_rfl) rfl rfl) ?_
  refine AL_p (x_call0 rfl rfl rfl (eqTerm_c _) rfl rfl) ?_
  refine AL_p (x_not rfl rfl) ?_
  refine AL_nil ?_
  refine AW_condF rfl ?_
  refine AW_skip ?_
  refine AW_seq ?_
  refine AW_region ?_
  refine AL_p (x_assign rfl rfl) ?_
  refine AL_nil ?_
  refine AW_ret ?_
  exact ⟨rn [], ⟨⟨⟨_, rfl, vle_bool (rfl)⟩, trivial⟩, trivial, trivial, rfl⟩⟩

set_option maxHeartbeats 4000000 in
theorem eqLitS_c (xs : List (Litt)) : AC Try.prog 38 [.one (.sl litE xs), .one (.sl litE xs)] [] (.one (.c (.bool true))) [] := by
  refine AC_body1 Try.func38 rfl rfl Try.ntmps38 rfl Try.results38 ?_
  refine AW_slmax 0 rfl (fun hm0 => ?_)
  refine AW_seq ?_
  refine AW_region ?_
  refine AL_p (x_assign rfl rfl) ?_
  refine AL_nil ?_
  refine AW_seq ?_
  refine AW_seq ?_
  refine AW_region ?_
  refine AL_p (x_move rfl rfl) ?_
  refine AL_p (x_len (E := 72) (n := 10) rfl rfl (by kernel_rfl)) ?_
  refine AL_p (x_move rfl rfl) ?_
  refine AL_p (x_len (E := 72) (n := 10) rfl rfl (by kernel_rfl)) ?_
  refine AL_b (x_neq rfl rfl rfl) (fun b10 h10 => ?_)
  refine AL_nil ?_
  cases b10
  rotate_left
  · exfalso; first | (simp [ba_beq_self] at h10; done) | grind
  try simp only [tdy] at h10
  refine AW_condF rfl ?_
  refine AW_skip ?_
  refine AW_seq ?_
  refine AW_seq ?_
  refine AW_region ?_
  refine AL_p (x_assign rfl rfl) ?_
  refine AL_nil ?_
  refine AW_block ?_
  refine AW_loop2 (ι := {q : Nat // q ≤ xs.length}) (fun p => [(5, .one (.c (.int .i64 ((p.1) : Int))))]) (fun p => []) [0, 1] [] (fun p => xs.length - (p.1)) ⟨0, by omega⟩ (rn []) ?_ ?_
  exact ⟨by (repeat refine ⟨⟨_, rfl, by first | exact VLe.rf | exact vle_int (by dsimp only; omega)⟩, ?_⟩); exact trivial, by (repeat refine ⟨⟨_, rfl, by first | exact BLe.rf | exact BLe.box AllC.rf | exact BLe.arr (by exact rfl)⟩, ?_⟩); exact trivial, by repeat (first | exact trivial | refine ⟨⟨rfl, by first | (left; intro h; cases h) | (right; rfl), by first | exact (fun _ h => ⟨_, h⟩) | exact (fun _ _ => ⟨_, rfl⟩) | (intro _ h; cases h)⟩, ?_⟩), rfl⟩
  rintro ⟨k, hinv⟩
  dsimp only
  refine AW_seq ?_
  refine AW_seq ?_
  refine AW_region ?_
  refine AL_p (x_move rfl rfl) ?_
  refine AL_p (x_move rfl rfl) ?_
  refine AL_p (x_len (E := 72) (n := 10) rfl rfl (by kernel_rfl)) ?_
  refine AL_b (x_lss rfl rfl rfl) (fun b14 h14 => ?_)
  refine AL_nil ?_
  cases b14
  · try simp only [tdy] at h14
    refine AW_condF rfl ?_
    refine AW_exit (BQ_hit ?_)
    refine AW_seq ?_
    refine AW_region ?_
    refine AL_p (x_assign rfl rfl) ?_
    refine AL_nil ?_
    refine AW_ret ?_
    exact ⟨rn [], ⟨⟨⟨_, rfl, vle_bool (rfl)⟩, trivial⟩, trivial, trivial, rfl⟩⟩
  try simp only [tdy] at h14
  refine AW_condT rfl ?_
  refine AW_skip ?_
  refine AW_seq ?_
  refine AW_block ?_
  refine AW_seq ?_
  refine AW_draw rfl ?_
  refine AL_p (x_move rfl rfl) ?_
  refine AL_p (x_move rfl rfl) ?_
  refine AL_p (x_index (E := 72) (n := 10) rfl rfl rfl (by kernel_rfl) rfl (k := k) (by omega) (by omega)) ?_
  refine AL_p (x_eloadW (n := 10) rfl rfl (by kernel_rfl) rfl) ?_
  refine AL_p (x_move rfl rfl) ?_
  refine AL_p (x_move rfl rfl) ?_
  refine AL_p (x_index (E := 72) (n := 10) rfl rfl rfl (by kernel_rfl) rfl (k := k) (by omega) (by omega)) ?_
  refine AL_p (x_eloadW (n := 10) rfl rfl (by kernel_rfl) rfl) ?_
  refine AL_p (x_call0 rfl rfl rfl (eqLit_c _) rfl rfl) ?_
  refine AL_p (x_not rfl rfl) ?_
  refine AL_nild (by kernel_rfl) ?_
  refine AW_condF rfl ?_
  refine AW_skip ?_
  refine AW_region ?_
  refine AL_p (x_move rfl rfl) ?_
  refine AL_p (x_add rfl rfl rfl (IntWalk.i64_in _ (by omega))) ?_
  refine AL_p (x_assign rfl rfl) ?_
  refine AL_nil ?_
  refine ⟨⟨k + 1, by omega⟩, rn [], ?_, by dsimp only; omega⟩
  exact ⟨by (repeat refine ⟨⟨_, rfl, by first | exact VLe.rf | exact vle_int (by dsimp only; omega)⟩, ?_⟩); exact trivial, by (repeat refine ⟨⟨_, rfl, by first | exact BLe.rf | exact BLe.box AllC.rf | exact BLe.arr (by exact rfl)⟩, ?_⟩); exact trivial, by repeat (first | exact trivial | refine ⟨⟨rfl, by first | (left; intro h; cases h) | (right; rfl), by first | exact (fun _ h => ⟨_, h⟩) | exact (fun _ _ => ⟨_, rfl⟩) | (intro _ h; cases h)⟩, ?_⟩), rfl⟩

set_option maxHeartbeats 4000000 in
theorem toLit_c0 (x : Litt) (hs : smallLit x) : AC Try.prog 88 [.agg (litC x)] [] (.agg [.c (.int .i64 x.kind), .c (.string x.atom.name), .own 0, .c (.int .i64 x.op), .c (.string x.a.var), .c (.int .i64 x.a.val.n), .c (.string x.a.val.s), .c (.string x.b.var), .c (.int .i64 x.b.val.n), .c (.string x.b.val.s)]) [(0, some (.arr 70 termE x.atom.args true))] := by
  refine AC_bodyC (n := 10) (k := 9) (T := [(2, .one (.ptr 9 0))]) (Lf := ((9, some (.box [.c (.int .i64 x.kind), .c (.string x.atom.name), .own 0, .c (.int .i64 x.op), .c (.string x.a.var), .c (.int .i64 x.a.val.n), .c (.string x.a.val.s), .c (.string x.b.var), .c (.int .i64 x.b.val.n), .c (.string x.b.val.s)])) :: [(0, some (.arr 70 termE x.atom.args true))])) Try.func88 rfl rfl Try.ntmps88 rfl Try.results88 rfl rfl (by kernel_rfl) rfl rfl ⟨trivial, (by repeat (first | exact trivial | refine ⟨⟨_, rfl, BLe.rf⟩, ?_⟩)), (by repeat (first | exact trivial | refine ⟨⟨rfl, by first | (left; intro h; cases h) | (right; rfl), by first | exact (fun _ h => ⟨_, h⟩) | exact (fun _ _ => ⟨_, rfl⟩) | (intro _ h; cases h)⟩, ?_⟩)), rfl⟩ ?_
  refine AW_seq ?_
  refine AW_region ?_
  refine AL_p (x_box 100 rfl rfl rfl rfl rfl rfl rfl) ?_
  refine AL_p (x_alloc (z := .agg #[.int .i64 0, .string ⟨#[]⟩, .slice none 0 0, .int .i64 0, .string ⟨#[]⟩, .int .i64 0, .string ⟨#[]⟩, .string ⟨#[]⟩, .int .i64 0, .string ⟨#[]⟩]) 101 rfl (by kernel_rfl) rfl rfl rfl rfl) ?_
  refine AL_nil ?_
  refine AW_seq ?_
  refine AW_region ?_
  refine AL_p (x_alloc (z := .agg #[.int .i64 0, .string ⟨#[]⟩, .slice none 0 0, .int .i64 0, .string ⟨#[]⟩, .int .i64 0, .string ⟨#[]⟩, .string ⟨#[]⟩, .int .i64 0, .string ⟨#[]⟩]) 102 rfl (by kernel_rfl) rfl rfl rfl rfl) ?_
  refine AL_nil ?_
  refine AW_seq ?_
  refine AW_region ?_
  refine AL_p (x_field (off := 0) (o' := 0) rfl rfl rfl (by kernel_rfl) rfl) ?_
  refine AL_p (x_load1 rfl rfl rfl (by kernel_rfl) rfl) ?_
  refine AL_p (x_field (off := 0) (o' := 0) rfl rfl rfl (by kernel_rfl) rfl) ?_
  refine AL_p (x_store (n := 1) rfl rfl rfl rfl (by kernel_rfl) rfl rfl rfl) ?_
  refine AL_nil ?_
  refine AW_seq ?_
  refine AW_region ?_
  refine AL_p (x_field (off := 1) (o' := 1) rfl rfl rfl (by kernel_rfl) rfl) ?_
  refine AL_p (x_loadN (n := 2) rfl rfl rfl (by kernel_rfl) rfl rfl) ?_
  refine AL_p (x_callR rfl rfl rfl (toAtom_c x.atom hs.1 103) rfl AllV.rf rfl rfl rfl rfl rfl) ?_
  refine AL_p (x_field (off := 1) (o' := 1) rfl rfl rfl (by kernel_rfl) rfl) ?_
  refine AL_p (x_store (n := 2) rfl rfl rfl rfl (by kernel_rfl) rfl rfl rfl) ?_
  refine AL_nil ?_
  refine AW_seq ?_
  refine AW_region ?_
  refine AL_p (x_field (off := 3) (o' := 3) rfl rfl rfl (by kernel_rfl) rfl) ?_
  refine AL_p (x_load1 rfl rfl rfl (by kernel_rfl) rfl) ?_
  refine AL_p (x_field (off := 3) (o' := 3) rfl rfl rfl (by kernel_rfl) rfl) ?_
  refine AL_p (x_store (n := 1) rfl rfl rfl rfl (by kernel_rfl) rfl rfl rfl) ?_
  refine AL_nil ?_
  refine AW_seq ?_
  refine AW_region ?_
  refine AL_p (x_field (off := 4) (o' := 4) rfl rfl rfl (by kernel_rfl) rfl) ?_
  refine AL_p (x_loadN (n := 3) rfl rfl rfl (by kernel_rfl) rfl rfl) ?_
  refine AL_p (x_call0 rfl rfl rfl (toTerm_c x.a) rfl rfl) ?_
  refine AL_p (x_field (off := 4) (o' := 4) rfl rfl rfl (by kernel_rfl) rfl) ?_
  refine AL_p (x_store (n := 3) rfl rfl rfl rfl (by kernel_rfl) rfl rfl rfl) ?_
  refine AL_nil ?_
  refine AW_seq ?_
  refine AW_region ?_
  refine AL_p (x_field (off := 7) (o' := 7) rfl rfl rfl (by kernel_rfl) rfl) ?_
  refine AL_p (x_loadN (n := 3) rfl rfl rfl (by kernel_rfl) rfl rfl) ?_
  refine AL_p (x_call0 rfl rfl rfl (toTerm_c x.b) rfl rfl) ?_
  refine AL_p (x_field (off := 7) (o' := 7) rfl rfl rfl (by kernel_rfl) rfl) ?_
  refine AL_p (x_store (n := 3) rfl rfl rfl rfl (by kernel_rfl) rfl rfl rfl) ?_
  refine AL_nil ?_
  refine AW_seq ?_
  refine AW_region ?_
  refine AL_p (x_loadN (n := 10) rfl rfl rfl (by kernel_rfl) rfl rfl) ?_
  refine AL_p (x_store (n := 10) rfl rfl rfl rfl (by kernel_rfl) rfl rfl rfl) ?_
  refine AL_nil ?_
  refine AW_ret ?_
  exact ⟨rn [(9, 101), (0, 103)], ⟨⟨⟨_, rfl, VLe.rf⟩, trivial⟩, ⟨⟨_, rfl, by first | exact BLe.rf | (subst_vars; exact BLe.rf)⟩, ⟨_, rfl, BLe.rf⟩, trivial⟩, trivial, rfl⟩⟩
theorem toLit_c (x : Litt) (hs : smallLit x) (k : Nat) : AC Try.prog 88 [.agg (litC x)] [] (.agg [.c (.int .i64 x.kind), .c (.string x.atom.name), .own k, .c (.int .i64 x.op), .c (.string x.a.var), .c (.int .i64 x.a.val.n), .c (.string x.a.val.s), .c (.string x.b.var), .c (.int .i64 x.b.val.n), .c (.string x.b.val.s)]) [(k, some (.arr 70 termE x.atom.args true))] := AC.at (toLit_c0 x hs) k

set_option maxHeartbeats 4000000 in
theorem toLitS_c0 (xs : List (Litt)) (hs : xs.length ≤ 1048576 ∧ ∀ y ∈ xs, smallLit y) : AC Try.prog 34 [.one (.sl litE xs)] [] (.one (.own 0)) [(0, some (.arr 72 litE xs true))] := by
  refine AC_body1 Try.func34 rfl rfl Try.ntmps34 rfl Try.results34 ?_
  refine AW_seq ?_
  refine AW_region ?_
  refine AL_p (x_assign rfl rfl) ?_
  refine AL_nil ?_
  refine AW_seq ?_
  refine AW_region ?_
  refine AL_p (x_move rfl rfl) ?_
  refine AL_p (x_len (E := 127) (n := 10) rfl rfl (by kernel_rfl)) ?_
  refine AL_p (x_make (T := 34) (E := 72) (e := litE) ((⟨0, ⟨⟨#[]⟩, []⟩, 0, ⟨⟨#[]⟩, ⟨0, ⟨#[]⟩⟩⟩, ⟨⟨#[]⟩, ⟨0, ⟨#[]⟩⟩⟩⟩ : Litt)) (z := .agg #[.int .i64 0, .string ⟨#[]⟩, .slice none 0 0, .int .i64 0, .string ⟨#[]⟩, .int .i64 0, .string ⟨#[]⟩, .string ⟨#[]⟩, .int .i64 0, .string ⟨#[]⟩]) 100 rfl rfl rfl (by kernel_rfl) rfl ⟨.inl rfl, .inl rfl, .inr ⟨rfl, _, _, rfl⟩, .inl rfl, .inl rfl, .inl rfl, .inl rfl, .inl rfl, .inl rfl, .inl rfl, trivial⟩ rfl rfl (by kernel_rfl) (by have := hs.1; omega)) ?_
  refine AL_p (x_assign rfl rfl) ?_
  refine AL_nil ?_
  refine AW_seq ?_
  refine AW_seq ?_
  refine AW_region ?_
  refine AL_p (x_assign rfl rfl) ?_
  refine AL_nil ?_
  refine AW_block ?_
  refine AW_loop2 (ι := {q : Nat // q ≤ xs.length}) (fun p => [(4, .one (.c (.int .i64 ((p.1) : Int))))]) (fun p => [(100, some (.arr 72 litE (filledTo xs ((⟨0, ⟨⟨#[]⟩, []⟩, 0, ⟨⟨#[]⟩, ⟨0, ⟨#[]⟩⟩⟩, ⟨⟨#[]⟩, ⟨0, ⟨#[]⟩⟩⟩⟩ : Litt)) (p.1)) true))]) [0, 3] [] (fun p => xs.length - (p.1)) ⟨0, by omega⟩ (rn []) ?_ ?_
  exact ⟨by (repeat refine ⟨⟨_, rfl, by first | exact VLe.rf | exact vle_int (by dsimp only; omega)⟩, ?_⟩); exact trivial, by (repeat refine ⟨⟨_, rfl, by first | exact BLe.rf | exact BLe.box AllC.rf | exact BLe.arr (by first | exact filledTo_zero | exact filledTo_succ (by omega))⟩, ?_⟩); exact trivial, by repeat (first | exact trivial | refine ⟨⟨rfl, by first | (left; intro h; cases h) | (right; rfl), by first | exact (fun _ h => ⟨_, h⟩) | exact (fun _ _ => ⟨_, rfl⟩) | (intro _ h; cases h)⟩, ?_⟩), rfl⟩
  rintro ⟨k, hinv⟩
  dsimp only
  have hlen := hs.1
  refine AW_seq ?_
  refine AW_seq ?_
  refine AW_region ?_
  refine AL_p (x_move rfl rfl) ?_
  refine AL_p (x_move rfl rfl) ?_
  refine AL_p (x_len (E := 127) (n := 10) rfl rfl (by kernel_rfl)) ?_
  refine AL_b (x_lss rfl rfl rfl) (fun b11 h11 => ?_)
  refine AL_nil ?_
  cases b11
  · try simp only [tdy] at h11
    refine AW_condF rfl ?_
    refine AW_exit (BQ_hit ?_)
    refine AW_seq ?_
    refine AW_region ?_
    refine AL_p (x_move rfl rfl) ?_
    refine AL_p (x_assign rfl rfl) ?_
    refine AL_nil ?_
    refine AW_ret ?_
    exact ⟨rn [(0, 100)], ⟨⟨⟨_, rfl, VLe.rf⟩, trivial⟩, ⟨⟨_, rfl, BLe.arr (filledTo_done (by omega))⟩, trivial⟩, trivial, rfl⟩⟩
  try simp only [tdy] at h11
  refine AW_condT rfl ?_
  refine AW_skip ?_
  refine AW_seq ?_
  refine AW_block ?_
  refine AW_region ?_
  refine AL_p (x_move rfl rfl) ?_
  refine AL_p (x_move rfl rfl) ?_
  refine AL_p (x_move rfl rfl) ?_
  refine AL_p (x_move rfl rfl) ?_
  refine AL_p (x_index (E := 127) (n := 10) rfl rfl rfl (by kernel_rfl) rfl (k := k) (by omega) (by omega)) ?_
  refine AL_p (x_eloadW (n := 10) rfl rfl (by kernel_rfl) rfl) ?_
  refine AL_p (x_callR rfl rfl rfl (toLit_c (xs[k]'(by omega)) (hs.2 _ (List.getElem_mem _)) 101) rfl AllV.rf rfl rfl rfl rfl rfl) ?_
  refine AL_p (x_oindex (n := 10) rfl rfl rfl rfl (by kernel_rfl) rfl (k := k) rfl (by rw [filledTo_len (by omega)]; omega)) ?_
  refine AL_p (x_ostore (xs[k]'(by omega)) rfl rfl rfl rfl (by kernel_rfl) rfl rfl rfl rfl FitL.rf rfl rfl (by first | omega | (rw [filledTo_len (by omega)]; omega) | (simp; omega))) ?_
  refine AL_nil ?_
  refine AW_region ?_
  refine AL_p (x_move rfl rfl) ?_
  refine AL_p (x_add rfl rfl rfl (IntWalk.i64_in _ (by omega))) ?_
  refine AL_p (x_assign rfl rfl) ?_
  refine AL_nil ?_
  refine ⟨⟨k + 1, by omega⟩, rn [], ?_, by dsimp only; omega⟩
  exact ⟨by (repeat refine ⟨⟨_, rfl, by first | exact VLe.rf | exact vle_int (by dsimp only; omega)⟩, ?_⟩); exact trivial, by (repeat refine ⟨⟨_, rfl, by first | exact BLe.rf | exact BLe.box AllC.rf | exact BLe.arr (by first | exact filledTo_zero | exact filledTo_succ (by omega))⟩, ?_⟩); exact trivial, by repeat (first | exact trivial | refine ⟨⟨rfl, by first | (left; intro h; cases h) | (right; rfl), by first | exact (fun _ h => ⟨_, h⟩) | exact (fun _ _ => ⟨_, rfl⟩) | (intro _ h; cases h)⟩, ?_⟩), rfl⟩
theorem toLitS_c (xs : List (Litt)) (hs : xs.length ≤ 1048576 ∧ ∀ y ∈ xs, smallLit y) (k : Nat) : AC Try.prog 34 [.one (.sl litE xs)] [] (.one (.own k)) [(k, some (.arr 72 litE xs true))] := AC.at (toLitS_c0 xs hs) k

set_option maxHeartbeats 4000000 in
theorem szRule_c (x : Rulet) (left : Int) (l0 : 0 ≤ left) (l1 : left ≤ 1048576) : AC Try.prog 7 [.agg (ruleC x), .one (.c (.int .i64 left))] [] (.one (.c (.int .i64 (szR (totRule x) left)))) [] := by
  refine AC_body1 Try.func7 rfl rfl Try.ntmps7 rfl Try.results7 ?_
  refine AW_aggsmax 0 1 rfl rfl (fun hs0_1 => ?_)
  refine AW_seq ?_
  refine AW_region ?_
  refine AL_p (x_box 100 rfl rfl rfl rfl rfl rfl rfl) ?_
  refine AL_p (x_assign rfl rfl) ?_
  refine AL_nil ?_
  refine AW_seq ?_
  refine AW_region ?_
  refine AL_p (x_field (off := 1) (o' := 1) rfl rfl rfl (by kernel_rfl) rfl) ?_
  refine AL_p (x_loadN (n := 2) rfl rfl rfl (by kernel_rfl) rfl rfl) ?_
  refine AL_p (x_move rfl rfl) ?_
  refine AL_p (x_call0 rfl rfl rfl (szAtom_c _ _ (by omega) (by omega)) rfl rfl) ?_
  refine AL_p (x_assign rfl rfl) ?_
  refine AL_nil ?_
  refine AW_seq ?_
  refine AW_seq ?_
  refine AW_region ?_
  refine AL_p (x_move rfl rfl) ?_
  refine AL_b (x_lss rfl rfl rfl) (fun b10 h10 => ?_)
  refine AL_nil ?_
  cases b10
  rotate_left
  · try simp only [tdy] at h10
    have g10 := szR_neg h10
    refine AW_condT rfl ?_
    refine AW_seq ?_
    refine AW_region ?_
    refine AL_p (x_assign rfl rfl) ?_
    refine AL_nil ?_
    refine AW_ret ?_
    exact ⟨rn [], ⟨⟨⟨_, rfl, vle_int (by first | (simp only [totRule]; unfold szR; omega) | (simp only [totRule]; done))⟩, trivial⟩, trivial, trivial, rfl⟩⟩
  try simp only [tdy] at h10
  have f10 := (szR_nonneg h10).1
  have e10 := (szR_nonneg h10).2
  refine AW_condF rfl ?_
  refine AW_skip ?_
  refine AW_seq ?_
  refine AW_region ?_
  refine AL_p (x_field (off := 3) (o' := 3) rfl rfl rfl (by kernel_rfl) rfl) ?_
  refine AL_p (x_load1 rfl rfl rfl (by kernel_rfl) rfl) ?_
  refine AL_p (x_move rfl rfl) ?_
  refine AL_p (x_call0 rfl rfl rfl (szLitS_c _ _ (by omega) (by omega)) rfl rfl) ?_
  refine AL_p (x_assign rfl rfl) ?_
  refine AL_nil ?_
  refine AW_seq ?_
  refine AW_seq ?_
  refine AW_region ?_
  refine AL_p (x_move rfl rfl) ?_
  refine AL_b (x_lss rfl rfl rfl) (fun b16 h16 => ?_)
  refine AL_nil ?_
  cases b16
  rotate_left
  · try simp only [tdy] at h16
    have g16 := szR_neg h16
    refine AW_condT rfl ?_
    refine AW_seq ?_
    refine AW_region ?_
    refine AL_p (x_assign rfl rfl) ?_
    refine AL_nil ?_
    refine AW_ret ?_
    exact ⟨rn [], ⟨⟨⟨_, rfl, vle_int (by first | (simp only [totRule]; unfold szR; omega) | (simp only [totRule]; done))⟩, trivial⟩, trivial, trivial, rfl⟩⟩
  try simp only [tdy] at h16
  have f16 := (szR_nonneg h16).1
  have e16 := (szR_nonneg h16).2
  refine AW_condF rfl ?_
  refine AW_skip ?_
  refine AW_seq ?_
  refine AW_region ?_
  refine AL_p (x_move rfl rfl) ?_
  refine AL_p (x_assign rfl rfl) ?_
  refine AL_nil ?_
  refine AW_ret ?_
  exact ⟨rn [], ⟨⟨⟨_, rfl, vle_int (by first | (simp only [totRule]; unfold szR; omega) | (simp only [totRule]; done))⟩, trivial⟩, trivial, trivial, rfl⟩⟩

set_option maxHeartbeats 4000000 in
theorem eqRule_c (x : Rulet) : AC Try.prog 12 [.agg (ruleC x), .agg (ruleC x)] [] (.one (.c (.bool true))) [] := by
  refine AC_body1 Try.func12 rfl rfl Try.ntmps12 rfl Try.results12 ?_
  refine AW_seq ?_
  refine AW_region ?_
  refine AL_p (x_box 100 rfl rfl rfl rfl rfl rfl rfl) ?_
  refine AL_p (x_box 101 rfl rfl rfl rfl rfl rfl rfl) ?_
  refine AL_p (x_assign rfl rfl) ?_
  refine AL_nil ?_
  refine AW_seq ?_
  refine AW_seq ?_
  refine AW_region ?_
  refine AL_p (x_field (off := 0) (o' := 0) rfl rfl rfl (by kernel_rfl) rfl) ?_
  refine AL_p (x_load1 rfl rfl rfl (by kernel_rfl) rfl) ?_
  refine AL_p (x_field (off := 0) (o' := 0) rfl rfl rfl (by kernel_rfl) rfl) ?_
  refine AL_p (x_load1 rfl rfl rfl (by kernel_rfl) rfl) ?_
  refine AL_b (x_neq rfl rfl rfl) (fun b9 h9 => ?_)
  refine AL_nil ?_
  cases b9
  rotate_left
  · exfalso; first | (simp [ba_beq_self] at h9; done) | grind
  try simp only [tdy] at h9
  refine AW_condF rfl ?_
  refine AW_skip ?_
  refine AW_seq ?_
  refine AW_seq ?_
  refine AW_region ?_
  refine AL_p (x_field (off := 1) (o' := 1) rfl rfl rfl (by kernel_rfl) rfl) ?_
  refine AL_p (x_loadN (n := 2) rfl rfl rfl (by kernel_rfl) rfl rfl) ?_
  refine AL_p (x_field (off := 1) (o' := 1) rfl rfl rfl (by kernel_rfl) rfl) ?_
  refine AL_p (x_loadN (n := 2) rfl rfl rfl (by kernel_rfl) rfl rfl) ?_
  refine AL_p (x_call0 rfl rfl rfl (eqAtom_c _) rfl rfl) ?_
  refine AL_p (x_not rfl rfl) ?_
  refine AL_nil ?_
  refine AW_condF rfl ?_
  refine AW_skip ?_
  refine AW_seq ?_
  refine AW_seq ?_
  refine AW_region ?_
  refine AL_p (x_field (off := 3) (o' := 3) rfl rfl rfl (by kernel_rfl) rfl) ?_
  refine AL_p (x_load1 rfl rfl rfl (by kernel_rfl) rfl) ?_
  refine AL_p (x_field (off := 3) (o' := 3) rfl rfl rfl (by kernel_rfl) rfl) ?_
  refine AL_p (x_load1 rfl rfl rfl (by kernel_rfl) rfl) ?_
  refine AL_p (x_call0 rfl rfl rfl (eqLitS_c _) rfl rfl) ?_
  refine AL_p (x_not rfl rfl) ?_
  refine AL_nil ?_
  refine AW_condF rfl ?_
  refine AW_skip ?_
  refine AW_seq ?_
  refine AW_region ?_
  refine AL_p (x_assign rfl rfl) ?_
  refine AL_nil ?_
  refine AW_ret ?_
  exact ⟨rn [], ⟨⟨⟨_, rfl, vle_bool (rfl)⟩, trivial⟩, trivial, trivial, rfl⟩⟩

set_option maxHeartbeats 4000000 in
theorem toRule_c (x : Rulet) (hs : smallRule x) : AC Try.prog 9 [.agg (ruleC x)] [] (.agg [.c (.int .i64 x.kind), .c (.string x.head.name), .own 0, .own 1]) [(0, some (.arr 70 termE x.head.args true)), (1, some (.arr 72 litE x.body true))] := by
  refine AC_bodyC (n := 4) (k := 9) (T := [(2, .one (.ptr 9 0))]) (Lf := ((9, some (.box [.c (.int .i64 x.kind), .c (.string x.head.name), .own 0, .own 1])) :: [(0, some (.arr 70 termE x.head.args true)), (1, some (.arr 72 litE x.body true))])) Try.func9 rfl rfl Try.ntmps9 rfl Try.results9 rfl rfl (by kernel_rfl) rfl rfl ⟨trivial, (by repeat (first | exact trivial | refine ⟨⟨_, rfl, BLe.rf⟩, ?_⟩)), (by repeat (first | exact trivial | refine ⟨⟨rfl, by first | (left; intro h; cases h) | (right; rfl), by first | exact (fun _ h => ⟨_, h⟩) | exact (fun _ _ => ⟨_, rfl⟩) | (intro _ h; cases h)⟩, ?_⟩)), rfl⟩ ?_
  refine AW_seq ?_
  refine AW_region ?_
  refine AL_p (x_box 100 rfl rfl rfl rfl rfl rfl rfl) ?_
  refine AL_p (x_alloc (z := .agg #[.int .i64 0, .string ⟨#[]⟩, .slice none 0 0, .slice none 0 0]) 101 rfl (by kernel_rfl) rfl rfl rfl rfl) ?_
  refine AL_nil ?_
  refine AW_seq ?_
  refine AW_region ?_
  refine AL_p (x_alloc (z := .agg #[.int .i64 0, .string ⟨#[]⟩, .slice none 0 0, .slice none 0 0]) 102 rfl (by kernel_rfl) rfl rfl rfl rfl) ?_
  refine AL_nil ?_
  refine AW_seq ?_
  refine AW_region ?_
  refine AL_p (x_field (off := 0) (o' := 0) rfl rfl rfl (by kernel_rfl) rfl) ?_
  refine AL_p (x_load1 rfl rfl rfl (by kernel_rfl) rfl) ?_
  refine AL_p (x_field (off := 0) (o' := 0) rfl rfl rfl (by kernel_rfl) rfl) ?_
  refine AL_p (x_store (n := 1) rfl rfl rfl rfl (by kernel_rfl) rfl rfl rfl) ?_
  refine AL_nil ?_
  refine AW_seq ?_
  refine AW_region ?_
  refine AL_p (x_field (off := 1) (o' := 1) rfl rfl rfl (by kernel_rfl) rfl) ?_
  refine AL_p (x_loadN (n := 2) rfl rfl rfl (by kernel_rfl) rfl rfl) ?_
  refine AL_p (x_callR rfl rfl rfl (toAtom_c x.head hs.1 103) rfl AllV.rf rfl rfl rfl rfl rfl) ?_
  refine AL_p (x_field (off := 1) (o' := 1) rfl rfl rfl (by kernel_rfl) rfl) ?_
  refine AL_p (x_store (n := 2) rfl rfl rfl rfl (by kernel_rfl) rfl rfl rfl) ?_
  refine AL_nil ?_
  refine AW_seq ?_
  refine AW_region ?_
  refine AL_p (x_field (off := 3) (o' := 3) rfl rfl rfl (by kernel_rfl) rfl) ?_
  refine AL_p (x_load1 rfl rfl rfl (by kernel_rfl) rfl) ?_
  refine AL_p (x_call1 rfl rfl rfl (toLitS_c x.body (hs.2) 104) rfl rfl rfl rfl) ?_
  refine AL_p (x_field (off := 3) (o' := 3) rfl rfl rfl (by kernel_rfl) rfl) ?_
  refine AL_p (x_store (n := 1) rfl rfl rfl rfl (by kernel_rfl) rfl rfl rfl) ?_
  refine AL_nil ?_
  refine AW_seq ?_
  refine AW_region ?_
  refine AL_p (x_loadN (n := 4) rfl rfl rfl (by kernel_rfl) rfl rfl) ?_
  refine AL_p (x_store (n := 4) rfl rfl rfl rfl (by kernel_rfl) rfl rfl rfl) ?_
  refine AL_nil ?_
  refine AW_ret ?_
  exact ⟨rn [(9, 101), (0, 103), (1, 104)], ⟨⟨⟨_, rfl, VLe.rf⟩, trivial⟩, ⟨⟨_, rfl, by first | exact BLe.rf | (subst_vars; exact BLe.rf)⟩, ⟨_, rfl, BLe.rf⟩, ⟨_, rfl, BLe.rf⟩, trivial⟩, trivial, rfl⟩⟩

set_option maxHeartbeats 4000000 in
theorem eqStringS_c (xs : List (ByteArray)) : AC Try.prog 11 [.one (.sl strE xs), .one (.sl strE xs)] [] (.one (.c (.bool true))) [] := by
  refine AC_body1 Try.func11 rfl rfl Try.ntmps11 rfl Try.results11 ?_
  refine AW_slmax 0 rfl (fun hm0 => ?_)
  refine AW_seq ?_
  refine AW_region ?_
  refine AL_p (x_assign rfl rfl) ?_
  refine AL_nil ?_
  refine AW_seq ?_
  refine AW_seq ?_
  refine AW_region ?_
  refine AL_p (x_move rfl rfl) ?_
  refine AL_p (x_len (E := 9) (n := 1) rfl rfl (by kernel_rfl)) ?_
  refine AL_p (x_move rfl rfl) ?_
  refine AL_p (x_len (E := 9) (n := 1) rfl rfl (by kernel_rfl)) ?_
  refine AL_b (x_neq rfl rfl rfl) (fun b10 h10 => ?_)
  refine AL_nil ?_
  cases b10
  rotate_left
  · exfalso; first | (simp [ba_beq_self] at h10; done) | grind
  try simp only [tdy] at h10
  refine AW_condF rfl ?_
  refine AW_skip ?_
  refine AW_seq ?_
  refine AW_seq ?_
  refine AW_region ?_
  refine AL_p (x_assign rfl rfl) ?_
  refine AL_nil ?_
  refine AW_block ?_
  refine AW_loop2 (ι := {q : Nat // q ≤ xs.length}) (fun p => [(5, .one (.c (.int .i64 ((p.1) : Int))))]) (fun p => []) [0, 1] [] (fun p => xs.length - (p.1)) ⟨0, by omega⟩ (rn []) ?_ ?_
  exact ⟨by (repeat refine ⟨⟨_, rfl, by first | exact VLe.rf | exact vle_int (by dsimp only; omega)⟩, ?_⟩); exact trivial, by (repeat refine ⟨⟨_, rfl, by first | exact BLe.rf | exact BLe.box AllC.rf | exact BLe.arr (by exact rfl)⟩, ?_⟩); exact trivial, by repeat (first | exact trivial | refine ⟨⟨rfl, by first | (left; intro h; cases h) | (right; rfl), by first | exact (fun _ h => ⟨_, h⟩) | exact (fun _ _ => ⟨_, rfl⟩) | (intro _ h; cases h)⟩, ?_⟩), rfl⟩
  rintro ⟨k, hinv⟩
  dsimp only
  refine AW_seq ?_
  refine AW_seq ?_
  refine AW_region ?_
  refine AL_p (x_move rfl rfl) ?_
  refine AL_p (x_move rfl rfl) ?_
  refine AL_p (x_len (E := 9) (n := 1) rfl rfl (by kernel_rfl)) ?_
  refine AL_b (x_lss rfl rfl rfl) (fun b14 h14 => ?_)
  refine AL_nil ?_
  cases b14
  · try simp only [tdy] at h14
    refine AW_condF rfl ?_
    refine AW_exit (BQ_hit ?_)
    refine AW_seq ?_
    refine AW_region ?_
    refine AL_p (x_assign rfl rfl) ?_
    refine AL_nil ?_
    refine AW_ret ?_
    exact ⟨rn [], ⟨⟨⟨_, rfl, vle_bool (rfl)⟩, trivial⟩, trivial, trivial, rfl⟩⟩
  try simp only [tdy] at h14
  refine AW_condT rfl ?_
  refine AW_skip ?_
  refine AW_seq ?_
  refine AW_block ?_
  refine AW_seq ?_
  refine AW_draw rfl ?_
  refine AL_p (x_move rfl rfl) ?_
  refine AL_p (x_move rfl rfl) ?_
  refine AL_p (x_index (E := 9) (n := 1) rfl rfl rfl (by kernel_rfl) rfl (k := k) (by omega) (by omega)) ?_
  refine AL_p (x_eload1 rfl rfl (by kernel_rfl) rfl) ?_
  refine AL_p (x_move rfl rfl) ?_
  refine AL_p (x_move rfl rfl) ?_
  refine AL_p (x_index (E := 9) (n := 1) rfl rfl rfl (by kernel_rfl) rfl (k := k) (by omega) (by omega)) ?_
  refine AL_p (x_eload1 rfl rfl (by kernel_rfl) rfl) ?_
  refine AL_b (x_sneq rfl rfl rfl) (fun b25 h25 => ?_)
  refine AL_nild (by kernel_rfl) ?_
  cases b25
  rotate_left
  · exfalso; first | (simp [ba_beq_self] at h25; done) | grind
  try simp only [tdy] at h25
  refine AW_condF rfl ?_
  refine AW_skip ?_
  refine AW_region ?_
  refine AL_p (x_move rfl rfl) ?_
  refine AL_p (x_add rfl rfl rfl (IntWalk.i64_in _ (by omega))) ?_
  refine AL_p (x_assign rfl rfl) ?_
  refine AL_nil ?_
  refine ⟨⟨k + 1, by omega⟩, rn [], ?_, by dsimp only; omega⟩
  exact ⟨by (repeat refine ⟨⟨_, rfl, by first | exact VLe.rf | exact vle_int (by dsimp only; omega)⟩, ?_⟩); exact trivial, by (repeat refine ⟨⟨_, rfl, by first | exact BLe.rf | exact BLe.box AllC.rf | exact BLe.arr (by exact rfl)⟩, ?_⟩); exact trivial, by repeat (first | exact trivial | refine ⟨⟨rfl, by first | (left; intro h; cases h) | (right; rfl), by first | exact (fun _ h => ⟨_, h⟩) | exact (fun _ _ => ⟨_, rfl⟩) | (intro _ h; cases h)⟩, ?_⟩), rfl⟩

end Go.Proofs.Ytkemjhlbokldhaa
