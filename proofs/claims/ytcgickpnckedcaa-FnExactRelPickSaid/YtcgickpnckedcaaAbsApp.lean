/- The abstract walk: append; an empty array; a struct built; nil taken as an array of one's own. -/
import Derived.Test.YtcgickpnckedcaaAbsFill
namespace Go.Proofs.Ytcgickpnckedcaa
open Go.RowKit
set_option linter.unusedVariables false

/-- What is appended: a value, as cells read in the world. -/
def Src2 (w : World) (v : Value) (m size : Nat) (news : List Value) : Prop :=
  news.length = m * size ∧ ((v = .slice none 0 0 ∧ m = 0) ∨ ∃ a c, v = .slice (some a) m c ∧ ∀ j u, news[j]? = some u → w.cell? (a.add j) = some u)
theorem run_app2 {P : Program} (w : World) (t ty e : TypeId) (i : TypeInfo) (z : Value) (size bytes : Nat) (ht : P.underlying t = some (.slice e)) (hi : P.info? e = some i) (hz : i.zero = some z)
    (hsize : i.size = size) (hby : i.bytes = bytes) (hzs : z.cells.size = size) (hsz : 0 < size)
    (v : Value) (n : Nat) (xs : List Value) (hown : w.ownsRow 0 e size v n xs) (u : Value) (m : Nat) (news : List Value) (hsrc : Src2 w u m size news) (h1 : ∀ u ∈ news, u.oneCell' = true)
    (h63 : n + m ≤ maxLen) (hbytes : (n + m) * bytes ≤ 140737488355328) :
    ∃ v' w', (Builtin.append_ #[t, t] ty #[v, u]).run P w = .ok v' w' ∧ w'.ownsRow 0 e size v' (n + m) (xs ++ news) ∧ w.grownBy w' v.ownBlock ∧
      ∀ b, v'.ownBlock = some b → v.ownBlock = some b ∨ w.heap.size ≤ b := by
  rcases hsrc.2 with ⟨rfl, rfl⟩ | ⟨a, c, rfl, hc⟩
  · have hn : news = [] := List.eq_nil_of_length_eq_zero (by simpa using hsrc.1)
    subst hn
    have : ∃ base n' cap, v = .slice base n' cap ∧ n' ≤ cap := by
      rcases hown.2 with ⟨rfl, _⟩ | ⟨g, cap, cur, rfl, _, _, hnc, _⟩
      · exact ⟨none, 0, 0, rfl, Nat.le_refl _⟩
      · exact ⟨_, _, _, rfl, hnc⟩
    obtain ⟨base, n', cap, rfl, hle⟩ := this
    exact ⟨_, w, run_app_nil w t ty e i ht hi base n' cap hle, by simpa using hown, ⟨rfl, rfl, rfl, Nat.le_refl _, fun _ _ _ => rfl⟩, fun b hb => .inl hb⟩
  · exact run_app w t ty e i z size bytes ht hi hz hsize hby hzs hsz v n xs hown a m c news hsrc.1 hc h1 h63 hbytes
theorem src_of_row {w : World} {T : TypeId} {size n : Nat} {v : Value} {cells : List Value} (h : w.ownsRow 0 T size v n cells) : Src2 w v n size cells := by
  refine ⟨h.1, ?_⟩
  rcases h.2 with h1 | ⟨g, cap, cur, rfl, _⟩
  · exact .inl h1
  · exact .inr ⟨_, cap, rfl, h.cells rfl⟩
theorem src_of_slice {α : Type} {e : Enc α} {f : α → List Cell} [hc : CellsOf e f] {w : World} {a : Option Addr} {n cap : Nat} {xs : List α} {bs : List Nat} (h : SliceRep e w a n cap xs bs) :
    ∃ cells b2, Src2 w (.slice a n cap) xs.length e.size cells ∧ FR w cells (xs.flatMap f) b2 ∧ ∀ b ∈ b2, b ∈ bs := by
  obtain ⟨h1, h2, h3, h4, h5⟩ := h
  rcases h5 with ⟨rfl, rfl⟩ | ⟨g, off, bss, hne, rfl, hg, rfl, hE⟩
  · cases a with
    | none =>
      have := h4 rfl
      subst this
      simp at h1
      subst h1
      exact ⟨[], [], ⟨by simp, .inl ⟨rfl, rfl⟩⟩, rfl, fun _ hb => by cases hb⟩
    | some a =>
      simp at h1
      subst h1
      exact ⟨[], [], ⟨by simp, .inr ⟨a, cap, rfl, fun j u hu => by simp at hu⟩⟩, rfl, fun _ hb => by cases hb⟩
  · obtain ⟨vs, f1, f2, f3⟩ := hE.flat
    subst h1
    exact ⟨vs, bss.flatten, ⟨f2, .inr ⟨_, cap, rfl, fun j u hu => by rw [addr_add]; exact f3 j u hu⟩⟩, f1, fun b hb => List.mem_cons_of_mem _ hb⟩
theorem FR.nofp {α : Type} {e : Enc α} {f : α → List Cell} [hc : CellsOf e f] (he : ∀ w cs y b, e.rep w cs y b → b = []) {w : World} : ∀ {xs : List α} {vs : List Value} {bs : List Nat}, FR w vs (xs.flatMap f) bs → bs = []
  | [], [], bs, h => h
  | [], v :: vs, bs, h => h.elim
  | x :: xs, vs, bs, h => by
    rw [List.flatMap_cons] at h
    obtain ⟨v1, v2, b1, b2, rfl, rfl, h1, h2⟩ := FR.app.1 h
    rw [he _ _ _ _ (hc.iff.2 h1), FR.nofp he h2]; rfl
theorem flatMap_app {α : Type} {f : α → List Cell} {xs ys : List α} : (xs ++ ys).flatMap f = xs.flatMap f ++ ys.flatMap f := List.flatMap_append

section
variable {g : Gh} {l : Locs} {w w' : World}
/-- append as it is seen from numbers: k grows into k', the numbers js (k among them) are gone. -/
theorem app_lay (m : MemR g l w) {k k' : Nat} (hk' : lk l k' = none) (hki : k' ∉ l.ids) {js : List Nat} (hkj : k ∈ js) (hjs : ∀ j ∈ js, ∃ (α : Type) (T : TypeId) (e : Enc α) (xs : List α) (d : Bool), lkl l j = some (.arr T e xs d))
    {α : Type} {E : TypeId} {e : Enc α} {f : α → List Cell} [hc : CellsOf e f] {xs ys : List α} {d : Bool} {cells news : List Value} {b1 b2 : List Nat} {v' : Value}
    (hF : FR w cells (xs.flatMap f) b1) (hF2 : FR w news (ys.flatMap f) b2) (hI : ∀ b ∈ b1 ++ b2, g.I b) (hob : ∀ b, (g.hd k).ownBlock = some b → b = g.ρ k)
    (hrow : w'.ownsRow 0 E e.size v' (xs.length + ys.length) (cells ++ news)) (hgr : w.grownBy w' (g.hd k).ownBlock) (hblk : ∀ b, v'.ownBlock = some b → (g.hd k).ownBlock = some b ∨ w.heap.size ≤ b)
    (hd : d = true → (b1 ++ b2).Nodup ∧ ∀ b ∈ b1 ++ b2, ∃ j ∈ js, Via g l j b) :
    ∃ g', g'.hd k' = v' ∧ MemR g' ((k', some (.arr E e (xs ++ ys) d)) :: (gones js ++ l)) w' ∧ (∀ K, Step K g l w g' ((k', some (.arr E e (xs ++ ys) d)) :: (gones js ++ l)) w') ∧
      (∀ b, g.I b → w'.heap[b]? = w.heap[b]?) ∧ (∀ b, g.I b → g'.I b) ∧ ∀ j, j ≠ k' → okK g l g' ((k', some (.arr E e (xs ++ ys) d)) :: (gones js ++ l)) j := by
  obtain ⟨α0, T0, e0, xs0, d0, hk0⟩ := hjs k hkj
  have hlive : ∀ b, (g.hd k).ownBlock = some b → g.hd k ≠ .slice none 0 0 := fun b hb e => by rw [e] at hb; cases hb
  have hnI : ∀ b, (g.hd k).ownBlock = some b → ¬ g.I b := fun b hb => by rw [hob b hb]; exact m.notI hk0 (hlive b hb)
  have hkeepI : ∀ b, g.I b → w'.heap[b]? = w.heap[b]? := fun b hb => hgr.block b (m.ilt b hb) fun e => hnI b e.symm hb
  have hFR := (FR.app.2 ⟨cells, news, b1, b2, rfl, rfl, hF, hF2⟩).keep (w' := w') (fun b hb => hkeepI b (hI b hb)) hgr.size
  rw [← flatMap_app] at hFR
  have hIb : ∀ b, v'.ownBlock = some b → ¬ (g.I b ∨ liveA g [] b) := fun b hb h => by
    rcases h with h | ⟨j, hj, _⟩
    · rcases hblk b hb with h1 | h1
      · exact hnI b h1 h
      · have := m.ilt b h; omega
    · cases hj
  obtain ⟨g', q1, q2, q3, q4, q5, q6, q7⟩ := arr_new (w' := w') m hk' hki (js := js) (fz := []) (fun _ h => by cases h) hjs (T := E) (e := e) (xs := xs ++ ys) (d := d) (blk := (v'.ownBlock).getD 0) (v := v') (fp := b1 ++ b2)
    hgr.os hgr.tape hgr.output hgr.size (fun b hb hn => hgr.block b hb fun e => hn k hkj (by simp) (hlive b e.symm) (hob b e.symm))
    (ArrR.lay (by rw [List.length_append]; exact hrow) hFR (fun b hb => .inl (hI b hb)) (fun b hb => ⟨by rw [hb]; rfl, hIb b hb⟩))
    (fun hv => by
      rcases hrow.2 with ⟨h1, _⟩ | ⟨b, cap, cur, h1, _, h3, _⟩
      · exact absurd h1 hv
      · have hb : v'.ownBlock = some b := by rw [h1]; rfl
        rw [hb]
        refine ⟨(Array.getElem?_eq_some_iff.1 h3).1, ?_⟩
        rcases hblk b hb with h | h
        · exact .inr ⟨k, hkj, by simp, hlive b h, hob b h⟩
        · exact .inl h)
    (fun hdd => ⟨(hd hdd).1, fun b hb => ⟨.inl (hI b hb), by
      obtain ⟨j, hj, hv⟩ := (hd hdd).2 b hb
      obtain ⟨c, t, h⟩ := hv.cells m
      exact ⟨c, t, by rw [hkeepI b (hI b hb)]; exact h⟩, (hd hdd).2 b hb⟩⟩)
  exact ⟨g', q2, q3, q4, q5, q6, q7⟩
end

section ops
variable {P : Program} {N : Nat} {s : St} {d : Nat} {ty : TypeId} {pos : String} {after : Array Edge} {gd : Option (Nat × Bool)}
theorem run_appop {P : Program} {N : Nat} {a : Act} {w w' : World} {v' : Value} {x y : Operand} {T : TypeId} (h : (Builtin.append_ #[T, T] ty #[a.eval x, a.eval y]).run P w = .ok v' w') :
    (execOp a.eval ⟨some d, .call { callee := .builtin .append, args := #[x, y], argTypes := #[T, T] }, ty, pos, after, gd⟩).run P w = .ok (.value v') w' := by
  simp only [execOp, resolve, invoke, builtin, Sem.run_bind, Sem.run_pure, Result.andThen_ok, List.map_toArray, List.map_cons, List.map_nil, h]
/-- append of an own array to another. -/
theorem x_append {α : Type} {e : Enc α} {f : α → List Cell} [hc : CellsOf e f] {T E n b : Nat} {x y : Operand} {xs ys : List α} {d1 d2 : Bool} {k j : Nat} (k' : Nat) (hN : Nat.blt d N = true)
    (h : evo s.t x = some (.one (.own k))) (h2 : evo s.t y = some (.one (.own j))) (hl : lkl s.l k = some (.arr E e xs d1)) (hl2 : lkl s.l j = some (.arr E e ys d2)) (hkj : Nat.beq k j = false)
    (hT : arrT P T = some (E, n, b)) (hes : e.size = n) (hk : lk s.l k' = none) (hi : noId k' s.ids = true) (hbnd : xs.length + ys.length ≤ 1000000000) (hb : Nat.ble b 100000 = true) :
    Stp P N ⟨some d, .call { callee := .builtin .append, args := #[x, y], argTypes := #[T, T] }, ty, pos, after, gd⟩ s ⟨(d, .one (.own k')) :: s.t, (k', some (.arr E e (xs ++ ys) (d1 && d2))) :: (gones [k, j] ++ s.l)⟩
      ⟨rdo x (.one (.own k)) ++ rdo y (.one (.own j)), [(k, .arr E e xs d1), (j, .arr E e ys d2)], [(d, .one (.own k'))], (k', some (.arr E e (xs ++ ys) (d1 && d2))) :: gones [k, j], [k']⟩ := by
  refine ⟨fun K g s' a w hp r => ?_, ⟨two_rd h h2, by simp [hl, hl2], fun j hj => by simp at hj; subst hj; exact ⟨hk, noId_of hi⟩⟩, by simp [Cert.upd]⟩
  obtain ⟨p1, p2, p3⟩ := hp
  have e1 : CellR g s'.l w (a.eval x) (.own k) := eval_ok r (evs_of h) fun p hp => p1 p (List.mem_append_left _ hp)
  have e2 : CellR g s'.l w (a.eval y) (.own j) := eval_ok r (evs_of h2) fun p hp => p1 p (List.mem_append_right _ hp)
  have hl' : lkl s'.l k = some (.arr E e xs d1) := p2 (k, .arr E e xs d1) (by simp)
  have hl2' : lkl s'.l j = some (.arr E e ys d2) := p2 (j, .arr E e ys d2) (by simp)
  replace e1 := e1 _ _ _ _ _ hl'
  replace e2 := e2 _ _ _ _ _ hl2'
  obtain ⟨n1, n2⟩ := p3 k' (by simp)
  obtain ⟨hu, hn0, ti, z, hti, hz, hzs, htis, htib⟩ := arrT_spec hT
  obtain ⟨cells, b1, r1, f1, i1, F1, ob1⟩ := (r.mem.arr k _ _ _ _ _ hl').row
  obtain ⟨news, b2, r2, f2, i2, F2, ob2⟩ := (r.mem.arr j _ _ _ _ _ hl2').row
  have hkj' : k ≠ j := fun e => by subst e; simp at hkj
  have hb' := Nat.le_of_ble_eq_true hb
  obtain ⟨v', w', q1, q2, q3, q4⟩ := run_app2 (P := P) w T ty E ti z e.size b hu hti hz (by rw [hes]; exact htis) htib (by rw [hes]; exact hzs) (by rw [hes]; exact hn0) _ _ _ r1 _ _ _ (src_of_row r2) (FR.one f2)
    (by unfold maxLen; omega) (by
      have : (xs.length + ys.length) * b ≤ 1000000000 * 100000 := Nat.mul_le_mul hbnd hb'
      omega)
  have hgone : ∀ i ∈ [k, j], ∃ (α : Type) (T : TypeId) (e : Enc α) (xs : List α) (d : Bool), lkl s'.l i = some (.arr T e xs d) := fun i hi => by
    simp at hi
    rcases hi with rfl | rfl
    · exact ⟨α, E, e, xs, d1, hl'⟩
    · exact ⟨α, E, e, ys, d2, hl2'⟩
  obtain ⟨g', s1, s2, s3, s4, s5, s6⟩ := app_lay (w' := w') r.mem n1 (fun h => n2 (List.mem_append_right _ h)) (js := [k, j]) (List.mem_cons_self ..) hgone (E := E) (e := e) (xs := xs) (ys := ys) (d := d1 && d2) f1 f2
    (fun b hb => (List.mem_append.1 hb).elim (i1 b) (i2 b)) ob1 q2 q3 q4 (fun hd => by
      simp only [Bool.and_eq_true] at hd
      obtain ⟨rfl, rfl⟩ := hd
      have v1 : ∀ b ∈ b1, Via g s'.l k b := fun b hb => ⟨α, E, e, xs, hl', .inr (by rw [F1 rfl]; exact hb)⟩
      have v2 : ∀ b ∈ b2, Via g s'.l j b := fun b hb => ⟨α, E, e, ys, hl2', .inr (by rw [F2 rfl]; exact hb)⟩
      refine ⟨List.nodup_append.2 ⟨by rw [← F1 rfl]; exact (r.mem.fr k _ _ _ _ hl').1, by rw [← F2 rfl]; exact (r.mem.fr j _ _ _ _ hl2').1, fun x hx y hy exy => ?_⟩, fun b hb => ?_⟩
      · subst exy
        exact hkj' ((v1 x hx).disj r.mem (v2 x hy))
      · rcases List.mem_append.1 hb with hb | hb
        · exact ⟨k, by simp, v1 b hb⟩
        · exact ⟨j, by simp, v2 b hb⟩)
  unfold Oper.wp
  rw [run_appop (N := N) (by rw [e1, e2]; exact q1), Oper.upon_value]
  refine ⟨g', r.next (blt_lt hN) s4 s5 q3.size (fun j hj => s6 j fun e => n2 (e ▸ hj)) (fun β U e2 ys dd hc => ?_) s2, s3 K⟩
  exact s1.symm
/-- append of a slice that nobody writes. -/
theorem x_append_sl {α : Type} {e : Enc α} {f : α → List Cell} [hc : CellsOf e f] {T E n b : Nat} {x y : Operand} {xs ys : List α} {d1 : Bool} {k : Nat} (k' : Nat) (d2 : Bool) (hd2 : d2 = false ∨ ∀ w cs y b, e.rep w cs y b → b = []) (hN : Nat.blt d N = true)
    (h : evo s.t x = some (.one (.own k))) (h2 : evo s.t y = some (.one (.sl e ys))) (hl : lkl s.l k = some (.arr E e xs d1))
    (hT : arrT P T = some (E, n, b)) (hes : e.size = n) (hk : lk s.l k' = none) (hi : noId k' s.ids = true) (hbnd : xs.length + ys.length ≤ 1000000000) (hb : Nat.ble b 100000 = true) :
    Stp P N ⟨some d, .call { callee := .builtin .append, args := #[x, y], argTypes := #[T, T] }, ty, pos, after, gd⟩ s ⟨(d, .one (.own k')) :: s.t, (k', some (.arr E e (xs ++ ys) (d1 && d2))) :: (gones [k] ++ s.l)⟩
      ⟨rdo x (.one (.own k)) ++ rdo y (.one (.sl e ys)), [(k, .arr E e xs d1)], [(d, .one (.own k'))], (k', some (.arr E e (xs ++ ys) (d1 && d2))) :: gones [k], [k']⟩ := by
  refine ⟨fun K g s' a w hp r => ?_, ⟨two_rd h h2, by simp [hl], fun j hj => by simp at hj; subst hj; exact ⟨hk, noId_of hi⟩⟩, by simp [Cert.upd]⟩
  obtain ⟨p1, p2, p3⟩ := hp
  have e1 : CellR g s'.l w (a.eval x) (.own k) := eval_ok r (evs_of h) fun p hp => p1 p (List.mem_append_left _ hp)
  obtain ⟨aa, nn, cap, bs, e2, hS, hSI⟩ : CellR g s'.l w (a.eval y) (.sl e ys) := eval_ok r (evs_of h2) fun p hp => p1 p (List.mem_append_right _ hp)
  have hl' : lkl s'.l k = some (.arr E e xs d1) := p2 (k, .arr E e xs d1) (by simp)
  replace e1 := e1 _ _ _ _ _ hl'
  obtain ⟨n1, n2⟩ := p3 k' (by simp)
  obtain ⟨hu, hn0, ti, z, hti, hz, hzs, htis, htib⟩ := arrT_spec hT
  obtain ⟨cells, b1, r1, f1, i1, F1, ob1⟩ := (r.mem.arr k _ _ _ _ _ hl').row
  obtain ⟨news, b2, r2, f2, i2⟩ := src_of_slice hS
  have hb' := Nat.le_of_ble_eq_true hb
  obtain ⟨v', w', q1, q2, q3, q4⟩ := run_app2 (P := P) w T ty E ti z e.size b hu hti hz (by rw [hes]; exact htis) htib (by rw [hes]; exact hzs) (by rw [hes]; exact hn0) _ _ _ r1 _ _ _ r2 (FR.one f2)
    (by unfold maxLen; omega) (by
      have : (xs.length + ys.length) * b ≤ 1000000000 * 100000 := Nat.mul_le_mul hbnd hb'
      omega)
  have hgone : ∀ i ∈ [k], ∃ (α : Type) (T : TypeId) (e : Enc α) (xs : List α) (d : Bool), lkl s'.l i = some (.arr T e xs d) := fun i hi => by
    simp at hi
    subst hi
    exact ⟨α, E, e, xs, d1, hl'⟩
  obtain ⟨g', s1, s2, s3, s4, s5, s6⟩ := app_lay (w' := w') r.mem n1 (fun h => n2 (List.mem_append_right _ h)) (js := [k]) (List.mem_cons_self ..) hgone (E := E) (e := e) (xs := xs) (ys := ys) (d := d1 && d2) f1 f2
    (fun b hb => (List.mem_append.1 hb).elim (i1 b) fun h => hSI b (i2 b h)) ob1 q2 q3 q4 (fun hd => by
      simp only [Bool.and_eq_true] at hd
      obtain ⟨rfl, rfl⟩ := hd
      have hb2 : b2 = [] := FR.nofp (e := e) (hd2.resolve_left (by simp)) f2
      subst hb2
      rw [List.append_nil]
      have v1 : ∀ b ∈ b1, Via g s'.l k b := fun b hb => ⟨α, E, e, xs, hl', .inr (by rw [F1 rfl]; exact hb)⟩
      exact ⟨by rw [← F1 rfl]; exact (r.mem.fr k _ _ _ _ hl').1, fun b hb => ⟨k, by simp, v1 b hb⟩⟩)
  unfold Oper.wp
  rw [run_appop (N := N) (by rw [e1, e2]; exact q1), Oper.upon_value]
  refine ⟨g', r.next (blt_lt hN) s4 s5 q3.size (fun j hj => s6 j fun e => n2 (e ▸ hj)) (fun β U e2 ys dd hc => ?_) s2, s3 K⟩
  exact s1.symm
end ops
end Go.Proofs.Ytcgickpnckedcaa
