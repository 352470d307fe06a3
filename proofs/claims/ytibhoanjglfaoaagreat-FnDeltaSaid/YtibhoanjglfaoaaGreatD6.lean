/- Lemmas of the walks, part 6. -/
import Derived.Test.YtibhoanjglfaoaaGreatD5
import Derived.Shelf.Spec.SlicesGrow
import Derived.Test.YtibhoanjglfaoaaGreatRows
/- slices.SortFunc on rows: the library's contract ars one on an array of one's own. -/
namespace Go.Proofs.YtibhoanjglfaoaaGreat
open Go.RowKit
set_option linter.unusedVariables false

/-- A row of the world, its block g apart. -/
abbrev RowAt (w : World) (g : Nat) : Type := { r : Raw (List Val) // rowE.rep w r.vs r.x r.b ∧ (∀ v ∈ r.x, valOk v = true) ∧ ∀ b ∈ r.b, b ≠ g }
instance {w : World} {g : Nat} : Inhabited (RowAt w g) := ⟨⟨⟨[], [.slice none 0 0], []⟩, rowE_rep.2 ⟨none, 0, 0, rfl, rfl, Nat.le_refl _, Nat.zero_le _, fun _ => rfl, .inl ⟨rfl, rfl⟩⟩, fun v h => (by cases h), fun b h => (by cases h)⟩⟩
def encR (w : World) (g : Nat) (r : RowAt w g) : List Value := r.1.vs
def cmpR (w : World) (g : Nat) (a b : RowAt w g) : Int := cmpRow a.1.x b.1.x
section
variable {w : World} {g : Nat}
theorem encR_one (r : RowAt w g) : ∃ a n c, r.1.vs = [.slice a n c] := by
  obtain ⟨a, n, c, h, _⟩ := rowE_rep.1 r.2.1
  exact ⟨a, n, c, h⟩
theorem sortw_heap {n : Nat} {d : Array (RowAt w g)} {os : Array Obj} {b : Nat} (hb : b < w.heap.size) (hne : b ≠ g) : (sortWorldK (encR w g) 1 w g 0 n d os).heap[b]? = w.heap[b]? := by
  unfold sortWorldK
  rw [Go.Sort.heap_grow_old _ _ (by simpa [Go.Sort.putRowK, Go.Sort.ahead] using hb)]
  simp [Go.Sort.putRowK, Go.Sort.putRow, Go.Sort.mapBlock, Go.Sort.ahead, Array.getElem?_modify, Ne.symm hne]
theorem swoR : Go.Sort.SWO (ltOf (cmpR w g)) where
  irrefl x := by simp [ltOf, cmpR, cmpRow_self]
  trans x y z h1 h2 := by
    have h1 : cmpRow x.1.x y.1.x < 0 := of_decide_eq_true h1
    have h2 : cmpRow y.1.x z.1.x < 0 := of_decide_eq_true h2
    exact decide_eq_true (cmpRow_trans x.2.2.1 y.2.2.1 z.2.2.1 h1 h2)
  ntrans x y z h1 h2 := by
    have h1 : ¬ cmpRow x.1.x y.1.x < 0 := of_decide_eq_false h1
    have h2 : ¬ cmpRow y.1.x z.1.x < 0 := of_decide_eq_false h2
    refine decide_eq_false fun h3 => ?_
    have h3 : cmpRow x.1.x z.1.x < 0 := h3
    by_cases h : cmpRow x.1.x y.1.x = 0
    · have := cmpRow_eq x.2.2.1 y.2.2.1 h
      rw [this] at h3; exact h2 h3
    · have hyx : cmpRow y.1.x x.1.x < 0 := by rw [cmpRow_neg]; omega
      exact h2 (cmpRow_trans y.2.2.1 x.2.2.1 z.2.2.1 hyx h3)
theorem cmpLaysR (size : Nat) : CmpLays Tryz.prog 82 #[] (encR w g) 1 (cmpR w g) g 0 size w := fun m os dk hs x y => by
  have up : ∀ r : RowAt w g, rowE.rep (sortWorldK (encR w g) 1 w g 0 m dk os) r.1.vs r.1.x r.1.b := fun r =>
    rowE.keep r.2.1 (fun b hb => sortw_heap (rowE.lt r.2.1 b hb) (r.2.2.2 b hb)) (by
      unfold sortWorldK
      rw [Go.Sort.size_grow]
      simp [Go.Sort.putRowK, Go.Sort.ahead])
  obtain ⟨a, n, c, h1, h2⟩ := rowE_rep.1 (up x)
  obtain ⟨a', n', c', h1', h2'⟩ := rowE_rep.1 (up y)
  generalize sortWorldK (encR w g) 1 w g 0 m dk os = W at *
  have e : (#[.agg (encR w g x).toArray, .agg (encR w g y).toArray] ++ #[] : Array Value) = #[.agg #[.slice a n c], .agg #[.slice a' n' c']] := by simp [encR, h1, h1']
  rw [e]
  refine (byRow_lay a n c x.1.x x.1.b a' n' c' y.1.x y.1.b W h2 h2' x.2.2.1 y.2.2.1).mono ?_
  rintro e w' ⟨rfl, _, hl⟩
  exact ⟨rfl, hl⟩
end
theorem raw_all {α : Type} {e : Enc α} (h0 : 0 < e.size) {w : World} : ∀ {zs : List (Raw α)} {cells : List Value} {b3 : List Nat}, FR w cells (zs.flatMap fun r => rxC e r e.size 0) b3 → cells = zs.flatMap Raw.vs ∧ ∀ r ∈ zs, e.rep w r.vs r.x r.b
  | [], [], b3, h => ⟨rfl, fun r hr => by cases hr⟩
  | [], _ :: _, b3, h => h.elim
  | r :: zs, cells, b3, h => by
    rw [List.flatMap_cons] at h
    obtain ⟨v1, v2, b1, b2, rfl, rfl, h1, h2⟩ := FR.app.1 h
    obtain ⟨rfl, hr⟩ := rx_rep h0 h1
    obtain ⟨e2, h3⟩ := raw_all h0 h2
    refine ⟨by rw [List.flatMap_cons, e2], fun q hq => ?_⟩
    rcases List.mem_cons.1 hq with rfl | hq
    · exact hr
    · exact h3 q hq
theorem lift_all {β : Type} {p : β → Prop} : ∀ {zs : List β}, (∀ r ∈ zs, p r) → ∃ l : List { r // p r }, l.map (·.1) = zs
  | [], _ => ⟨[], rfl⟩
  | z :: zs, h => by
    obtain ⟨l, hl⟩ := lift_all (zs := zs) fun r hr => h r (List.mem_cons_of_mem _ hr)
    exact ⟨⟨z, h z List.mem_cons_self⟩ :: l, by rw [List.map_cons, hl]⟩
def hdR {w : World} {g : Nat} (r : RowAt w g) : Value := r.1.vs.headD (.slice none 0 0)
theorem encR_hd {w : World} {g : Nat} (r : RowAt w g) : encR w g r = [hdR r] := by
  obtain ⟨a, n, c, h⟩ := encR_one r
  simp [encR, hdR, h]
theorem flatR {w : World} {g : Nat} (l : List (RowAt w g)) : (l.map (·.1)).flatMap Raw.vs = l.map hdR := by
  induction l with
  | nil => rfl
  | cons r l ih =>
    have := encR_hd r
    rw [List.map_cons, List.flatMap_cons, ih, List.map_cons]
    show r.1.vs ++ _ = _
    rw [show r.1.vs = encR w g r from rfl, this]; rfl
theorem frR {w : World} {g : Nat} : ∀ (l : List (RowAt w g)), FR w (l.map hdR) ((l.map (·.1.x)).flatMap rowC) (feet (l.map (·.1)))
  | [] => rfl
  | r :: l => by
    rw [List.map_cons, List.map_cons, List.flatMap_cons]
    have h1 : FR w [hdR r] (rowC r.1.x) r.1.b := by
      rw [← encR_hd r]
      exact (CellsOf.iff (e := rowE)).1 r.2.1
    exact FR.app.2 ⟨[hdR r], _, _, _, rfl, by simp [feet], h1, frR l⟩
theorem flatK_map {w : World} {g : Nat} (d : Array (RowAt w g)) : Go.Sort.flatK (encR w g) 1 d = (d.toList.map hdR).toArray := by
  apply Go.Sort.ext_get!
  · simp
  · intro t ht
    have ht' : t < d.size := by simpa using ht
    rw [Go.Sort.get_flatK _ _ _ _ (by simpa using ht'), Nat.div_one, Nat.mod_one, encR_hd, getElem!_pos d t ht', getElem!_pos (d.toList.map hdR).toArray t (by simpa using ht')]
    simp
theorem putAll {cur : Array Value} {vs : List Value} (h : vs.length ≤ cur.size) : (Go.Sort.putCells id 0 vs.toArray cur).toList.take vs.length = vs := by
  apply List.ext_getElem?
  intro j
  by_cases hj : j < vs.length
  · rw [List.getElem?_take_of_lt hj, Array.getElem?_toList]
    simp [Go.Sort.putCells, hj, show j < cur.size by omega]
  · rw [List.getElem?_take_eq_none (by omega), List.getElem?_eq_none (by omega)]

set_option maxRecDepth 100000 in
theorem insNil (w : World) : Calls Tryz.prog 146 #[.slice none 0 0, .int .i64 0, .int .i64 0, .func (.func 82) #[] #[]] w fun en w' => en = .returned (.tuple #[]) ∧ Below w.heap.size w w' := by
  go_enter Tryz.func146, Tryz.ntmps146
  go_wp2
  go_loopw [8] (fun i W => i = .int .i64 1 ∧ Held w [] W) (fun _ _ => 0)
  case atStart => exact ⟨rfl, Held.start w⟩
  case round =>
    obtain ⟨rfl, H⟩ := hrel
    go_wp2_with fail
    go_end0
    exact ⟨rfl, H.below⟩
set_option maxRecDepth 100000 in
theorem pdqNil (w : World) : Calls Tryz.prog 122 #[.slice none 0 0, .int .i64 0, .int .i64 0, .int .i64 0, .func (.func 82) #[] #[]] w fun en w' => en = .returned (.tuple #[]) ∧ Below w.heap.size w w' := by
  go_enter Tryz.func122, Tryz.ntmps122
  go_wp2
  go_loopw [1, 2] (fun i j W => i = .int .i64 0 ∧ j = .int .i64 0 ∧ Held w [] W) (fun _ _ _ => 0)
  case atStart => exact ⟨rfl, rfl, Held.start w⟩
  case round =>
    obtain ⟨rfl, rfl, H⟩ := hrel
    go_wp2_with fail
    refine (insNil _).mono ?_
    rintro e w1 ⟨rfl, hb⟩
    go_wp2_with fail
    refine bodyPost_ret (results_none rfl _ _ _) rfl ?_
    exact ⟨rfl, (H.up hb).below⟩
set_option maxRecDepth 100000 in
theorem sortNil (w : World) : Calls Tryz.prog 81 #[.slice none 0 0, .func (.func 82) #[] #[]] w fun en w' => en = .returned (.tuple #[]) ∧ Below w.heap.size w w' := by
  have L := Tryz.laysSort
  have hl : Calls Tryz.prog 123 #[.int .u64 0] w fun e w' => e = .returned (.int .i64 0) ∧ w' = w := by
    have h := Any.bits_Len (SlLaysF0.n15.bits (P := Tryz.prog) (ρ := Tryz.laysSort_ren) { L with }) 0 w (by omega) (by omega)
    exact h
  go_enter Tryz.func81, Tryz.ntmps81
  go_wp2_with (first | (go_at_call 123; refine hl.mono ?_; rintro e w' ⟨rfl, rfl⟩) | (go_at_call 122; refine (pdqNil _).mono ?_; rintro e w' ⟨rfl, hb⟩))
  go_end0
  exact ⟨rfl, hb⟩

set_option maxHeartbeats 1000000 in
theorem sortRow_any (w : World) (v : Value) (rows : List (List Val)) (cells : List Value) (bs : List Nat) (hown : w.ownsRow 0 72 1 v rows.length cells) (hF : FR w cells (rows.flatMap rowC) bs) (hv : ValsOk rows) (hb : ∀ b ∈ bs, v.ownBlock ≠ some b) (hl : rows.length ≤ 1048576) :
    Calls Tryz.prog 81 #[v, .func (.func 82) #[] #[]] w fun en w' => en = .returned (.tuple #[]) ∧
      ∃ ys cells' bs', ys.Perm rows ∧ Weak ys ∧ w'.ownsRow 0 72 1 v ys.length cells' ∧ w.grownBy w' v.ownBlock ∧ FR w cells' (ys.flatMap rowC) bs' ∧ bs'.Perm bs := by
  rcases hown.2 with ⟨rfl, h0⟩ | ⟨g, cap, cur, rfl, _, hg, hle, hcap, hsz, htk⟩
  · have e0 : rows = [] := List.eq_nil_of_length_eq_zero h0
    subst e0
    refine (sortNil w).mono ?_
    rintro en w' ⟨rfl, hbw⟩
    have e1 : cells = [] := List.eq_nil_of_length_eq_zero (by simpa using hown.1)
    subst e1
    exact ⟨rfl, [], [], bs, List.Perm.refl _, List.Pairwise.nil, ⟨by simp, .inl ⟨rfl, rfl⟩⟩, ⟨hbw.os, hbw.tape, hbw.output, hbw.size, fun k hk _ => hbw.block k hk⟩, hF, List.Perm.refl _⟩
  · have hgl : g < w.heap.size := (Array.getElem?_eq_some_iff.1 hg).1
    obtain ⟨zs, q1, q2, b3, q3, q4⟩ := raw_of (e := rowE) hF
    obtain ⟨rfl, hreps⟩ := raw_all (e := rowE) (by decide) q3
    have H : ∀ r ∈ zs, rowE.rep w r.vs r.x r.b ∧ (∀ v ∈ r.x, valOk v = true) ∧ ∀ b ∈ r.b, b ≠ g := fun r hr => by
      refine ⟨hreps r hr, hv _ (by rw [← q1]; exact List.mem_map_of_mem hr), fun b hbr e => ?_⟩
      have : b ∈ bs := by
        rw [← q2]
        exact List.mem_flatten.2 ⟨r.b, List.mem_map_of_mem hr, hbr⟩
      exact hb b this (by rw [e]; rfl)
    obtain ⟨l, hl1⟩ : ∃ l : List (RowAt w g), l.map (·.1) = zs := lift_all H
    have hx : l.map (fun r => r.1.x) = rows := by rw [← q1, ← hl1, List.map_map]; rfl
    have hll : l.length = rows.length := by rw [← hx, List.length_map]
    have hcl : zs.flatMap Raw.vs = l.map hdR := by rw [← hl1]; exact flatR l
    rw [hcl] at htk hown hF q3
    have hH : Go.Sort.HoldsK (encR w g) 1 w g 0 l.toArray := by
      unfold Go.Sort.HoldsK
      rw [flatK_map]
      intro j hj
      have hj' : j < l.length := by simpa using hj
      refine ⟨?_, by simp [World.frozen?, hg]⟩
      have h1 : (cur.toList.take (rows.length * 1))[j]? = (l.map hdR)[j]? := by rw [htk]
      rw [List.getElem?_take_of_lt (by omega)] at h1
      simp only [World.cell?, hg, Nat.zero_add, Option.isSome_none, Bool.false_eq_true, if_false]
      rw [← Array.getElem?_toList, h1, getElem!_pos _ j hj]
      simp [hj']
    have hc := AnyQ.slices_SortFunc (P := Tryz.prog) (ρ := Tryz.laysSort_ren) Tryz.laysSort 1 Tryz.isAgg72 Tryz.sizeOf72 (encR w g) (fun r => by rw [encR_hd]; rfl) (fun r u hu => by
      obtain ⟨a, n, c, h⟩ := encR_one r
      rw [show encR w g r = r.1.vs from rfl, h] at hu
      rw [List.mem_singleton.1 hu]; rfl) (cmpR w g) swoR 82 #[] g 0 cap l.toArray w (enters_of Tryz.func82 (by kernel_rfl) rfl) (cmpLaysR _) hH hgl (by simp; omega)
    have hsz' : l.toArray.size = rows.length := by simp [hll]
    rw [hsz'] at hc
    refine Calls.mono hc ?_
    rintro en w' ⟨rfl, d, n, os, hp, hs, rfl⟩
    have hds : d.size = rows.length := by rw [hp.1, hsz']
    have hperm : d.toList.Perm l := by
      have h1 := hp.2.2
      have a1 : d.extract 0 rows.length = d := by rw [← hds]; simp
      have a2 : l.toArray.extract 0 rows.length = l.toArray := by rw [← hsz']; simp
      rw [a1, a2] at h1
      exact h1
    have hfl : Go.Sort.flatK (encR w g) 1 d = (d.toList.map hdR).toArray := flatK_map d
    have hcur : (d.toList.map (hdR (w := w) (g := g))).length ≤ cur.size := by rw [List.length_map, Array.length_toList, hds, hsz]; omega
    refine ⟨rfl, d.toList.map (fun r => r.1.x), d.toList.map hdR, feet (d.toList.map (·.1)), ?_, ?_, ⟨by simp, .inr ⟨g, cap, Go.Sort.putCells id 0 (d.toList.map hdR).toArray cur, by simp [hds], Nat.zero_le _, ?_, by simpa [hds] using hle, hcap, by simpa [Go.Sort.putCells] using hsz, ?_⟩⟩, ⟨rfl, rfl, rfl, by
        unfold sortWorldK
        rw [Go.Sort.size_grow]
        simp [Go.Sort.putRowK, Go.Sort.ahead], fun k hk hne => sortw_heap hk fun e => hne (by rw [e]; rfl)⟩, frR _, ?_⟩
    · rw [← hx]; exact hperm.map _
    · refine List.pairwise_iff_getElem.2 fun i j hi hj hij => ?_
      have hi' : i < d.size := by simpa using hi
      have hj' : j < d.size := by simpa using hj
      have h1 := hs i j (Nat.zero_le _) hij (by omega)
      rw [getElem!_pos d i hi', getElem!_pos d j hj'] at h1
      have h2 : ¬ cmpRow d[j].1.x d[i].1.x < 0 := of_decide_eq_false h1
      simpa using h2
    · unfold sortWorldK
      rw [Go.Sort.heap_grow_old _ _ (by simpa [Go.Sort.putRowK, Go.Sort.ahead] using hgl)]
      simp [Go.Sort.putRowK, Go.Sort.putRow, Go.Sort.mapBlock, Go.Sort.ahead, Array.getElem?_modify, hg, Go.Sort.onCells, hfl]
    · have := putAll hcur
      simpa using this
    · rw [← q2, ← hl1]
      exact feet_perm (hperm.map _)
/-- The order of right rows is one. -/
theorem weak_unique : ∀ {a b : List (List Val)}, ValsOk a → a.Perm b → Weak a → Weak b → a = b
  | [], b, _, hp, _, _ => hp.nil_eq
  | x :: xs, [], _, hp, _, _ => absurd hp.length_eq (by simp)
  | x :: xs, y :: ys, hv, hp, ha, hb => by
    obtain ⟨h1, h2⟩ := List.pairwise_cons.1 ha
    obtain ⟨g1, g2⟩ := List.pairwise_cons.1 hb
    have hvb : ValsOk (y :: ys) := fun r hr => hv r (hp.mem_iff.2 hr)
    have le1 : ¬ cmpRow y x < 0 := by
      rcases List.mem_cons.1 (hp.mem_iff.2 (List.mem_cons_self (a := y) (l := ys))) with e | e
      · rw [e, cmpRow_self]; omega
      · exact h1 y e
    have le2 : ¬ cmpRow x y < 0 := by
      rcases List.mem_cons.1 (hp.mem_iff.1 (List.mem_cons_self (a := x) (l := xs))) with e | e
      · rw [e, cmpRow_self]; omega
      · exact g1 x e
    have e : x = y := cmpRow_eq (hv x List.mem_cons_self) (hvb y List.mem_cons_self) (by rw [cmpRow_neg] at le1; omega)
    subst e
    rw [weak_unique (fun r hr => hv r (List.mem_cons_of_mem _ hr)) (List.Perm.cons_inv hp) h2 g2]
open Classical in
/-- Rows in order. -/
noncomputable def ordRows (rows : List (List Val)) : List (List Val) := if h : ∃ ys : List (List Val), ys.Perm rows ∧ Weak ys then h.choose else rows
theorem ordRows_eq {rows ys : List (List Val)} (hv : ValsOk rows) (hp : ys.Perm rows) (hw : Weak ys) : ys = ordRows rows := by
  have h : ∃ ys : List (List Val), ys.Perm rows ∧ Weak ys := ⟨ys, hp, hw⟩
  have h2 := h.choose_spec
  unfold ordRows
  rw [dif_pos h]
  exact weak_unique (fun r hr => hv r (hp.mem_iff.1 hr)) (hp.trans h2.1.symm) hw h2.2
theorem sortRow_c (rows : List (List Val)) (hv : ValsOk rows) (hl : rows.length ≤ 1048576) (d : Bool) :
    AC Tryz.prog 81 [.one (.own 0), .one (.clo 82 [])] [(0, some (.arr 72 rowE rows d))] (.tup []) [(0, some (.arr 72 rowE (ordRows rows) d))] :=
  AC.inplace ⟨_, _, Tryz.func81, rfl, rfl⟩ fun w v vs cells bs g ha hown hF h1 hb => by
    match vs, ha with
    | [u], ha =>
      obtain rfl : u = .func (.func 82) #[] #[] := ha.1 (fun k hk => by cases hk)
      refine (sortRow_any w v rows cells bs hown hF hv hb hl).mono ?_
      rintro en w' ⟨rfl, ys, cells', bs', p1, p2, p3, p4, p5, p6⟩
      rw [ordRows_eq hv p1 p2] at p3 p5
      exact ⟨rfl, cells', bs', p3, p4, p5, p6⟩
end Go.Proofs.YtibhoanjglfaoaaGreat

/- What the sort and the compaction of rows make: the rows in order, each once. -/
namespace Go.Proofs.YtibhoanjglfaoaaGreat
open Go.RowKit
set_option linter.unusedVariables false

theorem nlt_trans {a b c : List Val} (ha : ∀ v ∈ a, valOk v = true) (hb : ∀ v ∈ b, valOk v = true) (hc : ∀ v ∈ c, valOk v = true) (h1 : ¬ cmpRow a b < 0) (h2 : ¬ cmpRow b c < 0) : ¬ cmpRow a c < 0 := fun h3 => by
  by_cases h : cmpRow a b = 0
  · rw [cmpRow_eq ha hb h] at h3; exact h2 h3
  · have hyx : cmpRow b a < 0 := by rw [cmpRow_neg]; omega
    exact h2 (cmpRow_trans hb ha hc hyx h3)
theorem weak_ins (x : List Val) (hx : ∀ v ∈ x, valOk v = true) : ∀ {ys : List (List Val)}, ValsOk ys → Weak ys → ∃ zs : List (List Val), zs.Perm (x :: ys) ∧ Weak zs
  | [], _, _ => ⟨[x], List.Perm.refl _, List.pairwise_singleton _ _⟩
  | y :: t, hv, hw => by
    obtain ⟨h1, h2⟩ := List.pairwise_cons.1 hw
    have hy := hv y List.mem_cons_self
    have ht : ValsOk t := fun r hr => hv r (List.mem_cons_of_mem _ hr)
    by_cases h : cmpRow y x < 0
    · obtain ⟨zs, p, w⟩ := weak_ins x hx ht h2
      refine ⟨y :: zs, (p.cons y).trans (List.Perm.swap x y t), List.pairwise_cons.2 ⟨fun b hb => ?_, w⟩⟩
      rcases List.mem_cons.1 (p.mem_iff.1 hb) with e | e
      · rw [e]; exact cmpRow_asym _ _ h
      · exact h1 b e
    · refine ⟨x :: y :: t, List.Perm.refl _, List.pairwise_cons.2 ⟨fun b hb => ?_, hw⟩⟩
      rcases List.mem_cons.1 hb with e | e
      · rw [e]; exact h
      · exact nlt_trans (ht b e) hy hx (h1 b e) h
theorem weak_exists : ∀ {rows : List (List Val)}, ValsOk rows → ∃ ys : List (List Val), ys.Perm rows ∧ Weak ys
  | [], _ => ⟨[], List.Perm.refl _, List.Pairwise.nil⟩
  | x :: t, hv => by
    obtain ⟨ys, p, w⟩ := weak_exists (rows := t) fun r hr => hv r (List.mem_cons_of_mem _ hr)
    obtain ⟨zs, p2, w2⟩ := weak_ins x (hv x List.mem_cons_self) (ys := ys) (fun r hr => hv r (List.mem_cons_of_mem _ (p.mem_iff.1 hr))) w
    exact ⟨zs, p2.trans (p.cons x), w2⟩
theorem ordRows_perm {rows : List (List Val)} (hv : ValsOk rows) : (ordRows rows).Perm rows := by
  obtain ⟨ys, p, w⟩ := weak_exists hv
  rw [← ordRows_eq hv p w]; exact p
theorem ordRows_weak {rows : List (List Val)} (hv : ValsOk rows) : Weak (ordRows rows) := by
  obtain ⟨ys, p, w⟩ := weak_exists hv
  rw [← ordRows_eq hv p w]; exact w
theorem ordRows_uniq {rows : List (List Val)} (hv : ValsOk rows) : uniq (ordRows rows) = sortRows rows := uniq_sort (ordRows_perm hv) (ordRows_weak hv) hv
theorem ordRows_len {rows : List (List Val)} (hv : ValsOk rows) : (ordRows rows).length = rows.length := (ordRows_perm hv).length_eq
theorem ordRows_small {rows : List (List Val)} (hv : ValsOk rows) {n : Nat} (h : ∀ r ∈ rows, r.length ≤ n) : ∀ r ∈ ordRows rows, r.length ≤ n := fun r hr => h r ((ordRows_perm hv).mem_iff.1 hr)
/-! ### Lists joined -/
theorem flat_zero {α : Type} {xss : List (List α)} : ([] : List α) = (xss.take 0).flatten := rfl
theorem flat_more {α : Type} {xss : List (List α)} {k : Nat} (hk : k < xss.length) : (xss.take k).flatten ++ xss[k] = (xss.take (k + 1)).flatten := by
  rw [List.take_succ_eq_append_getElem hk, List.flatten_append]; simp
theorem flat_all {α : Type} {xss : List (List α)} {k : Nat} (hk : xss.length ≤ k) : (xss.take k).flatten = xss.flatten := by rw [List.take_of_length_le hk]
theorem flat_len1 {α : Type} {xss : List (List α)} {k : Nat} (hk : k < xss.length) : ((xss.take (k + 1)).flatten.length : Int) = (xss.take k).flatten.length + xss[k].length := by
  rw [← flat_more hk, List.length_append]; omega
theorem flat_le {α : Type} {xss : List (List α)} {k : Nat} : (xss.take k).flatten.length ≤ xss.flatten.length := by
  conv => rhs; rw [← List.take_append_drop k xss, List.flatten_append, List.length_append]
  omega
end Go.Proofs.YtibhoanjglfaoaaGreat

/- The kit's contract of slices.Grow laid at rows and at values. -/
namespace Go.Proofs
open Go.Shelf
def Tryz.growRow_ren : Go.Shelf.Ren := ⟨fun | 4 => 85 | n => n, fun | 22 => 61 | 25 => 72 | 3 => 3 | 4 => 4 | 9 => 9 | 20 => 20 | 0 => 0 | n => n, fun | n => n⟩
theorem Tryz.growRow : Go.Proofs.Lays8.n4 Tryz.prog Tryz.growRow_ren := {
  mixed := by kernel_rfl
  f4 := ⟨Tryz.f85.name, by decide, Tryz.func85.trans (congrArg some (by kernel_rfl))⟩
  t0 := Tryz.underlying0
  a0 := Tryz.isAgg0
  z0 := Tryz.sizeOf0
  v0 := Tryz.zeroValue0
  t3 := Tryz.underlying3
  a3 := Tryz.isAgg3
  z3 := Tryz.sizeOf3
  v3 := Tryz.zeroValue3
  t4 := Tryz.underlying4
  a4 := Tryz.isAgg4
  z4 := Tryz.sizeOf4
  v4 := Tryz.zeroValue4
  t9 := Tryz.underlying9
  a9 := Tryz.isAgg9
  z9 := Tryz.sizeOf9
  v9 := Tryz.zeroValue9
  t20 := Tryz.underlying20
  a20 := Tryz.isAgg20
  z20 := Tryz.sizeOf20
  v20 := Tryz.zeroValue20
  t22 := Tryz.underlying61
  a22 := Tryz.isAgg61
  z22 := Tryz.sizeOf61
  v22 := Tryz.zeroValue61 }
end Go.Proofs

/- slices.Grow of no slice: an array of one's own with no elements. -/
namespace Go.Proofs.YtibhoanjglfaoaaGreat
open Go.RowKit
set_option linter.unusedVariables false

/-- A function that makes an array with no elements. -/
theorem AC.room {P : Program} {f : FuncId} {args : List AVal} {α : Type} {E : TypeId} (e : Enc α) {fc : α → List Cell} [hc : CellsOf e fc] (hfn : Callable P f)
    (h : ∀ (w : World) (g : Gh) (cargs : Array Value), All2 (VR1 g [] w) cargs.toList args → Calls P f cargs w fun en w' => ∃ v', en = .returned v' ∧ w'.ownsRow 0 E e.size v' 0 [] ∧ w.grownBy w' none ∧ ∀ b, v'.ownBlock = some b → w.heap.size ≤ b) :
    AC P f args [] (.one (.own 0)) [(0, some (.arr (α := α) E e [] true))] := by
  refine ⟨hfn, fun g w cargs m ha => (h w g cargs ha).mono ?_⟩
  rintro en w' ⟨v', rfl, t1, t2, t3⟩
  obtain ⟨g', q1, q2, q3, q4, q5, q6, q7⟩ := arr_new (w' := w') m (k := 0) rfl (by simp [Locs.ids]) (js := []) (fz := []) (fun _ h => h) (fun j hj => by cases hj) (T := E) (e := e) (xs := []) (d := true) (blk := (v'.ownBlock).getD 0) (v := v') (fp := [])
    t2.os t2.tape t2.output t2.size (fun b hb _ => t2.block b hb (by simp))
    (ArrR.lay (cells := []) t1 (by rfl) (fun b hb => by cases hb) (fun b hb => ⟨by rw [hb]; rfl, fun hI => by
      rcases hI with hI | ⟨j, hj, _⟩
      · have h1 := m.ilt b hI
        have h2 := t3 b hb
        omega
      · cases hj⟩))
    (fun hv => by
      rcases t1.2 with ⟨h1, _⟩ | ⟨b, cap, cur, h1, _, h3, _⟩
      · exact absurd h1 hv
      · have hb : v'.ownBlock = some b := by rw [h1]; rfl
        rw [hb]
        exact ⟨(Array.getElem?_eq_some_iff.1 h3).1, .inl (t3 b hb)⟩)
    (fun _ => ⟨List.nodup_nil, fun b hb => by cases hb⟩)
  exact ⟨v', g', rfl, q3, fun β U e2 ys2 dd hcx => q2.symm, q4 _⟩
theorem growRow_c0 (n : Nat) (hn : n ≤ 2097152) : AC Tryz.prog 85 [.one (.c (.slice none 0 0)), .one (.c (.int .i64 (n : Int)))] [] (.one (.own 0)) [(0, some (.arr 72 rowE [] true))] :=
  AC.room rowE ⟨_, _, Tryz.func85, rfl, rfl⟩ fun w g cargs h => by
    obtain ⟨x, y, rfl, h1, h2⟩ := inv2 h
    rw [(inv_c h1).1, (inv_c h2).1]
    rcases Nat.eq_zero_or_pos n with h0 | h0
    · subst h0
      refine (Any8.slices_Grow_room Tryz.growRow none 0 0 0 w (Nat.le_refl _) (by omega) (by omega) (Nat.le_refl _)).mono ?_
      rintro en w' ⟨rfl, rfl⟩
      exact ⟨_, rfl, ⟨by simp, .inl ⟨rfl, rfl⟩⟩, ⟨rfl, rfl, rfl, Nat.le_refl _, fun _ _ _ => rfl⟩, fun b hb => by cases hb⟩
    · obtain ⟨hu, hn0, ti, z, hti, hz, hzs, htis, htib⟩ := arrT_spec (P := Tryz.prog) (T := 61) (E := 72) (n := 1) (b := 24) (by kernel_rfl)
      refine (Any8.slices_Grow_grow Tryz.growRow ti z hti hz (by omega) none 0 0 n [] w (Nat.le_refl _) (by omega) (by rw [htib]; omega) (by omega) (by simp) (fun _ => rfl) (fun a ha => by cases ha)).mono ?_
      rintro en w' ⟨rfl, rfl⟩
      have hG := grownCap_ge w (0 + n) 0 72
      have hM := grownCap_le_maxLen w (0 + n) 0 72 (by unfold maxLen; omega)
      refine ⟨_, rfl, ⟨by simp, .inr ⟨w.heap.size, _, _, rfl, Nat.zero_le _, heap_alloc_new w.drew _, Nat.zero_le _, hM, ?_, by simp⟩⟩, ⟨rfl, rfl, rfl, by simp, fun k hk _ => Below.heap_alloc w.drew _ k hk⟩, fun b hb => by
        have : w.heap.size = b := by simpa [Value.ownBlock] using hb
        omega⟩
      show (_ : Array Value).size = _ * 1
      simp only [Array.size_append, size_zeroCells, List.size_toArray, List.length_nil, hzs]
      show 0 + (0 + n - 0) * 1 + (grownCap w (0 + n) 0 72 - (0 + n)) * 1 = grownCap w (0 + n) 0 72 * 1
      omega
theorem growRow_c (n : Nat) (hn : n ≤ 2097152) (k : Nat) : AC Tryz.prog 85 [.one (.c (.slice none 0 0)), .one (.c (.int .i64 (n : Int)))] [] (.one (.own k)) [(k, some (.arr 72 rowE [] true))] := AC.at (growRow_c0 n hn) k
end Go.Proofs.YtibhoanjglfaoaaGreat

/- The front of an own array kept; the rest of one cleared. -/
namespace Go.Proofs.YtibhoanjglfaoaaGreat
open Go.RowKit
set_option linter.unusedVariables false

theorem zeroCells_list (c : Array Value) (h0 : 0 < c.size) : ∀ n, (Builtin.zeroCells c n).toList = (List.replicate n c.toList).flatten := fun n => by
  apply List.ext_getElem?
  intro i
  have hl : (Builtin.zeroCells c n).toList.length = n * c.size := by rw [Array.length_toList, size_zeroCells]
  have key : ∀ (n i : Nat), i < n * c.size → ((List.replicate n c.toList).flatten)[i]? = c.toList[i % c.size]? := fun n => by
    induction n with
    | zero => intro i hi; omega
    | succ n ih =>
      intro i hi
      rw [List.replicate_succ, List.flatten_cons]
      rcases Nat.lt_or_ge i c.size with h | h
      · rw [List.getElem?_append_left (by simpa using h), Nat.mod_eq_of_lt h]
      · rw [List.getElem?_append_right (by simpa using h), Array.length_toList, ih (i - c.size) (by rw [Nat.add_mul] at hi; omega), Nat.mod_eq_sub_mod h]
  have hl2 : ((List.replicate n c.toList).flatten).length = n * c.size := by simp
  by_cases hi : i < n * c.size
  · rw [key n i hi]
    have hm : i % c.size < c.size := Nat.mod_lt _ h0
    simp only [Builtin.zeroCells, Array.toList_map, Array.toList_range, List.getElem?_map, List.getElem?_range hi, Option.map_some]
    rw [getElem!_pos c _ hm]
    simp [hm]
  · rw [List.getElem?_eq_none (by omega), List.getElem?_eq_none (by omega)]
theorem run_clear_zero {P : Program} (w : World) (t e ty : TypeId) (z : Value) (k : Nat) (ht : P.underlying t = some (.slice e)) (hv : ∀ w : World, (Go.zeroValue e).run P w = .ok z w) (hzk : z.cells.size = k) (hk0 : 0 < k) (h1 : ∀ u ∈ z.cells.toList, u.oneCell' = true) (g o n c : Nat) (hn : 0 < n) (cur : Array Value) (t0 : TypeId)
    (hg : w.heap[g]? = some (.cells cur t0 (0, 0))) (hfit : o + n * k ≤ cur.size) :
    (Builtin.clear_ #[t] ty #[.slice (some ⟨g, o, none⟩) n c]).run P w = .ok (.tuple #[]) (w.setRow g (cur.toList.take o ++ (List.replicate n z.cells.toList).flatten ++ cur.toList.drop (o + n * k)).toArray) := by
  have hzl : (Builtin.zeroCells z.cells n).toList.length = n * k := by rw [Array.length_toList, size_zeroCells, hzk]
  have hzz := zeroCells_list z.cells (by omega) n
  have hz1 : ∀ v ∈ (Builtin.zeroCells z.cells n).toList, v.oneCell' = true := fun v hm => by
    rw [hzz] at hm
    obtain ⟨l, hl, hvl⟩ := List.mem_flatten.1 hm
    rw [List.eq_of_mem_replicate hl] at hvl
    exact h1 v hvl
  have hst := run_storeCells_at P g o t0 (Builtin.zeroCells z.cells n).toList 0 cur w hg (by rw [hzl]; simpa using hfit) hz1
  simp only [Nat.add_zero, hzl] at hst
  obtain ⟨m, rfl⟩ : ∃ m, n = m + 1 := ⟨n - 1, by omega⟩
  rw [← hzz]
  simp [Builtin.clear_, run_underlying ht, hv, hst]
theorem FR.zeros {α : Type} {e : Enc α} {f : α → List Cell} [hc : CellsOf e f] {w : World} {zs : List Value} {x' : α} (h : e.rep w zs x' []) : ∀ n, FR w (List.replicate n zs).flatten ((List.replicate n x').flatMap f) []
  | 0 => rfl
  | n + 1 => by
    rw [List.replicate_succ, List.flatten_cons, List.replicate_succ, List.flatMap_cons]
    exact FR.app.2 ⟨zs, _, [], [], rfl, rfl, hc.iff.1 h, FR.zeros h n⟩
section ops
variable {P : Program} {N : Nat} {s : St} {d : Nat} {ty : TypeId} {pos : String} {after : Array Edge} {gd : Option (Nat × Bool)}
/-- s[:h] of an own array, under a new number. -/
theorem x_cut {α : Type} {e : Enc α} {f : α → List Cell} [hc : CellsOf e f] {xs : List α} {T E n h K : Nat} {x : Operand} {hi : Option Operand} {rh : List (Nat × AVal)} (k' : Nat) (hN : Nat.blt d N = true) (hx : evo s.t x = some (.one (.own K))) (hl : lkl s.l K = some (.arr E e xs false)) (hT : sliceT P T = some (E, n)) (hz : e.size = n)
    (hh : OB s.t xs.length hi rh h) (hk : lk s.l k' = none) (hi' : noId k' s.ids = true) (h2 : h ≤ xs.length) :
    Stp P N ⟨some d, .slice T x none hi none, ty, pos, after, gd⟩ s ⟨(d, .one (.own k')) :: s.t, (k', some (.arr E e (xs.take h) false)) :: (gones [K] ++ s.l)⟩ ⟨rdo x (.one (.own K)) ++ rh, [(K, .arr E e xs false)], [(d, .one (.own k'))], (k', some (.arr E e (xs.take h) false)) :: gones [K], [k']⟩ := by
  refine ⟨fun K' g s' a w hp r => ?_, ⟨fun p hp => (List.mem_append.1 hp).elim (rdo_of hx p) (hh.rd p), by simp [hl], fun j hj => by simp at hj; subst hj; exact ⟨hk, noId_of hi'⟩⟩, by simp [Cert.upd]⟩
  obtain ⟨p1, p2, p3⟩ := hp
  have hK : lkl s'.l K = some (.arr E e xs false) := p2 (K, .arr E e xs false) (by simp)
  have e1 : a.eval x = g.hd K := (eval_ok r (evs_of hx) fun p hp => p1 p (List.mem_append_left _ hp) : CellR g s'.l w _ (.own K)) _ _ _ _ _ hK
  have q2 := hh.ev r fun p hp => p1 p (List.mem_append_right _ hp)
  obtain ⟨n1, n2⟩ := p3 k' (by simp)
  obtain ⟨cells, b1, r1, f1, i1, F1, ob1⟩ := (r.mem.arr K _ _ _ _ _ hK).row
  obtain ⟨c1, c3, rfl, f2, _⟩ := FR.parts (e := e) f1 h2
  have hgone : ∀ i ∈ [K], ∃ (α : Type) (T : TypeId) (e : Enc α) (xs : List α) (d : Bool), lkl s'.l i = some (.arr T e xs d) := fun i hi => by
    simp at hi
    subst hi
    exact ⟨α, E, e, xs, false, hK⟩
  have hlen : (xs.take h).length = h := by simp; omega
  have hcl : (cells.take (h * e.size)).length = h * e.size := by rw [List.length_take, r1.1, Nat.min_eq_left (Nat.mul_le_mul_right _ h2)]
  have : ∃ v', (execOp a.eval ⟨some d, .slice T x none hi none, ty, pos, after, gd⟩).run P w = .ok (.value v') w ∧ w.ownsRow 0 E e.size v' (h + 0) (cells.take (h * e.size) ++ []) ∧ ∀ b, v'.ownBlock = some b → (g.hd K).ownBlock = some b := by
    rcases r1.2 with ⟨hnil, h0⟩ | ⟨b, cap, cur, hv, _, hb, hle, hcap, hsz, htk⟩
    · have : h = 0 := by omega
      subst this
      have hrun := run_sliceOf hT w none 0 0 (lo := none) (.inl ⟨rfl, rfl⟩) (by rw [h0] at q2; exact q2) (Nat.le_refl 0) (Nat.le_refl 0)
      exact ⟨.slice none 0 0, by simp only [execOp, e1, hnil, Sem.run_bind, Option.map_none, hrun, Result.andThen_ok, Sem.run_pure]; rfl, ⟨by simp, .inl ⟨rfl, rfl⟩⟩, fun b hb => by cases hb⟩
    · have hrun := run_sliceOf hT w (some ⟨b, 0, none⟩) xs.length cap (lo := none) (.inl ⟨rfl, rfl⟩) q2 (Nat.zero_le h) (by omega)
      have ea : (if cap = 0 then (some ⟨b, 0, none⟩ : Option Addr) else (some ⟨b, 0, none⟩ : Option Addr).map (·.add (0 * n))) = some ⟨b, 0, none⟩ := by
        split
        · rfl
        · simp [addr_add]
      rw [ea] at hrun
      refine ⟨_, by simp only [execOp, e1, hv, Sem.run_bind, Option.map_none, hrun, Result.andThen_ok, Sem.run_pure]; rfl, ⟨by simp [hcl], .inr ⟨b, cap, cur, by simp, Nat.zero_le _, hb, by omega, hcap, hsz, ?_⟩⟩, fun b' hb' => by rw [hv]; exact hb'⟩
      rw [List.append_nil, Nat.add_zero, ← htk, List.take_take, Nat.min_eq_left (Nat.mul_le_mul_right _ h2)]
  obtain ⟨v', hrun, hrow, hown⟩ := this
  obtain ⟨g', s1, s2, s3, s4, s5, s6⟩ := app_lay (w' := w) r.mem n1 (fun h => n2 (List.mem_append_right _ h)) (js := [K]) (List.mem_cons_self ..) hgone (E := E) (e := e) (xs := xs.take h) (ys := []) (d := false) (news := []) (b2 := []) f2 (by rfl)
    (fun b hb => i1 b (by simp at hb; simp [hb])) ob1 (by rw [hlen]; exact hrow) ⟨rfl, rfl, rfl, Nat.le_refl _, fun _ _ _ => rfl⟩ (fun b hb => .inl (hown b hb)) (fun hd => by cases hd)
  rw [List.append_nil] at s2 s3 s6
  unfold Oper.wp
  rw [hrun, Oper.upon_value]
  refine ⟨g', r.next (blt_lt hN) s4 s5 (Nat.le_refl _) (fun j hj => s6 j fun e => n2 (e ▸ hj)) (fun β U e2 ys dd hc => ?_) s2, s3 K'⟩
  exact s1.symm
/-- clear(s[l0:]) of an own array. -/
theorem x_clear {α : Type} {e : Enc α} {f : α → List Cell} [hc : CellsOf e f] {xs : List α} {T E n K l0 n0 : Nat} {x : Operand} {z : Value} (x' : α) (h : evo s.t x = some (.one (.osl K l0 n0))) (hl : lkl s.l K = some (.arr E e xs false)) (hT : sliceT P T = some (E, n)) (hz : e.size = n) (h0 : 0 < n)
    (hv : ∀ w : World, (Go.zeroValue E).run P w = .ok z w) (hx' : ∀ w, e.rep w z.cells.toList x' []) (hn0 : 0 < n0) (hb : l0 + n0 = xs.length) :
    Stp P N ⟨none, .call { callee := .builtin .clear, args := #[x], argTypes := #[T] }, ty, pos, after, gd⟩ s ⟨s.t, (K, some (.arr E e (xs.take l0 ++ List.replicate n0 x') false)) :: s.l⟩ ⟨rdo x (.one (.osl K l0 n0)), [(K, .arr E e xs false)], [], [(K, some (.arr E e (xs.take l0 ++ List.replicate n0 x') false))], []⟩ := by
  refine ⟨fun K' g s' a w hp r => ?_, ⟨rdo_of h, by simp [hl], by simp⟩, by simp [Cert.upd]⟩
  obtain ⟨p1, p2, _⟩ := hp
  have hK : lkl s'.l K = some (.arr E e xs false) := p2 (K, .arr E e xs false) (by simp)
  obtain ⟨hu, ii, hii, hnn⟩ := sliceT_spec hT
  rcases (eval_ok r (evs_of h) fun p hp => p1 p hp : CellR g s'.l w _ (.osl K l0 n0)) _ _ _ _ _ hK with ⟨f1, f2, f3, f4⟩ | ⟨len, cap, off, f1, f2, f3, f4, f5⟩
  · omega
  have hlv : g.hd K ≠ .slice none 0 0 := by rw [f1]; intro e; cases e
  obtain ⟨cells, b1, r1, g1, i1, F1, ob1⟩ := (r.mem.arr K _ _ _ _ _ hK).row
  obtain ⟨c1, c3, rfl, g2, _⟩ := FR.parts (e := e) g1 (i := l0) (by omega)
  rcases r1.2 with ⟨hnil, hl0⟩ | ⟨b, cap', cur, hv', _, hbk, hle, hcap, hsz, htk⟩
  · omega
  rw [f1] at hv'
  cases hv'
  have hlt : l0 < cap := by omega
  have hoff := f5 hlt
  subst hoff
  subst hz
  have hzl : z.cells.toList.length = e.size := e.len (hx' w)
  have hzs : z.cells.size = e.size := by rw [← Array.length_toList]; exact hzl
  have hz1 : ∀ u ∈ z.cells.toList, u.oneCell' = true := FR.one (hc.iff.1 (hx' w))
  have hsum : l0 * e.size + n0 * e.size = xs.length * e.size := by rw [← Nat.add_mul, hb]
  have hfit : l0 * e.size + n0 * e.size ≤ cur.size := by
    rw [hsum, hsz]; exact Nat.mul_le_mul_right _ hle
  have hrun := run_clear_zero (P := P) w T E ty z e.size hu hv hzs h0 hz1 (g.ρ K) (l0 * e.size) n0 (cap - l0) hn0 cur E hbk hfit
  generalize hnew : (cur.toList.take (l0 * e.size) ++ (List.replicate n0 z.cells.toList).flatten ++ cur.toList.drop (l0 * e.size + n0 * e.size)).toArray = new at *
  have hfl : ((List.replicate n0 z.cells.toList).flatten).length = n0 * e.size := by simp [hzs]
  have hns : new.size = cur.size := by rw [← hnew]; simp [hzs]; omega
  have hwk : (w.setRow (g.ρ K) new).heap[g.ρ K]? = some (.cells new E (0, 0)) := setRow_heap w _ _ _ E _ hbk
  have hwo : ∀ b, b ≠ g.ρ K → (w.setRow (g.ρ K) new).heap[b]? = w.heap[b]? := fun b hb => setRow_other w _ b _ hb
  have hsw : (w.setRow (g.ρ K) new).heap.size = w.heap.size := by simp
  have hnI := r.mem.notI hK hlv
  have hne : ∀ b, g.I b → b ≠ g.ρ K := fun b hb eq => hnI (eq ▸ hb)
  have hF2 : FR w (cells.take (l0 * e.size) ++ (List.replicate n0 z.cells.toList).flatten) ((xs.take l0 ++ List.replicate n0 x').flatMap f) (c1 ++ []) := by
    rw [List.flatMap_append]
    exact FR.app.2 ⟨_, _, _, _, rfl, rfl, g2, FR.zeros (hx' w) n0⟩
  rw [List.append_nil] at hF2
  have hIc : ∀ b ∈ c1, g.I b := fun b hb => i1 b (List.mem_append_left _ hb)
  have hF3 := hF2.keep (w' := w.setRow (g.ρ K) new) (fun b hb => hwo b (hne b (hIc b hb))) (Nat.le_of_eq hsw.symm)
  have hln : (xs.take l0 ++ List.replicate n0 x').length = xs.length := by simp; omega
  obtain ⟨g', q1, q2, q3, q4, q5, q6, q7⟩ := arr_put (w' := w.setRow (g.ρ K) new) r.mem hK hlv (js := []) (by simp) (fun j hj => by cases hj) (xs := xs.take l0 ++ List.replicate n0 x') (d := false) (fp := c1) rfl rfl rfl hsw hwo
    (ArrR.ofRow (g := ⟨fun b => g.I b ∨ liveA g [] b, g.ρ, g.hd, setAt g.F K c1⟩) (e := e) (f := f) (cells := cells.take (l0 * e.size) ++ (List.replicate n0 z.cells.toList).flatten) (bs := c1) (by
      rw [hln]
      refine ⟨?_, .inr ⟨g.ρ K, cap, new, f1, Nat.zero_le _, hwk, hle, hcap, by rw [hns, hsz], ?_⟩⟩
      · rw [List.length_append, hfl, List.length_take, r1.1, Nat.min_eq_left (by omega)]; exact hsum
      · rw [← hnew]
        show (List.take _ (_ ++ _ ++ _)) = _
        rw [List.take_left' (by rw [List.length_append, hfl, List.length_take, Array.length_toList, Nat.min_eq_left (by omega)]; exact hsum), ← htk, List.take_take, Nat.min_eq_left (by omega)]) hF3 (fun b hb => .inl (hIc b hb)) (fun hd => by cases hd) fun b hb => ⟨ob1 b hb, fun hI => by
        rcases hI with hI | ⟨j, hj, _⟩
        · rw [ob1 b hb] at hI; exact hnI hI
        · cases hj⟩) (fun hd => by cases hd)
  have hr : (execOp a.eval ⟨none, .call { callee := .builtin .clear, args := #[x], argTypes := #[T] }, ty, pos, after, gd⟩).run P w = .ok (.value (.tuple #[])) (w.setRow (g.ρ K) new) := by
    simp only [execOp, resolve, invoke, builtin, Sem.run_bind, Sem.run_pure, Result.andThen_ok, List.map_toArray, List.map_cons, List.map_nil, f2, hrun]
  unfold Oper.wp
  rw [hr, Oper.upon_value]
  exact ⟨g', r.next0 q5 q6 (Nat.le_of_eq hsw.symm) (fun j _ => q7 j) q3, q4 K'⟩
end ops
end Go.Proofs.YtibhoanjglfaoaaGreat

/- Equal neighbours once: on raw rows. -/
namespace Go.Proofs.YtibhoanjglfaoaaGreat
open Go.RowKit
set_option linter.unusedVariables false
set_option linter.unusedSimpArgs false

section
variable {us : List (Raw (List Val))}
def uniqR (us : List (Raw (List Val))) : Nat → List (Raw (List Val))
  | 0 => []
  | 1 => us.take 1
  | k + 2 => if (us.map Raw.x).getD (k + 1) [] = (us.map Raw.x).getD k [] then uniqR us (k + 1) else uniqR us (k + 1) ++ (us.drop (k + 1)).take 1
theorem uniqR_len : ∀ {k : Nat}, (uniqR us k).length ≤ k
  | 0 => by simp [uniqR]
  | 1 => by simp [uniqR]; omega
  | k + 2 => by
    have := uniqR_len (k := k + 1)
    rw [uniqR]; split
    · omega
    · simp; omega
theorem uniqR_map : ∀ {k : Nat}, k ≤ us.length → (uniqR us k).map Raw.x = uniqTo (us.map Raw.x) k
  | 0, _ => rfl
  | 1, _ => by simp [uniqR, uniqTo]
  | k + 2, h => by
    rw [uniqR, uniqTo]
    split
    · exact uniqR_map (by omega)
    · rw [List.map_append, uniqR_map (by omega), List.map_take, List.map_drop]
      congr 1
      rw [List.drop_eq_getElem_cons (by simp; omega)]
      simp [List.getD, show k + 1 < us.length by omega]
theorem uniqR_sub : ∀ {k : Nat}, (uniqR us k).Sublist (us.take k)
  | 0 => by simp [uniqR]
  | 1 => by simp [uniqR]
  | k + 2 => by
    have h0 := uniqR_sub (k := k + 1)
    have e : us.take (k + 2) = us.take (k + 1) ++ (us.drop (k + 1)).take 1 := by rw [List.take_add (i := k + 1) (j := 1)]
    rw [uniqR, e]; split
    · exact h0.trans (List.sublist_append_left _ _)
    · exact h0.append (List.Sublist.refl _)
theorem uniqR_same {k : Nat} (h1 : 0 < k) (hk : k < us.length) (h : us[k].x = (us[k - 1]'(by omega)).x) : uniqR us (k + 1) = uniqR us k := by
  obtain ⟨j, rfl⟩ : ∃ j, k = j + 1 := ⟨k - 1, by omega⟩
  simp only [Nat.add_sub_cancel] at h
  rw [uniqR, if_pos (by simp [List.getD, hk, show j < us.length by omega, h])]
theorem uniqR_new {k : Nat} (h1 : 0 < k) (hk : k < us.length) (h : ¬ us[k].x = (us[k - 1]'(by omega)).x) : uniqR us (k + 1) = uniqR us k ++ [us[k]] := by
  obtain ⟨j, rfl⟩ : ∃ j, k = j + 1 := ⟨k - 1, by omega⟩
  simp only [Nat.add_sub_cancel] at h
  rw [uniqR, if_neg (by simp [List.getD, hk, show j < us.length by omega, h]), List.drop_eq_getElem_cons hk]; rfl
/-- No equal neighbours so far. -/
def Plain (us : List (Raw (List Val))) (k : Nat) : Prop := uniqR us k = us.take k
theorem Plain.one : Plain us 1 := rfl
theorem Plain.succ {k : Nat} (h : Plain us k) (h1 : 0 < k) (hk : k < us.length) (hn : sameRow us[k].x (us[k - 1]'(by omega)).x = false) : Plain us (k + 1) := by
  unfold Plain
  rw [uniqR_new h1 hk (sameRow_ne hn), h, List.take_succ_eq_append_getElem hk]
theorem Plain.all {k : Nat} (h : Plain us k) (hk : us.length ≤ k) (hk2 : k ≤ us.length) : us = uniqR us us.length := by
  obtain rfl : k = us.length := by omega
  rw [h, List.take_length]
theorem uniqR_short (h : us.length < 2) : us = uniqR us us.length := by
  match us, h with
  | [], _ => rfl
  | [a], _ => rfl
/-- Halfway: the elements kept so far, and the old ones behind. -/
def uniqA (us : List (Raw (List Val))) (j : Nat) : List (Raw (List Val)) := uniqR us j ++ us.drop (uniqR us j).length
theorem uniqA_len {j : Nat} (hj : j ≤ us.length) : (uniqA us j).length = us.length := by
  have := uniqR_len (us := us) (k := j)
  simp [uniqA]; omega
theorem uniqA_at {j i : Nat} (hj : j ≤ us.length) (hi : i < us.length) (h : (uniqR us j).length ≤ i) (h' : i < (uniqA us j).length) : (uniqA us j)[i] = us[i] := by
  have q : (uniqA us j)[i]? = us[i]? := by
    unfold uniqA
    rw [List.getElem?_append_right h, List.getElem?_drop]
    congr 1; omega
  rw [List.getElem?_eq_getElem h', List.getElem?_eq_getElem hi] at q
  exact Option.some.inj q
/-- The first equal neighbours are at k. -/
theorem uniqR_dup {k : Nat} (h : Plain us k) (h1 : 0 < k) (hk : k < us.length) (hs : sameRow us[k].x (us[k - 1]'(by omega)).x = true) : (uniqR us (k + 1)).length = k ∧ us = uniqA us (k + 1) := by
  have e : uniqR us (k + 1) = us.take k := by rw [uniqR_same h1 hk (sameRow_iff.1 hs), h]
  have el : (uniqR us (k + 1)).length = k := by rw [e]; simp; omega
  refine ⟨el, ?_⟩
  unfold uniqA
  rw [el, e, List.take_append_drop]
theorem uniqR_skip {j : Nat} (h1 : 0 < j) (hj : j < us.length) (hs : sameRow us[j].x (us[j - 1]'(by omega)).x = true) : uniqR us (j + 1) = uniqR us j := uniqR_same h1 hj (sameRow_iff.1 hs)
theorem uniqA_put {j : Nat} (h1 : 0 < j) (hj : j < us.length) (hl : (uniqR us j).length < j) (hs : sameRow us[j].x (us[j - 1]'(by omega)).x = false) (h' : j < (uniqA us j).length) : (uniqA us j).set (uniqR us j).length ((uniqA us j)[j]) = uniqA us (j + 1) ∧ (uniqR us (j + 1)).length = (uniqR us j).length + 1 := by
  have e := uniqR_new h1 hj (sameRow_ne hs)
  have e2 := uniqA_at (Nat.le_of_lt hj) hj (by omega) h'
  refine ⟨?_, by rw [e]; simp⟩
  rw [e2]
  unfold uniqA
  rw [e, List.set_append_right _ _ (Nat.le_refl _), Nat.sub_self, List.drop_eq_getElem_cons (l := us) (i := (uniqR us j).length) (by omega), List.set_cons_zero, List.length_append, List.length_singleton, List.append_assoc]
  rfl
theorem uniqA_end {j : Nat} (hj : us.length ≤ j) (hj2 : j ≤ us.length) {z : Raw (List Val)} {n : Nat} : ((uniqA us j).take (uniqR us j).length ++ List.replicate n z).take (uniqR us j).length = uniqR us us.length := by
  obtain rfl : j = us.length := by omega
  unfold uniqA
  rw [List.take_left' rfl, List.take_left' rfl]
end
/-- The raw element whose cell is no slice. -/
def zeroR : Raw (List Val) := ⟨[], [.slice none 0 0], []⟩
theorem zeroR_rep (w : World) : (rawE rowE).rep w [.slice none 0 0] zeroR [] :=
  ⟨[], [], rfl, ⟨⟨rfl, rfl⟩, rowE_rep.2 ⟨none, 0, 0, rfl, rfl, Nat.le_refl _, Nat.zero_le _, fun _ => rfl, .inl ⟨rfl, rfl⟩⟩, rfl⟩, rfl⟩
end Go.Proofs.YtibhoanjglfaoaaGreat

/- Equal neighbours once (printed by walk.py) -/
namespace Go.Proofs.YtibhoanjglfaoaaGreat
open Go.RowKit
set_option linter.unusedVariables false
set_option linter.unusedSimpArgs false
set_option maxRecDepth 100000

set_option maxHeartbeats 4000000 in
theorem compactRaw_c (us : List (Raw (List Val))) (hl : us.length ≤ 1048576) (hm : ∀ r ∈ us, r.x.length ≤ 1048576) : AT Tryz.prog 83 [.one (.own 0), .one (.clo 84 [])] [(0, some (.arr 72 (rawE rowE) (us) false))] (.one (.own 1)) [(1, some (.arr 72 (rawE rowE) (uniqR us us.length) false))] := by
  refine AT_body1 Tryz.func83 rfl rfl Tryz.ntmps83 rfl Tryz.results83 ?_
  refine AW_seq ?_
  refine AW_region ?_
  refine AL_p (x_assign rfl rfl) ?_
  refine AL_nil ?_
  refine AW_seq ?_
  refine AW_seq ?_
  refine AW_region ?_
  refine AL_p (x_move rfl rfl) ?_
  refine AL_p (x_olen (E := 72) (n := 1) rfl rfl rfl (by kernel_rfl)) ?_
  refine AL_b (x_lss rfl rfl rfl) (fun b10 h10 => ?_)
  refine AL_nil ?_
  cases b10
  rotate_left
  · try simp only [tdy] at h10
    refine AW_condT rfl ?_
    refine AW_seq ?_
    refine AW_region ?_
    refine AL_p (x_move rfl rfl) ?_
    refine AL_p (x_assign rfl rfl) ?_
    refine AL_nil ?_
    refine AW_ret ?_
    exact ⟨rn [(1, 0)], ⟨⟨⟨_, rfl, VLe.rf⟩, trivial⟩, ⟨⟨_, rfl, by first | exact BLe.arr (uniqR_short (by omega)) | exact BLe.arr (hp.all (by omega) (by omega)) | exact BLe.arr (uniqA_end (by omega) (by omega))⟩, trivial⟩, trivial, rfl⟩⟩
  try simp only [tdy] at h10
  refine AW_condF rfl ?_
  refine AW_skip ?_
  refine AW_seq ?_
  refine AW_seq ?_
  refine AW_region ?_
  refine AL_p (x_assign rfl rfl) ?_
  refine AL_nil ?_
  refine AW_block ?_
  refine AW_loop2 (ι := {q : Nat // (0 < q ∧ q ≤ us.length) ∧ Plain us q}) (fun p => [(5, .one (.c (.int .i64 ((p.1) : Int))))]) (fun p => []) [0, 1] [0] (fun p => us.length - (p.1)) ⟨1, ⟨by omega, Plain.one⟩⟩ (rn []) ?_ ?_
  exact ⟨by (repeat refine ⟨⟨_, rfl, by first | exact VLe.rf | exact vle_int (by dsimp only; omega)⟩, ?_⟩); exact trivial, by (repeat refine ⟨⟨_, rfl, by first | exact BLe.rf | exact BLe.box AllC.rf | exact BLe.arr (by exact rfl)⟩, ?_⟩); exact trivial, by repeat (first | exact trivial | refine ⟨⟨rfl, by first | (left; intro h; cases h) | (right; rfl), by first | exact (fun _ h => ⟨_, h⟩) | exact (fun _ _ => ⟨_, rfl⟩)⟩, ?_⟩), rfl⟩
  rintro ⟨k, hinv⟩
  dsimp only
  obtain ⟨⟨hk0, hk⟩, hp⟩ := hinv
  refine AW_seq ?_
  refine AW_seq ?_
  refine AW_region ?_
  refine AL_p (x_move rfl rfl) ?_
  refine AL_p (x_move rfl rfl) ?_
  refine AL_p (x_olen (E := 72) (n := 1) rfl rfl rfl (by kernel_rfl)) ?_
  refine AL_b (x_lss rfl rfl rfl) (fun b15 h15 => ?_)
  refine AL_nil ?_
  cases b15
  · try simp only [tdy] at h15
    refine AW_condF rfl ?_
    refine AW_exit (BQ_hit ?_)
    refine AW_seq ?_
    refine AW_region ?_
    refine AL_p (x_move rfl rfl) ?_
    refine AL_p (x_assign rfl rfl) ?_
    refine AL_nil ?_
    refine AW_ret ?_
    exact ⟨rn [(1, 0)], ⟨⟨⟨_, rfl, VLe.rf⟩, trivial⟩, ⟨⟨_, rfl, by first | exact BLe.arr (uniqR_short (by omega)) | exact BLe.arr (hp.all (by omega) (by omega)) | exact BLe.arr (uniqA_end (by omega) (by omega))⟩, trivial⟩, trivial, rfl⟩⟩
  try simp only [tdy] at h15
  refine AW_condT rfl ?_
  refine AW_skip ?_
  refine AW_seq ?_
  refine AW_block ?_
  refine AW_seq ?_
  refine AW_draw rfl ?_
  refine AL_p (x_move rfl rfl) ?_
  refine AL_p (x_move rfl rfl) ?_
  refine AL_p (x_move rfl rfl) ?_
  refine AL_p (x_oindex (n := 1) rfl rfl rfl rfl (by kernel_rfl) rfl (k := k) rfl (by omega)) ?_
  refine AL_p (x_oloadN (n := 1) rfl rfl rfl (by kernel_rfl) (by omega) rfl rfl) ?_
  refine AL_p (x_move rfl rfl) ?_
  refine AL_p (x_move rfl rfl) ?_
  refine AL_p (x_sub rfl rfl rfl (IntWalk.i64_in _ (by omega))) ?_
  refine AL_p (x_oindex (n := 1) rfl rfl rfl rfl (by kernel_rfl) rfl (k := k - 1) (by omega) (by omega)) ?_
  refine AL_p (x_oloadN (n := 1) rfl rfl rfl (by kernel_rfl) (by omega) rfl rfl) ?_
  refine AL_bc (x_call (ks := []) (L := []) (L' := []) rfl rfl rfl (sameRowI_c (us[k]'(by omega)).x (us[k - 1]'(by omega)).x (hm _ (List.getElem_mem _))) rfl ⟨V1Le.agg ⟨CLe.rx rfl, trivial⟩, V1Le.agg ⟨CLe.rx rfl, trivial⟩, trivial⟩ (caught_of rfl) rfl rfl rfl trivial rfl) (fun b28 h28 => ?_)
  refine AL_nild (by kernel_rfl) ?_
  cases b28
  · try simp only [tdy] at h28
    refine AW_condF rfl ?_
    refine AW_skip ?_
    refine AW_region ?_
    refine AL_p (x_move rfl rfl) ?_
    refine AL_p (x_add rfl rfl rfl (IntWalk.i64_in _ (by omega))) ?_
    refine AL_p (x_assign rfl rfl) ?_
    refine AL_nil ?_
    refine ⟨⟨k + 1, ⟨by omega, hp.succ (by omega) (by omega) h28⟩⟩, rn [], ?_, by dsimp only; omega⟩
    exact ⟨by (repeat refine ⟨⟨_, rfl, by first | exact VLe.rf | exact vle_int (by dsimp only; omega)⟩, ?_⟩); exact trivial, by (repeat refine ⟨⟨_, rfl, by first | exact BLe.rf | exact BLe.box AllC.rf | exact BLe.arr (by exact rfl)⟩, ?_⟩); exact trivial, by repeat (first | exact trivial | refine ⟨⟨rfl, by first | (left; intro h; cases h) | (right; rfl), by first | exact (fun _ h => ⟨_, h⟩) | exact (fun _ _ => ⟨_, rfl⟩)⟩, ?_⟩), rfl⟩
  try simp only [tdy] at h28
  obtain ⟨q1, q2⟩ := uniqR_dup hp (by omega) (by omega) h28
  refine AW_condT rfl ?_
  refine AW_seq ?_
  refine AW_region ?_
  refine AL_p (x_move rfl rfl) ?_
  refine AL_p (x_move rfl rfl) ?_
  refine AL_p (x_oslice (n := 1) rfl rfl rfl (by kernel_rfl) rfl (.yes (l := k) rfl (by omega)) .no (by omega) (by first | exact Nat.le_refl _ | omega)) ?_
  refine AL_p (x_assign rfl rfl) ?_
  refine AL_nil ?_
  refine AW_seq ?_
  refine AW_seq ?_
  refine AW_region ?_
  refine AL_p (x_assign rfl rfl) ?_
  refine AL_nil ?_
  refine AW_block ?_
  refine AW_loop2 (ι := {q : Nat // (k < q ∧ q ≤ us.length) ∧ (uniqR us q).length < q}) (fun p => [(5, .one (.c (.int .i64 ((uniqR us (p.1)).length : Int)))), (7, .one (.c (.int .i64 (((p.1) : Int) - (k : Int)))))]) (fun p => [(0, some (.arr 72 (rawE rowE) (uniqA us (p.1)) false))]) [0, 1, 6] [] (fun p => us.length - (p.1)) ⟨k + 1, ⟨by omega, by omega⟩⟩ (rn []) ?_ ?_
  exact ⟨by (repeat refine ⟨⟨_, rfl, by first | exact VLe.rf | exact vle_int (by dsimp only; omega)⟩, ?_⟩); exact trivial, by (repeat refine ⟨⟨_, rfl, by first | exact BLe.rf | exact BLe.box AllC.rf | exact BLe.arr (by first | exact q2 | exact q5.1 | (unfold uniqA; rw [q5]))⟩, ?_⟩); exact trivial, by repeat (first | exact trivial | refine ⟨⟨rfl, by first | (left; intro h; cases h) | (right; rfl), by first | exact (fun _ h => ⟨_, h⟩) | exact (fun _ _ => ⟨_, rfl⟩)⟩, ?_⟩), rfl⟩
  rintro ⟨j, hinv⟩
  dsimp only
  obtain ⟨⟨hkj, hj⟩, hul⟩ := hinv
  have hj : j ≤ us.length := hj
  refine AW_seq ?_
  refine AW_seq ?_
  refine AW_region ?_
  refine AL_p (x_move rfl rfl) ?_
  refine AL_p (x_move rfl rfl) ?_
  refine AL_p (x_osllen (E := 72) (n := 1) rfl rfl rfl (by kernel_rfl) (by rw [uniqA_len (by omega)]; omega)) ?_
  refine AL_b (x_lss rfl rfl rfl) (fun b35 h35 => ?_)
  refine AL_nil ?_
  cases b35
  · try simp only [tdy] at h35
    refine AW_condF rfl ?_
    refine AW_exit (BQ_hit ?_)
    refine AW_seq ?_
    refine AW_region ?_
    refine AL_p (x_move rfl rfl) ?_
    refine AL_p (x_move rfl rfl) ?_
    refine AL_p (x_oslice (n := 1) rfl rfl rfl (by kernel_rfl) rfl (.yes (l := (uniqR us j).length) rfl rfl) .no (by rw [uniqA_len (by omega)]; omega) (by first | exact Nat.le_refl _ | omega)) ?_
    refine AL_p (x_clear (E := 72) (n := 1) (z := .agg #[.slice none 0 0]) zeroR rfl rfl (by kernel_rfl) rfl (by decide) Tryz.zeroValue72 zeroR_rep (by rw [uniqA_len (by omega)]; omega) (by rw [uniqA_len (by omega)]; omega)) ?_
    refine AL_nil ?_
    refine AW_seq ?_
    refine AW_region ?_
    refine AL_p (x_move rfl rfl) ?_
    refine AL_p (x_move rfl rfl) ?_
    refine AL_p (x_cut (n := 1) (h := (uniqR us j).length) 100 rfl rfl rfl (by kernel_rfl) rfl (.yes rfl rfl) rfl rfl (by simp [uniqA_len hj]; omega)) ?_
    refine AL_p (x_assign rfl rfl) ?_
    refine AL_nil ?_
    refine AW_ret (BQ_ret (BQ_ret ?_))
    exact ⟨rn [(1, 100)], ⟨⟨⟨_, rfl, VLe.rf⟩, trivial⟩, ⟨⟨_, rfl, by first | exact BLe.arr (uniqR_short (by omega)) | exact BLe.arr (hp.all (by omega) (by omega)) | exact BLe.arr (uniqA_end (by omega) (by omega))⟩, trivial⟩, trivial, rfl⟩⟩
  try simp only [tdy] at h35
  refine AW_condT rfl ?_
  refine AW_skip ?_
  refine AW_seq ?_
  refine AW_block ?_
  refine AW_seq ?_
  refine AW_draw rfl ?_
  refine AL_p (x_move rfl rfl) ?_
  refine AL_p (x_move rfl rfl) ?_
  refine AL_p (x_move rfl rfl) ?_
  refine AL_p (x_oslindex (n := 1) rfl rfl rfl rfl (by kernel_rfl) rfl (k := j - k) (by omega) (by omega) (k1 := j) (by omega)) ?_
  refine AL_p (x_oloadN (n := 1) rfl rfl rfl (by kernel_rfl) (by rw [uniqA_len (by omega)]; omega) rfl rfl) ?_
  refine AL_p (x_move rfl rfl) ?_
  refine AL_p (x_move rfl rfl) ?_
  refine AL_p (x_sub rfl rfl rfl (IntWalk.i64_in _ (by omega))) ?_
  refine AL_p (x_oslindex (n := 1) rfl rfl rfl rfl (by kernel_rfl) rfl (k := j - k - 1) (by omega) (by omega) (k1 := j - 1) (by omega)) ?_
  refine AL_p (x_oloadN (n := 1) rfl rfl rfl (by kernel_rfl) (by rw [uniqA_len (by omega)]; omega) rfl rfl) ?_
  refine AL_bc (x_call (ks := []) (L := []) (L' := []) rfl rfl rfl (sameRowI_c (((uniqA us j)[j]'(by rw [uniqA_len (by omega)]; omega))).x (((uniqA us j)[j - 1]'(by rw [uniqA_len (by omega)]; omega))).x (hm _ (by rw [uniqA_at (us := us) (j := j) (i := j) (by omega) (by omega) (by omega) (by rw [uniqA_len (by omega)]; omega)]; exact List.getElem_mem _))) rfl ⟨V1Le.agg ⟨CLe.rx rfl, trivial⟩, V1Le.agg ⟨CLe.rx rfl, trivial⟩, trivial⟩ (caught_of rfl) rfl rfl rfl trivial rfl) (fun b48 h48 => ?_)
  refine AL_p (x_not rfl rfl) ?_
  refine AL_nild (by kernel_rfl) ?_
  cases b48
  rotate_left
  · try simp only [tdy] at h48
    rw [uniqA_at (us := us) (j := j) (i := j) (by omega) (by omega) (by omega) (by rw [uniqA_len (by omega)]; omega), uniqA_at (us := us) (j := j) (i := j - 1) (by omega) (by omega) (by omega) (by rw [uniqA_len (by omega)]; omega)] at h48
    have q5 := uniqR_skip (by omega) (by omega) h48
    have q6 : (uniqR us (j + 1)).length = (uniqR us j).length := by rw [q5]
    refine AW_condF rfl ?_
    refine AW_skip ?_
    refine AW_region ?_
    refine AL_p (x_move rfl rfl) ?_
    refine AL_p (x_add rfl rfl rfl (IntWalk.i64_in _ (by omega))) ?_
    refine AL_p (x_assign rfl rfl) ?_
    refine AL_nil ?_
    refine ⟨⟨j + 1, ⟨by omega, by rw [q5]; omega⟩⟩, rn [], ?_, by dsimp only; omega⟩
    exact ⟨by (repeat refine ⟨⟨_, rfl, by first | exact VLe.rf | exact vle_int (by dsimp only; omega)⟩, ?_⟩); exact trivial, by (repeat refine ⟨⟨_, rfl, by first | exact BLe.rf | exact BLe.box AllC.rf | exact BLe.arr (by first | exact q2 | exact q5.1 | (unfold uniqA; rw [q5]))⟩, ?_⟩); exact trivial, by repeat (first | exact trivial | refine ⟨⟨rfl, by first | (left; intro h; cases h) | (right; rfl), by first | exact (fun _ h => ⟨_, h⟩) | exact (fun _ _ => ⟨_, rfl⟩)⟩, ?_⟩), rfl⟩
  try simp only [tdy] at h48
  rw [uniqA_at (us := us) (j := j) (i := j) (by omega) (by omega) (by omega) (by rw [uniqA_len (by omega)]; omega), uniqA_at (us := us) (j := j) (i := j - 1) (by omega) (by omega) (by omega) (by rw [uniqA_len (by omega)]; omega)] at h48
  have q5 := uniqA_put (by omega) (by omega) (by omega) h48 (by rw [uniqA_len (by omega)]; omega)
  have q6 := q5.2
  refine AW_condT rfl ?_
  refine AW_seq ?_
  refine AW_region ?_
  refine AL_p (x_move rfl rfl) ?_
  refine AL_p (x_move rfl rfl) ?_
  refine AL_p (x_move rfl rfl) ?_
  refine AL_p (x_move rfl rfl) ?_
  refine AL_p (x_oslindex (n := 1) rfl rfl rfl rfl (by kernel_rfl) rfl (k := j - k) (by omega) (by omega) (k1 := j) (by omega)) ?_
  refine AL_p (x_oloadN (n := 1) rfl rfl rfl (by kernel_rfl) (by rw [uniqA_len (by omega)]; omega) rfl rfl) ?_
  refine AL_p (x_oindex (n := 1) rfl rfl rfl rfl (by kernel_rfl) rfl (k := (uniqR us j).length) rfl (by rw [uniqA_len (by omega)]; omega)) ?_
  refine AL_p (x_ostore (((uniqA us j)[j]'(by rw [uniqA_len (by omega)]; omega))) rfl rfl rfl rfl (by kernel_rfl) rfl rfl rfl rfl FitL.rf rfl rfl (by rw [uniqA_len (by omega)]; omega)) ?_
  refine AL_nil ?_
  refine AW_region ?_
  refine AL_p (x_move rfl rfl) ?_
  refine AL_p (x_add rfl rfl rfl (IntWalk.i64_in _ (by omega))) ?_
  refine AL_p (x_assign rfl rfl) ?_
  refine AL_nil ?_
  refine AW_region ?_
  refine AL_p (x_move rfl rfl) ?_
  refine AL_p (x_add rfl rfl rfl (IntWalk.i64_in _ (by omega))) ?_
  refine AL_p (x_assign rfl rfl) ?_
  refine AL_nil ?_
  refine ⟨⟨j + 1, ⟨by omega, by rw [q5.2]; omega⟩⟩, rn [], ?_, by dsimp only; omega⟩
  exact ⟨by (repeat refine ⟨⟨_, rfl, by first | exact VLe.rf | exact vle_int (by dsimp only; omega)⟩, ?_⟩); exact trivial, by (repeat refine ⟨⟨_, rfl, by first | exact BLe.rf | exact BLe.box AllC.rf | exact BLe.arr (by first | exact q2 | exact q5.1 | (unfold uniqA; rw [q5]))⟩, ?_⟩); exact trivial, by repeat (first | exact trivial | refine ⟨⟨rfl, by first | (left; intro h; cases h) | (right; rfl), by first | exact (fun _ h => ⟨_, h⟩) | exact (fun _ _ => ⟨_, rfl⟩)⟩, ?_⟩), rfl⟩

theorem compact_t (xs : List (List Val)) (hl : xs.length ≤ 1048576) (hm : ∀ r ∈ xs, r.length ≤ 1048576) : AT Tryz.prog 83 [.one (.own 0), .one (.clo 84 [])] [(0, some (.arr 72 rowE xs true))] (.one (.own 1)) [(1, some (.arr 72 rowE (uniq xs) true))] :=
  AT.raw (by decide) ⟨_, _, Tryz.func83, rfl, rfl⟩ (fun zs hz => ⟨uniqR zs zs.length, by rw [uniqR_map (Nat.le_refl _), hz]; unfold uniq; rw [← hz, List.length_map], fun hn => hn.sublist (by have := feet_sub (uniqR_sub (us := zs) (k := zs.length)); rwa [List.take_length] at this), fun b hb => by have := feet_sub (uniqR_sub (us := zs) (k := zs.length)); rw [List.take_length] at this; exact this.subset hb, compactRaw_c zs (by rw [← List.length_map (f := Raw.x), hz]; exact hl) (fun r hr => hm _ (by rw [← hz]; exact List.mem_map_of_mem hr))⟩) rfl
end Go.Proofs.YtibhoanjglfaoaaGreat

/- Variables whose rows are said in other words. -/
namespace Go.Proofs.YtibhoanjglfaoaaGreat
open Go.RowKit
set_option linter.unusedVariables false
end Go.Proofs.YtibhoanjglfaoaaGreat

/- Rows joined (printed by walk.py) -/
namespace Go.Proofs.YtibhoanjglfaoaaGreat
open Go.RowKit
set_option linter.unusedVariables false
set_option linter.unusedSimpArgs false
set_option maxRecDepth 100000

set_option maxHeartbeats 4000000 in
theorem concatRow_t {xss : List (List (List Val))} (hl : xss.flatten.length ≤ 2097152) (hn : xss.length ≤ 1048576) : AT Tryz.prog 42 [.one (.own 0)] [(0, some (.arr 61 (sliceE rowE) xss false))] (.one (.own 1)) [(1, some (.arr 72 rowE xss.flatten false))] := by
  refine AT_body1 Tryz.func42 rfl rfl Tryz.ntmps42 rfl Tryz.results42 ?_
  refine AW_seq ?_
  refine AW_region ?_
  refine AL_p (x_assign rfl rfl) ?_
  refine AL_nil ?_
  refine AW_seq ?_
  refine AW_region ?_
  refine AL_p (x_assign rfl rfl) ?_
  refine AL_nil ?_
  refine AW_seq ?_
  refine AW_seq ?_
  refine AW_region ?_
  refine AL_p (x_move rfl rfl) ?_
  refine AL_p (x_olen (E := 61) (n := 1) rfl rfl rfl (by kernel_rfl)) ?_
  refine AL_p (x_move rfl rfl) ?_
  refine AL_nil ?_
  refine AW_block ?_
  refine AW_loop2 (ι := {q : Nat // q ≤ xss.length}) (fun p => [(3, .one (.c (.int .i64 ((xss.take (p.1)).flatten.length : Int)))), (11, .one (.c (.int .i64 ((p.1) : Int))))]) (fun p => []) [0, 9, 10] [0] (fun p => xss.length - (p.1)) ⟨0, by omega⟩ (rn []) ?_ ?_
  exact ⟨by (repeat refine ⟨⟨_, rfl, by first | exact VLe.rf | exact vle_int (by dsimp only; omega)⟩, ?_⟩); exact trivial, by (repeat refine ⟨⟨_, rfl, by first | exact BLe.rf | exact BLe.box AllC.rf | exact BLe.arr (by exact rfl)⟩, ?_⟩); exact trivial, by repeat (first | exact trivial | refine ⟨⟨rfl, by first | (left; intro h; cases h) | (right; rfl), by first | exact (fun _ h => ⟨_, h⟩) | exact (fun _ _ => ⟨_, rfl⟩)⟩, ?_⟩), rfl⟩
  rintro ⟨k, hinv⟩
  dsimp only
  have hf := flat_le (xss := xss) (k := k)
  refine AW_seq ?_
  refine AW_region ?_
  refine AL_b (x_lss rfl rfl rfl) (fun b12 h12 => ?_)
  refine AL_nil ?_
  refine AW_seq ?_
  cases b12
  rotate_left
  · try simp only [tdy] at h12
    refine AW_condT rfl ?_
    refine AW_skip ?_
    refine AW_seq ?_
    refine AW_block ?_
    refine AW_seq ?_
    refine AW_region ?_
    refine AL_p (x_oindex (n := 1) rfl rfl rfl rfl (by kernel_rfl) rfl (k := k) rfl (by omega)) ?_
    refine AL_p (x_oload1 rfl rfl rfl (by kernel_rfl) (by omega) rfl) ?_
    refine AL_p (x_assign rfl rfl) ?_
    refine AL_nil ?_
    refine AW_seq ?_
    refine AW_region ?_
    refine AL_p (x_move rfl rfl) ?_
    refine AL_p (x_move rfl rfl) ?_
    refine AL_p (x_len (E := 72) (n := 1) rfl rfl (by kernel_rfl)) ?_
    refine AL_p (x_add rfl rfl rfl (by have := flat_len1 (xss := xss) (k := k) (by omega); exact IntWalk.i64_in _ (by have := flat_le (xss := xss) (k := k + 1); omega))) ?_
    refine AL_p (x_assign rfl rfl) ?_
    refine AL_nil ?_
    refine AW_seq ?_
    refine AW_region ?_
    refine AL_p (x_move rfl rfl) ?_
    refine AL_b (x_lss rfl rfl rfl) (fun b20 h20 => ?_)
    refine AL_nil ?_
    cases b20
    rotate_left
    · exfalso; have := flat_len1 (xss := xss) (k := k) (by omega); simp at h20; omega
    try simp only [tdy] at h20
    have q4 := flat_len1 (xss := xss) (k := k) (by omega)
    refine AW_condF rfl ?_
    refine AW_skip ?_
    refine AW_region ?_
    refine AL_p (x_add rfl rfl rfl (IntWalk.i64_in _ (by omega))) ?_
    refine AL_p (x_move rfl rfl) ?_
    refine AL_nil ?_
    refine ⟨⟨k + 1, by omega⟩, rn [], ?_, by dsimp only; omega⟩
    exact ⟨by (repeat refine ⟨⟨_, rfl, by first | exact VLe.rf | exact vle_int (by dsimp only; omega)⟩, ?_⟩); exact trivial, by (repeat refine ⟨⟨_, rfl, by first | exact BLe.rf | exact BLe.box AllC.rf | exact BLe.arr (by exact rfl)⟩, ?_⟩); exact trivial, by repeat (first | exact trivial | refine ⟨⟨rfl, by first | (left; intro h; cases h) | (right; rfl), by first | exact (fun _ h => ⟨_, h⟩) | exact (fun _ _ => ⟨_, rfl⟩)⟩, ?_⟩), rfl⟩
  try simp only [tdy] at h12
  have e0 : (xss.take k).flatten = xss.flatten := flat_all (by omega)
  rw [e0]
  refine AW_condF rfl ?_
  refine AW_exit (BQ_hit ?_)
  refine AW_seq ?_
  refine AW_region ?_
  refine AL_p (x_move rfl rfl) ?_
  refine AL_p (x_call1 rfl rfl rfl (growRow_c xss.flatten.length hl 100) rfl rfl rfl rfl) ?_
  refine AL_p (x_assign rfl rfl) ?_
  refine AL_nil ?_
  refine AW_seq ?_
  refine AW_seq ?_
  refine AW_region ?_
  refine AL_p (x_move rfl rfl) ?_
  refine AL_p (x_olen (E := 61) (n := 1) rfl rfl rfl (by kernel_rfl)) ?_
  refine AL_p (x_move rfl rfl) ?_
  refine AL_nil ?_
  refine AW_block ?_
  refine AW_shallow 100 rfl ?_
  refine AW_loop2 (ι := {q : Nat // q ≤ xss.length}) (fun p => [(6, .one (.own 100)), (27, .one (.c (.int .i64 ((p.1) : Int))))]) (fun p => [(100, some (.arr 72 rowE (xss.take (p.1)).flatten false))]) [25, 26] [0] (fun p => xss.length - (p.1)) ⟨0, by omega⟩ (rn []) ?_ ?_
  exact ⟨by (repeat refine ⟨⟨_, rfl, by first | exact VLe.rf | exact vle_int (by dsimp only; omega)⟩, ?_⟩); exact trivial, by (repeat refine ⟨⟨_, rfl, by first | exact BLe.rf | exact BLe.box AllC.rf | exact BLe.arr (by first | exact flat_zero | exact flat_more (by omega))⟩, ?_⟩); exact trivial, by repeat (first | exact trivial | refine ⟨⟨rfl, by first | (left; intro h; cases h) | (right; rfl), by first | exact (fun _ h => ⟨_, h⟩) | exact (fun _ _ => ⟨_, rfl⟩)⟩, ?_⟩), rfl⟩
  rintro ⟨k, hinv⟩
  dsimp only
  refine AW_seq ?_
  refine AW_region ?_
  refine AL_b (x_lss rfl rfl rfl) (fun b28 h28 => ?_)
  refine AL_nil ?_
  refine AW_seq ?_
  cases b28
  · try simp only [tdy] at h28
    refine AW_condF rfl ?_
    refine AW_exit (BQ_hit ?_)
    refine AW_seq ?_
    refine AW_region ?_
    refine AL_p (x_move rfl rfl) ?_
    refine AL_p (x_assign rfl rfl) ?_
    refine AL_nil ?_
    refine AW_ret ?_
    exact ⟨rn [(1, 100)], ⟨⟨⟨_, rfl, VLe.rf⟩, trivial⟩, ⟨⟨_, rfl, BLe.arr (flat_all (by omega))⟩, trivial⟩, trivial, rfl⟩⟩
  try simp only [tdy] at h28
  refine AW_condT rfl ?_
  refine AW_skip ?_
  refine AW_seq ?_
  refine AW_block ?_
  refine AW_seq ?_
  refine AW_region ?_
  refine AL_p (x_oindex (n := 1) rfl rfl rfl rfl (by kernel_rfl) rfl (k := k) rfl (by omega)) ?_
  refine AL_p (x_oload1 rfl rfl rfl (by kernel_rfl) (by omega) rfl) ?_
  refine AL_p (x_assign rfl rfl) ?_
  refine AL_nil ?_
  refine AW_region ?_
  refine AL_p (x_move rfl rfl) ?_
  refine AL_p (x_move rfl rfl) ?_
  refine AL_p (y_append_sl 101 false (.inl rfl) rfl rfl rfl rfl rfl rfl (by kernel_rfl) (by have := flat_le (xss := xss) (k := k + 1); have := flat_len1 (xss := xss) (k := k) (by omega); omega)) ?_
  refine AL_p (x_assign rfl rfl) ?_
  refine AL_nil ?_
  refine AW_region ?_
  refine AL_p (x_add rfl rfl rfl (IntWalk.i64_in _ (by omega))) ?_
  refine AL_p (x_move rfl rfl) ?_
  refine AL_nil ?_
  refine ⟨⟨k + 1, by omega⟩, rn [(100, 101)], ?_, by dsimp only; omega⟩
  exact ⟨by (repeat refine ⟨⟨_, rfl, by first | exact VLe.rf | exact vle_int (by dsimp only; omega)⟩, ?_⟩); exact trivial, by (repeat refine ⟨⟨_, rfl, by first | exact BLe.rf | exact BLe.box AllC.rf | exact BLe.arr (by first | exact flat_zero | exact flat_more (by omega))⟩, ?_⟩); exact trivial, by repeat (first | exact trivial | refine ⟨⟨rfl, by first | (left; intro h; cases h) | (right; rfl), by first | exact (fun _ h => ⟨_, h⟩) | exact (fun _ _ => ⟨_, rfl⟩)⟩, ?_⟩), rfl⟩

set_option maxHeartbeats 4000000 in
theorem relOfI_c0 (ar : Int) (rows : List (List Val)) (hv : ValsOk rows) (hs : smallRel ⟨ar, rows⟩) : AC Tryz.prog 41 [.one (.c (.int .i64 ar)), .one (.sl rowE rows)] [] (.tup [.agg [.c (.int .i64 (relOf ar rows).1.arity), .own 0], .one (.c (.bool (relOf ar rows).2))]) [(0, some (.arr 72 rowE (relOf ar rows).1.rows true))] := by
  refine AC_bodyCT (n := 2) (k := 9) (T := [(4, .one (.ptr 9 0)), (5, .one (.c (.bool (relOf ar rows).2)))]) (Lf := ((9, some (.box [.c (.int .i64 (relOf ar rows).1.arity), .own 0])) :: [(0, some (.arr 72 rowE (relOf ar rows).1.rows true))])) Tryz.func41 rfl rfl Tryz.ntmps41 rfl Tryz.results41 rfl rfl rfl rfl (by kernel_rfl) rfl rfl ⟨trivial, (by repeat (first | exact trivial | refine ⟨⟨_, rfl, BLe.rf⟩, ?_⟩)), (by repeat (first | exact trivial | refine ⟨⟨rfl, by first | (left; intro h; cases h) | (right; rfl), by first | exact (fun _ h => ⟨_, h⟩) | exact (fun _ _ => ⟨_, rfl⟩)⟩, ?_⟩)), rfl⟩ ?_
  refine AW_seq ?_
  refine AW_region ?_
  refine AL_p (x_alloc (z := .agg #[.int .i64 0, .slice none 0 0]) 100 rfl (by kernel_rfl) rfl rfl rfl rfl) ?_
  refine AL_p (x_assign rfl rfl) ?_
  refine AL_nil ?_
  refine AW_seq ?_
  refine AW_region ?_
  refine AL_p (x_move rfl rfl) ?_
  refine AL_p (x_move rfl rfl) ?_
  refine AL_p (x_build (zs := [.int .i64 0, .slice none 0 0]) (places := [(0, 1), (1, 1)]) rfl (by kernel_rfl) rfl rfl rfl rfl rfl) ?_
  refine AL_p (x_call1 rfl rfl rfl (copyI_c ⟨ar, rows⟩ hs 0) rfl rfl rfl rfl) ?_
  refine AL_p (x_alloc (z := .agg #[.int .i64 0, .slice none 0 0]) 101 rfl (by kernel_rfl) rfl rfl rfl rfl) ?_
  refine AL_p (x_store (n := 2) rfl rfl rfl rfl (by kernel_rfl) rfl rfl rfl) ?_
  refine AL_nil ?_
  refine AW_seq ?_
  refine AW_region ?_
  refine AL_p (x_field (off := 1) (o' := 1) rfl rfl rfl (by kernel_rfl) rfl) ?_
  refine AL_p (x_load1 rfl rfl rfl (by kernel_rfl) rfl) ?_
  refine AL_p (x_call (ks := []) (L := [(0, some _)]) (L' := [(0, some _)]) rfl rfl rfl (sortRow_c rows hv hs.1 true) rfl AllV.rf (caught_of rfl) rfl rfl rfl ⟨rfl, trivial⟩ rfl) ?_
  refine AL_nil ?_
  refine AW_seq ?_
  refine AW_region ?_
  refine AL_p (x_field (off := 1) (o' := 1) rfl rfl rfl (by kernel_rfl) rfl) ?_
  refine AL_p (x_load1 rfl rfl rfl (by kernel_rfl) rfl) ?_
  refine AL_p (x_call (ks := []) (L := [(0, some _)]) (L' := [(0, none), (102, some _)]) rfl rfl rfl (AT.lend1 (compact_t (ordRows rows) (by rw [ordRows_len hv]; exact hs.1) (ordRows_small hv fun r hr => (hs.2 r hr).1)) 0 102 rfl (fun _ => rfl)) rfl AllV.rf (caught_of rfl) rfl rfl rfl ⟨rfl, trivial⟩ rfl) ?_
  refine AL_p (x_field (off := 1) (o' := 1) rfl rfl rfl (by kernel_rfl) rfl) ?_
  refine AL_p (x_store (n := 1) rfl rfl rfl rfl (by kernel_rfl) rfl rfl rfl) ?_
  refine AL_nil ?_
  refine AW_seq ?_
  refine AW_seq ?_
  refine AW_region ?_
  refine AL_p (x_field (off := 1) (o' := 1) rfl rfl rfl (by kernel_rfl) rfl) ?_
  refine AL_p (x_load1 rfl rfl rfl (by kernel_rfl) rfl) ?_
  refine AL_p (x_olen (E := 72) (n := 1) rfl rfl rfl (by kernel_rfl)) ?_
  refine AL_b (x_gtr rfl rfl rfl) (fun b21 h21 => ?_)
  refine AL_nil ?_
  cases b21
  rotate_left
  · try simp only [tdy] at h21
    have hso := ordRows_uniq hv
    have hno := relOf_big (ar := ar) (rows := rows) (by rw [← hso]; omega)
    refine AW_condT rfl ?_
    refine AW_seq ?_
    refine AW_region ?_
    refine AL_p (x_build (zs := [.int .i64 0, .slice none 0 0]) (places := [(0, 1), (1, 1)]) rfl (by kernel_rfl) rfl rfl rfl rfl rfl) ?_
    refine AL_p (x_store (n := 2) rfl rfl rfl rfl (by kernel_rfl) rfl rfl rfl) ?_
    refine AL_p (x_assign rfl rfl) ?_
    refine AL_nil ?_
    refine AW_adopt (T := 72) (e := rowE) 103 100 1 rfl rfl rfl rfl rfl ?_
    refine AW_ret ?_
    exact ⟨rn [(9, 100), (0, 103)], ⟨⟨⟨_, rfl, VLe.rf⟩, ⟨_, rfl, by first | (refine vle_bool ?_; rw [hno]; done) | exact VLe.rf | (refine vle_bool ?_; rw [hno]; apply Eq.symm; assumption) | exact vle_bool (by rw [hno])⟩, trivial⟩, ⟨⟨_, rfl, by first | (refine ble_eq ?_; rw [hno]; done) | (refine ble_eq ?_; rw [hno]; rfl) | exact BLe.rf⟩, ⟨_, rfl, by first | (refine BLe.arr ?_; rw [hno]; done) | (refine BLe.arr ?_; rw [hno]; exact hso) | (refine BLe.arr ?_; rw [hno]; rfl) | exact BLe.rf⟩, trivial⟩, trivial, rfl⟩⟩
  try simp only [tdy] at h21
  have hso := ordRows_uniq hv
  have hno := relOf_ok (ar := ar) (rows := rows) (by rw [← hso]; omega)
  refine AW_condF rfl ?_
  refine AW_skip ?_
  refine AW_seq ?_
  refine AW_region ?_
  refine AL_p (x_loadN (n := 2) rfl rfl rfl (by kernel_rfl) rfl rfl) ?_
  refine AL_p (x_store (n := 2) rfl rfl rfl rfl (by kernel_rfl) rfl rfl rfl) ?_
  refine AL_p (x_assign rfl rfl) ?_
  refine AL_nil ?_
  refine AW_ret ?_
  exact ⟨rn [(9, 100), (0, 102)], ⟨⟨⟨_, rfl, VLe.rf⟩, ⟨_, rfl, by first | (refine vle_bool ?_; rw [hno]; done) | exact VLe.rf | (refine vle_bool ?_; rw [hno]; apply Eq.symm; assumption) | exact vle_bool (by rw [hno])⟩, trivial⟩, ⟨⟨_, rfl, by first | (refine ble_eq ?_; rw [hno]; done) | (refine ble_eq ?_; rw [hno]; rfl) | exact BLe.rf⟩, ⟨_, rfl, by first | (refine BLe.arr ?_; rw [hno]; done) | (refine BLe.arr ?_; rw [hno]; exact hso) | (refine BLe.arr ?_; rw [hno]; rfl) | exact BLe.rf⟩, trivial⟩, trivial, rfl⟩⟩
theorem relOfI_c (ar : Int) (rows : List (List Val)) (hv : ValsOk rows) (hs : smallRel ⟨ar, rows⟩) (k : Nat) : AC Tryz.prog 41 [.one (.c (.int .i64 ar)), .one (.sl rowE rows)] [] (.tup [.agg [.c (.int .i64 (relOf ar rows).1.arity), .own k], .one (.c (.bool (relOf ar rows).2))]) [(k, some (.arr 72 rowE (relOf ar rows).1.rows true))] := AC.at (relOfI_c0 ar rows hv hs) k

end Go.Proofs.YtibhoanjglfaoaaGreat

/- Numbers and texts ars bytes, in plain words. -/
namespace Go.Proofs.YtibhoanjglfaoaaGreat
open Go.RowKit
set_option linter.unusedVariables false

/-- The bytes of n, the highest first, but for the last j of size. -/
def bpTo (n : Int) (size j : Nat) : List Int := (List.range (size - j)).map fun q => n / 256 ^ (size - 1 - q) % 256
def putB (n : Int) (size : Nat) : List Int := bpTo n size 0
theorem putB_len {n : Int} {size : Nat} : (putB n size).length = size := by simp [putB, bpTo]
theorem texts_eq {a b : ByteArray} (h : a.data.toList = b.data.toList) : a = b := by
  obtain ⟨⟨a⟩⟩ := a
  obtain ⟨⟨b⟩⟩ := b
  simp at h; rw [h]
theorem relOk_small {r : Relt} (h : relOk r = true) : 0 ≤ r.arity ∧ r.arity ≤ 6 ∧ r.rows.length ≤ 300 ∧ ∀ row ∈ r.rows, row.length ≤ 6 := by
  have hp := relOk_parts h
  refine ⟨hp.2.1, hp.2.2.1, hp.2.2.2, fun row hr => ?_⟩
  obtain ⟨j, hj, rfl⟩ := List.getElem_of_mem hr
  have := relOk_ar h hj
  omega
end Go.Proofs.YtibhoanjglfaoaaGreat

/- Bytes read again, in plain words. -/
namespace Go.Proofs.YtibhoanjglfaoaaGreat
open Go.RowKit
set_option linter.unusedVariables false
set_option linter.unusedSimpArgs false

/-- The number in bytes. -/
def bign (l : List Int) : Int := l.foldl (fun a x => 256 * a + x % 256) 0
theorem bign_fold (l : List Int) : ∀ a : Int, l.foldl (fun a x => 256 * a + x % 256) a = a * 256 ^ l.length + bign l := by
  induction l with
  | nil => intro a; simp [bign]
  | cons x l ih =>
    intro a
    have h1 := ih (256 * a + x % 256)
    have h2 := ih (256 * 0 + x % 256)
    simp only [List.foldl_cons, List.length_cons, bign] at *
    rw [h1, h2, Int.pow_succ]
    grind
theorem bign_cons (x : Int) (l : List Int) : bign (x :: l) = x % 256 * 256 ^ l.length + bign l := by
  have := bign_fold l (256 * 0 + x % 256)
  show l.foldl _ (256 * 0 + x % 256) = _
  rw [this]; simp
theorem putB_succ (n : Int) (s : Nat) : putB n (s + 1) = n / 256 ^ s % 256 :: putB n s := by
  unfold putB bpTo
  rw [Nat.sub_zero, Nat.sub_zero, List.range_succ_eq_map, List.map_cons, List.map_map]
  congr 1
  apply List.map_congr_left
  intro q hq
  simp only [Function.comp, Nat.succ_eq_add_one]
  rw [show s + 1 - 1 - (q + 1) = s - 1 - q by omega]
theorem bign_putB (n : Int) (h0 : 0 ≤ n) : ∀ s : Nat, bign (putB n s) = n % 256 ^ s
  | 0 => by simp [putB, bpTo, bign]
  | s + 1 => by
    rw [putB_succ, bign_cons, bign_putB n h0 s, putB_len]
    have hp : (0 : Int) < 256 ^ s := Int.pow_pos (by omega)
    have e1 : n / 256 ^ s % 256 % 256 = n / 256 ^ s % 256 := by omega
    rw [e1, Int.pow_succ]
    have e2 := Int.emod_add_mul_ediv n (256 ^ s)
    have e3 := Int.emod_add_mul_ediv (n / 256 ^ s) 256
    have e4 := Int.emod_add_mul_ediv n (256 ^ s * 256)
    have e5 : n / (256 ^ s * 256) = n / 256 ^ s / 256 := (Int.ediv_ediv_of_nonneg (Int.le_of_lt hp)).symm
    rw [e5] at e4
    generalize n / 256 ^ s / 256 = d at *
    generalize n / 256 ^ s % 256 = c at *
    generalize n / 256 ^ s = b at *
    generalize (256 : Int) ^ s = P at *
    grind
theorem bign_put {n : Int} {s : Nat} (h0 : 0 ≤ n) (h1 : n < 256 ^ s) : bign (putB n s) = n := by
  rw [bign_putB n h0, Int.emod_eq_of_lt h0 h1]

/-! ### From the front -/
def takeI (xs : List Int) (n : Int) : Int × List Int := if (xs.length : Int) < n then (0, []) else (bign (xs.take n.toNat), xs.drop n.toNat)
theorem takeI_ok {xs : List Int} {n : Int} (h : ¬ (xs.length : Int) < n) : takeI xs n = (bign (xs.take n.toNat), xs.drop n.toNat) := if_neg h
theorem takeI_put {n : Int} {s : Nat} {r : List Int} (h0 : 0 ≤ n) (h1 : n < 256 ^ s) : takeI (putB n s ++ r) s = (n, r) := by
  rw [takeI_ok (by rw [List.length_append, putB_len]; omega), Int.toNat_natCast]
  have : s = (putB n s).length := putB_len.symm
  rw [List.take_append_of_le_length (by omega), List.drop_append_of_le_length (by omega)]
  rw [List.take_of_length_le (by omega), List.drop_eq_nil_of_le (by omega), bign_put h0 h1, List.nil_append]
/-! ### At a place -/
def getS (b : List Int) (z n : Int) : Int := if z + n ≤ (b.length : Int) then bign ((b.drop z.toNat).take n.toNat) else 0
theorem getS_take {b : List Int} {z n : Int} (h0 : 0 ≤ z) (hn : 0 ≤ n) (h : z ≤ (b.length : Int)) : getS b z n = (takeI (b.drop z.toNat) n).1 := by
  unfold getS takeI
  rw [List.length_drop]
  split
  · rw [if_neg (by omega)]
  · rw [if_pos (by omega)]
section
variable {b : List Int}
/-- From place z on there lies r. -/
def Lies (b : List Int) (z : Int) (r : List Int) : Prop := 0 ≤ z ∧ z ≤ (b.length : Int) ∧ b.drop z.toNat = r
theorem Lies.take {z : Int} {n : Int} {s : Nat} {r : List Int} (h : Lies b z (putB n s ++ r)) (h0 : 0 ≤ n) (h1 : n < 256 ^ s) : getS b z s = n ∧ Lies b (z + s) r := by
  have h2 := takeI_put (r := r) h0 h1
  have hl := congrArg List.length h.2.2
  rw [List.length_drop, List.length_append, putB_len] at hl
  refine ⟨by rw [getS_take h.1 (by omega) h.2.1, h.2.2, h2], by have := h.1; omega, by have := h.1; have := h.2.1; omega, ?_⟩
  have e : (z + (s : Int)).toNat = z.toNat + s := by have := h.1; omega
  rw [e, ← List.drop_drop, h.2.2]
  have : s = (putB n s).length := putB_len.symm
  conv => lhs; rw [this]
  rw [putB_len]
  exact List.drop_left' putB_len
end
end Go.Proofs.YtibhoanjglfaoaaGreat

/- How much the marks of a store that was read count. -/
namespace Go.Proofs.YtibhoanjglfaoaaGreat
open Go.RowKit
set_option linter.unusedVariables false

end Go.Proofs.YtibhoanjglfaoaaGreat

/- A relation put under a name in a right store: the place where it goes. -/
namespace Go.Proofs.YtibhoanjglfaoaaGreat
open Go.RowKit
set_option linter.unusedVariables false

def nlt (a b : ByteArray) : Prop := Op.bytesLess a.toList b.toList = true
theorem nlt_iff {a b : ByteArray} : nlt a b ↔ Lib.compareBytes a.toList b.toList < 0 := by unfold nlt; rw [bytesLess_cmp]; simp
theorem nmlt_trans {a b c : ByteArray} (h : nlt a b) (h2 : nlt b c) : nlt a c := nlt_iff.2 (compareBytes_trans (nlt_iff.1 h) (nlt_iff.1 h2))
theorem nlt_irr {a : ByteArray} (h : nlt a a) : False := by
  have := nlt_iff.1 h
  rw [compareBytes_self] at this; omega
theorem name_eq {a b : ByteArray} : (a == b) = true ↔ a = b := by
  constructor
  · intro h
    rw [beq_toListBytes, ByteArray.toList_eq, ByteArray.toList_eq] at h
    exact texts_eq (by simpa using h)
  · intro h; subst h; rw [beq_toListBytes]; simp
theorem name_ne {a b : ByteArray} : (a == b) = false ↔ a ≠ b := by
  constructor
  · intro h e; rw [name_eq.2 e] at h; cases h
  · intro h
    cases hb : (a == b)
    · rfl
    · exact absurd (name_eq.1 hb) h
theorem nlt_tri {a b : ByteArray} (h : ¬ nlt a b) (h2 : ¬ nlt b a) : a = b := by
  rw [nlt_iff] at h h2
  have h3 := compareBytes_neg a.toList b.toList
  have h4 : Lib.compareBytes a.toList b.toList = 0 := by omega
  have h5 := compareBytes_eq h4
  rw [ByteArray.toList_eq, ByteArray.toList_eq] at h5
  exact texts_eq h5
def SortedN (rels : List Namedt) : Prop := ∀ i j (hi : i < rels.length) (hj : j < rels.length), i < j → nlt rels[i].name rels[j].name
theorem storeOk_names {s : Storet} (h : storeOk s = true) : SortedN s.rels := by
  simp only [storeOk, Bool.and_eq_true] at h
  have adj : ∀ j (hj : j + 1 < s.rels.length), nlt (s.rels[j]'(by omega)).name s.rels[j + 1].name := fun j hj => by
    have := everyB_get h.1 hj
    simp only [namedAt, Bool.and_eq_true, Bool.or_eq_true, decide_eq_true_eq] at this
    rcases this.2.2 with h0 | h0
    · omega
    · exact h0
  intro i j hi hj hij
  obtain ⟨d, rfl⟩ : ∃ d, j = i + 1 + d := ⟨j - (i + 1), by omega⟩
  clear hij
  induction d with
  | zero => exact adj i hj
  | succ d ih => exact nmlt_trans (ih (by omega)) (adj (i + 1 + d) hj)
section
variable {rels : List Namedt} {nw : Namedt} {i : Nat}
theorem le_no {x : ByteArray} {y : ByteArray} (h : nlt y x) : leB x y = false := by
  have h1 : Op.bytesLess x.toList y.toList = false := by
    cases hb : Op.bytesLess x.toList y.toList
    · rfl
    · exact absurd (nmlt_trans h hb) nlt_irr
  have h2 : (x == y) = false := name_ne.2 fun e => by subst e; exact nlt_irr h
  simp [leB, h1, h2]
theorem le_yes {x : ByteArray} {y : ByteArray} (h : ¬ nlt y x) : leB x y = true := by
  unfold leB
  by_cases h1 : nlt x y
  · rw [show Op.bytesLess x.toList y.toList = true from h1]; rfl
  · rw [name_eq.2 (nlt_tri h1 h)]; simp
theorem setTo_low (hi : i ≤ rels.length) (h0 : ∀ j (hj : j < rels.length), j < i → nlt rels[j].name nw.name) : ∀ k, k ≤ i → setTo rels nw k = (false, rels.take k)
  | 0, _ => rfl
  | k + 1, hk => by
    have ih := setTo_low hi h0 k (by omega)
    have hlt := h0 k (by omega) (by omega)
    have hne : (!((rels[k]'(by omega)).name == nw.name)) = true := by
      rw [name_ne.2 fun e => by rw [e] at hlt; exact nlt_irr hlt]; rfl
    rw [setTo_next (by omega) (by rw [ih]) (le_no hlt) hne, ih, List.take_succ_eq_append_getElem (show k < rels.length by omega)]
    rfl
theorem setTo_high (hs : SortedN rels) (hi : i < rels.length) (hge : ¬ nlt rels[i].name nw.name) {F : List Namedt} (hF : setTo rels nw (i + 1) = (true, F)) : ∀ k, i + 1 ≤ k → k ≤ rels.length → setTo rels nw k = (true, F ++ (rels.take k).drop (i + 1))
  | 0, h, _ => by omega
  | k + 1, h, hk => by
    by_cases e : k = i
    · subst e
      rw [hF, List.drop_eq_nil_of_le (by simp; omega), List.append_nil]
    · have ih := setTo_high hs hi hge hF k (by omega) (by omega)
      have hlt := hs i k hi (by omega) (by omega)
      have hne : (!((rels[k]'(by omega)).name == nw.name)) = true := by
        rw [name_ne.2 fun e => by rw [e] at hlt; exact hge hlt]; rfl
      rw [setTo_skip (by omega) (by rw [ih]) hne, ih, List.take_succ_eq_append_getElem (show k < rels.length by omega), List.drop_append_of_le_length (by simp; omega), ← List.append_assoc]
      rfl
theorem setRel_ins (hs : SortedN rels) (hi : i ≤ rels.length) (h0 : ∀ j (hj : j < rels.length), j < i → nlt rels[j].name nw.name) (h1 : ∀ (h : i < rels.length), ¬ nlt rels[i].name nw.name ∧ (rels[i].name == nw.name) = false) :
    setRel rels nw = rels.take i ++ [nw] ++ rels.drop i := by
  have hl := setTo_low hi h0 i (Nat.le_refl _)
  by_cases hlt : i < rels.length
  · obtain ⟨hge, hne⟩ := h1 hlt
    have hF : setTo rels nw (i + 1) = (true, rels.take i ++ [nw] ++ [rels[i]]) := by
      rw [setTo_next (ne := true) hlt (by rw [hl]) (le_yes hge) (by rw [hne]; rfl), hl]; rfl
    have := setTo_high hs hlt hge hF rels.length (by omega) (Nat.le_refl _)
    unfold setRel
    rw [this, List.take_length]
    show rels.take i ++ [nw] ++ [rels[i]] ++ rels.drop (i + 1) = _
    rw [List.append_assoc _ [rels[i]], List.singleton_append, ← List.drop_eq_getElem_cons hlt]
  · obtain rfl : i = rels.length := by omega
    unfold setRel
    rw [hl, List.drop_eq_nil_of_le (Nat.le_refl _), List.append_nil]
    rfl
theorem setRel_rep (hs : SortedN rels) (hi : i < rels.length) (h0 : ∀ j (hj : j < rels.length), j < i → nlt rels[j].name nw.name) (heq : (rels[i].name == nw.name) = true) : setRel rels nw = rels.set i nw := by
  have hl := setTo_low (Nat.le_of_lt hi) h0 i (Nat.le_refl _)
  have hge : ¬ nlt rels[i].name nw.name := fun h => by rw [name_eq.1 heq] at h; exact nlt_irr h
  have hF : setTo rels nw (i + 1) = (true, rels.take i ++ [nw]) := by
    rw [setTo_next (ne := false) hi (by rw [hl]) (le_yes hge) (by rw [heq]; rfl), hl]; rfl
  have := setTo_high hs hi hge hF rels.length (by omega) (Nat.le_refl _)
  unfold setRel
  rw [this, List.take_length, List.set_eq_take_append_cons_drop, if_pos hi]
  show rels.take i ++ [nw] ++ rels.drop (i + 1) = _
  simp
end
def nameGe (nm : ByteArray) (x : Namedt) : Bool := !Op.bytesLess x.name.toList nm.toList
theorem noneGe {rels : List Namedt} {nm : ByteArray} {k : Nat} (h : NoneTo (nameGe nm) rels k) : ∀ j (hj : j < rels.length), j < k → nlt rels[j].name nm := fun j hj hjk => by
  have := h j hj hjk
  simp only [nameGe, Bool.not_eq_false'] at this
  exact this
/-- Where the first name lies that is not before. -/
def placeN (rels : List Namedt) (nm : ByteArray) : Int := firstIdx (nameGe nm) rels
/-- .. and the place itself. -/
def posN (rels : List Namedt) (nm : ByteArray) : Nat := if placeN rels nm < 0 then rels.length else (placeN rels nm).toNat
theorem placeN_is (rels : List Namedt) (nm : ByteArray) : posN rels nm ≤ rels.length ∧ (placeN rels nm < 0 → posN rels nm = rels.length) ∧ (¬ placeN rels nm < 0 → placeN rels nm = (posN rels nm : Int) ∧ posN rels nm < rels.length) ∧ (∀ j (hj : j < rels.length), j < posN rels nm → nlt rels[j].name nm) ∧ ∀ (h : posN rels nm < rels.length), ¬ nlt rels[posN rels nm].name nm := by
  by_cases hex : ∃ k, ∃ h : k < rels.length, nameGe nm rels[k] = true ∧ NoneTo (nameGe nm) rels k
  · obtain ⟨k, hk, h1, h2⟩ := hex
    have e : placeN rels nm = (k : Int) := firstIdx_at hk (fun j hj hjk => h2 j hj hjk) h1
    have hp : posN rels nm = k := by unfold posN; rw [e, if_neg (by omega)]; omega
    rw [hp, e]
    refine ⟨by omega, fun h => by omega, fun _ => ⟨rfl, hk⟩, noneGe h2, fun h hn => ?_⟩
    simp only [nameGe, show Op.bytesLess rels[k].name.toList nm.toList = true from hn] at h1
    cases h1
  · have hn : ∀ k, k ≤ rels.length → NoneTo (nameGe nm) rels k := fun k => by
      induction k with
      | zero => exact fun _ => .zero
      | succ k ih =>
        intro hk
        have h2 := ih (by omega)
        refine h2.succ (by omega) ?_
        cases hp : nameGe nm (rels[k]'(by omega))
        · rfl
        · exact absurd ⟨k, by omega, hp, h2⟩ hex
    have h2 := hn rels.length (Nat.le_refl _)
    have e : placeN rels nm = -1 := h2.none
    have hp : posN rels nm = rels.length := by unfold posN; rw [e, if_pos (by omega)]
    rw [hp, e]
    exact ⟨Nat.le_refl _, fun _ => rfl, fun h => by omega, noneGe h2, fun h => by omega⟩
def withRel (rels : List Namedt) (nw : Namedt) : List Namedt :=
  if h : posN rels nw.name < rels.length ∧ ((rels.getD (posN rels nw.name) noNamed).name == nw.name) = true then rels.set (posN rels nw.name) nw else rels.take (posN rels nw.name) ++ [nw] ++ rels.drop (posN rels nw.name)
theorem withRel_set {rels : List Namedt} {nw : Namedt} (hs : SortedN rels) : withRel rels nw = setRel rels nw := by
  obtain ⟨p1, p2, p3, p4, p5⟩ := placeN_is rels nw.name
  unfold withRel
  split
  · rename_i h
    have e : rels.getD (posN rels nw.name) noNamed = rels[posN rels nw.name] := by simp [List.getD, h.1]
    rw [e] at h
    exact (setRel_rep hs h.1 p4 h.2).symm
  · rename_i h
    refine (setRel_ins hs p1 p4 fun hl => ⟨p5 hl, ?_⟩).symm
    have e : rels.getD (posN rels nw.name) noNamed = rels[posN rels nw.name] := by simp [List.getD, hl]
    rw [e] at h
    cases hb : (rels[posN rels nw.name].name == nw.name)
    · rfl
    · exact absurd ⟨hl, hb⟩ h
end Go.Proofs.YtibhoanjglfaoaaGreat

/- Deltas applied to stores, in plain words: what parts two stores leads from the one to the other. -/
namespace Go.Proofs.YtibhoanjglfaoaaGreat
open Go.RowKit
set_option linter.unusedVariables false

/-- The rows of a relation behind a change. -/
def nextRows (r : Relt) (c : Changet) : List (List Val) := (r.rows.filter fun row => !hasRow c.minus.rows row) ++ c.plus.rows
def nextRel (out : List Namedt) (c : Changet) : Relt × Bool := relOf (namedIn out c.name).1.arity (nextRows (namedIn out c.name).1 c)
def applyTo (rels : List Namedt) : List Changet → List Namedt × Bool
  | [] => (rels, true)
  | c :: cs => if (nextRel rels c).2 = true then applyTo (withRel rels ⟨c.name, (nextRel rels c).1⟩) cs else ([], false)
def deltaApply (s : Storet) (d : Deltat) : Storet × Bool := if deltaFits s d = true then (⟨(applyTo s.rels d.changes).1⟩, (applyTo s.rels d.changes).2) else (⟨[]⟩, false)
theorem deltaApply_no {s : Storet} {d : Deltat} (h : deltaFits s d = false) : deltaApply s d = (⟨[]⟩, false) := by unfold deltaApply; rw [h]; rfl
theorem deltaApply_ok {s : Storet} {d : Deltat} (h : deltaFits s d = true) : deltaApply s d = (⟨(applyTo s.rels d.changes).1⟩, (applyTo s.rels d.changes).2) := if_pos h
/-! ### Two stores of the same names -/
structure Pairs (a b : List Namedt) : Prop where
  len : a.length = b.length
  name : ∀ j (h : j < a.length) (h' : j < b.length), a[j].name = b[j].name
  ar : ∀ j (h : j < a.length) (h' : j < b.length), a[j].rel.arity = b[j].rel.arity
theorem Pairs.symm {a b : List Namedt} (h : Pairs a b) : Pairs b a := ⟨h.len.symm, fun j h1 h2 => (h.name j h2 h1).symm, fun j h1 h2 => (h.ar j h2 h1).symm⟩
theorem deltaOf_is {a b : Storet} (h : (deltaOf a b).2 = true) : storeOk a = true ∧ storeOk b = true ∧ Pairs a.rels b.rels ∧ deltaOf a b = (⟨ofTo a.rels b.rels a.rels.length⟩, true) := by
  unfold deltaOf at h ⊢
  split at h
  · rename_i h1
    rw [if_pos h1]
    simp only [Bool.and_eq_true, decide_eq_true_eq] at h1
    obtain ⟨q1, q2, q3, q4⟩ := h1
    refine ⟨q1, q2, ⟨q3, fun j hj hj' => ?_, fun j hj hj' => ?_⟩, rfl⟩
    all_goals
      have := everyB_get q4 hj
      simp only [pairAt, dif_pos hj', Bool.and_eq_true, decide_eq_true_eq] at this
    · exact name_eq.1 this.1
    · exact this.2
  · cases h
theorem deltaOf_mk {a b : Storet} (h1 : storeOk a = true) (h2 : storeOk b = true) (hp : Pairs a.rels b.rels) : deltaOf a b = (⟨ofTo a.rels b.rels a.rels.length⟩, true) := by
  refine deltaOf_good (k := a.rels.length) h1 h2 (by have := hp.len; omega) (fun j hj _ => ?_) (Nat.le_refl _)
  have hj' : j < b.rels.length := by have := hp.len; omega
  exact pairAt_yes hj hj' (name_eq.2 (hp.name j hj hj')) (hp.ar j hj hj')
theorem ofTo_is {a b : List Namedt} (hp : Pairs a b) : ofTo a b a.length = (List.zipWith ofAt a b).filter someRows := by
  unfold ofTo
  exact filtTo_all (by simp [hp.len])
theorem back_of {x y : Namedt} (hn : x.name = y.name) : backChange (ofAt x y) = ofAt y x := by simp [backChange, ofAt, hn]
theorem some_back (c : Changet) : someRows (backChange c) = someRows c := by simp [someRows, backChange, Nat.add_comm]
theorem backs_of : ∀ {a b : List Namedt}, Pairs a b → ((List.zipWith ofAt a b).filter someRows).map backChange = (List.zipWith ofAt b a).filter someRows
  | [], [], _ => rfl
  | [], _ :: _, h => by have := h.len; simp at this
  | _ :: _, [], h => by have := h.len; simp at this
  | x :: a, y :: b, h => by
    have hn : x.name = y.name := h.name 0 (by simp) (by simp)
    have ih := backs_of (a := a) (b := b) ⟨by simpa using h.len, fun j h1 h2 => h.name (j + 1) (by simpa using h1) (by simpa using h2), fun j h1 h2 => h.ar (j + 1) (by simpa using h1) (by simpa using h2)⟩
    have e : someRows (ofAt y x) = someRows (ofAt x y) := by rw [← back_of hn, some_back]
    simp only [List.zipWith_cons_cons, List.filter_cons, e]
    cases someRows (ofAt x y)
    · exact ih
    · simp only [if_true, List.map_cons, ih, back_of hn]
/-! ### One name after the other -/
theorem nextRows_of {x y : Relt} {n m : ByteArray} (hx : relOk x = true) (hy : relOk y = true) : sortRows (nextRows x (ofAt ⟨n, x⟩ ⟨m, y⟩)) = y.rows := by
  have sx := relOk_sorted hx
  have sy := relOk_sorted hy
  refine sorted_ext (sortRows_sorted fun r hr => ?_) sy fun z => ?_
  · rcases List.mem_append.1 hr with q | q
    · exact sx.vals r (List.mem_filter.1 q).1
    · exact sy.vals r (List.mem_filter.1 q).1
  · rw [sortRows_mem]
    unfold nextRows ofAt
    simp only [List.mem_append, List.mem_filter, hasRow, Bool.not_eq_true', decide_eq_false_iff_not]
    constructor
    · rintro (⟨q1, q2⟩ | ⟨q1, _⟩)
      · exact Classical.byContradiction fun q3 => q2 ⟨q1, q3⟩
      · exact q1
    · intro q
      by_cases h : z ∈ x.rows
      · exact .inl ⟨h, fun q2 => q2.2 q⟩
      · exact .inr ⟨q, h⟩
theorem noRows_of {x y : Namedt} (hx : relOk x.rel = true) (hy : relOk y.rel = true) (hn : x.name = y.name) (har : x.rel.arity = y.rel.arity) (h : someRows (ofAt x y) = false) : x = y := by
  have h : ¬ 0 < (ofAt x y).plus.rows.length + (ofAt x y).minus.rows.length := of_decide_eq_false h
  simp only [ofAt] at h
  have h1 : (y.rel.rows.filter fun r => !hasRow x.rel.rows r) = [] := List.eq_nil_of_length_eq_zero (by omega)
  have h2 : (x.rel.rows.filter fun r => !hasRow y.rel.rows r) = [] := List.eq_nil_of_length_eq_zero (by omega)
  rw [List.filter_eq_nil_iff] at h1 h2
  have e : x.rel.rows = y.rel.rows := sorted_ext (relOk_sorted hx) (relOk_sorted hy) fun z =>
    ⟨fun q => by have := h2 z q; simpa [hasRow] using this, fun q => by have := h1 z q; simpa [hasRow] using this⟩
  obtain ⟨n, p, rows⟩ := x
  obtain ⟨m, q, rows2⟩ := y
  simp only at hn har e
  rw [hn, har, e]
theorem sortedN_like {a m : List Namedt} (hs : SortedN a) (hl : m.length = a.length) (hn : ∀ j (h : j < m.length) (h' : j < a.length), m[j].name = a[j].name) : SortedN m := fun i j hi hj hij => by
  rw [hn i hi (by omega), hn j hj (by omega)]
  exact hs i j (by omega) (by omega) hij
theorem namedIn_idx {l : List Namedt} (hs : SortedN l) {i : Nat} (hi : i < l.length) : namedIn l l[i].name = (l[i].rel, true) := by
  refine namedIn_at hi (fun j hj hji => name_ne.2 fun e => ?_) (name_eq.2 rfl)
  have := hs j i hj hi hji
  rw [e] at this; exact nlt_irr this
theorem withRel_idx {l : List Namedt} (hs : SortedN l) {i : Nat} (hi : i < l.length) {nw : Namedt} (hn : nw.name = l[i].name) : withRel l nw = l.set i nw := by
  rw [withRel_set hs]
  refine setRel_rep hs hi (fun j hj hji => ?_) (name_eq.2 hn.symm)
  rw [hn]; exact hs j i hj hi hji
theorem apply_zip : ∀ (a b p : List Namedt), Pairs a b → (∀ x ∈ a, relOk x.rel = true) → (∀ x ∈ b, relOk x.rel = true) → SortedN (p ++ a) → applyTo (p ++ a) ((List.zipWith ofAt a b).filter someRows) = (p ++ b, true)
  | [], [], p, _, _, _, _ => rfl
  | [], _ :: _, p, h, _, _, _ => by have := h.len; simp at this
  | _ :: _, [], p, h, _, _, _ => by have := h.len; simp at this
  | x :: a, y :: b, p, h, ha, hb, hs => by
    have hn : x.name = y.name := h.name 0 (by simp) (by simp)
    have har : x.rel.arity = y.rel.arity := h.ar 0 (by simp) (by simp)
    have hp : Pairs a b := ⟨by simpa using h.len, fun j h1 h2 => h.name (j + 1) (by simpa using h1) (by simpa using h2), fun j h1 h2 => h.ar (j + 1) (by simpa using h1) (by simpa using h2)⟩
    have hx := ha x (by simp)
    have hy := hb y (by simp)
    have hs2 : SortedN ((p ++ [y]) ++ a) := sortedN_like hs (by simp) fun j h1 h2 => by
      rcases Nat.lt_trichotomy j p.length with q | q | q
      · simp [q]
      · subst q; simp [hn]
      · have q1 : ¬ j < p.length := by omega
        obtain ⟨e, rfl⟩ : ∃ e, j = p.length + 1 + e := ⟨j - (p.length + 1), by omega⟩
        simp [List.getElem_append, show p.length + 1 + e - p.length = e + 1 by omega]
    have ih := apply_zip a b (p ++ [y]) hp (fun z hz => ha z (by simp [hz])) (fun z hz => hb z (by simp [hz])) hs2
    rw [List.append_assoc, List.append_assoc, List.singleton_append, List.singleton_append] at ih
    simp only [List.zipWith_cons_cons, List.filter_cons]
    cases hc : someRows (ofAt x y)
    · have e := noRows_of hx hy hn har hc
      subst e
      exact ih
    · have hi : p.length < (p ++ x :: a).length := by simp
      have hat : (p ++ x :: a)[p.length] = x := by simp
      have e1 : namedIn (p ++ x :: a) (ofAt x y).name = (x.rel, true) := by
        have := namedIn_idx hs hi
        rw [hat] at this; exact this
      have e2 : nextRel (p ++ x :: a) (ofAt x y) = (y.rel, true) := by
        unfold nextRel
        rw [e1]
        have e3 : sortRows (nextRows x.rel (ofAt x y)) = y.rel.rows := nextRows_of (n := x.name) (m := y.name) hx hy
        have := (relOk_small hy).2.2.1
        rw [relOf_ok (by rw [e3]; omega), e3, har]
      have e4 : withRel (p ++ x :: a) ⟨(ofAt x y).name, y.rel⟩ = p ++ y :: a := by
        rw [withRel_idx hs hi (by rw [hat]; rfl)]
        have : (⟨(ofAt x y).name, y.rel⟩ : Namedt) = y := by
          obtain ⟨m, q⟩ := y
          simp only at hn
          show (⟨x.name, q⟩ : Namedt) = _
          rw [hn]
        rw [this]; simp
      simp only [if_true, applyTo, e2, e4]
      exact ih
/-! ### The delta is right, and fits -/
theorem of_two {x y : Namedt} (hx : relOk x.rel = true) (hy : relOk y.rel = true) (har : x.rel.arity = y.rel.arity) : two (ofAt x y).plus (ofAt x y).minus = true := by
  have px := relOk_parts hx
  have py := relOk_parts hy
  have sub : ∀ {r : Relt} {rows : List (List Val)}, relOk r = true → rows.Sublist r.rows → relOk ⟨r.arity, rows⟩ = true := fun {r rows} h hs => by
    have hp := relOk_parts h
    refine relOk_good (k := rows.length) ?_ (Nat.le_refl _) hp.2.1 hp.2.2.1 (Nat.le_trans hs.length_le hp.2.2.2)
    intro j hj hjk
    have hj : j < rows.length := hj
    have srt : Sorted rows := Sorted.of_pw (fun q hq => (relOk_sorted h).vals q (hs.subset hq)) ((relOk_sorted h).pw.sublist hs)
    have hm := hs.subset (List.getElem_mem hj)
    obtain ⟨i, hi, e⟩ := List.getElem_of_mem hm
    have hl : (rows[j].length : Int) = r.arity := by rw [← e]; exact relOk_ar h hi
    have hr : rowOk rows[j] = true := by
      rw [← e]
      exact hp.1.row (by omega) hi
    cases j with
    | zero => exact rowAt_first hj hl hr rfl
    | succ j => exact rowAt_next hj hl hr (by omega) (srt.2 j (j + 1) (by omega) hj (by omega))
  have o1 : relOk (ofAt x y).plus = true := sub hy List.filter_sublist
  have o2 : relOk (ofAt x y).minus = true := sub hx List.filter_sublist
  rw [two_ok o1 o2]
  simp [ofAt, har]
theorem of_apart (x y : Namedt) : apart (ofAt x y).plus (ofAt x y).minus = true := by
  rw [apart_iff]
  refine List.length_eq_zero_iff.2 (List.filter_eq_nil_iff.2 fun z hz => ?_)
  simp only [ofAt, List.mem_filter, hasRow, Bool.not_eq_true', decide_eq_false_iff_not, decide_eq_true_eq] at hz ⊢
  exact fun q => hz.2 q.1
theorem changes_mem {a b : List Namedt} {c : Changet} (h : c ∈ (List.zipWith ofAt a b).filter someRows) : ∃ j, ∃ (h1 : j < a.length) (h2 : j < b.length), c = ofAt a[j] b[j] ∧ someRows c = true := by
  obtain ⟨h1, h2⟩ := List.mem_filter.1 h
  obtain ⟨j, hj, e⟩ := List.getElem_of_mem h1
  have hj2 := hj
  rw [List.length_zipWith] at hj2
  rw [List.getElem_zipWith] at e
  exact ⟨j, by omega, by omega, e.symm, h2⟩
theorem changes_sorted {a b : List Namedt} (hs : SortedN a) : ((List.zipWith ofAt a b).filter someRows).Pairwise fun c c' => nlt c.name c'.name := by
  refine List.Pairwise.filter _ (List.pairwise_iff_getElem.2 fun i j hi hj hij => ?_)
  rw [List.getElem_zipWith, List.getElem_zipWith]
  rw [List.length_zipWith] at hi hj
  exact hs i j (by omega) (by omega) hij
theorem delta_right {a b : Storet} (h : (deltaOf a b).2 = true) : deltaOk (deltaOf a b).1 = true := by
  obtain ⟨oa, ob, hp, e⟩ := deltaOf_is h
  rw [e]
  have hz := ofTo_is hp
  rw [hz]
  have hs := changes_sorted (b := b.rels) (storeOk_names oa)
  refine deltaOk_good (k := ((List.zipWith ofAt a.rels b.rels).filter someRows).length) (fun k hk _ => ?_) (Nat.le_refl _) ?_
  · have hk : k < ((List.zipWith ofAt a.rels b.rels).filter someRows).length := hk
    obtain ⟨j, h1, h2, e1, e2⟩ := changes_mem (List.getElem_mem hk)
    have ox := storeOk_rel oa h1
    have oy := storeOk_rel ob h2
    refine changeAt_good hk ?_ (fun h0 => ?_) ?_ ?_ ?_
    · show wordB (((List.zipWith ofAt a.rels b.rels).filter someRows)[k]).name = true
      rw [e1]
      have hw := oa
      simp only [storeOk, Bool.and_eq_true] at hw
      have := everyB_get hw.1 h1
      simp only [namedAt, Bool.and_eq_true] at this
      exact this.1
    · exact List.pairwise_iff_getElem.1 hs (k - 1) k (by omega) hk (by omega)
    · show two (((List.zipWith ofAt a.rels b.rels).filter someRows)[k]).plus (((List.zipWith ofAt a.rels b.rels).filter someRows)[k]).minus = true
      rw [e1]; exact of_two ox oy (hp.ar j h1 h2)
    · simp only [someRows, decide_eq_true_eq] at e2
      show ¬ ((((List.zipWith ofAt a.rels b.rels).filter someRows)[k]).plus.rows.length : Int) + (((List.zipWith ofAt a.rels b.rels).filter someRows)[k]).minus.rows.length = 0
      omega
    · show apart (((List.zipWith ofAt a.rels b.rels).filter someRows)[k]).plus (((List.zipWith ofAt a.rels b.rels).filter someRows)[k]).minus = true
      rw [e1]; exact of_apart _ _
  · have h1 := storeOk_max oa
    have h2 : ((List.zipWith ofAt a.rels b.rels).filter someRows).length ≤ (List.zipWith ofAt a.rels b.rels).length := List.length_filter_le _ _
    rw [List.length_zipWith] at h2
    show ((List.zipWith ofAt a.rels b.rels).filter someRows).length ≤ 24
    omega
theorem delta_fits {a b : Storet} (h : (deltaOf a b).2 = true) : deltaFits a (deltaOf a b).1 = true := by
  obtain ⟨oa, ob, hp, e⟩ := deltaOf_is h
  have hd := delta_right h
  rw [e] at hd ⊢
  rw [ofTo_is hp] at hd ⊢
  refine fits_good (k := ((List.zipWith ofAt a.rels b.rels).filter someRows).length) oa hd (fun k hk _ => ?_) (Nat.le_refl _)
  have hk : k < ((List.zipWith ofAt a.rels b.rels).filter someRows).length := hk
  obtain ⟨j, h1, h2, e1, e2⟩ := changes_mem (List.getElem_mem hk)
  have en : namedIn a.rels (ofAt a.rels[j] b.rels[j]).name = (a.rels[j].rel, true) := namedIn_idx (storeOk_names oa) h1
  have e0 : (namedIn a.rels (((List.zipWith ofAt a.rels b.rels).filter someRows)[k]).name) = (a.rels[j].rel, true) := by rw [e1]; exact en
  refine fitAt_yes hk ?_ ?_ ?_ ?_
  · show (namedIn a.rels (((List.zipWith ofAt a.rels b.rels).filter someRows)[k]).name).2 = true
    rw [e0]
  · show (namedIn a.rels (((List.zipWith ofAt a.rels b.rels).filter someRows)[k]).name).1.arity = (((List.zipWith ofAt a.rels b.rels).filter someRows)[k]).plus.arity
    rw [e0, e1]; exact hp.ar j h1 h2
  · show apart (namedIn a.rels (((List.zipWith ofAt a.rels b.rels).filter someRows)[k]).name).1 (((List.zipWith ofAt a.rels b.rels).filter someRows)[k]).plus = true
    rw [e0, e1, apart_iff]
    refine List.length_eq_zero_iff.2 (List.filter_eq_nil_iff.2 fun z hz => ?_)
    simp only [ofAt, List.mem_filter, hasRow, Bool.not_eq_true', decide_eq_false_iff_not, decide_eq_true_eq]
    exact fun q => q.2 hz
  · show ((((List.zipWith ofAt a.rels b.rels).filter someRows)[k]).minus.rows.filter fun row => !hasRow (namedIn a.rels (((List.zipWith ofAt a.rels b.rels).filter someRows)[k]).name).1.rows row).length = 0
    rw [e0, e1]
    refine List.length_eq_zero_iff.2 (List.filter_eq_nil_iff.2 fun z hz => ?_)
    simp only [ofAt, List.mem_filter, hasRow] at hz ⊢
    simp [hz.1]
/-- What parts two stores, applied. -/
theorem delta_there {a b : Storet} (h : (deltaOf a b).2 = true) : deltaApply a (deltaOf a b).1 = (b, true) := by
  obtain ⟨oa, ob, hp, e⟩ := deltaOf_is h
  rw [deltaApply_ok (delta_fits h), e]
  have hz : applyTo a.rels (ofTo a.rels b.rels a.rels.length) = (b.rels, true) := by
    rw [ofTo_is hp]
    have := apply_zip a.rels b.rels [] hp (fun x hx => by
      obtain ⟨j, hj, rfl⟩ := List.getElem_of_mem hx
      exact storeOk_rel oa hj) (fun x hx => by
      obtain ⟨j, hj, rfl⟩ := List.getElem_of_mem hx
      exact storeOk_rel ob hj) (storeOk_names oa)
    exact this
  show ((⟨(applyTo a.rels (ofTo a.rels b.rels a.rels.length)).1⟩ : Storet), _) = _
  rw [hz]
/-- .. and undone. -/
theorem delta_home {a b : Storet} (h : (deltaOf a b).2 = true) : deltaApply b (deltaBack (deltaOf a b).1) = (a, true) := by
  obtain ⟨oa, ob, hp, e⟩ := deltaOf_is h
  have hb := deltaOf_mk ob oa hp.symm
  have e2 : deltaBack (deltaOf a b).1 = (deltaOf b a).1 := by
    rw [deltaBack_ok (delta_right h), e, hb]
    show (⟨(ofTo a.rels b.rels a.rels.length).map backChange⟩ : Deltat) = ⟨ofTo b.rels a.rels b.rels.length⟩
    rw [ofTo_is hp, ofTo_is hp.symm, backs_of hp]
  rw [e2]
  exact delta_there (by rw [hb])
theorem delta_not {a b : Storet} (h : (deltaOf a b).2 = false) : (deltaOf a b).1.changes = [] := by
  unfold deltaOf at *
  split
  · rename_i h1; rw [if_pos h1] at h; cases h
  · rfl
end Go.Proofs.YtibhoanjglfaoaaGreat

/- What the relations of a store have while changes are applied. -/
namespace Go.Proofs.YtibhoanjglfaoaaGreat
open Go.RowKit
set_option linter.unusedVariables false

def apQ (y : Namedt) : Prop := y.name.size ≤ 1048576 ∧ y.rel.rows.length ≤ 300 ∧ (∀ row ∈ y.rel.rows, smallRow row) ∧ ∀ row ∈ y.rel.rows, ∀ v ∈ row, valOk v = true
section
variable {s : Storet} {d : Deltat} {out : List Namedt} {k : Nat}
theorem fits_store (h : deltaFits s d = true) : storeOk s = true := by
  simp only [deltaFits, Bool.and_eq_true] at h; exact h.1
theorem fits_delta (h : deltaFits s d = true) : deltaOk d = true := by
  simp only [deltaFits, Bool.and_eq_true] at h; exact h.2.1
theorem fits_max (h : deltaFits s d = true) : d.changes.length ≤ 24 := by
  have := fits_delta h
  simp only [deltaOk, Bool.and_eq_true, decide_eq_true_eq] at this
  exact this.2
theorem apQ_start (hs : smallStore s) (ok : storeOk s = true) : ∀ y ∈ s.rels, apQ y := fun y hy => by
  obtain ⟨j, hj, rfl⟩ := List.getElem_of_mem hy
  have hr := storeOk_rel ok hj
  have hm := hs.2 _ (List.getElem_mem hj)
  exact ⟨hm.1, (relOk_parts hr).2.2.2, hm.2.2, relOk_vals2 hr⟩
theorem apply_in (hq : ∀ y ∈ out, apQ y) (n : ByteArray) : (namedIn out n).1.rows.length ≤ 300 ∧ (∀ row ∈ (namedIn out n).1.rows, smallRow row) ∧ ∀ row ∈ (namedIn out n).1.rows, ∀ v ∈ row, valOk v = true := by
  cases h : (namedIn out n).2
  · rw [namedIn_miss h]
    exact ⟨Nat.zero_le _, fun r hr => (by cases hr), fun r hr => (by cases hr)⟩
  · obtain ⟨x, hx, e⟩ := namedIn_mem h
    rw [e]
    exact (hq x hx).2
theorem apply_store (hq : ∀ y ∈ out, apQ y) (hl : out.length ≤ 1048576) : smallStore ⟨out⟩ := ⟨hl, fun y hy => ⟨(hq y hy).1, ⟨Nat.le_trans (hq y hy).2.1 (by decide), (hq y hy).2.2.1⟩⟩⟩
theorem apply_r (hq : ∀ y ∈ out, apQ y) {n : ByteArray} : smallRel (namedIn out n).1 := ⟨Nat.le_trans (apply_in hq n).1 (by decide), (apply_in hq n).2.1⟩
theorem apply_rv (hq : ∀ y ∈ out, apQ y) {n : ByteArray} : ∀ r ∈ (namedIn out n).1.rows, ∀ v ∈ r, valOk v = true := (apply_in hq n).2.2
theorem apply_c (hf : deltaFits s d = true) (hk : k < d.changes.length) : relOk d.changes[k].plus = true ∧ relOk d.changes[k].minus = true := by
  have := deltaOk_two (fits_delta hf) hk
  exact ⟨two_left this, two_right this⟩
theorem apply_m (hf : deltaFits s d = true) (hk : k < d.changes.length) : d.changes[k].minus.rows.length ≤ 1048576 ∧ Sorted d.changes[k].minus.rows :=
  ⟨Nat.le_trans (relOk_parts (apply_c hf hk).2).2.2.2 (by decide), relOk_sorted (apply_c hf hk).2⟩
theorem apply_two (hq : ∀ y ∈ out, apQ y) (hf : deltaFits s d = true) (hk : k < d.changes.length) : (nextRows (namedIn out d.changes[k].name).1 d.changes[k]).length ≤ 600 := by
  have h1 := (apply_in hq d.changes[k].name).1
  have h2 := (relOk_parts (apply_c hf hk).1).2.2.2
  have h3 := List.length_filter_le (fun row => !hasRow d.changes[k].minus.rows row) (namedIn out d.changes[k].name).1.rows
  unfold nextRows
  rw [List.length_append]; omega
theorem flat_two {a b : List (List Val)} : [a, b].flatten = a ++ b := by simp
theorem apply_len (hq : ∀ y ∈ out, apQ y) (hf : deltaFits s d = true) (hk : k < d.changes.length) : [((namedIn out d.changes[k].name).1.rows.filter fun row => !hasRow d.changes[k].minus.rows row), d.changes[k].plus.rows].flatten.length ≤ 2097152 := by
  rw [flat_two]
  have := apply_two hq hf hk
  unfold nextRows at this
  omega
theorem apply_vals (hq : ∀ y ∈ out, apQ y) (hf : deltaFits s d = true) (hk : k < d.changes.length) : ValsOk (nextRows (namedIn out d.changes[k].name).1 d.changes[k]) := fun r hr => by
  rcases List.mem_append.1 hr with q | q
  · exact apply_rv hq r (List.mem_filter.1 q).1
  · exact relOk_vals2 (apply_c hf hk).1 r q
theorem apply_rows (hq : ∀ y ∈ out, apQ y) (hf : deltaFits s d = true) (hd : smallDelta d) (hk : k < d.changes.length) : ∀ r ∈ nextRows (namedIn out d.changes[k].name).1 d.changes[k], smallRow r := fun r hr => by
  rcases List.mem_append.1 hr with q | q
  · exact (apply_in hq _).2.1 r (List.mem_filter.1 q).1
  · exact (hd.2 _ (List.getElem_mem hk)).2.1.2 r q
theorem apply_small (hq : ∀ y ∈ out, apQ y) (hf : deltaFits s d = true) (hd : smallDelta d) (hk : k < d.changes.length) {ar : Int} : smallRel ⟨ar, nextRows (namedIn out d.changes[k].name).1 d.changes[k]⟩ :=
  ⟨by have := apply_two hq hf hk; show (nextRows _ _).length ≤ _; omega, apply_rows hq hf hd hk⟩
theorem apQ_next (hq : ∀ y ∈ out, apQ y) (hf : deltaFits s d = true) (hd : smallDelta d) (hk : k < d.changes.length) (h : (nextRel out d.changes[k]).2 = true) : apQ ⟨d.changes[k].name, (nextRel out d.changes[k]).1⟩ := by
  obtain ⟨e, hl⟩ := relOf_true h
  have hr : (nextRel out d.changes[k]).1 = ⟨(namedIn out d.changes[k].name).1.arity, sortRows (nextRows (namedIn out d.changes[k].name).1 d.changes[k])⟩ := congrArg Prod.fst e
  rw [hr]
  exact ⟨(hd.2 _ (List.getElem_mem hk)).1, hl, fun r hr => apply_rows hq hf hd hk r (sortRows_mem.1 hr), fun r hr => apply_vals hq hf hk r (sortRows_mem.1 hr)⟩
theorem withRel_all {p : Namedt → Prop} {nw : Namedt} (h1 : p nw) (h2 : ∀ y ∈ out, p y) : ∀ y ∈ withRel out nw, p y := fun y hy => by
  unfold withRel at hy
  split at hy
  · rcases List.mem_or_eq_of_mem_set hy with q | q
    · exact h2 y q
    · rw [q]; exact h1
  · rcases List.mem_append.1 hy with q | q
    · rcases List.mem_append.1 q with q | q
      · exact h2 y (List.mem_of_mem_take q)
      · rw [List.mem_singleton.1 q]; exact h1
    · exact h2 y (List.mem_of_mem_drop q)
theorem withRel_len {nw : Namedt} : (withRel out nw).length ≤ out.length + 1 := by
  unfold withRel
  split
  · simp
  · simp; omega
end
theorem deltaOf_sm {a b : Storet} (ha : smallStore a) (hb : smallStore b) : smallDelta (deltaOf a b).1 := by
  unfold deltaOf; split
  · refine ⟨Nat.le_trans ofTo_len ha.1, fun c hc => ?_⟩
    unfold ofTo filtTo at hc
    have hc := List.mem_of_mem_take (List.mem_filter.1 hc).1
    obtain ⟨j, hj, rfl⟩ := List.getElem_of_mem hc
    rw [List.getElem_zipWith]
    rw [List.length_zipWith] at hj
    exact ofAt_small (ha.2 _ (List.getElem_mem (l := a.rels) (n := j) (by omega))) (hb.2 _ (List.getElem_mem (l := b.rels) (n := j) (by omega)))
  · exact ⟨Nat.zero_le _, fun c hc => (by cases hc)⟩
theorem deltaBack_sm {d : Deltat} (h : smallDelta d) : smallDelta (deltaBack d) := by
  unfold deltaBack; split
  · refine ⟨by simpa using h.1, fun c hc => ?_⟩
    obtain ⟨q, hq, rfl⟩ := List.mem_map.1 hc
    have := h.2 q hq
    exact ⟨this.1, this.2.2, this.2.1⟩
  · exact ⟨Nat.zero_le _, fun c hc => (by cases hc)⟩
end Go.Proofs.YtibhoanjglfaoaaGreat

/- DeltaApply (printed by walk.py) -/
namespace Go.Proofs.YtibhoanjglfaoaaGreat
open Go.RowKit
set_option linter.unusedVariables false
set_option linter.unusedSimpArgs false
set_option maxRecDepth 100000

set_option maxHeartbeats 4000000 in
theorem cloneNF_c0 (r : List Namedt) (hl : r.length ≤ 1048576) : AC Tryz.prog 89 [.one (.sl namedE r)] [] (.one (.own 0)) [(0, some (.arr 84 namedE r false))] := by
  refine AC_body1 Tryz.func89 rfl rfl Tryz.ntmps89 rfl Tryz.results89 ?_
  refine AW_split 0 rfl (fun hx => ?_) ?_
  · subst hx
    refine AW_seq ?_
    refine AW_region ?_
    refine AL_p (x_assign rfl rfl) ?_
    refine AL_nil ?_
    refine AW_seq ?_
    refine AW_seq ?_
    refine AW_region ?_
    refine AL_p (x_move rfl rfl) ?_
    refine AL_p (x_nilnil rfl rfl rfl (E := 84) (n := 3) (by kernel_rfl)) ?_
    refine AL_nil ?_
    refine AW_condT rfl ?_
    refine AW_seq ?_
    refine AW_region ?_
    refine AL_p (x_assign rfl rfl) ?_
    refine AL_nil ?_
    refine AW_adoptT (T := 84) (e := namedE) 100 2 rfl rfl rfl ?_
    refine AW_shallow 100 rfl ?_
    refine AW_ret ?_
    exact ⟨rn [(0, 100)], ⟨⟨⟨_, rfl, VLe.rf⟩, trivial⟩, ⟨⟨_, rfl, BLe.rf⟩, trivial⟩, trivial, rfl⟩⟩
  · refine AW_seq ?_
    refine AW_region ?_
    refine AL_p (x_assign rfl rfl) ?_
    refine AL_nil ?_
    refine AW_seq ?_
    refine AW_seq ?_
    refine AW_region ?_
    refine AL_p (x_move rfl rfl) ?_
    refine AL_p (x_snnil rfl rfl rfl (E := 84) (n := 3) (by kernel_rfl)) ?_
    refine AL_nil ?_
    refine AW_condF rfl ?_
    refine AW_skip ?_
    refine AW_seq ?_
    refine AW_region ?_
    refine AL_p (y_bslice0 (E := 84) (e := namedE) 101 rfl rfl rfl (by kernel_rfl)) ?_
    refine AL_p (x_move_sn rfl rfl) ?_
    refine AL_p (y_append_sl 102 false (.inl rfl) rfl rfl rfl rfl rfl rfl (by kernel_rfl) (by simp; omega)) ?_
    refine AL_p (x_assign rfl rfl) ?_
    refine AL_nil ?_
    refine AW_shallow 102 rfl ?_
    refine AW_ret ?_
    exact ⟨rn [(0, 102)], ⟨⟨⟨_, rfl, VLe.rf⟩, trivial⟩, ⟨⟨_, rfl, BLe.rf⟩, trivial⟩, trivial, rfl⟩⟩
theorem cloneNF_c (r : List Namedt) (hl : r.length ≤ 1048576) (k : Nat) : AC Tryz.prog 89 [.one (.sl namedE r)] [] (.one (.own k)) [(k, some (.arr 84 namedE r false))] := AC.at (cloneNF_c0 r hl) k

set_option maxHeartbeats 4000000 in
theorem geN_c (x : Namedt) (nm : ByteArray) : AC Tryz.prog 91 [.agg (namedC x), .one (.ptr 200 0)] [(200, some (.box [.c (.string nm)]))] (.one (.c (.bool (nameGe nm x)))) [(200, some (.box [.c (.string nm)]))] := by
  refine AC_body1 Tryz.func91 rfl rfl Tryz.ntmps91 rfl Tryz.results91 ?_
  refine AW_seq ?_
  refine AW_region ?_
  refine AL_p (x_box 100 rfl rfl rfl rfl rfl rfl rfl) ?_
  refine AL_p (x_assign rfl rfl) ?_
  refine AL_nil ?_
  refine AW_seq ?_
  refine AW_region ?_
  refine AL_p (x_field (off := 0) (o' := 0) rfl rfl rfl (by kernel_rfl) rfl) ?_
  refine AL_p (x_load1 rfl rfl rfl (by kernel_rfl) rfl) ?_
  refine AL_p (x_load1 rfl rfl rfl (by kernel_rfl) rfl) ?_
  refine AL_b (x_sgeq rfl rfl rfl) (fun b7 h7 => ?_)
  refine AL_p (x_assign rfl rfl) ?_
  refine AL_nil ?_
  refine AW_ret ?_
  cases b7
  rotate_left
  · try simp only [tdy] at h7
    exact ⟨rn [], ⟨⟨⟨_, rfl, vle_bool (by unfold nameGe; rw [h7]; rfl)⟩, trivial⟩, ⟨⟨_, rfl, BLe.rf⟩, trivial⟩, by repeat (first | exact trivial | refine ⟨⟨rfl, by first | (left; intro h; cases h) | (right; rfl), by first | exact (fun _ h => ⟨_, h⟩) | exact (fun _ _ => ⟨_, rfl⟩)⟩, ?_⟩), rfl⟩⟩
  try simp only [tdy] at h7
  exact ⟨rn [], ⟨⟨⟨_, rfl, vle_bool (by unfold nameGe; rw [h7]; rfl)⟩, trivial⟩, ⟨⟨_, rfl, BLe.rf⟩, trivial⟩, by repeat (first | exact trivial | refine ⟨⟨rfl, by first | (left; intro h; cases h) | (right; rfl), by first | exact (fun _ h => ⟨_, h⟩) | exact (fun _ _ => ⟨_, rfl⟩)⟩, ?_⟩), rfl⟩⟩

set_option maxHeartbeats 4000000 in
theorem idxNF_c (rels : List Namedt) (nm : ByteArray) (hl : rels.length ≤ 1048576) : AC Tryz.prog 90 [.one (.own 300), .one (.clo 91 [200])] [(300, some (.arr 84 namedE rels false)), (200, some (.box [.c (.string nm)]))] (.one (.c (.int .i64 (placeN rels nm)))) [(300, some (.arr 84 namedE rels false)), (200, some (.box [.c (.string nm)]))] := by
  refine AC_body1 Tryz.func90 rfl rfl Tryz.ntmps90 rfl Tryz.results90 ?_
  refine AW_seq ?_
  refine AW_region ?_
  refine AL_p (x_assign rfl rfl) ?_
  refine AL_nil ?_
  refine AW_seq ?_
  refine AW_seq ?_
  refine AW_region ?_
  refine AL_p (x_move rfl rfl) ?_
  refine AL_p (x_olen (E := 84) (n := 3) rfl rfl rfl (by kernel_rfl)) ?_
  refine AL_p (x_move rfl rfl) ?_
  refine AL_nil ?_
  refine AW_block ?_
  refine AW_loop2 (ι := {q : Nat // q ≤ rels.length ∧ NoneTo (nameGe nm) rels q}) (fun p => [(8, .one (.c (.int .i64 ((p.1) : Int))))]) (fun p => []) [0, 1, 7] [200, 300] (fun p => rels.length - (p.1)) ⟨0, ⟨by omega, .zero⟩⟩ (rn []) ?_ ?_
  exact ⟨by (repeat refine ⟨⟨_, rfl, by first | exact VLe.rf | exact vle_int (by dsimp only; omega)⟩, ?_⟩); exact trivial, by (repeat refine ⟨⟨_, rfl, by first | exact BLe.rf | exact BLe.box AllC.rf | exact BLe.arr (by exact rfl)⟩, ?_⟩); exact trivial, by repeat (first | exact trivial | refine ⟨⟨rfl, by first | (left; intro h; cases h) | (right; rfl), by first | exact (fun _ h => ⟨_, h⟩) | exact (fun _ _ => ⟨_, rfl⟩)⟩, ?_⟩), rfl⟩
  rintro ⟨k, hinv⟩
  dsimp only
  obtain ⟨hk, hn⟩ := hinv
  have hk : k ≤ rels.length := hk
  refine AW_seq ?_
  refine AW_region ?_
  refine AL_b (x_lss rfl rfl rfl) (fun b9 h9 => ?_)
  refine AL_nil ?_
  refine AW_seq ?_
  cases b9
  · try simp only [tdy] at h9
    obtain rfl : k = rels.length := by omega
    have hno : placeN rels nm = -1 := hn.none
    refine AW_condF rfl ?_
    refine AW_exit (BQ_hit ?_)
    refine AW_seq ?_
    refine AW_region ?_
    refine AL_p (x_assign rfl rfl) ?_
    refine AL_nil ?_
    refine AW_ret ?_
    exact ⟨rn [], ⟨⟨⟨_, rfl, vle_int (by rw [hno])⟩, trivial⟩, ⟨⟨_, rfl, BLe.rf⟩, ⟨_, rfl, BLe.rf⟩, trivial⟩, by repeat (first | exact trivial | refine ⟨⟨rfl, by first | (left; intro h; cases h) | (right; rfl), by first | exact (fun _ h => ⟨_, h⟩) | exact (fun _ _ => ⟨_, rfl⟩)⟩, ?_⟩), rfl⟩⟩
  try simp only [tdy] at h9
  refine AW_condT rfl ?_
  refine AW_skip ?_
  refine AW_seq ?_
  refine AW_block ?_
  refine AW_seq ?_
  refine AW_region ?_
  refine AL_p (x_move rfl rfl) ?_
  refine AL_p (x_assign rfl rfl) ?_
  refine AL_nil ?_
  refine AW_seq ?_
  refine AW_region ?_
  refine AL_p (x_move rfl rfl) ?_
  refine AL_p (x_move rfl rfl) ?_
  refine AL_p (x_move rfl rfl) ?_
  refine AL_p (x_oindex (n := 3) rfl rfl rfl rfl (by kernel_rfl) rfl (k := k) rfl (by omega)) ?_
  refine AL_p (x_oloadN (n := 3) rfl rfl rfl (by kernel_rfl) (by omega) rfl rfl) ?_
  refine AL_bc (x_call (ks := [200]) (L := [(200, some (.box [.c (.string nm)]))]) (L' := [(200, some (.box [.c (.string nm)]))]) rfl rfl rfl (geN_c (rels[k]'(by omega)) nm) rfl AllV.rf (caught_of rfl) rfl rfl rfl (by repeat (first | exact trivial | refine ⟨rfl, ?_⟩)) rfl) (fun b16 h16 => ?_)
  refine AL_nil ?_
  cases b16
  · try simp only [tdy] at h16
    refine AW_condF rfl ?_
    refine AW_skip ?_
    refine AW_region ?_
    refine AL_p (x_add rfl rfl rfl (IntWalk.i64_in _ (by omega))) ?_
    refine AL_p (x_move rfl rfl) ?_
    refine AL_nil ?_
    refine ⟨⟨k + 1, ⟨by omega, hn.succ (by omega) h16⟩⟩, rn [], ?_, by dsimp only; omega⟩
    exact ⟨by (repeat refine ⟨⟨_, rfl, by first | exact VLe.rf | exact vle_int (by dsimp only; omega)⟩, ?_⟩); exact trivial, by (repeat refine ⟨⟨_, rfl, by first | exact BLe.rf | exact BLe.box AllC.rf | exact BLe.arr (by exact rfl)⟩, ?_⟩); exact trivial, by repeat (first | exact trivial | refine ⟨⟨rfl, by first | (left; intro h; cases h) | (right; rfl), by first | exact (fun _ h => ⟨_, h⟩) | exact (fun _ _ => ⟨_, rfl⟩)⟩, ?_⟩), rfl⟩
  try simp only [tdy] at h16
  have hno : placeN rels nm = (k : Int) := firstIdx_at (by omega) (fun j hj hjk => hn j hj hjk) h16
  refine AW_condT rfl ?_
  refine AW_seq ?_
  refine AW_region ?_
  refine AL_p (x_move rfl rfl) ?_
  refine AL_p (x_assign rfl rfl) ?_
  refine AL_nil ?_
  refine AW_ret (BQ_ret (BQ_ret ?_))
  exact ⟨rn [], ⟨⟨⟨_, rfl, vle_int (by rw [hno])⟩, trivial⟩, ⟨⟨_, rfl, BLe.rf⟩, ⟨_, rfl, BLe.rf⟩, trivial⟩, by repeat (first | exact trivial | refine ⟨⟨rfl, by first | (left; intro h; cases h) | (right; rfl), by first | exact (fun _ h => ⟨_, h⟩) | exact (fun _ _ => ⟨_, rfl⟩)⟩, ?_⟩), rfl⟩⟩

set_option maxHeartbeats 4000000 in
theorem withF_c (rels : List Namedt) (nm : ByteArray) (r : Relt) (hs : rels.length ≤ 100000) : AC Tryz.prog 44 [.agg [.sl namedE rels], .one (.c (.string nm)), .agg (relC r)] [] (.agg [.sl namedE (withRel rels (⟨nm, r⟩ : Namedt))]) [] := by
  obtain ⟨p1, p2, p3, p4, p5⟩ := placeN_is rels nm
  refine AC_bodyC (n := 1) (k := 9) (T := [(6, .one (.ptr 9 0))]) (Lf := ((9, some (.box [.sl namedE (withRel rels (⟨nm, r⟩ : Namedt))])) :: [])) Tryz.func44 rfl rfl Tryz.ntmps44 rfl Tryz.results44 rfl rfl (by kernel_rfl) rfl rfl ⟨trivial, (by repeat (first | exact trivial | refine ⟨⟨_, rfl, BLe.rf⟩, ?_⟩)), (by repeat (first | exact trivial | refine ⟨⟨rfl, by first | (left; intro h; cases h) | (right; rfl), by first | exact (fun _ h => ⟨_, h⟩) | exact (fun _ _ => ⟨_, rfl⟩)⟩, ?_⟩)), rfl⟩ ?_
  refine AW_seq ?_
  refine AW_region ?_
  refine AL_p (x_box 100 rfl rfl rfl rfl rfl rfl rfl) ?_
  refine AL_p (x_box 200 rfl rfl rfl rfl rfl rfl rfl) ?_
  refine AL_p (x_box 101 rfl rfl rfl rfl rfl rfl rfl) ?_
  refine AL_p (x_alloc (z := .agg #[.slice none 0 0]) 102 rfl (by kernel_rfl) rfl rfl rfl rfl) ?_
  refine AL_nil ?_
  refine AW_seq ?_
  refine AW_region ?_
  refine AL_p (x_field (off := 0) (o' := 0) rfl rfl rfl (by kernel_rfl) rfl) ?_
  refine AL_p (x_load1 rfl rfl rfl (by kernel_rfl) rfl) ?_
  refine AL_p (x_call1 rfl rfl rfl (cloneNF_c rels (by omega) 300) rfl rfl rfl rfl) ?_
  refine AL_p (x_build (zs := [.slice none 0 0]) (places := [(0, 1)]) rfl (by kernel_rfl) rfl rfl rfl rfl rfl) ?_
  refine AL_p (x_store (n := 1) rfl rfl rfl rfl (by kernel_rfl) rfl rfl rfl) ?_
  refine AL_nil ?_
  refine AW_seq ?_
  refine AW_region ?_
  refine AL_p (x_field (off := 0) (o' := 0) rfl rfl rfl (by kernel_rfl) rfl) ?_
  refine AL_p (x_load1 rfl rfl rfl (by kernel_rfl) rfl) ?_
  refine AL_p (x_makeFunc (ks := [200]) rfl rfl) ?_
  refine AL_p (x_call (ks := []) (L := [(300, some (.arr 84 namedE rels false)), (200, some (.box [.c (.string nm)]))]) (L' := [(300, some (.arr 84 namedE rels false)), (200, some (.box [.c (.string nm)]))]) rfl rfl rfl (idxNF_c rels nm (by omega)) rfl AllV.rf (caught_of rfl) rfl rfl rfl ⟨rfl, rfl, trivial⟩ rfl) ?_
  refine AL_p (x_assign rfl rfl) ?_
  refine AL_nil ?_
  refine AW_seq ?_
  refine AW_seq ?_
  refine AW_region ?_
  refine AL_p (x_move rfl rfl) ?_
  refine AL_b (x_lss rfl rfl rfl) (fun b17 h17 => ?_)
  refine AL_nil ?_
  cases b17
  · try simp only [tdy] at h17
    have hpe := (p3 (by omega)).1
    refine AW_condF rfl ?_
    refine AW_skip ?_
    refine AW_seq ?_
    refine AW_seq ?_
    refine AW_slot (t := 7) (y := .one (.c (.int .i64 ((posN rels nm) : Int)))) rfl (by rw [hpe]) ?_
    refine AW_draw rfl ?_
    refine AL_p (x_move rfl rfl) ?_
    refine AL_p (x_field (off := 0) (o' := 0) rfl rfl rfl (by kernel_rfl) rfl) ?_
    refine AL_p (x_load1 rfl rfl rfl (by kernel_rfl) rfl) ?_
    refine AL_p (x_olen (E := 84) (n := 3) rfl rfl rfl (by kernel_rfl)) ?_
    refine AL_b (x_lss rfl rfl rfl) (fun b25 h25 => ?_)
    refine AL_p (x_move rfl rfl) ?_
    cases b25
    · try simp only [tdy] at h25
      have hno : withRel rels (⟨nm, r⟩ : Namedt) = rels.take (posN rels nm) ++ [(⟨nm, r⟩ : Namedt)] ++ rels.drop (posN rels nm) := dif_neg (fun h => by have := h.1; dsimp only at this; omega)
      refine AL_o rfl rfl rfl rfl ?_
      refine AL_o rfl rfl rfl rfl ?_
      refine AL_o rfl rfl rfl rfl ?_
      refine AL_o rfl rfl rfl rfl ?_
      refine AL_o rfl rfl rfl rfl ?_
      refine AL_o rfl rfl rfl rfl ?_
      refine AL_o rfl rfl rfl rfl ?_
      refine AL_o rfl rfl rfl rfl ?_
      refine AL_p (x_pickF rfl rfl rfl) ?_
      refine AL_nild (by kernel_rfl) ?_
      refine AW_condF rfl ?_
      refine AW_region ?_
      refine AL_p (x_field (off := 0) (o' := 0) rfl rfl rfl (by kernel_rfl) rfl) ?_
      refine AL_p (x_load1 rfl rfl rfl (by kernel_rfl) rfl) ?_
      refine AL_p (x_move rfl rfl) ?_
      refine AL_p (x_load1 rfl rfl rfl (by kernel_rfl) rfl) ?_
      refine AL_p (x_loadN (n := 2) rfl rfl rfl (by kernel_rfl) rfl rfl) ?_
      refine AL_p (x_build (zs := [.string ⟨#[]⟩, .int .i64 0, .slice none 0 0]) (places := [(0, 1), (1, 2)]) rfl (by kernel_rfl) rfl rfl rfl rfl rfl) ?_
      refine AL_p (y_bslice (E := 84) (e := namedE) [.tmp 47] ([(⟨nm, r⟩ : Namedt)]) 103 rfl rfl rfl rfl rfl rfl rfl rfl FitL.rf rfl rfl rfl rfl rfl rfl (by kernel_rfl)) ?_
      refine AL_p (x_call (ks := []) (L := [(300, some _), (103, some _)]) (L' := [(300, none), (103, none), (104, some _)]) rfl rfl rfl (AT.lend2 (insNamed_t rfl (i := (posN rels nm)) (zs := [(⟨nm, r⟩ : Namedt)]) (by omega) (by simp) (by simp) (by omega)) 300 103 104 rfl rfl rfl (fun _ => rfl)) rfl AllV.rf (caught_of rfl) rfl rfl rfl ⟨rfl, rfl, trivial⟩ rfl) ?_
      refine AL_p (x_field (off := 0) (o' := 0) rfl rfl rfl (by kernel_rfl) rfl) ?_
      refine AL_p (x_store (n := 1) rfl rfl rfl rfl (by kernel_rfl) rfl rfl rfl) ?_
      refine AL_nil ?_
      refine AW_seq ?_
      refine AW_region ?_
      refine AL_p (x_loadN (n := 1) rfl rfl rfl (by kernel_rfl) rfl rfl) ?_
      refine AL_p (x_store (n := 1) rfl rfl rfl rfl (by kernel_rfl) rfl rfl rfl) ?_
      refine AL_nil ?_
      refine AW_shutB 104 102 0 rfl rfl rfl rfl ?_
      refine AW_ret ?_
      exact ⟨rn [(9, 102)], ⟨⟨⟨_, rfl, VLe.rf⟩, trivial⟩, ⟨⟨_, rfl, ble_eq (by rw [hno]; rfl)⟩, trivial⟩, by repeat (first | exact trivial | refine ⟨⟨rfl, by first | (left; intro h; cases h) | (right; rfl), by first | exact (fun _ h => ⟨_, h⟩) | exact (fun _ _ => ⟨_, rfl⟩)⟩, ?_⟩), rfl⟩⟩
    try simp only [tdy] at h25
    refine AL_g rfl rfl (x_field (off := 0) (o' := 0) rfl rfl rfl (by kernel_rfl) rfl) ?_
    refine AL_g rfl rfl (x_load1 rfl rfl rfl (by kernel_rfl) rfl) ?_
    refine AL_g rfl rfl (x_move rfl rfl) ?_
    refine AL_g rfl rfl (x_oindex (n := 3) rfl rfl rfl rfl (by kernel_rfl) rfl (k := (posN rels nm)) rfl (by omega)) ?_
    refine AL_g rfl rfl (x_ofield (off := 0) (o' := 0) rfl rfl rfl (by kernel_rfl) rfl) ?_
    refine AL_g rfl rfl (x_oload1 rfl rfl rfl (by kernel_rfl) (by omega) rfl) ?_
    refine AL_g rfl rfl (x_load1 rfl rfl rfl (by kernel_rfl) rfl) ?_
    refine AL_gb rfl rfl (x_seql rfl rfl rfl) (fun b34 h34 => ?_)
    refine AL_p (x_pickT rfl rfl rfl) ?_
    refine AL_nild (by kernel_rfl) ?_
    cases b34
    rotate_left
    · try simp only [tdy] at h34
      have hnm := name_eq.1 h34
      have hno : withRel rels (⟨nm, r⟩ : Namedt) = rels.set (posN rels nm) (⟨nm, r⟩ : Namedt) := dif_pos ⟨by dsimp only; omega, by simp only [List.getD]; rw [List.getElem?_eq_getElem (by omega)]; exact h34⟩
      refine AW_condT rfl ?_
      refine AW_region ?_
      refine AL_p (x_field (off := 0) (o' := 0) rfl rfl rfl (by kernel_rfl) rfl) ?_
      refine AL_p (x_load1 rfl rfl rfl (by kernel_rfl) rfl) ?_
      refine AL_p (x_move rfl rfl) ?_
      refine AL_p (x_loadN (n := 2) rfl rfl rfl (by kernel_rfl) rfl rfl) ?_
      refine AL_p (x_oindex (n := 3) rfl rfl rfl rfl (by kernel_rfl) rfl (k := (posN rels nm)) rfl (by omega)) ?_
      refine AL_p (x_ofield (off := 1) (o' := 1) rfl rfl rfl (by kernel_rfl) rfl) ?_
      refine AL_p (x_ofstore (⟨nm, r⟩ : Namedt) (A := [.c (.string (rels[(posN rels nm)]'(by omega)).name)]) (B := [.c (.int .i64 (rels[(posN rels nm)]'(by omega)).rel.arity), .sl rowE (rels[(posN rels nm)]'(by omega)).rel.rows]) (C := []) rfl rfl rfl rfl (by kernel_rfl) rfl rfl rfl FitL.rf rfl rfl (by omega) rfl rfl rfl (by rw [hnm]; rfl)) ?_
      refine AL_nil ?_
      refine AW_seq ?_
      refine AW_region ?_
      refine AL_p (x_loadN (n := 1) rfl rfl rfl (by kernel_rfl) rfl rfl) ?_
      refine AL_p (x_store (n := 1) rfl rfl rfl rfl (by kernel_rfl) rfl rfl rfl) ?_
      refine AL_nil ?_
      refine AW_shutB 300 102 0 rfl rfl rfl rfl ?_
      refine AW_ret ?_
      exact ⟨rn [(9, 102)], ⟨⟨⟨_, rfl, VLe.rf⟩, trivial⟩, ⟨⟨_, rfl, ble_eq (by rw [hno]; rfl)⟩, trivial⟩, by repeat (first | exact trivial | refine ⟨⟨rfl, by first | (left; intro h; cases h) | (right; rfl), by first | exact (fun _ h => ⟨_, h⟩) | exact (fun _ _ => ⟨_, rfl⟩)⟩, ?_⟩), rfl⟩⟩
    try simp only [tdy] at h34
    have hno : withRel rels (⟨nm, r⟩ : Namedt) = rels.take (posN rels nm) ++ [(⟨nm, r⟩ : Namedt)] ++ rels.drop (posN rels nm) := dif_neg (fun h => by have h2 := h.2; simp only [List.getD] at h2; rw [List.getElem?_eq_getElem (by omega)] at h2; exact absurd (h34.symm.trans h2) (by decide))
    refine AW_condF rfl ?_
    refine AW_region ?_
    refine AL_p (x_field (off := 0) (o' := 0) rfl rfl rfl (by kernel_rfl) rfl) ?_
    refine AL_p (x_load1 rfl rfl rfl (by kernel_rfl) rfl) ?_
    refine AL_p (x_move rfl rfl) ?_
    refine AL_p (x_load1 rfl rfl rfl (by kernel_rfl) rfl) ?_
    refine AL_p (x_loadN (n := 2) rfl rfl rfl (by kernel_rfl) rfl rfl) ?_
    refine AL_p (x_build (zs := [.string ⟨#[]⟩, .int .i64 0, .slice none 0 0]) (places := [(0, 1), (1, 2)]) rfl (by kernel_rfl) rfl rfl rfl rfl rfl) ?_
    refine AL_p (y_bslice (E := 84) (e := namedE) [.tmp 47] ([(⟨nm, r⟩ : Namedt)]) 103 rfl rfl rfl rfl rfl rfl rfl rfl FitL.rf rfl rfl rfl rfl rfl rfl (by kernel_rfl)) ?_
    refine AL_p (x_call (ks := []) (L := [(300, some _), (103, some _)]) (L' := [(300, none), (103, none), (104, some _)]) rfl rfl rfl (AT.lend2 (insNamed_t rfl (i := (posN rels nm)) (zs := [(⟨nm, r⟩ : Namedt)]) (by omega) (by simp) (by simp) (by omega)) 300 103 104 rfl rfl rfl (fun _ => rfl)) rfl AllV.rf (caught_of rfl) rfl rfl rfl ⟨rfl, rfl, trivial⟩ rfl) ?_
    refine AL_p (x_field (off := 0) (o' := 0) rfl rfl rfl (by kernel_rfl) rfl) ?_
    refine AL_p (x_store (n := 1) rfl rfl rfl rfl (by kernel_rfl) rfl rfl rfl) ?_
    refine AL_nil ?_
    refine AW_seq ?_
    refine AW_region ?_
    refine AL_p (x_loadN (n := 1) rfl rfl rfl (by kernel_rfl) rfl rfl) ?_
    refine AL_p (x_store (n := 1) rfl rfl rfl rfl (by kernel_rfl) rfl rfl rfl) ?_
    refine AL_nil ?_
    refine AW_shutB 104 102 0 rfl rfl rfl rfl ?_
    refine AW_ret ?_
    exact ⟨rn [(9, 102)], ⟨⟨⟨_, rfl, VLe.rf⟩, trivial⟩, ⟨⟨_, rfl, ble_eq (by rw [hno]; rfl)⟩, trivial⟩, by repeat (first | exact trivial | refine ⟨⟨rfl, by first | (left; intro h; cases h) | (right; rfl), by first | exact (fun _ h => ⟨_, h⟩) | exact (fun _ _ => ⟨_, rfl⟩)⟩, ?_⟩), rfl⟩⟩
  try simp only [tdy] at h17
  have hpe := p2 (by omega)
  refine AW_condT rfl ?_
  refine AW_region ?_
  refine AL_p (x_field (off := 0) (o' := 0) rfl rfl rfl (by kernel_rfl) rfl) ?_
  refine AL_p (x_load1 rfl rfl rfl (by kernel_rfl) rfl) ?_
  refine AL_p (x_olen (E := 84) (n := 3) rfl rfl rfl (by kernel_rfl)) ?_
  refine AL_p (x_assign rfl rfl) ?_
  refine AL_nil ?_
  refine AW_seq ?_
  refine AW_seq ?_
  refine AW_slot (t := 7) (y := .one (.c (.int .i64 ((posN rels nm) : Int)))) rfl (by rw [hpe]) ?_
  refine AW_draw rfl ?_
  refine AL_p (x_move rfl rfl) ?_
  refine AL_p (x_field (off := 0) (o' := 0) rfl rfl rfl (by kernel_rfl) rfl) ?_
  refine AL_p (x_load1 rfl rfl rfl (by kernel_rfl) rfl) ?_
  refine AL_p (x_olen (E := 84) (n := 3) rfl rfl rfl (by kernel_rfl)) ?_
  refine AL_b (x_lss rfl rfl rfl) (fun b25 h25 => ?_)
  refine AL_p (x_move rfl rfl) ?_
  cases b25
  · try simp only [tdy] at h25
    have hno : withRel rels (⟨nm, r⟩ : Namedt) = rels.take (posN rels nm) ++ [(⟨nm, r⟩ : Namedt)] ++ rels.drop (posN rels nm) := dif_neg (fun h => by have := h.1; dsimp only at this; omega)
    refine AL_o rfl rfl rfl rfl ?_
    refine AL_o rfl rfl rfl rfl ?_
    refine AL_o rfl rfl rfl rfl ?_
    refine AL_o rfl rfl rfl rfl ?_
    refine AL_o rfl rfl rfl rfl ?_
    refine AL_o rfl rfl rfl rfl ?_
    refine AL_o rfl rfl rfl rfl ?_
    refine AL_o rfl rfl rfl rfl ?_
    refine AL_p (x_pickF rfl rfl rfl) ?_
    refine AL_nild (by kernel_rfl) ?_
    refine AW_condF rfl ?_
    refine AW_region ?_
    refine AL_p (x_field (off := 0) (o' := 0) rfl rfl rfl (by kernel_rfl) rfl) ?_
    refine AL_p (x_load1 rfl rfl rfl (by kernel_rfl) rfl) ?_
    refine AL_p (x_move rfl rfl) ?_
    refine AL_p (x_load1 rfl rfl rfl (by kernel_rfl) rfl) ?_
    refine AL_p (x_loadN (n := 2) rfl rfl rfl (by kernel_rfl) rfl rfl) ?_
    refine AL_p (x_build (zs := [.string ⟨#[]⟩, .int .i64 0, .slice none 0 0]) (places := [(0, 1), (1, 2)]) rfl (by kernel_rfl) rfl rfl rfl rfl rfl) ?_
    refine AL_p (y_bslice (E := 84) (e := namedE) [.tmp 47] ([(⟨nm, r⟩ : Namedt)]) 103 rfl rfl rfl rfl rfl rfl rfl rfl FitL.rf rfl rfl rfl rfl rfl rfl (by kernel_rfl)) ?_
    refine AL_p (x_call (ks := []) (L := [(300, some _), (103, some _)]) (L' := [(300, none), (103, none), (104, some _)]) rfl rfl rfl (AT.lend2 (insNamed_t rfl (i := (posN rels nm)) (zs := [(⟨nm, r⟩ : Namedt)]) (by omega) (by simp) (by simp) (by omega)) 300 103 104 rfl rfl rfl (fun _ => rfl)) rfl AllV.rf (caught_of rfl) rfl rfl rfl ⟨rfl, rfl, trivial⟩ rfl) ?_
    refine AL_p (x_field (off := 0) (o' := 0) rfl rfl rfl (by kernel_rfl) rfl) ?_
    refine AL_p (x_store (n := 1) rfl rfl rfl rfl (by kernel_rfl) rfl rfl rfl) ?_
    refine AL_nil ?_
    refine AW_seq ?_
    refine AW_region ?_
    refine AL_p (x_loadN (n := 1) rfl rfl rfl (by kernel_rfl) rfl rfl) ?_
    refine AL_p (x_store (n := 1) rfl rfl rfl rfl (by kernel_rfl) rfl rfl rfl) ?_
    refine AL_nil ?_
    refine AW_shutB 104 102 0 rfl rfl rfl rfl ?_
    refine AW_ret ?_
    exact ⟨rn [(9, 102)], ⟨⟨⟨_, rfl, VLe.rf⟩, trivial⟩, ⟨⟨_, rfl, ble_eq (by rw [hno]; rfl)⟩, trivial⟩, by repeat (first | exact trivial | refine ⟨⟨rfl, by first | (left; intro h; cases h) | (right; rfl), by first | exact (fun _ h => ⟨_, h⟩) | exact (fun _ _ => ⟨_, rfl⟩)⟩, ?_⟩), rfl⟩⟩
  try simp only [tdy] at h25
  refine AL_g rfl rfl (x_field (off := 0) (o' := 0) rfl rfl rfl (by kernel_rfl) rfl) ?_
  refine AL_g rfl rfl (x_load1 rfl rfl rfl (by kernel_rfl) rfl) ?_
  refine AL_g rfl rfl (x_move rfl rfl) ?_
  refine AL_g rfl rfl (x_oindex (n := 3) rfl rfl rfl rfl (by kernel_rfl) rfl (k := (posN rels nm)) rfl (by omega)) ?_
  refine AL_g rfl rfl (x_ofield (off := 0) (o' := 0) rfl rfl rfl (by kernel_rfl) rfl) ?_
  refine AL_g rfl rfl (x_oload1 rfl rfl rfl (by kernel_rfl) (by omega) rfl) ?_
  refine AL_g rfl rfl (x_load1 rfl rfl rfl (by kernel_rfl) rfl) ?_
  refine AL_gb rfl rfl (x_seql rfl rfl rfl) (fun b34 h34 => ?_)
  refine AL_p (x_pickT rfl rfl rfl) ?_
  refine AL_nild (by kernel_rfl) ?_
  cases b34
  rotate_left
  · try simp only [tdy] at h34
    have hnm := name_eq.1 h34
    have hno : withRel rels (⟨nm, r⟩ : Namedt) = rels.set (posN rels nm) (⟨nm, r⟩ : Namedt) := dif_pos ⟨by dsimp only; omega, by simp only [List.getD]; rw [List.getElem?_eq_getElem (by omega)]; exact h34⟩
    refine AW_condT rfl ?_
    refine AW_region ?_
    refine AL_p (x_field (off := 0) (o' := 0) rfl rfl rfl (by kernel_rfl) rfl) ?_
    refine AL_p (x_load1 rfl rfl rfl (by kernel_rfl) rfl) ?_
    refine AL_p (x_move rfl rfl) ?_
    refine AL_p (x_loadN (n := 2) rfl rfl rfl (by kernel_rfl) rfl rfl) ?_
    refine AL_p (x_oindex (n := 3) rfl rfl rfl rfl (by kernel_rfl) rfl (k := (posN rels nm)) rfl (by omega)) ?_
    refine AL_p (x_ofield (off := 1) (o' := 1) rfl rfl rfl (by kernel_rfl) rfl) ?_
    refine AL_p (x_ofstore (⟨nm, r⟩ : Namedt) (A := [.c (.string (rels[(posN rels nm)]'(by omega)).name)]) (B := [.c (.int .i64 (rels[(posN rels nm)]'(by omega)).rel.arity), .sl rowE (rels[(posN rels nm)]'(by omega)).rel.rows]) (C := []) rfl rfl rfl rfl (by kernel_rfl) rfl rfl rfl FitL.rf rfl rfl (by omega) rfl rfl rfl (by rw [hnm]; rfl)) ?_
    refine AL_nil ?_
    refine AW_seq ?_
    refine AW_region ?_
    refine AL_p (x_loadN (n := 1) rfl rfl rfl (by kernel_rfl) rfl rfl) ?_
    refine AL_p (x_store (n := 1) rfl rfl rfl rfl (by kernel_rfl) rfl rfl rfl) ?_
    refine AL_nil ?_
    refine AW_shutB 300 102 0 rfl rfl rfl rfl ?_
    refine AW_ret ?_
    exact ⟨rn [(9, 102)], ⟨⟨⟨_, rfl, VLe.rf⟩, trivial⟩, ⟨⟨_, rfl, ble_eq (by rw [hno]; rfl)⟩, trivial⟩, by repeat (first | exact trivial | refine ⟨⟨rfl, by first | (left; intro h; cases h) | (right; rfl), by first | exact (fun _ h => ⟨_, h⟩) | exact (fun _ _ => ⟨_, rfl⟩)⟩, ?_⟩), rfl⟩⟩
  try simp only [tdy] at h34
  have hno : withRel rels (⟨nm, r⟩ : Namedt) = rels.take (posN rels nm) ++ [(⟨nm, r⟩ : Namedt)] ++ rels.drop (posN rels nm) := dif_neg (fun h => by have h2 := h.2; simp only [List.getD] at h2; rw [List.getElem?_eq_getElem (by omega)] at h2; exact absurd (h34.symm.trans h2) (by decide))
  refine AW_condF rfl ?_
  refine AW_region ?_
  refine AL_p (x_field (off := 0) (o' := 0) rfl rfl rfl (by kernel_rfl) rfl) ?_
  refine AL_p (x_load1 rfl rfl rfl (by kernel_rfl) rfl) ?_
  refine AL_p (x_move rfl rfl) ?_
  refine AL_p (x_load1 rfl rfl rfl (by kernel_rfl) rfl) ?_
  refine AL_p (x_loadN (n := 2) rfl rfl rfl (by kernel_rfl) rfl rfl) ?_
  refine AL_p (x_build (zs := [.string ⟨#[]⟩, .int .i64 0, .slice none 0 0]) (places := [(0, 1), (1, 2)]) rfl (by kernel_rfl) rfl rfl rfl rfl rfl) ?_
  refine AL_p (y_bslice (E := 84) (e := namedE) [.tmp 47] ([(⟨nm, r⟩ : Namedt)]) 103 rfl rfl rfl rfl rfl rfl rfl rfl FitL.rf rfl rfl rfl rfl rfl rfl (by kernel_rfl)) ?_
  refine AL_p (x_call (ks := []) (L := [(300, some _), (103, some _)]) (L' := [(300, none), (103, none), (104, some _)]) rfl rfl rfl (AT.lend2 (insNamed_t rfl (i := (posN rels nm)) (zs := [(⟨nm, r⟩ : Namedt)]) (by omega) (by simp) (by simp) (by omega)) 300 103 104 rfl rfl rfl (fun _ => rfl)) rfl AllV.rf (caught_of rfl) rfl rfl rfl ⟨rfl, rfl, trivial⟩ rfl) ?_
  refine AL_p (x_field (off := 0) (o' := 0) rfl rfl rfl (by kernel_rfl) rfl) ?_
  refine AL_p (x_store (n := 1) rfl rfl rfl rfl (by kernel_rfl) rfl rfl rfl) ?_
  refine AL_nil ?_
  refine AW_seq ?_
  refine AW_region ?_
  refine AL_p (x_loadN (n := 1) rfl rfl rfl (by kernel_rfl) rfl rfl) ?_
  refine AL_p (x_store (n := 1) rfl rfl rfl rfl (by kernel_rfl) rfl rfl rfl) ?_
  refine AL_nil ?_
  refine AW_shutB 104 102 0 rfl rfl rfl rfl ?_
  refine AW_ret ?_
  exact ⟨rn [(9, 102)], ⟨⟨⟨_, rfl, VLe.rf⟩, trivial⟩, ⟨⟨_, rfl, ble_eq (by rw [hno]; rfl)⟩, trivial⟩, by repeat (first | exact trivial | refine ⟨⟨rfl, by first | (left; intro h; cases h) | (right; rfl), by first | exact (fun _ h => ⟨_, h⟩) | exact (fun _ _ => ⟨_, rfl⟩)⟩, ?_⟩), rfl⟩⟩

set_option maxHeartbeats 4000000 in
theorem copyStI_c0 (rels : List Namedt) (hs : rels.length ≤ 1048576) (hm : ∀ y ∈ rels, smallNamed y) : AC Tryz.prog 39 [.agg [.sl namedE rels]] [] (.agg [.own 0]) [(0, some (.arr 84 namedE rels true))] := by
  refine AC_bodyC (n := 1) (k := 9) (T := [(2, .one (.ptr 9 0))]) (Lf := ((9, some (.box [.own 0])) :: [(0, some (.arr 84 namedE rels true))])) Tryz.func39 rfl rfl Tryz.ntmps39 rfl Tryz.results39 rfl rfl (by kernel_rfl) rfl rfl ⟨trivial, (by repeat (first | exact trivial | refine ⟨⟨_, rfl, BLe.rf⟩, ?_⟩)), (by repeat (first | exact trivial | refine ⟨⟨rfl, by first | (left; intro h; cases h) | (right; rfl), by first | exact (fun _ h => ⟨_, h⟩) | exact (fun _ _ => ⟨_, rfl⟩)⟩, ?_⟩)), rfl⟩ ?_
  refine AW_seq ?_
  refine AW_region ?_
  refine AL_p (x_box 100 rfl rfl rfl rfl rfl rfl rfl) ?_
  refine AL_p (x_alloc (z := .agg #[.slice none 0 0]) 101 rfl (by kernel_rfl) rfl rfl rfl rfl) ?_
  refine AL_nil ?_
  refine AW_seq ?_
  refine AW_region ?_
  refine AL_p (x_build (zs := [.slice none 0 0]) (places := [(0, 1)]) rfl (by kernel_rfl) rfl rfl rfl rfl rfl) ?_
  refine AL_p (x_alloc (z := .agg #[.slice none 0 0]) 102 rfl (by kernel_rfl) rfl rfl rfl rfl) ?_
  refine AL_p (x_store (n := 1) rfl rfl rfl rfl (by kernel_rfl) rfl rfl rfl) ?_
  refine AL_nil ?_
  refine AW_seq ?_
  refine AW_seq ?_
  refine AW_region ?_
  refine AL_p (x_field (off := 0) (o' := 0) rfl rfl rfl (by kernel_rfl) rfl) ?_
  refine AL_p (x_load1 rfl rfl rfl (by kernel_rfl) rfl) ?_
  refine AL_p (x_len (E := 84) (n := 3) rfl rfl (by kernel_rfl)) ?_
  refine AL_p (x_move rfl rfl) ?_
  refine AL_nil ?_
  refine AW_block ?_
  refine AW_adopt (T := 84) (e := namedE) 103 102 0 rfl rfl rfl rfl rfl ?_
  refine AW_loop2 (ι := {q : Nat // q ≤ rels.length}) (fun p => [(10, .one (.c (.int .i64 ((p.1) : Int))))]) (fun p => [(103, some (.arr 84 namedE (rels.take (p.1)) true))]) [2, 3, 8, 9] [100, 101, 102] (fun p => rels.length - (p.1)) ⟨0, by omega⟩ (rn []) ?_ ?_
  exact ⟨by (repeat refine ⟨⟨_, rfl, by first | exact VLe.rf | exact vle_int (by dsimp only; omega)⟩, ?_⟩); exact trivial, by (repeat refine ⟨⟨_, rfl, by first | exact BLe.rf | exact BLe.box AllC.rf | exact BLe.arr (by first | exact take_none | exact take_more (by omega))⟩, ?_⟩); exact trivial, by repeat (first | exact trivial | refine ⟨⟨rfl, by first | (left; intro h; cases h) | (right; rfl), by first | exact (fun _ h => ⟨_, h⟩) | exact (fun _ _ => ⟨_, rfl⟩)⟩, ?_⟩), rfl⟩
  rintro ⟨k, hinv⟩
  dsimp only
  have hk := hinv
  refine AW_seq ?_
  refine AW_region ?_
  refine AL_b (x_lss rfl rfl rfl) (fun b11 h11 => ?_)
  refine AL_nil ?_
  refine AW_seq ?_
  cases b11
  · try simp only [tdy] at h11
    refine AW_condF rfl ?_
    refine AW_exit (BQ_hit ?_)
    refine AW_seq ?_
    refine AW_region ?_
    refine AL_p (x_loadN (n := 1) rfl rfl rfl (by kernel_rfl) rfl rfl) ?_
    refine AL_p (x_store (n := 1) rfl rfl rfl rfl (by kernel_rfl) rfl rfl rfl) ?_
    refine AL_nil ?_
    refine AW_ret ?_
    exact ⟨rn [(9, 101), (0, 103)], ⟨⟨⟨_, rfl, VLe.rf⟩, trivial⟩, ⟨⟨_, rfl, by first | exact BLe.rf | (subst_vars; exact BLe.rf)⟩, ⟨_, rfl, BLe.arr (List.take_of_length_le (by omega))⟩, trivial⟩, trivial, rfl⟩⟩
  try simp only [tdy] at h11
  refine AW_condT rfl ?_
  refine AW_skip ?_
  refine AW_seq ?_
  refine AW_block ?_
  refine AW_seq ?_
  refine AW_region ?_
  refine AL_p (x_index (E := 84) (n := 3) rfl rfl rfl (by kernel_rfl) rfl (k := k) rfl (by omega)) ?_
  refine AL_p (x_eloadW (n := 3) rfl rfl (by kernel_rfl) rfl) ?_
  refine AL_p (x_alloc (z := .agg #[.string ⟨#[]⟩, .int .i64 0, .slice none 0 0]) 104 rfl (by kernel_rfl) rfl rfl rfl rfl) ?_
  refine AL_p (x_store (n := 3) rfl rfl rfl rfl (by kernel_rfl) rfl rfl rfl) ?_
  refine AL_nil ?_
  refine AW_draw rfl ?_
  refine AL_p (x_field (off := 0) (o' := 0) rfl rfl rfl (by kernel_rfl) rfl) ?_
  refine AL_p (x_load1 rfl rfl rfl (by kernel_rfl) rfl) ?_
  refine AL_p (x_field (off := 0) (o' := 0) rfl rfl rfl (by kernel_rfl) rfl) ?_
  refine AL_p (x_load1 rfl rfl rfl (by kernel_rfl) rfl) ?_
  refine AL_p (x_field (off := 1) (o' := 1) rfl rfl rfl (by kernel_rfl) rfl) ?_
  refine AL_p (x_loadN (n := 2) rfl rfl rfl (by kernel_rfl) rfl rfl) ?_
  refine AL_p (x_call1 rfl rfl rfl (copyI_c (rels[k]'(by omega)).rel (hm _ (List.getElem_mem _)).2 105) rfl rfl rfl rfl) ?_
  refine AL_p (x_build (zs := [.string ⟨#[]⟩, .int .i64 0, .slice none 0 0]) (places := [(0, 1), (1, 2)]) rfl (by kernel_rfl) rfl rfl rfl rfl rfl) ?_
  refine AL_p (y_bslice (E := 84) (e := namedE) [.tmp 21] ([(rels[k]'(by omega))]) 106 rfl rfl rfl rfl rfl rfl rfl rfl FitL.rf rfl rfl rfl rfl rfl rfl (by kernel_rfl)) ?_
  refine AL_p (y_append 107 rfl rfl rfl rfl rfl rfl rfl rfl (by kernel_rfl) (by simp only [List.length_take, List.length_cons, List.length_nil]; omega)) ?_
  refine AL_p (x_field (off := 0) (o' := 0) rfl rfl rfl (by kernel_rfl) rfl) ?_
  refine AL_p (x_store (n := 1) rfl rfl rfl rfl (by kernel_rfl) rfl rfl rfl) ?_
  refine AL_nild (by kernel_rfl) ?_
  refine AW_region ?_
  refine AL_p (x_add rfl rfl rfl (IntWalk.i64_in _ (by omega))) ?_
  refine AL_p (x_move rfl rfl) ?_
  refine AL_nil ?_
  refine ⟨⟨k + 1, by omega⟩, rn [(103, 107)], ?_, by dsimp only; omega⟩
  exact ⟨by (repeat refine ⟨⟨_, rfl, by first | exact VLe.rf | exact vle_int (by dsimp only; omega)⟩, ?_⟩); exact trivial, by (repeat refine ⟨⟨_, rfl, by first | exact BLe.rf | exact BLe.box AllC.rf | exact BLe.arr (by first | exact take_none | exact take_more (by omega))⟩, ?_⟩); exact trivial, by repeat (first | exact trivial | refine ⟨⟨rfl, by first | (left; intro h; cases h) | (right; rfl), by first | exact (fun _ h => ⟨_, h⟩) | exact (fun _ _ => ⟨_, rfl⟩)⟩, ?_⟩), rfl⟩
theorem copyStI_c (rels : List Namedt) (hs : rels.length ≤ 1048576) (hm : ∀ y ∈ rels, smallNamed y) (k : Nat) : AC Tryz.prog 39 [.agg [.sl namedE rels]] [] (.agg [.own k]) [(k, some (.arr 84 namedE rels true))] := AC.at (copyStI_c0 rels hs hm) k

theorem relOfN_c (out : List Namedt) (c : Changet) (hv : ValsOk (nextRows (namedIn out c.name).1 c)) (hs : smallRel ⟨(namedIn out c.name).1.arity, nextRows (namedIn out c.name).1 c⟩) (k : Nat) :
    AC Tryz.prog 41 [.one (.c (.int .i64 (namedIn out c.name).1.arity)), .one (.sl rowE [((namedIn out c.name).1.rows.filter fun row => !hasRow c.minus.rows row), c.plus.rows].flatten)] [] (.tup [.agg [.c (.int .i64 (nextRel out c).1.arity), .own k], .one (.c (.bool (nextRel out c).2))]) [(k, some (.arr 72 rowE (nextRel out c).1.rows true))] := by
  rw [flat_two]; exact relOfI_c _ _ hv hs k

set_option maxHeartbeats 4000000 in
theorem deltaApplyF_c (s : Storet) (d : Deltat) (hs : smallStore s) (hd : smallDelta d) : AC Tryz.prog 12 [.agg (storeC s), .agg (deltaC d)] [] (.tup [.agg [.sl namedE (deltaApply s d).1.rels], .one (.c (.bool (deltaApply s d).2))]) [] := by
  refine AC_bodyCT (n := 1) (k := 9) (T := [(4, .one (.ptr 9 0)), (5, .one (.c (.bool (deltaApply s d).2)))]) (Lf := ((9, some (.box [.sl namedE (deltaApply s d).1.rels])) :: [])) Tryz.func12 rfl rfl Tryz.ntmps12 rfl Tryz.results12 rfl rfl rfl rfl (by kernel_rfl) rfl rfl ⟨trivial, (by repeat (first | exact trivial | refine ⟨⟨_, rfl, BLe.rf⟩, ?_⟩)), (by repeat (first | exact trivial | refine ⟨⟨rfl, by first | (left; intro h; cases h) | (right; rfl), by first | exact (fun _ h => ⟨_, h⟩) | exact (fun _ _ => ⟨_, rfl⟩)⟩, ?_⟩)), rfl⟩ ?_
  refine AW_seq ?_
  refine AW_region ?_
  refine AL_p (x_box 100 rfl rfl rfl rfl rfl rfl rfl) ?_
  refine AL_p (x_box 101 rfl rfl rfl rfl rfl rfl rfl) ?_
  refine AL_p (x_alloc (z := .agg #[.slice none 0 0]) 102 rfl (by kernel_rfl) rfl rfl rfl rfl) ?_
  refine AL_p (x_assign rfl rfl) ?_
  refine AL_nil ?_
  refine AW_seq ?_
  refine AW_seq ?_
  refine AW_region ?_
  refine AL_p (x_loadN (n := 1) rfl rfl rfl (by kernel_rfl) rfl rfl) ?_
  refine AL_p (x_loadN (n := 1) rfl rfl rfl (by kernel_rfl) rfl rfl) ?_
  refine AL_b (x_call0 rfl rfl rfl (deltaFitsI_c s d hs hd) rfl rfl) (fun b15 h15 => ?_)
  refine AL_p (x_not rfl rfl) ?_
  refine AL_nil ?_
  cases b15
  · try simp only [tdy] at h15
    have hno := deltaApply_no h15
    refine AW_condT rfl ?_
    refine AW_seq ?_
    refine AW_region ?_
    refine AL_p (x_build (zs := [.slice none 0 0]) (places := [(0, 1)]) rfl (by kernel_rfl) rfl rfl rfl rfl rfl) ?_
    refine AL_p (x_store (n := 1) rfl rfl rfl rfl (by kernel_rfl) rfl rfl rfl) ?_
    refine AL_p (x_assign rfl rfl) ?_
    refine AL_nil ?_
    refine AW_ret ?_
    exact ⟨rn [(9, 102)], ⟨⟨⟨_, rfl, VLe.rf⟩, ⟨_, rfl, by first | (refine vle_bool ?_; rw [hno]; done) | exact VLe.rf⟩, trivial⟩, ⟨⟨_, rfl, by first | (refine ble_eq ?_; rw [hno]; done) | (refine ble_eq ?_; rw [hno]; rfl) | (refine BLe.box ?_; rw [hno]; exact ⟨CLe.nil, trivial⟩)⟩, trivial⟩, trivial, rfl⟩⟩
  try simp only [tdy] at h15
  have hf := h15
  have hno0 := deltaApply_ok h15
  have hcl := fits_max h15
  refine AW_condF rfl ?_
  refine AW_skip ?_
  refine AW_seq ?_
  refine AW_region ?_
  refine AL_p (x_loadN (n := 1) rfl rfl rfl (by kernel_rfl) rfl rfl) ?_
  refine AL_p (x_call1 rfl rfl rfl (copyStI_c s.rels hs.1 hs.2 103) rfl rfl rfl rfl) ?_
  refine AL_p (x_alloc (z := .agg #[.slice none 0 0]) 400 rfl (by kernel_rfl) rfl rfl rfl rfl) ?_
  refine AL_p (x_store (n := 1) rfl rfl rfl rfl (by kernel_rfl) rfl rfl rfl) ?_
  refine AL_nil ?_
  refine AW_seq ?_
  refine AW_seq ?_
  refine AW_shutB 103 400 0 rfl rfl rfl rfl ?_
  refine AW_region ?_
  refine AL_p (x_field (off := 0) (o' := 0) rfl rfl rfl (by kernel_rfl) rfl) ?_
  refine AL_p (x_load1 rfl rfl rfl (by kernel_rfl) rfl) ?_
  refine AL_p (x_len (E := 65) (n := 5) rfl rfl (by kernel_rfl)) ?_
  refine AL_p (x_move rfl rfl) ?_
  refine AL_nil ?_
  refine AW_block ?_
  refine AW_loop2 (ι := {q : Nat × List Namedt // ((q.1) ≤ d.changes.length ∧ (q.2).length ≤ 24 + (q.1)) ∧ (∀ y ∈ (q.2), apQ y) ∧ applyTo (q.2) (d.changes.drop (q.1)) = applyTo s.rels d.changes}) (fun p => [(23, .one (.c (.int .i64 ((p.1.1) : Int))))]) (fun p => [(400, some (.box [.sl namedE (p.1.2)]))]) [4, 6, 21, 22] [100, 101, 102] (fun p => d.changes.length - (p.1.1)) ⟨⟨0, s.rels⟩, ⟨⟨by omega, by have := storeOk_max (fits_store hf); dsimp only; omega⟩, apQ_start hs (fits_store hf), rfl⟩⟩ (rn []) ?_ ?_
  exact ⟨by (repeat refine ⟨⟨_, rfl, by first | exact VLe.rf | exact vle_int (by dsimp only; omega)⟩, ?_⟩); exact trivial, by (repeat refine ⟨⟨_, rfl, by first | exact BLe.rf | exact BLe.box AllC.rf | exact BLe.arr (by exact rfl)⟩, ?_⟩); exact trivial, by repeat (first | exact trivial | refine ⟨⟨rfl, by first | (left; intro h; cases h) | (right; rfl), by first | exact (fun _ h => ⟨_, h⟩) | exact (fun _ _ => ⟨_, rfl⟩)⟩, ?_⟩), rfl⟩
  rintro ⟨⟨k, out⟩, hinv⟩
  dsimp only
  obtain ⟨⟨hk, hlen⟩, hq, hrun⟩ := hinv
  have hk : k ≤ d.changes.length := hk
  have hlen : out.length ≤ 24 + k := hlen
  have hq : ∀ y ∈ out, apQ y := hq
  have hrun : applyTo out (d.changes.drop k) = applyTo s.rels d.changes := hrun
  refine AW_seq ?_
  refine AW_region ?_
  refine AL_b (x_lss rfl rfl rfl) (fun b24 h24 => ?_)
  refine AL_nil ?_
  refine AW_seq ?_
  cases b24
  · try simp only [tdy] at h24
    have hnil : d.changes.drop k = [] := List.drop_eq_nil_of_le (by omega)
    have hno : deltaApply s d = (⟨out⟩, true) := by rw [hno0, ← hrun, hnil]; rfl
    refine AW_condF rfl ?_
    refine AW_exit (BQ_hit ?_)
    refine AW_seq ?_
    refine AW_region ?_
    refine AL_p (x_loadN (n := 1) rfl rfl rfl (by kernel_rfl) rfl rfl) ?_
    refine AL_p (x_store (n := 1) rfl rfl rfl rfl (by kernel_rfl) rfl rfl rfl) ?_
    refine AL_p (x_assign rfl rfl) ?_
    refine AL_nil ?_
    refine AW_ret ?_
    exact ⟨rn [(9, 102)], ⟨⟨⟨_, rfl, VLe.rf⟩, ⟨_, rfl, by first | (refine vle_bool ?_; rw [hno]; done) | exact VLe.rf⟩, trivial⟩, ⟨⟨_, rfl, by first | (refine ble_eq ?_; rw [hno]; done) | (refine ble_eq ?_; rw [hno]; rfl) | (refine BLe.box ?_; rw [hno]; exact ⟨CLe.nil, trivial⟩)⟩, trivial⟩, trivial, rfl⟩⟩
  try simp only [tdy] at h24
  have hk2 : k < d.changes.length := by omega
  have hdr : d.changes.drop k = (d.changes[k]'(by omega)) :: d.changes.drop (k + 1) := List.drop_eq_getElem_cons hk2
  refine AW_condT rfl ?_
  refine AW_skip ?_
  refine AW_seq ?_
  refine AW_block ?_
  refine AW_seq ?_
  refine AW_region ?_
  refine AL_p (x_index (E := 65) (n := 5) rfl rfl rfl (by kernel_rfl) rfl (k := k) rfl (by omega)) ?_
  refine AL_p (x_eloadW (n := 5) rfl rfl (by kernel_rfl) rfl) ?_
  refine AL_p (x_alloc (z := .agg #[.string ⟨#[]⟩, .int .i64 0, .slice none 0 0, .int .i64 0, .slice none 0 0]) 104 rfl (by kernel_rfl) rfl rfl rfl rfl) ?_
  refine AL_p (x_store (n := 5) rfl rfl rfl rfl (by kernel_rfl) rfl rfl rfl) ?_
  refine AL_nil ?_
  refine AW_seq ?_
  refine AW_region ?_
  refine AL_p (x_loadN (n := 1) rfl rfl rfl (by kernel_rfl) rfl rfl) ?_
  refine AL_p (x_field (off := 0) (o' := 0) rfl rfl rfl (by kernel_rfl) rfl) ?_
  refine AL_p (x_load1 rfl rfl rfl (by kernel_rfl) rfl) ?_
  refine AL_p (x_call0 rfl rfl rfl (namedI_c ⟨out⟩ (d.changes[k]'(by omega)).name (apply_store hq (by omega))) rfl rfl) ?_
  refine AL_p (x_move rfl rfl) ?_
  refine AL_p (x_extract rfl rfl rfl) ?_
  refine AL_b (x_extract rfl rfl rfl) (fun b33 h33 => ?_)
  refine AL_p (x_alloc (z := .agg #[.int .i64 0, .slice none 0 0]) 105 rfl (by kernel_rfl) rfl rfl rfl rfl) ?_
  refine AL_p (x_store (n := 2) rfl rfl rfl rfl (by kernel_rfl) rfl rfl rfl) ?_
  refine AL_p (x_assign rfl rfl) ?_
  refine AL_nil ?_
  refine AW_seq ?_
  refine AW_draw rfl ?_
  refine AL_p (x_field (off := 0) (o' := 0) rfl rfl rfl (by kernel_rfl) rfl) ?_
  refine AL_p (x_load1 rfl rfl rfl (by kernel_rfl) rfl) ?_
  refine AL_p (x_loadN (n := 2) rfl rfl rfl (by kernel_rfl) rfl rfl) ?_
  refine AL_p (x_field (off := 3) (o' := 3) rfl rfl rfl (by kernel_rfl) rfl) ?_
  refine AL_p (x_loadN (n := 2) rfl rfl rfl (by kernel_rfl) rfl rfl) ?_
  refine AL_p (x_call1 rfl rfl rfl (minusI_c (namedIn out (d.changes[k]'(by omega)).name).1 (d.changes[k]'(by omega)).minus (apply_r hq) (apply_m hf hk2).1 (apply_m hf hk2).2 (apply_rv hq) 106) rfl rfl rfl rfl) ?_
  refine AL_p (x_fldv (off := 1) rfl rfl (by kernel_rfl) rfl) ?_
  refine AL_p (x_field (off := 1) (o' := 1) rfl rfl rfl (by kernel_rfl) rfl) ?_
  refine AL_p (x_field (off := 1) (o' := 2) rfl rfl rfl (by kernel_rfl) rfl) ?_
  refine AL_p (x_load1 rfl rfl rfl (by kernel_rfl) rfl) ?_
  refine AL_p (y_bslice (E := 61) (e := (sliceE rowE)) [.tmp 41, .tmp 44] ([((namedIn out (d.changes[k]'(by omega)).name).1.rows.filter fun row => !hasRow (d.changes[k]'(by omega)).minus.rows row), (d.changes[k]'(by omega)).plus.rows]) 107 rfl rfl rfl rfl rfl rfl rfl rfl FitL.rf rfl rfl rfl rfl rfl rfl (by kernel_rfl)) ?_
  refine AL_p (x_call (ks := []) (L := [(107, some _)]) (L' := [(107, none), (108, some _)]) rfl rfl rfl (AT.lend1 (concatRow_t (xss := [((namedIn out (d.changes[k]'(by omega)).name).1.rows.filter fun row => !hasRow (d.changes[k]'(by omega)).minus.rows row), (d.changes[k]'(by omega)).plus.rows]) (apply_len hq hf hk2) (by simp)) 107 108 rfl (fun _ => rfl)) rfl AllV.rf (caught_of rfl) rfl rfl rfl ⟨rfl, trivial⟩ rfl) ?_
  refine AL_p (x_callR rfl rfl rfl (relOfN_c out (d.changes[k]'(by omega)) (apply_vals hq hf hk2) (apply_small hq hf hd hk2) 109) rfl AllV.rf rfl rfl rfl rfl rfl) ?_
  refine AL_p (x_move rfl rfl) ?_
  refine AL_p (x_extract rfl rfl rfl) ?_
  refine AL_b (x_extract rfl rfl rfl) (fun b49 h49 => ?_)
  refine AL_p (x_alloc (z := .agg #[.int .i64 0, .slice none 0 0]) 110 rfl (by kernel_rfl) rfl rfl rfl rfl) ?_
  refine AL_p (x_store (n := 2) rfl rfl rfl rfl (by kernel_rfl) rfl rfl rfl) ?_
  refine AL_p (x_assign rfl rfl) ?_
  refine AL_nild (by kernel_rfl) ?_
  refine AW_seq ?_
  refine AW_seq ?_
  refine AW_shutB 109 110 1 rfl rfl rfl rfl ?_
  refine AW_region ?_
  refine AL_p (x_move rfl rfl) ?_
  refine AL_p (x_not rfl rfl) ?_
  refine AL_nil ?_
  cases b49
  · try simp only [tdy] at h49
    have hst : applyTo out (d.changes.drop k) = ([], false) := by rw [hdr]; exact if_neg (by rw [h49]; simp)
    have hno : deltaApply s d = (⟨[]⟩, false) := by rw [hno0, ← hrun, hst]
    refine AW_condT rfl ?_
    refine AW_seq ?_
    refine AW_region ?_
    refine AL_p (x_build (zs := [.slice none 0 0]) (places := [(0, 1)]) rfl (by kernel_rfl) rfl rfl rfl rfl rfl) ?_
    refine AL_p (x_store (n := 1) rfl rfl rfl rfl (by kernel_rfl) rfl rfl rfl) ?_
    refine AL_p (x_assign rfl rfl) ?_
    refine AL_nil ?_
    refine AW_ret (BQ_ret (BQ_ret ?_))
    exact ⟨rn [(9, 102)], ⟨⟨⟨_, rfl, VLe.rf⟩, ⟨_, rfl, by first | (refine vle_bool ?_; rw [hno]; done) | exact VLe.rf⟩, trivial⟩, ⟨⟨_, rfl, by first | (refine ble_eq ?_; rw [hno]; done) | (refine ble_eq ?_; rw [hno]; rfl) | (refine BLe.box ?_; rw [hno]; exact ⟨CLe.nil, trivial⟩)⟩, trivial⟩, trivial, rfl⟩⟩
  try simp only [tdy] at h49
  have hst : applyTo out (d.changes.drop k) = applyTo (withRel out ⟨(d.changes[k]'(by omega)).name, (nextRel out (d.changes[k]'(by omega))).1⟩) (d.changes.drop (k + 1)) := by rw [hdr]; exact if_pos h49
  refine AW_condF rfl ?_
  refine AW_skip ?_
  refine AW_region ?_
  refine AL_p (x_loadN (n := 1) rfl rfl rfl (by kernel_rfl) rfl rfl) ?_
  refine AL_p (x_field (off := 0) (o' := 0) rfl rfl rfl (by kernel_rfl) rfl) ?_
  refine AL_p (x_load1 rfl rfl rfl (by kernel_rfl) rfl) ?_
  refine AL_p (x_loadN (n := 2) rfl rfl rfl (by kernel_rfl) rfl rfl) ?_
  refine AL_p (x_call0 rfl rfl rfl (withF_c out (d.changes[k]'(by omega)).name (nextRel out (d.changes[k]'(by omega))).1 (by omega)) rfl rfl) ?_
  refine AL_p (x_store (n := 1) rfl rfl rfl rfl (by kernel_rfl) rfl rfl rfl) ?_
  refine AL_nil ?_
  refine AW_region ?_
  refine AL_p (x_add rfl rfl rfl (IntWalk.i64_in _ (by omega))) ?_
  refine AL_p (x_move rfl rfl) ?_
  refine AL_nil ?_
  refine ⟨⟨⟨k + 1, (withRel out ⟨(d.changes[k]'(by omega)).name, (nextRel out (d.changes[k]'(by omega))).1⟩)⟩, ⟨⟨by omega, by have := withRel_len (out := out) (nw := ⟨(d.changes[k]'(by omega)).name, (nextRel out (d.changes[k]'(by omega))).1⟩); dsimp only; omega⟩, withRel_all (apQ_next hq hf hd hk2 h49) hq, hst ▸ hrun⟩⟩, rn [], ?_, by dsimp only; omega⟩
  exact ⟨by (repeat refine ⟨⟨_, rfl, by first | exact VLe.rf | exact vle_int (by dsimp only; omega)⟩, ?_⟩); exact trivial, by (repeat refine ⟨⟨_, rfl, by first | exact BLe.rf | exact BLe.box AllC.rf | exact BLe.arr (by exact rfl)⟩, ?_⟩); exact trivial, by repeat (first | exact trivial | refine ⟨⟨rfl, by first | (left; intro h; cases h) | (right; rfl), by first | exact (fun _ h => ⟨_, h⟩) | exact (fun _ _ => ⟨_, rfl⟩)⟩, ?_⟩), rfl⟩
end Go.Proofs.YtibhoanjglfaoaaGreat

/- Stores: their bytes tell them apart and are read back; how many bytes there are. -/
namespace Go.Proofs.YtibhoanjglfaoaaGreat
open Go.RowKit
set_option linter.unusedVariables false

theorem likeRel_self (a : Relt) : likeRel a a = true := by simp [likeRel, sameRows]
theorem name_self (a : ByteArray) : (a == a) = true := by rw [beq_toListBytes]; simp
theorem likeNamed_self (x : Namedt) : likeNamed x x = true := by simp [likeNamed, likeRel_self, name_self]
theorem sameStore_self {s : Storet} (h : storeOk s = true) : sameStore s s = true := by
  rw [sameStore_ok h h]
  exact likeNames_eq (k := s.rels.length) rfl (fun j _ _ _ => likeNamed_self _) (Nat.le_refl _)
/-! ### Bytes -/
def Byt (l : List Int) : Prop := ∀ x ∈ l, 0 ≤ x ∧ x ≤ 255
theorem Byt.app {a b : List Int} (h1 : Byt a) (h2 : Byt b) : Byt (a ++ b) := fun x hx => (List.mem_append.1 hx).elim (h1 x) (h2 x)
theorem Byt.one {n : Int} (h0 : 0 ≤ n) (h1 : n ≤ 255) : Byt [n] := fun x hx => by rw [List.mem_singleton.1 hx]; exact ⟨h0, h1⟩
theorem Byt.flat {α : Type} {f : α → List Int} {xs : List α} (h : ∀ x ∈ xs, Byt (f x)) : Byt (xs.flatMap f) := fun y hy => by
  obtain ⟨x, hx, h1⟩ := List.mem_flatMap.1 hy
  exact h x hx y h1
end Go.Proofs.YtibhoanjglfaoaaGreat

/- Deltas that are drawn (printed by walk.py) -/
namespace Go.Proofs.YtibhoanjglfaoaaGreat
open Go.RowKit
set_option linter.unusedVariables false
set_option linter.unusedSimpArgs false
set_option maxRecDepth 100000

set_option maxHeartbeats 4000000 in
theorem lawFnDelta.fn (b : List Int) : AC Tryz.prog 5 [.one (.sl (intE .u8) b)] [] (.one (.c (.bool true))) [] := by
  refine AC_body1 Tryz.func5 rfl rfl Tryz.ntmps5 rfl Tryz.results5 ?_
  refine AW_seq ?_
  refine AW_region ?_
  refine AL_p (x_assign rfl rfl) ?_
  refine AL_nil ?_
  refine AW_seq ?_
  refine AW_seq ?_
  refine AW_region ?_
  refine AL_p (x_move rfl rfl) ?_
  refine AL_p (x_len (E := 5) (n := 1) rfl rfl (by kernel_rfl)) ?_
  refine AL_b (x_gtr rfl rfl rfl) (fun b15 h15 => ?_)
  refine AL_nil ?_
  cases b15
  rotate_left
  · try simp only [tdy] at h15
    refine AW_condT rfl ?_
    refine AW_seq ?_
    refine AW_region ?_
    refine AL_p (x_assign rfl rfl) ?_
    refine AL_nil ?_
    refine AW_ret ?_
    exact ⟨rn [], ⟨⟨⟨_, rfl, vle_bool rfl⟩, trivial⟩, trivial, trivial, rfl⟩⟩
  try simp only [tdy] at h15
  have hb : b.length ≤ 1048576 := by omega
  obtain ⟨x, y, hxy, hdr⟩ := drawOf_x b hb
  have sx := hxy.1
  have sy := hxy.2
  have sd : smallDelta (deltaOf x y).1 := deltaOf_sm sx sy
  have sb : smallDelta (deltaBack (deltaOf x y).1) := deltaBack_sm sd
  refine AW_condF rfl ?_
  refine AW_skip ?_
  refine AW_seq ?_
  refine AW_region ?_
  refine AL_p (x_move rfl rfl) ?_
  refine AL_p (x_call0 rfl rfl rfl (hdr) rfl rfl) ?_
  refine AL_p (x_move rfl rfl) ?_
  refine AL_p (x_extract rfl rfl rfl) ?_
  refine AL_p (x_extract rfl rfl rfl) ?_
  refine AL_p (x_alloc (z := .agg #[.slice none 0 0]) 100 rfl (by kernel_rfl) rfl rfl rfl rfl) ?_
  refine AL_p (x_alloc (z := .agg #[.slice none 0 0]) 101 rfl (by kernel_rfl) rfl rfl rfl rfl) ?_
  refine AL_p (x_store (n := 1) rfl rfl rfl rfl (by kernel_rfl) rfl rfl rfl) ?_
  refine AL_p (x_store (n := 1) rfl rfl rfl rfl (by kernel_rfl) rfl rfl rfl) ?_
  refine AL_nil ?_
  refine AW_seq ?_
  refine AW_region ?_
  refine AL_p (x_loadN (n := 1) rfl rfl rfl (by kernel_rfl) rfl rfl) ?_
  refine AL_p (x_loadN (n := 1) rfl rfl rfl (by kernel_rfl) rfl rfl) ?_
  refine AL_p (x_call1 rfl rfl rfl (deltaOfI_c x y sx sy 102) rfl rfl rfl rfl) ?_
  refine AL_p (x_move rfl rfl) ?_
  refine AL_p (x_extract rfl rfl rfl) ?_
  refine AL_b (x_extract rfl rfl rfl) (fun b26 h26 => ?_)
  refine AL_p (x_alloc (z := .agg #[.slice none 0 0]) 103 rfl (by kernel_rfl) rfl rfl rfl rfl) ?_
  refine AL_p (x_store (n := 1) rfl rfl rfl rfl (by kernel_rfl) rfl rfl rfl) ?_
  refine AL_p (x_assign rfl rfl) ?_
  refine AL_nil ?_
  refine AW_seq ?_
  refine AW_shutB 102 103 0 rfl rfl rfl rfl ?_
  refine AW_region ?_
  refine AL_p (x_loadN (n := 1) rfl rfl rfl (by kernel_rfl) rfl rfl) ?_
  refine AL_p (x_loadN (n := 1) rfl rfl rfl (by kernel_rfl) rfl rfl) ?_
  refine AL_p (x_call1 rfl rfl rfl (deltaOfS_c x y sx sy 104) rfl rfl rfl rfl) ?_
  refine AL_p (x_move rfl rfl) ?_
  refine AL_p (x_extract rfl rfl rfl) ?_
  refine AL_b (x_extract rfl rfl rfl) (fun b32 h32 => ?_)
  refine AL_p (x_alloc (z := .agg #[.slice none 0 0]) 105 rfl (by kernel_rfl) rfl rfl rfl rfl) ?_
  refine AL_p (x_store (n := 1) rfl rfl rfl rfl (by kernel_rfl) rfl rfl rfl) ?_
  refine AL_p (x_assign rfl rfl) ?_
  refine AL_nil ?_
  refine AW_seq ?_
  refine AW_seq ?_
  refine AW_region ?_
  refine AL_p (x_move rfl rfl) ?_
  refine AL_p (x_move rfl rfl) ?_
  refine AL_b (x_bneq rfl rfl rfl (by kernel_rfl)) (fun b35 h35 => ?_)
  refine AL_nil ?_
  cases b35
  rotate_left
  · exfalso; rw [← h26, ← h32] at h35; simp at h35
  try simp only [tdy] at h35
  refine AW_condF rfl ?_
  refine AW_skip ?_
  refine AW_seq ?_
  refine AW_seq ?_
  refine AW_region ?_
  refine AL_p (x_move rfl rfl) ?_
  refine AL_p (x_not rfl rfl) ?_
  refine AL_nil ?_
  cases b26
  · try simp only [tdy] at h26
    have he := delta_not h26
    refine AW_condT rfl ?_
    refine AW_seq ?_
    refine AW_region ?_
    refine AL_p (x_field (off := 0) (o' := 0) rfl rfl rfl (by kernel_rfl) rfl) ?_
    refine AL_p (x_load1 rfl rfl rfl (by kernel_rfl) rfl) ?_
    refine AL_p (x_len (E := 65) (n := 5) rfl rfl (by kernel_rfl)) ?_
    refine AL_b (x_eql rfl rfl rfl) (fun b41 h41 => ?_)
    refine AL_p (x_assign rfl rfl) ?_
    refine AL_nil ?_
    refine AW_ret ?_
    cases b41
    · exfalso; rw [he] at h41; simp at h41
    try simp only [tdy] at h41
    exact ⟨rn [], ⟨⟨⟨_, rfl, vle_bool rfl⟩, trivial⟩, trivial, trivial, rfl⟩⟩
  try simp only [tdy] at h26
  have e1 := delta_there h26
  have e2 := delta_home h26
  have e3 := delta_right h26
  have ox := (deltaOf_is h26).1
  have oy := (deltaOf_is h26).2.1
  refine AW_condF rfl ?_
  refine AW_skip ?_
  refine AW_seq ?_
  refine AW_region ?_
  refine AL_p (x_loadN (n := 1) rfl rfl rfl (by kernel_rfl) rfl rfl) ?_
  refine AL_p (x_loadN (n := 1) rfl rfl rfl (by kernel_rfl) rfl rfl) ?_
  refine AL_p (x_call0 rfl rfl rfl (deltaApplyF_c x (deltaOf x y).1 sx sd) rfl rfl) ?_
  refine AL_p (x_move rfl rfl) ?_
  refine AL_p (x_extract rfl rfl rfl) ?_
  refine AL_b (x_extract rfl rfl rfl) (fun b47 h47 => ?_)
  refine AL_p (x_alloc (z := .agg #[.slice none 0 0]) 106 rfl (by kernel_rfl) rfl rfl rfl rfl) ?_
  refine AL_p (x_store (n := 1) rfl rfl rfl rfl (by kernel_rfl) rfl rfl rfl) ?_
  refine AL_p (x_assign rfl rfl) ?_
  refine AL_nil ?_
  refine AW_seq ?_
  refine AW_draw rfl ?_
  refine AL_p (x_loadN (n := 1) rfl rfl rfl (by kernel_rfl) rfl rfl) ?_
  refine AL_p (x_loadN (n := 1) rfl rfl rfl (by kernel_rfl) rfl rfl) ?_
  refine AL_p (x_call0 rfl rfl rfl (AC.frz (deltaBackI_c (deltaOf x y).1 sd 0) rfl (by intro k hk; simpa [AVal.ids, Cell.ids] using hk)) rfl rfl) ?_
  refine AL_p (x_call0 rfl rfl rfl (deltaApplyF_c y (deltaBack (deltaOf x y).1) sy sb) rfl rfl) ?_
  refine AL_p (x_move rfl rfl) ?_
  refine AL_p (x_extract rfl rfl rfl) ?_
  refine AL_b (x_extract rfl rfl rfl) (fun b54 h54 => ?_)
  refine AL_p (x_alloc (z := .agg #[.slice none 0 0]) 107 rfl (by kernel_rfl) rfl rfl rfl rfl) ?_
  refine AL_p (x_store (n := 1) rfl rfl rfl rfl (by kernel_rfl) rfl rfl rfl) ?_
  refine AL_p (x_assign rfl rfl) ?_
  refine AL_nild (by kernel_rfl) ?_
  refine AW_seq ?_
  refine AW_region ?_
  refine AL_p (x_move rfl rfl) ?_
  refine AL_p (x_move rfl rfl) ?_
  cases b47
  · exfalso; rw [e1] at h47; cases h47
  try simp only [tdy] at h47
  refine AL_g rfl rfl (x_move rfl rfl) ?_
  refine AL_p (x_pickT rfl rfl rfl) ?_
  refine AL_p (x_move rfl rfl) ?_
  cases b54
  · exfalso; rw [e2] at h54; cases h54
  try simp only [tdy] at h54
  refine AL_g rfl rfl (x_loadN (n := 1) rfl rfl rfl (by kernel_rfl) rfl rfl) ?_
  refine AL_g rfl rfl (x_loadN (n := 1) rfl rfl rfl (by kernel_rfl) rfl rfl) ?_
  refine AL_gb rfl rfl (x_call0 rfl rfl rfl (sameStoreS_c _ _ (by rw [e1]; exact sy) sy) rfl rfl) (fun b62 h62 => ?_)
  refine AL_p (x_pickT rfl rfl rfl) ?_
  refine AL_p (x_move rfl rfl) ?_
  cases b62
  · exfalso; rw [e1, sameStore_self oy] at h62; cases h62
  try simp only [tdy] at h62
  refine AL_g rfl rfl (x_loadN (n := 1) rfl rfl rfl (by kernel_rfl) rfl rfl) ?_
  refine AL_g rfl rfl (x_loadN (n := 1) rfl rfl rfl (by kernel_rfl) rfl rfl) ?_
  refine AL_gb rfl rfl (x_call0 rfl rfl rfl (sameStoreS_c _ _ (by rw [e2]; exact sx) sx) rfl rfl) (fun b67 h67 => ?_)
  refine AL_p (x_pickT rfl rfl rfl) ?_
  refine AL_p (x_move rfl rfl) ?_
  cases b67
  · exfalso; rw [e2, sameStore_self ox] at h67; cases h67
  try simp only [tdy] at h67
  refine AL_g rfl rfl (x_loadN (n := 1) rfl rfl rfl (by kernel_rfl) rfl rfl) ?_
  refine AL_gb rfl rfl (x_call0 rfl rfl rfl (deltaOkI_c (deltaOf x y).1 sd) rfl rfl) (fun b71 h71 => ?_)
  refine AL_p (x_pickT rfl rfl rfl) ?_
  refine AL_p (x_assign rfl rfl) ?_
  refine AL_nil ?_
  refine AW_ret ?_
  cases b71
  · exfalso; rw [e3] at h71; cases h71
  try simp only [tdy] at h71
  exact ⟨rn [], ⟨⟨⟨_, rfl, vle_bool rfl⟩, trivial⟩, trivial, trivial, rfl⟩⟩
theorem lawFnDelta.walk (w : World) (a0 : Option Addr) (n0 c0 : Nat) (x0 : List Int) (bs0 : List Nat) (g0 : SliceRep (intE .u8) w a0 n0 c0 x0 bs0) : Calls Tryz.prog 5 #[.slice a0 n0 c0] w fun e w' => e = .returned (.bool true) ∧ Below w.heap.size w w' :=
  (lawFnDelta.fn x0).calls w _ ⟨arg_sl g0 (fun i hi => (sliceE (intE .u8)).lt (sliceE_iff.2 g0) i hi), trivial⟩
end Go.Proofs.YtibhoanjglfaoaaGreat
