/- Lemmas of the walks, part 4. -/
import Derived.Test.YtibhoanjglfaoaaGreatP3
import Derived.Shelf.Spec.SlicesGrow
import Derived.Test.YtibhoanjglfaoaaGreatRows
import Derived.Lib.AppendStr
import Derived.Lib.ConvBytes
import Derived.Lib.BufferRead
/- slices.SortFunc on rows: the library's contract ars one on an array of one's own. -/
namespace Go.Proofs.YtibhoanjglfaoaaGreat
open Go.RowKit
set_option linter.unusedVariables false

/-- A row of the world, its block g apart. -/
abbrev RowAt (w : World) (g : Nat) : Type := { r : Raw (List Val) // rowE.rep w r.vs r.x r.b ∧ (∀ v ∈ r.x, valOk v = true) ∧ ∀ b ∈ r.b, b ≠ g }
instance {w : World} {g : Nat} : Inhabited (RowAt w g) := ⟨⟨⟨[], [.slice none 0 0], []⟩, rowE_rep.2 ⟨none, 0, 0, rfl, rfl, Nat.le_refl _, Nat.zero_le _, fun _ => rfl, .inl ⟨rfl, rfl⟩⟩, fun v h => (by cases h), fun b h => (by cases h)⟩⟩
def encR (w : World) (g : Nat) (r : RowAt w g) : List Value := r.1.vs
def cmpR (w : World) (g : Nat) (a b : RowAt w g) : Int := cmpRow a.1.x b.1.x
section
variable {w : World} {g : Nat}
theorem encR_one (r : RowAt w g) : ∃ a n c, r.1.vs = [.slice a n c] := by
  obtain ⟨a, n, c, h, _⟩ := rowE_rep.1 r.2.1
  exact ⟨a, n, c, h⟩
theorem sortw_heap {n : Nat} {d : Array (RowAt w g)} {os : Array Obj} {b : Nat} (hb : b < w.heap.size) (hne : b ≠ g) : (sortWorldK (encR w g) 1 w g 0 n d os).heap[b]? = w.heap[b]? := by
  unfold sortWorldK
  rw [Go.Sort.heap_grow_old _ _ (by simpa [Go.Sort.putRowK, Go.Sort.ahead] using hb)]
  simp [Go.Sort.putRowK, Go.Sort.putRow, Go.Sort.mapBlock, Go.Sort.ahead, Array.getElem?_modify, Ne.symm hne]
theorem swoR : Go.Sort.SWO (ltOf (cmpR w g)) where
  irrefl x := by simp [ltOf, cmpR, cmpRow_self]
  trans x y z h1 h2 := by
    have h1 : cmpRow x.1.x y.1.x < 0 := of_decide_eq_true h1
    have h2 : cmpRow y.1.x z.1.x < 0 := of_decide_eq_true h2
    exact decide_eq_true (cmpRow_trans x.2.2.1 y.2.2.1 z.2.2.1 h1 h2)
  ntrans x y z h1 h2 := by
    have h1 : ¬ cmpRow x.1.x y.1.x < 0 := of_decide_eq_false h1
    have h2 : ¬ cmpRow y.1.x z.1.x < 0 := of_decide_eq_false h2
    refine decide_eq_false fun h3 => ?_
    have h3 : cmpRow x.1.x z.1.x < 0 := h3
    by_cases h : cmpRow x.1.x y.1.x = 0
    · have := cmpRow_eq x.2.2.1 y.2.2.1 h
      rw [this] at h3; exact h2 h3
    · have hyx : cmpRow y.1.x x.1.x < 0 := by rw [cmpRow_neg]; omega
      exact h2 (cmpRow_trans y.2.2.1 x.2.2.1 z.2.2.1 hyx h3)
theorem cmpLaysR (size : Nat) : CmpLays Tryz.prog 82 #[] (encR w g) 1 (cmpR w g) g 0 size w := fun m os dk hs x y => by
  have up : ∀ r : RowAt w g, rowE.rep (sortWorldK (encR w g) 1 w g 0 m dk os) r.1.vs r.1.x r.1.b := fun r =>
    rowE.keep r.2.1 (fun b hb => sortw_heap (rowE.lt r.2.1 b hb) (r.2.2.2 b hb)) (by
      unfold sortWorldK
      rw [Go.Sort.size_grow]
      simp [Go.Sort.putRowK, Go.Sort.ahead])
  obtain ⟨a, n, c, h1, h2⟩ := rowE_rep.1 (up x)
  obtain ⟨a', n', c', h1', h2'⟩ := rowE_rep.1 (up y)
  generalize sortWorldK (encR w g) 1 w g 0 m dk os = W at *
  have e : (#[.agg (encR w g x).toArray, .agg (encR w g y).toArray] ++ #[] : Array Value) = #[.agg #[.slice a n c], .agg #[.slice a' n' c']] := by simp [encR, h1, h1']
  rw [e]
  refine (byRow_lay a n c x.1.x x.1.b a' n' c' y.1.x y.1.b W h2 h2' x.2.2.1 y.2.2.1).mono ?_
  rintro e w' ⟨rfl, _, hl⟩
  exact ⟨rfl, hl⟩
end
theorem raw_all {α : Type} {e : Enc α} (h0 : 0 < e.size) {w : World} : ∀ {zs : List (Raw α)} {cells : List Value} {b3 : List Nat}, FR w cells (zs.flatMap fun r => rxC e r e.size 0) b3 → cells = zs.flatMap Raw.vs ∧ ∀ r ∈ zs, e.rep w r.vs r.x r.b
  | [], [], b3, h => ⟨rfl, fun r hr => by cases hr⟩
  | [], _ :: _, b3, h => h.elim
  | r :: zs, cells, b3, h => by
    rw [List.flatMap_cons] at h
    obtain ⟨v1, v2, b1, b2, rfl, rfl, h1, h2⟩ := FR.app.1 h
    obtain ⟨rfl, hr⟩ := rx_rep h0 h1
    obtain ⟨e2, h3⟩ := raw_all h0 h2
    refine ⟨by rw [List.flatMap_cons, e2], fun q hq => ?_⟩
    rcases List.mem_cons.1 hq with rfl | hq
    · exact hr
    · exact h3 q hq
theorem lift_all {β : Type} {p : β → Prop} : ∀ {zs : List β}, (∀ r ∈ zs, p r) → ∃ l : List { r // p r }, l.map (·.1) = zs
  | [], _ => ⟨[], rfl⟩
  | z :: zs, h => by
    obtain ⟨l, hl⟩ := lift_all (zs := zs) fun r hr => h r (List.mem_cons_of_mem _ hr)
    exact ⟨⟨z, h z List.mem_cons_self⟩ :: l, by rw [List.map_cons, hl]⟩
def hdR {w : World} {g : Nat} (r : RowAt w g) : Value := r.1.vs.headD (.slice none 0 0)
theorem encR_hd {w : World} {g : Nat} (r : RowAt w g) : encR w g r = [hdR r] := by
  obtain ⟨a, n, c, h⟩ := encR_one r
  simp [encR, hdR, h]
theorem flatR {w : World} {g : Nat} (l : List (RowAt w g)) : (l.map (·.1)).flatMap Raw.vs = l.map hdR := by
  induction l with
  | nil => rfl
  | cons r l ih =>
    have := encR_hd r
    rw [List.map_cons, List.flatMap_cons, ih, List.map_cons]
    show r.1.vs ++ _ = _
    rw [show r.1.vs = encR w g r from rfl, this]; rfl
theorem frR {w : World} {g : Nat} : ∀ (l : List (RowAt w g)), FR w (l.map hdR) ((l.map (·.1.x)).flatMap rowC) (feet (l.map (·.1)))
  | [] => rfl
  | r :: l => by
    rw [List.map_cons, List.map_cons, List.flatMap_cons]
    have h1 : FR w [hdR r] (rowC r.1.x) r.1.b := by
      rw [← encR_hd r]
      exact (CellsOf.iff (e := rowE)).1 r.2.1
    exact FR.app.2 ⟨[hdR r], _, _, _, rfl, by simp [feet], h1, frR l⟩
theorem flatK_map {w : World} {g : Nat} (d : Array (RowAt w g)) : Go.Sort.flatK (encR w g) 1 d = (d.toList.map hdR).toArray := by
  apply Go.Sort.ext_get!
  · simp
  · intro t ht
    have ht' : t < d.size := by simpa using ht
    rw [Go.Sort.get_flatK _ _ _ _ (by simpa using ht'), Nat.div_one, Nat.mod_one, encR_hd, getElem!_pos d t ht', getElem!_pos (d.toList.map hdR).toArray t (by simpa using ht')]
    simp
theorem putAll {cur : Array Value} {vs : List Value} (h : vs.length ≤ cur.size) : (Go.Sort.putCells id 0 vs.toArray cur).toList.take vs.length = vs := by
  apply List.ext_getElem?
  intro j
  by_cases hj : j < vs.length
  · rw [List.getElem?_take_of_lt hj, Array.getElem?_toList]
    simp [Go.Sort.putCells, hj, show j < cur.size by omega]
  · rw [List.getElem?_take_eq_none (by omega), List.getElem?_eq_none (by omega)]

set_option maxRecDepth 100000 in
theorem insNil (w : World) : Calls Tryz.prog 146 #[.slice none 0 0, .int .i64 0, .int .i64 0, .func (.func 82) #[] #[]] w fun en w' => en = .returned (.tuple #[]) ∧ Below w.heap.size w w' := by
  go_enter Tryz.func146, Tryz.ntmps146
  go_wp2
  go_loopw [8] (fun i W => i = .int .i64 1 ∧ Held w [] W) (fun _ _ => 0)
  case atStart => exact ⟨rfl, Held.start w⟩
  case round =>
    obtain ⟨rfl, H⟩ := hrel
    go_wp2_with fail
    go_end0
    exact ⟨rfl, H.below⟩
set_option maxRecDepth 100000 in
theorem pdqNil (w : World) : Calls Tryz.prog 122 #[.slice none 0 0, .int .i64 0, .int .i64 0, .int .i64 0, .func (.func 82) #[] #[]] w fun en w' => en = .returned (.tuple #[]) ∧ Below w.heap.size w w' := by
  go_enter Tryz.func122, Tryz.ntmps122
  go_wp2
  go_loopw [1, 2] (fun i j W => i = .int .i64 0 ∧ j = .int .i64 0 ∧ Held w [] W) (fun _ _ _ => 0)
  case atStart => exact ⟨rfl, rfl, Held.start w⟩
  case round =>
    obtain ⟨rfl, rfl, H⟩ := hrel
    go_wp2_with fail
    refine (insNil _).mono ?_
    rintro e w1 ⟨rfl, hb⟩
    go_wp2_with fail
    refine bodyPost_ret (results_none rfl _ _ _) rfl ?_
    exact ⟨rfl, (H.up hb).below⟩
set_option maxRecDepth 100000 in
theorem sortNil (w : World) : Calls Tryz.prog 81 #[.slice none 0 0, .func (.func 82) #[] #[]] w fun en w' => en = .returned (.tuple #[]) ∧ Below w.heap.size w w' := by
  have L := Tryz.laysSort
  have hl : Calls Tryz.prog 123 #[.int .u64 0] w fun e w' => e = .returned (.int .i64 0) ∧ w' = w := by
    have h := Any.bits_Len (SlLaysF0.n15.bits (P := Tryz.prog) (ρ := Tryz.laysSort_ren) { L with }) 0 w (by omega) (by omega)
    exact h
  go_enter Tryz.func81, Tryz.ntmps81
  go_wp2_with (first | (go_at_call 123; refine hl.mono ?_; rintro e w' ⟨rfl, rfl⟩) | (go_at_call 122; refine (pdqNil _).mono ?_; rintro e w' ⟨rfl, hb⟩))
  go_end0
  exact ⟨rfl, hb⟩

set_option maxHeartbeats 1000000 in
theorem sortRow_any (w : World) (v : Value) (rows : List (List Val)) (cells : List Value) (bs : List Nat) (hown : w.ownsRow 0 72 1 v rows.length cells) (hF : FR w cells (rows.flatMap rowC) bs) (hv : ValsOk rows) (hb : ∀ b ∈ bs, v.ownBlock ≠ some b) (hl : rows.length ≤ 1048576) :
    Calls Tryz.prog 81 #[v, .func (.func 82) #[] #[]] w fun en w' => en = .returned (.tuple #[]) ∧
      ∃ ys cells' bs', ys.Perm rows ∧ Weak ys ∧ w'.ownsRow 0 72 1 v ys.length cells' ∧ w.grownBy w' v.ownBlock ∧ FR w cells' (ys.flatMap rowC) bs' ∧ bs'.Perm bs := by
  rcases hown.2 with ⟨rfl, h0⟩ | ⟨g, cap, cur, rfl, _, hg, hle, hcap, hsz, htk⟩
  · have e0 : rows = [] := List.eq_nil_of_length_eq_zero h0
    subst e0
    refine (sortNil w).mono ?_
    rintro en w' ⟨rfl, hbw⟩
    have e1 : cells = [] := List.eq_nil_of_length_eq_zero (by simpa using hown.1)
    subst e1
    exact ⟨rfl, [], [], bs, List.Perm.refl _, List.Pairwise.nil, ⟨by simp, .inl ⟨rfl, rfl⟩⟩, ⟨hbw.os, hbw.tape, hbw.output, hbw.size, fun k hk _ => hbw.block k hk⟩, hF, List.Perm.refl _⟩
  · have hgl : g < w.heap.size := (Array.getElem?_eq_some_iff.1 hg).1
    obtain ⟨zs, q1, q2, b3, q3, q4⟩ := raw_of (e := rowE) hF
    obtain ⟨rfl, hreps⟩ := raw_all (e := rowE) (by decide) q3
    have H : ∀ r ∈ zs, rowE.rep w r.vs r.x r.b ∧ (∀ v ∈ r.x, valOk v = true) ∧ ∀ b ∈ r.b, b ≠ g := fun r hr => by
      refine ⟨hreps r hr, hv _ (by rw [← q1]; exact List.mem_map_of_mem hr), fun b hbr e => ?_⟩
      have : b ∈ bs := by
        rw [← q2]
        exact List.mem_flatten.2 ⟨r.b, List.mem_map_of_mem hr, hbr⟩
      exact hb b this (by rw [e]; rfl)
    obtain ⟨l, hl1⟩ : ∃ l : List (RowAt w g), l.map (·.1) = zs := lift_all H
    have hx : l.map (fun r => r.1.x) = rows := by rw [← q1, ← hl1, List.map_map]; rfl
    have hll : l.length = rows.length := by rw [← hx, List.length_map]
    have hcl : zs.flatMap Raw.vs = l.map hdR := by rw [← hl1]; exact flatR l
    rw [hcl] at htk hown hF q3
    have hH : Go.Sort.HoldsK (encR w g) 1 w g 0 l.toArray := by
      unfold Go.Sort.HoldsK
      rw [flatK_map]
      intro j hj
      have hj' : j < l.length := by simpa using hj
      refine ⟨?_, by simp [World.frozen?, hg]⟩
      have h1 : (cur.toList.take (rows.length * 1))[j]? = (l.map hdR)[j]? := by rw [htk]
      rw [List.getElem?_take_of_lt (by omega)] at h1
      simp only [World.cell?, hg, Nat.zero_add, Option.isSome_none, Bool.false_eq_true, if_false]
      rw [← Array.getElem?_toList, h1, getElem!_pos _ j hj]
      simp [hj']
    have hc := AnyQ.slices_SortFunc (P := Tryz.prog) (ρ := Tryz.laysSort_ren) Tryz.laysSort 1 Tryz.isAgg72 Tryz.sizeOf72 (encR w g) (fun r => by rw [encR_hd]; rfl) (fun r u hu => by
      obtain ⟨a, n, c, h⟩ := encR_one r
      rw [show encR w g r = r.1.vs from rfl, h] at hu
      rw [List.mem_singleton.1 hu]; rfl) (cmpR w g) swoR 82 #[] g 0 cap l.toArray w (enters_of Tryz.func82 (by kernel_rfl) rfl) (cmpLaysR _) hH hgl (by simp; omega)
    have hsz' : l.toArray.size = rows.length := by simp [hll]
    rw [hsz'] at hc
    refine Calls.mono hc ?_
    rintro en w' ⟨rfl, d, n, os, hp, hs, rfl⟩
    have hds : d.size = rows.length := by rw [hp.1, hsz']
    have hperm : d.toList.Perm l := by
      have h1 := hp.2.2
      have a1 : d.extract 0 rows.length = d := by rw [← hds]; simp
      have a2 : l.toArray.extract 0 rows.length = l.toArray := by rw [← hsz']; simp
      rw [a1, a2] at h1
      exact h1
    have hfl : Go.Sort.flatK (encR w g) 1 d = (d.toList.map hdR).toArray := flatK_map d
    have hcur : (d.toList.map (hdR (w := w) (g := g))).length ≤ cur.size := by rw [List.length_map, Array.length_toList, hds, hsz]; omega
    refine ⟨rfl, d.toList.map (fun r => r.1.x), d.toList.map hdR, feet (d.toList.map (·.1)), ?_, ?_, ⟨by simp, .inr ⟨g, cap, Go.Sort.putCells id 0 (d.toList.map hdR).toArray cur, by simp [hds], Nat.zero_le _, ?_, by simpa [hds] using hle, hcap, by simpa [Go.Sort.putCells] using hsz, ?_⟩⟩, ⟨rfl, rfl, rfl, by
        unfold sortWorldK
        rw [Go.Sort.size_grow]
        simp [Go.Sort.putRowK, Go.Sort.ahead], fun k hk hne => sortw_heap hk fun e => hne (by rw [e]; rfl)⟩, frR _, ?_⟩
    · rw [← hx]; exact hperm.map _
    · refine List.pairwise_iff_getElem.2 fun i j hi hj hij => ?_
      have hi' : i < d.size := by simpa using hi
      have hj' : j < d.size := by simpa using hj
      have h1 := hs i j (Nat.zero_le _) hij (by omega)
      rw [getElem!_pos d i hi', getElem!_pos d j hj'] at h1
      have h2 : ¬ cmpRow d[j].1.x d[i].1.x < 0 := of_decide_eq_false h1
      simpa using h2
    · unfold sortWorldK
      rw [Go.Sort.heap_grow_old _ _ (by simpa [Go.Sort.putRowK, Go.Sort.ahead] using hgl)]
      simp [Go.Sort.putRowK, Go.Sort.putRow, Go.Sort.mapBlock, Go.Sort.ahead, Array.getElem?_modify, hg, Go.Sort.onCells, hfl]
    · have := putAll hcur
      simpa using this
    · rw [← q2, ← hl1]
      exact feet_perm (hperm.map _)
/-- The order of right rows is one. -/
theorem weak_unique : ∀ {a b : List (List Val)}, ValsOk a → a.Perm b → Weak a → Weak b → a = b
  | [], b, _, hp, _, _ => hp.nil_eq
  | x :: xs, [], _, hp, _, _ => absurd hp.length_eq (by simp)
  | x :: xs, y :: ys, hv, hp, ha, hb => by
    obtain ⟨h1, h2⟩ := List.pairwise_cons.1 ha
    obtain ⟨g1, g2⟩ := List.pairwise_cons.1 hb
    have hvb : ValsOk (y :: ys) := fun r hr => hv r (hp.mem_iff.2 hr)
    have le1 : ¬ cmpRow y x < 0 := by
      rcases List.mem_cons.1 (hp.mem_iff.2 (List.mem_cons_self (a := y) (l := ys))) with e | e
      · rw [e, cmpRow_self]; omega
      · exact h1 y e
    have le2 : ¬ cmpRow x y < 0 := by
      rcases List.mem_cons.1 (hp.mem_iff.1 (List.mem_cons_self (a := x) (l := xs))) with e | e
      · rw [e, cmpRow_self]; omega
      · exact g1 x e
    have e : x = y := cmpRow_eq (hv x List.mem_cons_self) (hvb y List.mem_cons_self) (by rw [cmpRow_neg] at le1; omega)
    subst e
    rw [weak_unique (fun r hr => hv r (List.mem_cons_of_mem _ hr)) (List.Perm.cons_inv hp) h2 g2]
open Classical in
/-- Rows in order. -/
noncomputable def ordRows (rows : List (List Val)) : List (List Val) := if h : ∃ ys : List (List Val), ys.Perm rows ∧ Weak ys then h.choose else rows
theorem ordRows_eq {rows ys : List (List Val)} (hv : ValsOk rows) (hp : ys.Perm rows) (hw : Weak ys) : ys = ordRows rows := by
  have h : ∃ ys : List (List Val), ys.Perm rows ∧ Weak ys := ⟨ys, hp, hw⟩
  have h2 := h.choose_spec
  unfold ordRows
  rw [dif_pos h]
  exact weak_unique (fun r hr => hv r (hp.mem_iff.1 hr)) (hp.trans h2.1.symm) hw h2.2
theorem sortRow_c (rows : List (List Val)) (hv : ValsOk rows) (hl : rows.length ≤ 1048576) (d : Bool) :
    AC Tryz.prog 81 [.one (.own 0), .one (.clo 82 [])] [(0, some (.arr 72 rowE rows d))] (.tup []) [(0, some (.arr 72 rowE (ordRows rows) d))] :=
  AC.inplace ⟨_, _, Tryz.func81, rfl, rfl⟩ fun w v vs cells bs g ha hown hF h1 hb => by
    match vs, ha with
    | [u], ha =>
      obtain rfl : u = .func (.func 82) #[] #[] := ha.1 (fun k hk => by cases hk)
      refine (sortRow_any w v rows cells bs hown hF hv hb hl).mono ?_
      rintro en w' ⟨rfl, ys, cells', bs', p1, p2, p3, p4, p5, p6⟩
      rw [ordRows_eq hv p1 p2] at p3 p5
      exact ⟨rfl, cells', bs', p3, p4, p5, p6⟩
end Go.Proofs.YtibhoanjglfaoaaGreat

/- What the sort and the compaction of rows make: the rows in order, each once. -/
namespace Go.Proofs.YtibhoanjglfaoaaGreat
open Go.RowKit
set_option linter.unusedVariables false

theorem nlt_trans {a b c : List Val} (ha : ∀ v ∈ a, valOk v = true) (hb : ∀ v ∈ b, valOk v = true) (hc : ∀ v ∈ c, valOk v = true) (h1 : ¬ cmpRow a b < 0) (h2 : ¬ cmpRow b c < 0) : ¬ cmpRow a c < 0 := fun h3 => by
  by_cases h : cmpRow a b = 0
  · rw [cmpRow_eq ha hb h] at h3; exact h2 h3
  · have hyx : cmpRow b a < 0 := by rw [cmpRow_neg]; omega
    exact h2 (cmpRow_trans hb ha hc hyx h3)
theorem weak_ins (x : List Val) (hx : ∀ v ∈ x, valOk v = true) : ∀ {ys : List (List Val)}, ValsOk ys → Weak ys → ∃ zs : List (List Val), zs.Perm (x :: ys) ∧ Weak zs
  | [], _, _ => ⟨[x], List.Perm.refl _, List.pairwise_singleton _ _⟩
  | y :: t, hv, hw => by
    obtain ⟨h1, h2⟩ := List.pairwise_cons.1 hw
    have hy := hv y List.mem_cons_self
    have ht : ValsOk t := fun r hr => hv r (List.mem_cons_of_mem _ hr)
    by_cases h : cmpRow y x < 0
    · obtain ⟨zs, p, w⟩ := weak_ins x hx ht h2
      refine ⟨y :: zs, (p.cons y).trans (List.Perm.swap x y t), List.pairwise_cons.2 ⟨fun b hb => ?_, w⟩⟩
      rcases List.mem_cons.1 (p.mem_iff.1 hb) with e | e
      · rw [e]; exact cmpRow_asym _ _ h
      · exact h1 b e
    · refine ⟨x :: y :: t, List.Perm.refl _, List.pairwise_cons.2 ⟨fun b hb => ?_, hw⟩⟩
      rcases List.mem_cons.1 hb with e | e
      · rw [e]; exact h
      · exact nlt_trans (ht b e) hy hx (h1 b e) h
theorem weak_exists : ∀ {rows : List (List Val)}, ValsOk rows → ∃ ys : List (List Val), ys.Perm rows ∧ Weak ys
  | [], _ => ⟨[], List.Perm.refl _, List.Pairwise.nil⟩
  | x :: t, hv => by
    obtain ⟨ys, p, w⟩ := weak_exists (rows := t) fun r hr => hv r (List.mem_cons_of_mem _ hr)
    obtain ⟨zs, p2, w2⟩ := weak_ins x (hv x List.mem_cons_self) (ys := ys) (fun r hr => hv r (List.mem_cons_of_mem _ (p.mem_iff.1 hr))) w
    exact ⟨zs, p2.trans (p.cons x), w2⟩
theorem ordRows_perm {rows : List (List Val)} (hv : ValsOk rows) : (ordRows rows).Perm rows := by
  obtain ⟨ys, p, w⟩ := weak_exists hv
  rw [← ordRows_eq hv p w]; exact p
theorem ordRows_weak {rows : List (List Val)} (hv : ValsOk rows) : Weak (ordRows rows) := by
  obtain ⟨ys, p, w⟩ := weak_exists hv
  rw [← ordRows_eq hv p w]; exact w
theorem ordRows_uniq {rows : List (List Val)} (hv : ValsOk rows) : uniq (ordRows rows) = sortRows rows := uniq_sort (ordRows_perm hv) (ordRows_weak hv) hv
theorem ordRows_len {rows : List (List Val)} (hv : ValsOk rows) : (ordRows rows).length = rows.length := (ordRows_perm hv).length_eq
theorem ordRows_small {rows : List (List Val)} (hv : ValsOk rows) {n : Nat} (h : ∀ r ∈ rows, r.length ≤ n) : ∀ r ∈ ordRows rows, r.length ≤ n := fun r hr => h r ((ordRows_perm hv).mem_iff.1 hr)
/-! ### Lists joined -/
theorem flat_zero {α : Type} {xss : List (List α)} : ([] : List α) = (xss.take 0).flatten := rfl
theorem flat_more {α : Type} {xss : List (List α)} {k : Nat} (hk : k < xss.length) : (xss.take k).flatten ++ xss[k] = (xss.take (k + 1)).flatten := by
  rw [List.take_succ_eq_append_getElem hk, List.flatten_append]; simp
theorem flat_all {α : Type} {xss : List (List α)} {k : Nat} (hk : xss.length ≤ k) : (xss.take k).flatten = xss.flatten := by rw [List.take_of_length_le hk]
theorem flat_len1 {α : Type} {xss : List (List α)} {k : Nat} (hk : k < xss.length) : ((xss.take (k + 1)).flatten.length : Int) = (xss.take k).flatten.length + xss[k].length := by
  rw [← flat_more hk, List.length_append]; omega
theorem flat_le {α : Type} {xss : List (List α)} {k : Nat} : (xss.take k).flatten.length ≤ xss.flatten.length := by
  conv => rhs; rw [← List.take_append_drop k xss, List.flatten_append, List.length_append]
  omega
end Go.Proofs.YtibhoanjglfaoaaGreat

/- The kit's contract of slices.Grow laid at rows and at values. -/
namespace Go.Proofs
open Go.Shelf
def Tryz.growRow_ren : Go.Shelf.Ren := ⟨fun | 4 => 85 | n => n, fun | 22 => 61 | 25 => 72 | 3 => 3 | 4 => 4 | 9 => 9 | 20 => 20 | 0 => 0 | n => n, fun | n => n⟩
theorem Tryz.growRow : Go.Proofs.Lays8.n4 Tryz.prog Tryz.growRow_ren := {
  mixed := by kernel_rfl
  f4 := ⟨Tryz.f85.name, by decide, Tryz.func85.trans (congrArg some (by kernel_rfl))⟩
  t0 := Tryz.underlying0
  a0 := Tryz.isAgg0
  z0 := Tryz.sizeOf0
  v0 := Tryz.zeroValue0
  t3 := Tryz.underlying3
  a3 := Tryz.isAgg3
  z3 := Tryz.sizeOf3
  v3 := Tryz.zeroValue3
  t4 := Tryz.underlying4
  a4 := Tryz.isAgg4
  z4 := Tryz.sizeOf4
  v4 := Tryz.zeroValue4
  t9 := Tryz.underlying9
  a9 := Tryz.isAgg9
  z9 := Tryz.sizeOf9
  v9 := Tryz.zeroValue9
  t20 := Tryz.underlying20
  a20 := Tryz.isAgg20
  z20 := Tryz.sizeOf20
  v20 := Tryz.zeroValue20
  t22 := Tryz.underlying61
  a22 := Tryz.isAgg61
  z22 := Tryz.sizeOf61
  v22 := Tryz.zeroValue61 }
end Go.Proofs

/- slices.Grow of no slice: an array of one's own with no elements. -/
namespace Go.Proofs.YtibhoanjglfaoaaGreat
open Go.RowKit
set_option linter.unusedVariables false

/-- A function that makes an array with no elements. -/
theorem AC.room {P : Program} {f : FuncId} {args : List AVal} {α : Type} {E : TypeId} (e : Enc α) {fc : α → List Cell} [hc : CellsOf e fc] (hfn : Callable P f)
    (h : ∀ (w : World) (g : Gh) (cargs : Array Value), All2 (VR1 g [] w) cargs.toList args → Calls P f cargs w fun en w' => ∃ v', en = .returned v' ∧ w'.ownsRow 0 E e.size v' 0 [] ∧ w.grownBy w' none ∧ ∀ b, v'.ownBlock = some b → w.heap.size ≤ b) :
    AC P f args [] (.one (.own 0)) [(0, some (.arr (α := α) E e [] true))] := by
  refine ⟨hfn, fun g w cargs m ha => (h w g cargs ha).mono ?_⟩
  rintro en w' ⟨v', rfl, t1, t2, t3⟩
  obtain ⟨g', q1, q2, q3, q4, q5, q6, q7⟩ := arr_new (w' := w') m (k := 0) rfl (by simp [Locs.ids]) (js := []) (fz := []) (fun _ h => h) (fun j hj => by cases hj) (T := E) (e := e) (xs := []) (d := true) (blk := (v'.ownBlock).getD 0) (v := v') (fp := [])
    t2.os t2.tape t2.output t2.size (fun b hb _ => t2.block b hb (by simp))
    (ArrR.lay (cells := []) t1 (by rfl) (fun b hb => by cases hb) (fun b hb => ⟨by rw [hb]; rfl, fun hI => by
      rcases hI with hI | ⟨j, hj, _⟩
      · have h1 := m.ilt b hI
        have h2 := t3 b hb
        omega
      · cases hj⟩))
    (fun hv => by
      rcases t1.2 with ⟨h1, _⟩ | ⟨b, cap, cur, h1, _, h3, _⟩
      · exact absurd h1 hv
      · have hb : v'.ownBlock = some b := by rw [h1]; rfl
        rw [hb]
        exact ⟨(Array.getElem?_eq_some_iff.1 h3).1, .inl (t3 b hb)⟩)
    (fun _ => ⟨List.nodup_nil, fun b hb => by cases hb⟩)
  exact ⟨v', g', rfl, q3, fun β U e2 ys2 dd hcx => q2.symm, q4 _⟩
theorem growRow_c0 (n : Nat) (hn : n ≤ 2097152) : AC Tryz.prog 85 [.one (.c (.slice none 0 0)), .one (.c (.int .i64 (n : Int)))] [] (.one (.own 0)) [(0, some (.arr 72 rowE [] true))] :=
  AC.room rowE ⟨_, _, Tryz.func85, rfl, rfl⟩ fun w g cargs h => by
    obtain ⟨x, y, rfl, h1, h2⟩ := inv2 h
    rw [(inv_c h1).1, (inv_c h2).1]
    rcases Nat.eq_zero_or_pos n with h0 | h0
    · subst h0
      refine (Any8.slices_Grow_room Tryz.growRow none 0 0 0 w (Nat.le_refl _) (by omega) (by omega) (Nat.le_refl _)).mono ?_
      rintro en w' ⟨rfl, rfl⟩
      exact ⟨_, rfl, ⟨by simp, .inl ⟨rfl, rfl⟩⟩, ⟨rfl, rfl, rfl, Nat.le_refl _, fun _ _ _ => rfl⟩, fun b hb => by cases hb⟩
    · obtain ⟨hu, hn0, ti, z, hti, hz, hzs, htis, htib⟩ := arrT_spec (P := Tryz.prog) (T := 61) (E := 72) (n := 1) (b := 24) (by kernel_rfl)
      refine (Any8.slices_Grow_grow Tryz.growRow ti z hti hz (by omega) none 0 0 n [] w (Nat.le_refl _) (by omega) (by rw [htib]; omega) (by omega) (by simp) (fun _ => rfl) (fun a ha => by cases ha)).mono ?_
      rintro en w' ⟨rfl, rfl⟩
      have hG := grownCap_ge w (0 + n) 0 72
      have hM := grownCap_le_maxLen w (0 + n) 0 72 (by unfold maxLen; omega)
      refine ⟨_, rfl, ⟨by simp, .inr ⟨w.heap.size, _, _, rfl, Nat.zero_le _, heap_alloc_new w.drew _, Nat.zero_le _, hM, ?_, by simp⟩⟩, ⟨rfl, rfl, rfl, by simp, fun k hk _ => Below.heap_alloc w.drew _ k hk⟩, fun b hb => by
        have : w.heap.size = b := by simpa [Value.ownBlock] using hb
        omega⟩
      show (_ : Array Value).size = _ * 1
      simp only [Array.size_append, size_zeroCells, List.size_toArray, List.length_nil, hzs]
      show 0 + (0 + n - 0) * 1 + (grownCap w (0 + n) 0 72 - (0 + n)) * 1 = grownCap w (0 + n) 0 72 * 1
      omega
theorem growRow_c (n : Nat) (hn : n ≤ 2097152) (k : Nat) : AC Tryz.prog 85 [.one (.c (.slice none 0 0)), .one (.c (.int .i64 (n : Int)))] [] (.one (.own k)) [(k, some (.arr 72 rowE [] true))] := AC.at (growRow_c0 n hn) k
end Go.Proofs.YtibhoanjglfaoaaGreat

/- Texts and bytes in the abstract walk: the bytes of a text, appended. -/
namespace Go.Proofs.YtibhoanjglfaoaaGreat
open Go.RowKit
set_option linter.unusedVariables false

theorem u8_fine (b : UInt8) : (Lit.int .u8 (b.toNat : Int)).wf = true := by
  have := b.toNat_lt
  simp only [Lit.wf, Bool.and_eq_true, decide_eq_true_eq]
  have h1 : IntKind.u8.min = 0 := rfl
  have h2 : IntKind.u8.max = 255 := rfl
  rw [h1, h2]; omega
theorem FR.bytes {w : World} : ∀ (l : List UInt8), FR w (l.map fun b => Value.int .u8 b.toNat) ((l.map fun b => (b.toNat : Int)).flatMap fun n => [Cell.c (.int .u8 n)]) []
  | [] => rfl
  | b :: l => ⟨[], [], rfl, ⟨rfl, u8_fine b, rfl⟩, FR.bytes l⟩
section ops
variable {P : Program} {N : Nat} {s : St} {d : Nat} {ty : TypeId} {pos : String} {after : Array Edge} {gd : Option (Nat × Bool)}
/-- New blocks that nobody writes. -/
def Gh.more (g : Gh) (w w' : World) : Gh := { g with I := fun b => g.I b ∨ (w.heap.size ≤ b ∧ b < w'.heap.size) }
theorem MemR.grow {g : Gh} {l : Locs} {w w' : World} (m : MemR g l w) (hk : ∀ b, b < w.heap.size → w'.heap[b]? = w.heap[b]?) (hs : w.heap.size ≤ w'.heap.size) : MemR (g.more w w') l w' where
  ilt := fun b hb => hb.elim (fun h => Nat.lt_of_lt_of_le (m.ilt b h) hs) fun h => h.2
  box := fun k cs hl => by
    obtain ⟨vs, t, h1, h2, h3⟩ := m.box k cs hl
    have hlt : g.ρ k < w.heap.size := (Array.getElem?_eq_some_iff.1 h1).1
    refine ⟨vs, t, (hk _ hlt).trans h1, h2.mono fun a b _ hr => CellR.step (fun b hb => hk b (m.ilt b hb)) (fun _ h => .inl h) hs (fun _ _ => okK.same rfl rfl rfl) hr, fun h => h.elim h3 fun h => ?_⟩
    have h4 : w.heap.size ≤ g.ρ k := h.1
    omega
  arr := fun k α T e xs d hl => by
    rcases m.arr k α T e xs d hl with h | ⟨cap, vs, bss, h1, h2, h3, h4, h5, h6, h7, h8, h9⟩
    · exact .inl h
    · have hlt : g.ρ k < w.heap.size := (Array.getElem?_eq_some_iff.1 h4).1
      refine .inr ⟨cap, vs, bss, h1, h2, h3, (hk _ hlt).trans h4, h5, h6.keep (hk _ hlt) (fun b hb => hk b (m.ilt b (h7 b hb))) hs, fun b hb => .inl (h7 b hb), fun h => h.elim h8 fun h => ?_, h9⟩
      have h10 : w.heap.size ≤ g.ρ k := h.1
      omega
  dis := fun j k b b' h1 h2 h3 h4 h5 => m.dis j k b b' h1 h2 h3 (by cases b <;> exact h4) (by cases b' <;> exact h5)
  fr := fun k α T e xs hl => by
    obtain ⟨h1, h2⟩ := m.fr k α T e xs hl
    refine ⟨h1, fun b hb => ⟨.inl (h2 b hb).1, ?_⟩⟩
    obtain ⟨c, t, h⟩ := (h2 b hb).2
    exact ⟨c, t, (hk b (m.ilt b (h2 b hb).1)).trans h⟩
  fd := m.fd
end ops
end Go.Proofs.YtibhoanjglfaoaaGreat

/- Parts of slices and of texts; texts made of bytes; own arrays that are given up to be read alone. -/
namespace Go.Proofs.YtibhoanjglfaoaaGreat
open Go.RowKit
set_option linter.unusedVariables false

theorem run_sliceOf {P : Program} {T E n : Nat} (hT : sliceT P T = some (E, n)) (w : World) (a : Option Addr) (len cap : Nat) {lo hi : Option Value} {l h : Nat} (hlo : (lo = none ∧ l = 0) ∨ ∃ k, lo = some (.int k (l : Int))) (hhi : (hi = none ∧ h = len) ∨ ∃ k, hi = some (.int k (h : Int)))
    (h1 : l ≤ h) (h2 : h ≤ cap) : (Instr.sliceAt T (.slice a len cap) lo hi none).run P w = .ok (.slice (if cap = l then a else a.map (·.add (l * n))) (h - l) (cap - l)) w := by
  obtain ⟨hu, ii, hii, rfl⟩ := sliceT_spec hT
  have e1 : (0 : Int) ≤ (l : Int) ∧ (l : Int) ≤ (h : Int) := by omega
  have e2 : (0 : Int) ≤ (h : Int) ∧ (h : Int) ≤ (cap : Int) := by omega
  rcases hlo with ⟨rfl, rfl⟩ | ⟨k, rfl⟩ <;> rcases hhi with ⟨rfl, rfl⟩ | ⟨k', rfl⟩ <;>
    simp [Instr.sliceAt, Instr.slice, run_underlying hu, Instr.sliceBounds, run_sliceBound, sizeOf, typeInfo, *]
/-- A bound of a part: an operand, or the usual one. -/
inductive OB (t : Tmps) (dv : Nat) : Option Operand → List (Nat × AVal) → Nat → Prop
  | no : OB t dv none [] dv
  | yes {o : Operand} {k : IntKind} {v : Int} {l : Nat} (h : evo t o = some (.one (.c (.int k v)))) (hv : v = (l : Int)) : OB t dv (some o) (rdo o (.one (.c (.int k v)))) l
theorem OB.rd {t : Tmps} {dv : Nat} {o : Option Operand} {rd : List (Nat × AVal)} {l : Nat} (h : OB t dv o rd l) : ∀ p ∈ rd, lk t p.1 = some p.2 := by
  cases h with
  | no => intro p hp; cases hp
  | yes h hv => exact rdo_of h
theorem OB.ev {N : Nat} {t : Tmps} {dv : Nat} {o : Option Operand} {rd : List (Nat × AVal)} {l : Nat} (h : OB t dv o rd l) {g : Gh} {s : St} {a : Act} {w : World} (r : Rep N g s a w) (hr : ∀ p ∈ rd, lk s.t p.1 = some p.2) :
    (o.map a.eval = none ∧ l = dv) ∨ ∃ k, o.map a.eval = some (.int k (l : Int)) := by
  cases h with
  | no => exact .inl ⟨rfl, rfl⟩
  | yes h hv =>
    have e4 := (eval_ok r (evs_of h) hr : CellR g s.l w _ (.c _)).1
    subst hv
    exact .inr ⟨_, congrArg some e4⟩
section ops
variable {P : Program} {N : Nat} {s : St} {d : Nat} {ty : TypeId} {pos : String} {after : Array Edge} {gd : Option (Nat × Bool)}
/-- A part of an own array. -/
theorem x_oslice {α : Type} {e : Enc α} {xs : List α} {dp : Bool} {T E n l h K : Nat} {x : Operand} {lo hi : Option Operand} {rl rh : List (Nat × AVal)} (hN : Nat.blt d N = true) (hx : evo s.t x = some (.one (.own K))) (hl : lkl s.l K = some (.arr E e xs dp)) (hT : sliceT P T = some (E, n)) (hz : e.size = n) (ho : OB s.t 0 lo rl l) (hh : OB s.t xs.length hi rh h)
    (h1 : l ≤ h) (h2 : h ≤ xs.length) :
    Stp P N ⟨some d, .slice T x lo hi none, ty, pos, after, gd⟩ s ⟨(d, .one (.osl K l (h - l))) :: s.t, s.l⟩ ⟨rdo x (.one (.own K)) ++ (rl ++ rh), [(K, .arr E e xs dp)], [(d, .one (.osl K l (h - l)))], [], []⟩ :=
  Stp.pure rfl hN (fun p hp => by rcases List.mem_append.1 hp with hp | hp; exact rdo_of hx p hp; rcases List.mem_append.1 hp with hp | hp; exact ho.rd p hp; exact hh.rd p hp) (by simpa using hl) fun g s' a w ht hl' r => by
    have hK : lkl s'.l K = some (.arr E e xs dp) := hl' (K, .arr E e xs dp) (by simp)
    have e1 : a.eval x = g.hd K := (eval_ok r (evs_of hx) fun p hp => ht p (List.mem_append_left _ hp) : CellR g s'.l w _ (.own K)) _ _ _ _ _ hK
    have q1 := ho.ev r fun p hp => ht p (List.mem_append_right _ (List.mem_append_left _ hp))
    have q2 := hh.ev r fun p hp => ht p (List.mem_append_right _ (List.mem_append_right _ hp))
    rcases r.mem.arr K α E e xs dp hK with ⟨f1, f2, _⟩ | ⟨cap, vs, bss, f1, f2, f3, _⟩
    · subst f1
      have : h = 0 := by simpa using h2
      subst this
      have : l = 0 := by omega
      subst this
      have hrun := run_sliceOf hT w none 0 0 q1 q2 h1 h2
      refine ⟨.slice none 0 0, by simp only [execOp, e1, f2, Sem.run_bind, Option.map_none, hrun, Result.andThen_ok, Sem.run_pure]; rfl, fun β U f ys dq hq => .inl ⟨f2, rfl, rfl, rfl⟩⟩
    · have hrun := run_sliceOf hT w (some ⟨g.ρ K, 0, none⟩) xs.length cap q1 q2 h1 (by omega)
      refine ⟨_, by simp only [execOp, e1, f1, Sem.run_bind, Option.map_none, hrun, Result.andThen_ok, Sem.run_pure]; rfl, fun β U f ys dq hq => ?_⟩
      rw [hK] at hq; cases hq
      refine .inr ⟨xs.length, cap, if cap = l then 0 else l * n, f1, ?_, by omega, f2, fun hlc => by rw [if_neg (by omega), hz]⟩
      split <;> simp [addr_add]
theorem x_osllen {α : Type} {e : Enc α} {xs : List α} {dp : Bool} {T E n K l0 n0 : Nat} {x : Operand} (hN : Nat.blt d N = true) (h : evo s.t x = some (.one (.osl K l0 n0))) (hl : lkl s.l K = some (.arr E e xs dp)) (hT : sliceT P T = some (E, n)) (hb : n0 ≤ xs.length) :
    Stp P N ⟨some d, .call { callee := .builtin .len, args := #[x], argTypes := #[T] }, ty, pos, after, gd⟩ s ⟨(d, .one (.c (.int .i64 (n0 : Int)))) :: s.t, s.l⟩ ⟨rdo x (.one (.osl K l0 n0)), [(K, .arr E e xs dp)], [(d, .one (.c (.int .i64 (n0 : Int))))], [], []⟩ :=
  Stp.pure rfl hN (rdo_of h) (by simpa using hl) fun g s' a w ht hl' r => by
    have hK : lkl s'.l K = some (.arr E e xs dp) := hl' (K, .arr E e xs dp) (by simp)
    have hm : n0 ≤ maxLen := by
      rcases r.mem.arr K α E e xs dp hK with ⟨f1, f2, _⟩ | ⟨cap, vs, bss, f1, f2, f3, _⟩
      · subst f1; simp at hb; unfold maxLen; omega
      · omega
    rcases (eval_ok r (evs_of h) ht : CellR g s'.l w _ (.osl K l0 n0)) _ _ _ _ _ hK with ⟨f1, f2, f3, f4⟩ | ⟨len, cap, off, f1, f2, f3, f4, f5⟩
    · subst f4
      refine ⟨_, run_builtin rfl (v := .int .i64 ((0 : Nat) : Int)) ?_, rfl, wf_len hm⟩
      simp [builtin, Builtin.len_, run_underlying (sliceT_spec hT).1, f2, goInt]
    · refine ⟨_, run_builtin rfl (v := .int .i64 (n0 : Int)) ?_, rfl, wf_len hm⟩
      simp [builtin, Builtin.len_, run_underlying (sliceT_spec hT).1, f2, goInt]
theorem x_oslindex {α : Type} {e : Enc α} {xs : List α} {dp : Bool} {T E n K l0 n0 : Nat} {x ix : Operand} {ik : IntKind} {v : Int} {k : Nat} (hN : Nat.blt d N = true) (h : evo s.t x = some (.one (.osl K l0 n0))) (hl : lkl s.l K = some (.arr E e xs dp)) (h2 : evo s.t ix = some (.one (.c (.int ik v)))) (hT : sliceT P T = some (E, n)) (hz : e.size = n) (hv : v = (k : Int)) (hk : k < n0) {k1 : Nat} (hk1 : l0 + k = k1) :
    Stp P N ⟨some d, .indexAddr T x ix, ty, pos, after, gd⟩ s ⟨(d, .one (.optr K k1 0)) :: s.t, s.l⟩ ⟨rdo x (.one (.osl K l0 n0)) ++ rdo ix (.one (.c (.int ik v))), [(K, .arr E e xs dp)], [(d, .one (.optr K k1 0))], [], []⟩ :=
  Stp.pure rfl hN (fun p hp => by rcases List.mem_append.1 hp with hp | hp; exact rdo_of h p hp; exact rdo_of h2 p hp) (by simpa using hl) fun g s' a w ht hl' r => by
    subst hk1
    have hK : lkl s'.l K = some (.arr E e xs dp) := hl' (K, .arr E e xs dp) (by simp)
    have e4 : a.eval ix = .int ik v := (eval_ok r (evs_of h2) fun p hp => ht p (List.mem_append_right _ hp) : CellR g s'.l w _ (.c (.int ik v))).1
    rcases (eval_ok r (evs_of h) fun p hp => ht p (List.mem_append_left _ hp) : CellR g s'.l w _ (.osl K l0 n0)) _ _ _ _ _ hK with ⟨f1, f2, f3, f4⟩ | ⟨len, cap, off, f1, f2, f3, f4, f5⟩
    · omega
    · subst hv; subst hz
      have hrun := run_indexAt hT w (g.ρ K) off n0 (cap - l0) k ik hk
      refine ⟨_, by simp only [execOp, f2, e4, Sem.run_bind, Sem.run_pure, Result.andThen_ok, hrun]; rfl, fun β U f ys dq hq => ?_⟩
      rw [hK] at hq; cases hq
      rw [f5 (by omega), Nat.add_zero, Nat.add_mul]
end ops
/-! ### An own array is given up: nobody writes it any more -/
theorem box_re2 {g : Gh} {l : Locs} {w : World} (m : MemR g l w) {b : Nat} {cs cs' : List Cell} (hb : lkl l b = some (.box cs)) (h : ∀ (vs : Array Value) (t : TypeId), w.heap[g.ρ b]? = some (.cells vs t (0, 0)) → All2 (CellR g l w) vs.toList cs → All2 (CellR g l w) vs.toList cs') :
    MemR g ((b, some (.box cs')) :: l) w ∧ (∀ K, Step K g l w g ((b, some (.box cs')) :: l) w) ∧ ∀ j, okK g l g ((b, some (.box cs')) :: l) j := by
  obtain ⟨vs, t, h1, h2, h3⟩ := m.box b cs hb
  have h4 := box_set m hb (vs := vs.toList) (vs' := vs.toList) (T := t) (by simpa using h1) (h _ _ h1 h2)
  have e : w.setRow (g.ρ b) vs.toList.toArray = w := by
    simp only [Array.toArray_toList]
    have hh : (w.setRow (g.ρ b) vs).heap = w.heap := Array.ext_getElem? fun i => by
      by_cases hi : i = g.ρ b
      · subst hi; rw [setRow_heap w _ _ _ t _ h1, h1]
      · exact setRow_other w _ i _ hi
    have h5 : w.setRow (g.ρ b) vs = { w with heap := (w.setRow (g.ρ b) vs).heap } := rfl
    rw [h5, hh]
  rw [e] at h4
  exact ⟨h4.1, h4.2.1, h4.2.2.2⟩
def Gh.shut (g : Gh) (k : Nat) : Gh := { g with I := fun b => g.I b ∨ (g.hd k ≠ .slice none 0 0 ∧ b = g.ρ k) }
section shut
variable {g : Gh} {l : Locs} {w : World}
theorem shut_mem (m : MemR g l w) {k : Nat} {α : Type} {T : TypeId} {e : Enc α} {xs : List α} {dp : Bool} (hk : lkl l k = some (.arr T e xs dp)) :
    MemR (g.shut k) ((k, none) :: l) w ∧ (∀ K, Step K g l w (g.shut k) ((k, none) :: l) w) ∧ CellR (g.shut k) ((k, none) :: l) w (g.hd k) (.sl e xs) ∧ ∀ j, okK g l (g.shut k) ((k, none) :: l) j := by
  have live : g.hd k ≠ .slice none 0 0 → liv g k (.arr T e xs dp) := fun h => h
  have hlt : ∀ b, (g.shut k).I b → b < w.heap.size := fun b hb => hb.elim (m.ilt b) fun h => by rw [h.2]; exact m.lt hk (live h.1)
  have hu : ∀ j, j ≠ k → lkl ((k, none) :: l) j = none ∨ Untouched g l w (g.shut k) ((k, none) :: l) w j := fun j hj =>
    .inr ⟨lkl_cons_ne (Ne.symm hj), rfl, rfl, rfl, fun b hb hl => ⟨rfl, fun h => h.elim (m.notI hb hl) fun h => m.dis j k b _ hj hb hk hl (live h.1) h.2⟩⟩
  have ok : ∀ j, okK g l (g.shut k) ((k, none) :: l) j := fun j => by
    by_cases e : j = k
    · subst e; exact okK.gone lkl_cons_self
    · exact okK.same (lkl_cons_ne (Ne.symm e)) rfl rfl
  have no : ∀ {b : Blk}, lkl ((k, none) :: l) k = some b → False := fun h => by rw [lkl_cons_self] at h; cases h
  refine ⟨m.set1 k (fun _ _ => rfl) (fun _ h => .inl h) (Nat.le_refl _) hlt hu (.inl (ok k)) (fun cs h => (no h).elim) (fun α T e xs d h => (no h).elim) (fun j b b' _ _ _ h => (no h).elim) (fun α T e xs h => (no h).elim) (fun j α β T U e f xs ys _ _ _ h => (no h).elim), fun K => ?_, ?_, ok⟩
  · refine ⟨rfl, rfl, rfl, Nat.le_refl _, fun _ _ _ => rfl, fun _ h => .inl h, fun b h => h.elim .inl fun h => .inr (.inr ⟨k, _, hk, .inl ⟨live h.1, h.2⟩⟩), own_set1 k hu (fun b h => (no h).elim) (fun α T e xs h => (no h).elim), fun j hj hn => ?_⟩
    refine ⟨?_, ok j, fun cs hc => ?_⟩
    · by_cases e : k = j
      · subst e; rw [lk_cons_self]; simp
      · rw [lk_cons_ne e]; exact hn
    · by_cases e : k = j
      · subst e; rw [hk] at hc; cases hc
      · exact ⟨cs, by rw [lkl_cons_ne e]; exact hc⟩
  · obtain ⟨a, n, cap, bs, h1, h2, h3, _⟩ := (m.arr k _ _ _ _ _ hk).slice
    exact ⟨a, n, cap, bs, h1, h2, fun b hb => h3 b hb⟩
variable {P : Program} {N : Nat} {K : List Nat} {Kn : St → Prop} {Q : Exit → St → Prop} {s : St}
theorem AW_shut {α : Type} {T : TypeId} {e : Enc α} {xs : List α} {dp : Bool} {c : Code} (k t : Nat) (ht : lk s.t t = some (.one (.own k))) (hk : lkl s.l k = some (.arr T e xs dp))
    (h : AW P N K c Kn Q ⟨(t, .one (.sl e xs)) :: s.t, (k, none) :: s.l⟩) : AW P N K c Kn Q s := fun g a w r => by
  obtain ⟨m1, st1, c1, ok1⟩ := shut_mem r.mem hk
  have r1 := r.next0 (g' := g.shut k) (l' := (k, none) :: s.l) (w' := w) (fun _ _ => rfl) (fun _ h => .inl h) (Nat.le_refl _) (fun j _ => ok1 j) m1
  have hv : a.tmps.getD t undef = g.hd k := (r.tmp t _ ht : CellR g s.l w _ (.own k)) _ _ _ _ _ hk
  have r2 : Rep N (g.shut k) ⟨(t, .one (.sl e xs)) :: s.t, (k, none) :: s.l⟩ a w := ⟨r1.size, r1.defers, fun j x hj => by
    by_cases hjt : t = j
    · subst hjt
      rw [lk_cons_self] at hj; cases hj
      rw [hv]; exact c1
    · rw [lk_cons_ne hjt] at hj
      exact r1.tmp j x hj, m1⟩
  exact Go.wp_mono (h _ a w r2) fun e a1 w1 h1 => h1.trans r.mem m1 (st1 K)
/-- .. where it lies in a variable. -/
theorem AW_shutB {α : Type} {T : TypeId} {e : Enc α} {xs : List α} {dp : Bool} {c : Code} (k b off : Nat) {cs cs' : List Cell} (hb : lkl s.l b = some (.box cs)) (hc : nthC cs off = some (.own k)) (hcs : cs.set off (.sl e xs) = cs') (hk : lkl s.l k = some (.arr T e xs dp))
    (h : AW P N K c Kn Q ⟨s.t, (b, some (.box cs')) :: (k, none) :: s.l⟩) : AW P N K c Kn Q s := fun g a w r => by
  obtain ⟨m1, st1, c1, ok1⟩ := shut_mem r.mem hk
  have hkb : k ≠ b := fun e => by subst e; rw [hb] at hk; cases hk
  have hb' : lkl ((k, none) :: s.l) b = some (.box cs) := by rw [lkl_cons_ne hkb]; exact hb
  obtain ⟨m2, st2, ok2⟩ := box_re2 m1 hb' (cs' := cs') (fun vs ty hh hv => by
    obtain ⟨vs0, t0, z1, z2, z3⟩ := r.mem.box b cs hb
    have e0 : vs0 = vs := by
      have hh' : w.heap[g.ρ b]? = some (.cells vs ty (0, 0)) := hh
      rw [z1] at hh'; cases hh'; rfl
    subst e0
    obtain ⟨v, h1, h2⟩ := z2.get (nthC_get hc)
    have hvk : v = g.hd k := h2 _ _ _ _ _ hk
    have h3 := hv.set (i := off) (v := v) (x := .sl e xs) (hvk ▸ c1)
    rw [hcs] at h3
    have h4 : vs0.toList.set off v = vs0.toList := by
      obtain ⟨hl, rfl⟩ := List.getElem?_eq_some_iff.1 h1
      exact List.set_getElem_self hl
    rwa [h4] at h3)
  have r2 := r.next0 (g' := g.shut k) (l' := (b, some (.box cs')) :: (k, none) :: s.l) (w' := w) (fun _ _ => rfl) (fun _ h => .inl h) (Nat.le_refl _) (fun j hj => (ok1 j).trans (ok2 j)) m2
  exact Go.wp_mono (h _ a w r2) fun e a1 w1 h1 => h1.trans r.mem m2 ((st1 K).trans r.mem m1 (st2 K))
end shut
end Go.Proofs.YtibhoanjglfaoaaGreat

/- Results that nobody writes any more; arrays whose elements are shared; appending and clearing in regions. -/
namespace Go.Proofs.YtibhoanjglfaoaaGreat
open Go.RowKit
set_option linter.unusedVariables false

/-! ### An array's elements are no longer its own alone -/
section
variable {g : Gh} {l : Locs} {w : World}
theorem shallow_mem (m : MemR g l w) {k : Nat} {α : Type} {T : TypeId} {e : Enc α} {xs : List α} {dp : Bool} (hk : lkl l k = some (.arr T e xs dp)) :
    MemR g ((k, some (.arr T e xs false)) :: l) w ∧ (∀ K, Step K g l w g ((k, some (.arr T e xs false)) :: l) w) ∧ ∀ j, okK g l g ((k, some (.arr T e xs false)) :: l) j := by
  have ok : ∀ j, okK g l g ((k, some (.arr T e xs false)) :: l) j := fun j => by
    by_cases q : k = j
    · subst q
      exact ⟨fun cs h => (by rw [lkl_cons_self] at h; cases h), fun β U e2 ys d h => by rw [lkl_cons_self] at h; cases h; exact ⟨_, _, _, _, _, hk, rfl, rfl, rfl⟩⟩
    · exact okK.same (lkl_cons_ne q) rfl rfl
  have back : ∀ j b, lkl ((k, some (Blk.arr T e xs false)) :: l) j = some b → ∃ b', lkl l j = some b' ∧ (liv g j b ↔ liv g j b') ∧ (∀ (β : Type) (U : TypeId) (e2 : Enc β) (ys : List β), b = .arr U e2 ys true → b' = .arr U e2 ys true) := fun j b h => by
    by_cases q : k = j
    · subst q
      rw [lkl_cons_self] at h; cases h
      exact ⟨_, hk, Iff.rfl, fun β U e2 ys h => by cases h⟩
    · rw [lkl_cons_ne q] at h
      exact ⟨b, h, Iff.rfl, fun _ _ _ _ h => h⟩
  refine ⟨⟨m.ilt, fun j cs h => ?_, fun j β U e2 ys d h => ?_, fun i j b b' hij h1 h2 l1 l2 => ?_, fun j β U e2 ys h => ?_, fun i j β γ U V e2 e3 ys zs hij h1 h2 => ?_⟩, fun K => ⟨rfl, rfl, rfl, Nat.le_refl _, fun _ _ _ => rfl, fun _ h => h, fun _ h => .inl h, fun b hb => ?_, fun j hj hn => ⟨?_, ok j, fun cs hc => ?_⟩⟩, ok⟩
  · by_cases q : k = j
    · subst q; rw [lkl_cons_self] at h; cases h
    · rw [lkl_cons_ne q] at h
      obtain ⟨vs, t, h1, h2, h3⟩ := m.box j cs h
      exact ⟨vs, t, h1, h2.mono fun a c _ hr => CellR.step (fun _ _ => rfl) (fun _ h => h) (Nat.le_refl _) (fun i _ => ok i) hr, h3⟩
  · by_cases q : k = j
    · subst q
      rw [lkl_cons_self] at h; cases h
      rcases m.arr k _ _ _ _ _ hk with ⟨h1, h2, _⟩ | ⟨cap, vs, bss, h1, h2, h3, h4, h5, h6, h7, h8, _⟩
      · exact .inl ⟨h1, h2, fun h => by cases h⟩
      · exact .inr ⟨cap, vs, bss, h1, h2, h3, h4, h5, h6, h7, h8, fun h => by cases h⟩
    · rw [lkl_cons_ne q] at h
      exact m.arr j _ _ _ _ _ h
  · obtain ⟨c, q1, q2, _⟩ := back i b h1
    obtain ⟨c', q3, q4, _⟩ := back j b' h2
    exact m.dis i j _ _ hij q1 q3 (q2.1 l1) (q4.1 l2)
  · obtain ⟨c, q1, _, q3⟩ := back j _ h
    rw [q3 _ _ _ _ rfl] at q1
    exact m.fr j _ _ _ _ q1
  · obtain ⟨c, q1, _, q3⟩ := back i _ h1
    obtain ⟨c', q4, _, q6⟩ := back j _ h2
    rw [q3 _ _ _ _ rfl] at q1
    rw [q6 _ _ _ _ rfl] at q4
    exact m.fd i j _ _ _ _ _ _ _ _ hij q1 q4
  · obtain ⟨j, blk, h1, h2⟩ := hb
    obtain ⟨c, q1, q2, q3⟩ := back j blk h1
    rcases h2 with ⟨h2, h3⟩ | ⟨β, U, e2, ys, h2, h3⟩
    · exact .inl ⟨j, c, q1, .inl ⟨q2.1 h2, h3⟩⟩
    · exact .inl ⟨j, c, q1, .inr ⟨β, U, e2, ys, q3 _ _ _ _ h2, h3⟩⟩
  · by_cases q : k = j
    · subst q; rw [lk_cons_self]; simp
    · rw [lk_cons_ne q]; exact hn
  · by_cases q : k = j
    · subst q; rw [hk] at hc; cases hc
    · exact ⟨cs, by rw [lkl_cons_ne q]; exact hc⟩
variable {P : Program} {N : Nat} {K : List Nat} {Kn : St → Prop} {Q : Exit → St → Prop} {s : St}
theorem AW_shallow {α : Type} {T : TypeId} {e : Enc α} {xs : List α} {dp : Bool} {c : Code} (k : Nat) (hk : lkl s.l k = some (.arr T e xs dp))
    (h : AW P N K c Kn Q ⟨s.t, (k, some (.arr T e xs false)) :: s.l⟩) : AW P N K c Kn Q s := fun g a w r => by
  obtain ⟨m1, st1, ok1⟩ := shallow_mem r.mem hk
  have r1 := r.next0 (g' := g) (l' := (k, some (.arr T e xs false)) :: s.l) (w' := w) (fun _ _ => rfl) (fun _ h => h) (Nat.le_refl _) (fun j _ => ok1 j) m1
  exact Go.wp_mono (h g a w r1) fun e a1 w1 h1 => h1.trans r.mem m1 (st1 K)
end

/-! ### A result that is given up to be read alone -/
def frzC {α : Type} (e : Enc α) (xs : List α) : Cell → Cell
  | .own _ => .sl e xs
  | c => c
def AVal.frz1 {α : Type} (e : Enc α) (xs : List α) : AVal → AVal
  | .one x => .one (frzC e xs x)
  | .agg xs' => .agg (xs'.map (frzC e xs))
  | .tup xs' => .tup xs'
def AVal.frz {α : Type} (e : Enc α) (xs : List α) : AVal → AVal
  | .tup xs' => .tup (xs'.map (AVal.frz1 e xs))
  | x => x.frz1 e xs
section
variable {g g' : Gh} {w : World} {α : Type} {T : TypeId} {e : Enc α} {xs : List α} {d : Bool}
theorem frzC_ok (hs : CellR g' [] w (g.hd 0) (.sl e xs)) {v : Value} {c : Cell} (hc : cleanC c = true) (hi : ∀ k ∈ c.ids, k = 0) (h : CellR g [(0, some (.arr T e xs d))] w v c) : CellR g' [] w v (frzC e xs c) := by
  cases c with
  | c u => exact h
  | own k =>
    have hk0 : k = 0 := hi k (by simp [Cell.ids])
    subst hk0
    have : v = g.hd 0 := h _ _ _ _ _ rfl
    rw [this]; exact hs
  | any => trivial
  | _ => cases hc
theorem frz1_ok (hs : CellR g' [] w (g.hd 0) (.sl e xs)) : ∀ {v : Value} {x : AVal}, cleanV x = true → (∀ k ∈ x.ids1, k = 0) → VR1 g [(0, some (.arr T e xs d))] w v x → VR1 g' [] w v (x.frz1 e xs)
  | v, .one c, hc, hi, h => frzC_ok hs hc hi h
  | v, .agg cs, hc, hi, ⟨vs, h1, h2⟩ => by
    refine ⟨vs, h1, ?_⟩
    clear h1
    have hc' : ∀ c ∈ cs, cleanC c = true := fun c hm => List.all_eq_true.1 hc c hm
    have hi' : ∀ c ∈ cs, ∀ k ∈ c.ids, k = 0 := fun c hm k hk => hi k (List.mem_flatMap.2 ⟨c, hm, hk⟩)
    clear hc hi
    induction cs generalizing vs with
    | nil => cases vs with | nil => trivial | cons _ _ => exact h2.elim
    | cons c cs ih =>
      cases vs with
      | nil => exact h2.elim
      | cons u us => exact ⟨frzC_ok hs (hc' c (by simp)) (hi' c (by simp)) h2.1, ih us h2.2 (fun c hm => hc' c (by simp [hm])) (fun c hm => hi' c (by simp [hm]))⟩
  | v, .tup _, _, _, h => h.elim
end
theorem AC.frz {P : Program} {f : FuncId} {args : List AVal} {res : AVal} {α : Type} {T : TypeId} {e : Enc α} {xs : List α} {d : Bool} (h : AC P f args [] res [(0, some (.arr T e xs d))]) (hc : cleanV res = true) (hi : ∀ k ∈ res.ids, k = 0) : AC P f args [] (res.frz e xs) [] := by
  refine ⟨h.fn, fun g w cargs m ha => (h.run g w cargs m ha).mono ?_⟩
  rintro r w' ⟨v, g1, rfl, m1, hv, hs⟩
  have hk : lkl [(0, some (Blk.arr T e xs d))] 0 = some (.arr T e xs d) := rfl
  obtain ⟨m2, s2, c2, _⟩ := shut_mem m1 hk
  have T1 := Step.trans m m1 hs (s2 [])
  have no : ∀ k b, lkl [] k ≠ some b := fun k b h => by simp [lkl, lk] at h
  have m3 : MemR (g1.shut 0) [] w' := ⟨m2.ilt, fun k cs h => (no _ _ h).elim, fun k β T e2 ys d h => (no _ _ h).elim, fun j k b b' _ h => (no _ _ h).elim, fun k β T e2 ys h => (no _ _ h).elim, fun j k β γ T U e2 e3 ys zs _ h => (no _ _ h).elim⟩
  have hsl : CellR (g1.shut 0) [] w' (g1.hd 0) (.sl e xs) := c2
  refine ⟨v, g1.shut 0, rfl, m3, ?_, ⟨T1.os, T1.tape, T1.output, T1.size, T1.keep, T1.imm, T1.imm', fun b hb => ?_, fun k hk => by cases hk⟩⟩
  · cases res with
    | one x => exact frz1_ok (d := d) (T := T) hsl hc (fun k hk => hi k hk) hv
    | agg cs => exact frz1_ok (x := .agg cs) (d := d) (T := T) hsl hc (fun k hk => hi k hk) hv
    | tup ys =>
      obtain ⟨vs, h1, h2⟩ := hv
      refine ⟨vs, h1, ?_⟩
      clear h1
      have hc' : ∀ y ∈ ys, cleanV y = true := fun y hm => by
        have := List.all_eq_true.1 hc y hm
        cases y with
        | one _ => exact this
        | agg _ => exact this
        | tup _ => cases this
      have hi' : ∀ y ∈ ys, ∀ k ∈ y.ids1, k = 0 := fun y hm k hk => hi k (List.mem_flatMap.2 ⟨y, hm, hk⟩)
      clear hc hi h ha
      induction ys generalizing vs with
      | nil => cases vs with | nil => trivial | cons _ _ => exact h2.elim
      | cons y ys ih =>
        cases vs with
        | nil => exact h2.elim
        | cons u us => exact ⟨frz1_ok (d := d) (T := T) hsl (hc' y (by simp)) (hi' y (by simp)) h2.1, ih us h2.2 (fun y hm => hc' y (by simp [hm])) (fun y hm => hi' y (by simp [hm]))⟩
  · obtain ⟨k, blk, h1, _⟩ := hb
    exact (no _ _ h1).elim

/-! ### append and clear, where their runs are known by equations -/
end Go.Proofs.YtibhoanjglfaoaaGreat

/- The front of an own array kept; the rest of one cleared. -/
namespace Go.Proofs.YtibhoanjglfaoaaGreat
open Go.RowKit
set_option linter.unusedVariables false

theorem zeroCells_list (c : Array Value) (h0 : 0 < c.size) : ∀ n, (Builtin.zeroCells c n).toList = (List.replicate n c.toList).flatten := fun n => by
  apply List.ext_getElem?
  intro i
  have hl : (Builtin.zeroCells c n).toList.length = n * c.size := by rw [Array.length_toList, size_zeroCells]
  have key : ∀ (n i : Nat), i < n * c.size → ((List.replicate n c.toList).flatten)[i]? = c.toList[i % c.size]? := fun n => by
    induction n with
    | zero => intro i hi; omega
    | succ n ih =>
      intro i hi
      rw [List.replicate_succ, List.flatten_cons]
      rcases Nat.lt_or_ge i c.size with h | h
      · rw [List.getElem?_append_left (by simpa using h), Nat.mod_eq_of_lt h]
      · rw [List.getElem?_append_right (by simpa using h), Array.length_toList, ih (i - c.size) (by rw [Nat.add_mul] at hi; omega), Nat.mod_eq_sub_mod h]
  have hl2 : ((List.replicate n c.toList).flatten).length = n * c.size := by simp
  by_cases hi : i < n * c.size
  · rw [key n i hi]
    have hm : i % c.size < c.size := Nat.mod_lt _ h0
    simp only [Builtin.zeroCells, Array.toList_map, Array.toList_range, List.getElem?_map, List.getElem?_range hi, Option.map_some]
    rw [getElem!_pos c _ hm]
    simp [hm]
  · rw [List.getElem?_eq_none (by omega), List.getElem?_eq_none (by omega)]
theorem run_clear_zero {P : Program} (w : World) (t e ty : TypeId) (z : Value) (k : Nat) (ht : P.underlying t = some (.slice e)) (hv : ∀ w : World, (Go.zeroValue e).run P w = .ok z w) (hzk : z.cells.size = k) (hk0 : 0 < k) (h1 : ∀ u ∈ z.cells.toList, u.oneCell' = true) (g o n c : Nat) (hn : 0 < n) (cur : Array Value) (t0 : TypeId)
    (hg : w.heap[g]? = some (.cells cur t0 (0, 0))) (hfit : o + n * k ≤ cur.size) :
    (Builtin.clear_ #[t] ty #[.slice (some ⟨g, o, none⟩) n c]).run P w = .ok (.tuple #[]) (w.setRow g (cur.toList.take o ++ (List.replicate n z.cells.toList).flatten ++ cur.toList.drop (o + n * k)).toArray) := by
  have hzl : (Builtin.zeroCells z.cells n).toList.length = n * k := by rw [Array.length_toList, size_zeroCells, hzk]
  have hzz := zeroCells_list z.cells (by omega) n
  have hz1 : ∀ v ∈ (Builtin.zeroCells z.cells n).toList, v.oneCell' = true := fun v hm => by
    rw [hzz] at hm
    obtain ⟨l, hl, hvl⟩ := List.mem_flatten.1 hm
    rw [List.eq_of_mem_replicate hl] at hvl
    exact h1 v hvl
  have hst := run_storeCells_at P g o t0 (Builtin.zeroCells z.cells n).toList 0 cur w hg (by rw [hzl]; simpa using hfit) hz1
  simp only [Nat.add_zero, hzl] at hst
  obtain ⟨m, rfl⟩ : ∃ m, n = m + 1 := ⟨n - 1, by omega⟩
  rw [← hzz]
  simp [Builtin.clear_, run_underlying ht, hv, hst]
theorem FR.zeros {α : Type} {e : Enc α} {f : α → List Cell} [hc : CellsOf e f] {w : World} {zs : List Value} {x' : α} (h : e.rep w zs x' []) : ∀ n, FR w (List.replicate n zs).flatten ((List.replicate n x').flatMap f) []
  | 0 => rfl
  | n + 1 => by
    rw [List.replicate_succ, List.flatten_cons, List.replicate_succ, List.flatMap_cons]
    exact FR.app.2 ⟨zs, _, [], [], rfl, rfl, hc.iff.1 h, FR.zeros h n⟩
section ops
variable {P : Program} {N : Nat} {s : St} {d : Nat} {ty : TypeId} {pos : String} {after : Array Edge} {gd : Option (Nat × Bool)}
/-- s[:h] of an own array, under a new number. -/
theorem x_cut {α : Type} {e : Enc α} {f : α → List Cell} [hc : CellsOf e f] {xs : List α} {T E n h K : Nat} {x : Operand} {hi : Option Operand} {rh : List (Nat × AVal)} (k' : Nat) (hN : Nat.blt d N = true) (hx : evo s.t x = some (.one (.own K))) (hl : lkl s.l K = some (.arr E e xs false)) (hT : sliceT P T = some (E, n)) (hz : e.size = n)
    (hh : OB s.t xs.length hi rh h) (hk : lk s.l k' = none) (hi' : noId k' s.ids = true) (h2 : h ≤ xs.length) :
    Stp P N ⟨some d, .slice T x none hi none, ty, pos, after, gd⟩ s ⟨(d, .one (.own k')) :: s.t, (k', some (.arr E e (xs.take h) false)) :: (gones [K] ++ s.l)⟩ ⟨rdo x (.one (.own K)) ++ rh, [(K, .arr E e xs false)], [(d, .one (.own k'))], (k', some (.arr E e (xs.take h) false)) :: gones [K], [k']⟩ := by
  refine ⟨fun K' g s' a w hp r => ?_, ⟨fun p hp => (List.mem_append.1 hp).elim (rdo_of hx p) (hh.rd p), by simp [hl], fun j hj => by simp at hj; subst hj; exact ⟨hk, noId_of hi'⟩⟩, by simp [Cert.upd]⟩
  obtain ⟨p1, p2, p3⟩ := hp
  have hK : lkl s'.l K = some (.arr E e xs false) := p2 (K, .arr E e xs false) (by simp)
  have e1 : a.eval x = g.hd K := (eval_ok r (evs_of hx) fun p hp => p1 p (List.mem_append_left _ hp) : CellR g s'.l w _ (.own K)) _ _ _ _ _ hK
  have q2 := hh.ev r fun p hp => p1 p (List.mem_append_right _ hp)
  obtain ⟨n1, n2⟩ := p3 k' (by simp)
  obtain ⟨cells, b1, r1, f1, i1, F1, ob1⟩ := (r.mem.arr K _ _ _ _ _ hK).row
  obtain ⟨c1, c3, rfl, f2, _⟩ := FR.parts (e := e) f1 h2
  have hgone : ∀ i ∈ [K], ∃ (α : Type) (T : TypeId) (e : Enc α) (xs : List α) (d : Bool), lkl s'.l i = some (.arr T e xs d) := fun i hi => by
    simp at hi
    subst hi
    exact ⟨α, E, e, xs, false, hK⟩
  have hlen : (xs.take h).length = h := by simp; omega
  have hcl : (cells.take (h * e.size)).length = h * e.size := by rw [List.length_take, r1.1, Nat.min_eq_left (Nat.mul_le_mul_right _ h2)]
  have : ∃ v', (execOp a.eval ⟨some d, .slice T x none hi none, ty, pos, after, gd⟩).run P w = .ok (.value v') w ∧ w.ownsRow 0 E e.size v' (h + 0) (cells.take (h * e.size) ++ []) ∧ ∀ b, v'.ownBlock = some b → (g.hd K).ownBlock = some b := by
    rcases r1.2 with ⟨hnil, h0⟩ | ⟨b, cap, cur, hv, _, hb, hle, hcap, hsz, htk⟩
    · have : h = 0 := by omega
      subst this
      have hrun := run_sliceOf hT w none 0 0 (lo := none) (.inl ⟨rfl, rfl⟩) (by rw [h0] at q2; exact q2) (Nat.le_refl 0) (Nat.le_refl 0)
      exact ⟨.slice none 0 0, by simp only [execOp, e1, hnil, Sem.run_bind, Option.map_none, hrun, Result.andThen_ok, Sem.run_pure]; rfl, ⟨by simp, .inl ⟨rfl, rfl⟩⟩, fun b hb => by cases hb⟩
    · have hrun := run_sliceOf hT w (some ⟨b, 0, none⟩) xs.length cap (lo := none) (.inl ⟨rfl, rfl⟩) q2 (Nat.zero_le h) (by omega)
      have ea : (if cap = 0 then (some ⟨b, 0, none⟩ : Option Addr) else (some ⟨b, 0, none⟩ : Option Addr).map (·.add (0 * n))) = some ⟨b, 0, none⟩ := by
        split
        · rfl
        · simp [addr_add]
      rw [ea] at hrun
      refine ⟨_, by simp only [execOp, e1, hv, Sem.run_bind, Option.map_none, hrun, Result.andThen_ok, Sem.run_pure]; rfl, ⟨by simp [hcl], .inr ⟨b, cap, cur, by simp, Nat.zero_le _, hb, by omega, hcap, hsz, ?_⟩⟩, fun b' hb' => by rw [hv]; exact hb'⟩
      rw [List.append_nil, Nat.add_zero, ← htk, List.take_take, Nat.min_eq_left (Nat.mul_le_mul_right _ h2)]
  obtain ⟨v', hrun, hrow, hown⟩ := this
  obtain ⟨g', s1, s2, s3, s4, s5, s6⟩ := app_lay (w' := w) r.mem n1 (fun h => n2 (List.mem_append_right _ h)) (js := [K]) (List.mem_cons_self ..) hgone (E := E) (e := e) (xs := xs.take h) (ys := []) (d := false) (news := []) (b2 := []) f2 (by rfl)
    (fun b hb => i1 b (by simp at hb; simp [hb])) ob1 (by rw [hlen]; exact hrow) ⟨rfl, rfl, rfl, Nat.le_refl _, fun _ _ _ => rfl⟩ (fun b hb => .inl (hown b hb)) (fun hd => by cases hd)
  rw [List.append_nil] at s2 s3 s6
  unfold Oper.wp
  rw [hrun, Oper.upon_value]
  refine ⟨g', r.next (blt_lt hN) s4 s5 (Nat.le_refl _) (fun j hj => s6 j fun e => n2 (e ▸ hj)) (fun β U e2 ys dd hc => ?_) s2, s3 K'⟩
  exact s1.symm
/-- clear(s[l0:]) of an own array. -/
theorem x_clear {α : Type} {e : Enc α} {f : α → List Cell} [hc : CellsOf e f] {xs : List α} {T E n K l0 n0 : Nat} {x : Operand} {z : Value} (x' : α) (h : evo s.t x = some (.one (.osl K l0 n0))) (hl : lkl s.l K = some (.arr E e xs false)) (hT : sliceT P T = some (E, n)) (hz : e.size = n) (h0 : 0 < n)
    (hv : ∀ w : World, (Go.zeroValue E).run P w = .ok z w) (hx' : ∀ w, e.rep w z.cells.toList x' []) (hn0 : 0 < n0) (hb : l0 + n0 = xs.length) :
    Stp P N ⟨none, .call { callee := .builtin .clear, args := #[x], argTypes := #[T] }, ty, pos, after, gd⟩ s ⟨s.t, (K, some (.arr E e (xs.take l0 ++ List.replicate n0 x') false)) :: s.l⟩ ⟨rdo x (.one (.osl K l0 n0)), [(K, .arr E e xs false)], [], [(K, some (.arr E e (xs.take l0 ++ List.replicate n0 x') false))], []⟩ := by
  refine ⟨fun K' g s' a w hp r => ?_, ⟨rdo_of h, by simp [hl], by simp⟩, by simp [Cert.upd]⟩
  obtain ⟨p1, p2, _⟩ := hp
  have hK : lkl s'.l K = some (.arr E e xs false) := p2 (K, .arr E e xs false) (by simp)
  obtain ⟨hu, ii, hii, hnn⟩ := sliceT_spec hT
  rcases (eval_ok r (evs_of h) fun p hp => p1 p hp : CellR g s'.l w _ (.osl K l0 n0)) _ _ _ _ _ hK with ⟨f1, f2, f3, f4⟩ | ⟨len, cap, off, f1, f2, f3, f4, f5⟩
  · omega
  have hlv : g.hd K ≠ .slice none 0 0 := by rw [f1]; intro e; cases e
  obtain ⟨cells, b1, r1, g1, i1, F1, ob1⟩ := (r.mem.arr K _ _ _ _ _ hK).row
  obtain ⟨c1, c3, rfl, g2, _⟩ := FR.parts (e := e) g1 (i := l0) (by omega)
  rcases r1.2 with ⟨hnil, hl0⟩ | ⟨b, cap', cur, hv', _, hbk, hle, hcap, hsz, htk⟩
  · omega
  rw [f1] at hv'
  cases hv'
  have hlt : l0 < cap := by omega
  have hoff := f5 hlt
  subst hoff
  subst hz
  have hzl : z.cells.toList.length = e.size := e.len (hx' w)
  have hzs : z.cells.size = e.size := by rw [← Array.length_toList]; exact hzl
  have hz1 : ∀ u ∈ z.cells.toList, u.oneCell' = true := FR.one (hc.iff.1 (hx' w))
  have hsum : l0 * e.size + n0 * e.size = xs.length * e.size := by rw [← Nat.add_mul, hb]
  have hfit : l0 * e.size + n0 * e.size ≤ cur.size := by
    rw [hsum, hsz]; exact Nat.mul_le_mul_right _ hle
  have hrun := run_clear_zero (P := P) w T E ty z e.size hu hv hzs h0 hz1 (g.ρ K) (l0 * e.size) n0 (cap - l0) hn0 cur E hbk hfit
  generalize hnew : (cur.toList.take (l0 * e.size) ++ (List.replicate n0 z.cells.toList).flatten ++ cur.toList.drop (l0 * e.size + n0 * e.size)).toArray = new at *
  have hfl : ((List.replicate n0 z.cells.toList).flatten).length = n0 * e.size := by simp [hzs]
  have hns : new.size = cur.size := by rw [← hnew]; simp [hzs]; omega
  have hwk : (w.setRow (g.ρ K) new).heap[g.ρ K]? = some (.cells new E (0, 0)) := setRow_heap w _ _ _ E _ hbk
  have hwo : ∀ b, b ≠ g.ρ K → (w.setRow (g.ρ K) new).heap[b]? = w.heap[b]? := fun b hb => setRow_other w _ b _ hb
  have hsw : (w.setRow (g.ρ K) new).heap.size = w.heap.size := by simp
  have hnI := r.mem.notI hK hlv
  have hne : ∀ b, g.I b → b ≠ g.ρ K := fun b hb eq => hnI (eq ▸ hb)
  have hF2 : FR w (cells.take (l0 * e.size) ++ (List.replicate n0 z.cells.toList).flatten) ((xs.take l0 ++ List.replicate n0 x').flatMap f) (c1 ++ []) := by
    rw [List.flatMap_append]
    exact FR.app.2 ⟨_, _, _, _, rfl, rfl, g2, FR.zeros (hx' w) n0⟩
  rw [List.append_nil] at hF2
  have hIc : ∀ b ∈ c1, g.I b := fun b hb => i1 b (List.mem_append_left _ hb)
  have hF3 := hF2.keep (w' := w.setRow (g.ρ K) new) (fun b hb => hwo b (hne b (hIc b hb))) (Nat.le_of_eq hsw.symm)
  have hln : (xs.take l0 ++ List.replicate n0 x').length = xs.length := by simp; omega
  obtain ⟨g', q1, q2, q3, q4, q5, q6, q7⟩ := arr_put (w' := w.setRow (g.ρ K) new) r.mem hK hlv (js := []) (by simp) (fun j hj => by cases hj) (xs := xs.take l0 ++ List.replicate n0 x') (d := false) (fp := c1) rfl rfl rfl hsw hwo
    (ArrR.ofRow (g := ⟨fun b => g.I b ∨ liveA g [] b, g.ρ, g.hd, setAt g.F K c1⟩) (e := e) (f := f) (cells := cells.take (l0 * e.size) ++ (List.replicate n0 z.cells.toList).flatten) (bs := c1) (by
      rw [hln]
      refine ⟨?_, .inr ⟨g.ρ K, cap, new, f1, Nat.zero_le _, hwk, hle, hcap, by rw [hns, hsz], ?_⟩⟩
      · rw [List.length_append, hfl, List.length_take, r1.1, Nat.min_eq_left (by omega)]; exact hsum
      · rw [← hnew]
        show (List.take _ (_ ++ _ ++ _)) = _
        rw [List.take_left' (by rw [List.length_append, hfl, List.length_take, Array.length_toList, Nat.min_eq_left (by omega)]; exact hsum), ← htk, List.take_take, Nat.min_eq_left (by omega)]) hF3 (fun b hb => .inl (hIc b hb)) (fun hd => by cases hd) fun b hb => ⟨ob1 b hb, fun hI => by
        rcases hI with hI | ⟨j, hj, _⟩
        · rw [ob1 b hb] at hI; exact hnI hI
        · cases hj⟩) (fun hd => by cases hd)
  have hr : (execOp a.eval ⟨none, .call { callee := .builtin .clear, args := #[x], argTypes := #[T] }, ty, pos, after, gd⟩).run P w = .ok (.value (.tuple #[])) (w.setRow (g.ρ K) new) := by
    simp only [execOp, resolve, invoke, builtin, Sem.run_bind, Sem.run_pure, Result.andThen_ok, List.map_toArray, List.map_cons, List.map_nil, f2, hrun]
  unfold Oper.wp
  rw [hr, Oper.upon_value]
  exact ⟨g', r.next0 q5 q6 (Nat.le_of_eq hsw.symm) (fun j _ => q7 j) q3, q4 K'⟩
end ops
end Go.Proofs.YtibhoanjglfaoaaGreat

/- Equal neighbours once: on raw rows. -/
namespace Go.Proofs.YtibhoanjglfaoaaGreat
open Go.RowKit
set_option linter.unusedVariables false
set_option linter.unusedSimpArgs false

section
variable {us : List (Raw (List Val))}
def uniqR (us : List (Raw (List Val))) : Nat → List (Raw (List Val))
  | 0 => []
  | 1 => us.take 1
  | k + 2 => if (us.map Raw.x).getD (k + 1) [] = (us.map Raw.x).getD k [] then uniqR us (k + 1) else uniqR us (k + 1) ++ (us.drop (k + 1)).take 1
theorem uniqR_len : ∀ {k : Nat}, (uniqR us k).length ≤ k
  | 0 => by simp [uniqR]
  | 1 => by simp [uniqR]; omega
  | k + 2 => by
    have := uniqR_len (k := k + 1)
    rw [uniqR]; split
    · omega
    · simp; omega
theorem uniqR_map : ∀ {k : Nat}, k ≤ us.length → (uniqR us k).map Raw.x = uniqTo (us.map Raw.x) k
  | 0, _ => rfl
  | 1, _ => by simp [uniqR, uniqTo]
  | k + 2, h => by
    rw [uniqR, uniqTo]
    split
    · exact uniqR_map (by omega)
    · rw [List.map_append, uniqR_map (by omega), List.map_take, List.map_drop]
      congr 1
      rw [List.drop_eq_getElem_cons (by simp; omega)]
      simp [List.getD, show k + 1 < us.length by omega]
theorem uniqR_sub : ∀ {k : Nat}, (uniqR us k).Sublist (us.take k)
  | 0 => by simp [uniqR]
  | 1 => by simp [uniqR]
  | k + 2 => by
    have h0 := uniqR_sub (k := k + 1)
    have e : us.take (k + 2) = us.take (k + 1) ++ (us.drop (k + 1)).take 1 := by rw [List.take_add (i := k + 1) (j := 1)]
    rw [uniqR, e]; split
    · exact h0.trans (List.sublist_append_left _ _)
    · exact h0.append (List.Sublist.refl _)
theorem uniqR_same {k : Nat} (h1 : 0 < k) (hk : k < us.length) (h : us[k].x = (us[k - 1]'(by omega)).x) : uniqR us (k + 1) = uniqR us k := by
  obtain ⟨j, rfl⟩ : ∃ j, k = j + 1 := ⟨k - 1, by omega⟩
  simp only [Nat.add_sub_cancel] at h
  rw [uniqR, if_pos (by simp [List.getD, hk, show j < us.length by omega, h])]
theorem uniqR_new {k : Nat} (h1 : 0 < k) (hk : k < us.length) (h : ¬ us[k].x = (us[k - 1]'(by omega)).x) : uniqR us (k + 1) = uniqR us k ++ [us[k]] := by
  obtain ⟨j, rfl⟩ : ∃ j, k = j + 1 := ⟨k - 1, by omega⟩
  simp only [Nat.add_sub_cancel] at h
  rw [uniqR, if_neg (by simp [List.getD, hk, show j < us.length by omega, h]), List.drop_eq_getElem_cons hk]; rfl
/-- No equal neighbours so far. -/
def Plain (us : List (Raw (List Val))) (k : Nat) : Prop := uniqR us k = us.take k
theorem Plain.one : Plain us 1 := rfl
theorem Plain.succ {k : Nat} (h : Plain us k) (h1 : 0 < k) (hk : k < us.length) (hn : sameRow us[k].x (us[k - 1]'(by omega)).x = false) : Plain us (k + 1) := by
  unfold Plain
  rw [uniqR_new h1 hk (sameRow_ne hn), h, List.take_succ_eq_append_getElem hk]
theorem Plain.all {k : Nat} (h : Plain us k) (hk : us.length ≤ k) (hk2 : k ≤ us.length) : us = uniqR us us.length := by
  obtain rfl : k = us.length := by omega
  rw [h, List.take_length]
theorem uniqR_short (h : us.length < 2) : us = uniqR us us.length := by
  match us, h with
  | [], _ => rfl
  | [a], _ => rfl
/-- Halfway: the elements kept so far, and the old ones behind. -/
def uniqA (us : List (Raw (List Val))) (j : Nat) : List (Raw (List Val)) := uniqR us j ++ us.drop (uniqR us j).length
theorem uniqA_len {j : Nat} (hj : j ≤ us.length) : (uniqA us j).length = us.length := by
  have := uniqR_len (us := us) (k := j)
  simp [uniqA]; omega
theorem uniqA_at {j i : Nat} (hj : j ≤ us.length) (hi : i < us.length) (h : (uniqR us j).length ≤ i) (h' : i < (uniqA us j).length) : (uniqA us j)[i] = us[i] := by
  have q : (uniqA us j)[i]? = us[i]? := by
    unfold uniqA
    rw [List.getElem?_append_right h, List.getElem?_drop]
    congr 1; omega
  rw [List.getElem?_eq_getElem h', List.getElem?_eq_getElem hi] at q
  exact Option.some.inj q
/-- The first equal neighbours are at k. -/
theorem uniqR_dup {k : Nat} (h : Plain us k) (h1 : 0 < k) (hk : k < us.length) (hs : sameRow us[k].x (us[k - 1]'(by omega)).x = true) : (uniqR us (k + 1)).length = k ∧ us = uniqA us (k + 1) := by
  have e : uniqR us (k + 1) = us.take k := by rw [uniqR_same h1 hk (sameRow_iff.1 hs), h]
  have el : (uniqR us (k + 1)).length = k := by rw [e]; simp; omega
  refine ⟨el, ?_⟩
  unfold uniqA
  rw [el, e, List.take_append_drop]
theorem uniqR_skip {j : Nat} (h1 : 0 < j) (hj : j < us.length) (hs : sameRow us[j].x (us[j - 1]'(by omega)).x = true) : uniqR us (j + 1) = uniqR us j := uniqR_same h1 hj (sameRow_iff.1 hs)
theorem uniqA_put {j : Nat} (h1 : 0 < j) (hj : j < us.length) (hl : (uniqR us j).length < j) (hs : sameRow us[j].x (us[j - 1]'(by omega)).x = false) (h' : j < (uniqA us j).length) : (uniqA us j).set (uniqR us j).length ((uniqA us j)[j]) = uniqA us (j + 1) ∧ (uniqR us (j + 1)).length = (uniqR us j).length + 1 := by
  have e := uniqR_new h1 hj (sameRow_ne hs)
  have e2 := uniqA_at (Nat.le_of_lt hj) hj (by omega) h'
  refine ⟨?_, by rw [e]; simp⟩
  rw [e2]
  unfold uniqA
  rw [e, List.set_append_right _ _ (Nat.le_refl _), Nat.sub_self, List.drop_eq_getElem_cons (l := us) (i := (uniqR us j).length) (by omega), List.set_cons_zero, List.length_append, List.length_singleton, List.append_assoc]
  rfl
theorem uniqA_end {j : Nat} (hj : us.length ≤ j) (hj2 : j ≤ us.length) {z : Raw (List Val)} {n : Nat} : ((uniqA us j).take (uniqR us j).length ++ List.replicate n z).take (uniqR us j).length = uniqR us us.length := by
  obtain rfl : j = us.length := by omega
  unfold uniqA
  rw [List.take_left' rfl, List.take_left' rfl]
end
/-- The raw element whose cell is no slice. -/
def zeroR : Raw (List Val) := ⟨[], [.slice none 0 0], []⟩
theorem zeroR_rep (w : World) : (rawE rowE).rep w [.slice none 0 0] zeroR [] :=
  ⟨[], [], rfl, ⟨⟨rfl, rfl⟩, rowE_rep.2 ⟨none, 0, 0, rfl, rfl, Nat.le_refl _, Nat.zero_le _, fun _ => rfl, .inl ⟨rfl, rfl⟩⟩, rfl⟩, rfl⟩
end Go.Proofs.YtibhoanjglfaoaaGreat

/- Relations (printed by walk.py) -/
namespace Go.Proofs.YtibhoanjglfaoaaGreat
open Go.RowKit
set_option linter.unusedVariables false
set_option linter.unusedSimpArgs false
set_option maxRecDepth 100000

set_option maxHeartbeats 4000000 in
theorem sameRowS_c (a b : List Val) (ha : a.length ≤ 1048576) : AC Tryz.prog 113 [.agg (rowC a), .agg (rowC b)] [] (.one (.c (.bool (sameRow a b)))) [] := by
  refine AC_body1 Tryz.func113 rfl rfl Tryz.ntmps113 rfl Tryz.results113 ?_
  refine AW_seq ?_
  refine AW_region ?_
  refine AL_p (x_box 100 rfl rfl rfl rfl rfl rfl rfl) ?_
  refine AL_p (x_box 101 rfl rfl rfl rfl rfl rfl rfl) ?_
  refine AL_p (x_assign rfl rfl) ?_
  refine AL_nil ?_
  refine AW_seq ?_
  refine AW_seq ?_
  refine AW_region ?_
  refine AL_p (x_field (off := 0) (o' := 0) rfl rfl rfl (by kernel_rfl) rfl) ?_
  refine AL_p (x_load1 rfl rfl rfl (by kernel_rfl) rfl) ?_
  refine AL_p (x_len (E := 147) (n := 2) rfl rfl (by kernel_rfl)) ?_
  refine AL_p (x_field (off := 0) (o' := 0) rfl rfl rfl (by kernel_rfl) rfl) ?_
  refine AL_p (x_load1 rfl rfl rfl (by kernel_rfl) rfl) ?_
  refine AL_p (x_len (E := 147) (n := 2) rfl rfl (by kernel_rfl)) ?_
  refine AL_b (x_neq rfl rfl rfl) (fun b12 h12 => ?_)
  refine AL_nil ?_
  cases b12
  rotate_left
  · try simp only [tdy] at h12
    refine AW_condT rfl ?_
    refine AW_seq ?_
    refine AW_region ?_
    refine AL_p (x_assign rfl rfl) ?_
    refine AL_nil ?_
    refine AW_ret ?_
    exact ⟨rn [], ⟨⟨⟨_, rfl, vle_bool ((sameRow_len (by omega)).symm)⟩, trivial⟩, trivial, trivial, rfl⟩⟩
  try simp only [tdy] at h12
  refine AW_condF rfl ?_
  refine AW_skip ?_
  refine AW_seq ?_
  refine AW_seq ?_
  refine AW_region ?_
  refine AL_p (x_field (off := 0) (o' := 0) rfl rfl rfl (by kernel_rfl) rfl) ?_
  refine AL_p (x_load1 rfl rfl rfl (by kernel_rfl) rfl) ?_
  refine AL_p (x_len (E := 147) (n := 2) rfl rfl (by kernel_rfl)) ?_
  refine AL_p (x_move rfl rfl) ?_
  refine AL_nil ?_
  refine AW_block ?_
  refine AW_loop2 (ι := {q : Nat // q ≤ a.length ∧ SameTo a b q}) (fun p => [(16, .one (.c (.int .i64 ((p.1) : Int))))]) (fun p => []) [2, 3, 15] [100, 101] (fun p => a.length - (p.1)) ⟨0, ⟨by omega, .zero⟩⟩ (rn []) ?_ ?_
  exact ⟨by (repeat refine ⟨⟨_, rfl, by first | exact VLe.rf | exact vle_int (by dsimp only; omega)⟩, ?_⟩); exact trivial, by (repeat refine ⟨⟨_, rfl, by first | exact BLe.rf | exact BLe.box AllC.rf | exact BLe.arr (by exact rfl)⟩, ?_⟩); exact trivial, by repeat (first | exact trivial | refine ⟨⟨rfl, by first | (left; intro h; cases h) | (right; rfl), by first | exact (fun _ h => ⟨_, h⟩) | exact (fun _ _ => ⟨_, rfl⟩)⟩, ?_⟩), rfl⟩
  rintro ⟨k, hinv⟩
  dsimp only
  obtain ⟨hk, hs⟩ := hinv
  refine AW_seq ?_
  refine AW_region ?_
  refine AL_b (x_lss rfl rfl rfl) (fun b17 h17 => ?_)
  refine AL_nil ?_
  refine AW_seq ?_
  cases b17
  · try simp only [tdy] at h17
    refine AW_condF rfl ?_
    refine AW_exit (BQ_hit ?_)
    refine AW_seq ?_
    refine AW_region ?_
    refine AL_p (x_assign rfl rfl) ?_
    refine AL_nil ?_
    refine AW_ret ?_
    exact ⟨rn [], ⟨⟨⟨_, rfl, vle_bool ((sameRow_eq (hs.eq (by omega) (by omega))).symm)⟩, trivial⟩, trivial, trivial, rfl⟩⟩
  try simp only [tdy] at h17
  refine AW_condT rfl ?_
  refine AW_skip ?_
  refine AW_seq ?_
  refine AW_block ?_
  refine AW_seq ?_
  refine AW_region ?_
  refine AL_p (x_move rfl rfl) ?_
  refine AL_p (x_assign rfl rfl) ?_
  refine AL_nil ?_
  refine AW_seq ?_
  refine AW_draw rfl ?_
  refine AL_p (x_field (off := 0) (o' := 0) rfl rfl rfl (by kernel_rfl) rfl) ?_
  refine AL_p (x_load1 rfl rfl rfl (by kernel_rfl) rfl) ?_
  refine AL_p (x_move rfl rfl) ?_
  refine AL_p (x_index (E := 147) (n := 2) rfl rfl rfl (by kernel_rfl) rfl rfl (by omega)) ?_
  refine AL_p (x_eloadW (n := 2) rfl rfl (by kernel_rfl) rfl) ?_
  refine AL_p (x_field (off := 0) (o' := 0) rfl rfl rfl (by kernel_rfl) rfl) ?_
  refine AL_p (x_load1 rfl rfl rfl (by kernel_rfl) rfl) ?_
  refine AL_p (x_move rfl rfl) ?_
  refine AL_p (x_index (E := 147) (n := 2) rfl rfl rfl (by kernel_rfl) rfl rfl (by omega)) ?_
  refine AL_p (x_eloadW (n := 2) rfl rfl (by kernel_rfl) rfl) ?_
  refine AL_b (x_vneq rfl rfl rfl) (fun b29 h29 => ?_)
  refine AL_nild (by kernel_rfl) ?_
  cases b29
  rotate_left
  · try simp only [tdy] at h29
    refine AW_condT rfl ?_
    refine AW_seq ?_
    refine AW_region ?_
    refine AL_p (x_assign rfl rfl) ?_
    refine AL_nil ?_
    refine AW_ret (BQ_ret (BQ_ret ?_))
    exact ⟨rn [], ⟨⟨⟨_, rfl, vle_bool ((sameRow_at (k := k) (by omega) (by omega) h29).symm)⟩, trivial⟩, trivial, trivial, rfl⟩⟩
  try simp only [tdy] at h29
  refine AW_condF rfl ?_
  refine AW_skip ?_
  refine AW_region ?_
  refine AL_p (x_add rfl rfl rfl (IntWalk.i64_in _ (by omega))) ?_
  refine AL_p (x_move rfl rfl) ?_
  refine AL_nil ?_
  refine ⟨⟨k + 1, ⟨by omega, hs.succ (by omega) (by omega) h29⟩⟩, rn [], ?_, by dsimp only; omega⟩
  exact ⟨by (repeat refine ⟨⟨_, rfl, by first | exact VLe.rf | exact vle_int (by dsimp only; omega)⟩, ?_⟩); exact trivial, by (repeat refine ⟨⟨_, rfl, by first | exact BLe.rf | exact BLe.box AllC.rf | exact BLe.arr (by exact rfl)⟩, ?_⟩); exact trivial, by repeat (first | exact trivial | refine ⟨⟨rfl, by first | (left; intro h; cases h) | (right; rfl), by first | exact (fun _ h => ⟨_, h⟩) | exact (fun _ _ => ⟨_, rfl⟩)⟩, ?_⟩), rfl⟩

set_option maxHeartbeats 4000000 in
theorem upToI_c (n m : Int) : AC Tryz.prog 142 [.one (.c (.int .i64 n)), .one (.c (.int .i64 m))] [] (.one (.c (.bool (upToB n m)))) [] := by
  refine AC_body1 Tryz.func142 rfl rfl Tryz.ntmps142 rfl Tryz.results142 ?_
  refine AW_seq ?_
  refine AW_region ?_
  refine AL_p (x_assign rfl rfl) ?_
  refine AL_nil ?_
  refine AW_seq ?_
  refine AW_region ?_
  refine AL_p (x_move rfl rfl) ?_
  refine AL_b (x_geq rfl rfl rfl) (fun b6 h6 => ?_)
  refine AL_p (x_move rfl rfl) ?_
  cases b6
  · try simp only [tdy] at h6
    refine AL_o rfl rfl rfl rfl ?_
    refine AL_o rfl rfl rfl rfl ?_
    refine AL_o rfl rfl rfl rfl ?_
    refine AL_p (x_pickF rfl rfl rfl) ?_
    refine AL_p (x_assign rfl rfl) ?_
    refine AL_nil ?_
    refine AW_ret ?_
    exact ⟨rn [], ⟨⟨⟨_, rfl, vle_bool (by first | exact (decide_eq_true (by omega)).symm | exact (decide_eq_false (by omega)).symm)⟩, trivial⟩, trivial, trivial, rfl⟩⟩
  try simp only [tdy] at h6
  refine AL_g rfl rfl (x_move rfl rfl) ?_
  refine AL_g rfl rfl (x_move rfl rfl) ?_
  refine AL_gb rfl rfl (x_leq rfl rfl rfl) (fun b10 h10 => ?_)
  refine AL_p (x_pickT rfl rfl rfl) ?_
  refine AL_p (x_assign rfl rfl) ?_
  refine AL_nil ?_
  refine AW_ret ?_
  cases b10
  rotate_left
  · try simp only [tdy] at h10
    exact ⟨rn [], ⟨⟨⟨_, rfl, vle_bool (by first | exact (decide_eq_true (by omega)).symm | exact (decide_eq_false (by omega)).symm)⟩, trivial⟩, trivial, trivial, rfl⟩⟩
  try simp only [tdy] at h10
  exact ⟨rn [], ⟨⟨⟨_, rfl, vle_bool (by first | exact (decide_eq_true (by omega)).symm | exact (decide_eq_false (by omega)).symm)⟩, trivial⟩, trivial, trivial, rfl⟩⟩

set_option maxHeartbeats 4000000 in
theorem relOkS_c (r : Relt) (hl : r.rows.length ≤ 1048576) : AC Tryz.prog 106 [.agg (relC r)] [] (.one (.c (.bool (relOk r)))) [] := by
  refine AC_body1 Tryz.func106 rfl rfl Tryz.ntmps106 rfl Tryz.results106 ?_
  refine AW_seq ?_
  refine AW_region ?_
  refine AL_p (x_box 100 rfl rfl rfl rfl rfl rfl rfl) ?_
  refine AL_p (x_assign rfl rfl) ?_
  refine AL_nil ?_
  refine AW_seq ?_
  refine AW_seq ?_
  refine AW_region ?_
  refine AL_p (x_field (off := 0) (o' := 0) rfl rfl rfl (by kernel_rfl) rfl) ?_
  refine AL_p (x_load1 rfl rfl rfl (by kernel_rfl) rfl) ?_
  refine AL_b (x_lss rfl rfl rfl) (fun b6 h6 => ?_)
  refine AL_p (x_move rfl rfl) ?_
  cases b6
  rotate_left
  · try simp only [tdy] at h6
    refine AL_o rfl rfl rfl rfl ?_
    refine AL_o rfl rfl rfl rfl ?_
    refine AL_o rfl rfl rfl rfl ?_
    refine AL_p (x_pickT rfl rfl rfl) ?_
    refine AL_p (x_move rfl rfl) ?_
    refine AL_o rfl rfl rfl rfl ?_
    refine AL_o rfl rfl rfl rfl ?_
    refine AL_o rfl rfl rfl rfl ?_
    refine AL_o rfl rfl rfl rfl ?_
    refine AL_p (x_pickT rfl rfl rfl) ?_
    refine AL_nil ?_
    refine AW_condT rfl ?_
    refine AW_seq ?_
    refine AW_region ?_
    refine AL_p (x_assign rfl rfl) ?_
    refine AL_nil ?_
    refine AW_ret ?_
    exact ⟨rn [], ⟨⟨⟨_, rfl, vle_bool (by first | exact (relOk_range (by omega)).symm | exact (relOk_bad (k := k) (by omega) (rowAt_len (by omega) (by omega))).symm | exact (relOk_bad (k := k) (by omega) (rowAt_row (by omega) h40)).symm | exact (relOk_bad (k := k) (by omega) (rowAt_order (by omega) (by omega) (by rw [← rowOrder_lt hprev h40]; exact h58))).symm | exact (relOk_good hs (by omega) (by omega) (by omega) (by omega)).symm)⟩, trivial⟩, trivial, trivial, rfl⟩⟩
  try simp only [tdy] at h6
  refine AL_g rfl rfl (x_field (off := 0) (o' := 0) rfl rfl rfl (by kernel_rfl) rfl) ?_
  refine AL_g rfl rfl (x_load1 rfl rfl rfl (by kernel_rfl) rfl) ?_
  refine AL_gb rfl rfl (x_gtr rfl rfl rfl) (fun b10 h10 => ?_)
  refine AL_p (x_pickF rfl rfl rfl) ?_
  refine AL_p (x_move rfl rfl) ?_
  cases b10
  rotate_left
  · try simp only [tdy] at h10
    refine AL_o rfl rfl rfl rfl ?_
    refine AL_o rfl rfl rfl rfl ?_
    refine AL_o rfl rfl rfl rfl ?_
    refine AL_o rfl rfl rfl rfl ?_
    refine AL_p (x_pickT rfl rfl rfl) ?_
    refine AL_nil ?_
    refine AW_condT rfl ?_
    refine AW_seq ?_
    refine AW_region ?_
    refine AL_p (x_assign rfl rfl) ?_
    refine AL_nil ?_
    refine AW_ret ?_
    exact ⟨rn [], ⟨⟨⟨_, rfl, vle_bool (by first | exact (relOk_range (by omega)).symm | exact (relOk_bad (k := k) (by omega) (rowAt_len (by omega) (by omega))).symm | exact (relOk_bad (k := k) (by omega) (rowAt_row (by omega) h40)).symm | exact (relOk_bad (k := k) (by omega) (rowAt_order (by omega) (by omega) (by rw [← rowOrder_lt hprev h40]; exact h58))).symm | exact (relOk_good hs (by omega) (by omega) (by omega) (by omega)).symm)⟩, trivial⟩, trivial, trivial, rfl⟩⟩
  try simp only [tdy] at h10
  refine AL_g rfl rfl (x_field (off := 1) (o' := 1) rfl rfl rfl (by kernel_rfl) rfl) ?_
  refine AL_g rfl rfl (x_load1 rfl rfl rfl (by kernel_rfl) rfl) ?_
  refine AL_g rfl rfl (x_len (E := 72) (n := 1) rfl rfl (by kernel_rfl)) ?_
  refine AL_gb rfl rfl (x_gtr rfl rfl rfl) (fun b16 h16 => ?_)
  refine AL_p (x_pickF rfl rfl rfl) ?_
  refine AL_nil ?_
  cases b16
  rotate_left
  · try simp only [tdy] at h16
    refine AW_condT rfl ?_
    refine AW_seq ?_
    refine AW_region ?_
    refine AL_p (x_assign rfl rfl) ?_
    refine AL_nil ?_
    refine AW_ret ?_
    exact ⟨rn [], ⟨⟨⟨_, rfl, vle_bool (by first | exact (relOk_range (by omega)).symm | exact (relOk_bad (k := k) (by omega) (rowAt_len (by omega) (by omega))).symm | exact (relOk_bad (k := k) (by omega) (rowAt_row (by omega) h40)).symm | exact (relOk_bad (k := k) (by omega) (rowAt_order (by omega) (by omega) (by rw [← rowOrder_lt hprev h40]; exact h58))).symm | exact (relOk_good hs (by omega) (by omega) (by omega) (by omega)).symm)⟩, trivial⟩, trivial, trivial, rfl⟩⟩
  try simp only [tdy] at h16
  refine AW_condF rfl ?_
  refine AW_skip ?_
  refine AW_seq ?_
  refine AW_seq ?_
  refine AW_region ?_
  refine AL_p (x_field (off := 1) (o' := 1) rfl rfl rfl (by kernel_rfl) rfl) ?_
  refine AL_p (x_load1 rfl rfl rfl (by kernel_rfl) rfl) ?_
  refine AL_p (x_len (E := 72) (n := 1) rfl rfl (by kernel_rfl)) ?_
  refine AL_p (x_move rfl rfl) ?_
  refine AL_nil ?_
  refine AW_block ?_
  refine AW_loop2 (ι := {q : Nat // q ≤ r.rows.length ∧ GoodTo r.rows r.arity q}) (fun p => [(21, .one (.c (.int .i64 ((p.1) : Int))))]) (fun p => []) [1, 20] [100] (fun p => r.rows.length - (p.1)) ⟨0, ⟨by omega, .zero⟩⟩ (rn []) ?_ ?_
  exact ⟨by (repeat refine ⟨⟨_, rfl, by first | exact VLe.rf | exact vle_int (by dsimp only; omega)⟩, ?_⟩); exact trivial, by (repeat refine ⟨⟨_, rfl, by first | exact BLe.rf | exact BLe.box AllC.rf | exact BLe.arr (by exact rfl)⟩, ?_⟩); exact trivial, by repeat (first | exact trivial | refine ⟨⟨rfl, by first | (left; intro h; cases h) | (right; rfl), by first | exact (fun _ h => ⟨_, h⟩) | exact (fun _ _ => ⟨_, rfl⟩)⟩, ?_⟩), rfl⟩
  rintro ⟨k, hinv⟩
  dsimp only
  obtain ⟨hk, hs⟩ := hinv
  refine AW_seq ?_
  refine AW_region ?_
  refine AL_b (x_lss rfl rfl rfl) (fun b22 h22 => ?_)
  refine AL_nil ?_
  refine AW_seq ?_
  cases b22
  · try simp only [tdy] at h22
    refine AW_condF rfl ?_
    refine AW_exit (BQ_hit ?_)
    refine AW_seq ?_
    refine AW_region ?_
    refine AL_p (x_assign rfl rfl) ?_
    refine AL_nil ?_
    refine AW_ret ?_
    exact ⟨rn [], ⟨⟨⟨_, rfl, vle_bool (by first | exact (relOk_range (by omega)).symm | exact (relOk_bad (k := k) (by omega) (rowAt_len (by omega) (by omega))).symm | exact (relOk_bad (k := k) (by omega) (rowAt_row (by omega) h40)).symm | exact (relOk_bad (k := k) (by omega) (rowAt_order (by omega) (by omega) (by rw [← rowOrder_lt hprev h40]; exact h58))).symm | exact (relOk_good hs (by omega) (by omega) (by omega) (by omega)).symm)⟩, trivial⟩, trivial, trivial, rfl⟩⟩
  try simp only [tdy] at h22
  refine AW_condT rfl ?_
  refine AW_skip ?_
  refine AW_seq ?_
  refine AW_block ?_
  refine AW_seq ?_
  refine AW_region ?_
  refine AL_p (x_move rfl rfl) ?_
  refine AL_p (x_assign rfl rfl) ?_
  refine AL_nil ?_
  refine AW_seq ?_
  refine AW_seq ?_
  refine AW_draw rfl ?_
  refine AL_p (x_field (off := 1) (o' := 1) rfl rfl rfl (by kernel_rfl) rfl) ?_
  refine AL_p (x_load1 rfl rfl rfl (by kernel_rfl) rfl) ?_
  refine AL_p (x_move rfl rfl) ?_
  refine AL_p (x_index (E := 72) (n := 1) rfl rfl rfl (by kernel_rfl) rfl rfl (by omega)) ?_
  refine AL_p (x_efield (off := 0) (o' := 0) rfl rfl (by kernel_rfl) rfl) ?_
  refine AL_p (x_eload1 rfl rfl (by kernel_rfl) rfl) ?_
  refine AL_p (x_len (E := 147) (n := 2) rfl rfl (by kernel_rfl)) ?_
  refine AL_p (x_field (off := 0) (o' := 0) rfl rfl rfl (by kernel_rfl) rfl) ?_
  refine AL_p (x_load1 rfl rfl rfl (by kernel_rfl) rfl) ?_
  refine AL_b (x_neq rfl rfl rfl) (fun b33 h33 => ?_)
  refine AL_p (x_move rfl rfl) ?_
  cases b33
  rotate_left
  · try simp only [tdy] at h33
    refine AL_o rfl rfl rfl rfl ?_
    refine AL_o rfl rfl rfl rfl ?_
    refine AL_o rfl rfl rfl rfl ?_
    refine AL_o rfl rfl rfl rfl ?_
    refine AL_o rfl rfl rfl rfl ?_
    refine AL_o rfl rfl rfl rfl ?_
    refine AL_o rfl rfl rfl rfl ?_
    refine AL_p (x_pickT rfl rfl rfl) ?_
    refine AL_nild (by kernel_rfl) ?_
    refine AW_condT rfl ?_
    refine AW_seq ?_
    refine AW_region ?_
    refine AL_p (x_assign rfl rfl) ?_
    refine AL_nil ?_
    refine AW_ret (BQ_ret (BQ_ret ?_))
    exact ⟨rn [], ⟨⟨⟨_, rfl, vle_bool (by first | exact (relOk_range (by omega)).symm | exact (relOk_bad (k := k) (by omega) (rowAt_len (by omega) (by omega))).symm | exact (relOk_bad (k := k) (by omega) (rowAt_row (by omega) h40)).symm | exact (relOk_bad (k := k) (by omega) (rowAt_order (by omega) (by omega) (by rw [← rowOrder_lt hprev h40]; exact h58))).symm | exact (relOk_good hs (by omega) (by omega) (by omega) (by omega)).symm)⟩, trivial⟩, trivial, trivial, rfl⟩⟩
  try simp only [tdy] at h33
  refine AL_g rfl rfl (x_field (off := 1) (o' := 1) rfl rfl rfl (by kernel_rfl) rfl) ?_
  refine AL_g rfl rfl (x_load1 rfl rfl rfl (by kernel_rfl) rfl) ?_
  refine AL_g rfl rfl (x_move rfl rfl) ?_
  refine AL_g rfl rfl (x_index (E := 72) (n := 1) rfl rfl rfl (by kernel_rfl) rfl rfl (by omega)) ?_
  refine AL_g rfl rfl (x_eloadW (n := 1) rfl rfl (by kernel_rfl) rfl) ?_
  refine AL_gb rfl rfl (x_call0 rfl rfl rfl (rowOkS_c _) rfl rfl) (fun b40 h40 => ?_)
  refine AL_g rfl rfl (x_not rfl rfl) ?_
  refine AL_p (x_pickF rfl rfl rfl) ?_
  refine AL_nild (by kernel_rfl) ?_
  cases b40
  · try simp only [tdy] at h40
    refine AW_condT rfl ?_
    refine AW_seq ?_
    refine AW_region ?_
    refine AL_p (x_assign rfl rfl) ?_
    refine AL_nil ?_
    refine AW_ret (BQ_ret (BQ_ret ?_))
    exact ⟨rn [], ⟨⟨⟨_, rfl, vle_bool (by first | exact (relOk_range (by omega)).symm | exact (relOk_bad (k := k) (by omega) (rowAt_len (by omega) (by omega))).symm | exact (relOk_bad (k := k) (by omega) (rowAt_row (by omega) h40)).symm | exact (relOk_bad (k := k) (by omega) (rowAt_order (by omega) (by omega) (by rw [← rowOrder_lt hprev h40]; exact h58))).symm | exact (relOk_good hs (by omega) (by omega) (by omega) (by omega)).symm)⟩, trivial⟩, trivial, trivial, rfl⟩⟩
  try simp only [tdy] at h40
  refine AW_condF rfl ?_
  refine AW_skip ?_
  refine AW_seq ?_
  refine AW_draw rfl ?_
  refine AL_p (x_move rfl rfl) ?_
  refine AL_b (x_gtr rfl rfl rfl) (fun b44 h44 => ?_)
  refine AL_p (x_move rfl rfl) ?_
  cases b44
  · try simp only [tdy] at h44
    have hat := rowAt_first (ar := r.arity) (k := k) (by omega) (by omega) h40 (by omega)
    refine AL_o rfl rfl rfl rfl ?_
    refine AL_o rfl rfl rfl rfl ?_
    refine AL_o rfl rfl rfl rfl ?_
    refine AL_o rfl rfl rfl rfl ?_
    refine AL_o rfl rfl rfl rfl ?_
    refine AL_o rfl rfl rfl rfl ?_
    refine AL_o rfl rfl rfl rfl ?_
    refine AL_o rfl rfl rfl rfl ?_
    refine AL_o rfl rfl rfl rfl ?_
    refine AL_o rfl rfl rfl rfl ?_
    refine AL_o rfl rfl rfl rfl ?_
    refine AL_o rfl rfl rfl rfl ?_
    refine AL_o rfl rfl rfl rfl ?_
    refine AL_p (x_pickF rfl rfl rfl) ?_
    refine AL_nild (by kernel_rfl) ?_
    refine AW_condF rfl ?_
    refine AW_skip ?_
    refine AW_region ?_
    refine AL_p (x_add rfl rfl rfl (IntWalk.i64_in _ (by omega))) ?_
    refine AL_p (x_move rfl rfl) ?_
    refine AL_nil ?_
    refine ⟨⟨k + 1, ⟨by omega, hs.succ (by omega) hat⟩⟩, rn [], ?_, by dsimp only; omega⟩
    exact ⟨by (repeat refine ⟨⟨_, rfl, by first | exact VLe.rf | exact vle_int (by dsimp only; omega)⟩, ?_⟩); exact trivial, by (repeat refine ⟨⟨_, rfl, by first | exact BLe.rf | exact BLe.box AllC.rf | exact BLe.arr (by exact rfl)⟩, ?_⟩); exact trivial, by repeat (first | exact trivial | refine ⟨⟨rfl, by first | (left; intro h; cases h) | (right; rfl), by first | exact (fun _ h => ⟨_, h⟩) | exact (fun _ _ => ⟨_, rfl⟩)⟩, ?_⟩), rfl⟩
  try simp only [tdy] at h44
  refine AL_g rfl rfl (x_field (off := 1) (o' := 1) rfl rfl rfl (by kernel_rfl) rfl) ?_
  refine AL_g rfl rfl (x_load1 rfl rfl rfl (by kernel_rfl) rfl) ?_
  refine AL_g rfl rfl (x_move rfl rfl) ?_
  refine AL_g rfl rfl (x_sub rfl rfl rfl (IntWalk.i64_in _ (by omega))) ?_
  refine AL_g rfl rfl (x_index (E := 72) (n := 1) rfl rfl rfl (by kernel_rfl) rfl (k := k - 1) (by omega) (by omega)) ?_
  refine AL_g rfl rfl (x_eloadW (n := 1) rfl rfl (by kernel_rfl) rfl) ?_
  refine AL_g rfl rfl (x_field (off := 1) (o' := 1) rfl rfl rfl (by kernel_rfl) rfl) ?_
  refine AL_g rfl rfl (x_load1 rfl rfl rfl (by kernel_rfl) rfl) ?_
  refine AL_g rfl rfl (x_move rfl rfl) ?_
  refine AL_g rfl rfl (x_index (E := 72) (n := 1) rfl rfl rfl (by kernel_rfl) rfl rfl (by omega)) ?_
  refine AL_g rfl rfl (x_eloadW (n := 1) rfl rfl (by kernel_rfl) rfl) ?_
  refine AL_g rfl rfl (x_call0 rfl rfl rfl (rowOrderS_c _ _) rfl rfl) ?_
  refine AL_gb rfl rfl (x_neq rfl rfl rfl) (fun b58 h58 => ?_)
  refine AL_p (x_pickT rfl rfl rfl) ?_
  refine AL_nild (by kernel_rfl) ?_
  cases b58
  rotate_left
  · try simp only [tdy] at h58
    have hprev := hs.row (j := k - 1) (by omega) (by omega)
    refine AW_condT rfl ?_
    refine AW_seq ?_
    refine AW_region ?_
    refine AL_p (x_assign rfl rfl) ?_
    refine AL_nil ?_
    refine AW_ret (BQ_ret (BQ_ret ?_))
    exact ⟨rn [], ⟨⟨⟨_, rfl, vle_bool (by first | exact (relOk_range (by omega)).symm | exact (relOk_bad (k := k) (by omega) (rowAt_len (by omega) (by omega))).symm | exact (relOk_bad (k := k) (by omega) (rowAt_row (by omega) h40)).symm | exact (relOk_bad (k := k) (by omega) (rowAt_order (by omega) (by omega) (by rw [← rowOrder_lt hprev h40]; exact h58))).symm | exact (relOk_good hs (by omega) (by omega) (by omega) (by omega)).symm)⟩, trivial⟩, trivial, trivial, rfl⟩⟩
  try simp only [tdy] at h58
  have hprev := hs.row (j := k - 1) (by omega) (by omega)
  have hat := rowAt_next (ar := r.arity) (k := k) (by omega) (by omega) h40 (by omega) ((rowOrder_lt hprev h40).1 h58)
  refine AW_condF rfl ?_
  refine AW_skip ?_
  refine AW_region ?_
  refine AL_p (x_add rfl rfl rfl (IntWalk.i64_in _ (by omega))) ?_
  refine AL_p (x_move rfl rfl) ?_
  refine AL_nil ?_
  refine ⟨⟨k + 1, ⟨by omega, hs.succ (by omega) hat⟩⟩, rn [], ?_, by dsimp only; omega⟩
  exact ⟨by (repeat refine ⟨⟨_, rfl, by first | exact VLe.rf | exact vle_int (by dsimp only; omega)⟩, ?_⟩); exact trivial, by (repeat refine ⟨⟨_, rfl, by first | exact BLe.rf | exact BLe.box AllC.rf | exact BLe.arr (by exact rfl)⟩, ?_⟩); exact trivial, by repeat (first | exact trivial | refine ⟨⟨rfl, by first | (left; intro h; cases h) | (right; rfl), by first | exact (fun _ h => ⟨_, h⟩) | exact (fun _ _ => ⟨_, rfl⟩)⟩, ?_⟩), rfl⟩

set_option maxHeartbeats 4000000 in
theorem relOkI_c (r : Relt) (hl : r.rows.length ≤ 1048576) : AC Tryz.prog 111 [.agg (relC r)] [] (.one (.c (.bool (relOk r)))) [] := by
  refine AC_body1 Tryz.func111 rfl rfl Tryz.ntmps111 rfl Tryz.results111 ?_
  refine AW_seq ?_
  refine AW_region ?_
  refine AL_p (x_box 100 rfl rfl rfl rfl rfl rfl rfl) ?_
  refine AL_p (x_assign rfl rfl) ?_
  refine AL_nil ?_
  refine AW_seq ?_
  refine AW_seq ?_
  refine AW_region ?_
  refine AL_p (x_field (off := 1) (o' := 1) rfl rfl rfl (by kernel_rfl) rfl) ?_
  refine AL_p (x_load1 rfl rfl rfl (by kernel_rfl) rfl) ?_
  refine AL_p (x_len (E := 72) (n := 1) rfl rfl (by kernel_rfl)) ?_
  refine AL_p (x_move rfl rfl) ?_
  refine AL_nil ?_
  refine AW_block ?_
  refine AW_loop2 (ι := {q : Nat // q ≤ r.rows.length ∧ GoodTo r.rows r.arity q}) (fun p => [(8, .one (.c (.int .i64 ((p.1) : Int))))]) (fun p => []) [1, 6, 7] [100] (fun p => r.rows.length - (p.1)) ⟨0, ⟨by omega, .zero⟩⟩ (rn []) ?_ ?_
  exact ⟨by (repeat refine ⟨⟨_, rfl, by first | exact VLe.rf | exact vle_int (by dsimp only; omega)⟩, ?_⟩); exact trivial, by (repeat refine ⟨⟨_, rfl, by first | exact BLe.rf | exact BLe.box AllC.rf | exact BLe.arr (by exact rfl)⟩, ?_⟩); exact trivial, by repeat (first | exact trivial | refine ⟨⟨rfl, by first | (left; intro h; cases h) | (right; rfl), by first | exact (fun _ h => ⟨_, h⟩) | exact (fun _ _ => ⟨_, rfl⟩)⟩, ?_⟩), rfl⟩
  rintro ⟨k, hinv⟩
  dsimp only
  obtain ⟨hk, hs⟩ := hinv
  refine AW_seq ?_
  refine AW_region ?_
  refine AL_b (x_lss rfl rfl rfl) (fun b9 h9 => ?_)
  refine AL_nil ?_
  refine AW_seq ?_
  cases b9
  · try simp only [tdy] at h9
    refine AW_condF rfl ?_
    refine AW_exit (BQ_hit ?_)
    refine AW_seq ?_
    refine AW_region ?_
    refine AL_p (x_field (off := 0) (o' := 0) rfl rfl rfl (by kernel_rfl) rfl) ?_
    refine AL_p (x_load1 rfl rfl rfl (by kernel_rfl) rfl) ?_
    refine AL_b (x_call0 rfl rfl rfl (upToI_c _ _) rfl rfl) (fun b42 h42 => ?_)
    refine AL_p (x_move rfl rfl) ?_
    cases b42
    · try simp only [tdy] at h42
      refine AL_o rfl rfl rfl rfl ?_
      refine AL_o rfl rfl rfl rfl ?_
      refine AL_o rfl rfl rfl rfl ?_
      refine AL_o rfl rfl rfl rfl ?_
      refine AL_p (x_pickF rfl rfl rfl) ?_
      refine AL_p (x_assign rfl rfl) ?_
      refine AL_nil ?_
      refine AW_ret ?_
      exact ⟨rn [], ⟨⟨⟨_, rfl, vle_bool (by first | exact (relOk_bad (k := k) (by omega) (rowAt_row (by omega) h14)).symm | exact (relOk_bad (k := k) (by omega) (rowAt_len (by omega) h22)).symm | exact (relOk_bad (k := k) (by omega) (rowAt_order (by omega) (by omega) (by omega))).symm | exact (relOk_good hs (by omega) (upToB_iff.1 h42).1 (upToB_iff.1 h42).2 (by omega)).symm | exact (relOk_range (by omega)).symm | exact (relOk_range (upToB_not h42 (by omega))).symm)⟩, trivial⟩, trivial, trivial, rfl⟩⟩
    try simp only [tdy] at h42
    refine AL_g rfl rfl (x_field (off := 1) (o' := 1) rfl rfl rfl (by kernel_rfl) rfl) ?_
    refine AL_g rfl rfl (x_load1 rfl rfl rfl (by kernel_rfl) rfl) ?_
    refine AL_g rfl rfl (x_len (E := 72) (n := 1) rfl rfl (by kernel_rfl)) ?_
    refine AL_gb rfl rfl (x_leq rfl rfl rfl) (fun b47 h47 => ?_)
    refine AL_p (x_pickT rfl rfl rfl) ?_
    refine AL_p (x_assign rfl rfl) ?_
    refine AL_nil ?_
    refine AW_ret ?_
    cases b47
    rotate_left
    · try simp only [tdy] at h47
      exact ⟨rn [], ⟨⟨⟨_, rfl, vle_bool (by first | exact (relOk_bad (k := k) (by omega) (rowAt_row (by omega) h14)).symm | exact (relOk_bad (k := k) (by omega) (rowAt_len (by omega) h22)).symm | exact (relOk_bad (k := k) (by omega) (rowAt_order (by omega) (by omega) (by omega))).symm | exact (relOk_good hs (by omega) (upToB_iff.1 h42).1 (upToB_iff.1 h42).2 (by omega)).symm | exact (relOk_range (by omega)).symm | exact (relOk_range (upToB_not h42 (by omega))).symm)⟩, trivial⟩, trivial, trivial, rfl⟩⟩
    try simp only [tdy] at h47
    exact ⟨rn [], ⟨⟨⟨_, rfl, vle_bool (by first | exact (relOk_bad (k := k) (by omega) (rowAt_row (by omega) h14)).symm | exact (relOk_bad (k := k) (by omega) (rowAt_len (by omega) h22)).symm | exact (relOk_bad (k := k) (by omega) (rowAt_order (by omega) (by omega) (by omega))).symm | exact (relOk_good hs (by omega) (upToB_iff.1 h42).1 (upToB_iff.1 h42).2 (by omega)).symm | exact (relOk_range (by omega)).symm | exact (relOk_range (upToB_not h42 (by omega))).symm)⟩, trivial⟩, trivial, trivial, rfl⟩⟩
  try simp only [tdy] at h9
  refine AW_condT rfl ?_
  refine AW_skip ?_
  refine AW_seq ?_
  refine AW_block ?_
  refine AW_seq ?_
  refine AW_region ?_
  refine AL_p (x_move rfl rfl) ?_
  refine AL_p (x_index (E := 72) (n := 1) rfl rfl rfl (by kernel_rfl) rfl rfl (by omega)) ?_
  refine AL_p (x_eloadW (n := 1) rfl rfl (by kernel_rfl) rfl) ?_
  refine AL_p (x_alloc (z := .agg #[.slice none 0 0]) 101 rfl (by kernel_rfl) rfl rfl rfl rfl) ?_
  refine AL_p (x_assign rfl rfl) ?_
  refine AL_p (x_store (n := 1) rfl rfl rfl rfl (by kernel_rfl) rfl rfl rfl) ?_
  refine AL_nil ?_
  refine AW_seq ?_
  refine AW_draw rfl ?_
  refine AL_p (x_loadN (n := 1) rfl rfl rfl (by kernel_rfl) rfl rfl) ?_
  refine AL_b (x_call0 rfl rfl rfl (rowOkI_c _) rfl rfl) (fun b14 h14 => ?_)
  refine AL_p (x_not rfl rfl) ?_
  refine AL_p (x_move rfl rfl) ?_
  cases b14
  · try simp only [tdy] at h14
    refine AL_o rfl rfl rfl rfl ?_
    refine AL_o rfl rfl rfl rfl ?_
    refine AL_o rfl rfl rfl rfl ?_
    refine AL_o rfl rfl rfl rfl ?_
    refine AL_o rfl rfl rfl rfl ?_
    refine AL_o rfl rfl rfl rfl ?_
    refine AL_p (x_pickT rfl rfl rfl) ?_
    refine AL_p (x_move rfl rfl) ?_
    refine AL_o rfl rfl rfl rfl ?_
    refine AL_o rfl rfl rfl rfl ?_
    refine AL_o rfl rfl rfl rfl ?_
    refine AL_u rfl rfl rfl ?_
    refine AL_u rfl rfl rfl ?_
    refine AL_u rfl rfl rfl ?_
    refine AL_u rfl rfl rfl ?_
    refine AL_u rfl rfl rfl ?_
    refine AL_u rfl rfl rfl ?_
    refine AL_u rfl rfl rfl ?_
    refine AL_u rfl rfl rfl ?_
    refine AL_u rfl rfl rfl ?_
    refine AL_o rfl rfl rfl rfl ?_
    refine AL_p (x_pickT rfl rfl rfl) ?_
    refine AL_nild (by kernel_rfl) ?_
    refine AW_condT rfl ?_
    refine AW_seq ?_
    refine AW_region ?_
    refine AL_p (x_assign rfl rfl) ?_
    refine AL_nil ?_
    refine AW_ret (BQ_ret (BQ_ret ?_))
    exact ⟨rn [], ⟨⟨⟨_, rfl, vle_bool (by first | exact (relOk_bad (k := k) (by omega) (rowAt_row (by omega) h14)).symm | exact (relOk_bad (k := k) (by omega) (rowAt_len (by omega) h22)).symm | exact (relOk_bad (k := k) (by omega) (rowAt_order (by omega) (by omega) (by omega))).symm | exact (relOk_good hs (by omega) (upToB_iff.1 h42).1 (upToB_iff.1 h42).2 (by omega)).symm | exact (relOk_range (by omega)).symm | exact (relOk_range (upToB_not h42 (by omega))).symm)⟩, trivial⟩, trivial, trivial, rfl⟩⟩
  try simp only [tdy] at h14
  refine AL_g rfl rfl (x_field (off := 0) (o' := 0) rfl rfl rfl (by kernel_rfl) rfl) ?_
  refine AL_g rfl rfl (x_load1 rfl rfl rfl (by kernel_rfl) rfl) ?_
  refine AL_g rfl rfl (x_len (E := 147) (n := 2) rfl rfl (by kernel_rfl)) ?_
  refine AL_g rfl rfl (x_field (off := 0) (o' := 0) rfl rfl rfl (by kernel_rfl) rfl) ?_
  refine AL_g rfl rfl (x_load1 rfl rfl rfl (by kernel_rfl) rfl) ?_
  refine AL_gb rfl rfl (x_neq rfl rfl rfl) (fun b22 h22 => ?_)
  refine AL_p (x_pickF rfl rfl rfl) ?_
  refine AL_p (x_move rfl rfl) ?_
  cases b22
  rotate_left
  · try simp only [tdy] at h22
    refine AL_o rfl rfl rfl rfl ?_
    refine AL_o rfl rfl rfl rfl ?_
    refine AL_o rfl rfl rfl rfl ?_
    refine AL_u rfl rfl rfl ?_
    refine AL_u rfl rfl rfl ?_
    refine AL_u rfl rfl rfl ?_
    refine AL_u rfl rfl rfl ?_
    refine AL_u rfl rfl rfl ?_
    refine AL_u rfl rfl rfl ?_
    refine AL_u rfl rfl rfl ?_
    refine AL_u rfl rfl rfl ?_
    refine AL_u rfl rfl rfl ?_
    refine AL_o rfl rfl rfl rfl ?_
    refine AL_p (x_pickT rfl rfl rfl) ?_
    refine AL_nild (by kernel_rfl) ?_
    refine AW_condT rfl ?_
    refine AW_seq ?_
    refine AW_region ?_
    refine AL_p (x_assign rfl rfl) ?_
    refine AL_nil ?_
    refine AW_ret (BQ_ret (BQ_ret ?_))
    exact ⟨rn [], ⟨⟨⟨_, rfl, vle_bool (by first | exact (relOk_bad (k := k) (by omega) (rowAt_row (by omega) h14)).symm | exact (relOk_bad (k := k) (by omega) (rowAt_len (by omega) h22)).symm | exact (relOk_bad (k := k) (by omega) (rowAt_order (by omega) (by omega) (by omega))).symm | exact (relOk_good hs (by omega) (upToB_iff.1 h42).1 (upToB_iff.1 h42).2 (by omega)).symm | exact (relOk_range (by omega)).symm | exact (relOk_range (upToB_not h42 (by omega))).symm)⟩, trivial⟩, trivial, trivial, rfl⟩⟩
  try simp only [tdy] at h22
  refine AL_g rfl rfl (x_move rfl rfl) ?_
  refine AL_gb rfl rfl (x_gtr rfl rfl rfl) (fun b26 h26 => ?_)
  refine AL_g rfl rfl (x_move rfl rfl) ?_
  cases b26
  · try simp only [tdy] at h26
    have hat := rowAt_first (ar := r.arity) (k := k) (by omega) (by omega) h14 (by omega)
    refine AL_o rfl rfl rfl rfl ?_
    refine AL_o rfl rfl rfl rfl ?_
    refine AL_o rfl rfl rfl rfl ?_
    refine AL_o rfl rfl rfl rfl ?_
    refine AL_o rfl rfl rfl rfl ?_
    refine AL_o rfl rfl rfl rfl ?_
    refine AL_o rfl rfl rfl rfl ?_
    refine AL_o rfl rfl rfl rfl ?_
    refine AL_o rfl rfl rfl rfl ?_
    refine AL_g rfl rfl (x_pickF rfl rfl rfl) ?_
    refine AL_p (x_pickF rfl rfl rfl) ?_
    refine AL_nild (by kernel_rfl) ?_
    refine AW_condF rfl ?_
    refine AW_skip ?_
    refine AW_region ?_
    refine AL_p (x_add rfl rfl rfl (IntWalk.i64_in _ (by omega))) ?_
    refine AL_p (x_move rfl rfl) ?_
    refine AL_nil ?_
    refine ⟨⟨k + 1, ⟨by omega, hs.succ (by omega) hat⟩⟩, rn [], ?_, by dsimp only; omega⟩
    exact ⟨by (repeat refine ⟨⟨_, rfl, by first | exact VLe.rf | exact vle_int (by dsimp only; omega)⟩, ?_⟩); exact trivial, by (repeat refine ⟨⟨_, rfl, by first | exact BLe.rf | exact BLe.box AllC.rf | exact BLe.arr (by exact rfl)⟩, ?_⟩); exact trivial, by repeat (first | exact trivial | refine ⟨⟨rfl, by first | (left; intro h; cases h) | (right; rfl), by first | exact (fun _ h => ⟨_, h⟩) | exact (fun _ _ => ⟨_, rfl⟩)⟩, ?_⟩), rfl⟩
  try simp only [tdy] at h26
  refine AL_g rfl rfl (x_field (off := 1) (o' := 1) rfl rfl rfl (by kernel_rfl) rfl) ?_
  refine AL_g rfl rfl (x_load1 rfl rfl rfl (by kernel_rfl) rfl) ?_
  refine AL_g rfl rfl (x_move rfl rfl) ?_
  refine AL_g rfl rfl (x_sub rfl rfl rfl (IntWalk.i64_in _ (by omega))) ?_
  refine AL_g rfl rfl (x_index (E := 72) (n := 1) rfl rfl rfl (by kernel_rfl) rfl (k := k - 1) (by omega) (by omega)) ?_
  refine AL_g rfl rfl (x_eloadW (n := 1) rfl rfl (by kernel_rfl) rfl) ?_
  refine AL_g rfl rfl (x_loadN (n := 1) rfl rfl rfl (by kernel_rfl) rfl rfl) ?_
  refine AL_g rfl rfl (x_call0 rfl rfl rfl (byRow_c _ _ (rowOk_vals (hs.row (by omega) (by omega))) (rowOk_vals h14)) rfl rfl) ?_
  refine AL_gb rfl rfl (x_geq rfl rfl rfl) (fun b36 h36 => ?_)
  refine AL_g rfl rfl (x_pickT rfl rfl rfl) ?_
  refine AL_p (x_pickF rfl rfl rfl) ?_
  refine AL_nild (by kernel_rfl) ?_
  cases b36
  rotate_left
  · try simp only [tdy] at h36
    refine AW_condT rfl ?_
    refine AW_seq ?_
    refine AW_region ?_
    refine AL_p (x_assign rfl rfl) ?_
    refine AL_nil ?_
    refine AW_ret (BQ_ret (BQ_ret ?_))
    exact ⟨rn [], ⟨⟨⟨_, rfl, vle_bool (by first | exact (relOk_bad (k := k) (by omega) (rowAt_row (by omega) h14)).symm | exact (relOk_bad (k := k) (by omega) (rowAt_len (by omega) h22)).symm | exact (relOk_bad (k := k) (by omega) (rowAt_order (by omega) (by omega) (by omega))).symm | exact (relOk_good hs (by omega) (upToB_iff.1 h42).1 (upToB_iff.1 h42).2 (by omega)).symm | exact (relOk_range (by omega)).symm | exact (relOk_range (upToB_not h42 (by omega))).symm)⟩, trivial⟩, trivial, trivial, rfl⟩⟩
  try simp only [tdy] at h36
  have hat := rowAt_next (ar := r.arity) (k := k) (by omega) (by omega) h14 (by omega) (by omega)
  refine AW_condF rfl ?_
  refine AW_skip ?_
  refine AW_region ?_
  refine AL_p (x_add rfl rfl rfl (IntWalk.i64_in _ (by omega))) ?_
  refine AL_p (x_move rfl rfl) ?_
  refine AL_nil ?_
  refine ⟨⟨k + 1, ⟨by omega, hs.succ (by omega) hat⟩⟩, rn [], ?_, by dsimp only; omega⟩
  exact ⟨by (repeat refine ⟨⟨_, rfl, by first | exact VLe.rf | exact vle_int (by dsimp only; omega)⟩, ?_⟩); exact trivial, by (repeat refine ⟨⟨_, rfl, by first | exact BLe.rf | exact BLe.box AllC.rf | exact BLe.arr (by exact rfl)⟩, ?_⟩); exact trivial, by repeat (first | exact trivial | refine ⟨⟨rfl, by first | (left; intro h; cases h) | (right; rfl), by first | exact (fun _ h => ⟨_, h⟩) | exact (fun _ _ => ⟨_, rfl⟩)⟩, ?_⟩), rfl⟩
end Go.Proofs.YtibhoanjglfaoaaGreat

/- Like relations (printed by walk.py) -/
namespace Go.Proofs.YtibhoanjglfaoaaGreat
open Go.RowKit
set_option linter.unusedVariables false
set_option linter.unusedSimpArgs false
set_option maxRecDepth 100000

set_option maxHeartbeats 4000000 in
theorem twoS_c (a b : Relt) (ha : smallRel a) (hb : smallRel b) : AC Tryz.prog 99 [.agg (relC a), .agg (relC b)] [] (.one (.c (.bool (two a b)))) [] := by
  refine AC_body1 Tryz.func99 rfl rfl Tryz.ntmps99 rfl Tryz.results99 ?_
  refine AW_seq ?_
  refine AW_region ?_
  refine AL_p (x_box 100 rfl rfl rfl rfl rfl rfl rfl) ?_
  refine AL_p (x_box 101 rfl rfl rfl rfl rfl rfl rfl) ?_
  refine AL_p (x_assign rfl rfl) ?_
  refine AL_nil ?_
  refine AW_seq ?_
  refine AW_region ?_
  refine AL_p (x_loadN (n := 2) rfl rfl rfl (by kernel_rfl) rfl rfl) ?_
  refine AL_b (x_call0 rfl rfl rfl (relOkS_c _ (by first | exact ha.1 | exact hb.1)) rfl rfl) (fun b6 h6 => ?_)
  refine AL_p (x_move rfl rfl) ?_
  cases b6
  · try simp only [tdy] at h6
    refine AL_o rfl rfl rfl rfl ?_
    refine AL_o rfl rfl rfl rfl ?_
    refine AL_p (x_pickF rfl rfl rfl) ?_
    refine AL_p (x_move rfl rfl) ?_
    refine AL_o rfl rfl rfl rfl ?_
    refine AL_o rfl rfl rfl rfl ?_
    refine AL_o rfl rfl rfl rfl ?_
    refine AL_o rfl rfl rfl rfl ?_
    refine AL_o rfl rfl rfl rfl ?_
    refine AL_p (x_pickF rfl rfl rfl) ?_
    refine AL_p (x_assign rfl rfl) ?_
    refine AL_nil ?_
    refine AW_ret ?_
    exact ⟨rn [], ⟨⟨⟨_, rfl, vle_bool (by first | exact (two_a h6).symm | exact (two_b h9).symm | ((rw [two_ok h6 h9]; simp [h16])))⟩, trivial⟩, trivial, trivial, rfl⟩⟩
  try simp only [tdy] at h6
  refine AL_g rfl rfl (x_loadN (n := 2) rfl rfl rfl (by kernel_rfl) rfl rfl) ?_
  refine AL_gb rfl rfl (x_call0 rfl rfl rfl (relOkS_c _ (by first | exact ha.1 | exact hb.1)) rfl rfl) (fun b9 h9 => ?_)
  refine AL_p (x_pickT rfl rfl rfl) ?_
  refine AL_p (x_move rfl rfl) ?_
  cases b9
  · try simp only [tdy] at h9
    refine AL_o rfl rfl rfl rfl ?_
    refine AL_o rfl rfl rfl rfl ?_
    refine AL_o rfl rfl rfl rfl ?_
    refine AL_o rfl rfl rfl rfl ?_
    refine AL_o rfl rfl rfl rfl ?_
    refine AL_p (x_pickF rfl rfl rfl) ?_
    refine AL_p (x_assign rfl rfl) ?_
    refine AL_nil ?_
    refine AW_ret ?_
    exact ⟨rn [], ⟨⟨⟨_, rfl, vle_bool (by first | exact (two_a h6).symm | exact (two_b h9).symm | ((rw [two_ok h6 h9]; simp [h16])))⟩, trivial⟩, trivial, trivial, rfl⟩⟩
  try simp only [tdy] at h9
  refine AL_g rfl rfl (x_field (off := 0) (o' := 0) rfl rfl rfl (by kernel_rfl) rfl) ?_
  refine AL_g rfl rfl (x_load1 rfl rfl rfl (by kernel_rfl) rfl) ?_
  refine AL_g rfl rfl (x_field (off := 0) (o' := 0) rfl rfl rfl (by kernel_rfl) rfl) ?_
  refine AL_g rfl rfl (x_load1 rfl rfl rfl (by kernel_rfl) rfl) ?_
  refine AL_gb rfl rfl (x_eql rfl rfl rfl) (fun b16 h16 => ?_)
  refine AL_p (x_pickT rfl rfl rfl) ?_
  refine AL_p (x_assign rfl rfl) ?_
  refine AL_nil ?_
  refine AW_ret ?_
  cases b16
  rotate_left
  · try simp only [tdy] at h16
    exact ⟨rn [], ⟨⟨⟨_, rfl, vle_bool (by first | exact (two_a h6).symm | exact (two_b h9).symm | ((rw [two_ok h6 h9]; simp [h16])))⟩, trivial⟩, trivial, trivial, rfl⟩⟩
  try simp only [tdy] at h16
  exact ⟨rn [], ⟨⟨⟨_, rfl, vle_bool (by first | exact (two_a h6).symm | exact (two_b h9).symm | ((rw [two_ok h6 h9]; simp [h16])))⟩, trivial⟩, trivial, trivial, rfl⟩⟩

set_option maxHeartbeats 4000000 in
theorem eqVals_c (a b : List Val) (ha : a.length ≤ 1048576) : AC Tryz.prog 126 [.one (.sl valE a), .one (.sl valE b)] [] (.one (.c (.bool (sameRow a b)))) [] := by
  refine AC_body1 Tryz.func126 rfl rfl Tryz.ntmps126 rfl Tryz.results126 ?_
  refine AW_seq ?_
  refine AW_region ?_
  refine AL_p (x_assign rfl rfl) ?_
  refine AL_nil ?_
  refine AW_seq ?_
  refine AW_seq ?_
  refine AW_region ?_
  refine AL_p (x_move rfl rfl) ?_
  refine AL_p (x_len (E := 147) (n := 2) rfl rfl (by kernel_rfl)) ?_
  refine AL_p (x_move rfl rfl) ?_
  refine AL_p (x_len (E := 147) (n := 2) rfl rfl (by kernel_rfl)) ?_
  refine AL_b (x_neq rfl rfl rfl) (fun b10 h10 => ?_)
  refine AL_nil ?_
  cases b10
  rotate_left
  · try simp only [tdy] at h10
    refine AW_condT rfl ?_
    refine AW_seq ?_
    refine AW_region ?_
    refine AL_p (x_assign rfl rfl) ?_
    refine AL_nil ?_
    refine AW_ret ?_
    exact ⟨rn [], ⟨⟨⟨_, rfl, vle_bool (by first | exact (sameRow_len (by omega)).symm | exact (sameRow_at (k := k) (by omega) (by omega) h24).symm | exact (sameRow_eq (hs.eq (by omega) (by omega))).symm)⟩, trivial⟩, trivial, trivial, rfl⟩⟩
  try simp only [tdy] at h10
  refine AW_condF rfl ?_
  refine AW_skip ?_
  refine AW_seq ?_
  refine AW_seq ?_
  refine AW_region ?_
  refine AL_p (x_move rfl rfl) ?_
  refine AL_p (x_len (E := 147) (n := 2) rfl rfl (by kernel_rfl)) ?_
  refine AL_p (x_move rfl rfl) ?_
  refine AL_nil ?_
  refine AW_block ?_
  refine AW_loop2 (ι := {q : Nat // q ≤ a.length ∧ SameTo a b q}) (fun p => [(13, .one (.c (.int .i64 ((p.1) : Int))))]) (fun p => []) [0, 1, 12] [] (fun p => a.length - (p.1)) ⟨0, ⟨by omega, .zero⟩⟩ (rn []) ?_ ?_
  exact ⟨by (repeat refine ⟨⟨_, rfl, by first | exact VLe.rf | exact vle_int (by dsimp only; omega)⟩, ?_⟩); exact trivial, by (repeat refine ⟨⟨_, rfl, by first | exact BLe.rf | exact BLe.box AllC.rf | exact BLe.arr (by exact rfl)⟩, ?_⟩); exact trivial, by repeat (first | exact trivial | refine ⟨⟨rfl, by first | (left; intro h; cases h) | (right; rfl), by first | exact (fun _ h => ⟨_, h⟩) | exact (fun _ _ => ⟨_, rfl⟩)⟩, ?_⟩), rfl⟩
  rintro ⟨k, hinv⟩
  dsimp only
  obtain ⟨hk, hs⟩ := hinv
  refine AW_seq ?_
  refine AW_region ?_
  refine AL_b (x_lss rfl rfl rfl) (fun b14 h14 => ?_)
  refine AL_nil ?_
  refine AW_seq ?_
  cases b14
  · try simp only [tdy] at h14
    refine AW_condF rfl ?_
    refine AW_exit (BQ_hit ?_)
    refine AW_seq ?_
    refine AW_region ?_
    refine AL_p (x_assign rfl rfl) ?_
    refine AL_nil ?_
    refine AW_ret ?_
    exact ⟨rn [], ⟨⟨⟨_, rfl, vle_bool (by first | exact (sameRow_len (by omega)).symm | exact (sameRow_at (k := k) (by omega) (by omega) h24).symm | exact (sameRow_eq (hs.eq (by omega) (by omega))).symm)⟩, trivial⟩, trivial, trivial, rfl⟩⟩
  try simp only [tdy] at h14
  refine AW_condT rfl ?_
  refine AW_skip ?_
  refine AW_seq ?_
  refine AW_block ?_
  refine AW_seq ?_
  refine AW_region ?_
  refine AL_p (x_move rfl rfl) ?_
  refine AL_p (x_assign rfl rfl) ?_
  refine AL_nil ?_
  refine AW_seq ?_
  refine AW_draw rfl ?_
  refine AL_p (x_move rfl rfl) ?_
  refine AL_p (x_move rfl rfl) ?_
  refine AL_p (x_index (E := 147) (n := 2) rfl rfl rfl (by kernel_rfl) rfl rfl (by omega)) ?_
  refine AL_p (x_eloadW (n := 2) rfl rfl (by kernel_rfl) rfl) ?_
  refine AL_p (x_move rfl rfl) ?_
  refine AL_p (x_move rfl rfl) ?_
  refine AL_p (x_index (E := 147) (n := 2) rfl rfl rfl (by kernel_rfl) rfl rfl (by omega)) ?_
  refine AL_p (x_eloadW (n := 2) rfl rfl (by kernel_rfl) rfl) ?_
  refine AL_b (x_vneq rfl rfl rfl) (fun b24 h24 => ?_)
  refine AL_nild (by kernel_rfl) ?_
  cases b24
  rotate_left
  · try simp only [tdy] at h24
    refine AW_condT rfl ?_
    refine AW_seq ?_
    refine AW_region ?_
    refine AL_p (x_assign rfl rfl) ?_
    refine AL_nil ?_
    refine AW_ret (BQ_ret (BQ_ret ?_))
    exact ⟨rn [], ⟨⟨⟨_, rfl, vle_bool (by first | exact (sameRow_len (by omega)).symm | exact (sameRow_at (k := k) (by omega) (by omega) h24).symm | exact (sameRow_eq (hs.eq (by omega) (by omega))).symm)⟩, trivial⟩, trivial, trivial, rfl⟩⟩
  try simp only [tdy] at h24
  refine AW_condF rfl ?_
  refine AW_skip ?_
  refine AW_region ?_
  refine AL_p (x_add rfl rfl rfl (IntWalk.i64_in _ (by omega))) ?_
  refine AL_p (x_move rfl rfl) ?_
  refine AL_nil ?_
  refine ⟨⟨k + 1, ⟨by omega, hs.succ (by omega) (by omega) h24⟩⟩, rn [], ?_, by dsimp only; omega⟩
  exact ⟨by (repeat refine ⟨⟨_, rfl, by first | exact VLe.rf | exact vle_int (by dsimp only; omega)⟩, ?_⟩); exact trivial, by (repeat refine ⟨⟨_, rfl, by first | exact BLe.rf | exact BLe.box AllC.rf | exact BLe.arr (by exact rfl)⟩, ?_⟩); exact trivial, by repeat (first | exact trivial | refine ⟨⟨rfl, by first | (left; intro h; cases h) | (right; rfl), by first | exact (fun _ h => ⟨_, h⟩) | exact (fun _ _ => ⟨_, rfl⟩)⟩, ?_⟩), rfl⟩

set_option maxHeartbeats 4000000 in
theorem sameRowI_c (a b : List Val) (ha : a.length ≤ 1048576) : AC Tryz.prog 84 [.agg (rowC a), .agg (rowC b)] [] (.one (.c (.bool (sameRow a b)))) [] := by
  refine AC_body1 Tryz.func84 rfl rfl Tryz.ntmps84 rfl Tryz.results84 ?_
  refine AW_seq ?_
  refine AW_region ?_
  refine AL_p (x_box 100 rfl rfl rfl rfl rfl rfl rfl) ?_
  refine AL_p (x_box 101 rfl rfl rfl rfl rfl rfl rfl) ?_
  refine AL_p (x_assign rfl rfl) ?_
  refine AL_nil ?_
  refine AW_seq ?_
  refine AW_region ?_
  refine AL_p (x_field (off := 0) (o' := 0) rfl rfl rfl (by kernel_rfl) rfl) ?_
  refine AL_p (x_load1 rfl rfl rfl (by kernel_rfl) rfl) ?_
  refine AL_p (x_field (off := 0) (o' := 0) rfl rfl rfl (by kernel_rfl) rfl) ?_
  refine AL_p (x_load1 rfl rfl rfl (by kernel_rfl) rfl) ?_
  refine AL_b (x_call0 rfl rfl rfl (eqVals_c _ _ ha) rfl rfl) (fun b9 h9 => ?_)
  refine AL_p (x_assign rfl rfl) ?_
  refine AL_nil ?_
  refine AW_ret ?_
  cases b9
  rotate_left
  · try simp only [tdy] at h9
    exact ⟨rn [], ⟨⟨⟨_, rfl, vle_bool (h9.symm)⟩, trivial⟩, trivial, trivial, rfl⟩⟩
  try simp only [tdy] at h9
  exact ⟨rn [], ⟨⟨⟨_, rfl, vle_bool (h9.symm)⟩, trivial⟩, trivial, trivial, rfl⟩⟩



end Go.Proofs.YtibhoanjglfaoaaGreat

/- Equal neighbours once (printed by walk.py) -/
namespace Go.Proofs.YtibhoanjglfaoaaGreat
open Go.RowKit
set_option linter.unusedVariables false
set_option linter.unusedSimpArgs false
set_option maxRecDepth 100000

set_option maxHeartbeats 4000000 in
theorem compactRaw_c (us : List (Raw (List Val))) (hl : us.length ≤ 1048576) (hm : ∀ r ∈ us, r.x.length ≤ 1048576) : AT Tryz.prog 83 [.one (.own 0), .one (.clo 84 [])] [(0, some (.arr 72 (rawE rowE) (us) false))] (.one (.own 1)) [(1, some (.arr 72 (rawE rowE) (uniqR us us.length) false))] := by
  refine AT_body1 Tryz.func83 rfl rfl Tryz.ntmps83 rfl Tryz.results83 ?_
  refine AW_seq ?_
  refine AW_region ?_
  refine AL_p (x_assign rfl rfl) ?_
  refine AL_nil ?_
  refine AW_seq ?_
  refine AW_seq ?_
  refine AW_region ?_
  refine AL_p (x_move rfl rfl) ?_
  refine AL_p (x_olen (E := 72) (n := 1) rfl rfl rfl (by kernel_rfl)) ?_
  refine AL_b (x_lss rfl rfl rfl) (fun b10 h10 => ?_)
  refine AL_nil ?_
  cases b10
  rotate_left
  · try simp only [tdy] at h10
    refine AW_condT rfl ?_
    refine AW_seq ?_
    refine AW_region ?_
    refine AL_p (x_move rfl rfl) ?_
    refine AL_p (x_assign rfl rfl) ?_
    refine AL_nil ?_
    refine AW_ret ?_
    exact ⟨rn [(1, 0)], ⟨⟨⟨_, rfl, VLe.rf⟩, trivial⟩, ⟨⟨_, rfl, by first | exact BLe.arr (uniqR_short (by omega)) | exact BLe.arr (hp.all (by omega) (by omega)) | exact BLe.arr (uniqA_end (by omega) (by omega))⟩, trivial⟩, trivial, rfl⟩⟩
  try simp only [tdy] at h10
  refine AW_condF rfl ?_
  refine AW_skip ?_
  refine AW_seq ?_
  refine AW_seq ?_
  refine AW_region ?_
  refine AL_p (x_assign rfl rfl) ?_
  refine AL_nil ?_
  refine AW_block ?_
  refine AW_loop2 (ι := {q : Nat // (0 < q ∧ q ≤ us.length) ∧ Plain us q}) (fun p => [(5, .one (.c (.int .i64 ((p.1) : Int))))]) (fun p => []) [0, 1] [0] (fun p => us.length - (p.1)) ⟨1, ⟨by omega, Plain.one⟩⟩ (rn []) ?_ ?_
  exact ⟨by (repeat refine ⟨⟨_, rfl, by first | exact VLe.rf | exact vle_int (by dsimp only; omega)⟩, ?_⟩); exact trivial, by (repeat refine ⟨⟨_, rfl, by first | exact BLe.rf | exact BLe.box AllC.rf | exact BLe.arr (by exact rfl)⟩, ?_⟩); exact trivial, by repeat (first | exact trivial | refine ⟨⟨rfl, by first | (left; intro h; cases h) | (right; rfl), by first | exact (fun _ h => ⟨_, h⟩) | exact (fun _ _ => ⟨_, rfl⟩)⟩, ?_⟩), rfl⟩
  rintro ⟨k, hinv⟩
  dsimp only
  obtain ⟨⟨hk0, hk⟩, hp⟩ := hinv
  refine AW_seq ?_
  refine AW_seq ?_
  refine AW_region ?_
  refine AL_p (x_move rfl rfl) ?_
  refine AL_p (x_move rfl rfl) ?_
  refine AL_p (x_olen (E := 72) (n := 1) rfl rfl rfl (by kernel_rfl)) ?_
  refine AL_b (x_lss rfl rfl rfl) (fun b15 h15 => ?_)
  refine AL_nil ?_
  cases b15
  · try simp only [tdy] at h15
    refine AW_condF rfl ?_
    refine AW_exit (BQ_hit ?_)
    refine AW_seq ?_
    refine AW_region ?_
    refine AL_p (x_move rfl rfl) ?_
    refine AL_p (x_assign rfl rfl) ?_
    refine AL_nil ?_
    refine AW_ret ?_
    exact ⟨rn [(1, 0)], ⟨⟨⟨_, rfl, VLe.rf⟩, trivial⟩, ⟨⟨_, rfl, by first | exact BLe.arr (uniqR_short (by omega)) | exact BLe.arr (hp.all (by omega) (by omega)) | exact BLe.arr (uniqA_end (by omega) (by omega))⟩, trivial⟩, trivial, rfl⟩⟩
  try simp only [tdy] at h15
  refine AW_condT rfl ?_
  refine AW_skip ?_
  refine AW_seq ?_
  refine AW_block ?_
  refine AW_seq ?_
  refine AW_draw rfl ?_
  refine AL_p (x_move rfl rfl) ?_
  refine AL_p (x_move rfl rfl) ?_
  refine AL_p (x_move rfl rfl) ?_
  refine AL_p (x_oindex (n := 1) rfl rfl rfl rfl (by kernel_rfl) rfl (k := k) rfl (by omega)) ?_
  refine AL_p (x_oloadN (n := 1) rfl rfl rfl (by kernel_rfl) (by omega) rfl rfl) ?_
  refine AL_p (x_move rfl rfl) ?_
  refine AL_p (x_move rfl rfl) ?_
  refine AL_p (x_sub rfl rfl rfl (IntWalk.i64_in _ (by omega))) ?_
  refine AL_p (x_oindex (n := 1) rfl rfl rfl rfl (by kernel_rfl) rfl (k := k - 1) (by omega) (by omega)) ?_
  refine AL_p (x_oloadN (n := 1) rfl rfl rfl (by kernel_rfl) (by omega) rfl rfl) ?_
  refine AL_bc (x_call (ks := []) (L := []) (L' := []) rfl rfl rfl (sameRowI_c (us[k]'(by omega)).x (us[k - 1]'(by omega)).x (hm _ (List.getElem_mem _))) rfl ⟨V1Le.agg ⟨CLe.rx rfl, trivial⟩, V1Le.agg ⟨CLe.rx rfl, trivial⟩, trivial⟩ (caught_of rfl) rfl rfl rfl trivial rfl) (fun b28 h28 => ?_)
  refine AL_nild (by kernel_rfl) ?_
  cases b28
  · try simp only [tdy] at h28
    refine AW_condF rfl ?_
    refine AW_skip ?_
    refine AW_region ?_
    refine AL_p (x_move rfl rfl) ?_
    refine AL_p (x_add rfl rfl rfl (IntWalk.i64_in _ (by omega))) ?_
    refine AL_p (x_assign rfl rfl) ?_
    refine AL_nil ?_
    refine ⟨⟨k + 1, ⟨by omega, hp.succ (by omega) (by omega) h28⟩⟩, rn [], ?_, by dsimp only; omega⟩
    exact ⟨by (repeat refine ⟨⟨_, rfl, by first | exact VLe.rf | exact vle_int (by dsimp only; omega)⟩, ?_⟩); exact trivial, by (repeat refine ⟨⟨_, rfl, by first | exact BLe.rf | exact BLe.box AllC.rf | exact BLe.arr (by exact rfl)⟩, ?_⟩); exact trivial, by repeat (first | exact trivial | refine ⟨⟨rfl, by first | (left; intro h; cases h) | (right; rfl), by first | exact (fun _ h => ⟨_, h⟩) | exact (fun _ _ => ⟨_, rfl⟩)⟩, ?_⟩), rfl⟩
  try simp only [tdy] at h28
  obtain ⟨q1, q2⟩ := uniqR_dup hp (by omega) (by omega) h28
  refine AW_condT rfl ?_
  refine AW_seq ?_
  refine AW_region ?_
  refine AL_p (x_move rfl rfl) ?_
  refine AL_p (x_move rfl rfl) ?_
  refine AL_p (x_oslice (n := 1) rfl rfl rfl (by kernel_rfl) rfl (.yes (l := k) rfl (by omega)) .no (by omega) (by first | exact Nat.le_refl _ | omega)) ?_
  refine AL_p (x_assign rfl rfl) ?_
  refine AL_nil ?_
  refine AW_seq ?_
  refine AW_seq ?_
  refine AW_region ?_
  refine AL_p (x_assign rfl rfl) ?_
  refine AL_nil ?_
  refine AW_block ?_
  refine AW_loop2 (ι := {q : Nat // (k < q ∧ q ≤ us.length) ∧ (uniqR us q).length < q}) (fun p => [(5, .one (.c (.int .i64 ((uniqR us (p.1)).length : Int)))), (7, .one (.c (.int .i64 (((p.1) : Int) - (k : Int)))))]) (fun p => [(0, some (.arr 72 (rawE rowE) (uniqA us (p.1)) false))]) [0, 1, 6] [] (fun p => us.length - (p.1)) ⟨k + 1, ⟨by omega, by omega⟩⟩ (rn []) ?_ ?_
  exact ⟨by (repeat refine ⟨⟨_, rfl, by first | exact VLe.rf | exact vle_int (by dsimp only; omega)⟩, ?_⟩); exact trivial, by (repeat refine ⟨⟨_, rfl, by first | exact BLe.rf | exact BLe.box AllC.rf | exact BLe.arr (by first | exact q2 | exact q5.1 | (unfold uniqA; rw [q5]))⟩, ?_⟩); exact trivial, by repeat (first | exact trivial | refine ⟨⟨rfl, by first | (left; intro h; cases h) | (right; rfl), by first | exact (fun _ h => ⟨_, h⟩) | exact (fun _ _ => ⟨_, rfl⟩)⟩, ?_⟩), rfl⟩
  rintro ⟨j, hinv⟩
  dsimp only
  obtain ⟨⟨hkj, hj⟩, hul⟩ := hinv
  have hj : j ≤ us.length := hj
  refine AW_seq ?_
  refine AW_seq ?_
  refine AW_region ?_
  refine AL_p (x_move rfl rfl) ?_
  refine AL_p (x_move rfl rfl) ?_
  refine AL_p (x_osllen (E := 72) (n := 1) rfl rfl rfl (by kernel_rfl) (by rw [uniqA_len (by omega)]; omega)) ?_
  refine AL_b (x_lss rfl rfl rfl) (fun b35 h35 => ?_)
  refine AL_nil ?_
  cases b35
  · try simp only [tdy] at h35
    refine AW_condF rfl ?_
    refine AW_exit (BQ_hit ?_)
    refine AW_seq ?_
    refine AW_region ?_
    refine AL_p (x_move rfl rfl) ?_
    refine AL_p (x_move rfl rfl) ?_
    refine AL_p (x_oslice (n := 1) rfl rfl rfl (by kernel_rfl) rfl (.yes (l := (uniqR us j).length) rfl rfl) .no (by rw [uniqA_len (by omega)]; omega) (by first | exact Nat.le_refl _ | omega)) ?_
    refine AL_p (x_clear (E := 72) (n := 1) (z := .agg #[.slice none 0 0]) zeroR rfl rfl (by kernel_rfl) rfl (by decide) Tryz.zeroValue72 zeroR_rep (by rw [uniqA_len (by omega)]; omega) (by rw [uniqA_len (by omega)]; omega)) ?_
    refine AL_nil ?_
    refine AW_seq ?_
    refine AW_region ?_
    refine AL_p (x_move rfl rfl) ?_
    refine AL_p (x_move rfl rfl) ?_
    refine AL_p (x_cut (n := 1) (h := (uniqR us j).length) 100 rfl rfl rfl (by kernel_rfl) rfl (.yes rfl rfl) rfl rfl (by simp [uniqA_len hj]; omega)) ?_
    refine AL_p (x_assign rfl rfl) ?_
    refine AL_nil ?_
    refine AW_ret (BQ_ret (BQ_ret ?_))
    exact ⟨rn [(1, 100)], ⟨⟨⟨_, rfl, VLe.rf⟩, trivial⟩, ⟨⟨_, rfl, by first | exact BLe.arr (uniqR_short (by omega)) | exact BLe.arr (hp.all (by omega) (by omega)) | exact BLe.arr (uniqA_end (by omega) (by omega))⟩, trivial⟩, trivial, rfl⟩⟩
  try simp only [tdy] at h35
  refine AW_condT rfl ?_
  refine AW_skip ?_
  refine AW_seq ?_
  refine AW_block ?_
  refine AW_seq ?_
  refine AW_draw rfl ?_
  refine AL_p (x_move rfl rfl) ?_
  refine AL_p (x_move rfl rfl) ?_
  refine AL_p (x_move rfl rfl) ?_
  refine AL_p (x_oslindex (n := 1) rfl rfl rfl rfl (by kernel_rfl) rfl (k := j - k) (by omega) (by omega) (k1 := j) (by omega)) ?_
  refine AL_p (x_oloadN (n := 1) rfl rfl rfl (by kernel_rfl) (by rw [uniqA_len (by omega)]; omega) rfl rfl) ?_
  refine AL_p (x_move rfl rfl) ?_
  refine AL_p (x_move rfl rfl) ?_
  refine AL_p (x_sub rfl rfl rfl (IntWalk.i64_in _ (by omega))) ?_
  refine AL_p (x_oslindex (n := 1) rfl rfl rfl rfl (by kernel_rfl) rfl (k := j - k - 1) (by omega) (by omega) (k1 := j - 1) (by omega)) ?_
  refine AL_p (x_oloadN (n := 1) rfl rfl rfl (by kernel_rfl) (by rw [uniqA_len (by omega)]; omega) rfl rfl) ?_
  refine AL_bc (x_call (ks := []) (L := []) (L' := []) rfl rfl rfl (sameRowI_c (((uniqA us j)[j]'(by rw [uniqA_len (by omega)]; omega))).x (((uniqA us j)[j - 1]'(by rw [uniqA_len (by omega)]; omega))).x (hm _ (by rw [uniqA_at (us := us) (j := j) (i := j) (by omega) (by omega) (by omega) (by rw [uniqA_len (by omega)]; omega)]; exact List.getElem_mem _))) rfl ⟨V1Le.agg ⟨CLe.rx rfl, trivial⟩, V1Le.agg ⟨CLe.rx rfl, trivial⟩, trivial⟩ (caught_of rfl) rfl rfl rfl trivial rfl) (fun b48 h48 => ?_)
  refine AL_p (x_not rfl rfl) ?_
  refine AL_nild (by kernel_rfl) ?_
  cases b48
  rotate_left
  · try simp only [tdy] at h48
    rw [uniqA_at (us := us) (j := j) (i := j) (by omega) (by omega) (by omega) (by rw [uniqA_len (by omega)]; omega), uniqA_at (us := us) (j := j) (i := j - 1) (by omega) (by omega) (by omega) (by rw [uniqA_len (by omega)]; omega)] at h48
    have q5 := uniqR_skip (by omega) (by omega) h48
    have q6 : (uniqR us (j + 1)).length = (uniqR us j).length := by rw [q5]
    refine AW_condF rfl ?_
    refine AW_skip ?_
    refine AW_region ?_
    refine AL_p (x_move rfl rfl) ?_
    refine AL_p (x_add rfl rfl rfl (IntWalk.i64_in _ (by omega))) ?_
    refine AL_p (x_assign rfl rfl) ?_
    refine AL_nil ?_
    refine ⟨⟨j + 1, ⟨by omega, by rw [q5]; omega⟩⟩, rn [], ?_, by dsimp only; omega⟩
    exact ⟨by (repeat refine ⟨⟨_, rfl, by first | exact VLe.rf | exact vle_int (by dsimp only; omega)⟩, ?_⟩); exact trivial, by (repeat refine ⟨⟨_, rfl, by first | exact BLe.rf | exact BLe.box AllC.rf | exact BLe.arr (by first | exact q2 | exact q5.1 | (unfold uniqA; rw [q5]))⟩, ?_⟩); exact trivial, by repeat (first | exact trivial | refine ⟨⟨rfl, by first | (left; intro h; cases h) | (right; rfl), by first | exact (fun _ h => ⟨_, h⟩) | exact (fun _ _ => ⟨_, rfl⟩)⟩, ?_⟩), rfl⟩
  try simp only [tdy] at h48
  rw [uniqA_at (us := us) (j := j) (i := j) (by omega) (by omega) (by omega) (by rw [uniqA_len (by omega)]; omega), uniqA_at (us := us) (j := j) (i := j - 1) (by omega) (by omega) (by omega) (by rw [uniqA_len (by omega)]; omega)] at h48
  have q5 := uniqA_put (by omega) (by omega) (by omega) h48 (by rw [uniqA_len (by omega)]; omega)
  have q6 := q5.2
  refine AW_condT rfl ?_
  refine AW_seq ?_
  refine AW_region ?_
  refine AL_p (x_move rfl rfl) ?_
  refine AL_p (x_move rfl rfl) ?_
  refine AL_p (x_move rfl rfl) ?_
  refine AL_p (x_move rfl rfl) ?_
  refine AL_p (x_oslindex (n := 1) rfl rfl rfl rfl (by kernel_rfl) rfl (k := j - k) (by omega) (by omega) (k1 := j) (by omega)) ?_
  refine AL_p (x_oloadN (n := 1) rfl rfl rfl (by kernel_rfl) (by rw [uniqA_len (by omega)]; omega) rfl rfl) ?_
  refine AL_p (x_oindex (n := 1) rfl rfl rfl rfl (by kernel_rfl) rfl (k := (uniqR us j).length) rfl (by rw [uniqA_len (by omega)]; omega)) ?_
  refine AL_p (x_ostore (((uniqA us j)[j]'(by rw [uniqA_len (by omega)]; omega))) rfl rfl rfl rfl (by kernel_rfl) rfl rfl rfl rfl FitL.rf rfl rfl (by rw [uniqA_len (by omega)]; omega)) ?_
  refine AL_nil ?_
  refine AW_region ?_
  refine AL_p (x_move rfl rfl) ?_
  refine AL_p (x_add rfl rfl rfl (IntWalk.i64_in _ (by omega))) ?_
  refine AL_p (x_assign rfl rfl) ?_
  refine AL_nil ?_
  refine AW_region ?_
  refine AL_p (x_move rfl rfl) ?_
  refine AL_p (x_add rfl rfl rfl (IntWalk.i64_in _ (by omega))) ?_
  refine AL_p (x_assign rfl rfl) ?_
  refine AL_nil ?_
  refine ⟨⟨j + 1, ⟨by omega, by rw [q5.2]; omega⟩⟩, rn [], ?_, by dsimp only; omega⟩
  exact ⟨by (repeat refine ⟨⟨_, rfl, by first | exact VLe.rf | exact vle_int (by dsimp only; omega)⟩, ?_⟩); exact trivial, by (repeat refine ⟨⟨_, rfl, by first | exact BLe.rf | exact BLe.box AllC.rf | exact BLe.arr (by first | exact q2 | exact q5.1 | (unfold uniqA; rw [q5]))⟩, ?_⟩); exact trivial, by repeat (first | exact trivial | refine ⟨⟨rfl, by first | (left; intro h; cases h) | (right; rfl), by first | exact (fun _ h => ⟨_, h⟩) | exact (fun _ _ => ⟨_, rfl⟩)⟩, ?_⟩), rfl⟩

theorem compact_t (xs : List (List Val)) (hl : xs.length ≤ 1048576) (hm : ∀ r ∈ xs, r.length ≤ 1048576) : AT Tryz.prog 83 [.one (.own 0), .one (.clo 84 [])] [(0, some (.arr 72 rowE xs true))] (.one (.own 1)) [(1, some (.arr 72 rowE (uniq xs) true))] :=
  AT.raw (by decide) ⟨_, _, Tryz.func83, rfl, rfl⟩ (fun zs hz => ⟨uniqR zs zs.length, by rw [uniqR_map (Nat.le_refl _), hz]; unfold uniq; rw [← hz, List.length_map], fun hn => hn.sublist (by have := feet_sub (uniqR_sub (us := zs) (k := zs.length)); rwa [List.take_length] at this), fun b hb => by have := feet_sub (uniqR_sub (us := zs) (k := zs.length)); rw [List.take_length] at this; exact this.subset hb, compactRaw_c zs (by rw [← List.length_map (f := Raw.x), hz]; exact hl) (fun r hr => hm _ (by rw [← hz]; exact List.mem_map_of_mem hr))⟩) rfl
end Go.Proofs.YtibhoanjglfaoaaGreat

/- Functions of the library on rows (printed by walk.py) -/
namespace Go.Proofs.YtibhoanjglfaoaaGreat
open Go.RowKit
set_option linter.unusedVariables false
set_option linter.unusedSimpArgs false
set_option maxRecDepth 100000


theorem cloneNamed_T : ∃ i z, Tryz.prog.underlying 30 = some (.slice 84) ∧ Tryz.prog.info? 84 = some i ∧ i.zero = some z ∧ z.cells.size = 3 ∧ i.size = 3 ∧ i.bytes = 48 := by
  obtain ⟨hu, hn0, ti, z, hti, hz, hzs, htis, htib⟩ := arrT_spec (P := Tryz.prog) (T := 30) (E := 84) (n := 3) (b := 48) (by kernel_rfl)
  exact ⟨ti, z, hu, hti, hz, hzs, htis, htib⟩
set_option maxHeartbeats 4000000 in
set_option maxRecDepth 100000 in
theorem cloneNamed_run (w : World) (base : Option Addr) (n c : Nat) (cells : List Value) (hown : w.ownsRow 0 84 3 (.slice base n c) n cells) (hn : n ≤ 100000000) (h1 : ∀ u ∈ cells, u.oneCell' = true) :
    Calls Tryz.prog 89 #[.slice base n c] w fun en w' => ∃ v', en = .returned v' ∧ w'.ownsRow 0 84 3 v' n cells ∧ w.grownBy w' (Value.slice base n c).ownBlock ∧ ∀ b, v'.ownBlock = some b → (Value.slice base n c).ownBlock = some b ∨ w.heap.size ≤ b := by
  obtain ⟨ti, z, hT, hti, hz, hzs, htis, htib⟩ := cloneNamed_T
  have hcl := hown.1
  rcases hown.2 with ⟨h0, hn0⟩ | ⟨g, cap, cur, hv, hbg, hg, hnc, hcm, hcs, htake⟩
  · cases h0
    go_enter Tryz.func89, Tryz.ntmps89
    go_wp2_with fail
    rw [Lib.run_eql_slice_nil _ 30 84 none 0 0 0 0 hT]
    go_wp2_with fail
    go_ret
    exact ⟨.slice none 0 0, rfl, hown, World.grownBy.refl _ _, fun b hb => by cases hb⟩
  · cases hv
    have hgl : g < w.heap.size := (Array.getElem?_eq_some_iff.1 hg).1
    have hwa : ∀ b, b < w.heap.size → (w.alloc (.cells #[] 84)).heap[b]? = w.heap[b]? := fun b hb => Below.heap_alloc w _ b hb
    have hws : (w.alloc (.cells #[] 84)).heap.size = w.heap.size + 1 := by simp
    have hown1 : (w.alloc (.cells #[] 84)).ownsRow 0 84 3 (.slice (some ⟨w.heap.size, 0, none⟩) 0 0) 0 [] :=
      ⟨rfl, .inr ⟨w.heap.size, 0, #[], rfl, Nat.zero_le _, heap_alloc_new w _, Nat.le_refl _, Nat.zero_le _, rfl, rfl⟩⟩
    obtain ⟨v', w', q1, q2, q3, q4⟩ := run_app (P := Tryz.prog) (w.alloc (.cells #[] 84)) 30 30 84 ti z 3 48 hT hti hz htis htib hzs (by decide) _ _ _ hown1 ⟨g, 0, none⟩ n c cells hcl (fun j u hj => by
      rw [Addr.add_lit, cell_of_row _ g _ cur 84 (0, 0) ((hwa g hgl).trans hg)]
      rw [← htake, List.getElem?_take] at hj
      split at hj
      · simpa using hj
      · cases hj) h1 (by unfold maxLen; omega) (by omega)
    go_enter Tryz.func89, Tryz.ntmps89
    go_wp2_with (first | rw [Lib.run_eql_slice_nil _ 30 84 (some ⟨g, 0, none⟩) n c 0 0 hT] | (at_builtin; refine Lib.wpList_append_run _ rfl _ _ _ _ rfl _ _ rfl rfl _ _ q1 ?_))
    go_ret
    refine ⟨v', rfl, by simpa using q2, ?_, fun b hb => .inr ?_⟩
    · obtain ⟨a1, a2, a3, a4, a5⟩ := q3
      exact ⟨a1, a2, a3, Nat.le_trans (by rw [hws]; omega) a4, fun b hb hne => (a5 b (by rw [hws]; omega) (fun e => by have := Option.some.inj e; dsimp only at this; omega)).trans (hwa b hb)⟩
    · rcases q4 b hb with h | h
      · cases h; exact Nat.le_refl _
      · rw [hws] at h; omega
theorem cloneNamed_t {α : Type} {e : Enc α} {f : α → List Cell} [hc : CellsOf e f] (he : e.size = 3) {d : Bool} {xs : List α} (hx : xs.length ≤ 100000000) :
    AT Tryz.prog 89 [.one (.own 0)] [(0, some (.arr 84 e xs d))] (.one (.own 1)) [(1, some (.arr 84 e xs d))] := by
  refine AT.row1 (rest := []) ⟨_, _, Tryz.func89, rfl, rfl⟩ (fun w v vs cells bs gg LL hvs _ hown hF h1 hap => ?_)
  have hv1 : vs = [] := by
    cases vs with
    | nil => rfl
    | cons _ _ => exact hvs.elim
  subst hv1
  rw [he] at hown ⊢
  have key : ∃ base c, v = .slice base xs.length c := by
    rcases hown.2 with ⟨rfl, h0⟩ | ⟨g, c, cur, rfl, _⟩
    · exact ⟨none, 0, by rw [h0]⟩
    · exact ⟨_, _, rfl⟩
  obtain ⟨base, c, rfl⟩ := key
  refine (cloneNamed_run w base xs.length c cells hown hx h1).mono ?_
  rintro en w' ⟨v', rfl, q1, q2, q3⟩
  exact ⟨v', cells, rfl, q1, q2, q3, bs, hF, fun h => h, fun b hb => hb⟩


theorem insNamed_T : ∃ i z, Tryz.prog.underlying 30 = some (.slice 84) ∧ Tryz.prog.info? 84 = some i ∧ i.zero = some z ∧ z.cells.size = 3 ∧ i.size = 3 ∧ i.bytes = 48 := by
  obtain ⟨hu, hn0, ti, z, hti, hz, hzs, htis, htib⟩ := arrT_spec (P := Tryz.prog) (T := 30) (E := 84) (n := 3) (b := 48) (by kernel_rfl)
  exact ⟨ti, z, hu, hti, hz, hzs, htis, htib⟩
set_option maxHeartbeats 4000000 in
set_option maxRecDepth 100000 in
theorem insNamed_end (w : World) (base : Option Addr) (n c i : Nat) (cells news : List Value) (vb vc m : Nat) (hown : w.ownsRow 0 84 3 (.slice base n c) n cells) (hu : w.ownsRow 0 84 3 (.slice (some ⟨vb, 0, none⟩) m vc) m news) (hin : i = n) (hm : 0 < m) (hm1 : m ≤ 1000) (hn : n ≤ 100000000) (hc63 : c ≤ 9223372036854775807) (h1 : ∀ u ∈ news, u.oneCell' = true) (hnc : n ≤ c) :
    Calls Tryz.prog 92 #[.slice base n c, .int .i64 (i : Int), .slice (some ⟨vb, 0, none⟩) m vc] w fun en w' => ∃ v', en = .returned v' ∧ w'.ownsRow 0 84 3 v' (n + m) (cells ++ news) ∧ w.grownBy w' (Value.slice base n c).ownBlock ∧ ∀ b, v'.ownBlock = some b → (Value.slice base n c).ownBlock = some b ∨ w.heap.size ≤ b := by
  subst hin
  obtain ⟨ti, z, hT, hti, hz, hzs, htis, htib⟩ := insNamed_T
  obtain ⟨v', w', q1, q2, q3, q4⟩ := run_app (P := Tryz.prog) w 30 30 84 ti z 3 48 hT hti hz htis htib hzs (by decide) _ _ _ hown ⟨vb, 0, none⟩ m vc news hu.1 (hu.cells rfl) h1 (by unfold maxLen; omega) (by omega)
  have hi : (0 : Int) ≤ (i : Int) := by omega
  have hz1 : ¬ ((m : Int) = 0) := by omega
  clear hown hu
  by_cases hci : c = i
  · subst hci
    go_enter Tryz.func92, Tryz.ntmps92
    go_wp2_with (at_builtin; refine Lib.wpList_append_run _ rfl _ _ _ _ rfl _ _ rfl rfl _ _ q1 ?_)
    go_ret
    exact ⟨v', rfl, q2, q3, q4⟩
  · go_enter Tryz.func92, Tryz.ntmps92
    go_wp2_with (at_builtin; refine Lib.wpList_append_run _ rfl _ _ _ _ rfl _ _ rfl rfl _ _ q1 ?_)
    go_ret
    exact ⟨v', rfl, q2, q3, q4⟩
set_option maxHeartbeats 4000000 in
set_option maxRecDepth 100000 in
theorem insNamed_shift (w : World) (g n c i : Nat) (cur : Array Value) (cells news : List Value) (vb vc m : Nat) (vcur : Array Value) (hg : w.heap[g]? = some (.cells cur 84 (0, 0))) (hgv : w.heap[vb]? = some (.cells vcur 84 (0, 0))) (hne : vb ≠ g) (hcs : cur.size = c * 3) (htk : cur.toList.take (n * 3) = cells) (hl : cells.length = n * 3) (hnv : ∀ j u, news[j]? = some u → w.cell? ((⟨vb, 0, none⟩ : Addr).add j) = some u) (hnl : news.length = m * 3)
    (hin : i < n) (hroom : n + m ≤ c) (hm : 0 < m) (hc63 : c ≤ 9223372036854775807) (h1 : ∀ u ∈ cells ++ news, u.oneCell' = true) (hvs : vcur.size = vc * 3) (hv1 : m ≤ vc) :
    Calls Tryz.prog 92 #[.slice (some ⟨g, 0, none⟩) n c, .int .i64 (i : Int), .slice (some ⟨vb, 0, none⟩) m vc] w fun en w' => en = .returned (.slice (some ⟨g, 0, none⟩) (n + m) c) ∧ w'.heap[g]? = some (.cells (cells.take (i * 3) ++ news ++ cells.drop (i * 3) ++ cur.toList.drop ((n + m) * 3)).toArray 84 (0, 0)) ∧ w.grownBy w' (some g) := by
  obtain ⟨ti, z, hT, hti, hz, hzs, htis, htib⟩ := insNamed_T
  have hsz : (Tryz.prog.info? 84).map (·.size) = some 3 := by rw [hti]; simp [htis]
  have hov : ∀ (W : World), W.heap = w.heap → ∀ lb cb, (callFunc 128 #[.slice (some ⟨vb, 0, none⟩) m vc, .slice (some ⟨g, ((i + m) * 3), none⟩) lb cb]).run Tryz.prog W = .ok (.value (.bool false)) W := fun W hW lb cb => by
    rw [run_callFunc_extern Tryz.func128 (by kernel_rfl) (by kernel_rfl) (by kernel_rfl) (e := Extern.SlicesOverlaps.overlaps #[30, 30] #[4]) (by kernel_rfl),
      Lib.run_overlaps_apart W 30 4 84 hT 3 (by intro w; simp [Go.sizeOf, typeInfo, hti, htis]) ⟨vb, 0, none⟩ ⟨g, ((i + m) * 3), none⟩ m vc lb cb hne 84 84 vcur.size cur.size (by simp [World.shape?, hW, hgv]) (by simp [World.shape?, hW, hg]) (by rw [hcs]; omega) (by simp [World.frozen?, hW, hgv]) (by simp [World.frozen?, hW, hgv])]
    rfl
  obtain ⟨A1, hA1⟩ : ∃ A1, A1 = (cur.toList.take ((i + m) * 3) ++ cells.drop (i * 3) ++ cur.toList.drop ((n + m) * 3)) := ⟨_, rfl⟩
  have hcur : cur.toList.length = c * 3 := by rw [← hcs, Array.length_toList]
  have hdl : (cells.drop (i * 3)).length = (n - i) * 3 := by rw [List.length_drop, hl]; omega
  have hcp1 : ∀ W : World, W.heap = w.heap → ∀ ty dc sc, (Builtin.copy_ #[30, 30] ty #[.slice (some ⟨g, ((i + m) * 3), none⟩) (n + m - (i + m)) dc, .slice (some ⟨g, ((i) * 3), none⟩) (n + m - i) sc]).run Tryz.prog W = .ok (goInt (n - i : Nat)) (W.setRow g A1.toArray) := fun W hW ty dc sc => by
    have hmn : Nat.min (n + m - i) (n + m - (i + m)) = n - i := by simp only [Nat.min_def]; split <;> omega
    have := run_copy_rowK (P := Tryz.prog) W 30 30 ty 84 3 g ((i + m) * 3) (n + m - (i + m)) dc ⟨g, ((i) * 3), none⟩ (n + m - i) sc cur 84 (cells.drop (i * 3)) hT hsz (by rw [hW]; exact hg) (by rw [hmn, hdl])
      (fun j v hj => by
        rw [Addr.add_lit, cell_of_row W g _ cur 84 (0, 0) (by rw [hW]; exact hg)]
        rw [List.getElem?_drop, ← htk, List.getElem?_take] at hj
        split at hj
        · simpa using hj
        · cases hj) (by rw [hdl, hcs]; omega) (fun v hv => h1 v (List.mem_append_left _ (List.mem_of_mem_drop hv)))
    rw [hmn] at this
    rw [this, hA1, hdl]
    have e : ((i + m) * 3) + (n - i) * 3 = (n + m) * 3 := by omega
    rw [e]
    try simp only [Nat.mul_one]
  have hA1l : A1.length = c * 3 := by rw [hA1]; simp [hdl, hcur]; omega
  have hcp2 : ∀ W0 : World, W0.heap = w.heap → ∀ ty dc, (Builtin.copy_ #[30, 30] ty #[.slice (some ⟨g, ((i) * 3), none⟩) (n + m - i) dc, .slice (some ⟨vb, 0, none⟩) m vc]).run Tryz.prog (W0.setRow g A1.toArray) = .ok (goInt m) ((W0.setRow g A1.toArray).setRow g (cells.take (i * 3) ++ news ++ cells.drop (i * 3) ++ cur.toList.drop ((n + m) * 3)).toArray) := fun W0 hW0 ty dc => by
    have hW : (W0.setRow g A1.toArray).heap[g]? = some (.cells A1.toArray 84 (0, 0)) := setRow_heap W0 g cur _ _ _ (by rw [hW0]; exact hg)
    have hWv : (W0.setRow g A1.toArray).heap[vb]? = w.heap[vb]? := (setRow_other W0 g vb _ hne).trans (by rw [hW0])
    generalize W0.setRow g A1.toArray = W at *
    have hmn : Nat.min m (n + m - i) = m := by simp only [Nat.min_def]; split <;> omega
    have := run_copy_rowK (P := Tryz.prog) W 30 30 ty 84 3 g ((i) * 3) (n + m - i) dc ⟨vb, 0, none⟩ m vc A1.toArray 84 news hT hsz hW (by rw [hmn, hnl]) (fun j v hj => by
        have h2 := hnv j v hj
        rw [Addr.add_lit] at h2 ⊢
        simp only [World.cell?, hWv] at h2 ⊢
        exact h2) (by rw [hnl, List.size_toArray, hA1l]; omega) (fun v hv => h1 v (List.mem_append_right _ hv))
    rw [hmn] at this
    rw [this]
    congr 3
    have hx := insRow (A := cur.toList) (C := cells) (N := news) (x := i * 3) (y := (i + m) * 3) (z := (n + m) * 3) (by rw [hl]; omega) (by rw [hnl]; omega) (by rw [hl, hnl]; omega) (by rw [hl]; exact htk) (by rw [hcur]; omega)
    rw [hA1]
    first | exact hx | simpa only [Nat.mul_one] using hx
  have hz1 : ¬ ((m : Int) = 0) := by omega
  have hz2 : ¬ ((i : Int) = (n : Int)) := by omega
  have hw1 : IntKind.i64.wrap ((i : Int) + (m : Int)) = (i : Int) + (m : Int) := by rw [IntKind.wrap_i64]; omega
  have hw2 : IntKind.i64.wrap ((n : Int) + (m : Int)) = (n : Int) + (m : Int) := by rw [IntKind.wrap_i64]; omega
  have hw3 : ¬ ((c : Int) < (n : Int) + (m : Int)) := by omega
  have hb1 : (0 : Int) ≤ (i : Int) + (m : Int) := by omega
  have hb1' : (0 : Int) ≤ (n : Int) + (m : Int) := by omega
  have hin' : i ≤ n := by omega
  have htn : ((i : Int) + (m : Int)).toNat = i + m := by omega
  have htn2 : ((n : Int) + (m : Int)).toNat = n + m := by omega
  have hb2 : ¬ (c = i + m) := by omega
  have hb3 : (i : Int) ≤ (n : Int) + (m : Int) := by omega
  have hb3' : (i : Int) + (m : Int) ≤ (n : Int) + (m : Int) := by omega
  have hb5 : (n : Int) + (m : Int) ≤ (c : Int) := by omega
  have hb4 : ¬ (c = i) := by omega
  have hgw : (w.setRow g A1.toArray).heap[g]? = some (.cells A1.toArray 84 (0, 0)) := setRow_heap w g cur _ _ _ hg
  have hgo : (w.setRow g A1.toArray).heap[vb]? = w.heap[vb]? := setRow_other w g vb _ hne
  clear hA1
  go_enter Tryz.func92, Tryz.ntmps92
  go_wp2_with (simp only [hov _ rfl])
  go_region_law (refine step_copy_runI rfl (.tmp 73) (.tmp 76) 30 30 rfl (.slice (some ⟨g, ((i + m) * 3), none⟩) (n + m - (i + m)) (c - (i + m))) (.slice (some ⟨g, ((i) * 3), none⟩) (n + m - i) (c - i)) (by simp [Act.eval, Act.put]) (by simp [Act.eval, Act.put]) (hcp1 _ (by rfl) _ _ _) ?_)
  go_wp2
  rw [hcp2 w.drew rfl]
  go_wp2
  go_ret
  refine ⟨rfl, ?_, ?_⟩
  · have hh := setRow_heap (w.drew.setRow g A1.toArray) g A1.toArray (cells.take (i * 3) ++ news ++ cells.drop (i * 3) ++ cur.toList.drop ((n + m) * 3)).toArray 84 (0, 0) hgw
    simpa only [List.append_assoc, Nat.mul_one] using hh
  · exact ⟨rfl, rfl, rfl, by simp, fun b hb hne => by
      have hb2 : b ≠ g := fun e => hne (by rw [e])
      exact (setRow_other _ g b _ hb2).trans (setRow_other w g b _ hb2)⟩

set_option maxHeartbeats 4000000 in
set_option maxRecDepth 100000 in
theorem insNamed_grow (w : World) (g n c i : Nat) (cur : Array Value) (cells news : List Value) (vb vc m : Nat) (hg : w.heap[g]? = some (.cells cur 84 (0, 0))) (hvbl : vb < w.heap.size) (hcs : cur.size = c * 3) (htk : cur.toList.take (n * 3) = cells) (hl : cells.length = n * 3) (hnv : ∀ j u, news[j]? = some u → w.cell? ((⟨vb, 0, none⟩ : Addr).add j) = some u) (hnl : news.length = m * 3)
    (hin : i < n) (hnc : n ≤ c) (hroom : c < n + m) (hm : 0 < m) (hm1 : m ≤ 1000) (hn : n ≤ 100000000) (hc63 : c ≤ 9223372036854775807) (h1 : ∀ u ∈ cells ++ news, u.oneCell' = true) :
    Calls Tryz.prog 92 #[.slice (some ⟨g, 0, none⟩) n c, .int .i64 (i : Int), .slice (some ⟨vb, 0, none⟩) m vc] w fun en w' => ∃ (G : Nat) (T : List Value), en = .returned (.slice (some ⟨w.heap.size, 0, none⟩) (n + m) G) ∧ n + m ≤ G ∧ G ≤ maxLen ∧ T.length = G * 3 ∧ T.take ((n + m) * 3) = cells.take (i * 3) ++ news ++ cells.drop (i * 3) ∧ w'.heap[w.heap.size]? = some (.cells T.toArray 84 (0, 0)) ∧ w.grownBy w' none := by
  obtain ⟨ti, z, hT, hti, hz, hzs, htis, htib⟩ := insNamed_T
  have hsz : (Tryz.prog.info? 84).map (·.size) = some 3 := by rw [hti]; simp [htis]
  have hgl : g < w.heap.size := (Array.getElem?_eq_some_iff.1 hg).1
  have hcell : ∀ j v, cells[j]? = some v → w.cell? ⟨g, j, none⟩ = some v := fun j v hj => by
    rw [cell_of_row w g _ cur 84 (0, 0) hg]
    rw [← htk, List.getElem?_take] at hj
    split at hj
    · simpa using hj
    · cases hj
  have hkk : (n : Int) + (m : Int) - (i : Int) = ((n + m - i : Nat) : Int) := by omega
  have hik : i + (n + m - i) = n + m := by omega
  have hold : (Builtin.firstCells ti.size i (.slice (some ⟨g, 0, none⟩) i c)).run Tryz.prog w.drew = .ok (cells.take (i * 3)).toArray w.drew := by
    rw [htis]
    exact run_firstCells_some w.drew 3 i ⟨g, 0, none⟩ i c (cells.take (i * 3)) (by rw [List.length_take, hl]; omega) (fun j v hj => by
      rw [Addr.add_lit, Nat.zero_add]
      rw [List.getElem?_take] at hj
      split at hj
      · exact hcell j v hj
      · cases hj)
  obtain ⟨G, hG⟩ : ∃ G, G = grownCap w (n + m) c 84 := ⟨_, rfl⟩
  obtain ⟨ROW, hROW⟩ : ∃ ROW : Array Value, ROW = (cells.take (i * 3)).toArray ++ Builtin.zeroCells z.cells (n + m - i) ++ Builtin.zeroCells z.cells (G - (n + m)) := ⟨_, rfl⟩
  have hrz : ∀ ty, (Builtin.append_ #[30, 3] ty #[.slice (some ⟨g, 0, none⟩) i c, .int .i64 ((n : Int) + (m : Int) - (i : Int))]).run Tryz.prog w = .ok (.slice (some ⟨w.heap.size, 0, none⟩) (n + m) G) (w.drew.alloc (.cells ROW 84)) := fun ty => by
    have h := Lib.run_append_grow_zeros (P := Tryz.prog) w 30 3 ty 84 ti z .i64 .i64 hT Tryz.underlying3 hti hz (some ⟨g, 0, none⟩) i c (cells.take (i * 3)).toArray.toList hold (n + m - i) (by omega) (by rw [htis]; decide) (by omega) (by omega) (by rw [htib]; omega) (by rw [htib, hik]; exact growslice_fits hroom (by omega))
    rw [hik, ← hG] at h
    rw [hkk, hROW]
    exact h
  have hGn : n + m ≤ G := by rw [hG]; exact grownCap_ge w _ _ _
  have hGm : G ≤ maxLen := by rw [hG]; exact grownCap_le_maxLen w (n + m) c 84 (by unfold maxLen; omega)
  have hG63 : G ≤ 9223372036854775807 := by unfold maxLen at hGm; omega
  have hRl : ROW.size = G * 3 := by
    rw [hROW, Array.size_append, Array.size_append, size_zeroCells, size_zeroCells, List.size_toArray, List.length_take, hl, hzs]
    omega
  have hRt : ROW.toList.take (i * 3) = cells.take (i * 3) := by
    rw [hROW]
    simp only [Array.toList_append, List.append_assoc]
    exact List.take_left' (by rw [List.length_take, hl]; omega)
  have hdl : (cells.drop (i * 3)).length = (n - i) * 3 := by rw [List.length_drop, hl]; omega
  obtain ⟨A1, hA1⟩ : ∃ A1, A1 = (ROW.toList.take (i * 3) ++ news ++ ROW.toList.drop ((i + m) * 3)) := ⟨_, rfl⟩
  have hrl : ROW.toList.length = G * 3 := by rw [← hRl, Array.length_toList]
  have hA1l : A1.length = G * 3 := by rw [hA1]; simp [hnl, hrl]; omega
  obtain ⟨A2, hA2⟩ : ∃ A2, A2 = (A1.take ((i + m) * 3) ++ cells.drop (i * 3) ++ A1.drop ((n + m) * 3)) := ⟨_, rfl⟩
  have hA2l : A2.length = G * 3 := by rw [hA2]; simp [hdl, hA1l]; omega
  have hcpA : ∀ W : World, W.heap[w.heap.size]? = some (.cells ROW 84 (0, 0)) → (∀ b, b < w.heap.size → W.heap[b]? = w.heap[b]?) → ∀ ty dc, (Builtin.copy_ #[30, 30] ty #[.slice (some ⟨w.heap.size, ((i) * 3), none⟩) (n + m - i) dc, .slice (some ⟨vb, 0, none⟩) m vc]).run Tryz.prog W = .ok (goInt m) (W.setRow w.heap.size A1.toArray) := fun W hW hWv ty dc => by
    have hmn : Nat.min m (n + m - i) = m := by simp only [Nat.min_def]; split <;> omega
    have := run_copy_rowK (P := Tryz.prog) W 30 30 ty 84 3 w.heap.size ((i) * 3) (n + m - i) dc ⟨vb, 0, none⟩ m vc ROW 84 news hT hsz hW (by rw [hmn, hnl]) (fun j v hj => by
        have h2 := hnv j v hj
        rw [Addr.add_lit] at h2 ⊢
        simp only [World.cell?, hWv vb hvbl] at h2 ⊢
        exact h2) (by rw [hnl, hRl]; omega) (fun v hv => h1 v (List.mem_append_right _ hv))
    rw [hmn] at this
    rw [this, hA1, hnl]
    have e : ((i) * 3) + m * 3 = (i + m) * 3 := by omega
    rw [e]
    try simp only [Nat.mul_one]
  have hcpB : ∀ W : World, W.heap[w.heap.size]? = some (.cells A1.toArray 84 (0, 0)) → (∀ b, b < w.heap.size → W.heap[b]? = w.heap[b]?) → ∀ ty dc sc, (Builtin.copy_ #[30, 30] ty #[.slice (some ⟨w.heap.size, ((i + m) * 3), none⟩) (n + m - (i + m)) dc, .slice (some ⟨g, ((i) * 3), none⟩) (n - i) sc]).run Tryz.prog W = .ok (goInt (n - i : Nat)) (W.setRow w.heap.size A2.toArray) := fun W hW hWv ty dc sc => by
    have hmn : Nat.min (n - i) (n + m - (i + m)) = n - i := by simp only [Nat.min_def]; split <;> omega
    have := run_copy_rowK (P := Tryz.prog) W 30 30 ty 84 3 w.heap.size ((i + m) * 3) (n + m - (i + m)) dc ⟨g, ((i) * 3), none⟩ (n - i) sc A1.toArray 84 (cells.drop (i * 3)) hT hsz hW (by rw [hmn, hdl]) (fun j v hj => by
        rw [List.getElem?_drop] at hj
        have h2 := hcell _ v hj
        rw [Addr.add_lit]
        simp only [World.cell?, hWv g hgl] at h2 ⊢
        first | exact h2 | simpa only [Nat.mul_one] using h2) (by rw [hdl, List.size_toArray, hA1l]; omega) (fun v hv => h1 v (List.mem_append_left _ (List.mem_of_mem_drop hv)))
    rw [hmn] at this
    rw [this, hA2, hdl]
    have e : ((i + m) * 3) + (n - i) * 3 = (n + m) * 3 := by omega
    rw [e]
    try simp only [Nat.mul_one]
  have hfin : A2.take ((n + m) * 3) = cells.take (i * 3) ++ news ++ cells.drop (i * 3) := by
    rw [hA2, List.take_left' (by rw [List.length_append, List.length_take, hA1l, hdl]; omega)]
    congr 1
    rw [hA1, hRt, List.take_left' (by rw [List.length_append, List.length_take, hl, hnl]; omega)]
  have hz1 : ¬ ((m : Int) = 0) := by omega
  have hz2 : ¬ ((i : Int) = (n : Int)) := by omega
  have hz3 : (c : Int) < (n : Int) + (m : Int) := by omega
  have hw1 : IntKind.i64.wrap ((i : Int) + (m : Int)) = (i : Int) + (m : Int) := by rw [IntKind.wrap_i64]; omega
  have hw2 : IntKind.i64.wrap ((n : Int) + (m : Int)) = (n : Int) + (m : Int) := by rw [IntKind.wrap_i64]; omega
  have hw3 : IntKind.i64.wrap ((n : Int) + (m : Int) - (i : Int)) = (n : Int) + (m : Int) - (i : Int) := by rw [IntKind.wrap_i64]; omega
  have hb1 : (0 : Int) ≤ (i : Int) + (m : Int) := by omega
  have hin' : i ≤ n := by omega
  have hic : i ≤ c := by omega
  have htn : ((i : Int) + (m : Int)).toNat = i + m := by omega
  have hb3 : (i : Int) ≤ (n : Int) + (m : Int) := by omega
  have hb3' : (i : Int) + (m : Int) ≤ (n : Int) + (m : Int) := by omega
  have hGi : ¬ (G = i) := by omega
  have hGim : ¬ (G = i + m) := by omega
  have hci : ¬ (c = i) := by omega
  have hA0 : ∀ W : World, W.heap = w.heap → ((W.alloc (.cells ROW 84)).heap[w.heap.size]? = some (.cells ROW 84 (0, 0)) ∧ ∀ b, b < w.heap.size → (W.alloc (.cells ROW 84)).heap[b]? = w.heap[b]?) := fun W hW => ⟨by rw [← hW]; exact heap_alloc_new W _, fun b hb => by rw [← hW] at hb ⊢; show (W.heap.push _)[b]? = _; rw [Array.getElem?_push, if_neg (Nat.ne_of_lt hb)]⟩
  have hB0 : ∀ W : World, W.heap[w.heap.size]? = some (.cells ROW 84 (0, 0)) → (∀ b, b < w.heap.size → W.heap[b]? = w.heap[b]?) → ((W.setRow w.heap.size A1.toArray).heap[w.heap.size]? = some (.cells A1.toArray 84 (0, 0)) ∧ ∀ b, b < w.heap.size → (W.setRow w.heap.size A1.toArray).heap[b]? = w.heap[b]?) := fun W h1 h2 => ⟨setRow_heap W _ _ _ _ _ h1, fun b hb => by rw [setRow_other W _ b _ (by omega)]; exact h2 b hb⟩
  obtain ⟨a1, a2⟩ := hA0 w.drew rfl
  obtain ⟨b1, b2⟩ := hB0 (w.drew.alloc (.cells ROW 84)) a1 a2
  have hcA := hcpA (w.alloc (.cells ROW 84)).drew a1 a2
  clear hkk hik hold hROW hG hA1 hA2 hcpA hA0 hB0 hRt hRl
  go_enter Tryz.func92, Tryz.ntmps92
  go_wp2_with (at_builtin; refine Lib.wpList_append_run _ rfl _ _ _ _ rfl _ _ rfl rfl _ _ (hrz _) ?_)
  first | (rw [hcA]; go_wp2_with fail) | skip
  go_region_law (refine step_copy_runI rfl (.tmp 50) (.tmp 53) 30 30 rfl (.slice (some ⟨w.heap.size, ((i + m) * 3), none⟩) (n + m - (i + m)) (G - (i + m))) (.slice (some ⟨g, ((i) * 3), none⟩) (n - i) (c - i)) (by simp [Act.eval, Act.put]) (by simp [Act.eval, Act.put]) (hcpB _ (by exact b1) (by exact b2) _ _ _) ?_)
  go_wp2
  go_ret
  refine ⟨G, A2, rfl, hGn, hGm, hA2l, hfin, ?_, ?_⟩
  · exact setRow_heap _ _ A1.toArray A2.toArray 84 (0, 0) b1
  · exact ⟨rfl, rfl, rfl, by simp, fun b hb _ => (setRow_other _ _ b _ (by omega)).trans (b2 b hb)⟩
theorem insNamed_t {α : Type} {e : Enc α} {f : α → List Cell} [hc : CellsOf e f] (he : e.size = 3) {d : Bool} {xs zs : List α} {i : Nat} (hi : i ≤ xs.length) (hz : 0 < zs.length) (hz1 : zs.length ≤ 1000) (hx : xs.length ≤ 100000000) :
    AT Tryz.prog 92 ([.one (.own 0), .one (.c (.int .i64 (i : Int)))] ++ [.one (.own 2)]) [(0, some (.arr 84 e xs d)), (2, some (.arr 84 e zs d))] (.one (.own 1)) [(1, some (.arr 84 e (xs.take i ++ zs ++ xs.drop i) d))] := by
  refine AT.row2 (rest := [.one (.c (.int .i64 (i : Int)))]) ⟨_, _, Tryz.func92, rfl, rfl⟩ (fun w v u vs cells news bs b2 hvs hown hu hF hF2 h1 hap => ?_) (fun x hx => by simp at hx; exact ⟨_, hx⟩)
  have hv1 : vs = [.int .i64 (i : Int)] := by
    cases vs with
    | nil => exact hvs.elim
    | cons a as' =>
      cases as' with
      | nil => have := hvs.1; cases this; rfl
      | cons _ _ => exact hvs.2.elim
  subst hv1
  obtain ⟨bs', q1, q2, q3⟩ := FR.ins (e := e) hF hF2 hi
  rw [he] at hown hu q1 ⊢
  have hln : (xs.take i ++ zs ++ xs.drop i).length = xs.length + zs.length := by simp; omega
  rw [hln]
  have hcl := hown.1
  rcases hu.2 with ⟨_, h0⟩ | ⟨vb, vc, vcur, rfl, _, g2, g3, g4, g5, g6⟩
  · omega
  have hap' : v.ownBlock ≠ some vb := hap vb rfl
  have hcut : i = xs.length → cells.take (i * 3) ++ news ++ cells.drop (i * 3) = cells ++ news := fun e0 => by
    rw [e0, ← hcl, List.take_length, List.drop_length, List.append_nil]
  show Calls Tryz.prog 92 #[v, .int .i64 (i : Int), .slice (some ⟨vb, 0, none⟩) zs.length vc] w _
  rcases hown.2 with ⟨rfl, h0⟩ | ⟨g, c, cur, rfl, _, r3, r4, r5, r6, r7⟩
  · rw [h0]
    refine (insNamed_end w none 0 0 i cells news vb vc zs.length (by rw [h0] at hown; exact hown) hu (by omega) hz hz1 (by omega) (by omega) (fun u hu => h1 u (List.mem_append_right _ hu)) (by omega)).mono ?_
    rintro en w' ⟨v', rfl, t1, t2, t3⟩
    exact ⟨v', _, rfl, by rw [hcut (by omega)]; exact t1, t2, t3, bs', q1, q2, q3⟩
  · have hne : vb ≠ g := fun e0 => hap' (by rw [e0]; rfl)
    have hc63 : c ≤ 9223372036854775807 := by unfold maxLen at r5; omega
    by_cases hin : i = xs.length
    · refine (insNamed_end w (some ⟨g, 0, none⟩) xs.length c i cells news vb vc zs.length hown hu hin hz hz1 hx hc63 (fun u hu => h1 u (List.mem_append_right _ hu)) r4).mono ?_
      rintro en w' ⟨v', rfl, t1, t2, t3⟩
      exact ⟨v', _, rfl, by rw [hcut hin]; exact t1, t2, t3, bs', q1, q2, q3⟩
    · have hnv := hu.cells (g := vb) rfl
      by_cases hroom : xs.length + zs.length ≤ c
      · refine (insNamed_shift w g xs.length c i cur cells news vb vc zs.length vcur r3 g2 hne r6 r7 hcl hnv hu.1 (by omega) hroom hz hc63 h1 g5 g3).mono ?_
        rintro en w' ⟨rfl, t1, t2⟩
        refine ⟨_, cells.take (i * 3) ++ news ++ cells.drop (i * 3), rfl, ⟨?_, .inr ⟨g, c, _, rfl, Nat.zero_le _, t1, hroom, r5, ?_, ?_⟩⟩, t2, fun b hb => .inl hb, bs', q1, q2, q3⟩
        · simp [hcl, hu.1]; omega
        · have hz := hu.1
          have hsz : cur.toList.length = c * 3 := by rw [Array.length_toList]; exact r6
          simp [hcl, hz, hsz]; omega
        · have hz := hu.1
          simp only [List.toList_toArray]
          exact List.take_left' (by simp [hcl, hz]; omega)
      · refine (insNamed_grow w g xs.length c i cur cells news vb vc zs.length r3 (Array.getElem?_eq_some_iff.1 g2).1 r6 r7 hcl hnv hu.1 (by omega) r4 (by omega) hz hz1 hx hc63 h1).mono ?_
        rintro en w' ⟨G, T, rfl, t1, t2, t3, t4, t5, t6⟩
        refine ⟨_, cells.take (i * 3) ++ news ++ cells.drop (i * 3), rfl, ⟨?_, .inr ⟨_, G, _, rfl, Nat.zero_le _, t5, t1, t2, ?_, ?_⟩⟩, ⟨t6.os, t6.tape, t6.output, t6.size, fun b hb _ => t6.block b hb (by simp)⟩, fun b hb => .inr ?_, bs', q1, q2, q3⟩
        · simp [hcl, hu.1]; omega
        · simp [t3]
        · simpa using t4
        · have hb' : some w.heap.size = some b := hb
          cases hb'; exact Nat.le_refl _
end Go.Proofs.YtibhoanjglfaoaaGreat

/- A row among rows (printed by walk.py) -/
namespace Go.Proofs.YtibhoanjglfaoaaGreat
open Go.RowKit
set_option linter.unusedVariables false
set_option linter.unusedSimpArgs false
set_option maxRecDepth 100000

set_option maxHeartbeats 4000000 in
theorem hasS_c (rows : List (List Val)) (row : List Val) (hl : rows.length ≤ 1048576) (hr : ∀ r ∈ rows, r.length ≤ 1048576) : AC Tryz.prog 76 [.one (.sl rowE rows), .agg (rowC row)] [] (.one (.c (.bool (hasRow rows row)))) [] := by
  refine AC_body1 Tryz.func76 rfl rfl Tryz.ntmps76 rfl Tryz.results76 ?_
  refine AW_seq ?_
  refine AW_region ?_
  refine AL_p (x_box 100 rfl rfl rfl rfl rfl rfl rfl) ?_
  refine AL_p (x_assign rfl rfl) ?_
  refine AL_nil ?_
  refine AW_seq ?_
  refine AW_seq ?_
  refine AW_region ?_
  refine AL_p (x_move rfl rfl) ?_
  refine AL_p (x_len (E := 72) (n := 1) rfl rfl (by kernel_rfl)) ?_
  refine AL_p (x_move rfl rfl) ?_
  refine AL_nil ?_
  refine AW_block ?_
  refine AW_loop2 (ι := {q : Nat // q ≤ rows.length ∧ NoneTo (fun r => sameRow r row) rows q}) (fun p => [(8, .one (.c (.int .i64 ((p.1) : Int))))]) (fun p => []) [0, 3, 7] [100] (fun p => rows.length - (p.1)) ⟨0, ⟨by omega, .zero⟩⟩ (rn []) ?_ ?_
  exact ⟨by (repeat refine ⟨⟨_, rfl, by first | exact VLe.rf | exact vle_int (by dsimp only; omega)⟩, ?_⟩); exact trivial, by (repeat refine ⟨⟨_, rfl, by first | exact BLe.rf | exact BLe.box AllC.rf | exact BLe.arr (by exact rfl)⟩, ?_⟩); exact trivial, by repeat (first | exact trivial | refine ⟨⟨rfl, by first | (left; intro h; cases h) | (right; rfl), by first | exact (fun _ h => ⟨_, h⟩) | exact (fun _ _ => ⟨_, rfl⟩)⟩, ?_⟩), rfl⟩
  rintro ⟨k, hinv⟩
  dsimp only
  obtain ⟨hk, hs⟩ := hinv
  refine AW_seq ?_
  refine AW_region ?_
  refine AL_b (x_lss rfl rfl rfl) (fun b9 h9 => ?_)
  refine AL_nil ?_
  refine AW_seq ?_
  cases b9
  · try simp only [tdy] at h9
    refine AW_condF rfl ?_
    refine AW_exit (BQ_hit ?_)
    refine AW_seq ?_
    refine AW_region ?_
    refine AL_p (x_assign rfl rfl) ?_
    refine AL_nil ?_
    refine AW_ret ?_
    exact ⟨rn [], ⟨⟨⟨_, rfl, vle_bool (by first | exact (hasRow_at (k := k) (by omega) h16).symm | exact (hasRow_none hs (by omega)).symm)⟩, trivial⟩, trivial, trivial, rfl⟩⟩
  try simp only [tdy] at h9
  refine AW_condT rfl ?_
  refine AW_skip ?_
  refine AW_seq ?_
  refine AW_block ?_
  refine AW_seq ?_
  refine AW_region ?_
  refine AL_p (x_move rfl rfl) ?_
  refine AL_p (x_assign rfl rfl) ?_
  refine AL_nil ?_
  refine AW_seq ?_
  refine AW_draw rfl ?_
  refine AL_p (x_move rfl rfl) ?_
  refine AL_p (x_move rfl rfl) ?_
  refine AL_p (x_index (E := 72) (n := 1) rfl rfl rfl (by kernel_rfl) rfl rfl (by omega)) ?_
  refine AL_p (x_eloadW (n := 1) rfl rfl (by kernel_rfl) rfl) ?_
  refine AL_p (x_loadN (n := 1) rfl rfl rfl (by kernel_rfl) rfl rfl) ?_
  refine AL_b (x_call0 rfl rfl rfl (sameRowS_c _ _ (hr _ (List.getElem_mem _))) rfl rfl) (fun b16 h16 => ?_)
  refine AL_nild (by kernel_rfl) ?_
  cases b16
  rotate_left
  · try simp only [tdy] at h16
    refine AW_condT rfl ?_
    refine AW_seq ?_
    refine AW_region ?_
    refine AL_p (x_assign rfl rfl) ?_
    refine AL_nil ?_
    refine AW_ret (BQ_ret (BQ_ret ?_))
    exact ⟨rn [], ⟨⟨⟨_, rfl, vle_bool (by first | exact (hasRow_at (k := k) (by omega) h16).symm | exact (hasRow_none hs (by omega)).symm)⟩, trivial⟩, trivial, trivial, rfl⟩⟩
  try simp only [tdy] at h16
  refine AW_condF rfl ?_
  refine AW_skip ?_
  refine AW_region ?_
  refine AL_p (x_add rfl rfl rfl (IntWalk.i64_in _ (by omega))) ?_
  refine AL_p (x_move rfl rfl) ?_
  refine AL_nil ?_
  refine ⟨⟨k + 1, ⟨by omega, hs.succ (by omega) h16⟩⟩, rn [], ?_, by dsimp only; omega⟩
  exact ⟨by (repeat refine ⟨⟨_, rfl, by first | exact VLe.rf | exact vle_int (by dsimp only; omega)⟩, ?_⟩); exact trivial, by (repeat refine ⟨⟨_, rfl, by first | exact BLe.rf | exact BLe.box AllC.rf | exact BLe.arr (by exact rfl)⟩, ?_⟩); exact trivial, by repeat (first | exact trivial | refine ⟨⟨rfl, by first | (left; intro h; cases h) | (right; rfl), by first | exact (fun _ h => ⟨_, h⟩) | exact (fun _ _ => ⟨_, rfl⟩)⟩, ?_⟩), rfl⟩

set_option maxHeartbeats 4000000 in
theorem search_c (rows : List (List Val)) (row : List Val) (hl : rows.length ≤ 1048576) (hs : Sorted rows) (hr : ∀ v ∈ row, valOk v = true) : AC Tryz.prog 157 [.one (.sl rowE rows), .agg (rowC row), .one (.clo 82 [])] [] (.tup [.one (.c (.int .i64 (pos rows row : Int))), .one (.c (.bool (hasRow rows row)))]) [] := by
  refine AC_body2 Tryz.func157 rfl rfl Tryz.ntmps157 rfl Tryz.results157 rfl rfl rfl ?_
  refine AW_seq ?_
  refine AW_region ?_
  refine AL_p (x_box 100 rfl rfl rfl rfl rfl rfl rfl) ?_
  refine AL_p (x_assign rfl rfl) ?_
  refine AL_p (x_assign rfl rfl) ?_
  refine AL_nil ?_
  refine AW_seq ?_
  refine AW_region ?_
  refine AL_p (x_move rfl rfl) ?_
  refine AL_p (x_len (E := 72) (n := 1) rfl rfl (by kernel_rfl)) ?_
  refine AL_p (x_assign rfl rfl) ?_
  refine AL_nil ?_
  refine AW_seq ?_
  refine AW_region ?_
  refine AL_p (x_move rfl rfl) ?_
  refine AL_p (x_assign rfl rfl) ?_
  refine AL_p (x_assign rfl rfl) ?_
  refine AL_nil ?_
  refine AW_seq ?_
  refine AW_block ?_
  refine AW_loop2 (ι := {q : Nat × Nat // (q.1) ≤ (q.2) ∧ (q.2) ≤ rows.length ∧ Between rows row (q.1) (q.2)}) (fun p => [(9, .one (.c (.int .i64 ((p.1.1) : Int)))), (10, .one (.c (.int .i64 ((p.1.2) : Int))))]) (fun p => []) [0, 2, 4, 8] [100] (fun p => (p.1.2) - (p.1.1)) ⟨⟨0, rows.length⟩, ⟨by omega, by omega, .start⟩⟩ (rn []) ?_ ?_
  exact ⟨by (repeat refine ⟨⟨_, rfl, by first | exact VLe.rf | exact vle_int (by dsimp only; omega)⟩, ?_⟩); exact trivial, by (repeat refine ⟨⟨_, rfl, by first | exact BLe.rf | exact BLe.box AllC.rf | exact BLe.arr (by exact rfl)⟩, ?_⟩); exact trivial, by repeat (first | exact trivial | refine ⟨⟨rfl, by first | (left; intro h; cases h) | (right; rfl), by first | exact (fun _ h => ⟨_, h⟩) | exact (fun _ _ => ⟨_, rfl⟩)⟩, ?_⟩), rfl⟩
  rintro ⟨⟨i, j⟩, hinv⟩
  dsimp only
  obtain ⟨h1, h2, B⟩ := hinv
  refine AW_seq ?_
  refine AW_seq ?_
  refine AW_region ?_
  refine AL_p (x_move rfl rfl) ?_
  refine AL_p (x_move rfl rfl) ?_
  refine AL_b (x_lss rfl rfl rfl) (fun b17 h17 => ?_)
  refine AL_nil ?_
  cases b17
  rotate_left
  · try simp only [tdy] at h17
    refine AW_condT rfl ?_
    refine AW_skip ?_
    refine AW_block ?_
    refine AW_seq ?_
    refine AW_region ?_
    refine AL_p (x_move rfl rfl) ?_
    refine AL_p (x_move rfl rfl) ?_
    refine AL_p (x_add rfl rfl rfl (IntWalk.i64_in _ (by omega))) ?_
    refine AL_p (x_conv (k' := .u64) rfl rfl (by kernel_rfl) (u64_id (by omega) (by omega))) ?_
    refine AL_p (x_shr rfl rfl rfl (by omega) (mid_shr (by omega)) (u64_wf (by omega) (by omega))) ?_
    refine AL_p (x_conv (k' := .i64) rfl rfl (by kernel_rfl) (IntWalk.i64_in _ (by omega))) ?_
    refine AL_p (x_assign rfl rfl) ?_
    refine AL_nil ?_
    refine AW_seq ?_
    refine AW_draw rfl ?_
    refine AL_p (x_move rfl rfl) ?_
    refine AL_p (x_move rfl rfl) ?_
    refine AL_p (x_move rfl rfl) ?_
    refine AL_p (x_index (E := 72) (n := 1) rfl rfl rfl (by kernel_rfl) rfl (k := (i + j) / 2) (by omega) (by omega)) ?_
    refine AL_p (x_eloadW (n := 1) rfl rfl (by kernel_rfl) rfl) ?_
    refine AL_p (x_loadN (n := 1) rfl rfl rfl (by kernel_rfl) rfl rfl) ?_
    refine AL_p (x_call0 rfl rfl rfl (byRow_c _ _ (hs.1 _ _) hr) rfl rfl) ?_
    refine AL_b (x_lss rfl rfl rfl) (fun b31 h31 => ?_)
    refine AL_nild (by kernel_rfl) ?_
    cases b31
    · try simp only [tdy] at h31
      refine AW_condF rfl ?_
      refine AW_region ?_
      refine AL_p (x_move rfl rfl) ?_
      refine AL_p (x_assign rfl rfl) ?_
      refine AL_nil ?_
      refine ⟨⟨⟨i, (i + j) / 2⟩, ⟨by omega, by omega, B.left hs hr (by omega) (Int.not_lt.2 h31)⟩⟩, rn [], ?_, by dsimp only; omega⟩
      exact ⟨by (repeat refine ⟨⟨_, rfl, by first | exact VLe.rf | exact vle_int (by dsimp only; omega)⟩, ?_⟩); exact trivial, by (repeat refine ⟨⟨_, rfl, by first | exact BLe.rf | exact BLe.box AllC.rf | exact BLe.arr (by exact rfl)⟩, ?_⟩); exact trivial, by repeat (first | exact trivial | refine ⟨⟨rfl, by first | (left; intro h; cases h) | (right; rfl), by first | exact (fun _ h => ⟨_, h⟩) | exact (fun _ _ => ⟨_, rfl⟩)⟩, ?_⟩), rfl⟩
    try simp only [tdy] at h31
    refine AW_condT rfl ?_
    refine AW_region ?_
    refine AL_p (x_move rfl rfl) ?_
    refine AL_p (x_add rfl rfl rfl (IntWalk.i64_in _ (by omega))) ?_
    refine AL_p (x_assign rfl rfl) ?_
    refine AL_nil ?_
    refine ⟨⟨⟨(i + j) / 2 + 1, j⟩, ⟨by omega, by omega, B.right hs hr (by omega) h31⟩⟩, rn [], ?_, by dsimp only; omega⟩
    exact ⟨by (repeat refine ⟨⟨_, rfl, by first | exact VLe.rf | exact vle_int (by dsimp only; omega)⟩, ?_⟩); exact trivial, by (repeat refine ⟨⟨_, rfl, by first | exact BLe.rf | exact BLe.box AllC.rf | exact BLe.arr (by exact rfl)⟩, ?_⟩); exact trivial, by repeat (first | exact trivial | refine ⟨⟨rfl, by first | (left; intro h; cases h) | (right; rfl), by first | exact (fun _ h => ⟨_, h⟩) | exact (fun _ _ => ⟨_, rfl⟩)⟩, ?_⟩), rfl⟩
  try simp only [tdy] at h17
  refine AW_condF rfl ?_
  refine AW_exit (BQ_hit ?_)
  refine AW_seq ?_
  refine AW_draw rfl ?_
  refine AL_p (x_move rfl rfl) ?_
  refine AL_p (x_move rfl rfl) ?_
  refine AL_p (x_move rfl rfl) ?_
  refine AL_b (x_lss rfl rfl rfl) (fun b38 h38 => ?_)
  refine AL_p (x_move rfl rfl) ?_
  cases b38
  · try simp only [tdy] at h38
    refine AL_o rfl rfl rfl rfl ?_
    refine AL_o rfl rfl rfl rfl ?_
    refine AL_o rfl rfl rfl rfl ?_
    refine AL_o rfl rfl rfl rfl ?_
    refine AL_o rfl rfl rfl rfl ?_
    refine AL_o rfl rfl rfl rfl ?_
    refine AL_o rfl rfl rfl rfl ?_
    refine AL_o rfl rfl rfl rfl ?_
    refine AL_p (x_pickF rfl rfl rfl) ?_
    refine AL_p (x_assign rfl rfl) ?_
    refine AL_p (x_assign rfl rfl) ?_
    refine AL_nild (by kernel_rfl) ?_
    refine AW_ret ?_
    have e : j = i := by omega
    rw [e] at B
    have e2 : i = rows.length := by omega
    rw [e2] at B ⊢
    exact ⟨rn [], ⟨⟨⟨_, rfl, vle_int (by rw [B.pos (by omega)])⟩, ⟨_, rfl, vle_bool (by rw [B.hasNot])⟩, trivial⟩, trivial, trivial, rfl⟩⟩
  try simp only [tdy] at h38
  refine AL_g rfl rfl (x_move rfl rfl) ?_
  refine AL_g rfl rfl (x_move rfl rfl) ?_
  refine AL_g rfl rfl (x_move rfl rfl) ?_
  refine AL_g rfl rfl (x_index (E := 72) (n := 1) rfl rfl rfl (by kernel_rfl) rfl (k := i) (by omega) (by omega)) ?_
  refine AL_g rfl rfl (x_eloadW (n := 1) rfl rfl (by kernel_rfl) rfl) ?_
  refine AL_g rfl rfl (x_loadN (n := 1) rfl rfl rfl (by kernel_rfl) rfl rfl) ?_
  refine AL_g rfl rfl (x_call0 rfl rfl rfl (byRow_c _ _ (hs.1 _ _) hr) rfl rfl) ?_
  refine AL_gb rfl rfl (x_eql rfl rfl rfl) (fun b47 h47 => ?_)
  refine AL_p (x_pickT rfl rfl rfl) ?_
  refine AL_p (x_assign rfl rfl) ?_
  refine AL_p (x_assign rfl rfl) ?_
  refine AL_nild (by kernel_rfl) ?_
  refine AW_ret ?_
  cases b47
  rotate_left
  · try simp only [tdy] at h47
    have e : j = i := by omega
    rw [e] at B
    first
      | (have hv := B.has hs hr (by omega)
         exact ⟨rn [], ⟨⟨⟨_, rfl, vle_int (by rw [B.pos (by omega)])⟩, ⟨_, rfl, vle_bool (by rw [hv]; first | simp [h47] | (simp; omega))⟩, trivial⟩, trivial, trivial, rfl⟩⟩)
    
  try simp only [tdy] at h47
  have e : j = i := by omega
  rw [e] at B
  first
    | (have hv := B.has hs hr (by omega)
       exact ⟨rn [], ⟨⟨⟨_, rfl, vle_int (by rw [B.pos (by omega)])⟩, ⟨_, rfl, vle_bool (by rw [hv]; first | simp [h47] | (simp; omega))⟩, trivial⟩, trivial, trivial, rfl⟩⟩)
  

set_option maxHeartbeats 4000000 in
theorem find_c (x : Relt) (row : List Val) (hl : x.rows.length ≤ 1048576) (hs : Sorted x.rows) (hr : ∀ v ∈ row, valOk v = true) : AC Tryz.prog 127 [.agg (relC x), .agg (rowC row)] [] (.tup [.one (.c (.int .i64 (pos x.rows row : Int))), .one (.c (.bool (hasRow x.rows row)))]) [] := by
  refine AC_body2 Tryz.func127 rfl rfl Tryz.ntmps127 rfl Tryz.results127 rfl rfl rfl ?_
  refine AW_seq ?_
  refine AW_region ?_
  refine AL_p (x_box 100 rfl rfl rfl rfl rfl rfl rfl) ?_
  refine AL_p (x_box 101 rfl rfl rfl rfl rfl rfl rfl) ?_
  refine AL_p (x_assign rfl rfl) ?_
  refine AL_p (x_assign rfl rfl) ?_
  refine AL_nil ?_
  refine AW_seq ?_
  refine AW_region ?_
  refine AL_p (x_field (off := 1) (o' := 1) rfl rfl rfl (by kernel_rfl) rfl) ?_
  refine AL_p (x_load1 rfl rfl rfl (by kernel_rfl) rfl) ?_
  refine AL_p (x_loadN (n := 1) rfl rfl rfl (by kernel_rfl) rfl rfl) ?_
  refine AL_p (x_call0 rfl rfl rfl (search_c _ _ hl hs hr) rfl rfl) ?_
  refine AL_p (x_extract rfl rfl rfl) ?_
  refine AL_b (x_extract rfl rfl rfl) (fun b11 h11 => ?_)
  refine AL_p (x_assign rfl rfl) ?_
  refine AL_p (x_assign rfl rfl) ?_
  refine AL_nil ?_
  refine AW_ret ?_
  cases b11
  rotate_left
  · try simp only [tdy] at h11
    exact ⟨rn [], ⟨⟨⟨_, rfl, VLe.rf⟩, ⟨_, rfl, vle_bool h11.symm⟩, trivial⟩, trivial, trivial, rfl⟩⟩
  try simp only [tdy] at h11
  exact ⟨rn [], ⟨⟨⟨_, rfl, VLe.rf⟩, ⟨_, rfl, vle_bool h11.symm⟩, trivial⟩, trivial, trivial, rfl⟩⟩

set_option maxHeartbeats 4000000 in
theorem has_c (x : Relt) (row : List Val) (hl : x.rows.length ≤ 1048576) (hs : Sorted x.rows) (hr : ∀ v ∈ row, valOk v = true) : AC Tryz.prog 88 [.agg (relC x), .agg (rowC row)] [] (.one (.c (.bool (hasRow x.rows row)))) [] := by
  refine AC_body1 Tryz.func88 rfl rfl Tryz.ntmps88 rfl Tryz.results88 ?_
  refine AW_seq ?_
  refine AW_region ?_
  refine AL_p (x_box 100 rfl rfl rfl rfl rfl rfl rfl) ?_
  refine AL_p (x_box 101 rfl rfl rfl rfl rfl rfl rfl) ?_
  refine AL_p (x_assign rfl rfl) ?_
  refine AL_nil ?_
  refine AW_seq ?_
  refine AW_region ?_
  refine AL_p (x_loadN (n := 2) rfl rfl rfl (by kernel_rfl) rfl rfl) ?_
  refine AL_p (x_loadN (n := 1) rfl rfl rfl (by kernel_rfl) rfl rfl) ?_
  refine AL_p (x_call0 rfl rfl rfl (find_c _ _ hl hs hr) rfl rfl) ?_
  refine AL_p (x_move rfl rfl) ?_
  refine AL_p (x_extract rfl rfl rfl) ?_
  refine AL_b (x_extract rfl rfl rfl) (fun b12 h12 => ?_)
  refine AL_p (x_assign rfl rfl) ?_
  refine AL_p (x_assign rfl rfl) ?_
  refine AL_nil ?_
  refine AW_seq ?_
  refine AW_region ?_
  refine AL_p (x_move rfl rfl) ?_
  refine AL_p (x_assign rfl rfl) ?_
  refine AL_nil ?_
  refine AW_ret ?_
  cases b12
  rotate_left
  · try simp only [tdy] at h12
    exact ⟨rn [], ⟨⟨⟨_, rfl, vle_bool (h12.symm)⟩, trivial⟩, trivial, trivial, rfl⟩⟩
  try simp only [tdy] at h12
  exact ⟨rn [], ⟨⟨⟨_, rfl, vle_bool (h12.symm)⟩, trivial⟩, trivial, trivial, rfl⟩⟩


end Go.Proofs.YtibhoanjglfaoaaGreat

/- Copies (printed by walk.py) -/
namespace Go.Proofs.YtibhoanjglfaoaaGreat
open Go.RowKit
set_option linter.unusedVariables false
set_option linter.unusedSimpArgs false
set_option maxRecDepth 100000

set_option maxHeartbeats 4000000 in
theorem rowS_c0 (r : List Val) (hl : r.length ≤ 1048576) : AC Tryz.prog 77 [.agg (rowC r)] [] (.agg [.own 0]) [(0, some (.arr 147 valE r true))] := by
  refine AC_bodyC (n := 1) (k := 9) (T := [(2, .one (.ptr 9 0))]) (Lf := ((9, some (.box [.own 0])) :: [(0, some (.arr 147 valE r true))])) Tryz.func77 rfl rfl Tryz.ntmps77 rfl Tryz.results77 rfl rfl (by kernel_rfl) rfl rfl ⟨trivial, (by repeat (first | exact trivial | refine ⟨⟨_, rfl, BLe.rf⟩, ?_⟩)), (by repeat (first | exact trivial | refine ⟨⟨rfl, by first | (left; intro h; cases h) | (right; rfl), by first | exact (fun _ h => ⟨_, h⟩) | exact (fun _ _ => ⟨_, rfl⟩)⟩, ?_⟩)), rfl⟩ ?_
  refine AW_seq ?_
  refine AW_region ?_
  refine AL_p (x_box 100 rfl rfl rfl rfl rfl rfl rfl) ?_
  refine AL_p (x_alloc (z := .agg #[.slice none 0 0]) 101 rfl (by kernel_rfl) rfl rfl rfl rfl) ?_
  refine AL_nil ?_
  refine AW_seq ?_
  refine AW_region ?_
  refine AL_p (y_bslice0 (E := 147) (e := valE) 102 rfl rfl rfl (by kernel_rfl)) ?_
  refine AL_p (x_field (off := 0) (o' := 0) rfl rfl rfl (by kernel_rfl) rfl) ?_
  refine AL_p (x_load1 rfl rfl rfl (by kernel_rfl) rfl) ?_
  refine AL_p (y_append_sl 103 true (.inr valE_nofp) rfl rfl rfl rfl rfl rfl (by kernel_rfl) (by simp; omega)) ?_
  refine AL_p (x_build (zs := [.slice none 0 0]) (places := [(0, 1)]) rfl (by kernel_rfl) rfl rfl rfl rfl rfl) ?_
  refine AL_p (x_store (n := 1) rfl rfl rfl rfl (by kernel_rfl) rfl rfl rfl) ?_
  refine AL_nil ?_
  refine AW_ret ?_
  exact ⟨rn [(9, 101), (0, 103)], ⟨⟨⟨_, rfl, VLe.rf⟩, trivial⟩, ⟨⟨_, rfl, by first | exact BLe.rf | (subst_vars; exact BLe.rf)⟩, ⟨_, rfl, BLe.rf⟩, trivial⟩, trivial, rfl⟩⟩
theorem rowS_c (r : List Val) (hl : r.length ≤ 1048576) (k : Nat) : AC Tryz.prog 77 [.agg (rowC r)] [] (.agg [.own k]) [(k, some (.arr 147 valE r true))] := AC.at (rowS_c0 r hl) k

set_option maxHeartbeats 4000000 in
theorem cloneV_c0 (r : List Val) (hl : r.length ≤ 1048576) : AC Tryz.prog 143 [.one (.sl valE r)] [] (.one (.own 0)) [(0, some (.arr 147 valE r true))] := by
  refine AC_body1 Tryz.func143 rfl rfl Tryz.ntmps143 rfl Tryz.results143 ?_
  refine AW_split 0 rfl (fun hx => ?_) ?_
  · subst hx
    refine AW_seq ?_
    refine AW_region ?_
    refine AL_p (x_assign rfl rfl) ?_
    refine AL_nil ?_
    refine AW_seq ?_
    refine AW_seq ?_
    refine AW_region ?_
    refine AL_p (x_move rfl rfl) ?_
    refine AL_p (x_nilnil rfl rfl rfl (E := 147) (n := 2) (by kernel_rfl)) ?_
    refine AL_nil ?_
    refine AW_condT rfl ?_
    refine AW_seq ?_
    refine AW_region ?_
    refine AL_p (x_assign rfl rfl) ?_
    refine AL_nil ?_
    refine AW_adoptT (T := 147) (e := valE) 100 2 rfl rfl rfl ?_
    refine AW_ret ?_
    exact ⟨rn [(0, 100)], ⟨⟨⟨_, rfl, VLe.rf⟩, trivial⟩, ⟨⟨_, rfl, BLe.rf⟩, trivial⟩, trivial, rfl⟩⟩
  · refine AW_seq ?_
    refine AW_region ?_
    refine AL_p (x_assign rfl rfl) ?_
    refine AL_nil ?_
    refine AW_seq ?_
    refine AW_seq ?_
    refine AW_region ?_
    refine AL_p (x_move rfl rfl) ?_
    refine AL_p (x_snnil rfl rfl rfl (E := 147) (n := 2) (by kernel_rfl)) ?_
    refine AL_nil ?_
    refine AW_condF rfl ?_
    refine AW_skip ?_
    refine AW_seq ?_
    refine AW_region ?_
    refine AL_p (y_bslice0 (E := 147) (e := valE) 101 rfl rfl rfl (by kernel_rfl)) ?_
    refine AL_p (x_move_sn rfl rfl) ?_
    refine AL_p (y_append_sl 102 true (.inr valE_nofp) rfl rfl rfl rfl rfl rfl (by kernel_rfl) (by simp; omega)) ?_
    refine AL_p (x_assign rfl rfl) ?_
    refine AL_nil ?_
    refine AW_ret ?_
    exact ⟨rn [(0, 102)], ⟨⟨⟨_, rfl, VLe.rf⟩, trivial⟩, ⟨⟨_, rfl, BLe.rf⟩, trivial⟩, trivial, rfl⟩⟩
theorem cloneV_c (r : List Val) (hl : r.length ≤ 1048576) (k : Nat) : AC Tryz.prog 143 [.one (.sl valE r)] [] (.one (.own k)) [(k, some (.arr 147 valE r true))] := AC.at (cloneV_c0 r hl) k

set_option maxHeartbeats 4000000 in
theorem rowI_c0 (r : List Val) (hl : r.length ≤ 1048576) : AC Tryz.prog 112 [.agg (rowC r)] [] (.agg [.own 0]) [(0, some (.arr 147 valE r true))] := by
  refine AC_bodyC (n := 1) (k := 9) (T := [(2, .one (.ptr 9 0))]) (Lf := ((9, some (.box [.own 0])) :: [(0, some (.arr 147 valE r true))])) Tryz.func112 rfl rfl Tryz.ntmps112 rfl Tryz.results112 rfl rfl (by kernel_rfl) rfl rfl ⟨trivial, (by repeat (first | exact trivial | refine ⟨⟨_, rfl, BLe.rf⟩, ?_⟩)), (by repeat (first | exact trivial | refine ⟨⟨rfl, by first | (left; intro h; cases h) | (right; rfl), by first | exact (fun _ h => ⟨_, h⟩) | exact (fun _ _ => ⟨_, rfl⟩)⟩, ?_⟩)), rfl⟩ ?_
  refine AW_seq ?_
  refine AW_region ?_
  refine AL_p (x_box 100 rfl rfl rfl rfl rfl rfl rfl) ?_
  refine AL_p (x_alloc (z := .agg #[.slice none 0 0]) 101 rfl (by kernel_rfl) rfl rfl rfl rfl) ?_
  refine AL_nil ?_
  refine AW_seq ?_
  refine AW_region ?_
  refine AL_p (x_field (off := 0) (o' := 0) rfl rfl rfl (by kernel_rfl) rfl) ?_
  refine AL_p (x_load1 rfl rfl rfl (by kernel_rfl) rfl) ?_
  refine AL_p (x_call1 rfl rfl rfl (cloneV_c r hl 102) rfl rfl rfl rfl) ?_
  refine AL_p (x_build (zs := [.slice none 0 0]) (places := [(0, 1)]) rfl (by kernel_rfl) rfl rfl rfl rfl rfl) ?_
  refine AL_p (x_store (n := 1) rfl rfl rfl rfl (by kernel_rfl) rfl rfl rfl) ?_
  refine AL_nil ?_
  refine AW_ret ?_
  exact ⟨rn [(9, 101), (0, 102)], ⟨⟨⟨_, rfl, VLe.rf⟩, trivial⟩, ⟨⟨_, rfl, by first | exact BLe.rf | (subst_vars; exact BLe.rf)⟩, ⟨_, rfl, BLe.rf⟩, trivial⟩, trivial, rfl⟩⟩
theorem rowI_c (r : List Val) (hl : r.length ≤ 1048576) (k : Nat) : AC Tryz.prog 112 [.agg (rowC r)] [] (.agg [.own k]) [(k, some (.arr 147 valE r true))] := AC.at (rowI_c0 r hl) k

set_option maxHeartbeats 4000000 in
theorem siftS_c0 (a b : Relt) (want : Bool) (ha : smallRel a) (hb : smallRel b) : AC Tryz.prog 33 [.agg (relC a), .agg (relC b), .one (.c (.bool want))] [] (.agg [.c (.int .i64 a.arity), .own 0]) [(0, some (.arr 72 rowE (a.rows.filter (fun r => hasRow b.rows r == want)) true))] := by
  refine AC_bodyC (n := 2) (k := 9) (T := [(6, .one (.ptr 9 0))]) (Lf := ((9, some (.box [.c (.int .i64 a.arity), .own 0])) :: [(0, some (.arr 72 rowE (a.rows.filter (fun r => hasRow b.rows r == want)) true))])) Tryz.func33 rfl rfl Tryz.ntmps33 rfl Tryz.results33 rfl rfl (by kernel_rfl) rfl rfl ⟨trivial, (by repeat (first | exact trivial | refine ⟨⟨_, rfl, BLe.rf⟩, ?_⟩)), (by repeat (first | exact trivial | refine ⟨⟨rfl, by first | (left; intro h; cases h) | (right; rfl), by first | exact (fun _ h => ⟨_, h⟩) | exact (fun _ _ => ⟨_, rfl⟩)⟩, ?_⟩)), rfl⟩ ?_
  refine AW_seq ?_
  refine AW_region ?_
  refine AL_p (x_box 100 rfl rfl rfl rfl rfl rfl rfl) ?_
  refine AL_p (x_box 101 rfl rfl rfl rfl rfl rfl rfl) ?_
  refine AL_p (x_alloc (z := .agg #[.int .i64 0, .slice none 0 0]) 102 rfl (by kernel_rfl) rfl rfl rfl rfl) ?_
  refine AL_nil ?_
  refine AW_seq ?_
  refine AW_region ?_
  refine AL_p (x_field (off := 0) (o' := 0) rfl rfl rfl (by kernel_rfl) rfl) ?_
  refine AL_p (x_load1 rfl rfl rfl (by kernel_rfl) rfl) ?_
  refine AL_p (x_build (zs := [.int .i64 0, .slice none 0 0]) (places := [(0, 1), (1, 1)]) rfl (by kernel_rfl) rfl rfl rfl rfl rfl) ?_
  refine AL_p (x_alloc (z := .agg #[.int .i64 0, .slice none 0 0]) 103 rfl (by kernel_rfl) rfl rfl rfl rfl) ?_
  refine AL_p (x_store (n := 2) rfl rfl rfl rfl (by kernel_rfl) rfl rfl rfl) ?_
  refine AL_nil ?_
  refine AW_seq ?_
  refine AW_seq ?_
  refine AW_region ?_
  refine AL_p (x_field (off := 1) (o' := 1) rfl rfl rfl (by kernel_rfl) rfl) ?_
  refine AL_p (x_load1 rfl rfl rfl (by kernel_rfl) rfl) ?_
  refine AL_p (x_len (E := 72) (n := 1) rfl rfl (by kernel_rfl)) ?_
  refine AL_p (x_move rfl rfl) ?_
  refine AL_nil ?_
  refine AW_block ?_
  refine AW_adopt (T := 72) (e := rowE) 104 103 1 rfl rfl rfl rfl rfl ?_
  refine AW_loop2 (ι := {q : Nat // q ≤ a.rows.length}) (fun p => [(15, .one (.c (.int .i64 ((p.1) : Int))))]) (fun p => [(104, some (.arr 72 rowE (filtTo (fun r => hasRow b.rows r == want) a.rows (p.1)) true))]) [2, 3, 4, 6, 7, 14] [100, 101, 102, 103] (fun p => a.rows.length - (p.1)) ⟨0, by omega⟩ (rn []) ?_ ?_
  exact ⟨by (repeat refine ⟨⟨_, rfl, by first | exact VLe.rf | exact vle_int (by dsimp only; omega)⟩, ?_⟩); exact trivial, by (repeat refine ⟨⟨_, rfl, by first | exact BLe.rf | exact BLe.box AllC.rf | exact BLe.arr (by first | exact filtTo_zero | exact filtTo_yes (by omega) (by simp [h25, h26, h27]) | exact filtTo_no (by omega) (by simp [h25, h26, h27]))⟩, ?_⟩); exact trivial, by repeat (first | exact trivial | refine ⟨⟨rfl, by first | (left; intro h; cases h) | (right; rfl), by first | exact (fun _ h => ⟨_, h⟩) | exact (fun _ _ => ⟨_, rfl⟩)⟩, ?_⟩), rfl⟩
  rintro ⟨k, hinv⟩
  dsimp only
  have hl := ha.1
  refine AW_seq ?_
  refine AW_region ?_
  refine AL_b (x_lss rfl rfl rfl) (fun b16 h16 => ?_)
  refine AL_nil ?_
  refine AW_seq ?_
  cases b16
  · try simp only [tdy] at h16
    refine AW_condF rfl ?_
    refine AW_exit (BQ_hit ?_)
    refine AW_seq ?_
    refine AW_region ?_
    refine AL_p (x_loadN (n := 2) rfl rfl rfl (by kernel_rfl) rfl rfl) ?_
    refine AL_p (x_store (n := 2) rfl rfl rfl rfl (by kernel_rfl) rfl rfl rfl) ?_
    refine AL_nil ?_
    refine AW_ret ?_
    exact ⟨rn [(9, 102), (0, 104)], ⟨⟨⟨_, rfl, VLe.rf⟩, trivial⟩, ⟨⟨_, rfl, by first | exact BLe.rf | (subst_vars; exact BLe.rf)⟩, ⟨_, rfl, BLe.arr (filtTo_all (by omega))⟩, trivial⟩, trivial, rfl⟩⟩
  try simp only [tdy] at h16
  refine AW_condT rfl ?_
  refine AW_skip ?_
  refine AW_seq ?_
  refine AW_block ?_
  refine AW_seq ?_
  refine AW_region ?_
  refine AL_p (x_move rfl rfl) ?_
  refine AL_p (x_assign rfl rfl) ?_
  refine AL_nil ?_
  refine AW_seq ?_
  refine AW_draw rfl ?_
  refine AL_p (x_field (off := 1) (o' := 1) rfl rfl rfl (by kernel_rfl) rfl) ?_
  refine AL_p (x_load1 rfl rfl rfl (by kernel_rfl) rfl) ?_
  refine AL_p (x_field (off := 1) (o' := 1) rfl rfl rfl (by kernel_rfl) rfl) ?_
  refine AL_p (x_load1 rfl rfl rfl (by kernel_rfl) rfl) ?_
  refine AL_p (x_move rfl rfl) ?_
  refine AL_p (x_index (E := 72) (n := 1) rfl rfl rfl (by kernel_rfl) rfl (k := k) (by omega) (by omega)) ?_
  refine AL_p (x_eloadW (n := 1) rfl rfl (by kernel_rfl) rfl) ?_
  refine AL_b (x_call0 rfl rfl rfl (hasS_c _ _ hb.1 fun r hr => (hb.2 r hr).1) rfl rfl) (fun b25 h25 => ?_)
  refine AL_b (x_move rfl rfl) (fun b26 h26 => ?_)
  refine AL_b (x_beql rfl rfl rfl (by kernel_rfl)) (fun b27 h27 => ?_)
  refine AL_nild (by kernel_rfl) ?_
  cases b27
  · try simp only [tdy] at h27
    refine AW_condF rfl ?_
    refine AW_skip ?_
    refine AW_region ?_
    refine AL_p (x_add rfl rfl rfl (IntWalk.i64_in _ (by omega))) ?_
    refine AL_p (x_move rfl rfl) ?_
    refine AL_nil ?_
    refine ⟨⟨k + 1, by omega⟩, rn [], ?_, by dsimp only; omega⟩
    exact ⟨by (repeat refine ⟨⟨_, rfl, by first | exact VLe.rf | exact vle_int (by dsimp only; omega)⟩, ?_⟩); exact trivial, by (repeat refine ⟨⟨_, rfl, by first | exact BLe.rf | exact BLe.box AllC.rf | exact BLe.arr (by first | exact filtTo_zero | exact filtTo_yes (by omega) (by simp [h25, h26, h27]) | exact filtTo_no (by omega) (by simp [h25, h26, h27]))⟩, ?_⟩); exact trivial, by repeat (first | exact trivial | refine ⟨⟨rfl, by first | (left; intro h; cases h) | (right; rfl), by first | exact (fun _ h => ⟨_, h⟩) | exact (fun _ _ => ⟨_, rfl⟩)⟩, ?_⟩), rfl⟩
  try simp only [tdy] at h27
  refine AW_condT rfl ?_
  refine AW_draw rfl ?_
  refine AL_p (x_field (off := 1) (o' := 1) rfl rfl rfl (by kernel_rfl) rfl) ?_
  refine AL_p (x_load1 rfl rfl rfl (by kernel_rfl) rfl) ?_
  refine AL_p (x_field (off := 1) (o' := 1) rfl rfl rfl (by kernel_rfl) rfl) ?_
  refine AL_p (x_load1 rfl rfl rfl (by kernel_rfl) rfl) ?_
  refine AL_p (x_move rfl rfl) ?_
  refine AL_p (x_index (E := 72) (n := 1) rfl rfl rfl (by kernel_rfl) rfl (k := k) (by omega) (by omega)) ?_
  refine AL_p (x_eloadW (n := 1) rfl rfl (by kernel_rfl) rfl) ?_
  refine AL_p (x_call1 rfl rfl rfl (rowS_c (a.rows[k]'(by omega)) (ha.2 _ (List.getElem_mem _)).1 105) rfl rfl rfl rfl) ?_
  refine AL_p (y_bslice (E := 72) (e := rowE) [.tmp 35] ([a.rows[k]'(by omega)]) 106 rfl rfl rfl rfl rfl rfl rfl rfl FitL.rf rfl rfl rfl rfl rfl rfl (by kernel_rfl)) ?_
  refine AL_p (y_append 107 rfl rfl rfl rfl rfl rfl rfl rfl (by kernel_rfl) (by have := filtTo_len (p := (fun r => hasRow b.rows r == want)) (rows := a.rows) (k := k); have := ha.1; simp only [List.length_cons, List.length_nil]; omega)) ?_
  refine AL_p (x_field (off := 1) (o' := 1) rfl rfl rfl (by kernel_rfl) rfl) ?_
  refine AL_p (x_store (n := 1) rfl rfl rfl rfl (by kernel_rfl) rfl rfl rfl) ?_
  refine AL_nild (by kernel_rfl) ?_
  refine AW_region ?_
  refine AL_p (x_add rfl rfl rfl (IntWalk.i64_in _ (by omega))) ?_
  refine AL_p (x_move rfl rfl) ?_
  refine AL_nil ?_
  refine ⟨⟨k + 1, by omega⟩, rn [(104, 107)], ?_, by dsimp only; omega⟩
  exact ⟨by (repeat refine ⟨⟨_, rfl, by first | exact VLe.rf | exact vle_int (by dsimp only; omega)⟩, ?_⟩); exact trivial, by (repeat refine ⟨⟨_, rfl, by first | exact BLe.rf | exact BLe.box AllC.rf | exact BLe.arr (by first | exact filtTo_zero | exact filtTo_yes (by omega) (by simp [h25, h26, h27]) | exact filtTo_no (by omega) (by simp [h25, h26, h27]))⟩, ?_⟩); exact trivial, by repeat (first | exact trivial | refine ⟨⟨rfl, by first | (left; intro h; cases h) | (right; rfl), by first | exact (fun _ h => ⟨_, h⟩) | exact (fun _ _ => ⟨_, rfl⟩)⟩, ?_⟩), rfl⟩
theorem siftS_c (a b : Relt) (want : Bool) (ha : smallRel a) (hb : smallRel b) (k : Nat) : AC Tryz.prog 33 [.agg (relC a), .agg (relC b), .one (.c (.bool want))] [] (.agg [.c (.int .i64 a.arity), .own k]) [(k, some (.arr 72 rowE (a.rows.filter (fun r => hasRow b.rows r == want)) true))] := AC.at (siftS_c0 a b want ha hb) k

set_option maxHeartbeats 4000000 in
theorem bothF_c (b : Relt) (row : List Val) (hl : b.rows.length ≤ 1048576) (hs : Sorted b.rows) (hr : ∀ v ∈ row, valOk v = true) : AC Tryz.prog 102 [.agg (rowC row), .one (.ptr 200 0)] [(200, some (.box (relC b)))] (.one (.c (.bool ((fun row => hasRow b.rows row) row)))) [(200, some (.box (relC b)))] := by
  refine AC_body1 Tryz.func102 rfl rfl Tryz.ntmps102 rfl Tryz.results102 ?_
  refine AW_seq ?_
  refine AW_region ?_
  refine AL_p (x_box 100 rfl rfl rfl rfl rfl rfl rfl) ?_
  refine AL_p (x_assign rfl rfl) ?_
  refine AL_nil ?_
  refine AW_seq ?_
  refine AW_region ?_
  refine AL_p (x_loadN (n := 2) rfl rfl rfl (by kernel_rfl) rfl rfl) ?_
  refine AL_p (x_loadN (n := 1) rfl rfl rfl (by kernel_rfl) rfl rfl) ?_
  refine AL_b (x_call0 rfl rfl rfl (has_c b row hl hs hr) rfl rfl) (fun b6 h6 => ?_)
  refine AL_p (x_assign rfl rfl) ?_
  refine AL_nil ?_
  refine AW_ret ?_
  cases b6
  rotate_left
  · try simp only [tdy] at h6
    exact ⟨rn [], ⟨⟨⟨_, rfl, vle_bool (by first | simp [h8] | simp [h7] | simp [h6] | simp [h9])⟩, trivial⟩, ⟨⟨_, rfl, BLe.rf⟩, trivial⟩, by repeat (first | exact trivial | refine ⟨⟨rfl, by first | (left; intro h; cases h) | (right; rfl), by first | exact (fun _ h => ⟨_, h⟩) | exact (fun _ _ => ⟨_, rfl⟩)⟩, ?_⟩), rfl⟩⟩
  try simp only [tdy] at h6
  exact ⟨rn [], ⟨⟨⟨_, rfl, vle_bool (by first | simp [h8] | simp [h7] | simp [h6] | simp [h9])⟩, trivial⟩, ⟨⟨_, rfl, BLe.rf⟩, trivial⟩, by repeat (first | exact trivial | refine ⟨⟨rfl, by first | (left; intro h; cases h) | (right; rfl), by first | exact (fun _ h => ⟨_, h⟩) | exact (fun _ _ => ⟨_, rfl⟩)⟩, ?_⟩), rfl⟩⟩

set_option maxHeartbeats 4000000 in
theorem bothP_c (a b : Relt) (ha : smallRel a) (hb : b.rows.length ≤ 1048576) (hs : Sorted b.rows) (hv : ∀ r ∈ a.rows, ∀ v ∈ r, valOk v = true) : AC Tryz.prog 86 [.agg (relC a), .one (.clo 102 [200])] [(200, some (.box (relC b)))] (.agg [.c (.int .i64 a.arity), .own 0]) ([(200, some (.box (relC b)))] ++ [(0, some (.arr 72 rowE (a.rows.filter (fun row => hasRow b.rows row)) true))]) := by
  refine AC_bodyC (n := 2) (k := 9) (T := [(4, .one (.ptr 9 0))]) (Lf := ((9, some (.box [.c (.int .i64 a.arity), .own 0])) :: ([(200, some (.box (relC b)))] ++ [(0, some (.arr 72 rowE (a.rows.filter (fun row => hasRow b.rows row)) true))]))) Tryz.func86 rfl rfl Tryz.ntmps86 rfl Tryz.results86 rfl rfl (by kernel_rfl) rfl rfl ⟨trivial, (by repeat (first | exact trivial | refine ⟨⟨_, rfl, BLe.rf⟩, ?_⟩)), (by repeat (first | exact trivial | refine ⟨⟨rfl, by first | (left; intro h; cases h) | (right; rfl), by first | exact (fun _ h => ⟨_, h⟩) | exact (fun _ _ => ⟨_, rfl⟩)⟩, ?_⟩)), rfl⟩ ?_
  refine AW_seq ?_
  refine AW_region ?_
  refine AL_p (x_box 100 rfl rfl rfl rfl rfl rfl rfl) ?_
  refine AL_p (x_alloc (z := .agg #[.int .i64 0, .slice none 0 0]) 101 rfl (by kernel_rfl) rfl rfl rfl rfl) ?_
  refine AL_nil ?_
  refine AW_seq ?_
  refine AW_region ?_
  refine AL_p (x_field (off := 0) (o' := 0) rfl rfl rfl (by kernel_rfl) rfl) ?_
  refine AL_p (x_load1 rfl rfl rfl (by kernel_rfl) rfl) ?_
  refine AL_p (x_build (zs := [.int .i64 0, .slice none 0 0]) (places := [(0, 1), (1, 1)]) rfl (by kernel_rfl) rfl rfl rfl rfl rfl) ?_
  refine AL_p (x_alloc (z := .agg #[.int .i64 0, .slice none 0 0]) 102 rfl (by kernel_rfl) rfl rfl rfl rfl) ?_
  refine AL_p (x_store (n := 2) rfl rfl rfl rfl (by kernel_rfl) rfl rfl rfl) ?_
  refine AL_nil ?_
  refine AW_seq ?_
  refine AW_seq ?_
  refine AW_region ?_
  refine AL_p (x_field (off := 1) (o' := 1) rfl rfl rfl (by kernel_rfl) rfl) ?_
  refine AL_p (x_load1 rfl rfl rfl (by kernel_rfl) rfl) ?_
  refine AL_p (x_len (E := 72) (n := 1) rfl rfl (by kernel_rfl)) ?_
  refine AL_p (x_move rfl rfl) ?_
  refine AL_nil ?_
  refine AW_block ?_
  refine AW_adopt (T := 72) (e := rowE) 103 102 1 rfl rfl rfl rfl rfl ?_
  refine AW_loop2 (ι := {q : Nat // q ≤ a.rows.length}) (fun p => [(14, .one (.c (.int .i64 ((p.1) : Int))))]) (fun p => [(103, some (.arr 72 rowE (filtTo (fun row => hasRow b.rows row) a.rows (p.1)) true))]) [1, 4, 5, 12, 13] [100, 101, 102, 200] (fun p => a.rows.length - (p.1)) ⟨0, by omega⟩ (rn []) ?_ ?_
  exact ⟨by (repeat refine ⟨⟨_, rfl, by first | exact VLe.rf | exact vle_int (by dsimp only; omega)⟩, ?_⟩); exact trivial, by (repeat refine ⟨⟨_, rfl, by first | exact BLe.rf | exact BLe.box AllC.rf | exact BLe.arr (by first | exact filtTo_zero | exact filtTo_yes (by omega) (by simpa using h20) | exact filtTo_no (by omega) (by simpa using h20))⟩, ?_⟩); exact trivial, by repeat (first | exact trivial | refine ⟨⟨rfl, by first | (left; intro h; cases h) | (right; rfl), by first | exact (fun _ h => ⟨_, h⟩) | exact (fun _ _ => ⟨_, rfl⟩)⟩, ?_⟩), rfl⟩
  rintro ⟨k, hinv⟩
  dsimp only
  have hl := ha.1
  refine AW_seq ?_
  refine AW_region ?_
  refine AL_b (x_lss rfl rfl rfl) (fun b15 h15 => ?_)
  refine AL_nil ?_
  refine AW_seq ?_
  cases b15
  · try simp only [tdy] at h15
    refine AW_condF rfl ?_
    refine AW_exit (BQ_hit ?_)
    refine AW_seq ?_
    refine AW_region ?_
    refine AL_p (x_loadN (n := 2) rfl rfl rfl (by kernel_rfl) rfl rfl) ?_
    refine AL_p (x_store (n := 2) rfl rfl rfl rfl (by kernel_rfl) rfl rfl rfl) ?_
    refine AL_nil ?_
    refine AW_ret ?_
    exact ⟨rn [(9, 101), (0, 103)], ⟨⟨⟨_, rfl, VLe.rf⟩, trivial⟩, ⟨⟨_, rfl, BLe.rf⟩, ⟨_, rfl, BLe.rf⟩, ⟨_, rfl, BLe.arr (filtTo_all (by omega))⟩, trivial⟩, by repeat (first | exact trivial | refine ⟨⟨rfl, by first | (left; intro h; cases h) | (right; rfl), by first | exact (fun _ h => ⟨_, h⟩) | exact (fun _ _ => ⟨_, rfl⟩)⟩, ?_⟩), rfl⟩⟩
  try simp only [tdy] at h15
  refine AW_condT rfl ?_
  refine AW_skip ?_
  refine AW_seq ?_
  refine AW_block ?_
  refine AW_seq ?_
  refine AW_region ?_
  refine AL_p (x_index (E := 72) (n := 1) rfl rfl rfl (by kernel_rfl) rfl (k := k) (by omega) (by omega)) ?_
  refine AL_p (x_eloadW (n := 1) rfl rfl (by kernel_rfl) rfl) ?_
  refine AL_p (x_alloc (z := .agg #[.slice none 0 0]) 104 rfl (by kernel_rfl) rfl rfl rfl rfl) ?_
  refine AL_p (x_store (n := 1) rfl rfl rfl rfl (by kernel_rfl) rfl rfl rfl) ?_
  refine AL_nil ?_
  refine AW_seq ?_
  refine AW_region ?_
  refine AL_p (x_move rfl rfl) ?_
  refine AL_p (x_loadN (n := 1) rfl rfl rfl (by kernel_rfl) rfl rfl) ?_
  refine AL_bc (x_call (ks := [200]) (L := [(200, some (.box (relC b)))]) (L' := [(200, some (.box (relC b)))]) rfl rfl rfl (bothF_c b (a.rows[k]'(by omega)) hb hs (hv _ (List.getElem_mem _))) rfl AllV.rf (caught_of rfl) rfl rfl rfl (by repeat (first | exact trivial | refine ⟨rfl, ?_⟩)) rfl) (fun b20 h20 => ?_)
  refine AL_nil ?_
  cases b20
  · try simp only [tdy] at h20
    refine AW_condF rfl ?_
    refine AW_skip ?_
    refine AW_region ?_
    refine AL_p (x_add rfl rfl rfl (IntWalk.i64_in _ (by omega))) ?_
    refine AL_p (x_move rfl rfl) ?_
    refine AL_nil ?_
    refine ⟨⟨k + 1, by omega⟩, rn [], ?_, by dsimp only; omega⟩
    exact ⟨by (repeat refine ⟨⟨_, rfl, by first | exact VLe.rf | exact vle_int (by dsimp only; omega)⟩, ?_⟩); exact trivial, by (repeat refine ⟨⟨_, rfl, by first | exact BLe.rf | exact BLe.box AllC.rf | exact BLe.arr (by first | exact filtTo_zero | exact filtTo_yes (by omega) (by simpa using h20) | exact filtTo_no (by omega) (by simpa using h20))⟩, ?_⟩); exact trivial, by repeat (first | exact trivial | refine ⟨⟨rfl, by first | (left; intro h; cases h) | (right; rfl), by first | exact (fun _ h => ⟨_, h⟩) | exact (fun _ _ => ⟨_, rfl⟩)⟩, ?_⟩), rfl⟩
  try simp only [tdy] at h20
  refine AW_condT rfl ?_
  refine AW_draw rfl ?_
  refine AL_p (x_field (off := 1) (o' := 1) rfl rfl rfl (by kernel_rfl) rfl) ?_
  refine AL_p (x_load1 rfl rfl rfl (by kernel_rfl) rfl) ?_
  refine AL_p (x_loadN (n := 1) rfl rfl rfl (by kernel_rfl) rfl rfl) ?_
  refine AL_p (x_call1 rfl rfl rfl (rowI_c (a.rows[k]'(by omega)) (ha.2 _ (List.getElem_mem _)).1 105) rfl rfl rfl rfl) ?_
  refine AL_p (y_bslice (E := 72) (e := rowE) [.tmp 24] ([a.rows[k]'(by omega)]) 106 rfl rfl rfl rfl rfl rfl rfl rfl FitL.rf rfl rfl rfl rfl rfl rfl (by kernel_rfl)) ?_
  refine AL_p (y_append 107 rfl rfl rfl rfl rfl rfl rfl rfl (by kernel_rfl) (by have := filtTo_len (p := (fun row => hasRow b.rows row)) (rows := a.rows) (k := k); have := ha.1; simp only [List.length_cons, List.length_nil]; omega)) ?_
  refine AL_p (x_field (off := 1) (o' := 1) rfl rfl rfl (by kernel_rfl) rfl) ?_
  refine AL_p (x_store (n := 1) rfl rfl rfl rfl (by kernel_rfl) rfl rfl rfl) ?_
  refine AL_nild (by kernel_rfl) ?_
  refine AW_region ?_
  refine AL_p (x_add rfl rfl rfl (IntWalk.i64_in _ (by omega))) ?_
  refine AL_p (x_move rfl rfl) ?_
  refine AL_nil ?_
  refine ⟨⟨k + 1, by omega⟩, rn [(103, 107)], ?_, by dsimp only; omega⟩
  exact ⟨by (repeat refine ⟨⟨_, rfl, by first | exact VLe.rf | exact vle_int (by dsimp only; omega)⟩, ?_⟩); exact trivial, by (repeat refine ⟨⟨_, rfl, by first | exact BLe.rf | exact BLe.box AllC.rf | exact BLe.arr (by first | exact filtTo_zero | exact filtTo_yes (by omega) (by simpa using h20) | exact filtTo_no (by omega) (by simpa using h20))⟩, ?_⟩); exact trivial, by repeat (first | exact trivial | refine ⟨⟨rfl, by first | (left; intro h; cases h) | (right; rfl), by first | exact (fun _ h => ⟨_, h⟩) | exact (fun _ _ => ⟨_, rfl⟩)⟩, ?_⟩), rfl⟩

set_option maxHeartbeats 4000000 in
theorem bothalike_c (a b : Relt) (ha : smallRel a) (hb : smallRel b) : AC Tryz.prog 71 [.agg (relC a), .agg (relC b)] [] (.one (.c (.bool (two a b)))) [] := by
  refine AC_body1 Tryz.func71 rfl rfl Tryz.ntmps71 rfl Tryz.results71 ?_
  refine AW_seq ?_
  refine AW_region ?_
  refine AL_p (x_box 100 rfl rfl rfl rfl rfl rfl rfl) ?_
  refine AL_p (x_box 101 rfl rfl rfl rfl rfl rfl rfl) ?_
  refine AL_p (x_assign rfl rfl) ?_
  refine AL_nil ?_
  refine AW_seq ?_
  refine AW_region ?_
  refine AL_p (x_loadN (n := 2) rfl rfl rfl (by kernel_rfl) rfl rfl) ?_
  refine AL_b (x_call0 rfl rfl rfl (relOkI_c _ (by first | exact ha.1 | exact hb.1)) rfl rfl) (fun b6 h6 => ?_)
  refine AL_p (x_move rfl rfl) ?_
  cases b6
  · try simp only [tdy] at h6
    refine AL_o rfl rfl rfl rfl ?_
    refine AL_o rfl rfl rfl rfl ?_
    refine AL_p (x_pickF rfl rfl rfl) ?_
    refine AL_p (x_move rfl rfl) ?_
    refine AL_o rfl rfl rfl rfl ?_
    refine AL_o rfl rfl rfl rfl ?_
    refine AL_o rfl rfl rfl rfl ?_
    refine AL_o rfl rfl rfl rfl ?_
    refine AL_o rfl rfl rfl rfl ?_
    refine AL_p (x_pickF rfl rfl rfl) ?_
    refine AL_p (x_assign rfl rfl) ?_
    refine AL_nil ?_
    refine AW_ret ?_
    exact ⟨rn [], ⟨⟨⟨_, rfl, vle_bool (by first | exact (two_a h6).symm | exact (two_b h9).symm | ((rw [two_ok h6 h9]; simp [h16])) | ((simp [two, *])))⟩, trivial⟩, trivial, trivial, rfl⟩⟩
  try simp only [tdy] at h6
  refine AL_g rfl rfl (x_loadN (n := 2) rfl rfl rfl (by kernel_rfl) rfl rfl) ?_
  refine AL_gb rfl rfl (x_call0 rfl rfl rfl (relOkI_c _ (by first | exact ha.1 | exact hb.1)) rfl rfl) (fun b9 h9 => ?_)
  refine AL_p (x_pickT rfl rfl rfl) ?_
  refine AL_p (x_move rfl rfl) ?_
  cases b9
  · try simp only [tdy] at h9
    refine AL_o rfl rfl rfl rfl ?_
    refine AL_o rfl rfl rfl rfl ?_
    refine AL_o rfl rfl rfl rfl ?_
    refine AL_o rfl rfl rfl rfl ?_
    refine AL_o rfl rfl rfl rfl ?_
    refine AL_p (x_pickF rfl rfl rfl) ?_
    refine AL_p (x_assign rfl rfl) ?_
    refine AL_nil ?_
    refine AW_ret ?_
    exact ⟨rn [], ⟨⟨⟨_, rfl, vle_bool (by first | exact (two_a h6).symm | exact (two_b h9).symm | ((rw [two_ok h6 h9]; simp [h16])) | ((simp [two, *])))⟩, trivial⟩, trivial, trivial, rfl⟩⟩
  try simp only [tdy] at h9
  refine AL_g rfl rfl (x_field (off := 0) (o' := 0) rfl rfl rfl (by kernel_rfl) rfl) ?_
  refine AL_g rfl rfl (x_load1 rfl rfl rfl (by kernel_rfl) rfl) ?_
  refine AL_g rfl rfl (x_field (off := 0) (o' := 0) rfl rfl rfl (by kernel_rfl) rfl) ?_
  refine AL_g rfl rfl (x_load1 rfl rfl rfl (by kernel_rfl) rfl) ?_
  refine AL_gb rfl rfl (x_eql rfl rfl rfl) (fun b16 h16 => ?_)
  refine AL_p (x_pickT rfl rfl rfl) ?_
  refine AL_p (x_assign rfl rfl) ?_
  refine AL_nil ?_
  refine AW_ret ?_
  cases b16
  rotate_left
  · try simp only [tdy] at h16
    exact ⟨rn [], ⟨⟨⟨_, rfl, vle_bool (by first | exact (two_a h6).symm | exact (two_b h9).symm | ((rw [two_ok h6 h9]; simp [h16])) | ((simp [two, *])))⟩, trivial⟩, trivial, trivial, rfl⟩⟩
  try simp only [tdy] at h16
  exact ⟨rn [], ⟨⟨⟨_, rfl, vle_bool (by first | exact (two_a h6).symm | exact (two_b h9).symm | ((rw [two_ok h6 h9]; simp [h16])) | ((simp [two, *])))⟩, trivial⟩, trivial, trivial, rfl⟩⟩

set_option maxHeartbeats 4000000 in
theorem bothI_c0 (a b : Relt) (ha : smallRel a) (hb : b.rows.length ≤ 1048576) (hs : Sorted b.rows) (hv : ∀ r ∈ a.rows, ∀ v ∈ r, valOk v = true) : AC Tryz.prog 60 [.agg (relC a), .agg (relC b)] [] (.agg [.c (.int .i64 a.arity), .own 0]) [(0, some (.arr 72 rowE (a.rows.filter (fun row => hasRow b.rows row)) true))] := by
  refine AC_bodyC (n := 2) (k := 9) (T := [(4, .one (.ptr 9 0))]) (Lf := ((9, some (.box [.c (.int .i64 a.arity), .own 0])) :: [(0, some (.arr 72 rowE (a.rows.filter (fun row => hasRow b.rows row)) true))])) Tryz.func60 rfl rfl Tryz.ntmps60 rfl Tryz.results60 rfl rfl (by kernel_rfl) rfl rfl ⟨trivial, (by repeat (first | exact trivial | refine ⟨⟨_, rfl, BLe.rf⟩, ?_⟩)), (by repeat (first | exact trivial | refine ⟨⟨rfl, by first | (left; intro h; cases h) | (right; rfl), by first | exact (fun _ h => ⟨_, h⟩) | exact (fun _ _ => ⟨_, rfl⟩)⟩, ?_⟩)), rfl⟩ ?_
  refine AW_seq ?_
  refine AW_region ?_
  refine AL_p (x_box 100 rfl rfl rfl rfl rfl rfl rfl) ?_
  refine AL_p (x_box 200 rfl rfl rfl rfl rfl rfl rfl) ?_
  refine AL_p (x_alloc (z := .agg #[.int .i64 0, .slice none 0 0]) 101 rfl (by kernel_rfl) rfl rfl rfl rfl) ?_
  refine AL_nil ?_
  refine AW_seq ?_
  refine AW_region ?_
  refine AL_p (x_loadN (n := 2) rfl rfl rfl (by kernel_rfl) rfl rfl) ?_
  refine AL_p (x_makeFunc (ks := [200]) rfl rfl) ?_
  refine AL_p (x_call (ks := []) (L := [(200, some (.box (relC b)))]) (L' := [(200, some (.box (relC b))), (0, some (.arr 72 rowE (a.rows.filter (fun row => hasRow b.rows row)) true))]) rfl rfl rfl (bothP_c a b ha hb hs hv) rfl AllV.rf (caught_of rfl) rfl rfl rfl (by repeat (first | exact trivial | refine ⟨rfl, ?_⟩)) rfl) ?_
  refine AL_p (x_store (n := 2) rfl rfl rfl rfl (by kernel_rfl) rfl rfl rfl) ?_
  refine AL_nil ?_
  refine AW_ret ?_
  exact ⟨rn [(9, 101), (0, 0)], ⟨⟨⟨_, rfl, VLe.rf⟩, trivial⟩, ⟨⟨_, rfl, by first | exact BLe.rf | (subst_vars; exact BLe.rf)⟩, ⟨_, rfl, BLe.rf⟩, trivial⟩, trivial, rfl⟩⟩
theorem bothI_c (a b : Relt) (ha : smallRel a) (hb : b.rows.length ≤ 1048576) (hs : Sorted b.rows) (hv : ∀ r ∈ a.rows, ∀ v ∈ r, valOk v = true) (k : Nat) : AC Tryz.prog 60 [.agg (relC a), .agg (relC b)] [] (.agg [.c (.int .i64 a.arity), .own k]) [(k, some (.arr 72 rowE (a.rows.filter (fun row => hasRow b.rows row)) true))] := AC.at (bothI_c0 a b ha hb hs hv) k


set_option maxHeartbeats 4000000 in
theorem minusF_c (b : Relt) (row : List Val) (hl : b.rows.length ≤ 1048576) (hs : Sorted b.rows) (hr : ∀ v ∈ row, valOk v = true) : AC Tryz.prog 87 [.agg (rowC row), .one (.ptr 200 0)] [(200, some (.box (relC b)))] (.one (.c (.bool ((fun row => !hasRow b.rows row) row)))) [(200, some (.box (relC b)))] := by
  refine AC_body1 Tryz.func87 rfl rfl Tryz.ntmps87 rfl Tryz.results87 ?_
  refine AW_seq ?_
  refine AW_region ?_
  refine AL_p (x_box 100 rfl rfl rfl rfl rfl rfl rfl) ?_
  refine AL_p (x_assign rfl rfl) ?_
  refine AL_nil ?_
  refine AW_seq ?_
  refine AW_region ?_
  refine AL_p (x_loadN (n := 2) rfl rfl rfl (by kernel_rfl) rfl rfl) ?_
  refine AL_p (x_loadN (n := 1) rfl rfl rfl (by kernel_rfl) rfl rfl) ?_
  refine AL_b (x_call0 rfl rfl rfl (has_c b row hl hs hr) rfl rfl) (fun b6 h6 => ?_)
  refine AL_p (x_not rfl rfl) ?_
  refine AL_p (x_assign rfl rfl) ?_
  refine AL_nil ?_
  refine AW_ret ?_
  cases b6
  rotate_left
  · try simp only [tdy] at h6
    exact ⟨rn [], ⟨⟨⟨_, rfl, vle_bool (by first | simp [h8] | simp [h7] | simp [h6] | simp [h9])⟩, trivial⟩, ⟨⟨_, rfl, BLe.rf⟩, trivial⟩, by repeat (first | exact trivial | refine ⟨⟨rfl, by first | (left; intro h; cases h) | (right; rfl), by first | exact (fun _ h => ⟨_, h⟩) | exact (fun _ _ => ⟨_, rfl⟩)⟩, ?_⟩), rfl⟩⟩
  try simp only [tdy] at h6
  exact ⟨rn [], ⟨⟨⟨_, rfl, vle_bool (by first | simp [h8] | simp [h7] | simp [h6] | simp [h9])⟩, trivial⟩, ⟨⟨_, rfl, BLe.rf⟩, trivial⟩, by repeat (first | exact trivial | refine ⟨⟨rfl, by first | (left; intro h; cases h) | (right; rfl), by first | exact (fun _ h => ⟨_, h⟩) | exact (fun _ _ => ⟨_, rfl⟩)⟩, ?_⟩), rfl⟩⟩

set_option maxHeartbeats 4000000 in
theorem minusP_c (a b : Relt) (ha : smallRel a) (hb : b.rows.length ≤ 1048576) (hs : Sorted b.rows) (hv : ∀ r ∈ a.rows, ∀ v ∈ r, valOk v = true) : AC Tryz.prog 86 [.agg (relC a), .one (.clo 87 [200])] [(200, some (.box (relC b)))] (.agg [.c (.int .i64 a.arity), .own 0]) ([(200, some (.box (relC b)))] ++ [(0, some (.arr 72 rowE (a.rows.filter (fun row => !hasRow b.rows row)) true))]) := by
  refine AC_bodyC (n := 2) (k := 9) (T := [(4, .one (.ptr 9 0))]) (Lf := ((9, some (.box [.c (.int .i64 a.arity), .own 0])) :: ([(200, some (.box (relC b)))] ++ [(0, some (.arr 72 rowE (a.rows.filter (fun row => !hasRow b.rows row)) true))]))) Tryz.func86 rfl rfl Tryz.ntmps86 rfl Tryz.results86 rfl rfl (by kernel_rfl) rfl rfl ⟨trivial, (by repeat (first | exact trivial | refine ⟨⟨_, rfl, BLe.rf⟩, ?_⟩)), (by repeat (first | exact trivial | refine ⟨⟨rfl, by first | (left; intro h; cases h) | (right; rfl), by first | exact (fun _ h => ⟨_, h⟩) | exact (fun _ _ => ⟨_, rfl⟩)⟩, ?_⟩)), rfl⟩ ?_
  refine AW_seq ?_
  refine AW_region ?_
  refine AL_p (x_box 100 rfl rfl rfl rfl rfl rfl rfl) ?_
  refine AL_p (x_alloc (z := .agg #[.int .i64 0, .slice none 0 0]) 101 rfl (by kernel_rfl) rfl rfl rfl rfl) ?_
  refine AL_nil ?_
  refine AW_seq ?_
  refine AW_region ?_
  refine AL_p (x_field (off := 0) (o' := 0) rfl rfl rfl (by kernel_rfl) rfl) ?_
  refine AL_p (x_load1 rfl rfl rfl (by kernel_rfl) rfl) ?_
  refine AL_p (x_build (zs := [.int .i64 0, .slice none 0 0]) (places := [(0, 1), (1, 1)]) rfl (by kernel_rfl) rfl rfl rfl rfl rfl) ?_
  refine AL_p (x_alloc (z := .agg #[.int .i64 0, .slice none 0 0]) 102 rfl (by kernel_rfl) rfl rfl rfl rfl) ?_
  refine AL_p (x_store (n := 2) rfl rfl rfl rfl (by kernel_rfl) rfl rfl rfl) ?_
  refine AL_nil ?_
  refine AW_seq ?_
  refine AW_seq ?_
  refine AW_region ?_
  refine AL_p (x_field (off := 1) (o' := 1) rfl rfl rfl (by kernel_rfl) rfl) ?_
  refine AL_p (x_load1 rfl rfl rfl (by kernel_rfl) rfl) ?_
  refine AL_p (x_len (E := 72) (n := 1) rfl rfl (by kernel_rfl)) ?_
  refine AL_p (x_move rfl rfl) ?_
  refine AL_nil ?_
  refine AW_block ?_
  refine AW_adopt (T := 72) (e := rowE) 103 102 1 rfl rfl rfl rfl rfl ?_
  refine AW_loop2 (ι := {q : Nat // q ≤ a.rows.length}) (fun p => [(14, .one (.c (.int .i64 ((p.1) : Int))))]) (fun p => [(103, some (.arr 72 rowE (filtTo (fun row => !hasRow b.rows row) a.rows (p.1)) true))]) [1, 4, 5, 12, 13] [100, 101, 102, 200] (fun p => a.rows.length - (p.1)) ⟨0, by omega⟩ (rn []) ?_ ?_
  exact ⟨by (repeat refine ⟨⟨_, rfl, by first | exact VLe.rf | exact vle_int (by dsimp only; omega)⟩, ?_⟩); exact trivial, by (repeat refine ⟨⟨_, rfl, by first | exact BLe.rf | exact BLe.box AllC.rf | exact BLe.arr (by first | exact filtTo_zero | exact filtTo_yes (by omega) (by simpa using h20) | exact filtTo_no (by omega) (by simpa using h20))⟩, ?_⟩); exact trivial, by repeat (first | exact trivial | refine ⟨⟨rfl, by first | (left; intro h; cases h) | (right; rfl), by first | exact (fun _ h => ⟨_, h⟩) | exact (fun _ _ => ⟨_, rfl⟩)⟩, ?_⟩), rfl⟩
  rintro ⟨k, hinv⟩
  dsimp only
  have hl := ha.1
  refine AW_seq ?_
  refine AW_region ?_
  refine AL_b (x_lss rfl rfl rfl) (fun b15 h15 => ?_)
  refine AL_nil ?_
  refine AW_seq ?_
  cases b15
  · try simp only [tdy] at h15
    refine AW_condF rfl ?_
    refine AW_exit (BQ_hit ?_)
    refine AW_seq ?_
    refine AW_region ?_
    refine AL_p (x_loadN (n := 2) rfl rfl rfl (by kernel_rfl) rfl rfl) ?_
    refine AL_p (x_store (n := 2) rfl rfl rfl rfl (by kernel_rfl) rfl rfl rfl) ?_
    refine AL_nil ?_
    refine AW_ret ?_
    exact ⟨rn [(9, 101), (0, 103)], ⟨⟨⟨_, rfl, VLe.rf⟩, trivial⟩, ⟨⟨_, rfl, BLe.rf⟩, ⟨_, rfl, BLe.rf⟩, ⟨_, rfl, BLe.arr (filtTo_all (by omega))⟩, trivial⟩, by repeat (first | exact trivial | refine ⟨⟨rfl, by first | (left; intro h; cases h) | (right; rfl), by first | exact (fun _ h => ⟨_, h⟩) | exact (fun _ _ => ⟨_, rfl⟩)⟩, ?_⟩), rfl⟩⟩
  try simp only [tdy] at h15
  refine AW_condT rfl ?_
  refine AW_skip ?_
  refine AW_seq ?_
  refine AW_block ?_
  refine AW_seq ?_
  refine AW_region ?_
  refine AL_p (x_index (E := 72) (n := 1) rfl rfl rfl (by kernel_rfl) rfl (k := k) (by omega) (by omega)) ?_
  refine AL_p (x_eloadW (n := 1) rfl rfl (by kernel_rfl) rfl) ?_
  refine AL_p (x_alloc (z := .agg #[.slice none 0 0]) 104 rfl (by kernel_rfl) rfl rfl rfl rfl) ?_
  refine AL_p (x_store (n := 1) rfl rfl rfl rfl (by kernel_rfl) rfl rfl rfl) ?_
  refine AL_nil ?_
  refine AW_seq ?_
  refine AW_region ?_
  refine AL_p (x_move rfl rfl) ?_
  refine AL_p (x_loadN (n := 1) rfl rfl rfl (by kernel_rfl) rfl rfl) ?_
  refine AL_bc (x_call (ks := [200]) (L := [(200, some (.box (relC b)))]) (L' := [(200, some (.box (relC b)))]) rfl rfl rfl (minusF_c b (a.rows[k]'(by omega)) hb hs (hv _ (List.getElem_mem _))) rfl AllV.rf (caught_of rfl) rfl rfl rfl (by repeat (first | exact trivial | refine ⟨rfl, ?_⟩)) rfl) (fun b20 h20 => ?_)
  refine AL_nil ?_
  cases b20
  · try simp only [tdy] at h20
    refine AW_condF rfl ?_
    refine AW_skip ?_
    refine AW_region ?_
    refine AL_p (x_add rfl rfl rfl (IntWalk.i64_in _ (by omega))) ?_
    refine AL_p (x_move rfl rfl) ?_
    refine AL_nil ?_
    refine ⟨⟨k + 1, by omega⟩, rn [], ?_, by dsimp only; omega⟩
    exact ⟨by (repeat refine ⟨⟨_, rfl, by first | exact VLe.rf | exact vle_int (by dsimp only; omega)⟩, ?_⟩); exact trivial, by (repeat refine ⟨⟨_, rfl, by first | exact BLe.rf | exact BLe.box AllC.rf | exact BLe.arr (by first | exact filtTo_zero | exact filtTo_yes (by omega) (by simpa using h20) | exact filtTo_no (by omega) (by simpa using h20))⟩, ?_⟩); exact trivial, by repeat (first | exact trivial | refine ⟨⟨rfl, by first | (left; intro h; cases h) | (right; rfl), by first | exact (fun _ h => ⟨_, h⟩) | exact (fun _ _ => ⟨_, rfl⟩)⟩, ?_⟩), rfl⟩
  try simp only [tdy] at h20
  refine AW_condT rfl ?_
  refine AW_draw rfl ?_
  refine AL_p (x_field (off := 1) (o' := 1) rfl rfl rfl (by kernel_rfl) rfl) ?_
  refine AL_p (x_load1 rfl rfl rfl (by kernel_rfl) rfl) ?_
  refine AL_p (x_loadN (n := 1) rfl rfl rfl (by kernel_rfl) rfl rfl) ?_
  refine AL_p (x_call1 rfl rfl rfl (rowI_c (a.rows[k]'(by omega)) (ha.2 _ (List.getElem_mem _)).1 105) rfl rfl rfl rfl) ?_
  refine AL_p (y_bslice (E := 72) (e := rowE) [.tmp 24] ([a.rows[k]'(by omega)]) 106 rfl rfl rfl rfl rfl rfl rfl rfl FitL.rf rfl rfl rfl rfl rfl rfl (by kernel_rfl)) ?_
  refine AL_p (y_append 107 rfl rfl rfl rfl rfl rfl rfl rfl (by kernel_rfl) (by have := filtTo_len (p := (fun row => !hasRow b.rows row)) (rows := a.rows) (k := k); have := ha.1; simp only [List.length_cons, List.length_nil]; omega)) ?_
  refine AL_p (x_field (off := 1) (o' := 1) rfl rfl rfl (by kernel_rfl) rfl) ?_
  refine AL_p (x_store (n := 1) rfl rfl rfl rfl (by kernel_rfl) rfl rfl rfl) ?_
  refine AL_nild (by kernel_rfl) ?_
  refine AW_region ?_
  refine AL_p (x_add rfl rfl rfl (IntWalk.i64_in _ (by omega))) ?_
  refine AL_p (x_move rfl rfl) ?_
  refine AL_nil ?_
  refine ⟨⟨k + 1, by omega⟩, rn [(103, 107)], ?_, by dsimp only; omega⟩
  exact ⟨by (repeat refine ⟨⟨_, rfl, by first | exact VLe.rf | exact vle_int (by dsimp only; omega)⟩, ?_⟩); exact trivial, by (repeat refine ⟨⟨_, rfl, by first | exact BLe.rf | exact BLe.box AllC.rf | exact BLe.arr (by first | exact filtTo_zero | exact filtTo_yes (by omega) (by simpa using h20) | exact filtTo_no (by omega) (by simpa using h20))⟩, ?_⟩); exact trivial, by repeat (first | exact trivial | refine ⟨⟨rfl, by first | (left; intro h; cases h) | (right; rfl), by first | exact (fun _ h => ⟨_, h⟩) | exact (fun _ _ => ⟨_, rfl⟩)⟩, ?_⟩), rfl⟩

set_option maxHeartbeats 4000000 in
theorem minusI_c0 (a b : Relt) (ha : smallRel a) (hb : b.rows.length ≤ 1048576) (hs : Sorted b.rows) (hv : ∀ r ∈ a.rows, ∀ v ∈ r, valOk v = true) : AC Tryz.prog 43 [.agg (relC a), .agg (relC b)] [] (.agg [.c (.int .i64 a.arity), .own 0]) [(0, some (.arr 72 rowE (a.rows.filter (fun row => !hasRow b.rows row)) true))] := by
  refine AC_bodyC (n := 2) (k := 9) (T := [(4, .one (.ptr 9 0))]) (Lf := ((9, some (.box [.c (.int .i64 a.arity), .own 0])) :: [(0, some (.arr 72 rowE (a.rows.filter (fun row => !hasRow b.rows row)) true))])) Tryz.func43 rfl rfl Tryz.ntmps43 rfl Tryz.results43 rfl rfl (by kernel_rfl) rfl rfl ⟨trivial, (by repeat (first | exact trivial | refine ⟨⟨_, rfl, BLe.rf⟩, ?_⟩)), (by repeat (first | exact trivial | refine ⟨⟨rfl, by first | (left; intro h; cases h) | (right; rfl), by first | exact (fun _ h => ⟨_, h⟩) | exact (fun _ _ => ⟨_, rfl⟩)⟩, ?_⟩)), rfl⟩ ?_
  refine AW_seq ?_
  refine AW_region ?_
  refine AL_p (x_box 100 rfl rfl rfl rfl rfl rfl rfl) ?_
  refine AL_p (x_box 200 rfl rfl rfl rfl rfl rfl rfl) ?_
  refine AL_p (x_alloc (z := .agg #[.int .i64 0, .slice none 0 0]) 101 rfl (by kernel_rfl) rfl rfl rfl rfl) ?_
  refine AL_nil ?_
  refine AW_seq ?_
  refine AW_region ?_
  refine AL_p (x_loadN (n := 2) rfl rfl rfl (by kernel_rfl) rfl rfl) ?_
  refine AL_p (x_makeFunc (ks := [200]) rfl rfl) ?_
  refine AL_p (x_call (ks := []) (L := [(200, some (.box (relC b)))]) (L' := [(200, some (.box (relC b))), (0, some (.arr 72 rowE (a.rows.filter (fun row => !hasRow b.rows row)) true))]) rfl rfl rfl (minusP_c a b ha hb hs hv) rfl AllV.rf (caught_of rfl) rfl rfl rfl (by repeat (first | exact trivial | refine ⟨rfl, ?_⟩)) rfl) ?_
  refine AL_p (x_store (n := 2) rfl rfl rfl rfl (by kernel_rfl) rfl rfl rfl) ?_
  refine AL_nil ?_
  refine AW_ret ?_
  exact ⟨rn [(9, 101), (0, 0)], ⟨⟨⟨_, rfl, VLe.rf⟩, trivial⟩, ⟨⟨_, rfl, by first | exact BLe.rf | (subst_vars; exact BLe.rf)⟩, ⟨_, rfl, BLe.rf⟩, trivial⟩, trivial, rfl⟩⟩
theorem minusI_c (a b : Relt) (ha : smallRel a) (hb : b.rows.length ≤ 1048576) (hs : Sorted b.rows) (hv : ∀ r ∈ a.rows, ∀ v ∈ r, valOk v = true) (k : Nat) : AC Tryz.prog 43 [.agg (relC a), .agg (relC b)] [] (.agg [.c (.int .i64 a.arity), .own k]) [(k, some (.arr 72 rowE (a.rows.filter (fun row => !hasRow b.rows row)) true))] := AC.at (minusI_c0 a b ha hb hs hv) k

end Go.Proofs.YtibhoanjglfaoaaGreat

/- A row taken out, or put in (printed by walk.py) -/
namespace Go.Proofs.YtibhoanjglfaoaaGreat
open Go.RowKit
set_option linter.unusedVariables false
set_option linter.unusedSimpArgs false
set_option maxRecDepth 100000

set_option maxHeartbeats 4000000 in
theorem copyS_c0 (r : Relt) (hr : smallRel r) : AC Tryz.prog 75 [.agg (relC r)] [] (.agg [.c (.int .i64 r.arity), .own 0]) [(0, some (.arr 72 rowE r.rows true))] := by
  refine AC_bodyC (n := 2) (k := 9) (T := [(2, .one (.ptr 9 0))]) (Lf := ((9, some (.box [.c (.int .i64 r.arity), .own 0])) :: [(0, some (.arr 72 rowE r.rows true))])) Tryz.func75 rfl rfl Tryz.ntmps75 rfl Tryz.results75 rfl rfl (by kernel_rfl) rfl rfl ⟨trivial, (by repeat (first | exact trivial | refine ⟨⟨_, rfl, BLe.rf⟩, ?_⟩)), (by repeat (first | exact trivial | refine ⟨⟨rfl, by first | (left; intro h; cases h) | (right; rfl), by first | exact (fun _ h => ⟨_, h⟩) | exact (fun _ _ => ⟨_, rfl⟩)⟩, ?_⟩)), rfl⟩ ?_
  refine AW_seq ?_
  refine AW_region ?_
  refine AL_p (x_box 100 rfl rfl rfl rfl rfl rfl rfl) ?_
  refine AL_p (x_alloc (z := .agg #[.int .i64 0, .slice none 0 0]) 101 rfl (by kernel_rfl) rfl rfl rfl rfl) ?_
  refine AL_nil ?_
  refine AW_seq ?_
  refine AW_region ?_
  refine AL_p (x_field (off := 0) (o' := 0) rfl rfl rfl (by kernel_rfl) rfl) ?_
  refine AL_p (x_load1 rfl rfl rfl (by kernel_rfl) rfl) ?_
  refine AL_p (x_build (zs := [.int .i64 0, .slice none 0 0]) (places := [(0, 1), (1, 1)]) rfl (by kernel_rfl) rfl rfl rfl rfl rfl) ?_
  refine AL_p (x_alloc (z := .agg #[.int .i64 0, .slice none 0 0]) 102 rfl (by kernel_rfl) rfl rfl rfl rfl) ?_
  refine AL_p (x_store (n := 2) rfl rfl rfl rfl (by kernel_rfl) rfl rfl rfl) ?_
  refine AL_nil ?_
  refine AW_seq ?_
  refine AW_seq ?_
  refine AW_region ?_
  refine AL_p (x_field (off := 1) (o' := 1) rfl rfl rfl (by kernel_rfl) rfl) ?_
  refine AL_p (x_load1 rfl rfl rfl (by kernel_rfl) rfl) ?_
  refine AL_p (x_len (E := 72) (n := 1) rfl rfl (by kernel_rfl)) ?_
  refine AL_p (x_move rfl rfl) ?_
  refine AL_nil ?_
  refine AW_block ?_
  refine AW_adopt (T := 72) (e := rowE) 103 102 1 rfl rfl rfl rfl rfl ?_
  refine AW_loop2 (ι := {q : Nat // q ≤ r.rows.length}) (fun p => [(11, .one (.c (.int .i64 ((p.1) : Int))))]) (fun p => [(103, some (.arr 72 rowE (r.rows.take (p.1)) true))]) [1, 2, 3, 10] [100, 101, 102] (fun p => r.rows.length - (p.1)) ⟨0, by omega⟩ (rn []) ?_ ?_
  exact ⟨by (repeat refine ⟨⟨_, rfl, by first | exact VLe.rf | exact vle_int (by dsimp only; omega)⟩, ?_⟩); exact trivial, by (repeat refine ⟨⟨_, rfl, by first | exact BLe.rf | exact BLe.box AllC.rf | exact BLe.arr (by first | exact take_none | exact take_more (by omega))⟩, ?_⟩); exact trivial, by repeat (first | exact trivial | refine ⟨⟨rfl, by first | (left; intro h; cases h) | (right; rfl), by first | exact (fun _ h => ⟨_, h⟩) | exact (fun _ _ => ⟨_, rfl⟩)⟩, ?_⟩), rfl⟩
  rintro ⟨k, hinv⟩
  dsimp only
  have hl := hr.1
  refine AW_seq ?_
  refine AW_region ?_
  refine AL_b (x_lss rfl rfl rfl) (fun b12 h12 => ?_)
  refine AL_nil ?_
  refine AW_seq ?_
  cases b12
  · try simp only [tdy] at h12
    refine AW_condF rfl ?_
    refine AW_exit (BQ_hit ?_)
    refine AW_seq ?_
    refine AW_region ?_
    refine AL_p (x_loadN (n := 2) rfl rfl rfl (by kernel_rfl) rfl rfl) ?_
    refine AL_p (x_store (n := 2) rfl rfl rfl rfl (by kernel_rfl) rfl rfl rfl) ?_
    refine AL_nil ?_
    refine AW_ret ?_
    exact ⟨rn [(9, 101), (0, 103)], ⟨⟨⟨_, rfl, VLe.rf⟩, trivial⟩, ⟨⟨_, rfl, by first | exact BLe.rf | (subst_vars; exact BLe.rf)⟩, ⟨_, rfl, BLe.arr (List.take_of_length_le (by omega))⟩, trivial⟩, trivial, rfl⟩⟩
  try simp only [tdy] at h12
  refine AW_condT rfl ?_
  refine AW_skip ?_
  refine AW_seq ?_
  refine AW_block ?_
  refine AW_seq ?_
  refine AW_region ?_
  refine AL_p (x_move rfl rfl) ?_
  refine AL_p (x_assign rfl rfl) ?_
  refine AL_nil ?_
  refine AW_draw rfl ?_
  refine AL_p (x_field (off := 1) (o' := 1) rfl rfl rfl (by kernel_rfl) rfl) ?_
  refine AL_p (x_load1 rfl rfl rfl (by kernel_rfl) rfl) ?_
  refine AL_p (x_field (off := 1) (o' := 1) rfl rfl rfl (by kernel_rfl) rfl) ?_
  refine AL_p (x_load1 rfl rfl rfl (by kernel_rfl) rfl) ?_
  refine AL_p (x_move rfl rfl) ?_
  refine AL_p (x_index (E := 72) (n := 1) rfl rfl rfl (by kernel_rfl) rfl (k := k) (by omega) (by omega)) ?_
  refine AL_p (x_eloadW (n := 1) rfl rfl (by kernel_rfl) rfl) ?_
  refine AL_p (x_call1 rfl rfl rfl (rowS_c (r.rows[k]'(by omega)) (hr.2 _ (List.getElem_mem _)).1 104) rfl rfl rfl rfl) ?_
  refine AL_p (y_bslice (E := 72) (e := rowE) [.tmp 21] ([r.rows[k]'(by omega)]) 105 rfl rfl rfl rfl rfl rfl rfl rfl FitL.rf rfl rfl rfl rfl rfl rfl (by kernel_rfl)) ?_
  refine AL_p (y_append 106 rfl rfl rfl rfl rfl rfl rfl rfl (by kernel_rfl) (by have := hr.1; simp only [List.length_take, List.length_cons, List.length_nil]; omega)) ?_
  refine AL_p (x_field (off := 1) (o' := 1) rfl rfl rfl (by kernel_rfl) rfl) ?_
  refine AL_p (x_store (n := 1) rfl rfl rfl rfl (by kernel_rfl) rfl rfl rfl) ?_
  refine AL_nild (by kernel_rfl) ?_
  refine AW_region ?_
  refine AL_p (x_add rfl rfl rfl (IntWalk.i64_in _ (by omega))) ?_
  refine AL_p (x_move rfl rfl) ?_
  refine AL_nil ?_
  refine ⟨⟨k + 1, by omega⟩, rn [(103, 106)], ?_, by dsimp only; omega⟩
  exact ⟨by (repeat refine ⟨⟨_, rfl, by first | exact VLe.rf | exact vle_int (by dsimp only; omega)⟩, ?_⟩); exact trivial, by (repeat refine ⟨⟨_, rfl, by first | exact BLe.rf | exact BLe.box AllC.rf | exact BLe.arr (by first | exact take_none | exact take_more (by omega))⟩, ?_⟩); exact trivial, by repeat (first | exact trivial | refine ⟨⟨rfl, by first | (left; intro h; cases h) | (right; rfl), by first | exact (fun _ h => ⟨_, h⟩) | exact (fun _ _ => ⟨_, rfl⟩)⟩, ?_⟩), rfl⟩
theorem copyS_c (r : Relt) (hr : smallRel r) (k : Nat) : AC Tryz.prog 75 [.agg (relC r)] [] (.agg [.c (.int .i64 r.arity), .own k]) [(k, some (.arr 72 rowE r.rows true))] := AC.at (copyS_c0 r hr) k

set_option maxHeartbeats 4000000 in
theorem copyI_c0 (r : Relt) (hr : smallRel r) : AC Tryz.prog 68 [.agg (relC r)] [] (.agg [.c (.int .i64 r.arity), .own 0]) [(0, some (.arr 72 rowE r.rows true))] := by
  refine AC_bodyC (n := 2) (k := 9) (T := [(2, .one (.ptr 9 0))]) (Lf := ((9, some (.box [.c (.int .i64 r.arity), .own 0])) :: [(0, some (.arr 72 rowE r.rows true))])) Tryz.func68 rfl rfl Tryz.ntmps68 rfl Tryz.results68 rfl rfl (by kernel_rfl) rfl rfl ⟨trivial, (by repeat (first | exact trivial | refine ⟨⟨_, rfl, BLe.rf⟩, ?_⟩)), (by repeat (first | exact trivial | refine ⟨⟨rfl, by first | (left; intro h; cases h) | (right; rfl), by first | exact (fun _ h => ⟨_, h⟩) | exact (fun _ _ => ⟨_, rfl⟩)⟩, ?_⟩)), rfl⟩ ?_
  refine AW_seq ?_
  refine AW_region ?_
  refine AL_p (x_box 100 rfl rfl rfl rfl rfl rfl rfl) ?_
  refine AL_p (x_alloc (z := .agg #[.int .i64 0, .slice none 0 0]) 101 rfl (by kernel_rfl) rfl rfl rfl rfl) ?_
  refine AL_nil ?_
  refine AW_seq ?_
  refine AW_region ?_
  refine AL_p (x_field (off := 0) (o' := 0) rfl rfl rfl (by kernel_rfl) rfl) ?_
  refine AL_p (x_load1 rfl rfl rfl (by kernel_rfl) rfl) ?_
  refine AL_p (x_build (zs := [.int .i64 0, .slice none 0 0]) (places := [(0, 1), (1, 1)]) rfl (by kernel_rfl) rfl rfl rfl rfl rfl) ?_
  refine AL_p (x_alloc (z := .agg #[.int .i64 0, .slice none 0 0]) 102 rfl (by kernel_rfl) rfl rfl rfl rfl) ?_
  refine AL_p (x_store (n := 2) rfl rfl rfl rfl (by kernel_rfl) rfl rfl rfl) ?_
  refine AL_nil ?_
  refine AW_seq ?_
  refine AW_seq ?_
  refine AW_region ?_
  refine AL_p (x_field (off := 1) (o' := 1) rfl rfl rfl (by kernel_rfl) rfl) ?_
  refine AL_p (x_load1 rfl rfl rfl (by kernel_rfl) rfl) ?_
  refine AL_p (x_len (E := 72) (n := 1) rfl rfl (by kernel_rfl)) ?_
  refine AL_p (x_move rfl rfl) ?_
  refine AL_nil ?_
  refine AW_block ?_
  refine AW_adopt (T := 72) (e := rowE) 103 102 1 rfl rfl rfl rfl rfl ?_
  refine AW_loop2 (ι := {q : Nat // q ≤ r.rows.length}) (fun p => [(12, .one (.c (.int .i64 ((p.1) : Int))))]) (fun p => [(103, some (.arr 72 rowE (r.rows.take (p.1)) true))]) [2, 3, 10, 11] [100, 101, 102] (fun p => r.rows.length - (p.1)) ⟨0, by omega⟩ (rn []) ?_ ?_
  exact ⟨by (repeat refine ⟨⟨_, rfl, by first | exact VLe.rf | exact vle_int (by dsimp only; omega)⟩, ?_⟩); exact trivial, by (repeat refine ⟨⟨_, rfl, by first | exact BLe.rf | exact BLe.box AllC.rf | exact BLe.arr (by first | exact take_none | exact take_more (by omega))⟩, ?_⟩); exact trivial, by repeat (first | exact trivial | refine ⟨⟨rfl, by first | (left; intro h; cases h) | (right; rfl), by first | exact (fun _ h => ⟨_, h⟩) | exact (fun _ _ => ⟨_, rfl⟩)⟩, ?_⟩), rfl⟩
  rintro ⟨k, hinv⟩
  dsimp only
  have hl := hr.1
  refine AW_seq ?_
  refine AW_region ?_
  refine AL_b (x_lss rfl rfl rfl) (fun b13 h13 => ?_)
  refine AL_nil ?_
  refine AW_seq ?_
  cases b13
  · try simp only [tdy] at h13
    refine AW_condF rfl ?_
    refine AW_exit (BQ_hit ?_)
    refine AW_seq ?_
    refine AW_region ?_
    refine AL_p (x_loadN (n := 2) rfl rfl rfl (by kernel_rfl) rfl rfl) ?_
    refine AL_p (x_store (n := 2) rfl rfl rfl rfl (by kernel_rfl) rfl rfl rfl) ?_
    refine AL_nil ?_
    refine AW_ret ?_
    exact ⟨rn [(9, 101), (0, 103)], ⟨⟨⟨_, rfl, VLe.rf⟩, trivial⟩, ⟨⟨_, rfl, by first | exact BLe.rf | (subst_vars; exact BLe.rf)⟩, ⟨_, rfl, BLe.arr (List.take_of_length_le (by omega))⟩, trivial⟩, trivial, rfl⟩⟩
  try simp only [tdy] at h13
  refine AW_condT rfl ?_
  refine AW_skip ?_
  refine AW_seq ?_
  refine AW_block ?_
  refine AW_seq ?_
  refine AW_region ?_
  refine AL_p (x_index (E := 72) (n := 1) rfl rfl rfl (by kernel_rfl) rfl (k := k) (by omega) (by omega)) ?_
  refine AL_p (x_eloadW (n := 1) rfl rfl (by kernel_rfl) rfl) ?_
  refine AL_p (x_alloc (z := .agg #[.slice none 0 0]) 104 rfl (by kernel_rfl) rfl rfl rfl rfl) ?_
  refine AL_p (x_store (n := 1) rfl rfl rfl rfl (by kernel_rfl) rfl rfl rfl) ?_
  refine AL_nil ?_
  refine AW_draw rfl ?_
  refine AL_p (x_field (off := 1) (o' := 1) rfl rfl rfl (by kernel_rfl) rfl) ?_
  refine AL_p (x_load1 rfl rfl rfl (by kernel_rfl) rfl) ?_
  refine AL_p (x_loadN (n := 1) rfl rfl rfl (by kernel_rfl) rfl rfl) ?_
  refine AL_p (x_call1 rfl rfl rfl (rowI_c (r.rows[k]'(by omega)) (hr.2 _ (List.getElem_mem _)).1 105) rfl rfl rfl rfl) ?_
  refine AL_p (y_bslice (E := 72) (e := rowE) [.tmp 19] ([r.rows[k]'(by omega)]) 106 rfl rfl rfl rfl rfl rfl rfl rfl FitL.rf rfl rfl rfl rfl rfl rfl (by kernel_rfl)) ?_
  refine AL_p (y_append 107 rfl rfl rfl rfl rfl rfl rfl rfl (by kernel_rfl) (by have := hr.1; simp only [List.length_take, List.length_cons, List.length_nil]; omega)) ?_
  refine AL_p (x_field (off := 1) (o' := 1) rfl rfl rfl (by kernel_rfl) rfl) ?_
  refine AL_p (x_store (n := 1) rfl rfl rfl rfl (by kernel_rfl) rfl rfl rfl) ?_
  refine AL_nild (by kernel_rfl) ?_
  refine AW_region ?_
  refine AL_p (x_add rfl rfl rfl (IntWalk.i64_in _ (by omega))) ?_
  refine AL_p (x_move rfl rfl) ?_
  refine AL_nil ?_
  refine ⟨⟨k + 1, by omega⟩, rn [(103, 107)], ?_, by dsimp only; omega⟩
  exact ⟨by (repeat refine ⟨⟨_, rfl, by first | exact VLe.rf | exact vle_int (by dsimp only; omega)⟩, ?_⟩); exact trivial, by (repeat refine ⟨⟨_, rfl, by first | exact BLe.rf | exact BLe.box AllC.rf | exact BLe.arr (by first | exact take_none | exact take_more (by omega))⟩, ?_⟩); exact trivial, by repeat (first | exact trivial | refine ⟨⟨rfl, by first | (left; intro h; cases h) | (right; rfl), by first | exact (fun _ h => ⟨_, h⟩) | exact (fun _ _ => ⟨_, rfl⟩)⟩, ?_⟩), rfl⟩
theorem copyI_c (r : Relt) (hr : smallRel r) (k : Nat) : AC Tryz.prog 68 [.agg (relC r)] [] (.agg [.c (.int .i64 r.arity), .own k]) [(k, some (.arr 72 rowE r.rows true))] := AC.at (copyI_c0 r hr) k

set_option maxHeartbeats 4000000 in
theorem putS_c (rows : List (List Val)) (row : List Val) (hl : rows.length ≤ 1048575) (hm : ∀ r ∈ rows, r.length ≤ 1048576) (hr : row.length ≤ 1048576) (hs : Sorted rows) (hv : ∀ v ∈ row, valOk v = true) : AC Tryz.prog 34 [.one (.sl rowE rows), .agg (rowC row)] [] (.one (.sl rowE (putRow rows row))) [] := by
  refine AC_body1 Tryz.func34 rfl rfl Tryz.ntmps34 rfl Tryz.results34 ?_
  refine AW_seq ?_
  refine AW_region ?_
  refine AL_p (x_box 100 rfl rfl rfl rfl rfl rfl rfl) ?_
  refine AL_p (x_assign rfl rfl) ?_
  refine AL_nil ?_
  refine AW_seq ?_
  refine AW_seq ?_
  refine AW_region ?_
  refine AL_p (x_move rfl rfl) ?_
  refine AL_p (x_loadN (n := 1) rfl rfl rfl (by kernel_rfl) rfl rfl) ?_
  refine AL_b (x_call0 rfl rfl rfl (hasS_c _ _ (by omega) hm) rfl rfl) (fun b10 h10 => ?_)
  refine AL_nil ?_
  cases b10
  rotate_left
  · try simp only [tdy] at h10
    have hno := putRow_has h10
    refine AW_condT rfl ?_
    refine AW_seq ?_
    refine AW_region ?_
    refine AL_p (x_move rfl rfl) ?_
    refine AL_p (x_assign rfl rfl) ?_
    refine AL_nil ?_
    refine AW_ret ?_
    exact ⟨rn [], ⟨⟨_, rfl, by first | (refine vle_sl ?_; rw [hno]; done) | (refine vle_sl ?_; rw [hno]; first | exact putTo_done (by omega) (by omega) (by omega) | exact putTo_end (by omega) (by omega) (by omega))⟩, trivial⟩, trivial, trivial, rfl⟩
  try simp only [tdy] at h10
  have hno := putRow_no h10
  refine AW_condF rfl ?_
  refine AW_skip ?_
  refine AW_seq ?_
  refine AW_region ?_
  refine AL_p (y_bslice0 (E := 72) (e := rowE) 101 rfl rfl rfl (by kernel_rfl)) ?_
  refine AL_p (x_assign rfl rfl) ?_
  refine AL_nil ?_
  refine AW_seq ?_
  refine AW_region ?_
  refine AL_p (x_assign rfl rfl) ?_
  refine AL_nil ?_
  refine AW_seq ?_
  refine AW_seq ?_
  refine AW_region ?_
  refine AL_p (x_move rfl rfl) ?_
  refine AL_p (x_len (E := 72) (n := 1) rfl rfl (by kernel_rfl)) ?_
  refine AL_p (x_move rfl rfl) ?_
  refine AL_nil ?_
  refine AW_block ?_
  refine AW_shallow 101 rfl ?_
  refine AW_loop2 (ι := {q : Nat × Bool // (q.1) ≤ rows.length ∧ decide (pos rows row < (q.1)) = (q.2)}) (fun p => [(5, .one (.own 101)), (6, .one (.c (.bool (p.1.2)))), (15, .one (.c (.int .i64 ((p.1.1) : Int))))]) (fun p => [(101, some (.arr 72 rowE (putTo rows row (p.1.1)) false))]) [0, 3, 14] [100] (fun p => rows.length - (p.1.1)) ⟨⟨0, false⟩, ⟨by omega, by simp⟩⟩ (rn []) ?_ ?_
  exact ⟨by (repeat refine ⟨⟨_, rfl, by first | exact VLe.rf | exact vle_int (by dsimp only; omega)⟩, ?_⟩); exact trivial, by (repeat refine ⟨⟨_, rfl, by first | exact BLe.rf | exact BLe.box AllC.rf | exact BLe.arr (by first | exact putTo_zero | exact putTo_behind (by omega) (by omega) | exact putTo_here (by omega) (by omega) | exact putTo_before (by omega) (by omega))⟩, ?_⟩); exact trivial, by repeat (first | exact trivial | refine ⟨⟨rfl, by first | (left; intro h; cases h) | (right; rfl), by first | exact (fun _ h => ⟨_, h⟩) | exact (fun _ _ => ⟨_, rfl⟩)⟩, ?_⟩), rfl⟩
  rintro ⟨⟨k, b900⟩, hinv⟩
  dsimp only
  obtain ⟨hk, h900⟩ := hinv
  have hk : k ≤ rows.length := hk
  refine AW_seq ?_
  refine AW_region ?_
  refine AL_b (x_lss rfl rfl rfl) (fun b16 h16 => ?_)
  refine AL_nil ?_
  refine AW_seq ?_
  cases b16
  · try simp only [tdy] at h16
    refine AW_condF rfl ?_
    refine AW_exit (BQ_hit ?_)
    refine AW_seq ?_
    refine AW_seq ?_
    refine AW_region ?_
    refine AL_p (x_move rfl rfl) ?_
    refine AL_p (x_not rfl rfl) ?_
    refine AL_nil ?_
    cases b900
    rotate_left
    · try simp only [tdy] at h900
      refine AW_condF rfl ?_
      refine AW_skip ?_
      refine AW_seq ?_
      refine AW_region ?_
      refine AL_p (x_move rfl rfl) ?_
      refine AL_p (x_assign rfl rfl) ?_
      refine AL_nil ?_
      refine AW_shut 101 4 rfl rfl ?_
      refine AW_ret ?_
      exact ⟨rn [], ⟨⟨_, rfl, by first | (refine vle_sl ?_; rw [hno]; done) | (refine vle_sl ?_; rw [hno]; first | exact putTo_done (by omega) (by omega) (by omega) | exact putTo_end (by omega) (by omega) (by omega))⟩, trivial⟩, trivial, trivial, rfl⟩
    try simp only [tdy] at h900
    refine AW_condT rfl ?_
    refine AW_region ?_
    refine AL_p (x_move rfl rfl) ?_
    refine AL_p (x_loadN (n := 1) rfl rfl rfl (by kernel_rfl) rfl rfl) ?_
    refine AL_p (x_call1 rfl rfl rfl (rowS_c row hr 107) rfl rfl rfl rfl) ?_
    refine AL_p (y_bslice (E := 72) (e := rowE) [.tmp 46] ([row]) 108 rfl rfl rfl rfl rfl rfl rfl rfl FitL.rf rfl rfl rfl rfl rfl rfl (by kernel_rfl)) ?_
    refine AL_p (y_append 109 rfl rfl rfl rfl rfl rfl rfl rfl (by kernel_rfl) (by have := putTo_len (rows := rows) (row := row) (k := k) (by omega); simp only [List.length_append, List.length_cons, List.length_nil]; omega)) ?_
    refine AL_p (x_assign rfl rfl) ?_
    refine AL_nil ?_
    refine AW_seq ?_
    refine AW_region ?_
    refine AL_p (x_move rfl rfl) ?_
    refine AL_p (x_assign rfl rfl) ?_
    refine AL_nil ?_
    refine AW_shut 109 4 rfl rfl ?_
    refine AW_ret ?_
    exact ⟨rn [], ⟨⟨_, rfl, by first | (refine vle_sl ?_; rw [hno]; done) | (refine vle_sl ?_; rw [hno]; first | exact putTo_done (by omega) (by omega) (by omega) | exact putTo_end (by omega) (by omega) (by omega))⟩, trivial⟩, trivial, trivial, rfl⟩
  try simp only [tdy] at h16
  refine AW_condT rfl ?_
  refine AW_skip ?_
  refine AW_seq ?_
  refine AW_block ?_
  refine AW_seq ?_
  refine AW_region ?_
  refine AL_p (x_move rfl rfl) ?_
  refine AL_p (x_assign rfl rfl) ?_
  refine AL_nil ?_
  refine AW_seq ?_
  refine AW_seq ?_
  refine AW_draw rfl ?_
  refine AL_p (x_move rfl rfl) ?_
  refine AL_p (x_not rfl rfl) ?_
  refine AL_p (x_move rfl rfl) ?_
  cases b900
  rotate_left
  · try simp only [tdy] at h900
    refine AL_o rfl rfl rfl rfl ?_
    refine AL_o rfl rfl rfl rfl ?_
    refine AL_o rfl rfl rfl rfl ?_
    refine AL_o rfl rfl rfl rfl ?_
    refine AL_o rfl rfl rfl rfl ?_
    refine AL_o rfl rfl rfl rfl ?_
    refine AL_o rfl rfl rfl rfl ?_
    refine AL_p (x_pickF rfl rfl rfl) ?_
    refine AL_nild (by kernel_rfl) ?_
    refine AW_condF rfl ?_
    refine AW_skip ?_
    refine AW_region ?_
    refine AL_p (x_move rfl rfl) ?_
    refine AL_p (x_move rfl rfl) ?_
    refine AL_p (x_move rfl rfl) ?_
    refine AL_p (x_index (E := 72) (n := 1) rfl rfl rfl (by kernel_rfl) rfl (k := k) (by omega) (by omega)) ?_
    refine AL_p (x_eloadW (n := 1) rfl rfl (by kernel_rfl) rfl) ?_
    refine AL_p (y_bslice (E := 72) (e := rowE) [.tmp 38] ([(rows[k]'(by omega))]) 102 rfl rfl rfl rfl rfl rfl rfl rfl FitL.rf rfl rfl rfl rfl rfl rfl (by kernel_rfl)) ?_
    refine AL_p (y_append 103 rfl rfl rfl rfl rfl rfl rfl rfl (by kernel_rfl) (by have := putTo_len (rows := rows) (row := row) (k := k) (by omega); simp only [List.length_append, List.length_cons, List.length_nil]; omega)) ?_
    refine AL_p (x_assign rfl rfl) ?_
    refine AL_nil ?_
    refine AW_region ?_
    refine AL_p (x_add rfl rfl rfl (IntWalk.i64_in _ (by omega))) ?_
    refine AL_p (x_move rfl rfl) ?_
    refine AL_nil ?_
    refine ⟨⟨⟨k + 1, true⟩, ⟨by omega, by rw [decide_eq_true_eq]; omega⟩⟩, rn [(101, 103)], ?_, by dsimp only; omega⟩
    exact ⟨by (repeat refine ⟨⟨_, rfl, by first | exact VLe.rf | exact vle_int (by dsimp only; omega)⟩, ?_⟩); exact trivial, by (repeat refine ⟨⟨_, rfl, by first | exact BLe.rf | exact BLe.box AllC.rf | exact BLe.arr (by first | exact putTo_zero | exact putTo_behind (by omega) (by omega) | exact putTo_here (by omega) (by omega) | exact putTo_before (by omega) (by omega))⟩, ?_⟩); exact trivial, by repeat (first | exact trivial | refine ⟨⟨rfl, by first | (left; intro h; cases h) | (right; rfl), by first | exact (fun _ h => ⟨_, h⟩) | exact (fun _ _ => ⟨_, rfl⟩)⟩, ?_⟩), rfl⟩
  try simp only [tdy] at h900
  refine AL_g rfl rfl (x_loadN (n := 1) rfl rfl rfl (by kernel_rfl) rfl rfl) ?_
  refine AL_g rfl rfl (x_move rfl rfl) ?_
  refine AL_g rfl rfl (x_move rfl rfl) ?_
  refine AL_g rfl rfl (x_index (E := 72) (n := 1) rfl rfl rfl (by kernel_rfl) rfl (k := k) (by omega) (by omega)) ?_
  refine AL_g rfl rfl (x_eloadW (n := 1) rfl rfl (by kernel_rfl) rfl) ?_
  refine AL_g rfl rfl (x_call0 rfl rfl rfl (orderS_c _ _) rfl rfl) ?_
  refine AL_gb rfl rfl (x_eql rfl rfl rfl) (fun b27 h27 => ?_)
  refine AL_p (x_pickT rfl rfl rfl) ?_
  refine AL_nild (by kernel_rfl) ?_
  cases b27
  · try simp only [tdy] at h27
    have hp : ¬ k = pos rows row := of_decide_eq_false ((putTo_lt hs hv h10 (k := k) (by omega) (by omega)).symm.trans (by simp [h27]))
    refine AW_condF rfl ?_
    refine AW_skip ?_
    refine AW_region ?_
    refine AL_p (x_move rfl rfl) ?_
    refine AL_p (x_move rfl rfl) ?_
    refine AL_p (x_move rfl rfl) ?_
    refine AL_p (x_index (E := 72) (n := 1) rfl rfl rfl (by kernel_rfl) rfl (k := k) (by omega) (by omega)) ?_
    refine AL_p (x_eloadW (n := 1) rfl rfl (by kernel_rfl) rfl) ?_
    refine AL_p (y_bslice (E := 72) (e := rowE) [.tmp 38] ([(rows[k]'(by omega))]) 102 rfl rfl rfl rfl rfl rfl rfl rfl FitL.rf rfl rfl rfl rfl rfl rfl (by kernel_rfl)) ?_
    refine AL_p (y_append 103 rfl rfl rfl rfl rfl rfl rfl rfl (by kernel_rfl) (by have := putTo_len (rows := rows) (row := row) (k := k) (by omega); simp only [List.length_append, List.length_cons, List.length_nil]; omega)) ?_
    refine AL_p (x_assign rfl rfl) ?_
    refine AL_nil ?_
    refine AW_region ?_
    refine AL_p (x_add rfl rfl rfl (IntWalk.i64_in _ (by omega))) ?_
    refine AL_p (x_move rfl rfl) ?_
    refine AL_nil ?_
    refine ⟨⟨⟨k + 1, false⟩, ⟨by omega, by rw [decide_eq_false_iff_not]; omega⟩⟩, rn [(101, 103)], ?_, by dsimp only; omega⟩
    exact ⟨by (repeat refine ⟨⟨_, rfl, by first | exact VLe.rf | exact vle_int (by dsimp only; omega)⟩, ?_⟩); exact trivial, by (repeat refine ⟨⟨_, rfl, by first | exact BLe.rf | exact BLe.box AllC.rf | exact BLe.arr (by first | exact putTo_zero | exact putTo_behind (by omega) (by omega) | exact putTo_here (by omega) (by omega) | exact putTo_before (by omega) (by omega))⟩, ?_⟩); exact trivial, by repeat (first | exact trivial | refine ⟨⟨rfl, by first | (left; intro h; cases h) | (right; rfl), by first | exact (fun _ h => ⟨_, h⟩) | exact (fun _ _ => ⟨_, rfl⟩)⟩, ?_⟩), rfl⟩
  try simp only [tdy] at h27
  have hp : k = pos rows row := of_decide_eq_true ((putTo_lt hs hv h10 (k := k) (by omega) (by omega)).symm.trans (by simp [h27]))
  refine AW_condT rfl ?_
  refine AW_seq ?_
  refine AW_region ?_
  refine AL_p (x_move rfl rfl) ?_
  refine AL_p (x_loadN (n := 1) rfl rfl rfl (by kernel_rfl) rfl rfl) ?_
  refine AL_p (x_call1 rfl rfl rfl (rowS_c row hr 104) rfl rfl rfl rfl) ?_
  refine AL_p (y_bslice (E := 72) (e := rowE) [.tmp 31] ([row]) 105 rfl rfl rfl rfl rfl rfl rfl rfl FitL.rf rfl rfl rfl rfl rfl rfl (by kernel_rfl)) ?_
  refine AL_p (y_append 106 rfl rfl rfl rfl rfl rfl rfl rfl (by kernel_rfl) (by have := putTo_len (rows := rows) (row := row) (k := k) (by omega); simp only [List.length_append, List.length_cons, List.length_nil]; omega)) ?_
  refine AL_p (x_assign rfl rfl) ?_
  refine AL_nil ?_
  refine AW_region ?_
  refine AL_p (x_assign rfl rfl) ?_
  refine AL_nil ?_
  refine AW_region ?_
  refine AL_p (x_move rfl rfl) ?_
  refine AL_p (x_move rfl rfl) ?_
  refine AL_p (x_move rfl rfl) ?_
  refine AL_p (x_index (E := 72) (n := 1) rfl rfl rfl (by kernel_rfl) rfl (k := k) (by omega) (by omega)) ?_
  refine AL_p (x_eloadW (n := 1) rfl rfl (by kernel_rfl) rfl) ?_
  refine AL_p (y_bslice (E := 72) (e := rowE) [.tmp 38] ([(rows[k]'(by omega))]) 102 rfl rfl rfl rfl rfl rfl rfl rfl FitL.rf rfl rfl rfl rfl rfl rfl (by kernel_rfl)) ?_
  refine AL_p (y_append 103 rfl rfl rfl rfl rfl rfl rfl rfl (by kernel_rfl) (by have := putTo_len (rows := rows) (row := row) (k := k) (by omega); simp only [List.length_append, List.length_cons, List.length_nil]; omega)) ?_
  refine AL_p (x_assign rfl rfl) ?_
  refine AL_nil ?_
  refine AW_region ?_
  refine AL_p (x_add rfl rfl rfl (IntWalk.i64_in _ (by omega))) ?_
  refine AL_p (x_move rfl rfl) ?_
  refine AL_nil ?_
  refine ⟨⟨⟨k + 1, true⟩, ⟨by omega, by rw [decide_eq_true_eq]; omega⟩⟩, rn [(101, 103)], ?_, by dsimp only; omega⟩
  exact ⟨by (repeat refine ⟨⟨_, rfl, by first | exact VLe.rf | exact vle_int (by dsimp only; omega)⟩, ?_⟩); exact trivial, by (repeat refine ⟨⟨_, rfl, by first | exact BLe.rf | exact BLe.box AllC.rf | exact BLe.arr (by first | exact putTo_zero | exact putTo_behind (by omega) (by omega) | exact putTo_here (by omega) (by omega) | exact putTo_before (by omega) (by omega))⟩, ?_⟩); exact trivial, by repeat (first | exact trivial | refine ⟨⟨rfl, by first | (left; intro h; cases h) | (right; rfl), by first | exact (fun _ h => ⟨_, h⟩) | exact (fun _ _ => ⟨_, rfl⟩)⟩, ?_⟩), rfl⟩

end Go.Proofs.YtibhoanjglfaoaaGreat

/- Variables whose rows are said in other words. -/
namespace Go.Proofs.YtibhoanjglfaoaaGreat
open Go.RowKit
set_option linter.unusedVariables false
theorem boxRel {ar : Int} {x y : List (List Val)} {r : Nat → Nat} (h : x = y) : BLe (.box [.c (.int .i64 ar), .sl rowE x]) (Blk.ren r (.box [.c (.int .i64 ar), .sl rowE y])) := by subst h; exact BLe.rf
end Go.Proofs.YtibhoanjglfaoaaGreat

/- Rows joined (printed by walk.py) -/
namespace Go.Proofs.YtibhoanjglfaoaaGreat
open Go.RowKit
set_option linter.unusedVariables false
set_option linter.unusedSimpArgs false
set_option maxRecDepth 100000

set_option maxHeartbeats 4000000 in
theorem concatRow_t {xss : List (List (List Val))} (hl : xss.flatten.length ≤ 2097152) (hn : xss.length ≤ 1048576) : AT Tryz.prog 42 [.one (.own 0)] [(0, some (.arr 61 (sliceE rowE) xss false))] (.one (.own 1)) [(1, some (.arr 72 rowE xss.flatten false))] := by
  refine AT_body1 Tryz.func42 rfl rfl Tryz.ntmps42 rfl Tryz.results42 ?_
  refine AW_seq ?_
  refine AW_region ?_
  refine AL_p (x_assign rfl rfl) ?_
  refine AL_nil ?_
  refine AW_seq ?_
  refine AW_region ?_
  refine AL_p (x_assign rfl rfl) ?_
  refine AL_nil ?_
  refine AW_seq ?_
  refine AW_seq ?_
  refine AW_region ?_
  refine AL_p (x_move rfl rfl) ?_
  refine AL_p (x_olen (E := 61) (n := 1) rfl rfl rfl (by kernel_rfl)) ?_
  refine AL_p (x_move rfl rfl) ?_
  refine AL_nil ?_
  refine AW_block ?_
  refine AW_loop2 (ι := {q : Nat // q ≤ xss.length}) (fun p => [(3, .one (.c (.int .i64 ((xss.take (p.1)).flatten.length : Int)))), (11, .one (.c (.int .i64 ((p.1) : Int))))]) (fun p => []) [0, 9, 10] [0] (fun p => xss.length - (p.1)) ⟨0, by omega⟩ (rn []) ?_ ?_
  exact ⟨by (repeat refine ⟨⟨_, rfl, by first | exact VLe.rf | exact vle_int (by dsimp only; omega)⟩, ?_⟩); exact trivial, by (repeat refine ⟨⟨_, rfl, by first | exact BLe.rf | exact BLe.box AllC.rf | exact BLe.arr (by exact rfl)⟩, ?_⟩); exact trivial, by repeat (first | exact trivial | refine ⟨⟨rfl, by first | (left; intro h; cases h) | (right; rfl), by first | exact (fun _ h => ⟨_, h⟩) | exact (fun _ _ => ⟨_, rfl⟩)⟩, ?_⟩), rfl⟩
  rintro ⟨k, hinv⟩
  dsimp only
  have hf := flat_le (xss := xss) (k := k)
  refine AW_seq ?_
  refine AW_region ?_
  refine AL_b (x_lss rfl rfl rfl) (fun b12 h12 => ?_)
  refine AL_nil ?_
  refine AW_seq ?_
  cases b12
  rotate_left
  · try simp only [tdy] at h12
    refine AW_condT rfl ?_
    refine AW_skip ?_
    refine AW_seq ?_
    refine AW_block ?_
    refine AW_seq ?_
    refine AW_region ?_
    refine AL_p (x_oindex (n := 1) rfl rfl rfl rfl (by kernel_rfl) rfl (k := k) rfl (by omega)) ?_
    refine AL_p (x_oload1 rfl rfl rfl (by kernel_rfl) (by omega) rfl) ?_
    refine AL_p (x_assign rfl rfl) ?_
    refine AL_nil ?_
    refine AW_seq ?_
    refine AW_region ?_
    refine AL_p (x_move rfl rfl) ?_
    refine AL_p (x_move rfl rfl) ?_
    refine AL_p (x_len (E := 72) (n := 1) rfl rfl (by kernel_rfl)) ?_
    refine AL_p (x_add rfl rfl rfl (by have := flat_len1 (xss := xss) (k := k) (by omega); exact IntWalk.i64_in _ (by have := flat_le (xss := xss) (k := k + 1); omega))) ?_
    refine AL_p (x_assign rfl rfl) ?_
    refine AL_nil ?_
    refine AW_seq ?_
    refine AW_region ?_
    refine AL_p (x_move rfl rfl) ?_
    refine AL_b (x_lss rfl rfl rfl) (fun b20 h20 => ?_)
    refine AL_nil ?_
    cases b20
    rotate_left
    · exfalso; have := flat_len1 (xss := xss) (k := k) (by omega); simp at h20; omega
    try simp only [tdy] at h20
    have q4 := flat_len1 (xss := xss) (k := k) (by omega)
    refine AW_condF rfl ?_
    refine AW_skip ?_
    refine AW_region ?_
    refine AL_p (x_add rfl rfl rfl (IntWalk.i64_in _ (by omega))) ?_
    refine AL_p (x_move rfl rfl) ?_
    refine AL_nil ?_
    refine ⟨⟨k + 1, by omega⟩, rn [], ?_, by dsimp only; omega⟩
    exact ⟨by (repeat refine ⟨⟨_, rfl, by first | exact VLe.rf | exact vle_int (by dsimp only; omega)⟩, ?_⟩); exact trivial, by (repeat refine ⟨⟨_, rfl, by first | exact BLe.rf | exact BLe.box AllC.rf | exact BLe.arr (by exact rfl)⟩, ?_⟩); exact trivial, by repeat (first | exact trivial | refine ⟨⟨rfl, by first | (left; intro h; cases h) | (right; rfl), by first | exact (fun _ h => ⟨_, h⟩) | exact (fun _ _ => ⟨_, rfl⟩)⟩, ?_⟩), rfl⟩
  try simp only [tdy] at h12
  have e0 : (xss.take k).flatten = xss.flatten := flat_all (by omega)
  rw [e0]
  refine AW_condF rfl ?_
  refine AW_exit (BQ_hit ?_)
  refine AW_seq ?_
  refine AW_region ?_
  refine AL_p (x_move rfl rfl) ?_
  refine AL_p (x_call1 rfl rfl rfl (growRow_c xss.flatten.length hl 100) rfl rfl rfl rfl) ?_
  refine AL_p (x_assign rfl rfl) ?_
  refine AL_nil ?_
  refine AW_seq ?_
  refine AW_seq ?_
  refine AW_region ?_
  refine AL_p (x_move rfl rfl) ?_
  refine AL_p (x_olen (E := 61) (n := 1) rfl rfl rfl (by kernel_rfl)) ?_
  refine AL_p (x_move rfl rfl) ?_
  refine AL_nil ?_
  refine AW_block ?_
  refine AW_shallow 100 rfl ?_
  refine AW_loop2 (ι := {q : Nat // q ≤ xss.length}) (fun p => [(6, .one (.own 100)), (27, .one (.c (.int .i64 ((p.1) : Int))))]) (fun p => [(100, some (.arr 72 rowE (xss.take (p.1)).flatten false))]) [25, 26] [0] (fun p => xss.length - (p.1)) ⟨0, by omega⟩ (rn []) ?_ ?_
  exact ⟨by (repeat refine ⟨⟨_, rfl, by first | exact VLe.rf | exact vle_int (by dsimp only; omega)⟩, ?_⟩); exact trivial, by (repeat refine ⟨⟨_, rfl, by first | exact BLe.rf | exact BLe.box AllC.rf | exact BLe.arr (by first | exact flat_zero | exact flat_more (by omega))⟩, ?_⟩); exact trivial, by repeat (first | exact trivial | refine ⟨⟨rfl, by first | (left; intro h; cases h) | (right; rfl), by first | exact (fun _ h => ⟨_, h⟩) | exact (fun _ _ => ⟨_, rfl⟩)⟩, ?_⟩), rfl⟩
  rintro ⟨k, hinv⟩
  dsimp only
  refine AW_seq ?_
  refine AW_region ?_
  refine AL_b (x_lss rfl rfl rfl) (fun b28 h28 => ?_)
  refine AL_nil ?_
  refine AW_seq ?_
  cases b28
  · try simp only [tdy] at h28
    refine AW_condF rfl ?_
    refine AW_exit (BQ_hit ?_)
    refine AW_seq ?_
    refine AW_region ?_
    refine AL_p (x_move rfl rfl) ?_
    refine AL_p (x_assign rfl rfl) ?_
    refine AL_nil ?_
    refine AW_ret ?_
    exact ⟨rn [(1, 100)], ⟨⟨⟨_, rfl, VLe.rf⟩, trivial⟩, ⟨⟨_, rfl, BLe.arr (flat_all (by omega))⟩, trivial⟩, trivial, rfl⟩⟩
  try simp only [tdy] at h28
  refine AW_condT rfl ?_
  refine AW_skip ?_
  refine AW_seq ?_
  refine AW_block ?_
  refine AW_seq ?_
  refine AW_region ?_
  refine AL_p (x_oindex (n := 1) rfl rfl rfl rfl (by kernel_rfl) rfl (k := k) rfl (by omega)) ?_
  refine AL_p (x_oload1 rfl rfl rfl (by kernel_rfl) (by omega) rfl) ?_
  refine AL_p (x_assign rfl rfl) ?_
  refine AL_nil ?_
  refine AW_region ?_
  refine AL_p (x_move rfl rfl) ?_
  refine AL_p (x_move rfl rfl) ?_
  refine AL_p (y_append_sl 101 false (.inl rfl) rfl rfl rfl rfl rfl rfl (by kernel_rfl) (by have := flat_le (xss := xss) (k := k + 1); have := flat_len1 (xss := xss) (k := k) (by omega); omega)) ?_
  refine AL_p (x_assign rfl rfl) ?_
  refine AL_nil ?_
  refine AW_region ?_
  refine AL_p (x_add rfl rfl rfl (IntWalk.i64_in _ (by omega))) ?_
  refine AL_p (x_move rfl rfl) ?_
  refine AL_nil ?_
  refine ⟨⟨k + 1, by omega⟩, rn [(100, 101)], ?_, by dsimp only; omega⟩
  exact ⟨by (repeat refine ⟨⟨_, rfl, by first | exact VLe.rf | exact vle_int (by dsimp only; omega)⟩, ?_⟩); exact trivial, by (repeat refine ⟨⟨_, rfl, by first | exact BLe.rf | exact BLe.box AllC.rf | exact BLe.arr (by first | exact flat_zero | exact flat_more (by omega))⟩, ?_⟩); exact trivial, by repeat (first | exact trivial | refine ⟨⟨rfl, by first | (left; intro h; cases h) | (right; rfl), by first | exact (fun _ h => ⟨_, h⟩) | exact (fun _ _ => ⟨_, rfl⟩)⟩, ?_⟩), rfl⟩

set_option maxHeartbeats 4000000 in
theorem relOfI_c0 (ar : Int) (rows : List (List Val)) (hv : ValsOk rows) (hs : smallRel ⟨ar, rows⟩) : AC Tryz.prog 41 [.one (.c (.int .i64 ar)), .one (.sl rowE rows)] [] (.tup [.agg [.c (.int .i64 (relOf ar rows).1.arity), .own 0], .one (.c (.bool (relOf ar rows).2))]) [(0, some (.arr 72 rowE (relOf ar rows).1.rows true))] := by
  refine AC_bodyCT (n := 2) (k := 9) (T := [(4, .one (.ptr 9 0)), (5, .one (.c (.bool (relOf ar rows).2)))]) (Lf := ((9, some (.box [.c (.int .i64 (relOf ar rows).1.arity), .own 0])) :: [(0, some (.arr 72 rowE (relOf ar rows).1.rows true))])) Tryz.func41 rfl rfl Tryz.ntmps41 rfl Tryz.results41 rfl rfl rfl rfl (by kernel_rfl) rfl rfl ⟨trivial, (by repeat (first | exact trivial | refine ⟨⟨_, rfl, BLe.rf⟩, ?_⟩)), (by repeat (first | exact trivial | refine ⟨⟨rfl, by first | (left; intro h; cases h) | (right; rfl), by first | exact (fun _ h => ⟨_, h⟩) | exact (fun _ _ => ⟨_, rfl⟩)⟩, ?_⟩)), rfl⟩ ?_
  refine AW_seq ?_
  refine AW_region ?_
  refine AL_p (x_alloc (z := .agg #[.int .i64 0, .slice none 0 0]) 100 rfl (by kernel_rfl) rfl rfl rfl rfl) ?_
  refine AL_p (x_assign rfl rfl) ?_
  refine AL_nil ?_
  refine AW_seq ?_
  refine AW_region ?_
  refine AL_p (x_move rfl rfl) ?_
  refine AL_p (x_move rfl rfl) ?_
  refine AL_p (x_build (zs := [.int .i64 0, .slice none 0 0]) (places := [(0, 1), (1, 1)]) rfl (by kernel_rfl) rfl rfl rfl rfl rfl) ?_
  refine AL_p (x_call1 rfl rfl rfl (copyI_c ⟨ar, rows⟩ hs 0) rfl rfl rfl rfl) ?_
  refine AL_p (x_alloc (z := .agg #[.int .i64 0, .slice none 0 0]) 101 rfl (by kernel_rfl) rfl rfl rfl rfl) ?_
  refine AL_p (x_store (n := 2) rfl rfl rfl rfl (by kernel_rfl) rfl rfl rfl) ?_
  refine AL_nil ?_
  refine AW_seq ?_
  refine AW_region ?_
  refine AL_p (x_field (off := 1) (o' := 1) rfl rfl rfl (by kernel_rfl) rfl) ?_
  refine AL_p (x_load1 rfl rfl rfl (by kernel_rfl) rfl) ?_
  refine AL_p (x_call (ks := []) (L := [(0, some _)]) (L' := [(0, some _)]) rfl rfl rfl (sortRow_c rows hv hs.1 true) rfl AllV.rf (caught_of rfl) rfl rfl rfl ⟨rfl, trivial⟩ rfl) ?_
  refine AL_nil ?_
  refine AW_seq ?_
  refine AW_region ?_
  refine AL_p (x_field (off := 1) (o' := 1) rfl rfl rfl (by kernel_rfl) rfl) ?_
  refine AL_p (x_load1 rfl rfl rfl (by kernel_rfl) rfl) ?_
  refine AL_p (x_call (ks := []) (L := [(0, some _)]) (L' := [(0, none), (102, some _)]) rfl rfl rfl (AT.lend1 (compact_t (ordRows rows) (by rw [ordRows_len hv]; exact hs.1) (ordRows_small hv fun r hr => (hs.2 r hr).1)) 0 102 rfl (fun _ => rfl)) rfl AllV.rf (caught_of rfl) rfl rfl rfl ⟨rfl, trivial⟩ rfl) ?_
  refine AL_p (x_field (off := 1) (o' := 1) rfl rfl rfl (by kernel_rfl) rfl) ?_
  refine AL_p (x_store (n := 1) rfl rfl rfl rfl (by kernel_rfl) rfl rfl rfl) ?_
  refine AL_nil ?_
  refine AW_seq ?_
  refine AW_seq ?_
  refine AW_region ?_
  refine AL_p (x_field (off := 1) (o' := 1) rfl rfl rfl (by kernel_rfl) rfl) ?_
  refine AL_p (x_load1 rfl rfl rfl (by kernel_rfl) rfl) ?_
  refine AL_p (x_olen (E := 72) (n := 1) rfl rfl rfl (by kernel_rfl)) ?_
  refine AL_b (x_gtr rfl rfl rfl) (fun b21 h21 => ?_)
  refine AL_nil ?_
  cases b21
  rotate_left
  · try simp only [tdy] at h21
    have hso := ordRows_uniq hv
    have hno := relOf_big (ar := ar) (rows := rows) (by rw [← hso]; omega)
    refine AW_condT rfl ?_
    refine AW_seq ?_
    refine AW_region ?_
    refine AL_p (x_build (zs := [.int .i64 0, .slice none 0 0]) (places := [(0, 1), (1, 1)]) rfl (by kernel_rfl) rfl rfl rfl rfl rfl) ?_
    refine AL_p (x_store (n := 2) rfl rfl rfl rfl (by kernel_rfl) rfl rfl rfl) ?_
    refine AL_p (x_assign rfl rfl) ?_
    refine AL_nil ?_
    refine AW_adopt (T := 72) (e := rowE) 103 100 1 rfl rfl rfl rfl rfl ?_
    refine AW_ret ?_
    exact ⟨rn [(9, 100), (0, 103)], ⟨⟨⟨_, rfl, VLe.rf⟩, ⟨_, rfl, by first | (refine vle_bool ?_; rw [hno]; done) | exact VLe.rf | (refine vle_bool ?_; rw [hno]; apply Eq.symm; assumption) | exact vle_bool (by rw [hno])⟩, trivial⟩, ⟨⟨_, rfl, by first | (refine ble_eq ?_; rw [hno]; done) | (refine ble_eq ?_; rw [hno]; rfl) | exact BLe.rf⟩, ⟨_, rfl, by first | (refine BLe.arr ?_; rw [hno]; done) | (refine BLe.arr ?_; rw [hno]; exact hso) | (refine BLe.arr ?_; rw [hno]; rfl) | exact BLe.rf⟩, trivial⟩, trivial, rfl⟩⟩
  try simp only [tdy] at h21
  have hso := ordRows_uniq hv
  have hno := relOf_ok (ar := ar) (rows := rows) (by rw [← hso]; omega)
  refine AW_condF rfl ?_
  refine AW_skip ?_
  refine AW_seq ?_
  refine AW_region ?_
  refine AL_p (x_loadN (n := 2) rfl rfl rfl (by kernel_rfl) rfl rfl) ?_
  refine AL_p (x_store (n := 2) rfl rfl rfl rfl (by kernel_rfl) rfl rfl rfl) ?_
  refine AL_p (x_assign rfl rfl) ?_
  refine AL_nil ?_
  refine AW_ret ?_
  exact ⟨rn [(9, 100), (0, 102)], ⟨⟨⟨_, rfl, VLe.rf⟩, ⟨_, rfl, by first | (refine vle_bool ?_; rw [hno]; done) | exact VLe.rf | (refine vle_bool ?_; rw [hno]; apply Eq.symm; assumption) | exact vle_bool (by rw [hno])⟩, trivial⟩, ⟨⟨_, rfl, by first | (refine ble_eq ?_; rw [hno]; done) | (refine ble_eq ?_; rw [hno]; rfl) | exact BLe.rf⟩, ⟨_, rfl, by first | (refine BLe.arr ?_; rw [hno]; done) | (refine BLe.arr ?_; rw [hno]; exact hso) | (refine BLe.arr ?_; rw [hno]; rfl) | exact BLe.rf⟩, trivial⟩, trivial, rfl⟩⟩
theorem relOfI_c (ar : Int) (rows : List (List Val)) (hv : ValsOk rows) (hs : smallRel ⟨ar, rows⟩) (k : Nat) : AC Tryz.prog 41 [.one (.c (.int .i64 ar)), .one (.sl rowE rows)] [] (.tup [.agg [.c (.int .i64 (relOf ar rows).1.arity), .own k], .one (.c (.bool (relOf ar rows).2))]) [(k, some (.arr 72 rowE (relOf ar rows).1.rows true))] := AC.at (relOfI_c0 ar rows hv hs) k

end Go.Proofs.YtibhoanjglfaoaaGreat
