/- Lemmas of the walks, part 3. -/
import Derived.Test.YtkemjhlbokldhaaC2
import Derived.Deep.RegionHeld3
import Derived.Laws.StructEq
import Derived.Laws.Strings
import Derived.Lib.AppendStr
import Derived.Lib.ConvBytes
import Derived.Lib.BufferRead
import Derived.Laws.CopyRow
import Derived.Laws.NewBlocks
import Derived.Lib.AppendZerosOnto
import Derived.Lib.Overlaps
import Derived.Lib.SliceRun
import Derived.Lib.JoinLaws
import Derived.Shelf.Spec.SlicesInsert
import Derived.Deep.RegionLaw
import Derived.Laws.Small
/- The abstract walk of a law: phases, between which own data is written anew (marks). -/
namespace Go.Proofs.Ytkemjhlbokldhaa
open Go.RowKit
set_option linter.unusedVariables false

/-- A phase: what stood at its start (blocks below B) is read alone; what is one's own was made since. -/
structure Ph (B : Nat) (g : Gh) (s : St) (w : World) : Prop where
  le : B ≤ w.heap.size
  old : ∀ b, b < B → g.I b
  own : ∀ b, OwnB g s.l b → B ≤ b
theorem Ph.step {B : Nat} {g g' : Gh} {s s' : St} {w w' : World} (p : Ph B g s w) (hs : Step [] g s.l w g' s'.l w') : Ph B g' s' w' ∧ Below B w w' :=
  ⟨⟨Nat.le_trans p.le hs.size, fun b hb => hs.imm b (p.old b hb), fun b hb => (hs.own b hb).elim (p.own b) fun h => Nat.le_trans p.le h⟩,
   hs.os, hs.tape, hs.output, hs.size, fun b hb => hs.keep b (Nat.lt_of_lt_of_le hb p.le) fun k blk hk hl e => by
    have := p.own b (e ▸ OwnB.of_live hk hl)
    omega⟩
def EndsM (N B : Nat) (w : World) (R : Exit → St → Prop) : Exit → Act → World → Prop := fun e a' w' => ∃ g' s', Rep N g' s' a' w' ∧ Ph B g' s' w' ∧ Below B w w' ∧ R e s'
theorem EndsM.back {N B : Nat} {w w1 : World} {R : Exit → St → Prop} {e : Exit} {a : Act} {w2 : World} (hb : Below B w w1) (h : EndsM N B w1 R e a w2) : EndsM N B w R e a w2 := by
  obtain ⟨g', s', r, p, b, hR⟩ := h
  exact ⟨g', s', r, p, hb.trans b, hR⟩
theorem EndsM.down {N B B' : Nat} {w : World} {R : Exit → St → Prop} {e : Exit} {a : Act} {w2 : World} (hB : B ≤ B') (h : EndsM N B' w R e a w2) : EndsM N B w R e a w2 := by
  obtain ⟨g', s', r, p, b, hR⟩ := h
  exact ⟨g', s', r, ⟨Nat.le_trans hB p.le, fun b hb => p.old b (Nat.lt_of_lt_of_le hb hB), fun b hb => Nat.le_trans hB (p.own b hb)⟩, b.mono hB, hR⟩
def AM (P : Program) (N B : Nat) (c : Code) (Kn : St → Prop) (Q : Exit → St → Prop) (s : St) : Prop :=
  ∀ (g : Gh) (a : Act) (w : World), Rep N g s a w → Ph B g s w → c.wp P (EndsM N B w (NormR Kn Q)) a w
section rules
variable {P : Program} {N B : Nat} {Kn : St → Prop} {Q : Exit → St → Prop} {s : St}
theorem AM_of {c : Code} (h : AW P N [] c Kn Q s) : AM P N B c Kn Q s := fun g a w r p =>
  Go.wp_mono (h g a w r) fun e a1 w1 ⟨g1, s1, r1, hs, hR⟩ => ⟨g1, s1, r1, (p.step hs).1, (p.step hs).2, hR⟩
theorem AM_region {id : Nat} {l : List Oper} (h : AL P N false l.toArray Kn l s []) : AM P N B (.region id l.toArray false) Kn Q s := AM_of (AW_region h)
theorem AM_skip (h : Kn s) : AM P N B .skip Kn Q s := AM_of (AW_skip h)
theorem AM_ret (h : Q .ret s) : AM P N B .ret Kn Q s := AM_of (AW_ret h)
theorem AM_seq {x y : Code} (h : AM P N B x (AM P N B y Kn Q) Q s) : AM P N B (.seq x y) Kn Q s := fun g a w r p =>
  wp_seq (Go.wp_mono (h g a w r p) fun e a1 w1 h1 => by
    obtain ⟨g1, s1, r1, p1, b1, hR⟩ := h1
    cases e with
    | normal => exact Go.wp_mono (hR g1 a1 w1 r1 p1) fun e a2 w2 h2 => h2.back b1
    | exit id => exact ⟨g1, s1, r1, p1, b1, hR⟩
    | goto l => exact ⟨g1, s1, r1, p1, b1, hR⟩
    | ret => exact ⟨g1, s1, r1, p1, b1, hR⟩
    | panic ch => exact ⟨g1, s1, r1, p1, b1, hR⟩
    | outgrown => exact ⟨g1, s1, r1, p1, b1, hR⟩)
theorem AM_condT {c : Operand} {x y : Code} (hc : evo s.t c = some (.one (.c (.bool true)))) (h : AM P N B x Kn Q s) : AM P N B (.cond c x y) Kn Q s := fun g a w r p => by
  obtain ⟨hv, _⟩ : a.eval c = .bool true ∧ wfV (.bool true) := eval_ok r (evs_of hc) (rdo_of hc)
  exact wp_cond_split hv (fun _ => h g a w r p) (fun h => by cases h)
theorem AM_condF {c : Operand} {x y : Code} (hc : evo s.t c = some (.one (.c (.bool false)))) (h : AM P N B y Kn Q s) : AM P N B (.cond c x y) Kn Q s := fun g a w r p => by
  obtain ⟨hv, _⟩ : a.eval c = .bool false ∧ wfV (.bool false) := eval_ok r (evs_of hc) (rdo_of hc)
  exact wp_cond_split hv (fun h => by cases h) (fun _ => h g a w r p)
end rules

/-! ### A new phase -/
/-- What a slot holds, where all that stands is read alone from now on. -/
inductive Rise (l : Locs) (B B' : Nat) : AVal → AVal → Prop
  | c {v : Value} : Rise l B B' (.one (.c v)) (.one (.c v))
  | box {k : Nat} {cs ds : List Cell} {js : List Nat} {d : Bool} {α : Type} {e : Enc α} {f : α → List Cell} [hc : CellsOf e f] {x : α} (hb : lkl l k = some (.box cs)) (hm : mvC l cs = some (ds, js, d)) (hj : noDup js = true) (hf : FitL ds (f x)) : Rise l B B' (.one (.ptr k 0)) (.one (.epo B' e x 0))
  | own {k : Nat} {α : Type} {T : TypeId} {e : Enc α} {xs : List α} {d : Bool} (hb : lkl l k = some (.arr T e xs d)) : Rise l B B' (.one (.own k)) (.one (.slo B' e xs))
  | epo {α : Type} {e : Enc α} {x : α} {o : Nat} : Rise l B B' (.one (.epo B e x o)) (.one (.epo B' e x o))
  | slo {α : Type} {e : Enc α} {xs : List α} : Rise l B B' (.one (.slo B e xs)) (.one (.slo B' e xs))
  | sl {α : Type} {e : Enc α} {xs : List α} : Rise l B B' (.one (.sl e xs)) (.one (.slo B' e xs))
  | agg {cs ds : List Cell} {js : List Nat} {d : Bool} {α : Type} {e : Enc α} {f : α → List Cell} [hc : CellsOf e f] {x : α} (hm : mvC l cs = some (ds, js, d)) (hj : noDup js = true) (hf : FitL ds (f x)) (hs : (f x).all Cell.dat = true) : Rise l B B' (.agg cs) (.agg (f x))
def RiseT (l : Locs) (B B' : Nat) (t : Tmps) : Tmps → Prop
  | [] => True
  | (k, x) :: r => (∃ y, lk t k = some y ∧ Rise l B B' y x) ∧ RiseT l B B' t r
theorem RiseT.get {l : Locs} {B B' : Nat} {t : Tmps} : ∀ {T : Tmps} {k : Nat} {x : AVal}, RiseT l B B' t T → lk T k = some x → ∃ y, lk t k = some y ∧ Rise l B B' y x
  | [], k, x, _, h => by simp [lk] at h
  | (j, z) :: r, k, x, hT, h => by
    by_cases e : j = k
    · subst e; rw [lk_cons_self] at h; cases h; exact hT.1
    · rw [lk_cons_ne e] at h; exact RiseT.get hT.2 h
theorem Rise.ok {g : Gh} {l : Locs} {w : World} {B : Nat} (m : MemR g l w) {v : Value} {x y : AVal} (h : Rise l B w.heap.size x y) (hv : VR g l w v x) : VR (allI w) [] w v y := by
  cases h with
  | c => exact hv
  | @box k cs ds js d α e f hc x hb hm hj hf =>
    have he : v = .pointer (some ⟨g.ρ k, 0, none⟩) := hv cs hb
    obtain ⟨vs, t, h1, h2, h3⟩ := m.box k cs hb
    obtain ⟨bs, f1, f2, _⟩ := mvC_ok m h2 hm (noDup_of hj)
    have hr : e.rep w vs.toList x bs := hc.iff.2 (f1.fit hf)
    exact ⟨g.ρ k, 0, vs.toList, bs, he, ⟨(Array.getElem?_eq_some_iff.1 h1).1, (Array.getElem?_eq_some_iff.1 h1).1⟩, hr, fun c hcb => ⟨e.lt hr c hcb, e.lt hr c hcb⟩, fun j u hu => by rw [cell_of_heap h1, Nat.zero_add]; simpa using hu⟩
  | @own k α T e xs d hb =>
    obtain ⟨a, n, cap, bs, h1, h2, h3, _⟩ := (m.arr k α T e xs d hb).slice
    have he : v = g.hd k := hv α T e xs d hb
    exact ⟨a, n, cap, bs, he.trans h1, h2, fun b hbb => ⟨h2.lt b hbb, h2.lt b hbb⟩⟩
  | epo =>
    obtain ⟨gb, o, cs, b, h1, h2, h3, h4, h5⟩ := hv
    have hg := m.ilt gb h2.1
    exact ⟨gb, o, cs, b, h1, ⟨hg, hg⟩, h3, fun c hc => ⟨m.ilt c (h4 c hc).1, m.ilt c (h4 c hc).1⟩, h5⟩
  | slo =>
    obtain ⟨a, n, cap, bs, h1, h2, h3⟩ := hv
    exact ⟨a, n, cap, bs, h1, h2, fun b hb => ⟨h2.lt b hb, h2.lt b hb⟩⟩
  | sl =>
    obtain ⟨a, n, cap, bs, h1, h2, h3⟩ := hv
    exact ⟨a, n, cap, bs, h1, h2, fun b hb => ⟨h2.lt b hb, h2.lt b hb⟩⟩
  | @agg cs ds js d α e f hc x hm hj hf hs =>
    obtain ⟨vs, h1, h2⟩ := hv
    obtain ⟨bs, f1, f2, _⟩ := mvC_ok m h2 hm (noDup_of hj)
    have hr : e.rep w vs x bs := hc.iff.2 (f1.fit hf)
    exact ⟨vs, h1, (f1.fit hf).all2 fun i hi => e.lt hr i hi⟩
/-- From here on all that stands is read alone. -/
theorem AM_raise {P : Program} {N B : Nat} {c : Code} {Kn : St → Prop} {Q : Exit → St → Prop} {s : St} (T : Nat → Tmps) (hT : ∀ B', RiseT s.l B B' s.t (T B')) (h : ∀ B', AM P N B' c Kn Q ⟨T B', []⟩) : AM P N B c Kn Q s := fun g a w r p => by
  have r2 : Rep N (allI w) ⟨T w.heap.size, []⟩ a w := ⟨r.size, r.defers, fun k x hk => by
    obtain ⟨y, h1, h2⟩ := (hT w.heap.size).get hk
    exact h2.ok r.mem (r.tmp k y h1), allI_mem w⟩
  exact Go.wp_mono (h w.heap.size (allI w) a w r2 ⟨Nat.le_refl _, fun b hb => hb, fun b ⟨k, blk, hk, _⟩ => by simp [lkl, lk] at hk⟩) fun e a1 w1 h1 => h1.down p.le

/-! ### What a mark leaves standing -/
def HardC (B : Nat) (js : List Nat) : Cell → Prop
  | .c _ => True
  | .any => True
  | .ptr _ _ => True
  | .own j => noId j js = true
  | .slo B' _ _ => B' = B
  | .epo B' _ _ _ => B' = B
  | _ => False
def hardAll (B : Nat) (js : List Nat) : List Cell → Prop
  | [] => True
  | c :: cs => HardC B js c ∧ hardAll B js cs
theorem hardAll.get {B : Nat} {js : List Nat} : ∀ {cs : List Cell}, hardAll B js cs → ∀ x ∈ cs, HardC B js x
  | [], _, x, h => by cases h
  | c :: cs, h, x, hx => by
    rcases List.mem_cons.1 hx with rfl | hx
    · exact h.1
    · exact hardAll.get h.2 x hx
def HardV (B : Nat) (js : List Nat) : AVal → Prop
  | .one x => HardC B js x
  | .agg xs => hardAll B js xs
  | .tup _ => False
def HardB (B : Nat) (js : List Nat) (k : Nat) : Blk → Prop
  | .box cs => hardAll B js cs
  | .arr _ _ _ d => d = true ∧ noId k js = true
def SubT (B : Nat) (js : List Nat) (t : Tmps) : Tmps → Prop
  | [] => True
  | (k, x) :: r => (lk t k = some x ∧ HardV B js x) ∧ SubT B js t r
def SubL (B : Nat) (js : List Nat) (l : Locs) : Locs → Prop
  | [] => True
  | (k, some b) :: r => (lkl l k = some b ∧ HardB B js k b) ∧ SubL B js l r
  | (_, none) :: r => SubL B js l r
theorem SubT.get {B : Nat} {js : List Nat} {t : Tmps} : ∀ {T : Tmps} {k : Nat} {x : AVal}, SubT B js t T → lk T k = some x → lk t k = some x ∧ HardV B js x
  | [], k, x, _, h => by simp [lk] at h
  | (j, z) :: r, k, x, hT, h => by
    by_cases e : j = k
    · subst e; rw [lk_cons_self] at h; cases h; exact hT.1
    · rw [lk_cons_ne e] at h; exact SubT.get hT.2 h
theorem SubL.get {B : Nat} {js : List Nat} {l : Locs} : ∀ {L : Locs} {k : Nat} {b : Blk}, SubL B js l L → lkl L k = some b → lkl l k = some b ∧ HardB B js k b
  | [], k, b, _, h => by simp [lkl, lk] at h
  | (j, z) :: r, k, b, hL, h => by
    by_cases e : j = k
    · subst e; rw [lkl_cons_self] at h; subst h; exact hL.1
    · cases z with
      | none => rw [lkl_cons_ne e] at h; exact SubL.get (L := r) hL h
      | some z => rw [lkl_cons_ne e] at h; exact SubL.get hL.2 h
section back
variable {N B : Nat} {g : Gh} {s : St} {a : Act} {w w' : World} {js : List Nat} {bs : List Nat} {L : Locs}
/-- The names behind a mark. -/
def Gh.after (g : Gh) (B : Nat) (L : Locs) : Gh := { g with I := fun b => b < B ∨ ∃ (j : Nat) (α : Type) (T : TypeId) (e : Enc α) (xs : List α), lkl L j = some (.arr T e xs true) ∧ b ∈ g.F j }
theorem hard_cell (p : Ph B g s w) (hb : ∀ b ∈ bs, ∃ j ∈ js, Via g s.l j b) (o : Only bs w w') (hL : SubL B js s.l L) {v : Value} {x : Cell} (hx : HardC B js x) (h : CellR g s.l w v x) : CellR (g.after B L) L w' v x := by
  have lo : ∀ b, b < B → b ∉ bs := fun b h1 h2 => by
    obtain ⟨j, _, hv⟩ := hb b h2
    have := p.own b hv.own
    omega
  have kp : ∀ b, b < B → w'.heap[b]? = w.heap[b]? := fun b h1 => o.keep b (Nat.lt_of_lt_of_le h1 p.le) (lo b h1)
  cases x with
  | c u => exact h
  | any => trivial
  | own j => exact fun α T e xs d hk => h α T e xs d (hL.get hk).1
  | ptr k off => exact fun cs hk => h cs (hL.get hk).1
  | slo B' e xs =>
    obtain rfl : B' = B := hx
    obtain ⟨a, n, cap, b1, h1, h2, h3⟩ := h
    exact ⟨a, n, cap, b1, h1, h2.keep (fun b hbb => kp b (h3 b hbb).2) o.size, fun b hbb => ⟨.inl (h3 b hbb).2, (h3 b hbb).2⟩⟩
  | epo B' e z off =>
    obtain rfl : B' = B := hx
    obtain ⟨gb, of, cs, b1, h1, h2, h3, h4, h5⟩ := h
    exact ⟨gb, of, cs, b1, h1, ⟨.inl h2.2, h2.2⟩, e.keep h3 (fun c hc => kp c (h4 c hc).2) o.size, fun c hc => ⟨.inl (h4 c hc).2, (h4 c hc).2⟩, fun j u hu => (World.cell?_of_block (w := w) (kp gb h2.2)).trans (h5 j u hu)⟩
  | _ => exact hx.elim
theorem hard_val (p : Ph B g s w) (hb : ∀ b ∈ bs, ∃ j ∈ js, Via g s.l j b) (o : Only bs w w') (hL : SubL B js s.l L) {v : Value} {x : AVal} (hx : HardV B js x) (h : VR g s.l w v x) : VR (g.after B L) L w' v x := by
  cases x with
  | one x => exact hard_cell p hb o hL hx h
  | agg xs =>
    obtain ⟨vs, h1, h2⟩ := h
    exact ⟨vs, h1, h2.mono fun a b hm hr => hard_cell p hb o hL (hardAll.get hx b hm) hr⟩
  | tup xs => exact hx.elim
theorem after_rep (r : Rep N g s a w) (p : Ph B g s w) (hb : ∀ b ∈ bs, ∃ j ∈ js, Via g s.l j b) (o : Only bs w w') {T : Tmps} (hT : SubT B js s.t T) (hL : SubL B js s.l L) :
    Rep N (g.after B L) ⟨T, L⟩ a w' ∧ Ph B (g.after B L) ⟨T, L⟩ w' ∧ Below B w w' := by
  have m := r.mem
  have lo : ∀ b ∈ bs, B ≤ b := fun b h2 => by
    obtain ⟨j, _, hv⟩ := hb b h2
    exact p.own b hv.own
  have out : ∀ {k blk}, lkl L k = some blk → liv g k blk → g.ρ k ∉ bs := fun {k blk} hk hl hm => by
    obtain ⟨hk', hh⟩ := hL.get hk
    obtain ⟨j, hj, α, T, e, xs, h1, h2⟩ := hb _ hm
    have hne : k ≠ j := fun e => by
      subst e
      rw [hk'] at h1; cases h1
      exact noId_of hh.2 hj
    rcases h2 with ⟨h3, h4⟩ | h3
    · exact m.dis k j _ _ hne hk' h1 hl h3 h4
    · exact m.notI hk' hl ((m.fr j α T e xs h1).2 _ h3).1
  have outF : ∀ {k : Nat} {α : Type} {T : TypeId} {e : Enc α} {xs : List α}, lkl L k = some (.arr T e xs true) → ∀ b ∈ g.F k, b ∉ bs := fun {k α T e xs} hk b hbF hm => by
    obtain ⟨hk', hh⟩ := hL.get hk
    obtain ⟨j, hj, hv⟩ := hb _ hm
    have : k = j := Via.disj m ⟨α, T, e, xs, hk', .inr hbF⟩ hv
    subst this
    exact noId_of hh.2 hj
  have own : ∀ {b}, OwnB (g.after B L) L b → OwnB g s.l b := fun {b} ⟨k, blk, hk, h⟩ => ⟨k, blk, (hL.get hk).1, h⟩
  have nI : ∀ {k blk}, lkl L k = some blk → liv g k blk → ¬ (g.after B L).I (g.ρ k) := fun {k blk} hk hl hI => by
    rcases hI with h1 | ⟨j, α, T, e, xs, h1, h2⟩
    · have := p.own _ (OwnB.of_live (hL.get hk).1 hl); omega
    · exact m.notI (hL.get hk).1 hl ((m.fr j α T e xs (hL.get h1).1).2 _ h2).1
  have hp : ∀ {k blk}, lkl L k = some blk → liv g k blk → w'.heap[g.ρ k]? = w.heap[g.ρ k]? := fun {k blk} hk hl => o.keep _ (m.lt (hL.get hk).1 hl) (out hk hl)
  have hpF : ∀ {k : Nat} {α : Type} {T : TypeId} {e : Enc α} {xs : List α}, lkl L k = some (.arr T e xs true) → ∀ b ∈ g.F k, w'.heap[b]? = w.heap[b]? := fun {k α T e xs} hk b hbF => o.keep b (m.ilt b ((m.fr k α T e xs (hL.get hk).1).2 b hbF).1) (outF hk b hbF)
  refine ⟨⟨r.size, r.defers, fun k x hk => ?_, ⟨fun b hI => ?_, fun k cs hk => ?_, fun k α T e xs d hk => ?_, fun j k b b' hjk hj hk lj lk => m.dis j k b b' hjk (hL.get hj).1 (hL.get hk).1 lj lk, fun k α T e xs hk => ?_, fun j k α β T U e f xs ys hjk hj hk => m.fd j k α β T U e f xs ys hjk (hL.get hj).1 (hL.get hk).1⟩⟩,
    ⟨Nat.le_trans p.le o.size, fun b hb => .inl hb, fun b hb => p.own b (own hb)⟩, o.os, o.tape, o.output, o.size, fun b h1 => o.keep b (Nat.lt_of_lt_of_le h1 p.le) fun h2 => by have := lo b h2; omega⟩
  · obtain ⟨h1, h2⟩ := hT.get hk
    exact hard_val p hb o hL h2 (r.tmp k x h1)
  · refine Nat.lt_of_lt_of_le ?_ o.size
    rcases hI with h1 | ⟨j, α, T, e, xs, h1, h2⟩
    · exact Nat.lt_of_lt_of_le h1 p.le
    · exact m.ilt b ((m.fr j α T e xs (hL.get h1).1).2 b h2).1
  · obtain ⟨h1, h2⟩ := hL.get hk
    obtain ⟨vs, t, h3, h4, h5⟩ := m.box k cs h1
    exact ⟨vs, t, (hp hk trivial).trans h3, h4.mono fun a x hx hr => hard_cell p hb o hL (hardAll.get h2 x hx) hr, nI hk trivial⟩
  · obtain ⟨h1, h2, h3⟩ := hL.get hk
    subst h2
    rcases m.arr k α T e xs true h1 with h4 | ⟨cap, vs, bss, a1, a2, a3, a4, a5, a6, a7, a8, a9⟩
    · exact .inl h4
    · have hl : liv g k (.arr T e xs true) := by show g.hd k ≠ _; rw [a1]; intro e; cases e
      refine .inr ⟨cap, vs, bss, a1, a2, a3, (hp hk hl).trans a4, a5, a6.keep (hp hk hl) (fun b hb => hpF hk b (by rw [a9 rfl]; exact hb)) o.size, fun b hb => .inr ⟨k, α, T, e, xs, hk, by rw [a9 rfl]; exact hb⟩, nI hk hl, a9⟩
  · obtain ⟨h1, h2, h3⟩ := hL.get hk
    obtain ⟨n1, n2⟩ := m.fr k α T e xs h1
    exact ⟨n1, fun b hb => ⟨.inr ⟨k, α, T, e, xs, hk, hb⟩, by
      obtain ⟨_, c, t, h4⟩ := n2 b hb
      exact ⟨c, t, (hpF hk b hb).trans h4⟩⟩⟩
end back

/-! ### Regions in which a mark is called -/
def LM (P : Program) (N B : Nat) (ops : Array Oper) (Kn : St → Prop) (l : List Oper) (s : St) : Prop :=
  ∀ (Q : Exit → St → Prop) (Z : Exit → Act → World → Prop) (g : Gh) (a : Act) (w : World), Rep N g s a w → Ph B g s w → (∀ e a' w', EndsM N B w (NormR Kn Q) e a' w' → Z e a' w') → wpList P ops Z l a w
section lm
variable {P : Program} {N B : Nat} {ops : Array Oper} {Kn : St → Prop} {s : St}
theorem AM_regionM {id : Nat} {l : List Oper} {Q : Exit → St → Prop} (h : LM P N B l.toArray Kn l s) : AM P N B (.region id l.toArray false) Kn Q s := fun g a w r p => wp_region_lit (h Q _ g a w r p fun _ _ _ h => h)
theorem LM_nil (h : Kn s) : LM P N B ops Kn [] s := fun Q Z g a w r p hz => hz _ _ _ ⟨g, s, r, p, Below.refl _ _, h⟩
theorem LM_p {dst : Option Nat} {op : Op} {ty : TypeId} {pos : String} {after : Array Edge} {c : Cert} {r : List Oper} {s' : St} (h : Stp P N ⟨dst, op, ty, pos, after, none⟩ s s' c) (next : LM P N B ops Kn r s') : LM P N B ops Kn (⟨dst, op, ty, pos, after, none⟩ :: r) s := fun Q Z g a w R p hz => by
  obtain ⟨h1, h2, h3⟩ := h
  have h4 := h1 [] g s a w h2 R
  rw [h3] at h4
  unfold wpList
  rw [if_pos (by simp [Region.wanted])]
  refine .inl (Oper.wp_weak (fun a' w' ⟨g', r', hs'⟩ => ?_) h4)
  obtain ⟨p2, b2⟩ := p.step hs'
  exact next Q Z g' a' w' r' p2 fun e a2 w2 h5 => hz e a2 w2 (h5.back b2)
/-- A function that writes a datum anew. -/
def MarkA (P : Program) (f : FuncId) {α : Type} (e : Enc α) (x : α) (k r : Int) (x' : α) : Prop :=
  ∀ (w : World) (cs : List Value) (bs : List Nat), e.rep w cs x bs → Fresh 0 w bs → Calls P f #[.agg cs.toArray, .int .i64 k] w fun e' w' => e' = .returned (.int .i64 r) ∧ e.rep w' cs x' bs ∧ Only bs w w'
theorem via_fresh {g : Gh} {l : Locs} {w : World} (m : MemR g l w) {js bs : List Nat} (h : bs.Nodup ∧ ∀ b ∈ bs, ∃ j ∈ js, Via g l j b) : Fresh 0 w bs := ⟨h.1, fun b hb => by
  obtain ⟨j, _, hv⟩ := h.2 b hb
  exact ⟨Nat.zero_le _, hv.cells m⟩⟩
section mark
variable {d : Nat} {fo x y : Operand} {f : FuncId} {ats : Array TypeId} {ty : TypeId} {pos : String} {after : Array Edge} {r : List Oper} {k r' : Int}
/-- Values that are known by their cells. -/
def firm : Cell → Bool
  | .c _ => true
  | .own _ => true
  | _ => false
theorem firm_eq {g : Gh} {l : Locs} {w : World} : ∀ {vs us : List Value} {cs ds : List Cell} {js : List Nat} {q : Bool}, mvC l cs = some (ds, js, q) → cs.all firm = true → All2 (CellR g l w) vs cs → All2 (CellR g l w) us cs → vs = us
  | [], [], [], _, _, _, _, _, _, _ => rfl
  | [], _ :: _, [], _, _, _, _, _, _, h => h.elim
  | _ :: _, [], [], _, _, _, _, _, h, _ => h.elim
  | [], _, _ :: _, _, _, _, _, _, h, _ => h.elim
  | _ :: _, [], _ :: _, _, _, _, _, _, _, h => h.elim
  | _ :: _, _ :: _, [], _, _, _, _, _, h, _ => h.elim
  | v :: vs, u :: us, c :: cs, ds, js, q, hm, hf, h1, h2 => by
    simp only [List.all_cons, Bool.and_eq_true] at hf
    simp only [mvC] at hm
    split at hm
    · cases hm
    · rename_i ds1 js1 d1 h3
      have ih := firm_eq h3 hf.2 h1.2 h2.2
      subst ih
      cases c with
      | c z => rw [show v = z from h1.1.1, show u = z from h2.1.1]
      | own j =>
        simp only at hm
        split at hm
        · rename_i T e xs q hj
          rw [show v = _ from h1.1 _ _ _ _ _ hj, show u = _ from h2.1 _ _ _ _ _ hj]
        · cases hm
      | _ => cases hf.1
/-- What a slot says, at a new phase behind a mark. -/
inductive Stay (B B' : Nat) : AVal → AVal → Prop
  | c {v : Value} : Stay B B' (.one (.c v)) (.one (.c v))
  | epo {α : Type} {e : Enc α} {x : α} {o : Nat} : Stay B B' (.one (.epo B e x o)) (.one (.epo B' e x o))
  | slo {α : Type} {e : Enc α} {xs : List α} : Stay B B' (.one (.slo B e xs)) (.one (.slo B' e xs))
def StayT (B B' : Nat) (t : Tmps) : Tmps → Prop
  | [] => True
  | (k, x) :: r => (∃ y, lk t k = some y ∧ Stay B B' y x) ∧ StayT B B' t r
theorem StayT.get {B B' : Nat} {t : Tmps} : ∀ {T : Tmps} {k : Nat} {x : AVal}, StayT B B' t T → lk T k = some x → ∃ y, lk t k = some y ∧ Stay B B' y x
  | [], k, x, _, h => by simp [lk] at h
  | (j, z) :: r, k, x, hT, h => by
    by_cases e : j = k
    · subst e; rw [lk_cons_self] at h; cases h; exact hT.1
    · rw [lk_cons_ne e] at h; exact StayT.get hT.2 h
theorem Stay.ok {g : Gh} {l : Locs} {B : Nat} {w w' : World} {v : Value} {x y : AVal} (hs : w.heap.size ≤ w'.heap.size) (hB : B ≤ w.heap.size) (hk : ∀ b, b < B → w'.heap[b]? = w.heap[b]?) (h : Stay B w'.heap.size x y) (hv : VR g l w v x) : VR (allI w') [] w' v y := by
  cases h with
  | c => exact hv
  | epo =>
    obtain ⟨gb, o, cs, b, h1, h2, h3, h4, h5⟩ := hv
    have lt : ∀ c, c < B → c < w'.heap.size := fun c hc => by omega
    exact ⟨gb, o, cs, b, h1, ⟨lt _ h2.2, lt _ h2.2⟩, Enc.keep _ h3 (fun c hc => hk c (h4 c hc).2) hs, fun c hc => ⟨lt _ (h4 c hc).2, lt _ (h4 c hc).2⟩, fun j u hu => (World.cell?_of_block (w := w) (hk gb h2.2)).trans (h5 j u hu)⟩
  | slo =>
    obtain ⟨a, n, cap, bs, h1, h2, h3⟩ := hv
    have lt : ∀ c, c < B → c < w'.heap.size := fun c hc => by omega
    exact ⟨a, n, cap, bs, h1, h2.keep (fun b hb => hk b (h3 b hb).2) hs, fun b hb => ⟨lt _ (h3 b hb).2, lt _ (h3 b hb).2⟩⟩
theorem stay_rep {B : Nat} {g : Gh} {s : St} {a : Act} {w w' : World} {js bs : List Nat} (R : Rep N g s a w) (p : Ph B g s w) (hb : ∀ b ∈ bs, ∃ j ∈ js, Via g s.l j b) (o : Only bs w w') {T : Tmps} (hT : StayT B w'.heap.size s.t T) :
    Rep N (allI w') ⟨T, []⟩ a w' ∧ Ph w'.heap.size (allI w') ⟨T, []⟩ w' ∧ Below B w w' := by
  obtain ⟨q1, q2, q3⟩ := after_rep (T := []) (L := []) R p hb o trivial trivial
  refine ⟨⟨R.size, R.defers, fun k x hk => ?_, allI_mem w'⟩, ⟨Nat.le_refl _, fun b hb => hb, fun b ⟨k, blk, hk, _⟩ => by simp [lkl, lk] at hk⟩, q3⟩
  obtain ⟨y, h1, h2⟩ := hT.get hk
  exact h2.ok o.size p.le q3.block (R.tmp k y h1)
/-- The mark of a struct that lies in variable b, to which slot t points; from here on all is read alone. -/
theorem LM_markAK {cs ds : List Cell} {js : List Nat} {α : Type} {e : Enc α} {F : α → List Cell} [hc : CellsOf e F] {z z' : α} (t b : Nat) (T : Nat → Tmps) (hN : Nat.blt d N = true) (hev : evo s.t fo = some (.one (.clo f []))) (hx : evo s.t x = some (.agg cs)) (hy : evo s.t y = some (.one (.c (.int .i64 k))))
    (ht : lk s.t t = some (.one (.ptr b 0))) (hb : lkl s.l b = some (.box cs)) (hfm : cs.all firm = true) (htd : Nat.beq d t = false)
    (hf : Callable P f) (hM : MarkA P f e z k r' z') (hm : mvC s.l cs = some (ds, js, true)) (hj : noDup js = true) (hfit : FitL ds (F z)) (hw : wfV (.int .i64 r')) (hT : ∀ B', StayT B B' s.t (T B'))
    (next : ∀ B', LM P N B' ops Kn r ⟨(d, .one (.c (.int .i64 r'))) :: (t, .one (.epo B' e z' 0)) :: T B', []⟩) : LM P N B ops Kn (⟨some d, .call { callee := .value fo, args := #[x, y], argTypes := ats }, ty, pos, after, none⟩ :: r) s := fun Q Z g a w R p hz => by
  have hfe : a.eval fo = .func (.func f) #[] #[] := (eval_ok R (evs_of hev) (rdo_of hev) : CellR g s.l w (a.eval fo) (.clo f [])) (fun k hk => by cases hk)
  obtain ⟨vs, h1, h2⟩ : ∃ vs : List Value, a.eval x = .agg vs.toArray ∧ All2 (CellR g s.l w) vs cs := eval_ok R (evs_of hx) (rdo_of hx)
  obtain ⟨h3, _⟩ : a.eval y = .int .i64 k ∧ wfV (.int .i64 k) := eval_ok R (evs_of hy) (rdo_of hy)
  obtain ⟨bs, f1, f2, f3⟩ := mvC_ok R.mem h2 hm (noDup_of hj)
  have hr : e.rep w vs z bs := hc.iff.2 (f1.fit hfit)
  have hpt : a.tmps.getD t undef = .pointer (some ⟨g.ρ b, 0, none⟩) := (R.tmp t _ ht : CellR g s.l w _ (.ptr b 0)) cs hb
  obtain ⟨us, ut, u1, u2, u3⟩ := R.mem.box b cs hb
  have hvu := firm_eq hm hfm h2 u2
  have hnb : g.ρ b ∉ bs := fun hmem => by
    obtain ⟨j, _, β, U, e', zs, j1, j2⟩ := (f3 rfl).2 _ hmem
    rcases j2 with ⟨j3, j4⟩ | j3
    · exact R.mem.dis b j _ _ (fun e => by subst e; rw [hb] at j1; cases j1) hb j1 trivial j3 j4
    · exact u3 ((R.mem.fr j β U e' zs j1).2 _ j3).1
  unfold wpList
  rw [if_pos (by simp [Region.wanted])]
  refine .inl ?_
  unfold Oper.wp
  rw [run_enter rfl hf hfe, Oper.upon_enter]
  simp only [List.map_toArray, List.map_cons, List.map_nil, h1, h3, Array.append_empty]
  refine (hM w vs bs hr (via_fresh R.mem (f3 rfl))).mono ?_
  rintro e' w' ⟨rfl, hr', o⟩
  obtain ⟨q1, q2, q3⟩ := stay_rep R p (f3 rfl).2 o (hT w'.heap.size)
  have hub : w'.heap[g.ρ b]? = some (.cells us ut (0, 0)) := (o.keep _ (Array.getElem?_eq_some_iff.1 u1).1 hnb).trans u1
  have hgb : g.ρ b < w'.heap.size := (Array.getElem?_eq_some_iff.1 hub).1
  have hep : VR (allI w') [] w' (a.tmps.getD t undef) (.one (.epo w'.heap.size e z' 0)) := by
    rw [hpt]
    exact ⟨g.ρ b, 0, vs, bs, rfl, ⟨hgb, hgb⟩, hr', fun c hc => ⟨e.lt hr' c hc, e.lt hr' c hc⟩, fun j u hu => by rw [cell_of_heap hub, Nat.zero_add]; rw [hvu] at hu; simpa using hu⟩
  have q5 : Rep N (allI w') ⟨(t, .one (.epo w'.heap.size e z' 0)) :: T w'.heap.size, []⟩ a w' := ⟨q1.size, q1.defers, fun j y hj => by
    by_cases ej : t = j
    · subst ej; rw [lk_cons_self] at hj; cases hj; exact hep
    · rw [lk_cons_ne ej] at hj; exact q1.tmp j y hj, q1.mem⟩
  have q4 : Rep N (allI w') ⟨(d, .one (.c (.int .i64 r'))) :: (t, .one (.epo w'.heap.size e z' 0)) :: T w'.heap.size, []⟩ (a.put (some d) (.int .i64 r')) w' := q5.put (blt_lt hN) ⟨rfl, hw⟩
  exact next w'.heap.size Q Z _ _ _ q4 ⟨q2.le, q2.old, q2.own⟩ fun e a2 w2 h5 => hz e a2 w2 ((h5.down (Nat.le_trans p.le o.size)).back q3)
end mark
end lm
/-- A variable that is read alone since an earlier phase. -/
def upC (B : Nat) : Cell → Cell
  | .sl e xs => .slo B e xs
  | c => c
theorem FR.all2o {g : Gh} {l : Locs} {w : World} {B : Nat} : ∀ {vs : List Value} {cs : List Cell} {b : List Nat}, FR w vs cs b → (∀ i ∈ b, g.I i ∧ i < B) → All2 (CellR g l w) vs (cs.map (upC B))
  | [], [], b, _, _ => trivial
  | v :: vs, c :: cs, b, h, hI => by
    obtain ⟨b1, b2, rfl, h1, h2⟩ := h
    refine ⟨?_, FR.all2o h2 fun i hi => hI i (List.mem_append_right _ hi)⟩
    cases c with
    | c u => exact ⟨h1.1, h1.2.1⟩
    | sl e xs =>
      obtain ⟨a, n, cap, h3, h4⟩ := h1
      exact ⟨a, n, cap, b1, h3, h4, fun i hi => hI i (List.mem_append_left _ hi)⟩
    | rx e x us b j =>
      obtain ⟨h3, h4, rfl⟩ := h1
      exact ⟨h3, h4, fun i hi => (hI i (List.mem_append_left _ hi)).1⟩
    | _ => exact h1.elim
section pload
variable {P : Program} {N : Nat} {s : St} {d : Nat} {ty : TypeId} {pos : String} {after : Array Edge} {gd : Option (Nat × Bool)}
theorem x_pload {α : Type} {e : Enc α} {f : α → List Cell} [hc : CellsOf e f] {T B n : Nat} {x : Operand} {z : α} {cs : List Cell} (hN : Nat.blt d N = true) (h : evo s.t x = some (.one (.epo B e z 0))) (hT : kindT P T = some (some n)) (hl : (f z).length = n) (hcs : (f z).map (upC B) = cs) :
    Stp P N ⟨some d, .load T x, ty, pos, after, gd⟩ s ⟨(d, .agg cs) :: s.t, s.l⟩ ⟨rdo x (.one (.epo B e z 0)), [], [(d, .agg cs)], [], []⟩ :=
  Stp.pure rfl hN (rdo_of h) (by simp) fun g s' a w ht hl' r => by
    obtain ⟨gb, o, vs, b, h1, h2, h3, h4, h5⟩ : CellR g s'.l w (a.eval x) (.epo B e z 0) := eval_ok r (evs_of h) ht
    have hfr := hc.iff.1 h3
    subst hcs
    have hlen : vs.length = n := by rw [← hl]; exact hfr.length
    have hrun := run_load_agg (P := P) (T := T) hT (w := w) (a := ⟨gb, o + 0, none⟩) hlen (fun j v hj => by rw [addr_add]; exact h5 j v hj)
    exact ⟨_, by simp only [execOp, Instr.loadAt, h1, Instr.sureAddr, Sem.run_bind, Sem.run_pure, Result.andThen_ok, hrun], ⟨vs, rfl, hfr.all2o fun i hi => h4 i hi⟩⟩
end pload
/-! ### The entry of a law -/
def EndT (r : Nat) (s : St) : Prop := lk s.t r = some (.one (.c (.bool true)))
def EndQ (r : Nat) : Exit → St → Prop
  | .ret, s => EndT r s
  | _, _ => False
theorem AM_law {P : Program} {f : FuncId} {fn : Func} {c : Code} {N r : Nat} {args : List AVal} (hf : P.funcs[f]? = some fn) (hb : fn.body = some c) (hN : fn.ntmps = N) (hA : Nat.ble args.length N = true) (hr : fn.results = #[.tmp r])
    (w : World) (cargs : Array Value) (ha : All2 (VR1 (allI w) [] w) cargs.toList args) (h : ∀ B, AM P N B c (EndT r) (EndQ r) ⟨args0 args 0, []⟩) : Calls P f cargs w fun e w' => e = .returned (.bool true) ∧ Below w.heap.size w w' := by
  subst hN
  have R := entry_rep (N := fn.ntmps) (allI_mem w) ha (Nat.le_of_ble_eq_true hA)
  refine calls_of_wp hf hb (Go.wp_mono (h w.heap.size (allI w) _ w R ⟨Nat.le_refl _, fun b hb => hb, fun b ⟨k, blk, hk, _⟩ => by simp [lkl, lk] at hk⟩) ?_)
  rintro e a1 w1 ⟨g1, s1, R1, p1, b1, hR⟩
  have fin : EndT r s1 → a1.defers = [] ∧ ∃ v, (results fn a1.tmps).run P w1 = .ok v w1 ∧ Ending.returned v = .returned (.bool true) ∧ Below w.heap.size w w1 := fun ht => by
    have hv : a1.tmps.getD r undef = .bool true ∧ wfV (.bool true) := R1.tmp r _ ht
    exact ⟨R1.defers, _, results_tmp hr _ _ _, by rw [hv.1], b1⟩
  cases e with
  | normal => exact fin hR
  | ret => exact fin hR
  | exit id => exact hR.elim
  | goto l => exact hR.elim
  | panic ch => exact hR.elim
  | outgrown => exact hR.elim
end Go.Proofs.Ytkemjhlbokldhaa

/- The laws' own functions: GenG (printed by gen.py) -/
namespace Go.Proofs.Ytkemjhlbokldhaa
open Go.RowKit
set_option linter.unusedVariables false
set_option maxRecDepth 100000

structure Tokent where
  kind : Int
  n : Int
  s : ByteArray
  pl : Int
def tokenE : Enc Tokent := isoE (pairE (intE .i64) (pairE (intE .i64) (pairE strE (pairE (intE .i64) unitE)))) (fun x => (x.kind, x.n, x.s, x.pl, ()))
def tokenC (x : Tokent) : List Cell := [.c (.int .i64 x.kind), .c (.int .i64 x.n), .c (.string x.s), .c (.int .i64 x.pl)]
instance : CellsOf tokenE tokenC := cellsIso (e := (pairE (intE .i64) (pairE (intE .i64) (pairE strE (pairE (intE .i64) unitE))))) (fun x : Tokent => (x.kind, x.n, x.s, x.pl, ()))
end Go.Proofs.Ytkemjhlbokldhaa

/- Words and signs of a text, in plain words: what is left from a place. -/
namespace Go.Proofs.Ytkemjhlbokldhaa
open Go.RowKit
set_option linter.unusedVariables false
set_option linter.unusedSimpArgs false

theorem ba_iff {a b : ByteArray} : (a == b) = true ↔ a = b := by
  constructor
  · intro h
    rw [beq_toListBytes, ByteArray.toList_eq, ByteArray.toList_eq] at h
    have h2 : a.data.toList = b.data.toList := by simpa using h
    obtain ⟨⟨a⟩⟩ := a
    obtain ⟨⟨b⟩⟩ := b
    simp at h2; rw [h2]
  · rintro rfl; rw [beq_toListBytes]; simp
theorem ba_no {a b : ByteArray} : (a == b) = false ↔ ¬ a = b := by
  rw [← ba_iff, Bool.not_eq_true]
def cls (c : Int) : Int := if letB c = true then 1 else if upB c = true then 2 else if digB c = true then 3 else 0
theorem alnum_cls (c : Int) : alnumB c = decide (0 < cls c) := by
  unfold alnumB cls
  cases letB c <;> cases upB c <;> cases digB c <;> simp
def blank (c : Int) : Bool := decide (c = 9) || (decide (c = 10) || (decide (c = 13) || decide (c = 32)))
section
variable (s : ByteArray)
def lineEnd (i : Nat) : Nat := if h : i < s.size then (if (s[i].toNat : Int) = 10 then i else lineEnd (i + 1)) else i
termination_by s.size - i
def wordEnd (i : Nat) : Nat := if h : i < s.size then (if alnumB s[i].toNat = true then wordEnd (i + 1) else i) else i
termination_by s.size - i
end
section
variable {s : ByteArray}
theorem lineEnd_ge (i : Nat) : i ≤ lineEnd s i := by
  rw [lineEnd]
  split
  · split
    · exact Nat.le_refl _
    · have := lineEnd_ge (i + 1); omega
  · exact Nat.le_refl _
termination_by s.size - i
theorem lineEnd_le (i : Nat) (h : i ≤ s.size) : lineEnd s i ≤ s.size := by
  rw [lineEnd]
  split
  · split
    · exact h
    · exact lineEnd_le (i + 1) (by omega)
  · exact h
termination_by s.size - i
theorem lineEnd_on {i : Nat} (h : i < s.size) (h2 : ¬ (s[i].toNat : Int) = 10) : lineEnd s i = lineEnd s (i + 1) := by
  rw [lineEnd, dif_pos h, if_neg h2]
theorem lineEnd_at {i : Nat} (h : i < s.size) (h2 : (s[i].toNat : Int) = 10) : lineEnd s i = i := by
  rw [lineEnd, dif_pos h, if_pos h2]
theorem lineEnd_end {i : Nat} (h : ¬ i < s.size) : lineEnd s i = i := by rw [lineEnd, dif_neg h]
theorem wordEnd_ge (i : Nat) : i ≤ wordEnd s i := by
  rw [wordEnd]
  split
  · split
    · have := wordEnd_ge (i + 1); omega
    · exact Nat.le_refl _
  · exact Nat.le_refl _
termination_by s.size - i
theorem wordEnd_le (i : Nat) (h : i ≤ s.size) : wordEnd s i ≤ s.size := by
  rw [wordEnd]
  split
  · split
    · exact wordEnd_le (i + 1) (by omega)
    · exact h
  · exact h
termination_by s.size - i
theorem wordEnd_on {i : Nat} (h : i < s.size) (h2 : alnumB s[i].toNat = true) : wordEnd s i = wordEnd s (i + 1) := by rw [wordEnd, dif_pos h, if_pos h2]
theorem wordEnd_off {i : Nat} (h : i < s.size) (h2 : alnumB s[i].toNat = false) : wordEnd s i = i := by rw [wordEnd, dif_pos h, if_neg (by rw [h2]; simp)]
theorem wordEnd_end {i : Nat} (h : ¬ i < s.size) : wordEnd s i = i := by rw [wordEnd, dif_neg h]
theorem wordEnd_gt {i : Nat} (h : i < s.size) (h2 : alnumB s[i].toNat = true) : i < wordEnd s i := by
  rw [wordEnd_on h h2]
  have := wordEnd_ge (s := s) (i + 1); omega
theorem wordEnd_all {i : Nat} : ∀ j, i ≤ j → j < wordEnd s i → ∀ (h : j < s.size), alnumB s[j].toNat = true := by
  intro j h1 h2 h
  by_cases hi : i < s.size
  · cases q : alnumB s[i].toNat
    · rw [wordEnd_off hi q] at h2; omega
    · by_cases e : i = j
      · subst e; exact q
      · rw [wordEnd_on hi q] at h2
        exact wordEnd_all (i := i + 1) j (by omega) h2 h
  · rw [wordEnd_end hi] at h2; omega
termination_by s.size - i
end
def skipS (s : ByteArray) (i : Nat) : Nat :=
  if h : i < s.size then (if blank s[i].toNat = true then skipS s (i + 1) else if (s[i].toNat : Int) = 35 then (have := lineEnd_ge (s := s) (i + 1); skipS s (lineEnd s (i + 1))) else i) else i
termination_by s.size - i
section
variable {s : ByteArray}
theorem skip_blank {i : Nat} (h : i < s.size) (h2 : blank s[i].toNat = true) : skipS s i = skipS s (i + 1) := by rw [skipS, dif_pos h, if_pos h2]
theorem skip_note {i : Nat} (h : i < s.size) (h2 : blank s[i].toNat = false) (h3 : (s[i].toNat : Int) = 35) : skipS s i = skipS s (lineEnd s i) := by
  rw [skipS, dif_pos h, if_neg (by rw [h2]; simp), if_pos h3, lineEnd_on h (by omega)]
theorem skip_stop {i : Nat} (h : i < s.size) (h2 : blank s[i].toNat = false) (h3 : ¬ (s[i].toNat : Int) = 35) : skipS s i = i := by rw [skipS, dif_pos h, if_neg (by rw [h2]; simp), if_neg h3]
theorem skip_end {i : Nat} (h : ¬ i < s.size) : skipS s i = i := by rw [skipS, dif_neg h]
theorem note_end {i : Nat} (h : i < s.size) (h2 : blank s[i].toNat = false) (h3 : (s[i].toNat : Int) = 35) (he : lineEnd s i = s.size) : skipS s i = s.size := by
  rw [skip_note h h2 h3, he]; exact skip_end (Nat.lt_irrefl _)
theorem note_lt {i : Nat} (h : i < s.size) (h3 : (s[i].toNat : Int) = 35) : i < lineEnd s i := by
  rw [lineEnd_on h (by omega)]
  have := lineEnd_ge (s := s) (i + 1); omega
theorem skip_ge (i : Nat) : i ≤ skipS s i := by
  by_cases h : i < s.size
  · cases h2 : blank s[i].toNat
    · by_cases h3 : (s[i].toNat : Int) = 35
      · rw [skip_note h h2 h3, lineEnd_on h (by omega)]
        have h4 := lineEnd_ge (s := s) (i + 1)
        have := skip_ge (lineEnd s (i + 1)); omega
      · rw [skip_stop h h2 h3]; exact Nat.le_refl _
    · rw [skip_blank h h2]
      have := skip_ge (i + 1); omega
  · rw [skip_end h]; exact Nat.le_refl _
termination_by s.size - i
theorem skip_le (i : Nat) (hi : i ≤ s.size) : skipS s i ≤ s.size := by
  by_cases h : i < s.size
  · cases h2 : blank s[i].toNat
    · by_cases h3 : (s[i].toNat : Int) = 35
      · rw [skip_note h h2 h3, lineEnd_on h (by omega)]
        have h4 := lineEnd_ge (s := s) (i + 1)
        exact skip_le _ (lineEnd_le _ (by omega))
      · rw [skip_stop h h2 h3]; exact hi
    · rw [skip_blank h h2]
      exact skip_le (i + 1) (by omega)
  · rw [skip_end h]; exact hi
termination_by s.size - i
/-- What is skipped to is no blank and no note. -/
theorem skip_there (i : Nat) (h : skipS s i < s.size) : blank s[skipS s i].toNat = false ∧ ¬ (s[skipS s i].toNat : Int) = 35 := by
  by_cases hi : i < s.size
  · cases h2 : blank s[i].toNat
    · by_cases h3 : (s[i].toNat : Int) = 35
      · have h4 := lineEnd_ge (s := s) (i + 1)
        have e : skipS s i = skipS s (lineEnd s (i + 1)) := by rw [skip_note hi h2 h3, lineEnd_on hi (by omega)]
        have := skip_there (lineEnd s (i + 1)) (by rw [← e]; exact h)
        simp only [e]; exact this
      · have e := skip_stop hi h2 h3
        simp only [e]; exact ⟨h2, h3⟩
    · have e := skip_blank hi h2
      have := skip_there (i + 1) (by rw [← e]; exact h)
      simp only [e]; exact this
  · rw [skip_end hi] at h; exact absurd h hi
termination_by s.size - i
end
def signs : List Int := [40, 41, 44, 46, 61, 60, 43, 45, 47]
def isTwo (y : ByteArray) : Bool := y == (⟨#[58, 45]⟩ : ByteArray) || (y == (⟨#[33, 61]⟩ : ByteArray) || y == (⟨#[60, 61]⟩ : ByteArray))
def symAt (s : ByteArray) (i : Nat) : ByteArray :=
  if h : i < s.size then (if i + 1 < s.size ∧ isTwo (s.extract i (i + 2)) = true then s.extract i (i + 2) else if (s[i].toNat : Int) ∈ signs then s.extract i (i + 1) else ⟨#[]⟩) else ⟨#[]⟩
theorem symAt_size {s : ByteArray} {i : Nat} (h : i < s.size) : i + (symAt s i).size ≤ s.size := by
  unfold symAt
  rw [dif_pos h]
  split
  · simp; omega
  · split
    · simp; omega
    · show i + 0 ≤ _; omega
def wordTok (s : ByteArray) (i e : Nat) (c : Int) : Option Tokent × Int :=
  if digB c = true then (if textOk (s.extract i e) = true then (some ⟨3, textN (s.extract i e), ⟨#[]⟩, i⟩, 0) else (none, 3))
  else if wordB (s.extract i e) = true then (some ⟨1, 0, s.extract i e, i⟩, 0) else if varB (s.extract i e) = true then (some ⟨2, 0, s.extract i e, i⟩, 0) else (none, 4)
abbrev LexR : Type := List Tokent × Int × Int
def consL (t : Tokent) (r : LexR) : LexR := if r.2.1 = 0 then (t :: r.1, r.2) else ([], r.2)
def combL (out : List Tokent) (r : LexR) : LexR := if r.2.1 = 0 then (out ++ r.1, r.2) else ([], r.2)
theorem comb_cons (out : List Tokent) (t : Tokent) (r : LexR) : combL out (consL t r) = combL (out ++ [t]) r := by
  unfold combL consL
  by_cases h : r.2.1 = 0 <;> simp [h]
def lexR (s : ByteArray) (i : Nat) : LexR :=
  if h : skipS s i < s.size then
    (if ha : alnumB s[skipS s i].toNat = true then
      (match wordTok s (skipS s i) (wordEnd s (skipS s i)) s[skipS s i].toNat with
      | (some t, _) => (have := wordEnd_gt h ha; have := skip_ge (s := s) i; consL t (lexR s (wordEnd s (skipS s i))))
      | (none, c) => ([], c, skipS s i))
    else if hy : (symAt s (skipS s i)).size = 0 then ([], 2, skipS s i)
    else (have := skip_ge (s := s) i; consL ⟨4, 0, symAt s (skipS s i), skipS s i⟩ (lexR s (skipS s i + (symAt s (skipS s i)).size))))
  else ([], 0, 0)
termination_by s.size - i
def lexAll (s : ByteArray) : LexR := if 6000 < s.size then ([], 1, 0) else lexR s 0
section
variable {s : ByteArray}
theorem lex_skip {i j : Nat} (h : skipS s i = skipS s j) : lexR s i = lexR s j := by
  rw [lexR.eq_def s i, lexR.eq_def s j]; simp only [h]
theorem skip_skip (i : Nat) : skipS s (skipS s i) = skipS s i := by
  by_cases h : skipS s i < s.size
  · have := skip_there i h
    exact skip_stop h this.1 this.2
  · exact skip_end h
theorem lex_end {j : Nat} (h : ¬ j < s.size) : lexR s j = ([], 0, 0) := by
  rw [lexR, dif_neg (by have := skip_ge (s := s) j; omega)]
/-- At a place where no blank and no note is. -/
theorem lex_word {j : Nat} (h : j < s.size) (hs : skipS s j = j) (ha : alnumB s[j].toNat = true) {t : Tokent} {c : Int} (ht : wordTok s j (wordEnd s j) s[j].toNat = (some t, c)) : lexR s j = consL t (lexR s (wordEnd s j)) := by
  rw [lexR]
  simp only [hs]
  rw [dif_pos h, dif_pos ha, ht]
theorem lex_wrong {j : Nat} (h : j < s.size) (hs : skipS s j = j) (ha : alnumB s[j].toNat = true) {c : Int} (ht : wordTok s j (wordEnd s j) s[j].toNat = (none, c)) : lexR s j = ([], c, (j : Int)) := by
  rw [lexR]
  simp only [hs]
  rw [dif_pos h, dif_pos ha, ht]
theorem lex_sign {j : Nat} (h : j < s.size) (hs : skipS s j = j) (ha : alnumB s[j].toNat = false) (hy : ¬ (symAt s j).size = 0) : lexR s j = consL ⟨4, 0, symAt s j, j⟩ (lexR s (j + (symAt s j).size)) := by
  rw [lexR]
  simp only [hs]
  rw [dif_pos h, dif_neg (by rw [ha]; simp), dif_neg hy]
theorem lex_nosign {j : Nat} (h : j < s.size) (hs : skipS s j = j) (ha : alnumB s[j].toNat = false) (hy : (symAt s j).size = 0) : lexR s j = ([], 2, (j : Int)) := by
  rw [lexR]
  simp only [hs]
  rw [dif_pos h, dif_neg (by rw [ha]; simp), dif_pos hy]
def wordRes (s : ByteArray) (j : Nat) (c : Int) : Tokent × Int × Int := match wordTok s j (wordEnd s j) c with | (some t, _) => (t, (wordEnd s j : Int), 0) | (none, k) => (⟨0, 0, ⟨#[]⟩, 0⟩, 0, k)
theorem ext_head {j e : Nat} (h : j < e) (he : e ≤ s.size) (h0 : 0 < (s.extract j e).size) : (s.extract j e)[0] = s[j] := by
  rw [ByteArray.getElem_extract]; simp
theorem word_al {j : Nat} (hj : j < s.size) : allB alnumB (s.extract j (wordEnd s j)) = true := by
  have hle := wordEnd_le (s := s) j (by omega)
  have hge := wordEnd_ge (s := s) j
  refine allB_true fun i hi _ => ?_
  have hi2 : j + i < wordEnd s j := by rw [ByteArray.size_extract] at hi; omega
  rw [ByteArray.getElem_extract]
  exact wordEnd_all (i := j) (j + i) (by omega) hi2 (by omega)
theorem word_hd {p : Int → Bool} {j : Nat} (hj : j < s.size) (hgt : j < wordEnd s j) : headB p (s.extract j (wordEnd s j)) = p s[j].toNat := by
  have hle := wordEnd_le (s := s) j (by omega)
  have h0 : 0 < (s.extract j (wordEnd s j)).size := by rw [ByteArray.size_extract]; omega
  rw [headB_eq h0, ext_head hgt hle h0]
theorem res_badnum {j e : Nat} {c : Int} (he : e = wordEnd s j) (hd : digB c = true) (ht : textOk (s.extract j e) = false) : wordRes s j c = (⟨0, 0, ⟨#[]⟩, 0⟩, 0, 3) := by
  subst he; simp [wordRes, wordTok, hd, ht]
theorem res_num {j e : Nat} {c : Int} (he : e = wordEnd s j) (hd : digB c = true) (ht : textOk (s.extract j e) = true) : wordRes s j c = (⟨3, textN (s.extract j e), ⟨#[]⟩, j⟩, (e : Int), 0) := by
  subst he; simp [wordRes, wordTok, hd, ht]
theorem res_word {j e : Nat} {c : Int} (he : e = wordEnd s j) (hd : digB c = false) (hw : wordB (s.extract j e) = true) : wordRes s j c = (⟨1, 0, s.extract j e, j⟩, (e : Int), 0) := by
  subst he; simp [wordRes, wordTok, hd, hw]
theorem res_none {j e : Nat} {c : Int} (he : e = wordEnd s j) (hd : digB c = false) (hw : wordB (s.extract j e) = false) (hv : varB (s.extract j e) = false) : wordRes s j c = (⟨0, 0, ⟨#[]⟩, 0⟩, 0, 4) := by
  subst he; simp [wordRes, wordTok, hd, hw, hv]
theorem res_var {j e : Nat} {c : Int} (he : e = wordEnd s j) (hd : digB c = false) (hw : wordB (s.extract j e) = false) (hv : varB (s.extract j e) = true) : wordRes s j c = (⟨2, 0, s.extract j e, j⟩, (e : Int), 0) := by
  subst he; simp [wordRes, wordTok, hd, hw, hv]
theorem var_not {j e : Nat} (he : e = wordEnd s j) (hj : j < s.size) (hgt : j < wordEnd s j) (h : letB s[j].toNat = true) : varB (s.extract j e) = false := by
  subst he
  unfold varB
  rw [word_hd hj hgt]
  have : upB s[j].toNat = false := by
    unfold letB at h; unfold upB
    simp only [decide_eq_true_eq, decide_eq_false_iff_not] at *; omega
  rw [this]; simp
theorem word_not {j e : Nat} (he : e = wordEnd s j) (hj : j < s.size) (hgt : j < wordEnd s j) (h : letB s[j].toNat = false) : wordB (s.extract j e) = false := by
  subst he
  unfold wordB
  rw [word_hd hj hgt, h]; simp
theorem long_not {w : ByteArray} (h : 12 < w.size) : wordB w = false ∧ varB w = false := by
  have : shortB w = false := by simp [shortB]; omega
  unfold wordB varB
  rw [this]; simp
theorem var_yes {j e : Nat} (he : e = wordEnd s j) (hj : j < s.size) (hgt : j < wordEnd s j) (ha : alnumB s[j].toNat = true) (hl : letB s[j].toNat = false) (hd : digB s[j].toNat = false) (h : ¬ 12 < (s.extract j e).size) : varB (s.extract j e) = true := by
  subst he
  have hle := wordEnd_le (s := s) j (by omega)
  unfold varB
  rw [word_al hj, word_hd hj hgt]
  have hu : upB s[j].toNat = true := by simpa [alnumB, hl, hd] using ha
  have hs : 1 ≤ (s.extract j (wordEnd s j)).size := by rw [ByteArray.size_extract]; omega
  rw [hu]
  simp only [shortB, Bool.true_and, Bool.and_true, Bool.and_eq_true, decide_eq_true_eq]
  omega
end
end Go.Proofs.Ytkemjhlbokldhaa

/- The laws' own functions: GenC (printed by gen.py) -/
namespace Go.Proofs.Ytkemjhlbokldhaa
open Go.RowKit
set_option linter.unusedVariables false
set_option maxRecDepth 100000

structure Namedt where
  name : ByteArray
  rel : Relt
structure Storet where
  rels : List (Namedt)
end Go.Proofs.Ytkemjhlbokldhaa

/- Right stores and like stores, in plain words. -/
namespace Go.Proofs.Ytkemjhlbokldhaa
open Go.RowKit
set_option linter.unusedVariables false

/-! A test at each place of a list. -/
def AllAt {n : Nat} (p : (k : Nat) → k < n → Bool) (k : Nat) : Prop := ∀ j (h : j < n), j < k → p j h = true
theorem AllAt.zero {n : Nat} {p : (k : Nat) → k < n → Bool} : AllAt p 0 := fun _ _ h => absurd h (by omega)
theorem AllAt.succ {n : Nat} {p : (k : Nat) → k < n → Bool} {k : Nat} (h : AllAt p k) (hk : k < n) (hp : p k hk = true) : AllAt p (k + 1) := fun j hj hjk => by
  rcases Nat.lt_or_ge j k with h1 | h1
  · exact h j hj h1
  · obtain rfl : j = k := by omega
    exact hp
def everyB {n : Nat} (p : (k : Nat) → k < n → Bool) : Bool := (List.range n).all fun k => if h : k < n then p k h else true
theorem AllAt.all {n : Nat} {p : (k : Nat) → k < n → Bool} {k : Nat} (h : AllAt p k) (hk : n ≤ k) : everyB p = true := by
  unfold everyB
  rw [List.all_eq_true]
  intro j hj
  have hj' : j < n := by simpa using hj
  rw [dif_pos hj']
  exact h j hj' (by omega)
theorem inv_str {g : Gh} {l : Locs} {w : World} {v : Value} {s : ByteArray} (h : VR1 g l w v (.one (.c (.string s)))) : v = .string s ∧ s.size ≤ maxLen := h
theorem wordOkI_c (s : ByteArray) : AC Try.prog 103 [.one (.c (.string s))] [] (.one (.c (.bool (wordB s)))) [] :=
  AC.pure ⟨_, _, Try.func103, rfl, rfl⟩ trivial fun w g cargs h => by
    obtain ⟨x, rfl, h1⟩ := inv1 h
    obtain ⟨rfl, hs⟩ := inv_str h1
    exact (wordOkI_any s w hs).mono fun e w' ⟨h1, h2⟩ => ⟨h1, below_eq h2⟩
theorem wordOkS_c (s : ByteArray) : AC Try.prog 45 [.one (.c (.string s))] [] (.one (.c (.bool (wordB s)))) [] :=
  AC.pure ⟨_, _, Try.func45, rfl, rfl⟩ trivial fun w g cargs h => by
    obtain ⟨x, rfl, h1⟩ := inv1 h
    obtain ⟨rfl, hs⟩ := inv_str h1
    exact (wordOkS_any s w hs).mono fun e w' ⟨h1, h2⟩ => ⟨h1, below_eq h2⟩

def likeNamed (x y : Namedt) : Bool := x.name == y.name && likeRel x.rel y.rel
def LikeN (a b : List Namedt) (k : Nat) : Prop := ∀ j (h : j < a.length) (h' : j < b.length), j < k → likeNamed a[j] b[j] = true
theorem LikeN.zero {a b : List Namedt} : LikeN a b 0 := fun _ _ _ h => absurd h (by omega)
theorem LikeN.succ {a b : List Namedt} {k : Nat} (h : LikeN a b k) (hk : k < a.length) (hk' : k < b.length) (hs : likeNamed a[k] b[k] = true) : LikeN a b (k + 1) := fun j hj hj' hjk => by
  rcases Nat.lt_or_ge j k with h1 | h1
  · exact h j hj hj' h1
  · obtain rfl : j = k := by omega
    exact hs
end Go.Proofs.Ytkemjhlbokldhaa

/- Relations (printed by walk.py) -/
namespace Go.Proofs.Ytkemjhlbokldhaa
open Go.RowKit
set_option linter.unusedVariables false
set_option linter.unusedSimpArgs false
set_option maxRecDepth 100000


end Go.Proofs.Ytkemjhlbokldhaa

/- Rules and programs in plain words: what is well formed. -/
namespace Go.Proofs.Ytkemjhlbokldhaa
open Go.RowKit
set_option linter.unusedVariables false

theorem keptI_c (s : ByteArray) : AC Try.prog 110 [.one (.c (.string s))] [] (.one (.c (.bool (keptB s)))) [] :=
  AC.pure ⟨_, _, Try.func110, rfl, rfl⟩ trivial fun w g cargs h => by
    obtain ⟨x, rfl, h1⟩ := inv1 h
    obtain ⟨rfl, hs⟩ := inv_str h1
    exact (keptI_any s w).mono fun e w' ⟨h1, h2⟩ => ⟨h1, below_eq h2⟩
theorem keptS_c (s : ByteArray) : AC Try.prog 57 [.one (.c (.string s))] [] (.one (.c (.bool (keptB s)))) [] :=
  AC.pure ⟨_, _, Try.func57, rfl, rfl⟩ trivial fun w g cargs h => by
    obtain ⟨x, rfl, h1⟩ := inv1 h
    obtain ⟨rfl, hs⟩ := inv_str h1
    exact (keptS_any s w).mono fun e w' ⟨h1, h2⟩ => ⟨h1, below_eq h2⟩
theorem varOkS_c (s : ByteArray) : AC Try.prog 46 [.one (.c (.string s))] [] (.one (.c (.bool (varB s)))) [] :=
  AC.pure ⟨_, _, Try.func46, rfl, rfl⟩ trivial fun w g cargs h => by
    obtain ⟨x, rfl, h1⟩ := inv1 h
    obtain ⟨rfl, hs⟩ := inv_str h1
    exact (varOkS_any s w hs).mono fun e w' ⟨h1, h2⟩ => ⟨h1, below_eq h2⟩

def EachTo {α : Type} (g : α → Bool) (l : List α) (k : Nat) : Prop := (l.take k).all g = true
theorem EachTo.zero {α : Type} {g : α → Bool} {l : List α} : EachTo g l 0 := rfl
theorem EachTo.succ {α : Type} {g : α → Bool} {l : List α} {k : Nat} (h : EachTo g l k) (hk : k < l.length) (hg : g l[k] = true) : EachTo g l (k + 1) := by
  unfold EachTo at *; rw [List.take_succ_eq_append_getElem hk, List.all_append, h]; simp [hg]
theorem EachTo.all {α : Type} {g : α → Bool} {l : List α} {k : Nat} (h : EachTo g l k) (hk : l.length ≤ k) : l.all g = true := by
  unfold EachTo at h; rwa [List.take_of_length_le hk] at h
theorem EachTo.get {α : Type} {g : α → Bool} {l : List α} {k : Nat} (h : EachTo g l k) {j : Nat} (hj : j < k) (hl : j < l.length) : g l[j] = true := by
  unfold EachTo at h; rw [List.all_eq_true] at h
  exact h _ (List.mem_take_iff_getElem.2 ⟨j, by omega, rfl⟩)
def noVal : Val := ⟨0, ⟨#[]⟩⟩
def noTerm : Termt := ⟨⟨#[]⟩, noVal⟩
def termB (t : Termt) : Bool := if (t.var == (⟨#[]⟩ : ByteArray)) = true then valOk t.val && !keptB t.val.s else varB t.var && sameVal t.val noVal
def nameB (s : ByteArray) : Bool := wordB s && !keptB s
def atomB (a : Atomt) : Bool := nameB a.name && (decide (a.args.length ≤ 6) && a.args.all termB)
def sameTerm (a b : Termt) : Bool := a.var == b.var && sameVal a.val b.val
def litB (l : Litt) : Bool := if l.kind = 1 ∨ l.kind = 2 then atomB l.atom && (decide (l.op = 0) && (sameTerm l.a noTerm && sameTerm l.b noTerm))
  else if l.kind = 3 then decide (1 ≤ l.op ∧ l.op ≤ 4) && ((l.atom.name == (⟨#[]⟩ : ByteArray)) && (decide (l.atom.args.length = 0) && (termB l.a && termB l.b))) else false
def ruleB (r : Rulet) : Bool := decide (1 ≤ r.kind ∧ r.kind ≤ 3) && (atomB r.head && (decide (r.body.length ≤ 8) && r.body.all litB))
def declB (d : Declt) : Bool := decide (1 ≤ d.kind ∧ d.kind ≤ 3 ∧ 0 ≤ d.arity ∧ d.arity ≤ 6) && nameB d.name
def programB (p : Programt) : Bool := decide (p.decls.length ≤ 16 ∧ p.rules.length ≤ 24) && (p.decls.all declB && p.rules.all ruleB)

section
variable {N : Nat} {s : St} {d : Nat} {ty : TypeId} {pos : String} {after : Array Edge} {gd : Option (Nat × Bool)} {T' : TypeId} {x y : Operand} {a b : Termt}
end
end Go.Proofs.Ytkemjhlbokldhaa

/- What is read of tokens, in plain words: the program's reader, the reference's, and that they agree. -/
namespace Go.Proofs.Ytkemjhlbokldhaa
open Go.RowKit
set_option linter.unusedVariables false
set_option linter.unusedSimpArgs false

/-- Where a reader stands: the place among the tokens, the fault and its place. -/
structure PS where
  i : Nat
  code : Int
  place : Int
def PS.next (st : PS) : PS := ⟨st.i + 1, st.code, st.place⟩
def tokOk (t : Tokent) : Prop := (t.kind = 1 ∧ t.n = 0 ∧ wordB t.s = true) ∨ (t.kind = 2 ∧ varB t.s = true) ∨ (t.kind = 3 ∧ t.s = ⟨#[]⟩ ∧ numB t.n = true) ∨ t.kind = 4
def signT (t : Tokent) (s : ByteArray) : Bool := decide (t.kind = 4) && t.s == s
def nameT (t : Tokent) : Bool := decide (t.kind = 1) && !keptB t.s
def termT (t : Tokent) : Bool := decide (t.kind = 2) || (decide (t.kind = 3) || nameT t)
def notS : ByteArray := ⟨#[110, 111, 116]⟩
def notT (t : Tokent) : Bool := decide (t.kind = 1) && t.s == notS
def beginsT (t : Tokent) : Bool := termT t || notT t
def termOfT (t : Tokent) : Termt := if t.kind = 2 then ⟨t.s, ⟨0, ⟨#[]⟩⟩⟩ else if t.kind = 3 then ⟨⟨#[]⟩, ⟨t.n, ⟨#[]⟩⟩⟩ else ⟨⟨#[]⟩, ⟨0, t.s⟩⟩
def opN (s : ByteArray) : Int := if (s == (⟨#[61]⟩ : ByteArray)) = true then 1 else if (s == (⟨#[33, 61]⟩ : ByteArray)) = true then 2 else if (s == (⟨#[60]⟩ : ByteArray)) = true then 3 else if (s == (⟨#[60, 61]⟩ : ByteArray)) = true then 4 else 0
def opX (s : ByteArray) : Int := if (s == (⟨#[]⟩ : ByteArray)) = true then 0 else if opN s = 0 then -1 else opN s
def kindN (s : ByteArray) : Int := if (s == (⟨#[115, 116, 97, 116, 101]⟩ : ByteArray)) = true then 1 else if (s == (⟨#[101, 118, 101, 110, 116]⟩ : ByteArray)) = true then 2 else if (s == (⟨#[118, 105, 101, 119]⟩ : ByteArray)) = true then 3 else 0
def kindX (s : ByteArray) : Int := if (s == (⟨#[]⟩ : ByteArray)) = true then 0 else if kindN s = 0 then -1 else kindN s
def opI (t : Tokent) : Int := if t.kind = 4 then opX t.s else 0
def opS (t : Tokent) : Int := if t.kind = 4 then opN t.s else 0
def kindI (t : Tokent) : Int := if t.kind = 1 then kindX t.s else 0
def kindS (t : Tokent) : Int := if t.kind = 1 then kindN t.s else 0
theorem opN_range (s : ByteArray) : 0 ≤ opN s ∧ opN s ≤ 4 := by
  unfold opN; repeat' split
  all_goals omega
theorem kindN_range (s : ByteArray) : 0 ≤ kindN s ∧ kindN s ≤ 3 := by
  unfold kindN; repeat' split
  all_goals omega
theorem opI_pos (t : Tokent) : (0 < opI t ↔ 0 < opS t) ∧ (0 < opI t → opI t = opS t) := by
  have h := opN_range t.s
  unfold opI opS opX
  split
  · split
    · rename_i h2
      have : opN t.s = 0 := by rw [show t.s = ⟨#[]⟩ from ba_iff.1 h2]; decide
      omega
    · split <;> omega
  · omega
theorem kindI_pos (t : Tokent) : (0 < kindI t ↔ 0 < kindS t) ∧ (0 < kindI t → kindI t = kindS t) := by
  have h := kindN_range t.s
  unfold kindI kindS kindX
  split
  · split
    · rename_i h2
      have : kindN t.s = 0 := by rw [show t.s = ⟨#[]⟩ from ba_iff.1 h2]; decide
      omega
    · split <;> omega
  · omega
abbrev noAtom : Atomt := ⟨⟨#[]⟩, []⟩
section
variable (tk : List Tokent) (e : Int)
def hereT (st : PS) : Tokent := if h : st.code = 0 ∧ st.i < tk.length then tk[st.i]'h.2 else ⟨0, 0, ⟨#[]⟩, e⟩
def faultP (c : Int) (st : PS) : PS := if st.code = 0 then ⟨st.i, c, (hereT tk e st).pl⟩ else st
def takeP (s : ByteArray) (st : PS) : PS := if signT (hereT tk e st) s = true then st.next else faultP tk e 6 st
def wordP (st : PS) : ByteArray × PS := if nameT (hereT tk e st) = true then ((hereT tk e st).s, st.next) else (⟨#[]⟩, faultP tk e 6 st)
def termP (full : Bool) (st : PS) : Termt × PS := if termT (hereT tk e st) = true then (if full = true then (noTerm, faultP tk e 7 st) else (termOfT (hereT tk e st), st.next)) else (noTerm, faultP tk e 6 st)
def argsI : Nat → PS → List Termt → List Termt × PS
  | 0, st, a => (a, st)
  | f + 1, st, a => if st.code = 0 then (if termT (hereT tk e st) = true ∧ a.length = 6 then (a, faultP tk e 7 st) else
      if signT (hereT tk e (termP tk e false st).2) ⟨#[44]⟩ = true then argsI f (termP tk e false st).2.next (a ++ [(termP tk e false st).1]) else (a ++ [(termP tk e false st).1], (termP tk e false st).2)) else (a, st)
def argsS : Nat → PS → List Termt → List Termt × PS
  | 0, st, a => (a, st)
  | f + 1, st, a => if st.code = 0 then
      (if signT (hereT tk e (termP tk e (decide (a.length = 6)) st).2) ⟨#[44]⟩ = true then argsS f (termP tk e (decide (a.length = 6)) st).2.next (a ++ [(termP tk e (decide (a.length = 6)) st).1]) else (a ++ [(termP tk e (decide (a.length = 6)) st).1], (termP tk e (decide (a.length = 6)) st).2)) else (a, st)
/-- The name and what stands behind it. -/
def atomOpen (st : PS) : PS := takeP tk e ⟨#[40]⟩ (wordP tk e st).2
def atomI (st : PS) : Atomt × PS := if signT (hereT tk e (atomOpen tk e st)) ⟨#[41]⟩ = true then (⟨(wordP tk e st).1, []⟩, (atomOpen tk e st).next) else (⟨(wordP tk e st).1, (argsI tk e 8 (atomOpen tk e st) []).1⟩, takeP tk e ⟨#[41]⟩ (argsI tk e 8 (atomOpen tk e st) []).2)
def atomS (st : PS) : Atomt × PS := if signT (hereT tk e (atomOpen tk e st)) ⟨#[41]⟩ = true then (⟨(wordP tk e st).1, []⟩, (atomOpen tk e st).next) else (⟨(wordP tk e st).1, (argsS tk e 8 (atomOpen tk e st) []).1⟩, takeP tk e ⟨#[41]⟩ (argsS tk e 8 (atomOpen tk e st) []).2)
def openT (st : PS) : Bool := nameT (hereT tk e st) && signT (hereT tk e st.next) ⟨#[40]⟩
def litI (st : PS) : Litt × PS := if notT (hereT tk e st) = true then (⟨2, (atomI tk e st.next).1, 0, noTerm, noTerm⟩, (atomI tk e st.next).2)
  else if openT tk e st = true then (⟨1, (atomI tk e st).1, 0, noTerm, noTerm⟩, (atomI tk e st).2)
  else if opI (hereT tk e (termP tk e false st).2) < 1 then (⟨3, noAtom, opI (hereT tk e (termP tk e false st).2), (termP tk e false st).1, noTerm⟩, faultP tk e 6 (termP tk e false st).2)
  else (⟨3, noAtom, opI (hereT tk e (termP tk e false st).2), (termP tk e false st).1, (termP tk e false (termP tk e false st).2.next).1⟩, (termP tk e false (termP tk e false st).2.next).2)
/-- Behind the sign of a comparison. -/
def opP (st : PS) : PS := if opS (hereT tk e st) = 0 then faultP tk e 6 st else st.next
def litS (st : PS) : Litt × PS := if notT (hereT tk e st) = true then (⟨2, (atomS tk e st.next).1, 0, noTerm, noTerm⟩, (atomS tk e st.next).2)
  else if openT tk e st = true then (⟨1, (atomS tk e st).1, 0, noTerm, noTerm⟩, (atomS tk e st).2)
  else (⟨3, noAtom, opS (hereT tk e (termP tk e false st).2), (termP tk e false st).1, (termP tk e false (opP tk e (termP tk e false st).2)).1⟩, (termP tk e false (opP tk e (termP tk e false st).2)).2)
def bodyI : Nat → PS → List Litt → List Litt × PS
  | 0, st, a => (a, st)
  | f + 1, st, a => if st.code = 0 then (if beginsT (hereT tk e st) = true ∧ a.length = 8 then (a, faultP tk e 7 st) else
      if signT (hereT tk e (litI tk e st).2) ⟨#[44]⟩ = true then bodyI f (litI tk e st).2.next (a ++ [(litI tk e st).1]) else (a ++ [(litI tk e st).1], (litI tk e st).2)) else (a, st)
/-- Before a literal: no more than eight. -/
def fullP (a : List Litt) (st : PS) : PS := if a.length = 8 ∧ beginsT (hereT tk e st) = true then faultP tk e 7 st else st
def bodyS : Nat → PS → List Litt → List Litt × PS
  | 0, st, a => (a, st)
  | f + 1, st, a => if st.code = 0 then
      (if signT (hereT tk e (litS tk e (fullP tk e a st)).2) ⟨#[44]⟩ = true then bodyS f (litS tk e (fullP tk e a st)).2.next (a ++ [(litS tk e (fullP tk e a st)).1]) else (a ++ [(litS tk e (fullP tk e a st)).1], (litS tk e (fullP tk e a st)).2)) else (a, st)
def plusP (st : PS) : Int × PS := if signT (hereT tk e st) ⟨#[43]⟩ = true then (2, st.next) else if signT (hereT tk e st) ⟨#[45]⟩ = true then (3, st.next) else (1, st)
def ruleI (st : PS) : Rulet × PS := if signT (hereT tk e (atomI tk e (plusP tk e st).2).2) ⟨#[58, 45]⟩ = true
  then (⟨(plusP tk e st).1, (atomI tk e (plusP tk e st).2).1, (bodyI tk e 10 (atomI tk e (plusP tk e st).2).2.next []).1⟩, takeP tk e ⟨#[46]⟩ (bodyI tk e 10 (atomI tk e (plusP tk e st).2).2.next []).2)
  else (⟨(plusP tk e st).1, (atomI tk e (plusP tk e st).2).1, []⟩, takeP tk e ⟨#[46]⟩ (atomI tk e (plusP tk e st).2).2)
def ruleS (st : PS) : Rulet × PS := if signT (hereT tk e (atomS tk e (plusP tk e st).2).2) ⟨#[58, 45]⟩ = true
  then (⟨(plusP tk e st).1, (atomS tk e (plusP tk e st).2).1, (bodyS tk e 10 (atomS tk e (plusP tk e st).2).2.next []).1⟩, takeP tk e ⟨#[46]⟩ (bodyS tk e 10 (atomS tk e (plusP tk e st).2).2.next []).2)
  else (⟨(plusP tk e st).1, (atomS tk e (plusP tk e st).2).1, []⟩, takeP tk e ⟨#[46]⟩ (atomS tk e (plusP tk e st).2).2)
/-- Where a declaration's number stands. -/
def slashP (st : PS) : PS := takeP tk e ⟨#[47]⟩ (wordP tk e st).2
def declI (k : Int) (st : PS) : Declt × PS := if (hereT tk e (slashP tk e st.next)).kind = 3 then (if 6 < (hereT tk e (slashP tk e st.next)).n then (⟨k, (wordP tk e st.next).1, 0⟩, takeP tk e ⟨#[46]⟩ (faultP tk e 7 (slashP tk e st.next))) else (⟨k, (wordP tk e st.next).1, (hereT tk e (slashP tk e st.next)).n⟩, takeP tk e ⟨#[46]⟩ (slashP tk e st.next).next))
  else (⟨k, (wordP tk e st.next).1, 0⟩, takeP tk e ⟨#[46]⟩ (faultP tk e 6 (slashP tk e st.next)))
def declS (k : Int) (st : PS) : Declt × PS := if (hereT tk e (slashP tk e st)).kind = 3 then (if 6 < (hereT tk e (slashP tk e st)).n then (⟨k, (wordP tk e st).1, (hereT tk e (slashP tk e st)).n⟩, faultP tk e 7 (slashP tk e st)) else (⟨k, (wordP tk e st).1, (hereT tk e (slashP tk e st)).n⟩, takeP tk e ⟨#[46]⟩ (slashP tk e st).next))
  else (⟨k, (wordP tk e st).1, 0⟩, faultP tk e 6 (slashP tk e st))
def startsT (t : Tokent) : Bool := nameT t || (signT t ⟨#[43]⟩ || signT t ⟨#[45]⟩)
abbrev ProgR : Type := List Declt × List Rulet × PS
def progI : Nat → PS → List Declt → List Rulet → ProgR
  | 0, st, ds, rs => (ds, rs, st)
  | f + 1, st, ds, rs => if st.code = 0 ∧ st.i < tk.length then
      (if (0 < kindI (hereT tk e st) ∧ ds.length = 16) ∨ (startsT (hereT tk e st) = true ∧ rs.length = 24) then progI f (faultP tk e 7 st) ds rs
      else if 0 < kindI (hereT tk e st) then progI f (declI tk e (kindI (hereT tk e st)) st).2 (ds ++ [(declI tk e (kindI (hereT tk e st)) st).1]) rs
      else if startsT (hereT tk e st) = true then progI f (ruleI tk e st).2 ds (rs ++ [(ruleI tk e st).1])
      else progI f (faultP tk e 6 st) ds rs) else (ds, rs, st)
def fullD (ds : List Declt) (st : PS) : PS := if ds.length = 16 then faultP tk e 7 st else st
def fullR (rs : List Rulet) (st : PS) : PS := if startsT (hereT tk e st) = true ∧ rs.length = 24 then faultP tk e 7 st else st
def progS : Nat → PS → List Declt → List Rulet → ProgR
  | 0, st, ds, rs => (ds, rs, st)
  | f + 1, st, ds, rs => if st.code = 0 ∧ st.i < tk.length then
      (if 0 < kindS (hereT tk e st) then progS f (declS tk e (kindS (hereT tk e st)) (fullD tk e ds st).next).2 (ds ++ [(declS tk e (kindS (hereT tk e st)) (fullD tk e ds st).next).1]) rs
      else progS f (ruleS tk e (fullR tk e rs st)).2 ds (rs ++ [(ruleS tk e (fullR tk e rs st)).1])) else (ds, rs, st)
end
abbrev ParseR : Type := Programt × Int × Int
def endR (r : ProgR) : ParseR := if r.2.2.code = 0 then (⟨r.1, r.2.1⟩, 0, 0) else (⟨[], []⟩, r.2.2.code, r.2.2.place)
def parseI (s : ByteArray) : ParseR := if (lexAll s).2.1 = 0 then endR (progI (lexAll s).1 s.size 43 ⟨0, 0, 0⟩ [] []) else (⟨[], []⟩, (lexAll s).2.1, (lexAll s).2.2)
def parseS (s : ByteArray) : ParseR := if (lexAll s).2.1 = 0 then endR (progS (lexAll s).1 s.size 43 ⟨0, 0, 0⟩ [] []) else (⟨[], []⟩, (lexAll s).2.1, (lexAll s).2.2)

/-! ### Once there is a fault -/
section
variable {tk : List Tokent} {e : Int}
theorem here_bad {st : PS} (h : ¬ st.code = 0) : hereT tk e st = ⟨0, 0, ⟨#[]⟩, e⟩ := by unfold hereT; rw [dif_neg (by intro h2; exact h h2.1)]
theorem here_end {st : PS} (h : ¬ st.i < tk.length) : hereT tk e st = ⟨0, 0, ⟨#[]⟩, e⟩ := by unfold hereT; rw [dif_neg (by intro h2; exact h h2.2)]
theorem here_ok {st : PS} (h : st.code = 0) (h2 : st.i < tk.length) : hereT tk e st = tk[st.i] := by unfold hereT; rw [dif_pos ⟨h, h2⟩]
theorem here_good {st : PS} (h : ¬ (hereT tk e st).kind = 0) : st.code = 0 ∧ st.i < tk.length := by
  by_cases q : st.code = 0 ∧ st.i < tk.length
  · exact q
  · unfold hereT at h; rw [dif_neg q] at h; exact absurd rfl h
theorem here_tok {st : PS} (hk : ∀ t ∈ tk, tokOk t) : (hereT tk e st).kind = 0 ∨ tokOk (hereT tk e st) := by
  by_cases q : st.code = 0 ∧ st.i < tk.length
  · right; rw [here_ok q.1 q.2]; exact hk _ (List.getElem_mem _)
  · left; unfold hereT; rw [dif_neg q]
theorem sign_kind {t : Tokent} {s : ByteArray} (h : signT t s = true) : t.kind = 4 := by simp [signT] at h; exact h.1
theorem name_kind {t : Tokent} (h : nameT t = true) : t.kind = 1 := by simp [nameT] at h; exact h.1
theorem term_kind {t : Tokent} (h : termT t = true) : ¬ t.kind = 0 := by
  intro h0; simp [termT, nameT, h0] at h
theorem not_kind {t : Tokent} (h : notT t = true) : t.kind = 1 := by simp [notT] at h; exact h.1
theorem kindI_kind {t : Tokent} (h : 0 < kindI t) : t.kind = 1 := by
  unfold kindI at h; split at h
  · assumption
  · omega
theorem opI_kind {t : Tokent} (h : 0 < opI t) : t.kind = 4 := by
  unfold opI at h; split at h
  · assumption
  · omega
theorem fault_bad {c : Int} {st : PS} (h : ¬ st.code = 0) : faultP tk e c st = st := by simp [faultP, h]
theorem fault_code {c : Int} {st : PS} (hc : ¬ c = 0) : ¬ (faultP tk e c st).code = 0 := by
  unfold faultP; split <;> assumption
theorem take_bad {s : ByteArray} {st : PS} (h : ¬ st.code = 0) : takeP tk e s st = st := by simp [takeP, here_bad h, signT, fault_bad h]
theorem word_bad {st : PS} (h : ¬ st.code = 0) : wordP tk e st = (⟨#[]⟩, st) := by simp [wordP, here_bad h, nameT, fault_bad h]
theorem term_bad {b : Bool} {st : PS} (h : ¬ st.code = 0) : termP tk e b st = (noTerm, st) := by simp [termP, here_bad h, termT, nameT, fault_bad h]
theorem argsI_bad {f : Nat} {st : PS} {a : List Termt} (h : ¬ st.code = 0) : argsI tk e f st a = (a, st) := by cases f <;> simp [argsI, h]
theorem argsS_bad {f : Nat} {st : PS} {a : List Termt} (h : ¬ st.code = 0) : argsS tk e f st a = (a, st) := by cases f <;> simp [argsS, h]
theorem open_bad {st : PS} (h : ¬ st.code = 0) : atomOpen tk e st = st := by simp [atomOpen, word_bad h, take_bad h]
theorem atomS_bad {st : PS} (h : ¬ st.code = 0) : atomS tk e st = (noAtom, st) := by simp [atomS, word_bad h, open_bad h, here_bad h, signT, argsS_bad h, take_bad h]
theorem opP_bad {st : PS} (h : ¬ st.code = 0) : opP tk e st = st := by simp [opP, here_bad h, opS, fault_bad h]
theorem litS_bad {st : PS} (h : ¬ st.code = 0) : (litS tk e st).2 = st := by simp [litS, here_bad h, notT, openT, nameT, term_bad h, opP_bad h]
theorem plus_bad {st : PS} (h : ¬ st.code = 0) : plusP tk e st = (1, st) := by simp [plusP, here_bad h, signT]
theorem ruleS_bad {st : PS} (h : ¬ st.code = 0) : (ruleS tk e st).2 = st := by simp [ruleS, plus_bad h, atomS_bad h, here_bad h, signT, take_bad h]
theorem declS_bad {k : Int} {st : PS} (h : ¬ st.code = 0) : (declS tk e k st).2 = st := by simp [declS, slashP, word_bad h, take_bad h, here_bad h, fault_bad h]
/-! ### They agree -/
def Agr {α : Type} (x y : α × PS) : Prop := x.2 = y.2 ∧ (x.2.code = 0 → x.1 = y.1)
theorem term_full {st : PS} {a : List Termt} (h : ¬ (termT (hereT tk e st) = true ∧ a.length = 6)) : termP tk e (decide (a.length = 6)) st = termP tk e false st := by
  unfold termP
  by_cases h1 : termT (hereT tk e st) = true
  · have h2 : ¬ a.length = 6 := fun q => h ⟨h1, q⟩
    simp [h1, h2]
  · simp [h1]
theorem args_agr : ∀ (f : Nat) (st : PS) (a : List Termt), Agr (argsI tk e f st a) (argsS tk e f st a)
  | 0, st, a => ⟨rfl, fun _ => rfl⟩
  | f + 1, st, a => by
    unfold argsI argsS
    by_cases h0 : st.code = 0
    · rw [if_pos h0, if_pos h0]
      by_cases h1 : termT (hereT tk e st) = true ∧ a.length = 6
      · rw [if_pos h1]
        have e1 : termP tk e (decide (a.length = 6)) st = (noTerm, faultP tk e 7 st) := by simp [termP, h1.1, h1.2]
        have h2 : ¬ (faultP tk e 7 st).code = 0 := fault_code (by decide)
        rw [e1, if_neg (by simp [here_bad h2, signT])]
        exact ⟨rfl, fun h => absurd h h2⟩
      · rw [if_neg h1, term_full h1]
        by_cases h3 : signT (hereT tk e (termP tk e false st).2) ⟨#[44]⟩ = true
        · rw [if_pos h3, if_pos h3]; exact args_agr f _ _
        · rw [if_neg h3, if_neg h3]; exact ⟨rfl, fun _ => rfl⟩
    · rw [if_neg h0, if_neg h0]; exact ⟨rfl, fun _ => rfl⟩
theorem take_code {s : ByteArray} {st : PS} (h : (takeP tk e s st).code = 0) : st.code = 0 := by
  by_cases q : st.code = 0
  · exact q
  · rw [take_bad q] at h; exact h
theorem atom_agr (st : PS) : Agr (atomI tk e st) (atomS tk e st) := by
  unfold atomI atomS
  have h := args_agr (tk := tk) (e := e) 8 (atomOpen tk e st) []
  split
  · exact ⟨rfl, fun _ => rfl⟩
  · exact ⟨by rw [h.1], fun q => by rw [h.2 (take_code q)]⟩
theorem lit_agr (st : PS) : Agr (litI tk e st) (litS tk e st) := by
  unfold litI litS
  split
  · exact ⟨(atom_agr _).1, fun q => by rw [(atom_agr _).2 q]⟩
  · split
    · exact ⟨(atom_agr _).1, fun q => by rw [(atom_agr _).2 q]⟩
    · have h := opI_pos (hereT tk e (termP tk e false st).2)
      have h2 := (opN_range (hereT tk e (termP tk e false st).2).s)
      have h3 : 0 ≤ opS (hereT tk e (termP tk e false st).2) := by unfold opS; split <;> omega
      split
      · rename_i h4
        have h5 : opS (hereT tk e (termP tk e false st).2) = 0 := by omega
        have e1 : opP tk e (termP tk e false st).2 = faultP tk e 6 (termP tk e false st).2 := by unfold opP; rw [if_pos h5]
        have h6 : ¬ (faultP tk e 6 (termP tk e false st).2).code = 0 := fault_code (by decide)
        rw [e1, term_bad h6]
        exact ⟨rfl, fun q => absurd q h6⟩
      · rename_i h4
        have h5 : ¬ opS (hereT tk e (termP tk e false st).2) = 0 := by omega
        have e1 : opP tk e (termP tk e false st).2 = (termP tk e false st).2.next := by unfold opP; rw [if_neg h5]
        rw [e1, h.2 (by omega)]
        exact ⟨rfl, fun _ => rfl⟩
theorem body_agr : ∀ (f : Nat) (st : PS) (a : List Litt), Agr (bodyI tk e f st a) (bodyS tk e f st a)
  | 0, st, a => ⟨rfl, fun _ => rfl⟩
  | f + 1, st, a => by
    unfold bodyI bodyS
    by_cases h0 : st.code = 0
    · rw [if_pos h0, if_pos h0]
      by_cases h1 : beginsT (hereT tk e st) = true ∧ a.length = 8
      · rw [if_pos h1]
        have e1 : fullP tk e a st = faultP tk e 7 st := by unfold fullP; rw [if_pos ⟨h1.2, h1.1⟩]
        have h2 : ¬ (faultP tk e 7 st).code = 0 := fault_code (by decide)
        rw [e1, litS_bad h2, if_neg (by simp [here_bad h2, signT])]
        exact ⟨rfl, fun h => absurd h h2⟩
      · have e1 : fullP tk e a st = st := by unfold fullP; rw [if_neg fun q => h1 ⟨q.2, q.1⟩]
        have h := lit_agr (tk := tk) (e := e) st
        rw [if_neg h1, e1, ← h.1]
        by_cases h3 : signT (hereT tk e (litI tk e st).2) ⟨#[44]⟩ = true
        · rw [if_pos h3, if_pos h3, ← h.2 (here_good (by rw [sign_kind h3]; decide)).1]; exact body_agr f _ _
        · rw [if_neg h3, if_neg h3]; exact ⟨rfl, fun q => by rw [h.2 q]⟩
    · rw [if_neg h0, if_neg h0]; exact ⟨rfl, fun _ => rfl⟩
theorem rule_agr (st : PS) : Agr (ruleI tk e st) (ruleS tk e st) := by
  have h := atom_agr (tk := tk) (e := e) (plusP tk e st).2
  have h2 := body_agr (tk := tk) (e := e) 10 (atomI tk e (plusP tk e st).2).2.next []
  unfold ruleI ruleS
  rw [← h.1]
  split
  · rename_i h3
    refine ⟨by rw [h2.1], fun q => ?_⟩
    rw [h2.2 (take_code q), h.2 (here_good (by rw [sign_kind h3]; decide)).1]
  · exact ⟨rfl, fun q => by rw [h.2 (take_code q)]⟩
theorem decl_agr (k : Int) (st : PS) : Agr (declI tk e k st) (declS tk e k st.next) := by
  unfold declI declS
  split
  · split
    · have h2 : ¬ (faultP tk e 7 (slashP tk e st.next)).code = 0 := fault_code (by decide)
      rw [take_bad h2]
      exact ⟨rfl, fun q => absurd q h2⟩
    · exact ⟨rfl, fun _ => rfl⟩
  · have h2 : ¬ (faultP tk e 6 (slashP tk e st.next)).code = 0 := fault_code (by decide)
    rw [take_bad h2]
    exact ⟨rfl, fun q => absurd q h2⟩
theorem progI_bad {f : Nat} {st : PS} {ds : List Declt} {rs : List Rulet} (h : ¬ st.code = 0) : progI tk e f st ds rs = (ds, rs, st) := by cases f <;> simp [progI, h]
theorem progS_bad {f : Nat} {st : PS} {ds : List Declt} {rs : List Rulet} (h : ¬ st.code = 0) : progS tk e f st ds rs = (ds, rs, st) := by cases f <;> simp [progS, h]
theorem end_bad {ds ds2 : List Declt} {rs rs2 : List Rulet} {st st2 : PS} (h : ¬ st.code = 0) (hc : st.code = st2.code) (hp : st.place = st2.place) : endR (ds, rs, st) = endR (ds2, rs2, st2) := by
  unfold endR
  rw [if_neg h, if_neg (by show ¬ st2.code = 0; omega)]
  show (_, st.code, st.place) = (_, st2.code, st2.place)
  rw [hc, hp]
theorem name_none {t : Tokent} (h : ¬ startsT t = true) : ¬ nameT t = true ∧ signT t ⟨#[43]⟩ = false ∧ signT t ⟨#[45]⟩ = false := by
  unfold startsT at h
  cases h1 : nameT t <;> cases h2 : signT t ⟨#[43]⟩ <;> cases h3 : signT t ⟨#[45]⟩ <;> simp_all
theorem prog_agr : ∀ (f : Nat) (st : PS) (ds : List Declt) (rs : List Rulet), endR (progI tk e f st ds rs) = endR (progS tk e f st ds rs)
  | 0, st, ds, rs => rfl
  | f + 1, st, ds, rs => by
    unfold progI progS
    by_cases h0 : st.code = 0 ∧ st.i < tk.length
    · rw [if_pos h0, if_pos h0]
      have hk := kindI_pos (hereT tk e st)
      by_cases h1 : 0 < kindI (hereT tk e st)
      · have h1' : 0 < kindS (hereT tk e st) := hk.1.1 h1
        rw [if_pos h1']
        have hst : startsT (hereT tk e st) = false := by
          have q := kindI_kind h1
          have q2 : keptB (hereT tk e st).s = true := by
            unfold kindS kindN at h1'
            rw [if_pos q] at h1'
            unfold keptB
            repeat' split at h1'
            · rename_i h; rw [ba_iff.1 h]; simp [ByteArray.toList_eq]
            · rename_i h; rw [ba_iff.1 h]; simp [ByteArray.toList_eq]
            · rename_i h; rw [ba_iff.1 h]; simp [ByteArray.toList_eq]
            · omega
          simp [startsT, nameT, signT, q, q2]
        by_cases h2 : ds.length = 16
        · have h3 : ¬ (faultP tk e 7 st).code = 0 := fault_code (by decide)
          have h3' : ¬ (faultP tk e 7 st).next.code = 0 := h3
          have e1 : fullD tk e ds st = faultP tk e 7 st := by unfold fullD; rw [if_pos h2]
          rw [if_pos (.inl ⟨h1, h2⟩), progI_bad h3, e1]
          have h4 := declS_bad (tk := tk) (e := e) (k := kindS (hereT tk e st)) h3'
          rw [progS_bad (by rw [h4]; exact h3'), h4]
          exact end_bad h3 rfl rfl
        · have e1 : fullD tk e ds st = st := by unfold fullD; rw [if_neg h2]
          rw [if_neg (by rw [hst]; simp [h2]), if_pos h1, e1, hk.2 h1]
          have h := decl_agr (tk := tk) (e := e) (kindS (hereT tk e st)) st
          by_cases h5 : (declI tk e (kindS (hereT tk e st)) st).2.code = 0
          · rw [← h.1, ← h.2 h5]; exact prog_agr f _ _ _
          · rw [progI_bad h5, ← h.1, progS_bad h5]
            exact end_bad h5 rfl rfl
      · rw [if_neg (show ¬ 0 < kindS (hereT tk e st) by omega)]
        by_cases h2 : startsT (hereT tk e st) = true ∧ rs.length = 24
        · have h3 : ¬ (faultP tk e 7 st).code = 0 := fault_code (by decide)
          have e1 : fullR tk e rs st = faultP tk e 7 st := by unfold fullR; rw [if_pos h2]
          rw [if_pos (.inr h2), progI_bad h3, e1]
          have h4 := ruleS_bad (tk := tk) (e := e) h3
          rw [progS_bad (by rw [h4]; exact h3), h4]
          exact end_bad h3 rfl rfl
        · have e1 : fullR tk e rs st = st := by unfold fullR; rw [if_neg h2]
          rw [if_neg (by intro q; rcases q with q | q; exact h1 q.1; exact h2 q), if_neg h1, e1]
          by_cases h4 : startsT (hereT tk e st) = true
          · rw [if_pos h4]
            have h := rule_agr (tk := tk) (e := e) st
            by_cases h5 : (ruleI tk e st).2.code = 0
            · rw [← h.1, ← h.2 h5]; exact prog_agr f _ _ _
            · rw [progI_bad h5, ← h.1, progS_bad h5]
              exact end_bad h5 rfl rfl
          · rw [if_neg h4]
            have h3 : ¬ (faultP tk e 6 st).code = 0 := fault_code (by decide)
            obtain ⟨n1, n2, n3⟩ := name_none h4
            have e2 : plusP tk e st = (1, st) := by simp [plusP, n2, n3]
            have e3 : wordP tk e st = (⟨#[]⟩, faultP tk e 6 st) := by unfold wordP; rw [if_neg n1]
            have e4 : atomOpen tk e st = faultP tk e 6 st := by unfold atomOpen; rw [e3, take_bad h3]
            have e5 : (atomS tk e st).2 = faultP tk e 6 st := by
              unfold atomS; rw [e4, if_neg (by simp [here_bad h3, signT]), argsS_bad h3, take_bad h3]
            have e6 : (ruleS tk e st).2 = faultP tk e 6 st := by
              unfold ruleS; rw [e2, e5, if_neg (by simp [here_bad h3, signT]), take_bad h3]
            rw [progI_bad h3, e6, progS_bad h3]
            exact end_bad h3 rfl rfl
    · rw [if_neg h0, if_neg h0]
theorem parse_agr (s : ByteArray) : parseI s = parseS s := by
  unfold parseI parseS
  rw [prog_agr]
end
end Go.Proofs.Ytkemjhlbokldhaa

/- Reading tokens: step by step. -/
namespace Go.Proofs.Ytkemjhlbokldhaa
open Go.RowKit
set_option linter.unusedVariables false
set_option linter.unusedSimpArgs false

section
variable {tk : List Tokent} {e : Int}
/-! ### where a reader may stand -/
theorem fault_i {c : Int} {st : PS} : (faultP tk e c st).i = st.i := by unfold faultP; split <;> rfl
theorem fault_ok {c : Int} {st : PS} (h : st.code = 0) : faultP tk e c st = ⟨st.i, c, (hereT tk e st).pl⟩ := if_pos h
theorem good_lt {st : PS} (h : ¬ (hereT tk e st).kind = 0) : st.i < tk.length := (here_good h).2
theorem sign_lt {st : PS} {s : ByteArray} (h : signT (hereT tk e st) s = true) : st.i < tk.length := good_lt (by rw [sign_kind h]; decide)
theorem name_lt {st : PS} (h : nameT (hereT tk e st) = true) : st.i < tk.length := good_lt (by rw [name_kind h]; decide)
theorem term_lt {st : PS} (h : termT (hereT tk e st) = true) : st.i < tk.length := good_lt (term_kind h)
theorem not_lt {st : PS} (h : notT (hereT tk e st) = true) : st.i < tk.length := good_lt (by rw [not_kind h]; decide)
theorem take_ok {s : ByteArray} {st : PS} (h : signT (hereT tk e st) s = true) : takeP tk e s st = st.next := if_pos h
theorem take_no {s : ByteArray} {st : PS} (h : signT (hereT tk e st) s = false) : takeP tk e s st = faultP tk e 6 st := if_neg (by rw [h]; decide)
theorem word_ok {st : PS} (h : nameT (hereT tk e st) = true) : wordP tk e st = ((hereT tk e st).s, st.next) := if_pos h
theorem word_no {st : PS} (h : nameT (hereT tk e st) = false) : wordP tk e st = (⟨#[]⟩, faultP tk e 6 st) := if_neg (by rw [h]; decide)
theorem term_no {b : Bool} {st : PS} (h : termT (hereT tk e st) = false) : termP tk e b st = (noTerm, faultP tk e 6 st) := if_neg (by rw [h]; decide)
theorem term_ok {st : PS} (h : termT (hereT tk e st) = true) : termP tk e false st = (termOfT (hereT tk e st), st.next) := by unfold termP; rw [if_pos h, if_neg (by decide)]
theorem term_over {st : PS} (h : termT (hereT tk e st) = true) : termP tk e true st = (noTerm, faultP tk e 7 st) := by unfold termP; rw [if_pos h, if_pos rfl]
theorem take_le {s : ByteArray} {st : PS} (h : st.i ≤ tk.length) : (takeP tk e s st).i ≤ tk.length := by
  unfold takeP; split
  · rename_i h2; exact sign_lt h2
  · rw [fault_i]; exact h
theorem word_le {st : PS} (h : st.i ≤ tk.length) : (wordP tk e st).2.i ≤ tk.length := by
  unfold wordP; split
  · rename_i h2; exact name_lt h2
  · show (faultP tk e 6 st).i ≤ _; rw [fault_i]; exact h
theorem term_le {b : Bool} {st : PS} (h : st.i ≤ tk.length) : (termP tk e b st).2.i ≤ tk.length := by
  unfold termP; split
  · rename_i h2
    split
    · show (faultP tk e 7 st).i ≤ _; rw [fault_i]; exact h
    · exact term_lt h2
  · show (faultP tk e 6 st).i ≤ _; rw [fault_i]; exact h
theorem open_le {st : PS} (h : st.i ≤ tk.length) : (atomOpen tk e st).i ≤ tk.length := take_le (word_le h)
theorem slash_le {st : PS} (h : st.i ≤ tk.length) : (slashP tk e st).i ≤ tk.length := take_le (word_le h)
theorem argsI_le : ∀ (f : Nat) (st : PS) (a : List Termt), st.i ≤ tk.length → (argsI tk e f st a).2.i ≤ tk.length
  | 0, st, a, h => h
  | f + 1, st, a, h => by
    unfold argsI
    split
    · split
      · show (faultP tk e 7 st).i ≤ _; rw [fault_i]; exact h
      · split
        · rename_i h2; exact argsI_le f _ _ (sign_lt h2)
        · exact term_le h
    · exact h
theorem atomI_le {st : PS} (h : st.i ≤ tk.length) : (atomI tk e st).2.i ≤ tk.length := by
  unfold atomI; split
  · rename_i h2; exact sign_lt h2
  · exact take_le (argsI_le 8 _ _ (open_le h))
theorem atomS_le {st : PS} (h : st.i ≤ tk.length) : (atomS tk e st).2.i ≤ tk.length := by rw [← (atom_agr st).1]; exact atomI_le h
theorem litI_le {st : PS} (h : st.i ≤ tk.length) : (litI tk e st).2.i ≤ tk.length := by
  unfold litI; split
  · rename_i h2; exact atomI_le (not_lt h2)
  · split
    · exact atomI_le h
    · split
      · show (faultP tk e 6 _).i ≤ _; rw [fault_i]; exact term_le h
      · rename_i h3
        exact term_le (st := (termP tk e false st).2.next) (good_lt (st := (termP tk e false st).2) (e := e) (by rw [opI_kind (t := hereT tk e (termP tk e false st).2) (by omega)]; decide))
theorem litS_le {st : PS} (h : st.i ≤ tk.length) : (litS tk e st).2.i ≤ tk.length := by rw [← (lit_agr st).1]; exact litI_le h
theorem bodyI_le : ∀ (f : Nat) (st : PS) (a : List Litt), st.i ≤ tk.length → (bodyI tk e f st a).2.i ≤ tk.length
  | 0, st, a, h => h
  | f + 1, st, a, h => by
    unfold bodyI
    split
    · split
      · show (faultP tk e 7 st).i ≤ _; rw [fault_i]; exact h
      · split
        · rename_i h2; exact bodyI_le f _ _ (sign_lt h2)
        · exact litI_le h
    · exact h
theorem plus_le {st : PS} (h : st.i ≤ tk.length) : (plusP tk e st).2.i ≤ tk.length := by
  unfold plusP; split
  · rename_i h2; exact sign_lt h2
  · split
    · rename_i h2; exact sign_lt h2
    · exact h
theorem ruleI_le {st : PS} (h : st.i ≤ tk.length) : (ruleI tk e st).2.i ≤ tk.length := by
  unfold ruleI; split
  · rename_i h2; exact take_le (bodyI_le 10 _ _ (sign_lt h2))
  · exact take_le (atomI_le (plus_le h))
theorem ruleS_le {st : PS} (h : st.i ≤ tk.length) : (ruleS tk e st).2.i ≤ tk.length := by rw [← (rule_agr st).1]; exact ruleI_le h
theorem declI_le {k : Int} {st : PS} (h : st.i < tk.length) : (declI tk e k st).2.i ≤ tk.length := by
  have h1 : (slashP tk e st.next).i ≤ tk.length := slash_le h
  unfold declI; split
  · rename_i h3
    split
    · refine take_le ?_; rw [fault_i]; exact h1
    · refine take_le (st := (slashP tk e st.next).next) (good_lt (st := slashP tk e st.next) (e := e) (by rw [h3]; decide))
  · refine take_le ?_; rw [fault_i]; exact h1
theorem declS_le {k : Int} {st : PS} (h : st.i ≤ tk.length) : (declS tk e k st).2.i ≤ tk.length := by
  have h1 : (slashP tk e st).i ≤ tk.length := slash_le h
  unfold declS; split
  · rename_i h3
    split
    · show (faultP tk e 7 _).i ≤ _; rw [fault_i]; exact h1
    · refine take_le (st := (slashP tk e st).next) (good_lt (st := slashP tk e st) (e := e) (by rw [h3]; decide))
  · show (faultP tk e 6 _).i ≤ _; rw [fault_i]; exact h1
theorem of_var {t : Tokent} (h : t.kind = 2) : termOfT t = ⟨t.s, ⟨0, ⟨#[]⟩⟩⟩ := if_pos h
theorem of_num {t : Tokent} (h : ¬ t.kind = 2) (h2 : t.kind = 3) : termOfT t = ⟨⟨#[]⟩, ⟨t.n, ⟨#[]⟩⟩⟩ := (if_neg h).trans (if_pos h2)
theorem of_name {t : Tokent} (h : ¬ t.kind = 2) (h2 : ¬ t.kind = 3) : termOfT t = ⟨⟨#[]⟩, ⟨0, t.s⟩⟩ := (if_neg h).trans (if_neg h2)
/-- What the reference makes of a term's token. -/
theorem of_any {t : Tokent} (h : tokOk t) (h2 : ¬ t.kind = 2) (h4 : ¬ t.kind = 4) : termOfT t = ⟨⟨#[]⟩, ⟨t.n, t.s⟩⟩ := by
  rcases h with h | h | h | h
  · rw [of_name h2 (by omega), h.2.1]
  · exact absurd h.1 h2
  · rw [of_num h2 h.1, h.2.1]
  · exact absurd h h4
/-! ### the arguments -/
theorem args_full {st : PS} {a : List Termt} (h0 : st.code = 0) (h1 : termT (hereT tk e st) = true) (h2 : (a.length : Int) = 6) : argsI tk e (8 - a.length) st a = (a, faultP tk e 7 st) := by
  obtain ⟨f, hf⟩ : ∃ f, 8 - a.length = f + 1 := ⟨1, by omega⟩
  rw [hf]; unfold argsI
  rw [if_pos h0, if_pos ⟨h1, by omega⟩]
theorem args_last {st : PS} {a : List Termt} (h0 : st.code = 0) (h1 : ¬ (termT (hereT tk e st) = true ∧ (a.length : Int) = 6)) (hl : a.length ≤ 6) (hs : signT (hereT tk e (termP tk e false st).2) ⟨#[44]⟩ = false) : argsI tk e (8 - a.length) st a = (a ++ [(termP tk e false st).1], (termP tk e false st).2) := by
  obtain ⟨f, hf⟩ : ∃ f, 8 - a.length = f + 1 := ⟨7 - a.length, by omega⟩
  rw [hf]; unfold argsI
  rw [if_pos h0, if_neg (fun q => h1 ⟨q.1, by omega⟩), if_neg (by rw [hs]; decide)]
theorem args_more {st : PS} {a : List Termt} (h0 : st.code = 0) (h1 : ¬ (termT (hereT tk e st) = true ∧ (a.length : Int) = 6)) (hl : a.length ≤ 6) (hs : signT (hereT tk e (termP tk e false st).2) ⟨#[44]⟩ = true) :
    a.length + 1 ≤ 6 ∧ (termP tk e false st).2.i < tk.length ∧ argsI tk e (8 - (a ++ [(termP tk e false st).1]).length) (termP tk e false st).2.next (a ++ [(termP tk e false st).1]) = argsI tk e (8 - a.length) st a := by
  have h6 : ¬ a.length = 6 := fun q => by
    have h2 : termT (hereT tk e st) = false := by
      cases h : termT (hereT tk e st)
      · rfl
      · exact absurd ⟨h, by omega⟩ h1
    rw [term_no h2] at hs
    have h3 : ¬ (faultP tk e 6 st).code = 0 := fault_code (by decide)
    simp [here_bad h3, signT] at hs
  refine ⟨by omega, sign_lt hs, ?_⟩
  obtain ⟨f, hf⟩ : ∃ f, 8 - a.length = f + 1 := ⟨7 - a.length, by omega⟩
  have hf2 : 8 - (a ++ [(termP tk e false st).1]).length = f := by simp; omega
  rw [hf, hf2, argsI, if_pos h0, if_neg (fun q => h1 ⟨q.1, by omega⟩), if_pos hs]
theorem argsS_last {st : PS} {a : List Termt} (h0 : st.code = 0) (hl : a.length ≤ 6) (hs : signT (hereT tk e (termP tk e (decide ((a.length : Int) = 6)) st).2) ⟨#[44]⟩ = false) : argsS tk e (8 - a.length) st a = (a ++ [(termP tk e (decide ((a.length : Int) = 6)) st).1], (termP tk e (decide ((a.length : Int) = 6)) st).2) := by
  have ed : decide ((a.length : Int) = 6) = decide (a.length = 6) := by rw [decide_eq_decide]; omega
  rw [ed] at hs ⊢
  obtain ⟨f, hf⟩ : ∃ f, 8 - a.length = f + 1 := ⟨7 - a.length, by omega⟩
  rw [hf]; unfold argsS
  rw [if_pos h0, if_neg (by rw [hs]; decide)]
theorem argsS_more {st : PS} {a : List Termt} (h0 : st.code = 0) (hl : a.length ≤ 6) (hs : signT (hereT tk e (termP tk e (decide ((a.length : Int) = 6)) st).2) ⟨#[44]⟩ = true) :
    a.length + 1 ≤ 6 ∧ (termP tk e (decide ((a.length : Int) = 6)) st).2.i < tk.length ∧ argsS tk e (8 - (a ++ [(termP tk e (decide ((a.length : Int) = 6)) st).1]).length) (termP tk e (decide ((a.length : Int) = 6)) st).2.next (a ++ [(termP tk e (decide ((a.length : Int) = 6)) st).1]) = argsS tk e (8 - a.length) st a := by
  have ed : decide ((a.length : Int) = 6) = decide (a.length = 6) := by rw [decide_eq_decide]; omega
  rw [ed] at hs ⊢
  have h6 : ¬ a.length = 6 := fun q => by
    have h3 : ¬ (termP tk e (decide (a.length = 6)) st).2.code = 0 := by
      unfold termP; split
      · rw [if_pos (by simp [q])]; exact fault_code (by decide)
      · exact fault_code (by decide)
    simp [here_bad h3, signT] at hs
  refine ⟨by omega, sign_lt hs, ?_⟩
  obtain ⟨f, hf⟩ : ∃ f, 8 - a.length = f + 1 := ⟨7 - a.length, by omega⟩
  have hf2 : 8 - (a ++ [(termP tk e (decide (a.length = 6)) st).1]).length = f := by simp; omega
  rw [hf, hf2, argsS, if_pos h0, if_pos hs]
/-! ### an atom -/
theorem atomI_none {st : PS} (h : signT (hereT tk e (atomOpen tk e st)) ⟨#[41]⟩ = true) : atomI tk e st = (⟨(wordP tk e st).1, []⟩, (atomOpen tk e st).next) := if_pos h
theorem atomS_none {st : PS} (h : signT (hereT tk e (atomOpen tk e st)) ⟨#[41]⟩ = true) : atomS tk e st = (⟨(wordP tk e st).1, []⟩, (atomOpen tk e st).next) := if_pos h
theorem atomI_some {st s2 : PS} {a : List Termt} (h : signT (hereT tk e (atomOpen tk e st)) ⟨#[41]⟩ = false) (h2 : argsI tk e 8 (atomOpen tk e st) [] = (a, s2)) : atomI tk e st = (⟨(wordP tk e st).1, a⟩, takeP tk e ⟨#[41]⟩ s2) := by
  unfold atomI; rw [if_neg (by rw [h]; decide), h2]
theorem atomS_some {st s2 : PS} {a : List Termt} (h : signT (hereT tk e (atomOpen tk e st)) ⟨#[41]⟩ = false) (h2 : argsS tk e 8 (atomOpen tk e st) [] = (a, s2)) : atomS tk e st = (⟨(wordP tk e st).1, a⟩, takeP tk e ⟨#[41]⟩ s2) := by
  unfold atomS; rw [if_neg (by rw [h]; decide), h2]
/-! ### a literal -/
theorem litI_not {st : PS} (h : notT (hereT tk e st) = true) : litI tk e st = (⟨2, (atomI tk e st.next).1, 0, noTerm, noTerm⟩, (atomI tk e st.next).2) := if_pos h
theorem litS_not {st : PS} (h : notT (hereT tk e st) = true) : litS tk e st = (⟨2, (atomS tk e st.next).1, 0, noTerm, noTerm⟩, (atomS tk e st.next).2) := if_pos h
theorem litI_is {st : PS} (h : notT (hereT tk e st) = false) (h2 : openT tk e st = true) : litI tk e st = (⟨1, (atomI tk e st).1, 0, noTerm, noTerm⟩, (atomI tk e st).2) := (if_neg (by rw [h]; decide)).trans (if_pos h2)
theorem litS_is {st : PS} (h : notT (hereT tk e st) = false) (h2 : openT tk e st = true) : litS tk e st = (⟨1, (atomS tk e st).1, 0, noTerm, noTerm⟩, (atomS tk e st).2) := (if_neg (by rw [h]; decide)).trans (if_pos h2)
theorem litI_bad {st : PS} (h : notT (hereT tk e st) = false) (h2 : openT tk e st = false) (h3 : opI (hereT tk e (termP tk e false st).2) < 1) : litI tk e st = (⟨3, noAtom, opI (hereT tk e (termP tk e false st).2), (termP tk e false st).1, noTerm⟩, faultP tk e 6 (termP tk e false st).2) :=
  (if_neg (by rw [h]; decide)).trans ((if_neg (by rw [h2]; decide)).trans (if_pos h3))
theorem litI_cmp {st : PS} (h : notT (hereT tk e st) = false) (h2 : openT tk e st = false) (h3 : ¬ opI (hereT tk e (termP tk e false st).2) < 1) : litI tk e st = (⟨3, noAtom, opI (hereT tk e (termP tk e false st).2), (termP tk e false st).1, (termP tk e false (termP tk e false st).2.next).1⟩, (termP tk e false (termP tk e false st).2.next).2) :=
  (if_neg (by rw [h]; decide)).trans ((if_neg (by rw [h2]; decide)).trans (if_neg h3))
theorem litS_cmp {st s2 : PS} (h : notT (hereT tk e st) = false) (h2 : openT tk e st = false) (h3 : opP tk e (termP tk e false st).2 = s2) : litS tk e st = (⟨3, noAtom, opS (hereT tk e (termP tk e false st).2), (termP tk e false st).1, (termP tk e false s2).1⟩, (termP tk e false s2).2) := by
  subst h3
  exact (if_neg (by rw [h]; decide)).trans (if_neg (by rw [h2]; decide))
theorem op_lt {st : PS} (h : ¬ opI (hereT tk e st) < 1) : st.i < tk.length := good_lt (by rw [opI_kind (t := hereT tk e st) (by omega)]; decide)
theorem opP_no {st : PS} (h : opS (hereT tk e st) = 0) : opP tk e st = faultP tk e 6 st := if_pos h
theorem opP_ok {st : PS} (h : ¬ opS (hereT tk e st) = 0) : opP tk e st = st.next ∧ st.i < tk.length := by
  refine ⟨if_neg h, good_lt (e := e) ?_⟩
  intro h0; apply h; unfold opS; rw [if_neg (by omega)]
/-! ### a body -/
theorem body_full {st : PS} {a : List Litt} (h0 : st.code = 0) (h1 : beginsT (hereT tk e st) = true) (h2 : (a.length : Int) = 8) : bodyI tk e (10 - a.length) st a = (a, faultP tk e 7 st) := by
  obtain ⟨f, hf⟩ : ∃ f, 10 - a.length = f + 1 := ⟨1, by omega⟩
  rw [hf]; unfold bodyI
  rw [if_pos h0, if_pos ⟨h1, by omega⟩]
theorem body_last {st : PS} {a : List Litt} (h0 : st.code = 0) (h1 : ¬ (beginsT (hereT tk e st) = true ∧ (a.length : Int) = 8)) (hl : a.length ≤ 8) (hs : signT (hereT tk e (litI tk e st).2) ⟨#[44]⟩ = false) : bodyI tk e (10 - a.length) st a = (a ++ [(litI tk e st).1], (litI tk e st).2) := by
  obtain ⟨f, hf⟩ : ∃ f, 10 - a.length = f + 1 := ⟨9 - a.length, by omega⟩
  rw [hf]; unfold bodyI
  rw [if_pos h0, if_neg (fun q => h1 ⟨q.1, by omega⟩), if_neg (by rw [hs]; decide)]
/-- What begins no literal is none. -/
theorem lit_none {st : PS} (h : beginsT (hereT tk e st) = false) : ¬ (litI tk e st).2.code = 0 := by
  simp only [beginsT, Bool.or_eq_false_iff] at h
  have h1 : openT tk e st = false := by
    have : nameT (hereT tk e st) = false := by
      have := h.1; unfold termT at this; simp only [Bool.or_eq_false_iff] at this; exact this.2.2
    simp [openT, this]
  have h3 : ¬ (faultP tk e 6 st).code = 0 := fault_code (by decide)
  have h4 : opI (hereT tk e (termP tk e false st).2) < 1 := by rw [term_no h.1]; simp [here_bad h3, opI]
  rw [litI_bad h.2 h1 h4, term_no h.1]
  exact fault_code (by decide)
theorem body_more {st : PS} {a : List Litt} (h0 : st.code = 0) (h1 : ¬ (beginsT (hereT tk e st) = true ∧ (a.length : Int) = 8)) (hl : a.length ≤ 8) (hs : signT (hereT tk e (litI tk e st).2) ⟨#[44]⟩ = true) :
    a.length + 1 ≤ 8 ∧ (litI tk e st).2.i < tk.length ∧ bodyI tk e (10 - (a ++ [(litI tk e st).1]).length) (litI tk e st).2.next (a ++ [(litI tk e st).1]) = bodyI tk e (10 - a.length) st a := by
  have h6 : ¬ a.length = 8 := fun q => by
    have h2 : beginsT (hereT tk e st) = false := by
      cases h : beginsT (hereT tk e st)
      · rfl
      · exact absurd ⟨h, by omega⟩ h1
    simp [here_bad (lit_none h2), signT] at hs
  refine ⟨by omega, sign_lt hs, ?_⟩
  obtain ⟨f, hf⟩ : ∃ f, 10 - a.length = f + 1 := ⟨9 - a.length, by omega⟩
  have hf2 : 10 - (a ++ [(litI tk e st).1]).length = f := by simp; omega
  rw [hf, hf2, bodyI, if_pos h0, if_neg (fun q => h1 ⟨q.1, by omega⟩), if_pos hs]
theorem bodyS_last {st s2 : PS} {a : List Litt} (h0 : st.code = 0) (hf : fullP tk e a st = s2) (hl : a.length ≤ 8) (hs : signT (hereT tk e (litS tk e s2).2) ⟨#[44]⟩ = false) : bodyS tk e (10 - a.length) st a = (a ++ [(litS tk e s2).1], (litS tk e s2).2) := by
  subst hf
  obtain ⟨f, hf⟩ : ∃ f, 10 - a.length = f + 1 := ⟨9 - a.length, by omega⟩
  rw [hf]; unfold bodyS
  rw [if_pos h0, if_neg (by rw [hs]; decide)]
theorem bodyS_more {st s2 : PS} {a : List Litt} (h0 : st.code = 0) (hf : fullP tk e a st = s2) (hl : a.length ≤ 8) (hs : signT (hereT tk e (litS tk e s2).2) ⟨#[44]⟩ = true) :
    a.length + 1 ≤ 8 ∧ (litS tk e s2).2.i < tk.length ∧ bodyS tk e (10 - (a ++ [(litS tk e s2).1]).length) (litS tk e s2).2.next (a ++ [(litS tk e s2).1]) = bodyS tk e (10 - a.length) st a := by
  subst hf
  have h6 : ¬ a.length = 8 := fun q => by
    have h3 : ¬ (litS tk e (fullP tk e a st)).2.code = 0 := by
      by_cases h2 : beginsT (hereT tk e st) = true
      · have e1 : fullP tk e a st = faultP tk e 7 st := by unfold fullP; rw [if_pos ⟨q, h2⟩]
        have h3 : ¬ (faultP tk e 7 st).code = 0 := fault_code (by decide)
        rw [e1, litS_bad h3]; exact h3
      · have e1 : fullP tk e a st = st := by unfold fullP; rw [if_neg fun q => h2 q.2]
        rw [e1, ← (lit_agr st).1]; exact lit_none (by simpa using h2)
    simp [here_bad h3, signT] at hs
  refine ⟨by omega, sign_lt hs, ?_⟩
  obtain ⟨f, hf⟩ : ∃ f, 10 - a.length = f + 1 := ⟨9 - a.length, by omega⟩
  have hf2 : 10 - (a ++ [(litS tk e (fullP tk e a st)).1]).length = f := by simp; omega
  rw [hf, hf2, bodyS, if_pos h0, if_pos hs]
theorem full_on {a : List Litt} {st : PS} (h : (a.length : Int) = 8) (h2 : beginsT (hereT tk e st) = true) : fullP tk e a st = faultP tk e 7 st := if_pos ⟨by omega, h2⟩
theorem full_off {a : List Litt} {st : PS} (h : ¬ ((a.length : Int) = 8 ∧ beginsT (hereT tk e st) = true)) : fullP tk e a st = st := if_neg fun q => h ⟨by omega, q.2⟩
/-! ### a rule -/
theorem plus_plus {st : PS} (h : signT (hereT tk e st) ⟨#[43]⟩ = true) : plusP tk e st = (2, st.next) := if_pos h
theorem plus_minus {st : PS} (h : signT (hereT tk e st) ⟨#[43]⟩ = false) (h2 : signT (hereT tk e st) ⟨#[45]⟩ = true) : plusP tk e st = (3, st.next) := (if_neg (by rw [h]; decide)).trans (if_pos h2)
theorem plus_none {st : PS} (h : signT (hereT tk e st) ⟨#[43]⟩ = false) (h2 : signT (hereT tk e st) ⟨#[45]⟩ = false) : plusP tk e st = (1, st) := (if_neg (by rw [h]; decide)).trans (if_neg (by rw [h2]; decide))
theorem ruleI_body {st : PS} (h : signT (hereT tk e (atomI tk e (plusP tk e st).2).2) ⟨#[58, 45]⟩ = true) : ruleI tk e st = (⟨(plusP tk e st).1, (atomI tk e (plusP tk e st).2).1, (bodyI tk e 10 (atomI tk e (plusP tk e st).2).2.next []).1⟩, takeP tk e ⟨#[46]⟩ (bodyI tk e 10 (atomI tk e (plusP tk e st).2).2.next []).2) := if_pos h
theorem ruleI_bare {st : PS} (h : signT (hereT tk e (atomI tk e (plusP tk e st).2).2) ⟨#[58, 45]⟩ = false) : ruleI tk e st = (⟨(plusP tk e st).1, (atomI tk e (plusP tk e st).2).1, []⟩, takeP tk e ⟨#[46]⟩ (atomI tk e (plusP tk e st).2).2) := if_neg (by rw [h]; decide)
theorem ruleS_body {st s2 : PS} {b : List Litt} (h : signT (hereT tk e (atomS tk e (plusP tk e st).2).2) ⟨#[58, 45]⟩ = true) (h2 : bodyS tk e 10 (atomS tk e (plusP tk e st).2).2.next [] = (b, s2)) : ruleS tk e st = (⟨(plusP tk e st).1, (atomS tk e (plusP tk e st).2).1, b⟩, takeP tk e ⟨#[46]⟩ s2) := by
  unfold ruleS; rw [if_pos h, h2]
theorem ruleS_bare {st : PS} (h : signT (hereT tk e (atomS tk e (plusP tk e st).2).2) ⟨#[58, 45]⟩ = false) : ruleS tk e st = (⟨(plusP tk e st).1, (atomS tk e (plusP tk e st).2).1, []⟩, takeP tk e ⟨#[46]⟩ (atomS tk e (plusP tk e st).2).2) := if_neg (by rw [h]; decide)
/-! ### a declaration -/
theorem declI_no {k : Int} {st : PS} (h : ¬ (hereT tk e (slashP tk e st.next)).kind = 3) : declI tk e k st = (⟨k, (wordP tk e st.next).1, 0⟩, takeP tk e ⟨#[46]⟩ (faultP tk e 6 (slashP tk e st.next))) := if_neg h
theorem declI_big {k : Int} {st : PS} (h : (hereT tk e (slashP tk e st.next)).kind = 3) (h2 : 6 < (hereT tk e (slashP tk e st.next)).n) : declI tk e k st = (⟨k, (wordP tk e st.next).1, 0⟩, takeP tk e ⟨#[46]⟩ (faultP tk e 7 (slashP tk e st.next))) := (if_pos h).trans (if_pos h2)
theorem declI_ok {k : Int} {st : PS} (h : (hereT tk e (slashP tk e st.next)).kind = 3) (h2 : ¬ 6 < (hereT tk e (slashP tk e st.next)).n) : declI tk e k st = (⟨k, (wordP tk e st.next).1, (hereT tk e (slashP tk e st.next)).n⟩, takeP tk e ⟨#[46]⟩ (slashP tk e st.next).next) := (if_pos h).trans (if_neg h2)
theorem declS_no {k : Int} {st : PS} (h : ¬ (hereT tk e (slashP tk e st)).kind = 3) : declS tk e k st = (⟨k, (wordP tk e st).1, 0⟩, faultP tk e 6 (slashP tk e st)) := if_neg h
theorem declS_big {k : Int} {st : PS} (h : (hereT tk e (slashP tk e st)).kind = 3) (h2 : 6 < (hereT tk e (slashP tk e st)).n) : declS tk e k st = (⟨k, (wordP tk e st).1, (hereT tk e (slashP tk e st)).n⟩, faultP tk e 7 (slashP tk e st)) := (if_pos h).trans (if_pos h2)
theorem declS_ok {k : Int} {st : PS} (h : (hereT tk e (slashP tk e st)).kind = 3) (h2 : ¬ 6 < (hereT tk e (slashP tk e st)).n) : declS tk e k st = (⟨k, (wordP tk e st).1, (hereT tk e (slashP tk e st)).n⟩, takeP tk e ⟨#[46]⟩ (slashP tk e st).next) := (if_pos h).trans (if_neg h2)
theorem num_lt {st : PS} (h : (hereT tk e st).kind = 3) : st.i < tk.length := good_lt (by rw [h]; decide)
/-! ### a program -/
def muP (st : PS) (ds : List Declt) (rs : List Rulet) : Nat := (43 - ds.length - rs.length) * 2 + (if st.code = 0 then 1 else 0)
theorem muP_fault {st st2 : PS} {ds : List Declt} {rs : List Rulet} (h : st.code = 0) (h2 : ¬ st2.code = 0) : muP st2 ds rs < muP st ds rs := by
  unfold muP; rw [if_pos h, if_neg h2]; omega
theorem muP_decl {st st2 : PS} {ds : List Declt} {rs : List Rulet} {d : Declt} (h : st.code = 0) (h2 : ds.length + rs.length < 43) : muP st2 (ds ++ [d]) rs < muP st ds rs := by
  unfold muP; rw [if_pos h, List.length_append, List.length_cons, List.length_nil]; split <;> omega
theorem muP_rule {st st2 : PS} {ds : List Declt} {rs : List Rulet} {r : Rulet} (h : st.code = 0) (h2 : ds.length + rs.length < 43) : muP st2 ds (rs ++ [r]) < muP st ds rs := by
  unfold muP; rw [if_pos h, List.length_append, List.length_cons, List.length_nil]; split <;> omega
def progT (tk : List Tokent) (e : Int) (st : PS) (ds : List Declt) (rs : List Rulet) : ProgR := progI tk e (43 - ds.length - rs.length) st ds rs
theorem progT_end {st : PS} {ds : List Declt} {rs : List Rulet} (h : ¬ (st.code = 0 ∧ st.i < tk.length)) (hl : ds.length ≤ 16 ∧ rs.length ≤ 24) : progT tk e st ds rs = (ds, rs, st) := by
  unfold progT
  obtain ⟨f, hf⟩ : ∃ f, 43 - ds.length - rs.length = f + 1 := ⟨42 - ds.length - rs.length, by omega⟩
  rw [hf, progI, if_neg h]
theorem progT_fault {st : PS} {ds : List Declt} {rs : List Rulet} {c : Int} (hc : ¬ c = 0) : progT tk e (faultP tk e c st) ds rs = (ds, rs, faultP tk e c st) := progI_bad (fault_code hc)
section
variable {st : PS} {ds : List Declt} {rs : List Rulet} (h0 : st.code = 0) (h1 : st.i < tk.length) (hl : ds.length ≤ 16 ∧ rs.length ≤ 24)
include h0 h1 hl
theorem progT_full (h : (0 < kindI (hereT tk e st) ∧ (ds.length : Int) = 16) ∨ (startsT (hereT tk e st) = true ∧ (rs.length : Int) = 24)) : progT tk e (faultP tk e 7 st) ds rs = progT tk e st ds rs := by
  rw [progT_fault (by decide)]
  unfold progT
  obtain ⟨f, hf⟩ : ∃ f, 43 - ds.length - rs.length = f + 1 := ⟨42 - ds.length - rs.length, by omega⟩
  rw [hf, progI, if_pos ⟨h0, h1⟩, if_pos (by rcases h with h | h; exact .inl ⟨h.1, by omega⟩; exact .inr ⟨h.1, by omega⟩), progI_bad (fault_code (by decide))]
theorem progT_decl (h : ¬ ((0 < kindI (hereT tk e st) ∧ (ds.length : Int) = 16) ∨ (startsT (hereT tk e st) = true ∧ (rs.length : Int) = 24))) (hk : 0 < kindI (hereT tk e st)) :
    progT tk e (declI tk e (kindI (hereT tk e st)) st).2 (ds ++ [(declI tk e (kindI (hereT tk e st)) st).1]) rs = progT tk e st ds rs ∧ ds.length < 16 := by
  have h2 : ¬ ds.length = 16 := fun q => h (.inl ⟨hk, by omega⟩)
  refine ⟨?_, by omega⟩
  unfold progT
  obtain ⟨f, hf⟩ : ∃ f, 43 - ds.length - rs.length = f + 1 := ⟨42 - ds.length - rs.length, by omega⟩
  have hf2 : 43 - (ds ++ [(declI tk e (kindI (hereT tk e st)) st).1]).length - rs.length = f := by simp; omega
  rw [hf, hf2]
  conv => rhs; rw [progI, if_pos ⟨h0, h1⟩, if_neg (by intro q; rcases q with q | q; exact h (.inl ⟨q.1, by omega⟩); exact h (.inr ⟨q.1, by omega⟩)), if_pos hk]
theorem progT_rule (h : ¬ ((0 < kindI (hereT tk e st) ∧ (ds.length : Int) = 16) ∨ (startsT (hereT tk e st) = true ∧ (rs.length : Int) = 24))) (hk : ¬ 0 < kindI (hereT tk e st)) (hs : startsT (hereT tk e st) = true) :
    progT tk e (ruleI tk e st).2 ds (rs ++ [(ruleI tk e st).1]) = progT tk e st ds rs ∧ rs.length < 24 := by
  have h2 : ¬ rs.length = 24 := fun q => h (.inr ⟨hs, by omega⟩)
  refine ⟨?_, by omega⟩
  unfold progT
  obtain ⟨f, hf⟩ : ∃ f, 43 - ds.length - rs.length = f + 1 := ⟨42 - ds.length - rs.length, by omega⟩
  have hf2 : 43 - ds.length - (rs ++ [(ruleI tk e st).1]).length = f := by simp; omega
  rw [hf, hf2]
  conv => rhs; rw [progI, if_pos ⟨h0, h1⟩, if_neg (by intro q; rcases q with q | q; exact h (.inl ⟨q.1, by omega⟩); exact h (.inr ⟨q.1, by omega⟩)), if_neg hk, if_pos hs]
theorem progT_none (hk : ¬ 0 < kindI (hereT tk e st)) (hs : startsT (hereT tk e st) = false) : progT tk e (faultP tk e 6 st) ds rs = progT tk e st ds rs := by
  rw [progT_fault (by decide)]
  unfold progT
  obtain ⟨f, hf⟩ : ∃ f, 43 - ds.length - rs.length = f + 1 := ⟨42 - ds.length - rs.length, by omega⟩
  rw [hf, progI, if_pos ⟨h0, h1⟩, if_neg (by rw [hs]; rintro (q | q); exact hk q.1; exact absurd q.1 (by decide)), if_neg hk, if_neg (by rw [hs]; decide), progI_bad (fault_code (by decide))]
end
/-- The reference's program; it may have one rule or declaration too many once there is a fault. -/
def progU (tk : List Tokent) (e : Int) (st : PS) (ds : List Declt) (rs : List Rulet) : ProgR := progS tk e (43 - ds.length - rs.length) st ds rs
def okU (st : PS) (ds : List Declt) (rs : List Rulet) : Prop := (ds.length ≤ 17 ∧ rs.length ≤ 25) ∧ (st.code = 0 → st.i ≤ tk.length ∧ ds.length ≤ 16 ∧ rs.length ≤ 24)
theorem progU_end {st : PS} {ds : List Declt} {rs : List Rulet} (h : ¬ (st.code = 0 ∧ st.i < tk.length)) : progU tk e st ds rs = (ds, rs, st) := by
  unfold progU
  cases 43 - ds.length - rs.length with
  | zero => rfl
  | succ f => rw [progS, if_neg h]
section
variable {st s2 : PS} {ds : List Declt} {rs : List Rulet} (h0 : st.code = 0) (h1 : st.i < tk.length) (hl : ds.length ≤ 16 ∧ rs.length ≤ 24)
include h0 h1 hl
theorem progU_decl (hk : 0 < kindS (hereT tk e st)) (hf : fullD tk e ds st = s2) :
    progU tk e (declS tk e (kindS (hereT tk e st)) s2.next).2 (ds ++ [(declS tk e (kindS (hereT tk e st)) s2.next).1]) rs = progU tk e st ds rs ∧ ((declS tk e (kindS (hereT tk e st)) s2.next).2.code = 0 → ds.length < 16 ∧ (declS tk e (kindS (hereT tk e st)) s2.next).2.i ≤ tk.length) := by
  subst hf
  constructor
  · unfold progU
    obtain ⟨f, hf⟩ : ∃ f, 43 - ds.length - rs.length = f + 1 := ⟨42 - ds.length - rs.length, by omega⟩
    have hf2 : 43 - (ds ++ [(declS tk e (kindS (hereT tk e st)) (fullD tk e ds st).next).1]).length - rs.length = f := by simp; omega
    rw [hf, hf2]
    conv => rhs; rw [progS, if_pos ⟨h0, h1⟩, if_pos hk]
  · intro hc
    by_cases q : ds.length = 16
    · exfalso
      have e1 : fullD tk e ds st = faultP tk e 7 st := by unfold fullD; rw [if_pos q]
      have h3 : ¬ (faultP tk e 7 st).next.code = 0 := fault_code (by decide)
      rw [e1, declS_bad h3] at hc
      exact h3 hc
    · have e1 : fullD tk e ds st = st := by unfold fullD; rw [if_neg q]
      rw [e1]
      exact ⟨by omega, declS_le (st := st.next) h1⟩
theorem progU_rule (hk : ¬ 0 < kindS (hereT tk e st)) (hf : fullR tk e rs st = s2) :
    progU tk e (ruleS tk e s2).2 ds (rs ++ [(ruleS tk e s2).1]) = progU tk e st ds rs ∧ ((ruleS tk e s2).2.code = 0 → rs.length < 24 ∧ (ruleS tk e s2).2.i ≤ tk.length) := by
  subst hf
  constructor
  · unfold progU
    obtain ⟨f, hf⟩ : ∃ f, 43 - ds.length - rs.length = f + 1 := ⟨42 - ds.length - rs.length, by omega⟩
    have hf2 : 43 - ds.length - (rs ++ [(ruleS tk e (fullR tk e rs st)).1]).length = f := by simp; omega
    rw [hf, hf2]
    conv => rhs; rw [progS, if_pos ⟨h0, h1⟩, if_neg hk]
  · intro hc
    by_cases q : startsT (hereT tk e st) = true ∧ rs.length = 24
    · exfalso
      have e1 : fullR tk e rs st = faultP tk e 7 st := by unfold fullR; rw [if_pos q]
      have h3 : ¬ (faultP tk e 7 st).code = 0 := fault_code (by decide)
      rw [e1, ruleS_bad h3] at hc
      exact h3 hc
    · have e1 : fullR tk e rs st = st := by unfold fullR; rw [if_neg q]
      rw [e1] at hc ⊢
      refine ⟨?_, ruleS_le (by omega)⟩
      by_cases h24 : rs.length = 24
      · exfalso
        have h4 : ¬ startsT (hereT tk e st) = true := fun h => q ⟨h, h24⟩
        have h3 : ¬ (faultP tk e 6 st).code = 0 := fault_code (by decide)
        obtain ⟨n1, n2, n3⟩ := name_none h4
        have e2 : plusP tk e st = (1, st) := plus_none n2 n3
        have e3 : wordP tk e st = (⟨#[]⟩, faultP tk e 6 st) := by unfold wordP; rw [if_neg n1]
        have e4 : atomOpen tk e st = faultP tk e 6 st := by unfold atomOpen; rw [e3, take_bad h3]
        have e5 : (atomS tk e st).2 = faultP tk e 6 st := by
          unfold atomS; rw [e4, if_neg (by simp [here_bad h3, signT]), argsS_bad h3, take_bad h3]
        have e6 : (ruleS tk e st).2 = faultP tk e 6 st := by
          unfold ruleS; rw [e2, e5, if_neg (by simp [here_bad h3, signT]), take_bad h3]
        rw [e6] at hc
        exact h3 hc
      · omega
end
/-! ### with the states named -/
theorem bodyI_bad {f : Nat} {st : PS} {a : List Litt} (h : ¬ st.code = 0) : bodyI tk e f st a = (a, st) := by cases f <;> simp [bodyI, h]
theorem bodyS_bad {f : Nat} {st : PS} {a : List Litt} (h : ¬ st.code = 0) : bodyS tk e f st a = (a, st) := by cases f <;> simp [bodyS, h]
theorem next_le {st : PS} {n : Nat} (h : st.i < n) : st.next.i ≤ n := h
theorem fault_le {c : Int} {st : PS} (h : st.i ≤ tk.length) : (faultP tk e c st).i ≤ tk.length := by rw [fault_i]; exact h
theorem open_no {st : PS} (h : nameT (hereT tk e st) = false) : openT tk e st = false := by simp [openT, h]
theorem open_end {st : PS} (h : nameT (hereT tk e st) = true) (h2 : ¬ st.i + 1 < tk.length) : openT tk e st = false := by
  have h3 : ¬ st.next.i < tk.length := h2
  simp [openT, here_end h3, signT]
theorem open_at {st : PS} (h : nameT (hereT tk e st) = true) (h2 : st.i + 1 < tk.length) : openT tk e st = signT tk[st.i + 1] ⟨#[40]⟩ := by
  have h3 : st.next.code = 0 := (here_good (tk := tk) (e := e) (st := st) (by rw [name_kind h]; decide)).1
  have h4 : hereT tk e st.next = tk[st.i + 1] := here_ok h3 h2
  simp [openT, h, h4]
theorem ruleI_body' {st s0 : PS} {k : Int} (hp : plusP tk e st = (k, s0)) (h : signT (hereT tk e (atomI tk e s0).2) ⟨#[58, 45]⟩ = true) : ruleI tk e st = (⟨k, (atomI tk e s0).1, (bodyI tk e 10 (atomI tk e s0).2.next []).1⟩, takeP tk e ⟨#[46]⟩ (bodyI tk e 10 (atomI tk e s0).2.next []).2) := by
  have := ruleI_body (tk := tk) (e := e) (st := st) (by rw [hp]; exact h)
  rw [hp] at this; exact this
theorem ruleI_bare' {st s0 : PS} {k : Int} (hp : plusP tk e st = (k, s0)) (h : signT (hereT tk e (atomI tk e s0).2) ⟨#[58, 45]⟩ = false) : ruleI tk e st = (⟨k, (atomI tk e s0).1, []⟩, takeP tk e ⟨#[46]⟩ (atomI tk e s0).2) := by
  have := ruleI_bare (tk := tk) (e := e) (st := st) (by rw [hp]; exact h)
  rw [hp] at this; exact this
theorem ruleS_body' {st s0 s2 : PS} {k : Int} {b : List Litt} (hp : plusP tk e st = (k, s0)) (h : signT (hereT tk e (atomS tk e s0).2) ⟨#[58, 45]⟩ = true) (h2 : bodyS tk e 10 (atomS tk e s0).2.next [] = (b, s2)) : ruleS tk e st = (⟨k, (atomS tk e s0).1, b⟩, takeP tk e ⟨#[46]⟩ s2) := by
  have := ruleS_body (tk := tk) (e := e) (st := st) (b := b) (s2 := s2) (by rw [hp]; exact h) (by rw [hp]; exact h2)
  rw [hp] at this; exact this
theorem ruleS_bare' {st s0 : PS} {k : Int} (hp : plusP tk e st = (k, s0)) (h : signT (hereT tk e (atomS tk e s0).2) ⟨#[58, 45]⟩ = false) : ruleS tk e st = (⟨k, (atomS tk e s0).1, []⟩, takeP tk e ⟨#[46]⟩ (atomS tk e s0).2) := by
  have := ruleS_bare (tk := tk) (e := e) (st := st) (by rw [hp]; exact h)
  rw [hp] at this; exact this
end
end Go.Proofs.Ytkemjhlbokldhaa

/- What a slot holds, said in other words. -/
namespace Go.Proofs.Ytkemjhlbokldhaa
open Go.RowKit
set_option linter.unusedVariables false

/-- What a slot holds, said in other words. -/
theorem AW_slot {P : Program} {N : Nat} {K : List Nat} {c : Code} {Kn : St → Prop} {Q : Exit → St → Prop} {s : St} {t : Nat} {x y : AVal} (ht : lk s.t t = some x) (h : x = y) (hA : AW P N K c Kn Q ⟨(t, y) :: s.t, s.l⟩) : AW P N K c Kn Q s := fun g a w r =>
  hA g a w ⟨r.size, r.defers, fun k z hk => by
    by_cases e : t = k
    · subst e; rw [lk_cons_self] at hk; cases hk; exact r.tmp _ _ (h ▸ ht)
    · rw [lk_cons_ne e] at hk; exact r.tmp k z hk, r.mem⟩
end Go.Proofs.Ytkemjhlbokldhaa

/- A contract that takes arrays and leaves others, under other numbers. -/
namespace Go.Proofs.Ytkemjhlbokldhaa
open Go.RowKit
set_option linter.unusedVariables false

/-- A contract that takes the blocks L: what becomes of them is not told. -/
structure AT (P : Program) (f : FuncId) (args : List AVal) (L : Locs) (res : AVal) (L' : Locs) : Prop where
  fn : Callable P f
  run : ∀ (g : Gh) (w : World) (cargs : Array Value), MemR g L w → All2 (VR1 g L w) cargs.toList args →
    Calls P f cargs w fun e w' => ∃ v g', e = .returned v ∧ MemR g' L' w' ∧ VR g' L' w' v res ∧ Step [] g L w g' L' w'
section body
variable {P : Program} {N : Nat} {f : FuncId} {fn : Func} {c : Code} {args : List AVal} {L L' : Locs}
end body
end Go.Proofs.Ytkemjhlbokldhaa

/- Texts and bytes in the abstract walk: the bytes of a text, appended. -/
namespace Go.Proofs.Ytkemjhlbokldhaa
open Go.RowKit
set_option linter.unusedVariables false

theorem u8_fine (b : UInt8) : (Lit.int .u8 (b.toNat : Int)).wf = true := by
  have := b.toNat_lt
  simp only [Lit.wf, Bool.and_eq_true, decide_eq_true_eq]
  have h1 : IntKind.u8.min = 0 := rfl
  have h2 : IntKind.u8.max = 255 := rfl
  rw [h1, h2]; omega
theorem FR.bytes {w : World} : ∀ (l : List UInt8), FR w (l.map fun b => Value.int .u8 b.toNat) ((l.map fun b => (b.toNat : Int)).flatMap fun n => [Cell.c (.int .u8 n)]) []
  | [] => rfl
  | b :: l => ⟨[], [], rfl, ⟨rfl, u8_fine b, rfl⟩, FR.bytes l⟩
section ops
variable {P : Program} {N : Nat} {s : St} {d : Nat} {ty : TypeId} {pos : String} {after : Array Edge} {gd : Option (Nat × Bool)}
end ops
end Go.Proofs.Ytkemjhlbokldhaa

/- Parts of slices and of texts; texts made of bytes; own arrays that are given up to be read alone. -/
namespace Go.Proofs.Ytkemjhlbokldhaa
open Go.RowKit
set_option linter.unusedVariables false

/-- A bound of a part: an operand, or the usual one. -/
inductive OB (t : Tmps) (dv : Nat) : Option Operand → List (Nat × AVal) → Nat → Prop
  | no : OB t dv none [] dv
  | yes {o : Operand} {k : IntKind} {v : Int} {l : Nat} (h : evo t o = some (.one (.c (.int k v)))) (hv : v = (l : Int)) : OB t dv (some o) (rdo o (.one (.c (.int k v)))) l
theorem OB.rd {t : Tmps} {dv : Nat} {o : Option Operand} {rd : List (Nat × AVal)} {l : Nat} (h : OB t dv o rd l) : ∀ p ∈ rd, lk t p.1 = some p.2 := by
  cases h with
  | no => intro p hp; cases hp
  | yes h hv => exact rdo_of h
theorem OB.ev {N : Nat} {t : Tmps} {dv : Nat} {o : Option Operand} {rd : List (Nat × AVal)} {l : Nat} (h : OB t dv o rd l) {g : Gh} {s : St} {a : Act} {w : World} (r : Rep N g s a w) (hr : ∀ p ∈ rd, lk s.t p.1 = some p.2) :
    (o.map a.eval = none ∧ l = dv) ∨ ∃ k, o.map a.eval = some (.int k (l : Int)) := by
  cases h with
  | no => exact .inl ⟨rfl, rfl⟩
  | yes h hv =>
    have e4 := (eval_ok r (evs_of h) hr : CellR g s.l w _ (.c _)).1
    subst hv
    exact .inr ⟨_, congrArg some e4⟩
section ops
variable {P : Program} {N : Nat} {s : St} {d : Nat} {ty : TypeId} {pos : String} {after : Array Edge} {gd : Option (Nat × Bool)}
theorem run_sliceS {P : Program} {T : Nat} (hT : P.underlying T = some .string) (w : World) (b : ByteArray) {lo hi : Option Value} {l h : Nat} (hlo : (lo = none ∧ l = 0) ∨ ∃ k, lo = some (.int k (l : Int))) (hhi : (hi = none ∧ h = b.size) ∨ ∃ k, hi = some (.int k (h : Int)))
    (h1 : l ≤ h) (h2 : h ≤ b.size) : (Instr.sliceAt T (.string b) lo hi none).run P w = .ok (.string (b.extract l h)) w := by
  have d1 : (0 : Int) ≤ (l : Int) ∧ (l : Int) ≤ (h : Int) := by omega
  have d2 : (0 : Int) ≤ (h : Int) ∧ (h : Int) ≤ (b.size : Int) := by omega
  rcases hlo with ⟨rfl, rfl⟩ | ⟨k, rfl⟩ <;> rcases hhi with ⟨rfl, rfl⟩ | ⟨k', rfl⟩ <;>
    simp [Instr.sliceAt, Instr.slice, run_underlying hT, Instr.sliceBounds, run_sliceBound, *]
/-- A part of a text. -/
theorem x_sslice {T l h : Nat} {x : Operand} {b b' : ByteArray} {lo hi : Option Operand} {rl rh : List (Nat × AVal)} (hN : Nat.blt d N = true) (hx : evo s.t x = some (.one (.c (.string b)))) (hT : P.underlying T = some .string) (ho : OB s.t 0 lo rl l) (hh : OB s.t b.size hi rh h)
    (h1 : l ≤ h) (h2 : h ≤ b.size) (hy : b.extract l h = b') :
    Stp P N ⟨some d, .slice T x lo hi none, ty, pos, after, gd⟩ s ⟨(d, .one (.c (.string b'))) :: s.t, s.l⟩ ⟨rdo x (.one (.c (.string b))) ++ (rl ++ rh), [], [(d, .one (.c (.string b')))], [], []⟩ :=
  Stp.pure rfl hN (fun p hp => by rcases List.mem_append.1 hp with hp | hp; exact rdo_of hx p hp; rcases List.mem_append.1 hp with hp | hp; exact ho.rd p hp; exact hh.rd p hp) (by simp) fun g s' a w ht hl' r => by
    obtain ⟨e1, e2⟩ : CellR g s'.l w (a.eval x) (.c (.string b)) := eval_ok r (evs_of hx) fun p hp => ht p (List.mem_append_left _ hp)
    have e2' : b.size ≤ maxLen := e2
    have q1 := ho.ev r fun p hp => ht p (List.mem_append_right _ (List.mem_append_left _ hp))
    have q2 := hh.ev r fun p hp => ht p (List.mem_append_right _ (List.mem_append_right _ hp))
    have d1 : (0 : Int) ≤ (l : Int) ∧ (l : Int) ≤ (h : Int) := by omega
    have d2 : (0 : Int) ≤ (h : Int) ∧ (h : Int) ≤ (b.size : Int) := by omega
    subst hy
    refine ⟨.string (b.extract l h), ?_, rfl, ?_⟩
    · simp only [execOp, e1, Sem.run_bind, Option.map_none, run_sliceS hT w b q1 q2 h1 h2, Result.andThen_ok, Sem.run_pure]
    · show (b.extract l h).size ≤ maxLen
      have : (b.extract l h).size = min h b.size - l := by simp
      omega
end ops
/-! ### An own array is given up: nobody writes it any more -/
theorem box_re2 {g : Gh} {l : Locs} {w : World} (m : MemR g l w) {b : Nat} {cs cs' : List Cell} (hb : lkl l b = some (.box cs)) (h : ∀ (vs : Array Value) (t : TypeId), w.heap[g.ρ b]? = some (.cells vs t (0, 0)) → All2 (CellR g l w) vs.toList cs → All2 (CellR g l w) vs.toList cs') :
    MemR g ((b, some (.box cs')) :: l) w ∧ (∀ K, Step K g l w g ((b, some (.box cs')) :: l) w) ∧ ∀ j, okK g l g ((b, some (.box cs')) :: l) j := by
  obtain ⟨vs, t, h1, h2, h3⟩ := m.box b cs hb
  have h4 := box_set m hb (vs := vs.toList) (vs' := vs.toList) (T := t) (by simpa using h1) (h _ _ h1 h2)
  have e : w.setRow (g.ρ b) vs.toList.toArray = w := by
    simp only [Array.toArray_toList]
    have hh : (w.setRow (g.ρ b) vs).heap = w.heap := Array.ext_getElem? fun i => by
      by_cases hi : i = g.ρ b
      · subst hi; rw [setRow_heap w _ _ _ t _ h1, h1]
      · exact setRow_other w _ i _ hi
    have h5 : w.setRow (g.ρ b) vs = { w with heap := (w.setRow (g.ρ b) vs).heap } := rfl
    rw [h5, hh]
  rw [e] at h4
  exact ⟨h4.1, h4.2.1, h4.2.2.2⟩
def Gh.shut (g : Gh) (k : Nat) : Gh := { g with I := fun b => g.I b ∨ (g.hd k ≠ .slice none 0 0 ∧ b = g.ρ k) }
section shut
variable {g : Gh} {l : Locs} {w : World}
theorem shut_mem (m : MemR g l w) {k : Nat} {α : Type} {T : TypeId} {e : Enc α} {xs : List α} {dp : Bool} (hk : lkl l k = some (.arr T e xs dp)) :
    MemR (g.shut k) ((k, none) :: l) w ∧ (∀ K, Step K g l w (g.shut k) ((k, none) :: l) w) ∧ CellR (g.shut k) ((k, none) :: l) w (g.hd k) (.sl e xs) ∧ ∀ j, okK g l (g.shut k) ((k, none) :: l) j := by
  have live : g.hd k ≠ .slice none 0 0 → liv g k (.arr T e xs dp) := fun h => h
  have hlt : ∀ b, (g.shut k).I b → b < w.heap.size := fun b hb => hb.elim (m.ilt b) fun h => by rw [h.2]; exact m.lt hk (live h.1)
  have hu : ∀ j, j ≠ k → lkl ((k, none) :: l) j = none ∨ Untouched g l w (g.shut k) ((k, none) :: l) w j := fun j hj =>
    .inr ⟨lkl_cons_ne (Ne.symm hj), rfl, rfl, rfl, fun b hb hl => ⟨rfl, fun h => h.elim (m.notI hb hl) fun h => m.dis j k b _ hj hb hk hl (live h.1) h.2⟩⟩
  have ok : ∀ j, okK g l (g.shut k) ((k, none) :: l) j := fun j => by
    by_cases e : j = k
    · subst e; exact okK.gone lkl_cons_self
    · exact okK.same (lkl_cons_ne (Ne.symm e)) rfl rfl
  have no : ∀ {b : Blk}, lkl ((k, none) :: l) k = some b → False := fun h => by rw [lkl_cons_self] at h; cases h
  refine ⟨m.set1 k (fun _ _ => rfl) (fun _ h => .inl h) (Nat.le_refl _) hlt hu (.inl (ok k)) (fun cs h => (no h).elim) (fun α T e xs d h => (no h).elim) (fun j b b' _ _ _ h => (no h).elim) (fun α T e xs h => (no h).elim) (fun j α β T U e f xs ys _ _ _ h => (no h).elim), fun K => ?_, ?_, ok⟩
  · refine ⟨rfl, rfl, rfl, Nat.le_refl _, fun _ _ _ => rfl, fun _ h => .inl h, fun b h => h.elim .inl fun h => .inr (.inr ⟨k, _, hk, .inl ⟨live h.1, h.2⟩⟩), own_set1 k hu (fun b h => (no h).elim) (fun α T e xs h => (no h).elim), fun j hj hn => ?_⟩
    refine ⟨?_, ok j, fun cs hc => ?_⟩
    · by_cases e : k = j
      · subst e; rw [lk_cons_self]; simp
      · rw [lk_cons_ne e]; exact hn
    · by_cases e : k = j
      · subst e; rw [hk] at hc; cases hc
      · exact ⟨cs, by rw [lkl_cons_ne e]; exact hc⟩
  · obtain ⟨a, n, cap, bs, h1, h2, h3, _⟩ := (m.arr k _ _ _ _ _ hk).slice
    exact ⟨a, n, cap, bs, h1, h2, fun b hb => h3 b hb⟩
variable {P : Program} {N : Nat} {K : List Nat} {Kn : St → Prop} {Q : Exit → St → Prop} {s : St}
theorem AW_shut {α : Type} {T : TypeId} {e : Enc α} {xs : List α} {dp : Bool} {c : Code} (k t : Nat) (ht : lk s.t t = some (.one (.own k))) (hk : lkl s.l k = some (.arr T e xs dp))
    (h : AW P N K c Kn Q ⟨(t, .one (.sl e xs)) :: s.t, (k, none) :: s.l⟩) : AW P N K c Kn Q s := fun g a w r => by
  obtain ⟨m1, st1, c1, ok1⟩ := shut_mem r.mem hk
  have r1 := r.next0 (g' := g.shut k) (l' := (k, none) :: s.l) (w' := w) (fun _ _ => rfl) (fun _ h => .inl h) (Nat.le_refl _) (fun j _ => ok1 j) m1
  have hv : a.tmps.getD t undef = g.hd k := (r.tmp t _ ht : CellR g s.l w _ (.own k)) _ _ _ _ _ hk
  have r2 : Rep N (g.shut k) ⟨(t, .one (.sl e xs)) :: s.t, (k, none) :: s.l⟩ a w := ⟨r1.size, r1.defers, fun j x hj => by
    by_cases hjt : t = j
    · subst hjt
      rw [lk_cons_self] at hj; cases hj
      rw [hv]; exact c1
    · rw [lk_cons_ne hjt] at hj
      exact r1.tmp j x hj, m1⟩
  exact Go.wp_mono (h _ a w r2) fun e a1 w1 h1 => h1.trans r.mem m1 (st1 K)
/-- .. where it lies in a variable. -/
theorem AW_shutB {α : Type} {T : TypeId} {e : Enc α} {xs : List α} {dp : Bool} {c : Code} (k b off : Nat) {cs cs' : List Cell} (hb : lkl s.l b = some (.box cs)) (hc : nthC cs off = some (.own k)) (hcs : cs.set off (.sl e xs) = cs') (hk : lkl s.l k = some (.arr T e xs dp))
    (h : AW P N K c Kn Q ⟨s.t, (b, some (.box cs')) :: (k, none) :: s.l⟩) : AW P N K c Kn Q s := fun g a w r => by
  obtain ⟨m1, st1, c1, ok1⟩ := shut_mem r.mem hk
  have hkb : k ≠ b := fun e => by subst e; rw [hb] at hk; cases hk
  have hb' : lkl ((k, none) :: s.l) b = some (.box cs) := by rw [lkl_cons_ne hkb]; exact hb
  obtain ⟨m2, st2, ok2⟩ := box_re2 m1 hb' (cs' := cs') (fun vs ty hh hv => by
    obtain ⟨vs0, t0, z1, z2, z3⟩ := r.mem.box b cs hb
    have e0 : vs0 = vs := by
      have hh' : w.heap[g.ρ b]? = some (.cells vs ty (0, 0)) := hh
      rw [z1] at hh'; cases hh'; rfl
    subst e0
    obtain ⟨v, h1, h2⟩ := z2.get (nthC_get hc)
    have hvk : v = g.hd k := h2 _ _ _ _ _ hk
    have h3 := hv.set (i := off) (v := v) (x := .sl e xs) (hvk ▸ c1)
    rw [hcs] at h3
    have h4 : vs0.toList.set off v = vs0.toList := by
      obtain ⟨hl, rfl⟩ := List.getElem?_eq_some_iff.1 h1
      exact List.set_getElem_self hl
    rwa [h4] at h3)
  have r2 := r.next0 (g' := g.shut k) (l' := (b, some (.box cs')) :: (k, none) :: s.l) (w' := w) (fun _ _ => rfl) (fun _ h => .inl h) (Nat.le_refl _) (fun j hj => (ok1 j).trans (ok2 j)) m2
  exact Go.wp_mono (h _ a w r2) fun e a1 w1 h1 => h1.trans r.mem m2 ((st1 K).trans r.mem m1 (st2 K))
end shut
end Go.Proofs.Ytkemjhlbokldhaa

/- Operations whose new array is at once given up to be read alone. -/
namespace Go.Proofs.Ytkemjhlbokldhaa
open Go.RowKit
set_option linter.unusedVariables false

theorem above : ∀ L : List Nat, ∃ k, ∀ i ∈ L, i < k
  | [] => ⟨0, fun i h => by cases h⟩
  | a :: L => by
    obtain ⟨k, hk⟩ := above L
    refine ⟨max (a + 1) k, fun i hi => ?_⟩
    rcases List.mem_cons.1 hi with rfl | hi
    · omega
    · have := hk i hi; omega
section
variable {g g' : Gh} {l l' : Locs} {w w' : World}
theorem okK.congr {l2 : Locs} (h : ∀ j, lkl l' j = lkl l2 j) {k : Nat} (hk : okK g l g' l' k) : okK g l g' l2 k :=
  ⟨fun cs hc => hk.1 cs (by rw [h]; exact hc), fun α T e xs d hc => hk.2 α T e xs d (by rw [h]; exact hc)⟩
theorem okK.back {l2 : Locs} (h : ∀ j, lkl l j = lkl l2 j) {k : Nat} : okK g l g l2 k := okK.same (h k).symm rfl rfl
theorem MemR.congr (h : ∀ j, lkl l j = lkl l' j) (m : MemR g l w) : MemR g l' w := by
  refine ⟨m.ilt, fun k cs hc => ?_, fun k α T e xs d hc => m.arr k _ _ _ _ _ (by rw [h]; exact hc), fun j k b b' hjk h1 h2 => m.dis j k _ _ hjk (by rw [h]; exact h1) (by rw [h]; exact h2), fun k α T e xs hc => m.fr k _ _ _ _ (by rw [h]; exact hc), fun j k α β T U e f xs ys hjk h1 h2 => m.fd j k _ _ _ _ _ _ _ _ hjk (by rw [h]; exact h1) (by rw [h]; exact h2)⟩
  obtain ⟨vs, t, h1, h2, h3⟩ := m.box k cs (by rw [h]; exact hc)
  exact ⟨vs, t, h1, h2.mono fun a c _ hr => CellR.step (fun _ _ => rfl) (fun _ h => h) (Nat.le_refl _) (fun i _ => okK.back h) hr, h3⟩
theorem VR.congr (h : ∀ j, lkl l j = lkl l' j) {v : Value} {x : AVal} (hv : VR g l w v x) : VR g l' w v x := hv.step (fun _ _ => rfl) (fun _ h => h) (Nat.le_refl _) (fun i _ => okK.back h)
theorem OwnB.congr (h : ∀ j, lkl l j = lkl l' j) {b : Nat} (hb : OwnB g l b) : OwnB g l' b := by
  obtain ⟨k, blk, h1, h2⟩ := hb
  exact ⟨k, blk, by rw [← h]; exact h1, h2⟩
end
theorem OpOK.frz {P : Program} {N d : Nat} {o : Oper} {rt : List (Nat × AVal)} {rl : List (Nat × Blk)} {α : Type} {T : TypeId} {e : Enc α} {xs : List α} {dp : Bool} {L : List Nat}
    (h : ∀ k, (∀ i ∈ L, i < k) → OpOK P N o ⟨rt, rl, [(d, .one (.own k))], [(k, some (.arr T e xs dp))], [k]⟩) : OpOK P N o ⟨rt, rl, [(d, .one (.sl e xs))], [], []⟩ := fun K g s a w hp r => by
  obtain ⟨k, hk⟩ := above (L ++ (keys s.l ++ s.ids))
  have hkl : lk s.l k = none := by
    cases hq : lk s.l k with
    | none => rfl
    | some y =>
      have h1 : k ∈ keys s.l := List.mem_map.2 ⟨_, lk_mem hq, rfl⟩
      have := hk k (List.mem_append_right _ (List.mem_append_left _ h1))
      omega
  have hki : k ∉ s.ids := fun hm => by
    have := hk k (List.mem_append_right _ (List.mem_append_right _ hm))
    omega
  have hkk : lkl s.l k = none := by unfold lkl; rw [hkl]
  have h1 := h k (fun i hi => hk i (List.mem_append_left _ hi)) K g s a w ⟨hp.1, hp.2.1, fun j hj => by simp at hj; subst hj; exact ⟨hkl, hki⟩⟩ r
  refine Oper.wp_mono ?_ h1
  rintro a' w' ⟨g', r', st⟩
  have hu : (Cert.upd ⟨rt, rl, [(d, .one (.own k))], [(k, some (.arr T e xs dp))], [k]⟩ s) = ⟨(d, .one (.own k)) :: s.t, (k, some (.arr T e xs dp)) :: s.l⟩ := rfl
  rw [hu] at r' st
  have hka : lkl ((k, some (Blk.arr T e xs dp)) :: s.l) k = some (.arr T e xs dp) := lkl_cons_self
  obtain ⟨m1, st1, c1, ok1⟩ := shut_mem r'.mem hka
  have T2 := Step.trans r.mem r'.mem st (st1 K)
  have hl : ∀ j, lkl ((k, none) :: (k, some (Blk.arr T e xs dp)) :: s.l) j = lkl s.l j := fun j => by
    by_cases q : k = j
    · subst q; rw [lkl_cons_self, hkk]
    · rw [lkl_cons_ne q, lkl_cons_ne q]
  have hv : a'.tmps.getD d undef = g'.hd k := (r'.tmp d _ (lk_cons_self ..) : CellR g' _ w' _ (.own k)) _ _ _ _ _ hka
  refine ⟨g'.shut k, ⟨r'.size, r'.defers, fun j x hj => ?_, m1.congr hl⟩, ⟨T2.os, T2.tape, T2.output, T2.size, T2.keep, T2.imm, T2.imm', fun b hb => T2.own b (OwnB.congr (fun j => (hl j).symm) hb), fun j hj hn => ?_⟩⟩
  · have hj : lk ((d, AVal.one (.sl e xs)) :: s.t) j = some x := hj
    by_cases hjt : d = j
    · subst hjt
      rw [lk_cons_self] at hj; cases hj
      rw [hv]; exact VR.congr (x := .one (.sl e xs)) hl c1
    · rw [lk_cons_ne hjt] at hj
      have h2 := r'.tmp j x (by show lk ((d, AVal.one (.own k)) :: s.t) j = some x; rw [lk_cons_ne hjt]; exact hj)
      have h3 : VR (g'.shut k) ((k, none) :: (k, some (Blk.arr T e xs dp)) :: s.l) w' (a'.tmps.getD j undef) x := h2.step (fun _ _ => rfl) (fun _ h => .inl h) (Nat.le_refl _) (fun i _ => ok1 i)
      exact VR.congr hl h3
  · obtain ⟨z1, z2, z3⟩ := T2.base j hj hn
    exact ⟨hn, okK.congr hl z2, fun cs hc => ⟨cs, hc⟩⟩
theorem noId_mk {k : Nat} {l : List Nat} (h : k ∉ l) : noId k l = true := by
  unfold noId
  rw [List.all_eq_true]
  intro i hi
  cases hq : Nat.beq i k
  · rfl
  · exact absurd (Nat.eq_of_beq_eq_true hq ▸ hi) h
section ops
variable {P : Program} {N : Nat} {s : St} {d : Nat} {ty : TypeId} {pos : String} {after : Array Edge} {gd : Option (Nat × Bool)}
theorem y_bslice_sl {α : Type} {e : Enc α} {f : α → List Cell} [hc : CellsOf e f] {T E len : Nat} (ops : List Operand) {parts : Array (Nat × Operand)} {Xs : List AVal} (xs : List α) {ds : List Cell} {dp : Bool} (hN : Nat.blt d N = true)
    (hparts : parts = ((ops.zipIdx 0).map fun x => (x.2, x.1)).toArray) (hev : evl s.t ops = some Xs) (hfl : flats Xs = true) (hsol : (Xs.flatMap AVal.cells).all (solid s.l) = true)
    (hlen : ops.length = len) (hsz : Xs.all (fun X => Nat.beq X.cells.length e.size) = true)
    (hmv : mvC s.l (Xs.flatMap AVal.cells) = some (ds, [], dp)) (hfit : FitL ds (xs.flatMap f)) (hxs : xs.length = len) (hpos : Nat.blt 0 len = true) (hsmall : Nat.ble (len * e.size) 16777216 = true)
    (hT : arrOk P T E e.size = true) :
    Stp P N ⟨some d, .buildSlice T len parts, ty, pos, after, gd⟩ s ⟨(d, .one (.sl e xs)) :: s.t, s.l⟩ ⟨rdl s.t ops, rlC s.l (Xs.flatMap AVal.cells), [(d, .one (.sl e xs))], [], []⟩ :=
  ⟨OpOK.frz (T := E) (dp := dp) (L := keys s.l ++ s.ids) fun k hk => (y_bslice ops xs k hN hparts hev hfl hsol hlen hsz hmv hfit rfl hxs hpos hsmall (by
      cases hq : lk s.l k with
      | none => rfl
      | some y =>
        have h1 : k ∈ keys s.l := List.mem_map.2 ⟨_, lk_mem hq, rfl⟩
        have := hk k (List.mem_append_left _ h1)
        omega) (noId_mk fun hm => by
        have := hk k (List.mem_append_right _ hm)
        omega) hT).1, ⟨(evl_ok (N := N) hev).1, rlC_self, fun j hj => by cases hj⟩, rfl⟩
end ops
end Go.Proofs.Ytkemjhlbokldhaa

/- Loads from the elements of an own array, in the abstract walk. -/
namespace Go.Proofs.Ytkemjhlbokldhaa
open Go.RowKit
set_option linter.unusedVariables false
section
variable {P : Program} {N d : Nat} {s : St} {ty : TypeId} {pos : String} {after : Array Edge} {gd : Option (Nat × Bool)}
end
end Go.Proofs.Ytkemjhlbokldhaa

/- Elements ars the cells that hold them: what a function that moves elements about does with an array of one's own, footprint and all. -/
namespace Go.Proofs.Ytkemjhlbokldhaa
open Go.RowKit
set_option linter.unusedVariables false

/-- A datum, the cells that hold it, and its footprint. -/
structure Raw (α : Type) where
  x : α
  vs : List Value
  b : List Nat
theorem CLe.rx {α : Type} {e : Enc α} {f : α → List Cell} [hc : CellsOf e f] {x : α} {vs : List Value} {b : List Nat} {j : Nat} {y : Cell} (h : nthC (f x) j = some y) : CLe (.rx e x vs b j) y := fun g l w v h1 => by
  obtain ⟨v', h2, h3⟩ := ((hc.iff.1 h1.2.1).all2 h1.2.2).get (nthC_get h)
  have h4 := h1.1.1
  rw [h4] at h2; cases h2
  exact h3
end Go.Proofs.Ytkemjhlbokldhaa

/- Contracts told of the cells of a row, ars contracts of arrays of one's own. -/
namespace Go.Proofs.Ytkemjhlbokldhaa
open Go.RowKit
set_option linter.unusedVariables false

section
variable {g : Gh} {l : Locs} {w w' : World}
end
/-! ### Elements of some cells, copied and cleared -/
theorem FR.flatLen {α : Type} {e : Enc α} {f : α → List Cell} [hc : CellsOf e f] {w : World} : ∀ {xs : List α} {vs : List Value} {b : List Nat}, FR w vs (xs.flatMap f) b → vs.length = xs.length * e.size
  | [], [], b, h => by simp
  | [], _ :: _, b, h => h.elim
  | x :: xs, vs, b, h => by
    rw [List.flatMap_cons] at h
    obtain ⟨v1, v2, b1, b2, rfl, rfl, h1, h2⟩ := FR.app.1 h
    have l1 := e.len (hc.iff.2 h1)
    have l2 := FR.flatLen (e := e) h2
    rw [List.length_append, l1, l2, List.length_cons, Nat.add_mul]; omega
theorem FR.parts {α : Type} {e : Enc α} {f : α → List Cell} [hc : CellsOf e f] {w : World} {xs : List α} {cells : List Value} {bs : List Nat} (h : FR w cells (xs.flatMap f) bs) {i : Nat} (hi : i ≤ xs.length) :
    ∃ b1 b3, bs = b1 ++ b3 ∧ FR w (cells.take (i * e.size)) ((xs.take i).flatMap f) b1 ∧ FR w (cells.drop (i * e.size)) ((xs.drop i).flatMap f) b3 := by
  have e0 : xs.flatMap f = (xs.take i).flatMap f ++ (xs.drop i).flatMap f := by rw [← List.flatMap_append, List.take_append_drop]
  rw [e0] at h
  obtain ⟨v1, v2, b1, b3, rfl, rfl, h1, h2⟩ := FR.app.1 h
  have l1 := FR.flatLen (e := e) h1
  rw [List.length_take, Nat.min_eq_left hi] at l1
  exact ⟨b1, b3, rfl, by rw [List.take_left' l1]; exact h1, by rw [List.drop_left' l1]; exact h2⟩
end Go.Proofs.Ytkemjhlbokldhaa

/- Results that nobody writes any more; arrays whose elements are shared; appending and clearing in regions. -/
namespace Go.Proofs.Ytkemjhlbokldhaa
open Go.RowKit
set_option linter.unusedVariables false

/-! ### An array's elements are no longer its own alone -/
section
variable {g : Gh} {l : Locs} {w : World}
variable {P : Program} {N : Nat} {K : List Nat} {Kn : St → Prop} {Q : Exit → St → Prop} {s : St}
end

/-! ### A result that is given up to be read alone -/
def frzC {α : Type} (e : Enc α) (xs : List α) : Cell → Cell
  | .own _ => .sl e xs
  | c => c
def AVal.frz1 {α : Type} (e : Enc α) (xs : List α) : AVal → AVal
  | .one x => .one (frzC e xs x)
  | .agg xs' => .agg (xs'.map (frzC e xs))
  | .tup xs' => .tup xs'
def AVal.frz {α : Type} (e : Enc α) (xs : List α) : AVal → AVal
  | .tup xs' => .tup (xs'.map (AVal.frz1 e xs))
  | x => x.frz1 e xs
section
variable {g g' : Gh} {w : World} {α : Type} {T : TypeId} {e : Enc α} {xs : List α} {d : Bool}
theorem frzC_ok (hs : CellR g' [] w (g.hd 0) (.sl e xs)) {v : Value} {c : Cell} (hc : cleanC c = true) (hi : ∀ k ∈ c.ids, k = 0) (h : CellR g [(0, some (.arr T e xs d))] w v c) : CellR g' [] w v (frzC e xs c) := by
  cases c with
  | c u => exact h
  | own k =>
    have hk0 : k = 0 := hi k (by simp [Cell.ids])
    subst hk0
    have : v = g.hd 0 := h _ _ _ _ _ rfl
    rw [this]; exact hs
  | any => trivial
  | _ => cases hc
theorem frz1_ok (hs : CellR g' [] w (g.hd 0) (.sl e xs)) : ∀ {v : Value} {x : AVal}, cleanV x = true → (∀ k ∈ x.ids1, k = 0) → VR1 g [(0, some (.arr T e xs d))] w v x → VR1 g' [] w v (x.frz1 e xs)
  | v, .one c, hc, hi, h => frzC_ok hs hc hi h
  | v, .agg cs, hc, hi, ⟨vs, h1, h2⟩ => by
    refine ⟨vs, h1, ?_⟩
    clear h1
    have hc' : ∀ c ∈ cs, cleanC c = true := fun c hm => List.all_eq_true.1 hc c hm
    have hi' : ∀ c ∈ cs, ∀ k ∈ c.ids, k = 0 := fun c hm k hk => hi k (List.mem_flatMap.2 ⟨c, hm, hk⟩)
    clear hc hi
    induction cs generalizing vs with
    | nil => cases vs with | nil => trivial | cons _ _ => exact h2.elim
    | cons c cs ih =>
      cases vs with
      | nil => exact h2.elim
      | cons u us => exact ⟨frzC_ok hs (hc' c (by simp)) (hi' c (by simp)) h2.1, ih us h2.2 (fun c hm => hc' c (by simp [hm])) (fun c hm => hi' c (by simp [hm]))⟩
  | v, .tup _, _, _, h => h.elim
end
theorem AC.frz {P : Program} {f : FuncId} {args : List AVal} {res : AVal} {α : Type} {T : TypeId} {e : Enc α} {xs : List α} {d : Bool} (h : AC P f args [] res [(0, some (.arr T e xs d))]) (hc : cleanV res = true) (hi : ∀ k ∈ res.ids, k = 0) : AC P f args [] (res.frz e xs) [] := by
  refine ⟨h.fn, fun g w cargs m ha => (h.run g w cargs m ha).mono ?_⟩
  rintro r w' ⟨v, g1, rfl, m1, hv, hs⟩
  have hk : lkl [(0, some (Blk.arr T e xs d))] 0 = some (.arr T e xs d) := rfl
  obtain ⟨m2, s2, c2, _⟩ := shut_mem m1 hk
  have T1 := Step.trans m m1 hs (s2 [])
  have no : ∀ k b, lkl [] k ≠ some b := fun k b h => by simp [lkl, lk] at h
  have m3 : MemR (g1.shut 0) [] w' := ⟨m2.ilt, fun k cs h => (no _ _ h).elim, fun k β T e2 ys d h => (no _ _ h).elim, fun j k b b' _ h => (no _ _ h).elim, fun k β T e2 ys h => (no _ _ h).elim, fun j k β γ T U e2 e3 ys zs _ h => (no _ _ h).elim⟩
  have hsl : CellR (g1.shut 0) [] w' (g1.hd 0) (.sl e xs) := c2
  refine ⟨v, g1.shut 0, rfl, m3, ?_, ⟨T1.os, T1.tape, T1.output, T1.size, T1.keep, T1.imm, T1.imm', fun b hb => ?_, fun k hk => by cases hk⟩⟩
  · cases res with
    | one x => exact frz1_ok (d := d) (T := T) hsl hc (fun k hk => hi k hk) hv
    | agg cs => exact frz1_ok (x := .agg cs) (d := d) (T := T) hsl hc (fun k hk => hi k hk) hv
    | tup ys =>
      obtain ⟨vs, h1, h2⟩ := hv
      refine ⟨vs, h1, ?_⟩
      clear h1
      have hc' : ∀ y ∈ ys, cleanV y = true := fun y hm => by
        have := List.all_eq_true.1 hc y hm
        cases y with
        | one _ => exact this
        | agg _ => exact this
        | tup _ => cases this
      have hi' : ∀ y ∈ ys, ∀ k ∈ y.ids1, k = 0 := fun y hm k hk => hi k (List.mem_flatMap.2 ⟨y, hm, hk⟩)
      clear hc hi h ha
      induction ys generalizing vs with
      | nil => cases vs with | nil => trivial | cons _ _ => exact h2.elim
      | cons y ys ih =>
        cases vs with
        | nil => exact h2.elim
        | cons u us => exact ⟨frz1_ok (d := d) (T := T) hsl (hc' y (by simp)) (hi' y (by simp)) h2.1, ih us h2.2 (fun y hm => hc' y (by simp [hm])) (fun y hm => hi' y (by simp [hm]))⟩
  · obtain ⟨k, blk, h1, _⟩ := hb
    exact (no _ _ h1).elim

/-! ### append and clear, where their runs are known by equations -/
end Go.Proofs.Ytkemjhlbokldhaa

/- Functions with one result in memory and two plain ones. -/
namespace Go.Proofs.Ytkemjhlbokldhaa
open Go.RowKit
set_option linter.unusedVariables false
section results
variable {P : Program} {f : FuncId} {fn : Func} {c : Code} {N : Nat} {args : List AVal} {L L' : Locs}
theorem AC_bodyCTT {ty : TypeId} {r q q2 n k : Nat} {cs : List Cell} {x x2 : AVal} {T : Tmps} {Lf : Locs} (hf : P.funcs[f]? = some fn) (hb : fn.body = some c) (hn : (fn.name == "runtime.NumGoroutine") = false) (hN : fn.ntmps = N) (hA : Nat.ble args.length N = true) (hr : fn.results = #[.cell r ty, .tmp q, .tmp q2])
    (ht : lk T r = some (.one (.ptr k 0))) (hq : lk T q = some x) (hx : x.flat = true) (hq2 : lk T q2 = some x2) (hx2 : x2.flat = true) (hl : lkl Lf k = some (.box cs)) (hk : kindT P ty = some (some n)) (hcn : cs.length = n) (hren : (AVal.tup [.agg cs, x, x2]).ren (rn []) = .tup [.agg cs, x, x2]) (hle : LeS (keys L) (rn []) ⟨T, Lf⟩ ⟨[], L'⟩)
    (h : AW P N (keys L) c (RetS (keys L) T Lf) (RetQ (keys L) T Lf) ⟨args0 args 0, L⟩) : AC P f args L (.tup [.agg cs, x, x2]) L' :=
  AC_ofB hf hb hn hN hA hren hle (fun g a w R => by
    obtain ⟨ad, v, h1, h2, h3⟩ := run_results_c R ht hl hk hcn
    refine ⟨.tuple #[v, a.tmps.getD q undef, a.tmps.getD q2 undef], ?_, ⟨[v, a.tmps.getD q undef, a.tmps.getD q2 undef], rfl, h3, (R.tmp q x hq).vr1 hx, (R.tmp q2 x2 hq2).vr1 hx2, trivial⟩⟩
    simp only [Array.getD_eq_getD_getElem?] at h1
    simp [results, hr, h1, h2]) h
end results
end Go.Proofs.Ytkemjhlbokldhaa

/- Numbers copied into a part of an own array; nil ars an array that is taken; numbers in memory are not too great. -/
namespace Go.Proofs.Ytkemjhlbokldhaa
open Go.RowKit
set_option linter.unusedVariables false
set_option linter.unusedSimpArgs false

section ops
variable {P : Program} {N : Nat} {s : St} {d : Nat} {ty : TypeId} {pos : String} {after : Array Edge} {gd : Option (Nat × Bool)}
end ops
/-- A contract that takes an array takes nil, too. -/
theorem AT.nil {P : Program} {f : FuncId} {rest : List AVal} {α β : Type} {T U : TypeId} {e : Enc α} {e' : Enc β} {ys : List β} {d' : Bool}
    (h : AT P f (.one (.own 0) :: rest) [(0, some (.arr T e [] true))] (.one (.own 1)) [(1, some (.arr U e' ys d'))]) (hrest : rest.flatMap AVal.ids1 = []) (c : Nat) :
    AC P f (.one (.c (.slice none 0 0)) :: rest) [] (.one (.own c)) [(c, some (.arr U e' ys d'))] := by
  refine ⟨h.fn, fun g w cargs m ha => ?_⟩
  obtain ⟨g', q1, q2, q3, q4, q5⟩ := nil_new m (k := 0) rfl (by simp [Locs.ids]) α T e
  have ha' : All2 (VR1 g' [(0, some (.arr (α := α) T e [] true))] w) cargs.toList (.one (.own 0) :: rest) := by
    generalize cargs.toList = vs at ha
    cases vs with
    | nil => exact ha
    | cons v vs =>
      refine ⟨fun β U e2 ys dd hc => by rw [q1]; exact ha.1.1, ha.2.mono fun a b hb hr => VR1.step (fun _ _ => rfl) q4 (Nat.le_refl _) (fun k hk => ?_) hr⟩
      have : k ∈ rest.flatMap AVal.ids1 := List.mem_flatMap.2 ⟨b, hb, hk⟩
      rw [hrest] at this; cases this
  refine (h.run g' w cargs q2 ha').mono ?_
  rintro r w' ⟨v, g1, rfl, m1, hv, hs⟩
  have hle : LeL (fun _ => 1) [(1, some (.arr U e' ys d'))] [(c, some (.arr U e' ys d'))] := ⟨⟨_, rfl, BLe.rf⟩, trivial⟩
  have T1 := ((q3 []).trans m q2 hs).trans m m1 (Step.unren hle trivial)
  exact ⟨v, g1.ren _, rfl, m1.unren hle (by simp [injL, keys]), VR.unren (x := .one (.own c)) hle hv, T1⟩
end Go.Proofs.Ytkemjhlbokldhaa

/- Smaller numbers of two; pointers that are not nil; bytes in memory are bytes. -/
namespace Go.Proofs.Ytkemjhlbokldhaa
open Go.RowKit
set_option linter.unusedVariables false
section ops
variable {P : Program} {N : Nat} {s : St} {d : Nat} {ty : TypeId} {pos : String} {after : Array Edge} {gd : Option (Nat × Bool)}
theorem x_nilc {x : Operand} {k off : Nat} {cs : List Cell} (hN : Nat.blt d N = true) (h : evo s.t x = some (.one (.ptr k off))) (hk : lkl s.l k = some (.box cs)) :
    Stp P N ⟨some d, .nilCheck x, ty, pos, after, gd⟩ s ⟨(d, .one (.ptr k off)) :: s.t, s.l⟩ ⟨rdo x (.one (.ptr k off)), [(k, .box cs)], [(d, .one (.ptr k off))], [], []⟩ :=
  Stp.pure rfl hN (rdo_of h) (by simpa using hk) fun g s' a w ht hl' r => by
    have hk' : lkl s'.l k = some (.box cs) := hl' (k, .box cs) (by simp)
    have hv : a.eval x = .pointer (some ⟨g.ρ k, off, none⟩) := (eval_ok r (evs_of h) ht : CellR g s'.l w _ (.ptr k off)) cs hk'
    exact ⟨_, by simp only [execOp, hv, Sem.run_pure], fun cs' hc => rfl⟩
end ops
theorem byte_wf {x : Int} (h : (Lit.int .u8 x).wf = true) : 0 ≤ x ∧ x ≤ 255 := by
  simp only [Lit.wf, Bool.and_eq_true, decide_eq_true_eq] at h
  exact h
theorem SliceRep.bytes {w : World} {a : Option Addr} {n cap : Nat} {xs : List Int} {bs : List Nat} (h : SliceRep (intE .u8) w a n cap xs bs) : ∀ x ∈ xs, 0 ≤ x ∧ x ≤ 255 := fun x hx => by
  obtain ⟨j, hj, rfl⟩ := List.getElem_of_mem hx
  obtain ⟨gb, o, cs, b, _, f1, _⟩ := h.get hj
  exact byte_wf f1.2.1
end Go.Proofs.Ytkemjhlbokldhaa

/- The reader in memory; contracts under other numbers. -/
namespace Go.Proofs.Ytkemjhlbokldhaa
open Go.RowKit
set_option linter.unusedVariables false
set_option linter.unusedSimpArgs false

/-- The reader's variable. -/
def psB (tk : List Tokent) (e : Int) (st : PS) : Blk := .box [.sl tokenE tk, .c (.int .i64 ((st.i : Nat) : Int)), .c (.int .i64 e), .c (.int .i64 st.code), .c (.int .i64 st.place)]
theorem psB_ren (tk : List Tokent) (e : Int) (st : PS) (r : Nat → Nat) : (psB tk e st).ren r = psB tk e st := rfl
def atomO (x : Atomt) : List Cell := [.c (.string x.name), .own 0]
def litO (x : Litt) : List Cell := [.c (.int .i64 x.kind), .c (.string x.atom.name), .own 0, .c (.int .i64 x.op), .c (.string x.a.var), .c (.int .i64 x.a.val.n), .c (.string x.a.val.s), .c (.string x.b.var), .c (.int .i64 x.b.val.n), .c (.string x.b.val.s)]
def ruleO (x : Rulet) : List Cell := [.c (.int .i64 x.kind), .c (.string x.head.name), .own 0, .own 1]
def atomK (x : Atomt) (k : Nat) : List Cell := [.c (.string x.name), .own k]
def litK (x : Litt) (k : Nat) : List Cell := [.c (.int .i64 x.kind), .c (.string x.atom.name), .own k, .c (.int .i64 x.op), .c (.string x.a.var), .c (.int .i64 x.a.val.n), .c (.string x.a.val.s), .c (.string x.b.var), .c (.int .i64 x.b.val.n), .c (.string x.b.val.s)]
def ruleK (x : Rulet) (k j : Nat) : List Cell := [.c (.int .i64 x.kind), .c (.string x.head.name), .own k, .own j]
def rnP (j : Nat) : Nat := bif Nat.beq j 200 then 200 else 0
theorem rnP_k {k : Nat} (hk : Nat.beq k 200 = false) : rnP k = 0 := by unfold rnP; rw [hk]; rfl
theorem atomK_ren {x : Atomt} {k : Nat} {r : Nat → Nat} (h : r k = 0) : (AVal.agg (atomK x k)).ren r = .agg (atomO x) := by
  show AVal.agg [.c (.string x.name), .own (r k)] = _
  rw [h]; rfl
theorem litK_ren {x : Litt} {k : Nat} {r : Nat → Nat} (h : r k = 0) : (AVal.agg (litK x k)).ren r = .agg (litO x) := by
  show AVal.agg [.c (.int .i64 x.kind), .c (.string x.atom.name), .own (r k), .c (.int .i64 x.op), .c (.string x.a.var), .c (.int .i64 x.a.val.n), .c (.string x.a.val.s), .c (.string x.b.var), .c (.int .i64 x.b.val.n), .c (.string x.b.val.s)] = _
  rw [h]; rfl
theorem ruleK_ren {x : Rulet} {k j : Nat} {r : Nat → Nat} (h : r k = 0) (h2 : r j = 1) : (AVal.agg (ruleK x k j)).ren r = .agg (ruleO x) := by
  show AVal.agg [.c (.int .i64 x.kind), .c (.string x.head.name), .own (r k), .own (r j)] = _
  rw [h, h2]; rfl
theorem ownK_ren {k : Nat} {r : Nat → Nat} (h : r k = 0) : (AVal.one (.own k)).ren r = .one (.own 0) := by
  show AVal.one (.own (r k)) = _
  rw [h]
/-- The array that is left beside a reader, under another number. -/
theorem AC.ps {P : Program} {f : FuncId} {args : List AVal} {tk : List Tokent} {e : Int} {st st' : PS} {res res0 : AVal} {blk : Blk} (h : AC P f args [(200, some (psB tk e st))] res0 [(200, some (psB tk e st')), (0, some blk)]) (k : Nat) (hk : Nat.beq k 200 = false)
    (hres : ∀ r : Nat → Nat, r k = 0 → res.ren r = res0) (hbl : ∀ r : Nat → Nat, blk.ren r = blk) : AC P f args [(200, some (psB tk e st))] res [(200, some (psB tk e st')), (k, some blk)] := by
  have hL : LeL rnP [(200, some (psB tk e st')), (0, some blk)] [(200, some (psB tk e st')), (k, some blk)] :=
    ⟨⟨psB tk e st', rfl, by rw [psB_ren]; exact BLe.rf⟩, ⟨blk, by rw [rnP_k hk]; rfl, by rw [hbl]; exact BLe.rf⟩, trivial⟩
  have hi : injL rnP (keys [(200, some (psB tk e st')), (k, some blk)]) = true := by
    have h2 : rnP 200 = 200 := rfl
    simp [injL, keys, rnP_k hk, h2]
    exact .inr rfl
  have hK : LeK rnP [(200, some (psB tk e st')), (0, some blk)] [(200, some (psB tk e st')), (k, some blk)] (keys [(200, some (psB tk e st))]) :=
    ⟨⟨rfl, .inl (by simp [lk]), fun cs _ => ⟨_, rfl⟩⟩, trivial⟩
  refine ⟨h.fn, fun g w cargs m ha => (h.run g w cargs m ha).mono ?_⟩
  rintro e w' ⟨v, g1, rfl, m1, hv, hs⟩
  exact ⟨v, g1.ren rnP, rfl, m1.unren hL hi, VR.unren hL (by rw [hres rnP (rnP_k hk)]; exact hv), hs.trans m m1 (Step.unren hL hK)⟩
def rnQ (k j : Nat) (i : Nat) : Nat := bif Nat.beq i 200 then 200 else bif Nat.beq i k then 0 else bif Nat.beq i j then 1 else i + 1000
theorem AC.ps2 {P : Program} {f : FuncId} {args : List AVal} {tk : List Tokent} {e : Int} {st st' : PS} {res res0 : AVal} {blk blk2 : Blk} (h : AC P f args [(200, some (psB tk e st))] res0 [(200, some (psB tk e st')), (0, some blk), (1, some blk2)]) (k j : Nat) (hk : Nat.beq k 200 = false) (hj : Nat.beq j 200 = false) (hkj : Nat.beq k j = false) (hjk : Nat.beq j k = false)
    (hres : ∀ r : Nat → Nat, r k = 0 → r j = 1 → res.ren r = res0) (hbl : ∀ r : Nat → Nat, blk.ren r = blk) (hbl2 : ∀ r : Nat → Nat, blk2.ren r = blk2) : AC P f args [(200, some (psB tk e st))] res [(200, some (psB tk e st')), (k, some blk), (j, some blk2)] := by
  have h2 : rnQ k j 200 = 200 := rfl
  have hrk : rnQ k j k = 0 := by unfold rnQ; rw [hk]; simp
  have hrj : rnQ k j j = 1 := by unfold rnQ; rw [hj, hjk]; simp
  have hL : LeL (rnQ k j) [(200, some (psB tk e st')), (0, some blk), (1, some blk2)] [(200, some (psB tk e st')), (k, some blk), (j, some blk2)] :=
    ⟨⟨psB tk e st', rfl, by rw [psB_ren]; exact BLe.rf⟩, ⟨blk, by rw [hrk]; rfl, by rw [hbl]; exact BLe.rf⟩, ⟨blk2, by rw [hrj]; rfl, by rw [hbl2]; exact BLe.rf⟩, trivial⟩
  have hi : injL (rnQ k j) (keys [(200, some (psB tk e st')), (k, some blk), (j, some blk2)]) = true := by
    have e1 : Nat.beq 0 200 = false := rfl
    have e2 : Nat.beq 1 200 = false := rfl
    have e3 : Nat.beq 1 0 = false := rfl
    simp only [injL, keys, List.map, hrk, hrj, h2, List.all_cons, List.all_nil, e1, e2, e3, Bool.not_false, Bool.or_true, Bool.and_true, Bool.and_self]
  have hK : LeK (rnQ k j) [(200, some (psB tk e st')), (0, some blk), (1, some blk2)] [(200, some (psB tk e st')), (k, some blk), (j, some blk2)] (keys [(200, some (psB tk e st))]) :=
    ⟨⟨rfl, .inl (by simp [lk]), fun cs _ => ⟨_, rfl⟩⟩, trivial⟩
  refine ⟨h.fn, fun g w cargs m ha => (h.run g w cargs m ha).mono ?_⟩
  rintro e w' ⟨v, g1, rfl, m1, hv, hs⟩
  exact ⟨v, g1.ren (rnQ k j), rfl, m1.unren hL hi, VR.unren hL (by rw [hres _ hrk hrj]; exact hv), hs.trans m m1 (Step.unren hL hK)⟩
/-! ### words that are looked up -/
def opL : List ByteArray := [⟨#[]⟩, ⟨#[61]⟩, ⟨#[33, 61]⟩, ⟨#[60]⟩, ⟨#[60, 61]⟩]
def opL4 : List ByteArray := [⟨#[61]⟩, ⟨#[33, 61]⟩, ⟨#[60]⟩, ⟨#[60, 61]⟩]
def kindL : List ByteArray := [⟨#[]⟩, ⟨#[115, 116, 97, 116, 101]⟩, ⟨#[101, 118, 101, 110, 116]⟩, ⟨#[118, 105, 101, 119]⟩]
def kindL3 : List ByteArray := [⟨#[115, 116, 97, 116, 101]⟩, ⟨#[101, 118, 101, 110, 116]⟩, ⟨#[118, 105, 101, 119]⟩]
def idxS (l : List ByteArray) (s : ByteArray) : Int := firstIdx (fun x => s == x) l
theorem first_cons {α : Type} {p : α → Bool} {x : α} {l : List α} : firstIdx p (x :: l) = if p x = true then 0 else if firstIdx p l = -1 then -1 else firstIdx p l + 1 := by
  unfold firstIdx
  rw [List.findIdx?_cons]
  cases p x
  · cases l.findIdx? p with
    | none => rfl
    | some k =>
      rw [if_neg (by decide), if_neg (by decide), if_neg (by show ¬ ((k : Nat) : Int) = -1; omega)]
      rfl
  · rfl
theorem first_nil {α : Type} {p : α → Bool} : firstIdx p [] = -1 := rfl
theorem idx_op (s : ByteArray) : idxS opL s = opX s := by
  unfold idxS opL opX opN
  simp only [first_cons, first_nil]
  cases s == (⟨#[]⟩ : ByteArray) <;> cases s == (⟨#[61]⟩ : ByteArray) <;> cases s == (⟨#[33, 61]⟩ : ByteArray) <;> cases s == (⟨#[60]⟩ : ByteArray) <;> cases s == (⟨#[60, 61]⟩ : ByteArray) <;> simp
theorem idx_kind (s : ByteArray) : idxS kindL s = kindX s := by
  unfold idxS kindL kindX kindN
  simp only [first_cons, first_nil]
  cases s == (⟨#[]⟩ : ByteArray) <;> cases s == (⟨#[115, 116, 97, 116, 101]⟩ : ByteArray) <;> cases s == (⟨#[101, 118, 101, 110, 116]⟩ : ByteArray) <;> cases s == (⟨#[118, 105, 101, 119]⟩ : ByteArray) <;> simp
/-! the reference looks word by word -/
theorem op_at {s : ByteArray} {k : Nat} (hk : k < opL4.length) (h : s = opL4[k]) : opN s = (k : Int) + 1 := by
  subst h
  match k, hk with
  | 0, _ => rfl
  | 1, _ => rfl
  | 2, _ => rfl
  | 3, _ => rfl
theorem op_none {s : ByteArray} {k : Nat} (hk : 4 ≤ k) (h : NoneTo (fun x => s == x) opL4 k) : opN s = 0 := by
  have h0 := h 0 (by decide) (by omega)
  have h1 := h 1 (by decide) (by omega)
  have h2 := h 2 (by decide) (by omega)
  have h3 := h 3 (by decide) (by omega)
  simp only [opL4, List.getElem_cons_zero, List.getElem_cons_succ] at h0 h1 h2 h3
  simp [opN, h0, h1, h2, h3]
theorem kind_at {s : ByteArray} {k : Nat} (hk : k < kindL3.length) (h : s = kindL3[k]) : kindN s = (k : Int) + 1 := by
  subst h
  match k, hk with
  | 0, _ => rfl
  | 1, _ => rfl
  | 2, _ => rfl
theorem kind_none {s : ByteArray} {k : Nat} (hk : 3 ≤ k) (h : NoneTo (fun x => s == x) kindL3 k) : kindN s = 0 := by
  have h0 := h 0 (by decide) (by omega)
  have h1 := h 1 (by decide) (by omega)
  have h2 := h 2 (by decide) (by omega)
  simp only [kindL3, List.getElem_cons_zero, List.getElem_cons_succ] at h0 h1 h2
  simp [kindN, h0, h1, h2]
end Go.Proofs.Ytkemjhlbokldhaa

/- Rules and programs that are well formed (printed by walk.py) -/
namespace Go.Proofs.Ytkemjhlbokldhaa
open Go.RowKit
set_option linter.unusedVariables false
set_option linter.unusedSimpArgs false
set_option maxRecDepth 100000

end Go.Proofs.Ytkemjhlbokldhaa

/- Tokens are read (printed by walk.py) -/
namespace Go.Proofs.Ytkemjhlbokldhaa
open Go.RowKit
set_option linter.unusedVariables false
set_option linter.unusedSimpArgs false
set_option maxRecDepth 100000

set_option maxHeartbeats 4000000 in
theorem pIndex_c (l : List ByteArray) (s : ByteArray) : AC Try.prog 61 [.one (.sl strE l), .one (.c (.string (s)))] [] (.one (.c (.int .i64 (idxS l s)))) [] := by
  refine AC_body1 Try.func61 rfl rfl Try.ntmps61 rfl Try.results61 ?_
  refine AW_slmax 0 rfl (fun hm0 => ?_)
  refine AW_seq ?_
  refine AW_region ?_
  refine AL_p (x_assign rfl rfl) ?_
  refine AL_nil ?_
  refine AW_seq ?_
  refine AW_seq ?_
  refine AW_region ?_
  refine AL_p (x_move rfl rfl) ?_
  refine AL_p (x_len (E := 9) (n := 1) rfl rfl (by kernel_rfl)) ?_
  refine AL_p (x_move rfl rfl) ?_
  refine AL_nil ?_
  refine AW_block ?_
  refine AW_loop2 (ι := {q : Nat // q ≤ l.length ∧ NoneTo (fun x => s == x) l q}) (fun p => [(8, .one (.c (.int .i64 ((p.1) : Int))))]) (fun p => []) [0, 1, 7] [] (fun p => l.length - (p.1)) ⟨0, ⟨by omega, .zero⟩⟩ (rn []) ?_ ?_
  exact ⟨by (repeat refine ⟨⟨_, rfl, by first | exact VLe.rf | exact vle_int (by dsimp only; omega)⟩, ?_⟩); exact trivial, by (repeat refine ⟨⟨_, rfl, by first | exact BLe.rf | exact BLe.box AllC.rf | exact BLe.arr (by exact rfl)⟩, ?_⟩); exact trivial, by repeat (first | exact trivial | refine ⟨⟨rfl, by first | (left; intro h; cases h) | (right; rfl), by first | exact (fun _ h => ⟨_, h⟩) | exact (fun _ _ => ⟨_, rfl⟩) | (intro _ h; cases h)⟩, ?_⟩), rfl⟩
  rintro ⟨k, hinv⟩
  dsimp only
  have hk := hinv.1
  have hn := hinv.2
  refine AW_seq ?_
  refine AW_region ?_
  refine AL_b (x_lss rfl rfl rfl) (fun b9 h9 => ?_)
  refine AL_nil ?_
  refine AW_seq ?_
  cases b9
  · try simp only [tdy] at h9
    refine AW_condF rfl ?_
    refine AW_exit (BQ_hit ?_)
    refine AW_seq ?_
    refine AW_region ?_
    refine AL_p (x_assign rfl rfl) ?_
    refine AL_nil ?_
    refine AW_ret ?_
    exact ⟨rn [], ⟨⟨⟨_, rfl, vle_int (by unfold idxS; first | exact (firstIdx_at (by omega) (fun j hj hjk => hn j hj hjk) h16).symm | (rw [NoneTo.none (fun j hj hjk => hn j hj (by omega))]))⟩, trivial⟩, trivial, trivial, rfl⟩⟩
  try simp only [tdy] at h9
  refine AW_condT rfl ?_
  refine AW_skip ?_
  refine AW_seq ?_
  refine AW_block ?_
  refine AW_seq ?_
  refine AW_region ?_
  refine AL_p (x_move rfl rfl) ?_
  refine AL_p (x_assign rfl rfl) ?_
  refine AL_nil ?_
  refine AW_seq ?_
  refine AW_region ?_
  refine AL_p (x_move rfl rfl) ?_
  refine AL_p (x_move rfl rfl) ?_
  refine AL_p (x_move rfl rfl) ?_
  refine AL_p (x_index (E := 9) (n := 1) rfl rfl rfl (by kernel_rfl) rfl (k := k) (by omega) (by omega)) ?_
  refine AL_p (x_eload1 rfl rfl (by kernel_rfl) rfl) ?_
  refine AL_b (x_seql rfl rfl rfl) (fun b16 h16 => ?_)
  refine AL_nil ?_
  cases b16
  rotate_left
  · try simp only [tdy] at h16
    refine AW_condT rfl ?_
    refine AW_seq ?_
    refine AW_region ?_
    refine AL_p (x_move rfl rfl) ?_
    refine AL_p (x_assign rfl rfl) ?_
    refine AL_nil ?_
    refine AW_ret (BQ_ret (BQ_ret ?_))
    exact ⟨rn [], ⟨⟨⟨_, rfl, vle_int (by unfold idxS; first | exact (firstIdx_at (by omega) (fun j hj hjk => hn j hj hjk) h16).symm | (rw [NoneTo.none (fun j hj hjk => hn j hj (by omega))]))⟩, trivial⟩, trivial, trivial, rfl⟩⟩
  try simp only [tdy] at h16
  refine AW_condF rfl ?_
  refine AW_skip ?_
  refine AW_region ?_
  refine AL_p (x_add rfl rfl rfl (IntWalk.i64_in _ (by omega))) ?_
  refine AL_p (x_move rfl rfl) ?_
  refine AL_nil ?_
  refine ⟨⟨k + 1, ⟨by omega, hn.succ (by omega) h16⟩⟩, rn [], ?_, by dsimp only; omega⟩
  exact ⟨by (repeat refine ⟨⟨_, rfl, by first | exact VLe.rf | exact vle_int (by dsimp only; omega)⟩, ?_⟩); exact trivial, by (repeat refine ⟨⟨_, rfl, by first | exact BLe.rf | exact BLe.box AllC.rf | exact BLe.arr (by exact rfl)⟩, ?_⟩); exact trivial, by repeat (first | exact trivial | refine ⟨⟨rfl, by first | (left; intro h; cases h) | (right; rfl), by first | exact (fun _ h => ⟨_, h⟩) | exact (fun _ _ => ⟨_, rfl⟩) | (intro _ h; cases h)⟩, ?_⟩), rfl⟩

set_option maxHeartbeats 4000000 in
theorem pOpOf_c (s : ByteArray) : AC Try.prog 159 [.one (.c (.string (s)))] [] (.one (.c (.int .i64 (opX s)))) [] := by
  refine AC_body1 Try.func159 rfl rfl Try.ntmps159 rfl Try.results159 ?_
  refine AW_seq ?_
  refine AW_region ?_
  refine AL_p (x_assign rfl rfl) ?_
  refine AL_nil ?_
  refine AW_seq ?_
  refine AW_region ?_
  refine AL_p (y_bslice_sl (E := 9) (e := strE) [.const (.string ⟨#[]⟩), .const (.string ⟨#[61]⟩), .const (.string ⟨#[33, 61]⟩), .const (.string ⟨#[60]⟩), .const (.string ⟨#[60, 61]⟩)] (opL) rfl rfl rfl rfl rfl rfl rfl rfl FitL.rf rfl rfl rfl (by kernel_rfl)) ?_
  refine AL_p (x_move rfl rfl) ?_
  refine AL_p (x_call0 rfl rfl rfl (pIndex_c opL s) rfl rfl) ?_
  refine AL_p (x_assign rfl rfl) ?_
  refine AL_nil ?_
  refine AW_ret ?_
  exact ⟨rn [], ⟨⟨⟨_, rfl, vle_int (idx_op s)⟩, trivial⟩, trivial, trivial, rfl⟩⟩

set_option maxHeartbeats 4000000 in
theorem pHere_c (tk : List Tokent) (e : Int) (st : PS) (hm : tk.length ≤ 1048576) (hi : st.i ≤ tk.length) : AC Try.prog 60 [.one (.ptr 200 0)] [(200, some (psB tk e st))] (.agg (tokenC (hereT tk e st))) [(200, some (psB tk e st))] := by
  refine AC_bodyC (n := 4) (k := 9) (T := [(2, .one (.ptr 9 0))]) (Lf := ((9, some (.box (tokenC (hereT tk e st)))) :: [(200, some (psB tk e st))])) Try.func60 rfl rfl Try.ntmps60 rfl Try.results60 rfl rfl (by kernel_rfl) rfl rfl ⟨trivial, (by repeat (first | exact trivial | refine ⟨⟨_, rfl, BLe.rf⟩, ?_⟩)), (by repeat (first | exact trivial | refine ⟨⟨rfl, by first | (left; intro h; cases h) | (right; rfl), by first | exact (fun _ h => ⟨_, h⟩) | exact (fun _ _ => ⟨_, rfl⟩) | (intro _ h; cases h)⟩, ?_⟩)), rfl⟩ ?_
  refine AW_seq ?_
  refine AW_region ?_
  refine AL_p (x_alloc (z := .agg #[.int .i64 0, .int .i64 0, .string ⟨#[]⟩, .int .i64 0]) 100 rfl (by kernel_rfl) rfl rfl rfl rfl) ?_
  refine AL_nil ?_
  refine AW_seq ?_
  refine AW_seq ?_
  refine AW_draw rfl ?_
  refine AL_p (x_move rfl rfl) ?_
  refine AL_p (x_nilc rfl rfl rfl) ?_
  refine AL_p (x_field (off := 3) (o' := 3) rfl rfl rfl (by kernel_rfl) rfl) ?_
  refine AL_p (x_load1 rfl rfl rfl (by kernel_rfl) rfl) ?_
  refine AL_b (x_neq rfl rfl rfl) (fun b7 h7 => ?_)
  refine AL_p (x_move rfl rfl) ?_
  cases b7
  rotate_left
  · try simp only [tdy] at h7
    have hno := here_bad (tk := tk) (e := e) (st := st) h7
    refine AL_o rfl rfl rfl rfl ?_
    refine AL_o rfl rfl rfl rfl ?_
    refine AL_o rfl rfl rfl rfl ?_
    refine AL_o rfl rfl rfl rfl ?_
    refine AL_o rfl rfl rfl rfl ?_
    refine AL_o rfl rfl rfl rfl ?_
    refine AL_o rfl rfl rfl rfl ?_
    refine AL_o rfl rfl rfl rfl ?_
    refine AL_o rfl rfl rfl rfl ?_
    refine AL_o rfl rfl rfl rfl ?_
    refine AL_p (x_pickT rfl rfl rfl) ?_
    refine AL_nild (by kernel_rfl) ?_
    refine AW_condT rfl ?_
    refine AW_seq ?_
    refine AW_region ?_
    refine AL_p (x_move rfl rfl) ?_
    refine AL_p (x_nilc rfl rfl rfl) ?_
    refine AL_p (x_field (off := 2) (o' := 2) rfl rfl rfl (by kernel_rfl) rfl) ?_
    refine AL_p (x_load1 rfl rfl rfl (by kernel_rfl) rfl) ?_
    refine AL_p (x_build (zs := [.int .i64 0, .int .i64 0, .string ⟨#[]⟩, .int .i64 0]) (places := [(0, 1), (1, 1), (2, 1), (3, 1)]) rfl (by kernel_rfl) rfl rfl rfl rfl rfl) ?_
    refine AL_p (x_store (n := 4) rfl rfl rfl rfl (by kernel_rfl) rfl rfl rfl) ?_
    refine AL_nil ?_
    refine AW_ret ?_
    exact ⟨rn [(9, 100)], ⟨⟨⟨_, rfl, VLe.rf⟩, trivial⟩, ⟨⟨_, rfl, by first | exact BLe.rf | exact ble_eq (by rw [hno]; first | done | rfl)⟩, ⟨_, rfl, by first | exact BLe.rf | exact ble_eq (by rw [hno]; first | done | rfl)⟩, trivial⟩, by repeat (first | exact trivial | refine ⟨⟨rfl, by first | (left; intro h; cases h) | (right; rfl), by first | exact (fun _ h => ⟨_, h⟩) | exact (fun _ _ => ⟨_, rfl⟩) | (intro _ h; cases h)⟩, ?_⟩), rfl⟩⟩
  try simp only [tdy] at h7
  refine AL_g rfl rfl (x_move rfl rfl) ?_
  refine AL_g rfl rfl (x_nilc rfl rfl rfl) ?_
  refine AL_g rfl rfl (x_field (off := 1) (o' := 1) rfl rfl rfl (by kernel_rfl) rfl) ?_
  refine AL_g rfl rfl (x_load1 rfl rfl rfl (by kernel_rfl) rfl) ?_
  refine AL_g rfl rfl (x_move rfl rfl) ?_
  refine AL_g rfl rfl (x_nilc rfl rfl rfl) ?_
  refine AL_g rfl rfl (x_field (off := 0) (o' := 0) rfl rfl rfl (by kernel_rfl) rfl) ?_
  refine AL_g rfl rfl (x_load1 rfl rfl rfl (by kernel_rfl) rfl) ?_
  refine AL_g rfl rfl (x_len (E := 83) (n := 4) rfl rfl (by kernel_rfl)) ?_
  refine AL_gb rfl rfl (x_geq rfl rfl rfl) (fun b18 h18 => ?_)
  refine AL_p (x_pickF rfl rfl rfl) ?_
  refine AL_nild (by kernel_rfl) ?_
  cases b18
  rotate_left
  · try simp only [tdy] at h18
    have hno := here_end (tk := tk) (e := e) (st := st) (by omega)
    refine AW_condT rfl ?_
    refine AW_seq ?_
    refine AW_region ?_
    refine AL_p (x_move rfl rfl) ?_
    refine AL_p (x_nilc rfl rfl rfl) ?_
    refine AL_p (x_field (off := 2) (o' := 2) rfl rfl rfl (by kernel_rfl) rfl) ?_
    refine AL_p (x_load1 rfl rfl rfl (by kernel_rfl) rfl) ?_
    refine AL_p (x_build (zs := [.int .i64 0, .int .i64 0, .string ⟨#[]⟩, .int .i64 0]) (places := [(0, 1), (1, 1), (2, 1), (3, 1)]) rfl (by kernel_rfl) rfl rfl rfl rfl rfl) ?_
    refine AL_p (x_store (n := 4) rfl rfl rfl rfl (by kernel_rfl) rfl rfl rfl) ?_
    refine AL_nil ?_
    refine AW_ret ?_
    exact ⟨rn [(9, 100)], ⟨⟨⟨_, rfl, VLe.rf⟩, trivial⟩, ⟨⟨_, rfl, by first | exact BLe.rf | exact ble_eq (by rw [hno]; first | done | rfl)⟩, ⟨_, rfl, by first | exact BLe.rf | exact ble_eq (by rw [hno]; first | done | rfl)⟩, trivial⟩, by repeat (first | exact trivial | refine ⟨⟨rfl, by first | (left; intro h; cases h) | (right; rfl), by first | exact (fun _ h => ⟨_, h⟩) | exact (fun _ _ => ⟨_, rfl⟩) | (intro _ h; cases h)⟩, ?_⟩), rfl⟩⟩
  try simp only [tdy] at h18
  have hno := here_ok (tk := tk) (e := e) (st := st) h7 (by omega)
  refine AW_condF rfl ?_
  refine AW_skip ?_
  refine AW_seq ?_
  refine AW_draw rfl ?_
  refine AL_p (x_move rfl rfl) ?_
  refine AL_p (x_nilc rfl rfl rfl) ?_
  refine AL_p (x_field (off := 0) (o' := 0) rfl rfl rfl (by kernel_rfl) rfl) ?_
  refine AL_p (x_load1 rfl rfl rfl (by kernel_rfl) rfl) ?_
  refine AL_p (x_move rfl rfl) ?_
  refine AL_p (x_nilc rfl rfl rfl) ?_
  refine AL_p (x_field (off := 1) (o' := 1) rfl rfl rfl (by kernel_rfl) rfl) ?_
  refine AL_p (x_load1 rfl rfl rfl (by kernel_rfl) rfl) ?_
  refine AL_p (x_index (E := 83) (n := 4) rfl rfl rfl (by kernel_rfl) rfl (k := st.i) (by omega) (by omega)) ?_
  refine AL_p (x_eloadW (n := 4) rfl rfl (by kernel_rfl) rfl) ?_
  refine AL_p (x_store (n := 4) rfl rfl rfl rfl (by kernel_rfl) rfl rfl rfl) ?_
  refine AL_nild (by kernel_rfl) ?_
  refine AW_ret ?_
  exact ⟨rn [(9, 100)], ⟨⟨⟨_, rfl, VLe.rf⟩, trivial⟩, ⟨⟨_, rfl, by first | exact BLe.rf | exact ble_eq (by rw [hno]; first | done | rfl)⟩, ⟨_, rfl, by first | exact BLe.rf | exact ble_eq (by rw [hno]; first | done | rfl)⟩, trivial⟩, by repeat (first | exact trivial | refine ⟨⟨rfl, by first | (left; intro h; cases h) | (right; rfl), by first | exact (fun _ h => ⟨_, h⟩) | exact (fun _ _ => ⟨_, rfl⟩) | (intro _ h; cases h)⟩, ?_⟩), rfl⟩⟩

set_option maxHeartbeats 4000000 in
theorem pFail_c (tk : List Tokent) (e : Int) (st : PS) (hm : tk.length ≤ 1048576) (hi : st.i ≤ tk.length) (c : Int) : AC Try.prog 64 [.one (.ptr 200 0), .one (.c (.int .i64 (c)))] [(200, some (psB tk e st))] (.tup []) [(200, some (psB tk e (faultP tk e c st)))] := by
  refine AC_body0 Try.func64 rfl rfl Try.ntmps64 rfl Try.results64 ?_
  refine AW_seq ?_
  refine AW_region ?_
  refine AL_p (x_move rfl rfl) ?_
  refine AL_p (x_nilc rfl rfl rfl) ?_
  refine AL_p (x_field (off := 3) (o' := 3) rfl rfl rfl (by kernel_rfl) rfl) ?_
  refine AL_p (x_load1 rfl rfl rfl (by kernel_rfl) rfl) ?_
  refine AL_b (x_eql rfl rfl rfl) (fun b9 h9 => ?_)
  refine AL_nil ?_
  cases b9
  · try simp only [tdy] at h9
    have hno := fault_bad (tk := tk) (e := e) (c := c) h9
    refine AW_condF rfl ?_
    refine AW_skip ?_
    exact ⟨rn [], ⟨trivial, ⟨⟨_, rfl, by first | exact BLe.rf | exact ble_eq (by rw [hno]; first | done | rfl)⟩, trivial⟩, by repeat (first | exact trivial | refine ⟨⟨rfl, by first | (left; intro h; cases h) | (right; rfl), by first | exact (fun _ h => ⟨_, h⟩) | exact (fun _ _ => ⟨_, rfl⟩) | (intro _ h; cases h)⟩, ?_⟩), rfl⟩⟩
  try simp only [tdy] at h9
  have hno := fault_ok (tk := tk) (e := e) (c := c) h9
  refine AW_condT rfl ?_
  refine AW_seq ?_
  refine AW_region ?_
  refine AL_p (x_move rfl rfl) ?_
  refine AL_p (x_call (ks := []) (L := [(200, some _)]) (L' := [(200, some _)]) rfl rfl rfl (pHere_c tk e st hm (hi)) rfl AllV.rf (caught_of rfl) rfl rfl rfl ⟨rfl, trivial⟩ rfl) ?_
  refine AL_p (x_alloc (z := .agg #[.int .i64 0, .int .i64 0, .string ⟨#[]⟩, .int .i64 0]) 100 rfl (by kernel_rfl) rfl rfl rfl rfl) ?_
  refine AL_p (x_store (n := 4) rfl rfl rfl rfl (by kernel_rfl) rfl rfl rfl) ?_
  refine AL_nil ?_
  refine AW_seq ?_
  refine AW_region ?_
  refine AL_p (x_move rfl rfl) ?_
  refine AL_p (x_move rfl rfl) ?_
  refine AL_p (x_nilc rfl rfl rfl) ?_
  refine AL_p (x_field (off := 3) (o' := 3) rfl rfl rfl (by kernel_rfl) rfl) ?_
  refine AL_p (x_store (n := 1) rfl rfl rfl rfl (by kernel_rfl) rfl rfl rfl) ?_
  refine AL_nil ?_
  refine AW_region ?_
  refine AL_p (x_move rfl rfl) ?_
  refine AL_p (x_field (off := 3) (o' := 3) rfl rfl rfl (by kernel_rfl) rfl) ?_
  refine AL_p (x_load1 rfl rfl rfl (by kernel_rfl) rfl) ?_
  refine AL_p (x_nilc rfl rfl rfl) ?_
  refine AL_p (x_field (off := 4) (o' := 4) rfl rfl rfl (by kernel_rfl) rfl) ?_
  refine AL_p (x_store (n := 1) rfl rfl rfl rfl (by kernel_rfl) rfl rfl rfl) ?_
  refine AL_nil ?_
  exact ⟨rn [], ⟨trivial, ⟨⟨_, rfl, by first | exact BLe.rf | exact ble_eq (by rw [hno]; first | done | rfl)⟩, trivial⟩, by repeat (first | exact trivial | refine ⟨⟨rfl, by first | (left; intro h; cases h) | (right; rfl), by first | exact (fun _ h => ⟨_, h⟩) | exact (fun _ _ => ⟨_, rfl⟩) | (intro _ h; cases h)⟩, ?_⟩), rfl⟩⟩

set_option maxHeartbeats 4000000 in
theorem pIsSign_c (tk : List Tokent) (e : Int) (st : PS) (hm : tk.length ≤ 1048576) (hi : st.i ≤ tk.length) (s : ByteArray) : AC Try.prog 63 [.one (.ptr 200 0), .one (.c (.string (s)))] [(200, some (psB tk e st))] (.one (.c (.bool (signT (hereT tk e st) s)))) [(200, some (psB tk e st))] := by
  refine AC_body1 Try.func63 rfl rfl Try.ntmps63 rfl Try.results63 ?_
  refine AW_seq ?_
  refine AW_region ?_
  refine AL_p (x_assign rfl rfl) ?_
  refine AL_nil ?_
  refine AW_seq ?_
  refine AW_region ?_
  refine AL_p (x_move rfl rfl) ?_
  refine AL_p (x_call (ks := []) (L := [(200, some _)]) (L' := [(200, some _)]) rfl rfl rfl (pHere_c tk e st hm (hi)) rfl AllV.rf (caught_of rfl) rfl rfl rfl ⟨rfl, trivial⟩ rfl) ?_
  refine AL_p (x_alloc (z := .agg #[.int .i64 0, .int .i64 0, .string ⟨#[]⟩, .int .i64 0]) 100 rfl (by kernel_rfl) rfl rfl rfl rfl) ?_
  refine AL_p (x_store (n := 4) rfl rfl rfl rfl (by kernel_rfl) rfl rfl rfl) ?_
  refine AL_nil ?_
  refine AW_seq ?_
  refine AW_region ?_
  refine AL_p (x_field (off := 0) (o' := 0) rfl rfl rfl (by kernel_rfl) rfl) ?_
  refine AL_p (x_load1 rfl rfl rfl (by kernel_rfl) rfl) ?_
  refine AL_b (x_eql rfl rfl rfl) (fun b10 h10 => ?_)
  refine AL_p (x_move rfl rfl) ?_
  cases b10
  · try simp only [tdy] at h10
    refine AL_o rfl rfl rfl rfl ?_
    refine AL_o rfl rfl rfl rfl ?_
    refine AL_o rfl rfl rfl rfl ?_
    refine AL_o rfl rfl rfl rfl ?_
    refine AL_p (x_pickF rfl rfl rfl) ?_
    refine AL_p (x_assign rfl rfl) ?_
    refine AL_nil ?_
    refine AW_ret ?_
    exact ⟨rn [], ⟨⟨⟨_, rfl, vle_bool (by simp [signT, *])⟩, trivial⟩, ⟨⟨_, rfl, by first | exact BLe.rf | exact ble_eq (by rw [hno]; first | done | rfl)⟩, trivial⟩, by repeat (first | exact trivial | refine ⟨⟨rfl, by first | (left; intro h; cases h) | (right; rfl), by first | exact (fun _ h => ⟨_, h⟩) | exact (fun _ _ => ⟨_, rfl⟩) | (intro _ h; cases h)⟩, ?_⟩), rfl⟩⟩
  try simp only [tdy] at h10
  refine AL_g rfl rfl (x_field (off := 2) (o' := 2) rfl rfl rfl (by kernel_rfl) rfl) ?_
  refine AL_g rfl rfl (x_load1 rfl rfl rfl (by kernel_rfl) rfl) ?_
  refine AL_g rfl rfl (x_move rfl rfl) ?_
  refine AL_gb rfl rfl (x_seql rfl rfl rfl) (fun b15 h15 => ?_)
  refine AL_p (x_pickT rfl rfl rfl) ?_
  refine AL_p (x_assign rfl rfl) ?_
  refine AL_nil ?_
  refine AW_ret ?_
  cases b15
  rotate_left
  · try simp only [tdy] at h15
    exact ⟨rn [], ⟨⟨⟨_, rfl, vle_bool (by simp [signT, *])⟩, trivial⟩, ⟨⟨_, rfl, by first | exact BLe.rf | exact ble_eq (by rw [hno]; first | done | rfl)⟩, trivial⟩, by repeat (first | exact trivial | refine ⟨⟨rfl, by first | (left; intro h; cases h) | (right; rfl), by first | exact (fun _ h => ⟨_, h⟩) | exact (fun _ _ => ⟨_, rfl⟩) | (intro _ h; cases h)⟩, ?_⟩), rfl⟩⟩
  try simp only [tdy] at h15
  exact ⟨rn [], ⟨⟨⟨_, rfl, vle_bool (by simp [signT, *])⟩, trivial⟩, ⟨⟨_, rfl, by first | exact BLe.rf | exact ble_eq (by rw [hno]; first | done | rfl)⟩, trivial⟩, by repeat (first | exact trivial | refine ⟨⟨rfl, by first | (left; intro h; cases h) | (right; rfl), by first | exact (fun _ h => ⟨_, h⟩) | exact (fun _ _ => ⟨_, rfl⟩) | (intro _ h; cases h)⟩, ?_⟩), rfl⟩⟩

set_option maxHeartbeats 4000000 in
theorem pIsName_c (tk : List Tokent) (e : Int) (st : PS) (hm : tk.length ≤ 1048576) (hi : st.i ≤ tk.length) : AC Try.prog 62 [.one (.ptr 200 0)] [(200, some (psB tk e st))] (.one (.c (.bool (nameT (hereT tk e st))))) [(200, some (psB tk e st))] := by
  refine AC_body1 Try.func62 rfl rfl Try.ntmps62 rfl Try.results62 ?_
  refine AW_seq ?_
  refine AW_region ?_
  refine AL_p (x_assign rfl rfl) ?_
  refine AL_nil ?_
  refine AW_seq ?_
  refine AW_region ?_
  refine AL_p (x_move rfl rfl) ?_
  refine AL_p (x_call (ks := []) (L := [(200, some _)]) (L' := [(200, some _)]) rfl rfl rfl (pHere_c tk e st hm (hi)) rfl AllV.rf (caught_of rfl) rfl rfl rfl ⟨rfl, trivial⟩ rfl) ?_
  refine AL_p (x_alloc (z := .agg #[.int .i64 0, .int .i64 0, .string ⟨#[]⟩, .int .i64 0]) 100 rfl (by kernel_rfl) rfl rfl rfl rfl) ?_
  refine AL_p (x_store (n := 4) rfl rfl rfl rfl (by kernel_rfl) rfl rfl rfl) ?_
  refine AL_nil ?_
  refine AW_seq ?_
  refine AW_region ?_
  refine AL_p (x_field (off := 0) (o' := 0) rfl rfl rfl (by kernel_rfl) rfl) ?_
  refine AL_p (x_load1 rfl rfl rfl (by kernel_rfl) rfl) ?_
  refine AL_b (x_eql rfl rfl rfl) (fun b8 h8 => ?_)
  refine AL_p (x_move rfl rfl) ?_
  cases b8
  · try simp only [tdy] at h8
    refine AL_o rfl rfl rfl rfl ?_
    refine AL_o rfl rfl rfl rfl ?_
    refine AL_o rfl rfl rfl rfl ?_
    refine AL_o rfl rfl rfl rfl ?_
    refine AL_p (x_pickF rfl rfl rfl) ?_
    refine AL_p (x_assign rfl rfl) ?_
    refine AL_nil ?_
    refine AW_ret ?_
    exact ⟨rn [], ⟨⟨⟨_, rfl, vle_bool (by simp [nameT, *])⟩, trivial⟩, ⟨⟨_, rfl, by first | exact BLe.rf | exact ble_eq (by rw [hno]; first | done | rfl)⟩, trivial⟩, by repeat (first | exact trivial | refine ⟨⟨rfl, by first | (left; intro h; cases h) | (right; rfl), by first | exact (fun _ h => ⟨_, h⟩) | exact (fun _ _ => ⟨_, rfl⟩) | (intro _ h; cases h)⟩, ?_⟩), rfl⟩⟩
  try simp only [tdy] at h8
  refine AL_g rfl rfl (x_field (off := 2) (o' := 2) rfl rfl rfl (by kernel_rfl) rfl) ?_
  refine AL_g rfl rfl (x_load1 rfl rfl rfl (by kernel_rfl) rfl) ?_
  refine AL_gb rfl rfl (x_call0 rfl rfl rfl (keptI_c _) rfl rfl) (fun b12 h12 => ?_)
  refine AL_g rfl rfl (x_not rfl rfl) ?_
  refine AL_p (x_pickT rfl rfl rfl) ?_
  refine AL_p (x_assign rfl rfl) ?_
  refine AL_nil ?_
  refine AW_ret ?_
  cases b12
  rotate_left
  · try simp only [tdy] at h12
    exact ⟨rn [], ⟨⟨⟨_, rfl, vle_bool (by simp [nameT, *])⟩, trivial⟩, ⟨⟨_, rfl, by first | exact BLe.rf | exact ble_eq (by rw [hno]; first | done | rfl)⟩, trivial⟩, by repeat (first | exact trivial | refine ⟨⟨rfl, by first | (left; intro h; cases h) | (right; rfl), by first | exact (fun _ h => ⟨_, h⟩) | exact (fun _ _ => ⟨_, rfl⟩) | (intro _ h; cases h)⟩, ?_⟩), rfl⟩⟩
  try simp only [tdy] at h12
  exact ⟨rn [], ⟨⟨⟨_, rfl, vle_bool (by simp [nameT, *])⟩, trivial⟩, ⟨⟨_, rfl, by first | exact BLe.rf | exact ble_eq (by rw [hno]; first | done | rfl)⟩, trivial⟩, by repeat (first | exact trivial | refine ⟨⟨rfl, by first | (left; intro h; cases h) | (right; rfl), by first | exact (fun _ h => ⟨_, h⟩) | exact (fun _ _ => ⟨_, rfl⟩) | (intro _ h; cases h)⟩, ?_⟩), rfl⟩⟩

set_option maxHeartbeats 4000000 in
theorem pIsTerm_c (tk : List Tokent) (e : Int) (st : PS) (hm : tk.length ≤ 1048576) (hi : st.i ≤ tk.length) : AC Try.prog 141 [.one (.ptr 200 0)] [(200, some (psB tk e st))] (.one (.c (.bool (termT (hereT tk e st))))) [(200, some (psB tk e st))] := by
  refine AC_body1 Try.func141 rfl rfl Try.ntmps141 rfl Try.results141 ?_
  refine AW_seq ?_
  refine AW_region ?_
  refine AL_p (x_assign rfl rfl) ?_
  refine AL_nil ?_
  refine AW_seq ?_
  refine AW_region ?_
  refine AL_p (x_move rfl rfl) ?_
  refine AL_p (x_call (ks := []) (L := [(200, some _)]) (L' := [(200, some _)]) rfl rfl rfl (pHere_c tk e st hm (hi)) rfl AllV.rf (caught_of rfl) rfl rfl rfl ⟨rfl, trivial⟩ rfl) ?_
  refine AL_p (x_alloc (z := .agg #[.int .i64 0, .int .i64 0, .string ⟨#[]⟩, .int .i64 0]) 100 rfl (by kernel_rfl) rfl rfl rfl rfl) ?_
  refine AL_p (x_store (n := 4) rfl rfl rfl rfl (by kernel_rfl) rfl rfl rfl) ?_
  refine AL_nil ?_
  refine AW_seq ?_
  refine AW_region ?_
  refine AL_p (x_field (off := 0) (o' := 0) rfl rfl rfl (by kernel_rfl) rfl) ?_
  refine AL_p (x_load1 rfl rfl rfl (by kernel_rfl) rfl) ?_
  refine AL_b (x_eql rfl rfl rfl) (fun b8 h8 => ?_)
  refine AL_p (x_move rfl rfl) ?_
  cases b8
  rotate_left
  · try simp only [tdy] at h8
    refine AL_o rfl rfl rfl rfl ?_
    refine AL_o rfl rfl rfl rfl ?_
    refine AL_o rfl rfl rfl rfl ?_
    refine AL_p (x_pickT rfl rfl rfl) ?_
    refine AL_p (x_move rfl rfl) ?_
    refine AL_o rfl rfl rfl rfl ?_
    refine AL_o rfl rfl rfl rfl ?_
    refine AL_p (x_pickT rfl rfl rfl) ?_
    refine AL_p (x_assign rfl rfl) ?_
    refine AL_nil ?_
    refine AW_ret ?_
    exact ⟨rn [], ⟨⟨⟨_, rfl, vle_bool (by simp [termT, *])⟩, trivial⟩, ⟨⟨_, rfl, by first | exact BLe.rf | exact ble_eq (by rw [hno]; first | done | rfl)⟩, trivial⟩, by repeat (first | exact trivial | refine ⟨⟨rfl, by first | (left; intro h; cases h) | (right; rfl), by first | exact (fun _ h => ⟨_, h⟩) | exact (fun _ _ => ⟨_, rfl⟩) | (intro _ h; cases h)⟩, ?_⟩), rfl⟩⟩
  try simp only [tdy] at h8
  refine AL_g rfl rfl (x_field (off := 0) (o' := 0) rfl rfl rfl (by kernel_rfl) rfl) ?_
  refine AL_g rfl rfl (x_load1 rfl rfl rfl (by kernel_rfl) rfl) ?_
  refine AL_gb rfl rfl (x_eql rfl rfl rfl) (fun b12 h12 => ?_)
  refine AL_p (x_pickF rfl rfl rfl) ?_
  refine AL_p (x_move rfl rfl) ?_
  cases b12
  rotate_left
  · try simp only [tdy] at h12
    refine AL_o rfl rfl rfl rfl ?_
    refine AL_o rfl rfl rfl rfl ?_
    refine AL_p (x_pickT rfl rfl rfl) ?_
    refine AL_p (x_assign rfl rfl) ?_
    refine AL_nil ?_
    refine AW_ret ?_
    exact ⟨rn [], ⟨⟨⟨_, rfl, vle_bool (by simp [termT, *])⟩, trivial⟩, ⟨⟨_, rfl, by first | exact BLe.rf | exact ble_eq (by rw [hno]; first | done | rfl)⟩, trivial⟩, by repeat (first | exact trivial | refine ⟨⟨rfl, by first | (left; intro h; cases h) | (right; rfl), by first | exact (fun _ h => ⟨_, h⟩) | exact (fun _ _ => ⟨_, rfl⟩) | (intro _ h; cases h)⟩, ?_⟩), rfl⟩⟩
  try simp only [tdy] at h12
  refine AL_g rfl rfl (x_move rfl rfl) ?_
  refine AL_gbc rfl rfl (x_call (ks := []) (L := [(200, some _)]) (L' := [(200, some _)]) rfl rfl rfl (pIsName_c tk e st hm hi) rfl AllV.rf (caught_of rfl) rfl rfl rfl ⟨rfl, trivial⟩ rfl) (fun b16 h16 => ?_)
  refine AL_p (x_pickF rfl rfl rfl) ?_
  refine AL_p (x_assign rfl rfl) ?_
  refine AL_nil ?_
  refine AW_ret ?_
  cases b16
  rotate_left
  · try simp only [tdy] at h16
    exact ⟨rn [], ⟨⟨⟨_, rfl, vle_bool (by simp [termT, *])⟩, trivial⟩, ⟨⟨_, rfl, by first | exact BLe.rf | exact ble_eq (by rw [hno]; first | done | rfl)⟩, trivial⟩, by repeat (first | exact trivial | refine ⟨⟨rfl, by first | (left; intro h; cases h) | (right; rfl), by first | exact (fun _ h => ⟨_, h⟩) | exact (fun _ _ => ⟨_, rfl⟩) | (intro _ h; cases h)⟩, ?_⟩), rfl⟩⟩
  try simp only [tdy] at h16
  exact ⟨rn [], ⟨⟨⟨_, rfl, vle_bool (by simp [termT, *])⟩, trivial⟩, ⟨⟨_, rfl, by first | exact BLe.rf | exact ble_eq (by rw [hno]; first | done | rfl)⟩, trivial⟩, by repeat (first | exact trivial | refine ⟨⟨rfl, by first | (left; intro h; cases h) | (right; rfl), by first | exact (fun _ h => ⟨_, h⟩) | exact (fun _ _ => ⟨_, rfl⟩) | (intro _ h; cases h)⟩, ?_⟩), rfl⟩⟩

set_option maxHeartbeats 4000000 in
theorem pStarts_c (tk : List Tokent) (e : Int) (st : PS) (hm : tk.length ≤ 1048576) (hi : st.i ≤ tk.length) : AC Try.prog 143 [.one (.ptr 200 0)] [(200, some (psB tk e st))] (.one (.c (.bool (beginsT (hereT tk e st))))) [(200, some (psB tk e st))] := by
  refine AC_body1 Try.func143 rfl rfl Try.ntmps143 rfl Try.results143 ?_
  refine AW_seq ?_
  refine AW_region ?_
  refine AL_p (x_assign rfl rfl) ?_
  refine AL_nil ?_
  refine AW_seq ?_
  refine AW_region ?_
  refine AL_p (x_move rfl rfl) ?_
  refine AL_p (x_call (ks := []) (L := [(200, some _)]) (L' := [(200, some _)]) rfl rfl rfl (pHere_c tk e st hm (hi)) rfl AllV.rf (caught_of rfl) rfl rfl rfl ⟨rfl, trivial⟩ rfl) ?_
  refine AL_p (x_alloc (z := .agg #[.int .i64 0, .int .i64 0, .string ⟨#[]⟩, .int .i64 0]) 100 rfl (by kernel_rfl) rfl rfl rfl rfl) ?_
  refine AL_p (x_store (n := 4) rfl rfl rfl rfl (by kernel_rfl) rfl rfl rfl) ?_
  refine AL_nil ?_
  refine AW_seq ?_
  refine AW_region ?_
  refine AL_p (x_move rfl rfl) ?_
  refine AL_bc (x_call (ks := []) (L := [(200, some _)]) (L' := [(200, some _)]) rfl rfl rfl (pIsTerm_c tk e st hm hi) rfl AllV.rf (caught_of rfl) rfl rfl rfl ⟨rfl, trivial⟩ rfl) (fun b7 h7 => ?_)
  refine AL_p (x_move rfl rfl) ?_
  cases b7
  rotate_left
  · try simp only [tdy] at h7
    refine AL_o rfl rfl rfl rfl ?_
    refine AL_o rfl rfl rfl rfl ?_
    refine AL_o rfl rfl rfl rfl ?_
    refine AL_o rfl rfl rfl rfl ?_
    refine AL_u rfl rfl rfl ?_
    refine AL_u rfl rfl rfl ?_
    refine AL_u rfl rfl rfl ?_
    refine AL_o rfl rfl rfl rfl ?_
    refine AL_p (x_pickT rfl rfl rfl) ?_
    refine AL_p (x_assign rfl rfl) ?_
    refine AL_nil ?_
    refine AW_ret ?_
    exact ⟨rn [], ⟨⟨⟨_, rfl, vle_bool (by simp [beginsT, notT, notS, *])⟩, trivial⟩, ⟨⟨_, rfl, by first | exact BLe.rf | exact ble_eq (by rw [hno]; first | done | rfl)⟩, trivial⟩, by repeat (first | exact trivial | refine ⟨⟨rfl, by first | (left; intro h; cases h) | (right; rfl), by first | exact (fun _ h => ⟨_, h⟩) | exact (fun _ _ => ⟨_, rfl⟩) | (intro _ h; cases h)⟩, ?_⟩), rfl⟩⟩
  try simp only [tdy] at h7
  refine AL_g rfl rfl (x_field (off := 0) (o' := 0) rfl rfl rfl (by kernel_rfl) rfl) ?_
  refine AL_g rfl rfl (x_load1 rfl rfl rfl (by kernel_rfl) rfl) ?_
  refine AL_gb rfl rfl (x_eql rfl rfl rfl) (fun b11 h11 => ?_)
  refine AL_g rfl rfl (x_move rfl rfl) ?_
  cases b11
  · try simp only [tdy] at h11
    refine AL_o rfl rfl rfl rfl ?_
    refine AL_o rfl rfl rfl rfl ?_
    refine AL_o rfl rfl rfl rfl ?_
    refine AL_g rfl rfl (x_pickF rfl rfl rfl) ?_
    refine AL_p (x_pickF rfl rfl rfl) ?_
    refine AL_p (x_assign rfl rfl) ?_
    refine AL_nil ?_
    refine AW_ret ?_
    exact ⟨rn [], ⟨⟨⟨_, rfl, vle_bool (by simp [beginsT, notT, notS, *])⟩, trivial⟩, ⟨⟨_, rfl, by first | exact BLe.rf | exact ble_eq (by rw [hno]; first | done | rfl)⟩, trivial⟩, by repeat (first | exact trivial | refine ⟨⟨rfl, by first | (left; intro h; cases h) | (right; rfl), by first | exact (fun _ h => ⟨_, h⟩) | exact (fun _ _ => ⟨_, rfl⟩) | (intro _ h; cases h)⟩, ?_⟩), rfl⟩⟩
  try simp only [tdy] at h11
  refine AL_g rfl rfl (x_field (off := 2) (o' := 2) rfl rfl rfl (by kernel_rfl) rfl) ?_
  refine AL_g rfl rfl (x_load1 rfl rfl rfl (by kernel_rfl) rfl) ?_
  refine AL_gb rfl rfl (x_seql rfl rfl rfl) (fun b15 h15 => ?_)
  refine AL_g rfl rfl (x_pickT rfl rfl rfl) ?_
  refine AL_p (x_pickF rfl rfl rfl) ?_
  refine AL_p (x_assign rfl rfl) ?_
  refine AL_nil ?_
  refine AW_ret ?_
  cases b15
  rotate_left
  · try simp only [tdy] at h15
    exact ⟨rn [], ⟨⟨⟨_, rfl, vle_bool (by simp [beginsT, notT, notS, *])⟩, trivial⟩, ⟨⟨_, rfl, by first | exact BLe.rf | exact ble_eq (by rw [hno]; first | done | rfl)⟩, trivial⟩, by repeat (first | exact trivial | refine ⟨⟨rfl, by first | (left; intro h; cases h) | (right; rfl), by first | exact (fun _ h => ⟨_, h⟩) | exact (fun _ _ => ⟨_, rfl⟩) | (intro _ h; cases h)⟩, ?_⟩), rfl⟩⟩
  try simp only [tdy] at h15
  exact ⟨rn [], ⟨⟨⟨_, rfl, vle_bool (by simp [beginsT, notT, notS, *])⟩, trivial⟩, ⟨⟨_, rfl, by first | exact BLe.rf | exact ble_eq (by rw [hno]; first | done | rfl)⟩, trivial⟩, by repeat (first | exact trivial | refine ⟨⟨rfl, by first | (left; intro h; cases h) | (right; rfl), by first | exact (fun _ h => ⟨_, h⟩) | exact (fun _ _ => ⟨_, rfl⟩) | (intro _ h; cases h)⟩, ?_⟩), rfl⟩⟩

set_option maxHeartbeats 4000000 in
theorem pNeed_c (tk : List Tokent) (e : Int) (st : PS) (hm : tk.length ≤ 1048576) (hi : st.i ≤ tk.length) (s : ByteArray) : AC Try.prog 112 [.one (.ptr 200 0), .one (.c (.string (s)))] [(200, some (psB tk e st))] (.tup []) [(200, some (psB tk e (takeP tk e s st)))] := by
  refine AC_body0 Try.func112 rfl rfl Try.ntmps112 rfl Try.results112 ?_
  refine AW_seq ?_
  refine AW_seq ?_
  refine AW_region ?_
  refine AL_p (x_move rfl rfl) ?_
  refine AL_p (x_move rfl rfl) ?_
  refine AL_bc (x_call (ks := []) (L := [(200, some _)]) (L' := [(200, some _)]) rfl rfl rfl (pIsSign_c tk e st hm hi s) rfl AllV.rf (caught_of rfl) rfl rfl rfl ⟨rfl, trivial⟩ rfl) (fun b6 h6 => ?_)
  refine AL_p (x_not rfl rfl) ?_
  refine AL_nil ?_
  cases b6
  · try simp only [tdy] at h6
    have hno := take_no h6
    refine AW_condT rfl ?_
    refine AW_seq ?_
    refine AW_region ?_
    refine AL_p (x_move rfl rfl) ?_
    refine AL_p (x_call (ks := []) (L := [(200, some _)]) (L' := [(200, some _)]) rfl rfl rfl (pFail_c tk e st hm hi 6) rfl AllV.rf (caught_of rfl) rfl rfl rfl ⟨rfl, trivial⟩ rfl) ?_
    refine AL_nil ?_
    refine AW_ret ?_
    exact ⟨rn [], ⟨trivial, ⟨⟨_, rfl, by first | exact BLe.rf | exact ble_eq (by rw [hno]; first | done | rfl)⟩, trivial⟩, by repeat (first | exact trivial | refine ⟨⟨rfl, by first | (left; intro h; cases h) | (right; rfl), by first | exact (fun _ h => ⟨_, h⟩) | exact (fun _ _ => ⟨_, rfl⟩) | (intro _ h; cases h)⟩, ?_⟩), rfl⟩⟩
  try simp only [tdy] at h6
  have hno := take_ok h6
  have hlt := sign_lt h6
  refine AW_condF rfl ?_
  refine AW_skip ?_
  refine AW_region ?_
  refine AL_p (x_move rfl rfl) ?_
  refine AL_p (x_nilc rfl rfl rfl) ?_
  refine AL_p (x_field (off := 1) (o' := 1) rfl rfl rfl (by kernel_rfl) rfl) ?_
  refine AL_p (x_load1 rfl rfl rfl (by kernel_rfl) rfl) ?_
  refine AL_p (x_add rfl rfl rfl (IntWalk.i64_in _ (by omega))) ?_
  refine AL_p (x_nilc rfl rfl rfl) ?_
  refine AL_p (x_field (off := 1) (o' := 1) rfl rfl rfl (by kernel_rfl) rfl) ?_
  refine AL_p (x_store (n := 1) rfl rfl rfl rfl (by kernel_rfl) rfl rfl rfl) ?_
  refine AL_nil ?_
  exact ⟨rn [], ⟨trivial, ⟨⟨_, rfl, by first | exact BLe.rf | exact ble_eq (by rw [hno]; first | done | rfl)⟩, trivial⟩, by repeat (first | exact trivial | refine ⟨⟨rfl, by first | (left; intro h; cases h) | (right; rfl), by first | exact (fun _ h => ⟨_, h⟩) | exact (fun _ _ => ⟨_, rfl⟩) | (intro _ h; cases h)⟩, ?_⟩), rfl⟩⟩

set_option maxHeartbeats 4000000 in
theorem pName_c (tk : List Tokent) (e : Int) (st : PS) (hm : tk.length ≤ 1048576) (hi : st.i ≤ tk.length) : AC Try.prog 111 [.one (.ptr 200 0)] [(200, some (psB tk e st))] (.one (.c (.string ((wordP tk e st).1)))) [(200, some (psB tk e (wordP tk e st).2))] := by
  refine AC_body1 Try.func111 rfl rfl Try.ntmps111 rfl Try.results111 ?_
  refine AW_seq ?_
  refine AW_region ?_
  refine AL_p (x_assign rfl rfl) ?_
  refine AL_nil ?_
  refine AW_seq ?_
  refine AW_seq ?_
  refine AW_region ?_
  refine AL_p (x_move rfl rfl) ?_
  refine AL_bc (x_call (ks := []) (L := [(200, some _)]) (L' := [(200, some _)]) rfl rfl rfl (pIsName_c tk e st hm hi) rfl AllV.rf (caught_of rfl) rfl rfl rfl ⟨rfl, trivial⟩ rfl) (fun b5 h5 => ?_)
  refine AL_p (x_not rfl rfl) ?_
  refine AL_nil ?_
  cases b5
  · try simp only [tdy] at h5
    have hno := word_no h5
    refine AW_condT rfl ?_
    refine AW_seq ?_
    refine AW_region ?_
    refine AL_p (x_move rfl rfl) ?_
    refine AL_p (x_call (ks := []) (L := [(200, some _)]) (L' := [(200, some _)]) rfl rfl rfl (pFail_c tk e st hm hi 6) rfl AllV.rf (caught_of rfl) rfl rfl rfl ⟨rfl, trivial⟩ rfl) ?_
    refine AL_nil ?_
    refine AW_seq ?_
    refine AW_region ?_
    refine AL_p (x_assign rfl rfl) ?_
    refine AL_nil ?_
    refine AW_ret ?_
    exact ⟨rn [], ⟨⟨⟨_, rfl, vle_str (by rw [hno])⟩, trivial⟩, ⟨⟨_, rfl, by first | exact BLe.rf | exact ble_eq (by rw [hno]; first | done | rfl)⟩, trivial⟩, by repeat (first | exact trivial | refine ⟨⟨rfl, by first | (left; intro h; cases h) | (right; rfl), by first | exact (fun _ h => ⟨_, h⟩) | exact (fun _ _ => ⟨_, rfl⟩) | (intro _ h; cases h)⟩, ?_⟩), rfl⟩⟩
  try simp only [tdy] at h5
  have hno := word_ok h5
  have hlt := name_lt h5
  refine AW_condF rfl ?_
  refine AW_skip ?_
  refine AW_seq ?_
  refine AW_region ?_
  refine AL_p (x_move rfl rfl) ?_
  refine AL_p (x_call (ks := []) (L := [(200, some _)]) (L' := [(200, some _)]) rfl rfl rfl (pHere_c tk e st hm (hi)) rfl AllV.rf (caught_of rfl) rfl rfl rfl ⟨rfl, trivial⟩ rfl) ?_
  refine AL_p (x_alloc (z := .agg #[.int .i64 0, .int .i64 0, .string ⟨#[]⟩, .int .i64 0]) 100 rfl (by kernel_rfl) rfl rfl rfl rfl) ?_
  refine AL_p (x_store (n := 4) rfl rfl rfl rfl (by kernel_rfl) rfl rfl rfl) ?_
  refine AL_nil ?_
  refine AW_seq ?_
  refine AW_region ?_
  refine AL_p (x_move rfl rfl) ?_
  refine AL_p (x_nilc rfl rfl rfl) ?_
  refine AL_p (x_field (off := 1) (o' := 1) rfl rfl rfl (by kernel_rfl) rfl) ?_
  refine AL_p (x_load1 rfl rfl rfl (by kernel_rfl) rfl) ?_
  refine AL_p (x_add rfl rfl rfl (IntWalk.i64_in _ (by omega))) ?_
  refine AL_p (x_nilc rfl rfl rfl) ?_
  refine AL_p (x_field (off := 1) (o' := 1) rfl rfl rfl (by kernel_rfl) rfl) ?_
  refine AL_p (x_store (n := 1) rfl rfl rfl rfl (by kernel_rfl) rfl rfl rfl) ?_
  refine AL_nil ?_
  refine AW_seq ?_
  refine AW_region ?_
  refine AL_p (x_field (off := 2) (o' := 2) rfl rfl rfl (by kernel_rfl) rfl) ?_
  refine AL_p (x_load1 rfl rfl rfl (by kernel_rfl) rfl) ?_
  refine AL_p (x_assign rfl rfl) ?_
  refine AL_nil ?_
  refine AW_ret ?_
  exact ⟨rn [], ⟨⟨⟨_, rfl, vle_str (by rw [hno])⟩, trivial⟩, ⟨⟨_, rfl, by first | exact BLe.rf | exact ble_eq (by rw [hno]; first | done | rfl)⟩, trivial⟩, by repeat (first | exact trivial | refine ⟨⟨rfl, by first | (left; intro h; cases h) | (right; rfl), by first | exact (fun _ h => ⟨_, h⟩) | exact (fun _ _ => ⟨_, rfl⟩) | (intro _ h; cases h)⟩, ?_⟩), rfl⟩⟩

set_option maxHeartbeats 4000000 in
theorem pTerm_c (tk : List Tokent) (e : Int) (st : PS) (hm : tk.length ≤ 1048576) (hi : st.i ≤ tk.length) : AC Try.prog 142 [.one (.ptr 200 0)] [(200, some (psB tk e st))] (.agg (termC (termP tk e false st).1)) [(200, some (psB tk e (termP tk e false st).2))] := by
  refine AC_bodyC (n := 3) (k := 9) (T := [(2, .one (.ptr 9 0))]) (Lf := ((9, some (.box (termC (termP tk e false st).1))) :: [(200, some (psB tk e (termP tk e false st).2))])) Try.func142 rfl rfl Try.ntmps142 rfl Try.results142 rfl rfl (by kernel_rfl) rfl rfl ⟨trivial, (by repeat (first | exact trivial | refine ⟨⟨_, rfl, BLe.rf⟩, ?_⟩)), (by repeat (first | exact trivial | refine ⟨⟨rfl, by first | (left; intro h; cases h) | (right; rfl), by first | exact (fun _ h => ⟨_, h⟩) | exact (fun _ _ => ⟨_, rfl⟩) | (intro _ h; cases h)⟩, ?_⟩)), rfl⟩ ?_
  refine AW_seq ?_
  refine AW_region ?_
  refine AL_p (x_alloc (z := .agg #[.string ⟨#[]⟩, .int .i64 0, .string ⟨#[]⟩]) 100 rfl (by kernel_rfl) rfl rfl rfl rfl) ?_
  refine AL_nil ?_
  refine AW_seq ?_
  refine AW_seq ?_
  refine AW_region ?_
  refine AL_p (x_move rfl rfl) ?_
  refine AL_bc (x_call (ks := []) (L := [(200, some _)]) (L' := [(200, some _)]) rfl rfl rfl (pIsTerm_c tk e st hm hi) rfl AllV.rf (caught_of rfl) rfl rfl rfl ⟨rfl, trivial⟩ rfl) (fun b5 h5 => ?_)
  refine AL_p (x_not rfl rfl) ?_
  refine AL_nil ?_
  cases b5
  · try simp only [tdy] at h5
    have hno := term_no (b := false) h5
    refine AW_condT rfl ?_
    refine AW_seq ?_
    refine AW_region ?_
    refine AL_p (x_move rfl rfl) ?_
    refine AL_p (x_call (ks := []) (L := [(200, some _)]) (L' := [(200, some _)]) rfl rfl rfl (pFail_c tk e st hm hi 6) rfl AllV.rf (caught_of rfl) rfl rfl rfl ⟨rfl, trivial⟩ rfl) ?_
    refine AL_nil ?_
    refine AW_seq ?_
    refine AW_region ?_
    refine AL_p (x_build (zs := [.string ⟨#[]⟩, .int .i64 0, .string ⟨#[]⟩]) (places := [(0, 1), (1, 2)]) rfl (by kernel_rfl) rfl rfl rfl rfl rfl) ?_
    refine AL_p (x_store (n := 3) rfl rfl rfl rfl (by kernel_rfl) rfl rfl rfl) ?_
    refine AL_nil ?_
    refine AW_ret ?_
    exact ⟨rn [(9, 100)], ⟨⟨⟨_, rfl, VLe.rf⟩, trivial⟩, ⟨⟨_, rfl, by first | exact BLe.rf | exact ble_eq (by rw [hno]; first | done | rfl)⟩, ⟨_, rfl, by first | exact BLe.rf | exact ble_eq (by rw [hno]; first | done | rfl)⟩, trivial⟩, by repeat (first | exact trivial | refine ⟨⟨rfl, by first | (left; intro h; cases h) | (right; rfl), by first | exact (fun _ h => ⟨_, h⟩) | exact (fun _ _ => ⟨_, rfl⟩) | (intro _ h; cases h)⟩, ?_⟩), rfl⟩⟩
  try simp only [tdy] at h5
  have hn1 := term_ok h5
  have hlt := term_lt h5
  refine AW_condF rfl ?_
  refine AW_skip ?_
  refine AW_seq ?_
  refine AW_region ?_
  refine AL_p (x_move rfl rfl) ?_
  refine AL_p (x_call (ks := []) (L := [(200, some _)]) (L' := [(200, some _)]) rfl rfl rfl (pHere_c tk e st hm (hi)) rfl AllV.rf (caught_of rfl) rfl rfl rfl ⟨rfl, trivial⟩ rfl) ?_
  refine AL_p (x_alloc (z := .agg #[.int .i64 0, .int .i64 0, .string ⟨#[]⟩, .int .i64 0]) 101 rfl (by kernel_rfl) rfl rfl rfl rfl) ?_
  refine AL_p (x_store (n := 4) rfl rfl rfl rfl (by kernel_rfl) rfl rfl rfl) ?_
  refine AL_nil ?_
  refine AW_seq ?_
  refine AW_region ?_
  refine AL_p (x_move rfl rfl) ?_
  refine AL_p (x_nilc rfl rfl rfl) ?_
  refine AL_p (x_field (off := 1) (o' := 1) rfl rfl rfl (by kernel_rfl) rfl) ?_
  refine AL_p (x_load1 rfl rfl rfl (by kernel_rfl) rfl) ?_
  refine AL_p (x_add rfl rfl rfl (IntWalk.i64_in _ (by omega))) ?_
  refine AL_p (x_nilc rfl rfl rfl) ?_
  refine AL_p (x_field (off := 1) (o' := 1) rfl rfl rfl (by kernel_rfl) rfl) ?_
  refine AL_p (x_store (n := 1) rfl rfl rfl rfl (by kernel_rfl) rfl rfl rfl) ?_
  refine AL_nil ?_
  refine AW_seq ?_
  refine AW_seq ?_
  refine AW_region ?_
  refine AL_p (x_field (off := 0) (o' := 0) rfl rfl rfl (by kernel_rfl) rfl) ?_
  refine AL_p (x_load1 rfl rfl rfl (by kernel_rfl) rfl) ?_
  refine AL_nil ?_
  refine AW_block ?_
  refine AW_seq ?_
  refine AW_region ?_
  refine AL_b (x_eql rfl rfl rfl) (fun b22 h22 => ?_)
  refine AL_p (x_assign rfl rfl) ?_
  refine AL_nil ?_
  cases b22
  rotate_left
  · try simp only [tdy] at h22
    have hno := hn1.trans (congrArg (fun x => (x, st.next)) (of_var h22))
    refine AW_condT rfl ?_
    refine AW_seq ?_
    refine AW_region ?_
    refine AL_p (x_field (off := 2) (o' := 2) rfl rfl rfl (by kernel_rfl) rfl) ?_
    refine AL_p (x_load1 rfl rfl rfl (by kernel_rfl) rfl) ?_
    refine AL_p (x_build (zs := [.string ⟨#[]⟩, .int .i64 0, .string ⟨#[]⟩]) (places := [(0, 1), (1, 2)]) rfl (by kernel_rfl) rfl rfl rfl rfl rfl) ?_
    refine AL_p (x_store (n := 3) rfl rfl rfl rfl (by kernel_rfl) rfl rfl rfl) ?_
    refine AL_nil ?_
    refine AW_ret (BQ_ret ?_)
    exact ⟨rn [(9, 100)], ⟨⟨⟨_, rfl, VLe.rf⟩, trivial⟩, ⟨⟨_, rfl, by first | exact BLe.rf | exact ble_eq (by rw [hno]; first | done | rfl)⟩, ⟨_, rfl, by first | exact BLe.rf | exact ble_eq (by rw [hno]; first | done | rfl)⟩, trivial⟩, by repeat (first | exact trivial | refine ⟨⟨rfl, by first | (left; intro h; cases h) | (right; rfl), by first | exact (fun _ h => ⟨_, h⟩) | exact (fun _ _ => ⟨_, rfl⟩) | (intro _ h; cases h)⟩, ?_⟩), rfl⟩⟩
  try simp only [tdy] at h22
  refine AW_condF rfl ?_
  refine AW_seq ?_
  refine AW_region ?_
  refine AL_b (x_eql rfl rfl rfl) (fun b27 h27 => ?_)
  refine AL_p (x_assign rfl rfl) ?_
  refine AL_nil ?_
  cases b27
  rotate_left
  · try simp only [tdy] at h27
    have hno := hn1.trans (congrArg (fun x => (x, st.next)) (of_num h22 h27))
    refine AW_condT rfl ?_
    refine AW_seq ?_
    refine AW_region ?_
    refine AL_p (x_field (off := 1) (o' := 1) rfl rfl rfl (by kernel_rfl) rfl) ?_
    refine AL_p (x_load1 rfl rfl rfl (by kernel_rfl) rfl) ?_
    refine AL_p (x_build (zs := [.int .i64 0, .string ⟨#[]⟩]) (places := [(0, 1), (1, 1)]) rfl (by kernel_rfl) rfl rfl rfl rfl rfl) ?_
    refine AL_p (x_build (zs := [.string ⟨#[]⟩, .int .i64 0, .string ⟨#[]⟩]) (places := [(0, 1), (1, 2)]) rfl (by kernel_rfl) rfl rfl rfl rfl rfl) ?_
    refine AL_p (x_store (n := 3) rfl rfl rfl rfl (by kernel_rfl) rfl rfl rfl) ?_
    refine AL_nil ?_
    refine AW_ret (BQ_ret ?_)
    exact ⟨rn [(9, 100)], ⟨⟨⟨_, rfl, VLe.rf⟩, trivial⟩, ⟨⟨_, rfl, by first | exact BLe.rf | exact ble_eq (by rw [hno]; first | done | rfl)⟩, ⟨_, rfl, by first | exact BLe.rf | exact ble_eq (by rw [hno]; first | done | rfl)⟩, trivial⟩, by repeat (first | exact trivial | refine ⟨⟨rfl, by first | (left; intro h; cases h) | (right; rfl), by first | exact (fun _ h => ⟨_, h⟩) | exact (fun _ _ => ⟨_, rfl⟩) | (intro _ h; cases h)⟩, ?_⟩), rfl⟩⟩
  try simp only [tdy] at h27
  have hno := hn1.trans (congrArg (fun x => (x, st.next)) (of_name h22 h27))
  refine AW_condF rfl ?_
  refine AW_skip ?_
  refine AW_seq ?_
  refine AW_region ?_
  refine AL_p (x_field (off := 2) (o' := 2) rfl rfl rfl (by kernel_rfl) rfl) ?_
  refine AL_p (x_load1 rfl rfl rfl (by kernel_rfl) rfl) ?_
  refine AL_p (x_build (zs := [.int .i64 0, .string ⟨#[]⟩]) (places := [(0, 1), (1, 1)]) rfl (by kernel_rfl) rfl rfl rfl rfl rfl) ?_
  refine AL_p (x_build (zs := [.string ⟨#[]⟩, .int .i64 0, .string ⟨#[]⟩]) (places := [(0, 1), (1, 2)]) rfl (by kernel_rfl) rfl rfl rfl rfl rfl) ?_
  refine AL_p (x_store (n := 3) rfl rfl rfl rfl (by kernel_rfl) rfl rfl rfl) ?_
  refine AL_nil ?_
  refine AW_ret ?_
  exact ⟨rn [(9, 100)], ⟨⟨⟨_, rfl, VLe.rf⟩, trivial⟩, ⟨⟨_, rfl, by first | exact BLe.rf | exact ble_eq (by rw [hno]; first | done | rfl)⟩, ⟨_, rfl, by first | exact BLe.rf | exact ble_eq (by rw [hno]; first | done | rfl)⟩, trivial⟩, by repeat (first | exact trivial | refine ⟨⟨rfl, by first | (left; intro h; cases h) | (right; rfl), by first | exact (fun _ h => ⟨_, h⟩) | exact (fun _ _ => ⟨_, rfl⟩) | (intro _ h; cases h)⟩, ?_⟩), rfl⟩⟩
end Go.Proofs.Ytkemjhlbokldhaa
