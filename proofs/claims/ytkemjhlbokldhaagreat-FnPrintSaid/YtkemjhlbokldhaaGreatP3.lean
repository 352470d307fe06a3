/- Lemmas of the walks, part 3. -/
import Derived.Test.YtkemjhlbokldhaaGreatP2
import Derived.Laws.CopyRow
import Derived.Laws.Small
import Derived.Shelf.Strings.Builder1
import Derived.Shelf.Strings.Builder2
import Derived.Shelf.Strings.OnBuilder
import Derived.Shelf.Small.Strs
import Derived.Shelf.Strings.BuilderF
import Derived.Shelf.Strings.Builder2Cap
import Derived.Shelf.Strings.Search1
import Derived.Shelf.Strings.Prefix
import Derived.Test.YtkemjhlbokldhaaGreatRows
import Derived.Laws.Strings
import Derived.Lib.IndexLaws
namespace Go.Proofs.YtkemjhlbokldhaaGreat
open Go.RowKit
set_option linter.unusedVariables false

def rnC (j : Nat) : Nat := bif Nat.beq j 200 then 200 else 0
theorem rnC_k {k : Nat} (hk : Nat.beq k 200 = false) : rnC k = 0 := by unfold rnC; rw [hk]; rfl
theorem curB_ren [Old] (b : List Int) (c : Cur) (r : Nat → Nat) : (DD b c).ren r = DD b c := rfl
theorem AC.cur [Old] {P : Program} {f : FuncId} {args : List AVal} {bs : List Int} {c c' : Cur} {res res0 : AVal} {blk : Blk} (h : AC P f args [(200, some (DD bs c))] res0 [(200, some (DD bs c')), (0, some blk)]) (k : Nat) (hk : Nat.beq k 200 = false)
   (hres : ∀ r : Nat → Nat, r k = 0 → res.ren r = res0) (hbl : ∀ r : Nat → Nat, blk.ren r = blk) : AC P f args [(200, some (DD bs c))] res [(200, some (DD bs c')), (k, some blk)] := by
 have hL : LeL rnC [(200, some (DD bs c')), (0, some blk)] [(200, some (DD bs c')), (k, some blk)] :=
   ⟨⟨DD bs c', rfl, by rw [curB_ren]; exact BLe.rf⟩, ⟨blk, by rw [rnC_k hk]; rfl, by rw [hbl]; exact BLe.rf⟩, trivial⟩
 have hi : injL rnC (Bi [(200, some (DD bs c')), (k, some blk)]) = true := by
   have h2 : rnC 200 = 200 := rfl
   simp [injL, Bi, rnC_k hk, h2]
   exact .inr rfl
 have hK : LeK rnC [(200, some (DD bs c')), (0, some blk)] [(200, some (DD bs c')), (k, some blk)] (Bi [(200, some (DD bs c))]) :=
   ⟨⟨rfl, .inl (by simp [lk]), fun cs _ => ⟨_, rfl⟩⟩, trivial⟩
 refine ⟨h.fn, fun g w cargs m ha => (h.run g w cargs m ha).mono ?_⟩
 rintro e w' ⟨v, g1, rfl, m1, hv, hs⟩
 exact ⟨v, g1.ren rnC, rfl, m1.unren hL hi, VR.unren hL (by rw [hres rnC (rnC_k hk)]; exact hv), hs.trans m m1 (Step.unren hL hK)⟩
section results
variable {P : Program} {f : FuncId} {fn : Func} {c : Code} {N : Nat} {args : List AVal} {L L' : Locs}
end results
theorem rem_wf {m n : Int} (h0 : 0 ≤ m) (h1 : m ≤ 4294967295) (hn : 0 < n) : (Lit.int .i64 (m.tmod n)).wf = true := by
 rw [Int.tmod_eq_emod_of_nonneg h0]
 have h2 := Int.emod_nonneg m (show n ≠ 0 by omega)
 have h3 : m % n ≤ m := by
   by_cases h : m < n
   · rw [Int.emod_eq_of_lt h0 h]; exact Int.le_refl _
   · have := Int.emod_lt_of_pos m hn; omega
 exact WalkArith.wf_i64 (by omega)
theorem mul_in {m n : Int} (h : 0 ≤ m ∧ m < 65536) (h2 : 0 ≤ n ∧ n < 65536) : -9223372036854775808 ≤ m * n ∧ m * n ≤ 9223372036854775807 := by
 have a1 := Int.mul_nonneg h.1 h2.1
 have a2 : m * n ≤ 65536 * 65536 := Int.mul_le_mul (by omega) (by omega) h2.1 (by decide)
 omega
theorem getD_txt {xs : List ByteArray} {k : Nat} (h : k < xs.length) : xs[k] = xs.getD k ⟨#[]⟩ := by simp [List.getD, h]
theorem pow_step {k : Nat} (h : k < 6) : IntKind.i64.wrap ((256 : Int) ^ k * 256) = (256 : Int) ^ (k + 1) := by
 have := pow_256 (m := k + 1) (by omega)
 rw [← Int.pow_succ]
 exact IntWalk.i64_in _ (by omega)
end Go.Proofs.YtkemjhlbokldhaaGreat

namespace Go.Proofs.YtkemjhlbokldhaaGreat
open Go.RowKit
set_option linter.unusedVariables false
set_option linter.unusedSimpArgs false

section ops
variable {P : Program} {N : Nat} {s : St} {d : Nat} {ty : TypeId} {pos : String} {after : Array Edge} {gd : Option (Nat × Bool)}
end ops
theorem AT.nil {P : Program} {f : FuncId} {rest : List AVal} {α β : Type} {T U : TypeId} {e : Enc α} {e' : Enc β} {ys : List β} {d' : Bool}
   (h : AT P f (.one (.own 0) :: rest) [(0, some (.arr T e [] true))] (.one (.own 1)) [(1, some (.arr U e' ys d'))]) (hrest : rest.flatMap AVal.ids1 = []) (c : Nat) :
   AC P f (.one (.c (.slice none 0 0)) :: rest) [] (.one (.own c)) [(c, some (.arr U e' ys d'))] := by
 refine ⟨h.fn, fun g w cargs m ha => ?_⟩
 obtain ⟨g', q1, q2, q3, q4, q5⟩ := nil_new m (k := 0) rfl (by simp [Locs.ids]) α T e
 have ha' : All2 (VR1 g' [(0, some (.arr (α := α) T e [] true))] w) cargs.toList (.one (.own 0) :: rest) := by
   generalize cargs.toList = vs at ha
   cases vs with
   | nil => exact ha
   | cons v vs =>
     refine ⟨fun β U e2 ys dd hc => by rw [q1]; exact ha.1.1, ha.2.mono fun a b hb hr => VR1.step (fun _ _ => rfl) q4 (Nat.le_refl _) (fun k hk => ?_) hr⟩
     have : k ∈ rest.flatMap AVal.ids1 := List.mem_flatMap.2 ⟨b, hb, hk⟩
     rw [hrest] at this; cases this
 refine (h.run g' w cargs q2 ha').mono ?_
 rintro r w' ⟨v, g1, rfl, m1, hv, hs⟩
 have hle : LeL (fun _ => 1) [(1, some (.arr U e' ys d'))] [(c, some (.arr U e' ys d'))] := ⟨⟨_, rfl, BLe.rf⟩, trivial⟩
 have T1 := ((q3 []).trans m q2 hs).trans m m1 (Step.unren hle trivial)
 exact ⟨v, g1.ren _, rfl, m1.unren hle (by simp [injL, Bi]), VR.unren (x := .one (.own c)) hle hv, T1⟩
end Go.Proofs.YtkemjhlbokldhaaGreat

namespace Go.Proofs.YtkemjhlbokldhaaGreat
open Go.RowKit
set_option linter.unusedVariables false
section ops
variable {P : Program} {N : Nat} {s : St} {d : Nat} {ty : TypeId} {pos : String} {after : Array Edge} {gd : Option (Nat × Bool)}
theorem AI {x : Operand} {k off : Nat} {cs : List Cell} (hN : Nat.blt d N = true) (h : evo s.t x = some (.one (.ptr k off))) (hk : lkl s.l k = some (.box cs)) :
   Stp P N ⟨some d, .nilCheck x, ty, pos, after, gd⟩ s ⟨(d, .one (.ptr k off)) :: s.t, s.l⟩ ⟨rdo x (.one (.ptr k off)), [(k, .box cs)], [(d, .one (.ptr k off))], [], []⟩ :=
 Stp.pure rfl hN (Cg h) (by simpa using hk) fun g s' a w ht hl' r => by
   have hk' : lkl s'.l k = some (.box cs) := hl' (k, .box cs) (by simp)
   have hv : a.eval x = .pointer (some ⟨g.ρ k, off, none⟩) := (B4 r (BC h) ht : CellR g s'.l w _ (.ptr k off)) cs hk'
   exact ⟨_, by simp only [execOp, hv, Sem.run_pure], fun cs' hc => rfl⟩
end ops
theorem byte_wf {x : Int} (h : (Lit.int .u8 x).wf = true) : 0 ≤ x ∧ x ≤ 255 := by
 simp only [Lit.wf, Bool.and_eq_true, decide_eq_true_eq] at h
 exact h
theorem SliceRep.bytes {w : World} {a : Option Addr} {n cap : Nat} {xs : List Int} {bs : List Nat} (h : SliceRep (intE .u8) w a n cap xs bs) : ∀ x ∈ xs, 0 ≤ x ∧ x ≤ 255 := fun x hx => by
 obtain ⟨j, hj, rfl⟩ := List.getElem_of_mem hx
 obtain ⟨gb, o, cs, b, _, f1, _⟩ := h.get hj
 exact byte_wf f1.2.1
end Go.Proofs.YtkemjhlbokldhaaGreat

namespace Go.Proofs.YtkemjhlbokldhaaGreat
open Go.RowKit
set_option linter.unusedVariables false
section ops
variable {P : Program} {N : Nat} {s : St} {ty : TypeId} {pos : String} {after : Array Edge} {gd : Option (Nat × Bool)}
theorem DW {α : Type} {e : Enc α} {f : α → List Cell} [hc : CellsOf e f] {T E n i k o : Nat} {x y : Operand} {X : AVal} {xs : List α} (x' : α) {A B C ds ds' : List Cell} {js : List Nat} {d1 d2 : Bool} (h : evo s.t x = some (.one (.optr k i o))) (hl : lkl s.l k = some (.arr E e xs d1)) (h2 : evo s.t y = some X) (hf : X.flat = true)
   (hT : sizeT P T = some n) (hn : X.cells.length = n) (hsol : X.cells.all (Dm s.l) = true) (hmv : mvC s.l X.cells = some (ds, js, d2)) (hfit : FitL ds ds') (hnd : Ja js = true) (hkj : FZ k js = true) (hi : i < xs.length)
   (hA : f xs[i] = A ++ (B ++ C)) (hAo : A.length = o) (hB : B.length = n) (hx' : f x' = A ++ (ds' ++ C)) :
   Stp P N ⟨none, .store T x y, ty, pos, after, gd⟩ s ⟨s.t, (k, some (.arr E e (xs.set i x') (d1 && d2))) :: (C9 js ++ s.l)⟩ ⟨rdo x (.one (.optr k i o)) ++ rdo y X, (k, .arr E e xs d1) :: rlC s.l X.cells, [], (k, some (.arr E e (xs.set i x') (d1 && d2))) :: C9 js, []⟩ := by
 refine ⟨fun K g s' a w hpre r => ?_, ⟨FU h h2, fun p hp => by
   rcases List.mem_cons.1 hp with rfl | hp
   · exact hl
   · exact Fy p hp, by simp⟩, by simp [Cert.upd]⟩
 obtain ⟨p1, p2, _⟩ := hpre
 have hk : lkl s'.l k = some (.arr E e xs d1) := p2 (k, .arr E e xs d1) (List.mem_cons_self ..)
 have p2' : ∀ p ∈ rlC s.l X.cells, lkl s'.l p.1 = some p.2 := fun p hp => p2 p (List.mem_cons_of_mem _ hp)
 have ha : a.eval x = .pointer (some ⟨g.ρ k, i * e.size + o, none⟩) := (B4 r (BC h) fun p hm => p1 p (List.mem_append_left _ hm) : CellR g s'.l w _ (.optr k i o)) _ _ _ _ _ hk
 have hv := B4 r (BC h2) fun p hm => p1 p (List.mem_append_right _ hm)
 have hs' : X.cells.all (Dm s'.l) = true := List.all_eq_true.2 fun z hz => GK p2' hz (List.all_eq_true.1 hsol z hz)
 have hall := Gb hs' r.mem hv hf
 have hmv' := mvC_of hmv p2'
 have hjn := noDup_of hnd
 have hkj' := Er hkj
 have hgone : ∀ j ∈ js, ∃ (α : Type) (T : TypeId) (e : Enc α) (xs : List α) (d : Bool), lkl s'.l j = some (.arr T e xs d) := fun j hj => (DS hmv' j hj).1
 obtain ⟨b', f1, f2, f3⟩ := IC r.mem hall hmv' hjn
 have hlen : (a.eval y).cells.size = n := by rw [← hn]; simpa using hall.len
 have hll : (a.eval y).cells.toList.length = n := by simpa using hlen
 rcases r.mem.arr k _ _ _ _ _ hk with ⟨rfl, _⟩ | ⟨cap, vs, bss, g1, g2, g3, g4, g5, g6, g7, g8, g9⟩
 · simp at hi
 have hlv : g.hd k ≠ .slice none 0 0 := by rw [g1]; intro e; cases e
 have hib : i < bss.length := by rw [g6.1]; exact hi
 obtain ⟨us, hus, hcell⟩ := g6.2 i xs[i] bss[i] (List.getElem?_eq_getElem hi) (List.getElem?_eq_getElem hib)
 have hul := e.len hus
 have hfr := hc.iff.1 hus
 rw [hA] at hfr
 obtain ⟨u1, ur, c1, cr, eu, ec, fr1, fr2⟩ := FR.app.1 hfr
 obtain ⟨u2, u3, c2, c3, eu2, ec2, fr3, fr4⟩ := FR.app.1 fr2
 have l1 : u1.length = o := by rw [fr1.length]; exact hAo
 have l2 : u2.length = n := by rw [fr3.length]; exact hB
 subst eu; subst eu2
 have l3 : o + n + u3.length = e.size := by rw [← hul]; simp [l1, l2]; omega
 have hfitc : i * e.size + o + n ≤ vs.size := by
   rw [g5]
   have : (i + 1) * e.size ≤ cap * e.size := Nat.mul_le_mul_right _ (by omega)
   rw [Nat.add_mul] at this; omega
 have one : ∀ v ∈ (a.eval y).cells.toList, v.oneCell' = true := FR.one f1
 have hst := run_storeCells_at P (g.ρ k) (i * e.size + o) E (a.eval y).cells.toList 0 vs w g4 (by rw [hll]; simpa using hfitc) one
 generalize hnew : (vs.toList.take (i * e.size + o) ++ (a.eval y).cells.toList ++ vs.toList.drop (i * e.size + o + (a.eval y).cells.toList.length)).toArray = new at *
 have hng : ∀ q, new[q]? = if i * e.size + o ≤ q ∧ q < i * e.size + o + n then (a.eval y).cells.toList[q - (i * e.size + o)]? else vs[q]? := fun q => by
   rw [← hnew, List.getElem?_toArray]
   have hl0 : (vs.toList.take (i * e.size + o)).length = i * e.size + o := by simp; omega
   rcases Nat.lt_or_ge q (i * e.size + o) with hq | hq
   · rw [if_neg (by omega), List.append_assoc, List.getElem?_append_left (by omega), List.getElem?_take, if_pos hq]; simp
   · rw [List.append_assoc, List.getElem?_append_right (by omega), hl0]
     rcases Nat.lt_or_ge q (i * e.size + o + n) with hq2 | hq2
     · rw [if_pos ⟨hq, hq2⟩, List.getElem?_append_left (by omega)]
     · rw [if_neg (by omega), List.getElem?_append_right (by omega), List.getElem?_drop, hll, show i * e.size + o + n + (q - (i * e.size + o) - n) = q by omega]; simp
 have hns : new.size = vs.size := by rw [← hnew]; simp; omega
 have hwk : (w.setRow (g.ρ k) new).heap[g.ρ k]? = some (.cells new E (0, 0)) := setRow_heap w _ _ _ E _ g4
 have hwo : ∀ b, b ≠ g.ρ k → (w.setRow (g.ρ k) new).heap[b]? = w.heap[b]? := fun b hb => setRow_other w _ b _ hb
 have hsz : (w.setRow (g.ρ k) new).heap.size = w.heap.size := by simp
 have hbk' : ∀ b ∈ b', b ≠ g.ρ k := fun b hb eq => by
   rcases f2 b hb with h3 | ⟨j, hj, h3, h4⟩
   · exact g8 (eq ▸ h3)
   · obtain ⟨_, _, _, _, _, h5⟩ := hgone j hj
     exact r.mem.dis j k _ _ (fun e => hkj' (e ▸ hj)) h5 hk h3 hlv (h4 ▸ eq)
 have hold : ∀ b ∈ bss[i], b ∈ bss.flatten := fun b hb => List.mem_flatten.2 ⟨_, List.getElem_mem hib, hb⟩
 have hc1 : ∀ b ∈ c1, b ∈ bss[i] := fun b hb => by rw [ec]; exact List.mem_append_left _ hb
 have hc3 : ∀ b ∈ c3, b ∈ bss[i] := fun b hb => by rw [ec, ec2]; exact List.mem_append_right _ (List.mem_append_right _ hb)
 have hbn : ∀ b ∈ c1 ++ (b' ++ c3), b ∈ b' ∨ b ∈ bss[i] := fun b hb => by
   rcases List.mem_append.1 hb with hb | hb
   · exact .inr (hc1 b hb)
   · rcases List.mem_append.1 hb with hb | hb
     · exact .inl hb
     · exact .inr (hc3 b hb)
 have hbk : ∀ b ∈ c1 ++ (b' ++ c3), b ≠ g.ρ k := fun b hb eq => by
   rcases hbn b hb with hb | hb
   · exact hbk' b hb eq
   · exact g8 (eq ▸ g7 b (hold b hb))
 have hrep : e.rep w (u1 ++ ((a.eval y).cells.toList ++ u3)) x' (c1 ++ (b' ++ c3)) := hc.iff.2 (by
   rw [hx']
   exact FR.app.2 ⟨u1, _, c1, _, rfl, rfl, fr1, FR.app.2 ⟨_, u3, b', c3, rfl, rfl, f1.fit hfit, fr4⟩⟩)
 have hE := g6.upd (w' := w.setRow (g.ρ k) new) (k := i) (x' := x') (b' := c1 ++ (b' ++ c3)) (e.keep hrep (fun b hb => hwo b (hbk b hb)) (Nat.le_of_eq hsz.symm)) (fun j u hu => by
     have hj := (List.getElem?_eq_some_iff.1 hu).1
     simp only [List.length_append, l1, hll] at hj
     rw [Cu hwk, hng]
     by_cases h1 : j < o
     · rw [if_neg (by omega)]
       rw [List.getElem?_append_left (by omega)] at hu
       have := hcell j u (by rw [List.getElem?_append_left (by omega)]; exact hu)
       rw [Cu g4] at this; exact this
     · rw [List.getElem?_append_right (by omega), l1] at hu
       by_cases h2 : j - o < n
       · rw [if_pos (by omega), show 0 + i * e.size + j - (i * e.size + o) = j - o by omega]
         rw [List.getElem?_append_left (by omega)] at hu; exact hu
       · rw [if_neg (by omega)]
         rw [List.getElem?_append_right (by omega), hll] at hu
         have := hcell j u (by rw [List.getElem?_append_right (by omega), List.getElem?_append_right (by omega), l1, l2]; exact hu)
         rw [Cu g4] at this; exact this) (fun q hq => by
     rw [Cu hwk, hng, Cu g4, if_neg (by rw [Nat.add_mul] at hq; omega)]) (fun q b hq hb c hcb => hwo c fun eq => g8 (eq ▸ g7 c (List.mem_flatten.2 ⟨b, List.mem_of_getElem? hb, hcb⟩))) (Nat.le_of_eq hsz.symm)
 have hmem : ∀ b ∈ (bss.set i (c1 ++ (b' ++ c3))).flatten, g.I b ∨ Im g js b := fun b hb => by
   rcases D3 bss hib b hb with h3 | h3
   · rcases hbn b h3 with h3 | h3
     · exact f2 b h3
     · exact .inl (g7 b (hold b h3))
   · exact .inl (g7 b h3)
 obtain ⟨g', q1, q2, q3, q4, q5, q6, q7⟩ := arr_put (w' := w.setRow (g.ρ k) new) r.mem hk hlv hkj' hgone (xs := xs.set i x') (d := d1 && d2) (fp := (bss.set i (c1 ++ (b' ++ c3))).flatten) rfl rfl rfl hsz hwo
   (.inr ⟨cap, new, bss.set i (c1 ++ (b' ++ c3)), by rw [List.length_set]; exact g1, by rw [List.length_set]; exact g2, g3, hwk, hns.trans g5, hE, hmem, (fun hI => by
     rcases hI with hI | ⟨j, hj, h3, h4⟩
     · exact g8 hI
     · obtain ⟨_, _, _, _, _, h5⟩ := hgone j hj
       exact r.mem.dis j k _ _ (fun e => hkj' (e ▸ hj)) h5 hk h3 hlv h4.symm), fun _ => setAt_self⟩)
   (fun hd => by
     simp only [Bool.and_eq_true] at hd
     obtain ⟨rfl, rfl⟩ := hd
     obtain ⟨n1, n2⟩ := f3 rfl
     have hF := g9 rfl
     have hvk : ∀ b ∈ bss.flatten, Via g s'.l k b := fun b hb => ⟨α, E, e, xs, hk, .inr (by rw [hF]; exact hb)⟩
     have hfn : bss.flatten.Nodup := by rw [← hF]; exact (r.mem.fr k _ _ _ _ hk).1
     have hin : bss[i].Nodup := (List.pairwise_flatten.1 hfn).1 _ (List.getElem_mem hib)
     have hdj : ∀ c ∈ b', c ∉ bss.flatten := fun c hcb h3 => by
       obtain ⟨j, hj, hvj⟩ := n2 c hcb
       exact hkj' ((hvk c h3).disj r.mem hvj ▸ hj)
     have hnn : (c1 ++ (b' ++ c3)).Nodup := by
       rw [ec, ec2] at hin
       have h1 := List.nodup_append.1 hin
       have h2 := List.nodup_append.1 h1.2.1
       refine List.nodup_append.2 ⟨h1.1, List.nodup_append.2 ⟨n1, h2.2.1, fun x hx y hy e => ?_⟩, fun x hx y hy e => ?_⟩
       · subst e; exact hdj x hx (hold x (hc3 x hy))
       · subst e
         rcases List.mem_append.1 hy with hy | hy
         · exact hdj x hy (hold x (hc1 x hx))
         · exact h1.2.2 x hx x (List.mem_append_right _ hy) rfl
     refine ⟨nodup_set hnn bss i hib hfn (fun c hcb => by
       rcases hbn c hcb with h3 | h3
       · exact .inr (hdj c h3)
       · exact .inl h3), fun b hb => ⟨hmem b hb, ?_, ?_⟩⟩
     · rcases D3 bss hib b hb with h3 | h3
       · rcases hbn b h3 with h4 | h4
         · obtain ⟨j, hj, hvj⟩ := n2 b h4
           obtain ⟨c, t, h5⟩ := hvj.cells r.mem
           exact ⟨c, t, by rw [hwo b (hbk b h3)]; exact h5⟩
         · obtain ⟨c, t, h5⟩ := (hvk b (hold b h4)).cells r.mem
           exact ⟨c, t, by rw [hwo b (hbk b h3)]; exact h5⟩
       · obtain ⟨c, t, h4⟩ := (hvk b h3).cells r.mem
         exact ⟨c, t, by rw [hwo b fun eq => g8 (eq ▸ g7 b h3)]; exact h4⟩
     · rcases D3 bss hib b hb with h3 | h3
       · rcases hbn b h3 with h4 | h4
         · exact .inr (n2 b h4)
         · exact .inl ⟨rfl, by rw [hF]; exact hold b h4⟩
       · exact .inl ⟨rfl, by rw [hF]; exact h3⟩)
 unfold Oper.wp
 have hrun : (execOp a.eval ⟨none, .store T x y, ty, pos, after, gd⟩).run P w = .ok .skip (w.setRow (g.ρ k) new) := by
   unfold sizeT at hT
   split at hT
   · rename_i ti hti
     cases hT
     simp only [execOp, Instr.storeAt, ha, Instr.sureAddr, storeVar, sizeOf, typeInfo, Sem.run_bind, Sem.run_pure, program, Sem.run, hti, Result.andThen_ok, hlen, ne_eq, not_true_eq_false, if_false]
     rw [hst]; rfl
   · cases hT
 rw [hrun, Oper.upon_skip]
 exact ⟨g', r.next0 q5 q6 (Nat.le_of_eq hsz.symm) (fun j _ => q7 j) q3, q4 K⟩
end ops
end Go.Proofs.YtkemjhlbokldhaaGreat

namespace Go.Proofs.YtkemjhlbokldhaaGreat
open Go.RowKit
set_option linter.unusedVariables false

theorem CFR.lt {w : World} {v : Value} {c : Cell} {b : List Nat} (h : CFR w v c b) : ∀ i ∈ b, i < w.heap.size := by
 cases c with
 | c u => intro i hi; rw [h.2.2] at hi; cases hi
 | sl e xs => obtain ⟨a, n, cap, _, h2⟩ := h; exact h2.lt
 | rx e x vs b j => obtain ⟨_, h2, rfl⟩ := h; exact e.lt h2
 | en e x => exact e.lt h.2
 | _ => exact h.elim
theorem FR.lt {w : World} : ∀ {vs : List Value} {cs : List Cell} {b : List Nat}, FR w vs cs b → ∀ i ∈ b, i < w.heap.size
 | [], [], b, h, i, hi => by
   have : b = [] := h
   subst this; cases hi
 | v :: vs, c :: cs, b, h, i, hi => by
   obtain ⟨b1, b2, rfl, h1, h2⟩ := h
   rcases List.mem_append.1 hi with hi | hi
   · exact CFR.lt h1 i hi
   · exact FR.lt h2 i hi
def frE {α : Type} (n : Nat) (f : α → List Cell) (hn : ∀ x, (f x).length = n) : Enc α where
 size := n
 rep := fun w cs x bs => FR w cs (f x) bs
 len := fun h => h.length.trans (hn _)
 keep := fun h hk hs => h.keep hk hs
 lt := fun h => h.lt
instance {α : Type} {n : Nat} {f : α → List Cell} {hn : ∀ x, (f x).length = n} : CellsOf (frE n f hn) f := ⟨Iff.rfl⟩
def exactE : Enc Value where
 size := 1
 rep := fun _ cs x bs => cs = [x] ∧ bs = []
 len := fun h => by rw [h.1]; rfl
 keep := fun h _ _ => h
 lt := fun h => by rw [h.2]; intro b hb; cases hb
def Fg {α : Type} (T : TypeId) (e : Enc α) : Enc (List α) where
 size := 1
 rep := fun w cs xs bs => ∃ a cap, cs = [.slice a xs.length cap] ∧ ((a = none ∧ xs = [] ∧ cap = 0 ∧ bs = []) ∨ ∃ g vs bss, a = some ⟨g, 0, none⟩ ∧ xs.length ≤ cap ∧ cap ≤ maxLen ∧ w.heap[g]? = some (.cells vs T (0, 0)) ∧ vs.size = cap * e.size ∧ Elems e w g 0 xs bss ∧ bs = g :: bss.flatten)
 len := by rintro w cs xs bs ⟨a, cap, rfl, _⟩; rfl
 keep := by
   rintro w w' cs xs bs ⟨a, cap, rfl, h⟩ hk hs
   refine ⟨a, cap, rfl, ?_⟩
   rcases h with h | ⟨g, vs, bss, h1, h2, h3, h4, h5, h6, rfl⟩
   · exact .inl h
   · have hg := hk g (List.mem_cons_self ..)
     exact .inr ⟨g, vs, bss, h1, h2, h3, hg.trans h4, h5, h6.keep hg (fun b hb => hk b (List.mem_cons_of_mem _ hb)) hs, rfl⟩
 lt := by
   rintro w cs xs bs ⟨a, cap, rfl, h⟩ b hb
   rcases h with ⟨_, _, _, rfl⟩ | ⟨g, vs, bss, h1, h2, h3, h4, h5, h6, rfl⟩
   · cases hb
   · rcases List.mem_cons.1 hb with rfl | hb
     · exact (Array.getElem?_eq_some_iff.1 h4).1
     · obtain ⟨l, hl, hbl⟩ := List.mem_flatten.1 hb
       obtain ⟨i, hi, rfl⟩ := List.getElem_of_mem hl
       have hi' : i < xs.length := by rw [← h6.1]; exact hi
       obtain ⟨cs, h7, _⟩ := h6.2 i xs[i] bss[i] (List.getElem?_eq_getElem hi') (List.getElem?_eq_getElem hi)
       exact e.lt h7 b hbl
instance {α : Type} {T : TypeId} {e : Enc α} : CellsOf (Fg T e) (fun xs => [.en (Fg T e) xs]) := ⟨fun {w vs x b} => by
 constructor
 · intro h
   obtain ⟨a, cap, rfl, h2⟩ := h
   exact ⟨b, [], by simp, ⟨rfl, a, cap, rfl, h2⟩, rfl⟩
 · intro h
   match vs, h with
   | [v], ⟨b1, b2, e1, ⟨_, h2⟩, e2⟩ =>
     have : b2 = [] := e2
     subst this
     rw [e1, List.append_nil]; exact h2
   | v :: u :: vs, ⟨b1, b2, e1, _, h2⟩ => exact h2.elim⟩
theorem tight_slice {α : Type} {T : TypeId} {e : Enc α} {w : World} {v : Value} {xs : List α} {bs : List Nat} (h : (Fg T e).rep w [v] xs bs) : ∃ a n cap bs', v = .slice a n cap ∧ SliceRep e w a n cap xs bs' ∧ ∀ b ∈ bs', b ∈ bs := by
 obtain ⟨a, cap, h0, h⟩ := h
 have hv : v = .slice a xs.length cap := by simpa using h0
 rcases h with ⟨rfl, rfl, rfl, rfl⟩ | ⟨g, vs, bss, rfl, h2, h3, h4, h5, h6, rfl⟩
 · exact ⟨none, 0, 0, [], hv, ⟨rfl, Nat.le_refl _, by unfold maxLen; omega, fun _ => rfl, .inl ⟨rfl, rfl⟩⟩, fun _ h => h⟩
 · by_cases hx : xs = []
   · subst hx
     exact ⟨_, _, cap, [], hv, ⟨rfl, h2, h3, (fun h => by cases h), .inl ⟨rfl, rfl⟩⟩, fun _ hb => by cases hb⟩
   · exact ⟨_, _, cap, g :: bss.flatten, hv, SliceRep.mk rfl h2 h3 hx (Array.getElem?_eq_some_iff.1 h4).1 h6, fun _ h => h⟩
theorem CLe.rxs {α : Type} {e : Enc α} {xs : List α} {v : Value} {bl : List Nat} : CLe (.rx (Fh e) xs [v] bl 0) (.sl e xs) := fun g l w u h => by
 obtain ⟨⟨h1, _⟩, ⟨a, n, cap, h2, h3⟩, h4⟩ := h
 have e1 : v = u := by simpa using h1
 have e2 : v = .slice a n cap := by simpa using h2
 exact ⟨a, n, cap, bl, e1.symm.trans e2, h3, h4⟩
def ruleQC (x : Rulet) : List Cell := [.c (.int .i64 x.kind), .c (.string x.head.name), .en (Fg 46 Bx) x.head.args, .en (Fg 48 DI) x.body]
def ruleQ : Enc Rulet := frE 4 ruleQC (fun _ => rfl)
instance : CellsOf ruleQ ruleQC := ⟨Iff.rfl⟩
def holeC {α : Type} (e : Enc α) (xs : List α) : Option Value → Cell
 | none => .sl e xs
 | some V => .en exactE V
def H4 (x : Rulet × Option Value × Option Value) : List Cell := [.c (.int .i64 x.1.kind), .c (.string x.1.head.name), holeC Bx x.1.head.args x.2.1, holeC DI x.1.body x.2.2]
def ruleH : Enc (Rulet × Option Value × Option Value) := frE 4 H4 (fun _ => rfl)
instance : CellsOf ruleH H4 := ⟨Iff.rfl⟩
theorem Elems.conv {α β : Type} {e : Enc α} {e' : Enc β} {w : World} {g off : Nat} {xs : List α} {ys : List β} {bss : List (List Nat)} {R : Nat → List Nat → Prop} (hsz : e'.size = e.size) (h : Elems e w g off xs bss) (hl : ys.length = xs.length)
   (hR : ∀ (j : Nat) (x : α) (y : β) (b : List Nat), xs[j]? = some x → ys[j]? = some y → bss[j]? = some b → ∀ cs, e.rep w cs x b → ∃ b', e'.rep w cs y b' ∧ R j b') :
   ∃ bss', Elems e' w g off ys bss' ∧ ∀ j b', bss'[j]? = some b' → R j b' := by
 have one : ∀ j : Fin ys.length, ∃ b', R j b' ∧ ∃ cs, e'.rep w cs ys[j] b' ∧ ∀ i u, cs[i]? = some u → w.cell? ⟨g, off + j * e.size + i, none⟩ = some u := fun j => by
   have hj : j.1 < xs.length := hl ▸ j.2
   have hb : j.1 < bss.length := h.1 ▸ hj
   obtain ⟨cs, h1, h2⟩ := h.2 j.1 xs[j.1] bss[j.1] (List.getElem?_eq_getElem hj) (List.getElem?_eq_getElem hb)
   obtain ⟨b', h3, h4⟩ := hR j.1 _ ys[j.1] _ (List.getElem?_eq_getElem hj) (List.getElem?_eq_getElem j.2) (List.getElem?_eq_getElem hb) cs h1
   exact ⟨b', h4, cs, h3, h2⟩
 refine ⟨List.ofFn fun j => Classical.choose (one j), ⟨by simp, fun i y b hy hb => ?_⟩, fun j b' hb => ?_⟩
 · have hi := (List.getElem?_eq_some_iff.1 hy).1
   rw [List.getElem?_ofFn] at hb
   simp only [hi, dif_pos, Option.some.injEq] at hb
   obtain ⟨cs, h1, h2⟩ := (Classical.choose_spec (one ⟨i, hi⟩)).2
   rw [hb] at h1
   have e1 : ys[i] = y := by rw [List.getElem?_eq_getElem hi] at hy; exact Option.some.inj hy
   refine ⟨cs, e1 ▸ h1, fun j u hu => by rw [hsz]; exact h2 j u hu⟩
 · rw [List.getElem?_ofFn] at hb
   split at hb
   · rename_i hj
     cases hb
     exact (Classical.choose_spec (one ⟨j, hj⟩)).1
   · cases hb
def mvT (l : Locs) : List Cell → Option (List Cell × List Nat)
 | [] => some ([], [])
 | c :: cs => match mvT l cs with
   | none => none
   | some (ds, js) => match c with
     | .c v => some (.c v :: ds, js)
     | .own j => match lkl l j with
       | some (.arr T e xs true) => some (.en (Fg T e) xs :: ds, j :: js)
       | _ => none
     | _ => none
theorem ArrR.tight {α : Type} {g : Gh} {w : World} {k : Nat} {T : TypeId} {e : Enc α} {xs : List α} (h : ArrR g w k T e xs true) : (g.hd k).oneCell' = true ∧ ∃ bs, (Fg T e).rep w [g.hd k] xs bs ∧ (bs = [] ∨ (g.hd k ≠ .slice none 0 0 ∧ bs = g.ρ k :: g.F k)) ∧ ∀ b ∈ bs, g.I b ∨ (g.hd k ≠ .slice none 0 0 ∧ b = g.ρ k) := by
 rcases h with ⟨rfl, h1, h2⟩ | ⟨cap, vs, bss, h1, h2, h3, h4, h5, h6, h7, h8, h9⟩
 · exact ⟨by rw [h1]; rfl, [], ⟨none, 0, by rw [h1]; rfl, .inl ⟨rfl, rfl, rfl, rfl⟩⟩, .inl rfl, fun _ hb => by cases hb⟩
 · have hne : g.hd k ≠ .slice none 0 0 := by rw [h1]; intro e; cases e
   refine ⟨by rw [h1]; rfl, g.ρ k :: bss.flatten, ⟨_, cap, by rw [h1], .inr ⟨g.ρ k, vs, bss, rfl, h2, h3, h4, h5, h6, rfl⟩⟩, .inr ⟨hne, by rw [h9 rfl]⟩, fun b hb => ?_⟩
   rcases List.mem_cons.1 hb with rfl | hb
   · exact .inr ⟨hne, rfl⟩
   · exact .inl (h7 b hb)
theorem mvT_ok {g : Gh} {l : Locs} {w : World} (m : MemR g l w) : ∀ {vs : List Value} {cs ds : List Cell} {js : List Nat}, All2 (CellR g l w) vs cs → mvT l cs = some (ds, js) → js.Nodup →
   ∃ bs, FR w vs ds bs ∧ (∀ b ∈ bs, g.I b ∨ Im g js b) ∧ (bs.Nodup ∧ ∀ b ∈ bs, ∃ j ∈ js, Via g l j b)
 | [], [], ds, js, _, h, _ => by
   simp only [mvT, Option.some.injEq, Prod.mk.injEq] at h
   obtain ⟨rfl, rfl⟩ := h
   exact ⟨[], rfl, fun _ hb => (by cases hb), List.nodup_nil, fun _ hb => by cases hb⟩
 | v :: vs, c :: cs, ds, js, hA, h, hn => by
   simp only [mvT] at h
   split at h
   · cases h
   · rename_i ds1 js1 h1
     cases c with
     | c u =>
       simp only [Option.some.injEq, Prod.mk.injEq] at h
       obtain ⟨rfl, rfl⟩ := h
       obtain ⟨bs, f1, f2, f3⟩ := mvT_ok m hA.2 h1 hn
       exact ⟨bs, ⟨[], bs, rfl, ⟨hA.1.1, hA.1.2, rfl⟩, f1⟩, f2, f3⟩
     | own j =>
       simp only at h
       split at h
       · rename_i T e xs hj
         simp only [Option.some.injEq, Prod.mk.injEq] at h
         obtain ⟨rfl, rfl⟩ := h
         have hn' := List.nodup_cons.1 hn
         obtain ⟨bs, f1, f2, n1, n2⟩ := mvT_ok m hA.2 h1 hn'.2
         have hv : v = g.hd j := hA.1 _ _ _ _ _ hj
         obtain ⟨g1, b1, g2, g4, g3⟩ := (m.arr j _ _ _ _ _ hj).tight
         have hvia : ∀ b ∈ b1, Via g l j b := fun b hb => by
           rcases g4 with rfl | ⟨g5, rfl⟩
           · cases hb
           · rcases List.mem_cons.1 hb with rfl | hb
             · exact ⟨_, T, e, xs, hj, .inl ⟨g5, rfl⟩⟩
             · exact ⟨_, T, e, xs, hj, .inr hb⟩
         have hnd : b1.Nodup := by
           rcases g4 with rfl | ⟨g5, rfl⟩
           · exact List.nodup_nil
           · exact List.nodup_cons.2 ⟨fun hm => m.notI hj g5 ((m.fr j _ T e xs hj).2 _ hm).1, (m.fr j _ T e xs hj).1⟩
         refine ⟨b1 ++ bs, ⟨b1, bs, rfl, ⟨by rw [hv]; exact g1, by rw [hv]; exact g2⟩, f1⟩, fun b hb => ?_, List.nodup_append.2 ⟨hnd, n1, fun x hx y hy exy => ?_⟩, fun b hb => ?_⟩
         · rcases List.mem_append.1 hb with hb | hb
           · rcases g3 b hb with h | ⟨h, h'⟩
             · exact .inl h
             · exact .inr ⟨j, List.mem_cons_self .., h, h'⟩
           · rcases f2 b hb with h | ⟨i, h, h'⟩
             · exact .inl h
             · exact .inr ⟨i, List.mem_cons_of_mem _ h, h'⟩
         · subst exy
           obtain ⟨i, hi, hvi⟩ := n2 x hy
           exact hn'.1 ((hvia x hx).disj m hvi ▸ hi)
         · rcases List.mem_append.1 hb with hb | hb
           · exact ⟨j, List.mem_cons_self .., hvia b hb⟩
           · obtain ⟨i, hi, hvi⟩ := n2 b hb
             exact ⟨i, List.mem_cons_of_mem _ hi, hvi⟩
       · cases h
     | _ => cases h
theorem mvT_of {l l' : Locs} : ∀ {cs : List Cell} {r : List Cell × List Nat}, mvT l cs = some r → (∀ p ∈ rlC l cs, lkl l' p.1 = some p.2) → mvT l' cs = some r
 | [], r, h, _ => h
 | c :: cs, r, h, hp => by
   have hp' : ∀ p ∈ rlC l cs, lkl l' p.1 = some p.2 := fun p hm => hp p (by
     unfold rlC at hm ⊢
     rw [List.flatMap_cons, List.filterMap_append]
     exact List.mem_append_right _ hm)
   simp only [mvT] at h ⊢
   split at h
   · cases h
   · rename_i ds js h1
     rw [mvT_of h1 hp']
     cases c with
     | own j =>
       simp only at h ⊢
       split at h
       · rename_i T e xs hj
         rw [HY hp (List.mem_cons_self ..) (by simp [Cell.ids]) hj]
         exact h
       · cases h
     | _ => exact h
theorem Ik {l : Locs} : ∀ {cs : List Cell} {ds : List Cell} {js : List Nat}, mvT l cs = some (ds, js) → ∀ j ∈ js, (∃ (α : Type) (T : TypeId) (e : Enc α) (xs : List α) (q : Bool), lkl l j = some (.arr T e xs q)) ∧ j ∈ cs.flatMap Cell.ids
 | [], ds, js, h, j, hj => by
   simp only [mvT, Option.some.injEq, Prod.mk.injEq] at h
   obtain ⟨_, rfl⟩ := h
   cases hj
 | c :: cs, ds, js, h, j, hj => by
   have up : ∀ {i : Nat}, i ∈ cs.flatMap Cell.ids → i ∈ (c :: cs).flatMap Cell.ids := fun hi => by rw [List.flatMap_cons]; exact List.mem_append_right _ hi
   simp only [mvT] at h
   split at h
   · cases h
   · rename_i ds1 js1 h1
     cases c with
     | c u =>
       simp only [Option.some.injEq, Prod.mk.injEq] at h
       obtain ⟨_, rfl⟩ := h
       exact ⟨(Ik h1 j hj).1, up (Ik h1 j hj).2⟩
     | own i =>
       simp only at h
       split at h
       · rename_i T e xs hi
         simp only [Option.some.injEq, Prod.mk.injEq] at h
         obtain ⟨_, rfl⟩ := h
         rcases List.mem_cons.1 hj with rfl | hj
         · exact ⟨⟨_, T, e, xs, true, hi⟩, by rw [List.flatMap_cons]; exact List.mem_append_left _ (by simp [Cell.ids])⟩
         · exact ⟨(Ik h1 j hj).1, up (Ik h1 j hj).2⟩
       · cases h
     | _ => cases h
section ops
variable {P : Program} {N : Nat} {s : St} {d : Nat} {ty : TypeId} {pos : String} {after : Array Edge} {gd : Option (Nat × Bool)}
theorem x_bsliceT {α : Type} {e : Enc α} {f : α → List Cell} [hc : CellsOf e f] {T E n b len : Nat} (ops : List Operand) {parts : Array (Nat × Operand)} {Xs : List AVal} (xs : List α) {ds : List Cell} {js : List Nat} (k : Nat) (hN : Nat.blt d N = true)
   (hparts : parts = ((ops.zipIdx 0).map fun x => (x.2, x.1)).toArray) (hev : evl s.t ops = some Xs) (hfl : DC Xs = true) (hsol : (Xs.flatMap AVal.cells).all (Dm s.l) = true)
   (hT : arrT P T = some (E, n, b)) (hlen : ops.length = len) (hsz : Xs.all (fun X => Nat.beq X.cells.length n) = true) (hes : e.size = n)
   (hmv : mvT s.l (Xs.flatMap AVal.cells) = some (ds, js)) (hfit : FitL ds (xs.flatMap f)) (hnd : Ja js = true) (hxs : xs.length = len) (hpos : Nat.blt 0 len = true) (hsmall : Nat.ble (len * n) 16777216 = true)
   (hk : lk s.l k = none) (hi : FZ k s.ids = true) :
   Stp P N ⟨some d, .buildSlice T len parts, ty, pos, after, gd⟩ s ⟨(d, .one (.own k)) :: s.t, (k, some (.arr E e xs true)) :: (C9 js ++ s.l)⟩ ⟨rdl s.t ops, rlC s.l (Xs.flatMap AVal.cells), [(d, .one (.own k))], (k, some (.arr E e xs true)) :: C9 js, [k]⟩ := by
 refine ⟨fun K g s' a w hp r => ?_, ⟨(EG (N := N) hev).1, Fy, fun j hj => by simp at hj; subst hj; exact ⟨hk, Er hi⟩⟩, by simp [Cert.upd]⟩
 obtain ⟨p1, p2, p3⟩ := hp
 have hvs := (EG hev).2 r p1
 have hs' : (Xs.flatMap AVal.cells).all (Dm s'.l) = true := List.all_eq_true.2 fun x hx => GK p2 hx (List.all_eq_true.1 hsol x hx)
 have hmv' := mvT_of hmv p2
 obtain ⟨n1, n2⟩ := p3 k (by simp)
 obtain ⟨hu, hn0, ti, z, hti, hz, hzs, htis, htib⟩ := IS hT
 have hA := vr1s_cells hs' r.mem hvs hfl
 have hS := vr1s_size hs' r.mem hvs hfl hsz
 have hjn := noDup_of hnd
 obtain ⟨bs, f1, f2, f3⟩ := mvT_ok r.mem hA hmv' hjn
 replace f1 := f1.fit hfit
 have hln : (ops.map a.eval).length = len := by simpa using hlen
 have hpos' : 0 < len := DJ hpos
 have hsm' : len * n ≤ 16777216 := Nat.le_of_ble_eq_true hsmall
 have hfill := Great.fill_whole (s := n) hn0 (ops.map a.eval) ((Array.range (len * n)).map (z.cells[· % z.cells.size]!)) hS (by rw [hln]; simp)
 have hrun := run_buildSlice (P := P) w T E len (parts.map fun (i, x) => (i, a.eval x)) _ ti z hu hti hz (by rw [htis]; omega) (by rw [htis]; have := Nat.mul_pos hpos' hn0; omega) (by
   rw [htis, hparts]
   have : (((ops.zipIdx 0).map fun x => (x.2, x.1)).toArray.map fun (x : Nat × Operand) => (x.1, a.eval x.2)).toList = ((ops.map a.eval).zipIdx 0).map fun x => (x.2, x.1) := by
     simp [List.zipIdx_map, Function.comp_def]
   exact (congrArg _ this).trans hfill)
 generalize hflat : ((ops.map a.eval).flatMap fun v => v.cells.toList) = flat at *
 have hfl2 : flat.length = len * n := by rw [FR.rows (e := e) f1, hxs, hes]
 have hrow : (w.alloc (.cells flat.toArray E)).ownsRow 0 E e.size (.slice (some ⟨w.heap.size, 0, none⟩) len len) xs.length flat :=
   ⟨by rw [hfl2, hxs, hes], .inr ⟨w.heap.size, len, flat.toArray, by rw [hxs], Nat.zero_le _, heap_alloc_new w _, by rw [hxs]; exact Nat.le_refl _, by
     have : len ≤ len * n := Nat.le_mul_of_pos_right _ hn0
     unfold maxLen; omega, by simp [hfl2, hes], by rw [hxs, hes, ← hfl2]; simp⟩⟩
 have hgone : ∀ j ∈ js, ∃ (α : Type) (T : TypeId) (e : Enc α) (xs : List α) (d : Bool), lkl s'.l j = some (.arr T e xs d) := fun j hj => (Ik hmv' j hj).1
 have hkeep : ∀ b, b < w.heap.size → (w.alloc (.cells flat.toArray E)).heap[b]? = w.heap[b]? := fun b hb => Below.heap_alloc w _ b hb
 have hbl : ∀ b ∈ bs, b < w.heap.size := fun b hb => by
   rcases f2 b hb with h | ⟨j, hj, h1, h2⟩
   · exact r.mem.ilt b h
   · obtain ⟨_, _, _, _, _, h3⟩ := hgone j hj
     rw [h2]; exact r.mem.lt h3 h1
 have hkl : lkl s'.l k = none := by unfold lkl; rw [n1]
 obtain ⟨g', q1, q2, q3, q4, q5, q6, q7⟩ := arr_new (w' := w.alloc (.cells flat.toArray E)) r.mem n1 (fun h => n2 (List.mem_append_right _ h)) (js := js) (fz := js) (fun _ h => h) hgone (T := E) (e := e) (xs := xs) (d := true) (blk := w.heap.size) (v := .slice (some ⟨w.heap.size, 0, none⟩) len len) (fp := bs)
   rfl rfl rfl (by simp) (fun b hb _ => hkeep b hb)
   (ArrR.lay hrow (f1.keep (fun b hb => hkeep b (hbl b hb)) (by simp)) f2 (fun b hb => by
     simp [Value.ownBlock] at hb
     subst hb
     refine ⟨rfl, fun hI => ?_⟩
     rcases hI with hI | ⟨j, hj, h1, h2⟩
     · have := r.mem.ilt _ hI; omega
     · obtain ⟨_, _, _, _, _, h3⟩ := hgone j hj
       have := r.mem.lt h3 h1; omega))
   (fun _ => ⟨by simp, .inl (Nat.le_refl _)⟩)
   (fun _ => ⟨f3.1, fun b hb => ⟨f2 b hb, by
     obtain ⟨j, hj, hv⟩ := f3.2 b hb
     obtain ⟨c, t, h⟩ := hv.cells r.mem
     exact ⟨c, t, by rw [hkeep b (hbl b hb)]; exact h⟩, f3.2 b hb⟩⟩)
 unfold Oper.wp
 have hrun' : (execOp a.eval ⟨some d, .buildSlice T len parts, ty, pos, after, gd⟩).run P w = .ok (.value (.slice (some ⟨w.heap.size, 0, none⟩) len len)) (w.alloc (.cells flat.toArray E)) := by
   simp only [execOp, Sem.run_bind, hrun, Result.andThen_ok]; rfl
 rw [hrun', Oper.upon_value]
 refine ⟨g', r.next (DJ hN) q5 q6 (by simp) (fun j hj => q7 j fun e => n2 (e ▸ hj)) (fun β U e2 ys dd hc => ?_) q3, q4 K⟩
 exact q2.symm
theorem Hg {α : Type} {e : Enc α} {f : α → List Cell} [hc : CellsOf e f] {T E len : Nat} (ops : List Operand) {parts : Array (Nat × Operand)} {Xs : List AVal} (xs : List α) {ds : List Cell} {js : List Nat} (k : Nat) (hN : Nat.blt d N = true)
   (hparts : parts = ((ops.zipIdx 0).map fun x => (x.2, x.1)).toArray) (hev : evl s.t ops = some Xs) (hfl : DC Xs = true) (hsol : (Xs.flatMap AVal.cells).all (Dm s.l) = true)
   (hlen : ops.length = len) (hsz : Xs.all (fun X => Nat.beq X.cells.length e.size) = true)
   (hmv : mvT s.l (Xs.flatMap AVal.cells) = some (ds, js)) (hfit : FitL ds (xs.flatMap f)) (hnd : Ja js = true) (hxs : xs.length = len) (hpos : Nat.blt 0 len = true) (hsmall : Nat.ble (len * e.size) 16777216 = true)
   (hk : lk s.l k = none) (hi : FZ k s.ids = true) (hT : arrOk P T E e.size = true) :
   Stp P N ⟨some d, .buildSlice T len parts, ty, pos, after, gd⟩ s ⟨(d, .one (.own k)) :: s.t, (k, some (.arr E e xs true)) :: (C9 js ++ s.l)⟩ ⟨rdl s.t ops, rlC s.l (Xs.flatMap AVal.cells), [(d, .one (.own k))], (k, some (.arr E e xs true)) :: C9 js, [k]⟩ := by
 obtain ⟨b, h3, h4⟩ := HM hT
 exact x_bsliceT ops xs k hN hparts hev hfl hsol h3 hlen hsz rfl hmv hfit hnd hxs hpos hsmall hk hi
theorem x_load1w {T : TypeId} {x : Operand} {k off : Nat} {cs : List Cell} {y y' : Cell} (hN : Nat.blt d N = true) (h : evo s.t x = some (.one (.ptr k off))) (hl : lkl s.l k = some (.box cs)) (hT : Fk P T = some none) (hy : Jj cs off = some y) (hc : CLe y y') :
   Stp P N ⟨some d, .load T x, ty, pos, after, gd⟩ s ⟨(d, .one y') :: s.t, s.l⟩ ⟨rdo x (.one (.ptr k off)), [(k, .box cs)], [(d, .one y')], [], []⟩ :=
 Stp.pure rfl hN (Cg h) (by simpa using hl) fun g s' a w ht hl' r => by
   have hk : lkl s'.l k = some (.box cs) := hl' (k, .box cs) (by simp)
   have hv : a.eval x = .pointer (some ⟨g.ρ k, off, none⟩) := B4 r (BC h) ht cs hk
   obtain ⟨v, h1, h2⟩ := box_load r.mem hk (E9 hy)
   exact ⟨v, by simp only [execOp, Instr.loadAt, hv, Instr.sureAddr, Sem.run_bind, Sem.run_pure, Result.andThen_ok, Fm hT h1], hc _ _ _ _ h2⟩
theorem Gm {α β : Type} {e : Enc α} {f : α → List Cell} [hc : CellsOf e f] {T E TK k i off tx K : Nat} {x : Operand} {xs : List α} {dp dK : Bool} {eK : Enc β} {zs : List β} {V : Value} (hN : Nat.blt d N = true) (h : evo s.t x = some (.one (.optr k i off))) (hl : lkl s.l k = some (.arr E e xs dp)) (hT : Fk P T = some none) (hi : i < xs.length) (hy : Jj (f xs[i]) off = some (.en exactE V))
   (htx : lk s.t tx = some (.one (.hd K V))) (hK : lkl s.l K = some (.arr TK eK zs dK)) :
   Stp P N ⟨some d, .load T x, ty, pos, after, gd⟩ s ⟨(d, .one (.own K)) :: s.t, s.l⟩ ⟨rdo x (.one (.optr k i off)) ++ [(tx, .one (.hd K V))], [(k, .arr E e xs dp), (K, .arr TK eK zs dK)], [(d, .one (.own K))], [], []⟩ :=
 Stp.pure rfl hN (fun p hp => by
   rcases List.mem_append.1 hp with hp | hp
   · exact Cg h p hp
   · simp at hp; subst hp; exact htx) (fun p hp => by
   rcases List.mem_cons.1 hp with rfl | hp
   · exact hl
   · simp at hp; subst hp; exact hK) fun g s' a w ht hl' r => by
   have hk : lkl s'.l k = some (.arr E e xs dp) := hl' (k, .arr E e xs dp) (by simp)
   have hK' : lkl s'.l K = some (.arr TK eK zs dK) := hl' (K, .arr TK eK zs dK) (by simp)
   have hv : a.eval x = .pointer (some ⟨g.ρ k, i * e.size + off, none⟩) := B4 r (BC h) (fun p hp => ht p (List.mem_append_left _ hp)) _ _ _ _ _ hk
   obtain ⟨cs, h2, h3⟩ := op_cells r.mem hk hi
   obtain ⟨v, h4, h5⟩ := h2.get (E9 hy)
   have hV : g.hd K = V := (r.tmp tx _ (ht (tx, .one (.hd K V)) (List.mem_append_right _ (by simp))) : CellR g s'.l w _ (.hd K V)) _ _ _ _ _ hK'
   obtain ⟨b, _, h6, _⟩ : ∃ b, v.oneCell' = true ∧ exactE.rep w [v] V b ∧ ∀ i ∈ b, g.I i := h5
   have hvV : v = V := by simpa using h6.1
   exact ⟨v, by simp only [execOp, Instr.loadAt, hv, Instr.sureAddr, Sem.run_bind, Sem.run_pure, Result.andThen_ok, Fm hT (h3 off v h4)], fun γ U e2 ys d2 h7 => hvV.trans hV.symm⟩
end ops
end Go.Proofs.YtkemjhlbokldhaaGreat

namespace Go.Proofs.YtkemjhlbokldhaaGreat
open Go.RowKit
set_option linter.unusedVariables false
set_option linter.unusedSimpArgs false
set_option maxRecDepth 100000

set_option maxHeartbeats 4000000 in
theorem new_c (b : List Int) (hb : b.length ≤ 1048576) : AC Tryz.prog 8 [.one (.sl (intE .u8) b)] [] (.one (.ptr 200 0)) [(200, some (curB0 b (dNew b)))] := by
 refine Bn Tryz.func8 J J Tryz.ntmps8 J Tryz.results8 ?_
 refine Aa (Az (x_assign_any J) (Ad (Az (A0 J J) (Az (Ak 5 1 J J (by kernel_rfl)) (Az (Bl J J J (r := w64 (391785 + (b.length : Int))) J) (Az (A1 J J) (A2 (A8 (Aa (Az (A1 J J) (A2 (AZ ?_))))))))))))
 refine B8 (ι := {q : Nat // q ≤ min b.length 4000}) (fun p => [(3, .one (.c (.int .i64 (hashTo b (p.1))))), (4, .one (.c (.int .i64 (((p.1) : Int)))))]) (fun p => []) [0] [] (fun p => 4000 - (p.1)) ⟨0, by omega⟩ (rn []) ?_ ?_
 exact Ag (by repeat first | exact trivial | refine Ah J (by first | exact VLe.rf | exact A7 (by dsimp only; omega)) ?_) (by repeat first | exact trivial | refine Ai J (by first | exact BLe.rf | exact BLe.box AllC.rf | exact BLe.arr (by exact J)) ?_) J J
 rintro ⟨k, hinv⟩
 dsimp only
 have hk := hinv
 refine A8 (Aa (Az (A0 J J) (Az (A0 J J) (Az (Ak 5 1 J J (by kernel_rfl)) ?_))))
 refine Bd (BI J J J) (fun b11 h11 => ?_)
 refine Az (A0 J J) ?_
 cases b11
 · try simp only [tdy] at h11
   obtain rfl : k = min b.length 4000 := by omega
   refine A3 J J J J (A3 J J J J (Az (AD J J J) (A2 (Bc J ?_))))
   refine Br (B2 ?_)
   refine Aa (Az (A0 J J) (Az (A0 J J) (Az (Al [.slice none 0 0, .int .i64 0, .int .i64 0] [(0, 1), (1, 1), (2, 1)] J (by kernel_rfl) J J J J J) (Az (Dr 200 J J J J J J J) (Az (A1 J J) (Ae ?_))))))
   exact ⟨rn [], ⟨⟨⟨_, J, VLe.rf⟩, O⟩, ⟨⟨_, J, AE J⟩, O⟩, O, J⟩⟩
 try simp only [tdy] at h11
 refine AB J J (A0 J J) ?_
 refine Bh J J (BI J J J) (fun b14 h14 => ?_)
 refine Az (AJ J J J) (A2 ?_)
 cases b14
 · try simp only [tdy] at h14
   obtain rfl : k = min b.length 4000 := by omega
   refine Bc J ?_
   refine Br (B2 ?_)
   refine Aa (Az (A0 J J) (Az (A0 J J) (Az (Al [.slice none 0 0, .int .i64 0, .int .i64 0] [(0, 1), (1, 1), (2, 1)] J (by kernel_rfl) J J J J J) (Az (Dr 200 J J J J J J J) (Az (A1 J J) (Ae ?_))))))
   exact ⟨rn [], ⟨⟨⟨_, J, VLe.rf⟩, O⟩, ⟨⟨_, J, AE J⟩, O⟩, O, J⟩⟩
 try simp only [tdy] at h14
 refine A5 J (AP (A8 (AZ (AG (Az (A0 J J) (Az (x_mul J J J (r := w64 (hashTo b k * 131)) J) (Az (A0 J J) (Az (A0 J J) ?_))))))))
 refine Az (Am 5 1 k J J J (by kernel_rfl) J J (by omega)) ?_
 refine Az (BW J J (by kernel_rfl) J) ?_
 refine Az (x_conv (k' := .i64) J J (by kernel_rfl) (r := w64 (b.getD k 0)) (congrArg w64 (getD_int (by omega)))) ?_
 refine Az (Bl J J J (r := w64 (w64 (hashTo b k * 131) + w64 (b.getD k 0))) J) (Az (Bl J J J (r := w64 (w64 (w64 (hashTo b k * 131) + w64 (b.getD k 0)) + 7)) J) (Az (x_and J J J ) (Az (A1 J J) (A2 (AG (Az (A0 J J) ?_))))))
 refine Az (Bl J J J (IntWalk.i64_in _ (by omega))) ?_
 refine Az (A1 J J) (A2 ?_)
 refine ⟨⟨k + 1, by omega⟩, rn [], ?_, by dsimp only; omega⟩
 exact Ag (by repeat first | exact trivial | refine Ah J (by first | exact VLe.rf | exact A7 (by dsimp only; omega)) ?_) (by repeat first | exact trivial | refine Ai J (by first | exact BLe.rf | exact BLe.box AllC.rf | exact BLe.arr (by exact J)) ?_) J J

set_option maxHeartbeats 4000000 in
theorem byte_c [Old] (b : List Int) (c : Cur) (hb : b.length ≤ 1048576) : AC Tryz.prog 28 [.one (.ptr 200 0)] [(200, some (DD b c))] (.one (.c (.int .i64 ((Cw b c).1)))) [(200, some (DD b (Cw b c).2))] := by
 refine Bn Tryz.func28 J J Tryz.ntmps28 J Tryz.results28 ?_
 refine Aa (Az (A1 J J) (Ad (Az (A0 J J) (Az (A0 J J) (Az (AI J J J) (Az (Ao 2 2 J J J (by kernel_rfl) J) (Az (A4 J J J (by kernel_rfl) J) (Az (x_mul J J J (r := w64 (c.h * 6364136223846793005)) J) (Az (Bl J J J (r := F5 c.h) J) (Az (AI J J J) (Az (Ao 2 2 J J J (by kernel_rfl) J) (Az (Ap 1 J J J J (by kernel_rfl) J J J) (A2 (A8 (Bw J (Az (A0 J J) (Az (AI J J J) (Az (Ao 2 2 J J J (by kernel_rfl) J) (Az (A4 J J J (by kernel_rfl) J) ?_)))))))))))))))))))
 refine Az (x_shr J J J (r := (F5 c.h).fdiv (2 ^ 33)) (by decide) J (shr_33 _)) ?_
 refine Az (A0 J J) (Az (AI J J J) (Az (Ao 2 2 J J J (by kernel_rfl) J) (Az (A4 J J J (by kernel_rfl) J) ?_)))
 refine Az (x_shr J J J (r := (F5 c.h).fdiv (2 ^ 45)) (by decide) J (shr_45 _)) ?_
 refine Az (x_xor J J J ) (Az (x_and J J J ) (Az (A1 J J) (Bj (by kernel_rfl) ?_)))
 refine A8 (A8 (Bw J (Az (A0 J J) (Az (AI J J J) (Az (Ao 1 1 J J J (by kernel_rfl) J) (Az (A4 J J J (by kernel_rfl) J) (Az (A0 J J) (Az (AI J J J) (Az (Ao 0 0 J J J (by kernel_rfl) J) (Az (x_load1w J J J (by kernel_rfl) J CLe.rxs) (Az (Ak 5 1 J J (by kernel_rfl)) ?_)))))))))))
 refine Bd (BI J J J) (fun b34 h34 => ?_)
 refine Bj (by kernel_rfl) ?_
 cases b34
 · try simp only [tdy] at h34
   have hno := dByte_no (b := b) (c := c) (by omega)
   refine Ab J (Aa (Az (A0 J J) (Az (A1 J J) (Ae ?_))))
   exact ⟨rn [], ⟨⟨⟨_, J, A7 (by rw [hno]; first | done | rfl)⟩, O⟩, ⟨⟨_, J, by first | exact BLe.rf | exact AE (by rw [hno]; first | done | rfl)⟩, O⟩, Af J, J⟩⟩
 try simp only [tdy] at h34
 have hno := dByte_yes (b := b) (c := c) (by omega)
 refine Ac J (Bw J (Az (A0 J J) (Az (A0 J J) (Az (AI J J J) (Az (Ao 0 0 J J J (by kernel_rfl) J) (Az (x_load1w J J J (by kernel_rfl) J CLe.rxs) (Az (A0 J J) (Az (AI J J J) (Az (Ao 1 1 J J J (by kernel_rfl) J) (Az (A4 J J J (by kernel_rfl) J) ?_))))))))))
 refine Az (Am 5 1 c.i J J J (by kernel_rfl) J J (by omega)) ?_
 refine Az (BW J J (by kernel_rfl) J) ?_
 refine Az (x_conv (k' := .i64) J J (by kernel_rfl) (r := w64 (b.getD c.i 0)) (congrArg w64 (getD_int (by omega)))) ?_
 refine Az (Bl J J J (r := w64 (mixH (F5 c.h) + w64 (b.getD c.i 0))) J) (Az (x_and J J J ) (Az (A1 J J) (Bj (by kernel_rfl) ?_)))
 refine AG (Az (A0 J J) (Az (A0 J J) (Az (AI J J J) (Az (Ao 1 1 J J J (by kernel_rfl) J) (Az (A4 J J J (by kernel_rfl) J) ?_)))))
 refine Az (Bl J J J (IntWalk.i64_in _ (by omega))) ?_
 refine Az (AI J J J) (Az (Ao 1 1 J J J (by kernel_rfl) J) (Az (Ap 1 J J J J (by kernel_rfl) J J J) (Ad (Az (A0 J J) (Az (A1 J J) (Ae ?_))))))
 exact ⟨rn [], ⟨⟨⟨_, J, A7 (by rw [hno]; first | done | rfl)⟩, O⟩, ⟨⟨_, J, by first | exact BLe.rf | exact AE (by rw [hno]; first | done | rfl)⟩, O⟩, Af J, J⟩⟩

set_option maxHeartbeats 4000000 in
theorem C5 [Old] (b : List Int) (c : Cur) (hb : b.length ≤ 1048576) (n : Int) : AC Tryz.prog 10 [.one (.ptr 200 0), .one (.c (.int .i64 n))] [(200, some (DD b c))] (.one (.c (.int .i64 ((AY b c n).1)))) [(200, some (DD b (AY b c n).2))] := by
 refine Bn Tryz.func10 J J Tryz.ntmps10 J Tryz.results10 ?_
 refine Aa (Az (A1 J J) (A2 (A8 (Aa (Az (A0 J J) ?_)))))
 refine Bd (E3 J J J) (fun b10 h10 => ?_)
 refine A2 ?_
 cases b10
 rotate_left
 · try simp only [tdy] at h10
   have hno := dBelow_0 (b := b) (c := c) (n := n) (by omega)
   refine A5 J (Aa (Az (A1 J J) (Ae ?_)))
   exact ⟨rn [], ⟨⟨⟨_, J, A7 (by rw [hno]; first | done | rfl)⟩, O⟩, ⟨⟨_, J, by first | exact BLe.rf | exact AE (by rw [hno]; first | done | rfl)⟩, O⟩, Af J, J⟩⟩
 try simp only [tdy] at h10
 refine Ab J (A8 (Aa (Az (A0 J J) ?_)))
 refine Bd (E3 J J J) (fun b12 h12 => ?_)
 refine A2 ?_
 cases b12
 rotate_left
 · try simp only [tdy] at h12
   have hno := dBelow_1 (b := b) (c := c) (n := n) (by omega) (by omega)
   have hd1 := EH b c
   refine A5 J (Aa (Az (A0 J J) (Az (Aj J J J (byte_c b c hb) J J J J) (Az (A0 J J) ?_))))
   refine Az (x_rem J J J (by omega) J (rem_wf hd1.1 (by omega) (by omega))) ?_
   refine Az (A1 J J) (Ae ?_)
   exact ⟨rn [], ⟨⟨⟨_, J, A7 (by rw [hno]; first | done | rfl)⟩, O⟩, ⟨⟨_, J, by first | exact BLe.rf | exact AE (by rw [hno]; first | done | rfl)⟩, O⟩, Af J, J⟩⟩
 try simp only [tdy] at h12
 have hno := dBelow_2 (b := b) (c := c) (n := n) (by omega) (by omega)
 have hd2 := dFour_in b c
 have g1 := EH b c
 have g2 := EH b (Cw b c).2
 have g3 := EH b (Cw b (Cw b c).2).2
 have g4 := EH b (Cw b (Cw b (Cw b c).2).2).2
 refine Ab J (Aa (Az (A0 J J) (Az (Aj J J J (byte_c b c hb) J J J J) (Az (A1 J J) (Ad (Az (A0 J J) (Az (Aj J J J (byte_c b (Cw b c).2 hb) J J J J) (Az (A1 J J) (Ad (Az (A0 J J) (Az (Aj J J J (byte_c b (Cw b (Cw b c).2).2 hb) J J J J) (Az (A1 J J) (Ad (Az (A0 J J) (Az (Aj J J J (byte_c b (Cw b (Cw b (Cw b c).2).2).2 hb) J J J J) (Az (A1 J J) (Ad (Az (A0 J J) ?_))))))))))))))))))
 refine Az (x_mul J J J (IntWalk.i64_in _ (by omega))) ?_
 refine Az (A0 J J) ?_
 refine Az (x_mul J J J (IntWalk.i64_in _ (by omega))) ?_
 refine Az (Bl J J J (IntWalk.i64_in _ (by omega))) ?_
 refine Az (A0 J J) ?_
 refine Az (x_mul J J J (IntWalk.i64_in _ (by omega))) ?_
 refine Az (Bl J J J (IntWalk.i64_in _ (by omega))) ?_
 refine Az (A0 J J) ?_
 refine Az (Bl J J J (IntWalk.i64_in _ (by omega))) ?_
 refine Az (A0 J J) ?_
 refine Az (x_rem J J J (by omega) J (rem_wf (m := (dFour b c).1) hd2.1 (by omega) (by omega))) ?_
 refine Az (A1 J J) (Ae ?_)
 exact ⟨rn [], ⟨⟨⟨_, J, A7 (by rw [hno]; first | done | rfl)⟩, O⟩, ⟨⟨_, J, by first | exact BLe.rf | exact AE (by rw [hno]; first | done | rfl)⟩, O⟩, Af J, J⟩⟩

set_option maxHeartbeats 4000000 in
theorem pow_c (n : Int) (h0 : 0 ≤ n) (h1 : n ≤ 6) : AC Tryz.prog 57 [.one (.c (.int .i64 n))] [] (.one (.c (.int .i64 (256 ^ n.toNat)))) [] := by
 refine Bn Tryz.func57 J J Tryz.ntmps57 J Tryz.results57 ?_
 refine Aa (Az (A1 J J) (Ad (Az (A1 J J) (A2 (A8 (Aa (Az (A1 J J) (A2 (AZ ?_)))))))))
 refine B8 (ι := {q : Nat // (q : Int) ≤ n}) (fun p => [(3, .one (.c (.int .i64 (256 ^ (p.1))))), (4, .one (.c (.int .i64 (((p.1) : Int)))))]) (fun p => []) [0] [] (fun p => 7 - (p.1)) ⟨0, by omega⟩ (rn []) ?_ ?_
 exact Ag (by repeat first | exact trivial | refine Ah J (by first | exact VLe.rf | exact A7 (by dsimp only; omega)) ?_) (by repeat first | exact trivial | refine Ai J (by first | exact BLe.rf | exact BLe.box AllC.rf | exact BLe.arr (by exact J)) ?_) J J
 rintro ⟨k, hinv⟩
 dsimp only
 have hk := hinv
 refine A8 (Aa (Az (A0 J J) (Az (A0 J J) ?_)))
 refine Bd (BI J J J) (fun b7 h7 => ?_)
 refine A2 ?_
 cases b7
 · try simp only [tdy] at h7
   obtain rfl : k = n.toNat := by omega
   refine Bc J ?_
   refine Br (B2 ?_)
   refine Aa (Az (A0 J J) (Az (A1 J J) (Ae ?_)))
   exact ⟨rn [], ⟨⟨⟨_, J, A7 (J)⟩, O⟩, O, O, J⟩⟩
 try simp only [tdy] at h7
 refine A5 J (AP (A8 (AZ (AG (Az (A0 J J) ?_)))))
 refine Az (x_mul J J J (pow_step (by omega))) ?_
 refine Az (A1 J J) (A2 (AG (Az (A0 J J) ?_)))
 refine Az (Bl J J J (IntWalk.i64_in _ (by omega))) ?_
 refine Az (A1 J J) (A2 ?_)
 refine ⟨⟨k + 1, by omega⟩, rn [], ?_, by dsimp only; omega⟩
 exact Ag (by repeat first | exact trivial | refine Ah J (by first | exact VLe.rf | exact A7 (by dsimp only; omega)) ?_) (by repeat first | exact trivial | refine Ai J (by first | exact BLe.rf | exact BLe.box AllC.rf | exact BLe.arr (by exact J)) ?_) J J

set_option maxHeartbeats 4000000 in
theorem raw_c [Old] (b : List Int) (c : Cur) (hb : b.length ≤ 1048576) : AC Tryz.prog 27 [.one (.ptr 200 0)] [(200, some (DD b c))] (.one (.c (.int .i64 ((IL b c).1)))) [(200, some (DD b (IL b c).2))] := by
 refine Bn Tryz.func27 J J Tryz.ntmps27 J Tryz.results27 ?_
 refine Aa (Az (A1 J J) (Ad (Az (A0 J J) (Az (Aj J J J (C5 b c hb 12) J J J J) (Az (A1 J J) (A2 (A8 (Aa (Az (A0 J J) ?_)))))))))
 refine Bd (BI J J J) (fun b7 h7 => ?_)
 refine A2 ?_
 cases b7
 rotate_left
 · try simp only [tdy] at h7
   have hno : IL b c = _ := if_pos (by omega)
   refine A5 J (Aa (Az (A0 J J) (Az (Aj J J J (C5 b (AY b c 12).2 hb 12) J J J J) (Az (A1 J J) (Ae ?_)))))
   exact ⟨rn [], ⟨⟨⟨_, J, A7 (by rw [hno]; first | done | rfl)⟩, O⟩, ⟨⟨_, J, by first | exact BLe.rf | exact AE (by rw [hno]; first | done | rfl)⟩, O⟩, Af J, J⟩⟩
 try simp only [tdy] at h7
 refine Ab J (A8 (Aa (Az (A0 J J) ?_)))
 refine Bd (AR J J J) (fun b11 h11 => ?_)
 refine A2 ?_
 cases b11
 rotate_left
 · try simp only [tdy] at h11
   have hno : IL b c = _ := (if_neg (by omega)).trans (if_pos (by omega))
   refine A5 J (Aa (Az (A0 J J) (Az (Aj J J J (C5 b (AY b c 12).2 hb 256) J J J J) (Az (A1 J J) (Ae ?_)))))
   exact ⟨rn [], ⟨⟨⟨_, J, A7 (by rw [hno]; first | done | rfl)⟩, O⟩, ⟨⟨_, J, by first | exact BLe.rf | exact AE (by rw [hno]; first | done | rfl)⟩, O⟩, Af J, J⟩⟩
 try simp only [tdy] at h11
 refine Ab J (A8 (Aa (Az (A0 J J) ?_)))
 refine Bd (AR J J J) (fun b15 h15 => ?_)
 refine A2 ?_
 cases b15
 rotate_left
 · try simp only [tdy] at h15
   have hno : IL b c = _ := (if_neg (by omega)).trans ((if_neg (by omega)).trans (if_pos (by omega)))
   have hd1 := Cj b (AY b c 12).2 (n := 2) (by decide)
   have hd2 := Cj b (AY b (AY b c 12).2 2).2 (n := 3) (by decide)
   refine A5 J (Aa (Az (A0 J J) (Az (Aj J J J (C5 b (AY b c 12).2 hb 2) J J J J) ?_)))
   refine Az (HO J J J (IntWalk.i64_in _ (by omega))) ?_
   refine Az (A0 J J) (Az (Aj J J J (C5 b (AY b (AY b c 12).2 2).2 hb 3) J J J J) ?_)
   refine Az (Bl J J J (IntWalk.i64_in _ (by omega))) ?_
   refine Az (A1 J J) (Ae ?_)
   exact ⟨rn [], ⟨⟨⟨_, J, A7 (by rw [hno]; first | done | rfl)⟩, O⟩, ⟨⟨_, J, by first | exact BLe.rf | exact AE (by rw [hno]; first | done | rfl)⟩, O⟩, Af J, J⟩⟩
 try simp only [tdy] at h15
 refine Ab J (A8 (Aa (Az (A0 J J) ?_)))
 refine Bd (AR J J J) (fun b23 h23 => ?_)
 refine A2 ?_
 cases b23
 rotate_left
 · try simp only [tdy] at h23
   have hno : IL b c = _ := (if_neg (by omega)).trans ((if_neg (by omega)).trans ((if_neg (by omega)).trans (if_pos (by omega))))
   have hd1 := Cj b (AY b c 12).2 (n := 3) (by decide)
   refine A5 J (Aa (Az (A0 J J) (Az (Aj J J J (C5 b (AY b c 12).2 hb 3) J J J J) ?_)))
   refine Az (HO J J J (IntWalk.i64_in _ (by omega))) ?_
   refine Az (A1 J J) (Ae ?_)
   exact ⟨rn [], ⟨⟨⟨_, J, A7 (by rw [hno]; first | done | rfl)⟩, O⟩, ⟨⟨_, J, by first | exact BLe.rf | exact AE (by rw [hno]; first | done | rfl)⟩, O⟩, Af J, J⟩⟩
 try simp only [tdy] at h23
 refine Ab J (A8 (Aa (Az (A0 J J) ?_)))
 refine Bd (AR J J J) (fun b28 h28 => ?_)
 refine A2 ?_
 cases b28
 rotate_left
 · try simp only [tdy] at h28
   have hno : IL b c = _ := (if_neg (by omega)).trans ((if_neg (by omega)).trans ((if_neg (by omega)).trans ((if_neg (by omega)).trans (if_pos (by omega)))))
   have hd1 := Cj b (AY b c 12).2 (n := 2) (by decide)
   refine A5 J (Aa (Az (A0 J J) (Az (Aj J J J (C5 b (AY b c 12).2 hb 2) J J J J) ?_)))
   refine Az (HO J J J (IntWalk.i64_in _ (by omega))) ?_
   refine Az (A1 J J) (Ae ?_)
   exact ⟨rn [], ⟨⟨⟨_, J, A7 (by rw [hno]; first | done | rfl)⟩, O⟩, ⟨⟨_, J, by first | exact BLe.rf | exact AE (by rw [hno]; first | done | rfl)⟩, O⟩, Af J, J⟩⟩
 try simp only [tdy] at h28
 refine Ab J (A8 (Aa (Az (A0 J J) ?_)))
 refine Bd (AR J J J) (fun b33 h33 => ?_)
 refine A2 ?_
 cases b33
 rotate_left
 · try simp only [tdy] at h33
   have hno : IL b c = _ := (if_neg (by omega)).trans ((if_neg (by omega)).trans ((if_neg (by omega)).trans ((if_neg (by omega)).trans ((if_neg (by omega)).trans (if_pos (by omega))))))
   have hd1 := Cj b (AY b c 12).2 (n := 2) (by decide)
   refine A5 J (Aa (Az (A0 J J) (Az (Aj J J J (C5 b (AY b c 12).2 hb 2) J J J J) ?_)))
   refine Az (HO J J J (IntWalk.i64_in _ (by omega))) ?_
   refine Az (A1 J J) (Ae ?_)
   exact ⟨rn [], ⟨⟨⟨_, J, A7 (by rw [hno]; first | done | rfl)⟩, O⟩, ⟨⟨_, J, by first | exact BLe.rf | exact AE (by rw [hno]; first | done | rfl)⟩, O⟩, Af J, J⟩⟩
 try simp only [tdy] at h33
 refine Ab J (A8 (Aa (Az (A0 J J) ?_)))
 refine Bd (AR J J J) (fun b38 h38 => ?_)
 refine A2 ?_
 cases b38
 · try simp only [tdy] at h38
   have hno : IL b c = _ := (if_neg (by omega)).trans ((if_neg (by omega)).trans ((if_neg (by omega)).trans ((if_neg (by omega)).trans ((if_neg (by omega)).trans ((if_neg (by omega)).trans (if_neg (by omega)))))))
   have hmu := mul_in (Cj b (AY b c 12).2 (n := 65536) (by decide)) (Cj b (AY b (AY b c 12).2 65536).2 (n := 65536) (by decide))
   refine Ab J (Aa (Az (A0 J J) (Az (Aj J J J (C5 b (AY b c 12).2 hb 65536) J J J J) (Az (A0 J J) (Az (Aj J J J (C5 b (AY b (AY b c 12).2 65536).2 hb 65536) J J J J) (Az (x_mul J J J (IntWalk.i64_in _ hmu)) (Az (A1 J J) (Ae ?_))))))))
   exact ⟨rn [], ⟨⟨⟨_, J, A7 (by rw [hno]; first | done | rfl)⟩, O⟩, ⟨⟨_, J, by first | exact BLe.rf | exact AE (by rw [hno]; first | done | rfl)⟩, O⟩, Af J, J⟩⟩
 try simp only [tdy] at h38
 have hno : IL b c = _ := (if_neg (by omega)).trans ((if_neg (by omega)).trans ((if_neg (by omega)).trans ((if_neg (by omega)).trans ((if_neg (by omega)).trans ((if_neg (by omega)).trans (if_pos (by omega)))))))
 have hd1 := Cj b (AY b c 12).2 (n := 6) (by decide)
 have hd2 := Cj b (AY b (AY b c 12).2 6).2 (n := 2) (by decide)
 have hp := pow_256 (m := (1 + (AY b (AY b c 12).2 6).1).toNat) (by omega)
 refine A5 J (Aa (Az (A0 J J) (Az (Aj J J J (C5 b (AY b c 12).2 hb 6) J J J J) ?_)))
 refine Az (Bl J J J (IntWalk.i64_in _ (by omega))) ?_
 refine Az (AS J J J (pow_c _ (by omega) (by omega)) J J) ?_
 refine Az (A0 J J) (Az (Aj J J J (C5 b (AY b (AY b c 12).2 6).2 hb 2) J J J J) ?_)
 refine Az (HO J J J (IntWalk.i64_in _ (by omega))) ?_
 refine Az (A1 J J) (Ae ?_)
 exact ⟨rn [], ⟨⟨⟨_, J, A7 (by rw [hno]; first | done | rfl)⟩, O⟩, ⟨⟨_, J, by first | exact BLe.rf | exact AE (by rw [hno]; first | done | rfl)⟩, O⟩, Af J, J⟩⟩

set_option maxHeartbeats 4000000 in
theorem text_c [Old] (b : List Int) (c : Cur) (hb : b.length ≤ 1048576) : AC Tryz.prog 26 [.one (.ptr 200 0)] [(200, some (DD b c))] (.one (.c (.string (dText b c).1))) [(200, some (DD b (dText b c).2))] := by
 have hd1 := Cj b c (n := 18) (by decide)
 have hln : dTexts.length = 18 := by decide
 have hno : dText b c = (dTexts.getD (AY b c 18).1.toNat ⟨#[]⟩, (AY b c 18).2) := rfl
 have hat := getD_txt (xs := dTexts) (k := (AY b c 18).1.toNat) (by omega)
 refine Bn Tryz.func26 J J Tryz.ntmps26 J Tryz.results26 ?_
 refine Aa (Az (A1 J J) (Ad (Az (Aq DM 9 [.const (.string ⟨#[]⟩), .const (.string ⟨#[97]⟩), .const (.string ⟨#[97, 98, 99, 100, 101, 102, 103, 104, 105, 106, 107, 108]⟩), .const (.string ⟨#[97, 98, 99, 100, 101, 102, 103, 104, 105, 106, 107, 108, 109]⟩), .const (.string ⟨#[57, 97]⟩), .const (.string ⟨#[65]⟩), .const (.string ⟨#[97, 95]⟩), .const (.string ⟨#[48]⟩), .const (.string ⟨#[48, 48]⟩), .const (.string ⟨#[55]⟩), .const (.string ⟨#[50, 56, 49, 52, 55, 52, 57, 55, 54, 55, 49, 48, 54, 53, 53]⟩), .const (.string ⟨#[50, 56, 49, 52, 55, 52, 57, 55, 54, 55, 49, 48, 54, 53, 54]⟩), .const (.string ⟨#[45, 49]⟩), .const (.string ⟨#[49, 50, 51, 52, 53, 54, 55, 56, 57, 48, 49, 50, 51, 52, 53, 54]⟩), .const (.string ⟨#[104, 111, 115, 116]⟩), .const (.string ⟨#[120, 57]⟩), .const (.string ⟨#[32, 49]⟩), .const (.string ⟨#[195, 169]⟩)] (dTexts) 100 J J J J J J J J FitL.rf J J J J J J (by kernel_rfl)) (Az (A0 J J) (Az (Aj J J J (C5 b c hb 18) J J J J) ?_)))))
 refine Az (Ar 1 ((AY b c 18).1.toNat) J J J J (by kernel_rfl) J (by omega) (by omega)) ?_
 refine Az (Ga J J J (by kernel_rfl) (by omega) J) ?_
 refine Az (A1 J J) (Ae ?_)
 exact ⟨rn [], ⟨⟨⟨_, J, Bu hat⟩, O⟩, ⟨⟨_, J, by first | exact BLe.rf | exact AE (by rw [hno]; first | done | rfl)⟩, O⟩, Af J, J⟩⟩
end Go.Proofs.YtkemjhlbokldhaaGreat

namespace Go.Proofs.YtkemjhlbokldhaaGreat
open Go.RowKit
set_option linter.unusedVariables false

structure AX (P : Program) (f : FuncId) (args : List AVal) (L : Locs) {ι : Type} (G : ι → Prop) (res : ι → AVal) (L' : ι → Locs) : Prop where
 fn : He P f
 run : ∀ (g : Gh) (w : World) (cargs : Array Value), MemR g L w → All2 (VR1 g L w) cargs.toList args →
   Calls P f cargs w fun e w' => ∃ i v g', G i ∧ e = .returned v ∧ MemR g' (L' i) w' ∧ VR g' (L' i) w' v (res i) ∧ Step (Bi L) g L w g' (L' i) w'
theorem AX.mono {P : Program} {f : FuncId} {args : List AVal} {L : Locs} {ι : Type} {G G' : ι → Prop} {res : ι → AVal} {L' : ι → Locs} (h : AX P f args L G res L') (hg : ∀ i, G i → G' i) : AX P f args L G' res L' :=
 ⟨h.fn, fun g w cargs m ha => (h.run g w cargs m ha).mono (by
   rintro e w' ⟨i, v, g', h0, h1, h2, h3, h4⟩
   exact ⟨i, v, g', hg i h0, h1, h2, h3, h4⟩)⟩

def RetXS {ι : Type} (K : List Nat) (G : ι → Prop) (T : ι → DV) (L' : ι → Locs) (s : St) : Prop := ∃ i, G i ∧ ∃ r, LeS K r s ⟨T i, L' i⟩
def RetXQ {ι : Type} (K : List Nat) (G : ι → Prop) (T : ι → DV) (L' : ι → Locs) : Exit → St → Prop
 | .ret, s => RetXS K G T L' s
 | _, _ => False
section body
variable {P : Program} {N : Nat} {f : FuncId} {fn : Func} {c : Code} {args : List AVal} {L : Locs} {ι : Type} {G : ι → Prop} {res : ι → AVal} {L' Lf : ι → Locs} {T : ι → DV}
theorem AX_of (hf : P.funcs[f]? = some fn) (hb : fn.body = some c) (hn : (fn.name == "runtime.NumGoroutine") = false) (hN : fn.ntmps = N) (hA : Nat.ble args.length N = true)
   (hr : ∀ (i : ι) (g : Gh) (a : Act) (w : World), Rep N g ⟨T i, L' i⟩ a w → ∃ v, (results fn a.tmps).run P w = .ok v w ∧ VR g (L' i) w v (res i))
   (h : AW P N (Bi L) c (RetXS (Bi L) G T L') (RetXQ (Bi L) G T L') ⟨Ff args 0, L⟩) : AX P f args L G res L' := by
 refine ⟨⟨fn, c, hf, hb, hn⟩, fun g w cargs m ha => ?_⟩
 subst hN
 have R := entry_rep m ha (Nat.le_of_ble_eq_true hA)
 refine calls_of_wp hf hb (Go.wp_mono (h g _ w R) ?_)
 rintro e a1 w1 ⟨g1, s1, R1, hs, hR⟩
 have fin : RetXS (Bi L) G T L' s1 → a1.defers = [] ∧ ∃ v, (results fn a1.tmps).run P w1 = .ok v w1 ∧ ∃ i v' g', G i ∧ Ending.returned v = .returned v' ∧ MemR g' (L' i) w1 ∧ VR g' (L' i) w1 v' (res i) ∧ Step (Bi L) g L w g' (L' i) w1 := by
   rintro ⟨i, hG, r, hle⟩
   have R2 := R1.le hle
   obtain ⟨v, h1, h2⟩ := hr i _ a1 w1 R2
   exact ⟨R1.defers, v, h1, i, v, _, hG, rfl, R2.mem, h2, hs.trans m R1.mem (Step.unren hle.l hle.k)⟩
 cases e with
 | normal => exact fin hR
 | ret => exact fin hR
 | exit id => exact hR
 | goto l => exact hR
 | panic ch => exact hR.elim
 | outgrown => exact hR.elim
theorem AX_ofB (hf : P.funcs[f]? = some fn) (hb : fn.body = some c) (hn : (fn.name == "runtime.NumGoroutine") = false) (hN : fn.ntmps = N) (hA : Nat.ble args.length N = true)
   (hren : ∀ i, (res i).ren (rn []) = res i) (hle : ∀ i, LeS (Bi L) (rn []) ⟨T i, Lf i⟩ ⟨[], L' i⟩)
   (hr : ∀ (i : ι) (g : Gh) (a : Act) (w : World), Rep N g ⟨T i, Lf i⟩ a w → ∃ v, (results fn a.tmps).run P w = .ok v w ∧ VR g (Lf i) w v (res i))
   (h : AW P N (Bi L) c (RetXS (Bi L) G T Lf) (RetXQ (Bi L) G T Lf) ⟨Ff args 0, L⟩) : AX P f args L G res L' := by
 have h0 := AX_of (L' := Lf) hf hb hn hN hA hr h
 refine ⟨h0.fn, fun g w cargs m ha => (h0.run g w cargs m ha).mono ?_⟩
 rintro e w' ⟨i, v, g1, hG, rfl, m1, hv, hs⟩
 exact ⟨i, v, g1.ren (rn []), hG, rfl, m1.unren (hle i).l (hle i).inj, VR.unren (hle i).l (by rw [hren]; exact hv), hs.trans m m1 (Step.unren (hle i).l (hle i).k)⟩
theorem AX_body1 {r : Nat} {x : ι → AVal} (hf : P.funcs[f]? = some fn) (hb : fn.body = some c) (hn : (fn.name == "runtime.NumGoroutine") = false) (hN : fn.ntmps = N) (hA : Nat.ble args.length N = true) (hr : fn.results = #[.tmp r])
   (h : AW P N (Bi L) c (RetXS (Bi L) G (fun i => [(r, x i)]) L') (RetXQ (Bi L) G (fun i => [(r, x i)]) L') ⟨Ff args 0, L⟩) : AX P f args L G x L' :=
 AX_of hf hb hn hN hA (fun i g a w R => ⟨_, results_tmp hr _ _ _, R.tmp r (x i) Bv⟩) h
theorem AX_bodyC {ty : TypeId} {r n k : Nat} {cs : ι → List Cell} (hf : P.funcs[f]? = some fn) (hb : fn.body = some c) (hn : (fn.name == "runtime.NumGoroutine") = false) (hN : fn.ntmps = N) (hA : Nat.ble args.length N = true) (hr : fn.results = #[.cell r ty])
   (ht : ∀ i, lk (T i) r = some (.one (.ptr k 0))) (hl : ∀ i, lkl (Lf i) k = some (.box (cs i))) (hk : Fk P ty = some (some n)) (hcn : ∀ i, (cs i).length = n) (hren : ∀ i, (AVal.agg (cs i)).ren (rn []) = .agg (cs i)) (hle : ∀ i, LeS (Bi L) (rn []) ⟨T i, Lf i⟩ ⟨[], L' i⟩)
   (h : AW P N (Bi L) c (RetXS (Bi L) G T Lf) (RetXQ (Bi L) G T Lf) ⟨Ff args 0, L⟩) : AX P f args L G (fun i => .agg (cs i)) L' :=
 AX_ofB hf hb hn hN hA hren hle (fun i g a w R => by
   obtain ⟨ad, v, h1, h2, h3⟩ := Hv R (ht i) (hl i) hk (hcn i)
   refine ⟨v, ?_, h3⟩
   simp only [Array.getD_eq_getD_getElem?] at h1
   simp [results, hr, h1, h2]) h
end body

def AN (P : Program) (N : Nat) (ops : Array Oper) (Kn : St → Prop) (l : List Oper) (s : St) : Prop :=
 ∀ (K : List Nat) (Q : Exit → St → Prop) (g0 : Gh) (l0 : Locs) (w0 : World), MemR g0 l0 w0 → ∀ (g : Gh) (a : Act) (w : World), Rep N g s a w → Step K g0 l0 w0 g s.l w → wpList P ops (Ends N K g0 l0 w0 (NormR Kn Q)) l a w
section walk
variable {P : Program} {N : Nat} {ops : Array Oper} {Kn : St → Prop} {r : List Oper} {s s' : St} {c : Cert}
theorem A9 {K : List Nat} {Q : Exit → St → Prop} {id : Nat} {l : List Oper} (h : AN P N l.toArray Kn l s) : AW P N K (.region id l.toArray false) Kn Q s := fun g a w r =>
 wp_region_lit (h K Q g s.l w r.mem g a w r (Step.refl ..))
theorem AQ (h : Kn s) : AN P N ops Kn [] s := fun K Q g0 l0 w0 m0 g a w r hs => ⟨g, s, r, hs, h⟩
theorem AN_cons {o : Oper} (h1 : OpG P N ops o c) (h2 : c.pre s) (h3 : AN P N ops Kn r (c.upd s)) : AN P N ops Kn (o :: r) s := fun K Q g0 l0 w0 m0 g a w R hs => by
 have h4 := h1 K g s a w h2 R
 unfold wpList
 split
 · rename_i hw
   rw [if_pos hw] at h4
   exact .inl (Oper.wp_weak (fun a' w' ⟨g', r', hs'⟩ => h3 K Q g0 l0 w0 m0 g' a' w' r' (hs.trans m0 R.mem hs')) h4)
 · rename_i hw
   rw [if_neg hw] at h4
   obtain ⟨g', r', hs'⟩ := h4
   exact h3 K Q g0 l0 w0 m0 g' _ w r' (hs.trans m0 R.mem hs')
theorem AO {dst : Option Nat} {op : Op} {ty : TypeId} {pos : String} {after : Array Edge} (h : Stp P N ⟨dst, op, ty, pos, after, none⟩ s s' c) (next : AN P N ops Kn r s') : AN P N ops Kn (⟨dst, op, ty, pos, after, none⟩ :: r) s :=
 AN_cons (OpG.plain rfl h.1) h.2.1 (by rw [h.2.2]; exact next)
theorem FH {dst : Option Nat} {op : Op} {ty : TypeId} {pos : String} {after : Array Edge} {j t : Nat} {b : Bool} (hj : FP ops j = some t) (hb : lk s.t t = some (.one (.c (.bool b)))) (h : Stp P N ⟨dst, op, ty, pos, after, some (j, b)⟩ s s' c)
   (next : AN P N ops Kn r s') : AN P N ops Kn (⟨dst, op, ty, pos, after, some (j, b)⟩ :: r) s :=
 AN_cons (c := { c with rt := (t, .one (.c (.bool b))) :: c.rt }) (OpG.on rfl hj h.1) ⟨fun p hp => by
   rcases List.mem_cons.1 hp with rfl | hp
   · exact hb
   · exact h.2.1.1 p hp, h.2.1.2⟩ (by
   show AN P N ops Kn r (c.upd s)
   rw [h.2.2]; exact next)
theorem Bz {d : Nat} {op : Op} {ty : TypeId} {pos : String} {after : Array Edge} {j t : Nat} {b b' : Bool} (hN : Nat.blt d N = true) (hj : FP ops j = some t) (hb : lk s.t t = some (.one (.c (.bool b')))) (hne : (b' == b) = false)
   (next : AN P N ops Kn r ⟨(d, .tup []) :: s.t, s.l⟩) : AN P N ops Kn (⟨some d, op, ty, pos, after, some (j, b)⟩ :: r) s :=
 AN_cons (OpG.off rfl hj (by simpa using hne) rfl (DJ hN)) ⟨fun p hp => by simp at hp; subst hp; exact hb, by simp, by simp⟩ next
theorem BG {d : Nat} {op : Op} {ty : TypeId} {pos : String} {after : Array Edge} {e : Bool} {rt : List (Nat × AVal)} {rl : List (Nat × Blk)} (h : Stp P N ⟨some d, op, ty, pos, after, none⟩ s ⟨(d, .one (.c (.bool e))) :: s.t, s.l⟩ ⟨rt, rl, [(d, .one (.c (.bool e)))], [], []⟩)
   (next : ∀ b, e = b → AN P N ops Kn r ⟨(d, .one (.c (.bool b))) :: s.t, s.l⟩) : AN P N ops Kn (⟨some d, op, ty, pos, after, none⟩ :: r) s :=
 AO h (next e rfl)
theorem AN_gb {d : Nat} {op : Op} {ty : TypeId} {pos : String} {after : Array Edge} {j t : Nat} {g : Bool} {e : Bool} {rt : List (Nat × AVal)} {rl : List (Nat × Blk)} (hj : FP ops j = some t) (hb : lk s.t t = some (.one (.c (.bool g)))) (h : Stp P N ⟨some d, op, ty, pos, after, some (j, g)⟩ s ⟨(d, .one (.c (.bool e))) :: s.t, s.l⟩ ⟨rt, rl, [(d, .one (.c (.bool e)))], [], []⟩)
   (next : ∀ b, e = b → AN P N ops Kn r ⟨(d, .one (.c (.bool b))) :: s.t, s.l⟩) : AN P N ops Kn (⟨some d, op, ty, pos, after, some (j, g)⟩ :: r) s :=
 FH hj hb h (next e rfl)
theorem AN_x {ι : Type} {G : ι → Prop} {res : ι → AVal} {L' : ι → Locs} {d : Nat} {fo : Operand} {f : FuncId} {ars : Array Operand} {ats : Array TypeId} {xs : List AVal} {L : Locs} {ty : TypeId} {pos : String} {after : Array Edge} (hN : Nat.blt d N = true)
   (hev : evo s.t fo = some (.one (.clo f []))) (hxs : evl s.t ars.toList = some xs) (hac : AX P f xs L G res L') (hfl : DC xs = true) (hLs : okL L = true) (hsc : ∀ i, CO (Bi (L' i)) (L' i).ids = true) (hsr : ∀ i, CO (Bi (L' i)) (res i).ids = true)
   (hsub : sub s.l L) (hnew : ∀ i, newOk s (Fj L (L' i)) = true) (next : ∀ i, G i → AN P N ops Kn r ⟨(d, res i) :: s.t, L' i ++ (Ek L ++ s.l)⟩) :
   AN P N ops Kn (⟨some d, .call { callee := .value fo, args := ars, argTypes := ats }, ty, pos, after, none⟩ :: r) s := fun K Q g0 l0 w0 m0 g a w R hst => by
 have hfe : a.eval fo = .func (.func f) #[] #[] := (B4 R (BC hev) (Cg hev) : VR g s.l w (a.eval fo) (.one (.clo f []))) fun k hk => by cases hk
 have hargs : All2 (VR1 g s.l w) ((ars.map a.eval) ++ #[]).toList xs := by
   rw [Array.append_empty, Array.toList_map]
   exact ((EG hxs).2 R (EG (N := N) hxs).1).vr1 hfl
 unfold wpList
 rw [if_pos (by simp [Region.wanted])]
 refine .inl ?_
 unfold Oper.wp
 rw [run_enter rfl hac.fn hfe, Oper.upon_enter]
 have mL := R.mem.sub hsub
 refine (hac.run g w _ mL (hargs.mono fun v x _ hr => VR1.step (fun _ _ => rfl) (fun _ h => h) (Nat.le_refl _) (fun k _ => okK.sub hsub k) hr)).mono ?_
 rintro e w' ⟨i, v, g', hG, rfl, m', hv, hs⟩
 have p3 := newOk_of (hnew i)
 have hnw : ∀ k ∈ Fj L (L' i), lk s.l k = none ∧ k ∉ s.l.ids := fun k hk => ⟨(p3 k hk).1, fun h => (p3 k hk).2 (List.mem_append_right _ h)⟩
 obtain ⟨c1, c2, c3, c4, c5⟩ := call_mem R.mem hsub m' hs (hsc i) hLs hnw K
 have hmm : ∀ b, g.I b → (g.mix g' (Bi (L' i) ++ Bi L)).I b := fun b hb => hs.imm b hb
 refine next i hG K Q g0 l0 w0 m0 _ _ w' ?_ (hst.trans m0 R.mem c2)
 exact R.next (DJ hN) c3 hmm hs.size (fun k hk => c4 k fun h => (p3 k h).2 hk) (VR.step (g := g') (l := L' i) (fun _ _ => rfl) (fun b hb => hb) (Nat.le_refl _) (fun k hk => c5 k (G1 (hsr i) hk)) hv) c1
end walk
end Go.Proofs.YtkemjhlbokldhaaGreat

namespace Go.Proofs.YtkemjhlbokldhaaGreat
open Go.RowKit
set_option linter.unusedVariables false
set_option linter.unusedSimpArgs false
set_option maxRecDepth 100000

set_option maxHeartbeats 4000000 in
theorem classic_c (n : Int) (h0 : 0 ≤ n) (h8 : n < 8) : AC Tryz.prog 54 [.one (.c (.int .i64 (n)))] [] (.one (.c (.string (classics[n.toNat]'(by rw [G2]; omega))))) [] := by
 have hcl := G2
 refine Bn Tryz.func54 J J Tryz.ntmps54 J Tryz.results54 ?_
 refine Aa (Az (A1 J J) (Ad (Az (CR (E := 9) (e := DM) [.const (.string ⟨#[115, 116, 97, 116, 101, 32, 112, 111, 114, 116, 47, 50, 46, 10, 102, 111, 114, 119, 97, 114, 100, 40, 79, 41, 32, 58, 45, 32, 112, 97, 99, 107, 101, 116, 40, 83, 44, 32, 73, 44, 32, 65, 44, 32, 66, 41, 44, 32, 112, 111, 114, 116, 40, 83, 44, 32, 79, 41, 44, 32, 79, 32, 33, 61, 32, 73, 46, 10]⟩), .const (.string ⟨#[115, 116, 97, 116, 101, 32, 112, 111, 114, 116, 47, 50, 46, 10, 115, 116, 97, 116, 101, 32, 115, 101, 101, 110, 47, 51, 46, 10, 118, 105, 101, 119, 32, 107, 110, 111, 119, 110, 47, 50, 46, 10, 107, 110, 111, 119, 110, 40, 83, 44, 32, 65, 41, 32, 58, 45, 32, 115, 101, 101, 110, 40, 83, 44, 32, 65, 44, 32, 80, 41, 46, 10, 102, 111, 114, 119, 97, 114, 100, 40, 79, 41, 32, 58, 45, 32, 112, 97, 99, 107, 101, 116, 40, 83, 44, 32, 73, 44, 32, 65, 44, 32, 66, 41, 44, 32, 115, 101, 101, 110, 40, 83, 44, 32, 66, 44, 32, 79, 41, 46, 10, 102, 111, 114, 119, 97, 114, 100, 40, 79, 41, 32, 58, 45, 32, 112, 97, 99, 107, 101, 116, 40, 83, 44, 32, 73, 44, 32, 65, 44, 32, 66, 41, 44, 32, 110, 111, 116, 32, 107, 110, 111, 119, 110, 40, 83, 44, 32, 66, 41, 44, 32, 112, 111, 114, 116, 40, 83, 44, 32, 79, 41, 44, 32, 79, 32, 33, 61, 32, 73, 46, 10, 43, 115, 101, 101, 110, 40, 83, 44, 32, 65, 44, 32, 73, 41, 32, 58, 45, 32, 112, 97, 99, 107, 101, 116, 40, 83, 44, 32, 73, 44, 32, 65, 44, 32, 66, 41, 44, 32, 110, 111, 116, 32, 107, 110, 111, 119, 110, 40, 83, 44, 32, 65, 41, 46, 10]⟩), .const (.string ⟨#[115, 116, 97, 116, 101, 32, 112, 111, 114, 116, 47, 50, 46, 10, 115, 116, 97, 116, 101, 32, 100, 101, 110, 121, 47, 50, 46, 10, 101, 118, 101, 110, 116, 32, 98, 108, 111, 99, 107, 47, 50, 46, 10, 101, 118, 101, 110, 116, 32, 97, 108, 108, 111, 119, 47, 50, 46, 10, 43, 100, 101, 110, 121, 40, 65, 44, 32, 66, 41, 32, 58, 45, 32, 98, 108, 111, 99, 107, 40, 65, 44, 32, 66, 41, 46, 10, 45, 100, 101, 110, 121, 40, 65, 44, 32, 66, 41, 32, 58, 45, 32, 97, 108, 108, 111, 119, 40, 65, 44, 32, 66, 41, 46, 10, 102, 111, 114, 119, 97, 114, 100, 40, 79, 41, 32, 58, 45, 32, 112, 97, 99, 107, 101, 116, 40, 83, 44, 32, 73, 44, 32, 65, 44, 32, 66, 41, 44, 32, 110, 111, 116, 32, 100, 101, 110, 121, 40, 65, 44, 32, 66, 41, 44, 32, 112, 111, 114, 116, 40, 83, 44, 32, 79, 41, 44, 32, 79, 32, 33, 61, 32, 73, 46, 10]⟩), .const (.string ⟨#[115, 116, 97, 116, 101, 32, 108, 105, 110, 107, 47, 51, 46, 10, 115, 116, 97, 116, 101, 32, 104, 111, 115, 116, 47, 51, 46, 10, 101, 118, 101, 110, 116, 32, 117, 112, 47, 51, 46, 10, 101, 118, 101, 110, 116, 32, 100, 111, 119, 110, 47, 51, 46, 10, 101, 118, 101, 110, 116, 32, 106, 111, 105, 110, 47, 51, 46, 10, 118, 105, 101, 119, 32, 112, 97, 116, 104, 47, 50, 46, 10, 118, 105, 101, 119, 32, 118, 105, 97, 47, 51, 46, 10, 112, 97, 116, 104, 40, 83, 44, 32, 84, 41, 32, 58, 45, 32, 108, 105, 110, 107, 40, 83, 44, 32, 80, 44, 32, 84, 41, 46, 10, 112, 97, 116, 104, 40, 83, 44, 32, 84, 41, 32, 58, 45, 32, 108, 105, 110, 107, 40, 83, 44, 32, 80, 44, 32, 85, 41, 44, 32, 112, 97, 116, 104, 40, 85, 44, 32, 84, 41, 46, 10, 118, 105, 97, 40, 83, 44, 32, 80, 44, 32, 65, 41, 32, 58, 45, 32, 104, 111, 115, 116, 40, 83, 44, 32, 80, 44, 32, 65, 41, 46, 10, 118, 105, 97, 40, 83, 44, 32, 80, 44, 32, 65, 41, 32, 58, 45, 32, 108, 105, 110, 107, 40, 83, 44, 32, 80, 44, 32, 84, 41, 44, 32, 118, 105, 97, 40, 84, 44, 32, 81, 44, 32, 65, 41, 44, 32, 110, 111, 116, 32, 110, 101, 97, 114, 40, 83, 44, 32, 65, 41, 46, 10, 118, 105, 101, 119, 32, 110, 101, 97, 114, 47, 50, 46, 10, 110, 101, 97, 114, 40, 83, 44, 32, 65, 41, 32, 58, 45, 32, 104, 111, 115, 116, 40, 83, 44, 32, 80, 44, 32, 65, 41, 46, 10, 102, 111, 114, 119, 97, 114, 100, 40, 80, 41, 32, 58, 45, 32, 112, 97, 99, 107, 101, 116, 40, 83, 44, 32, 73, 44, 32, 65, 44, 32, 66, 41, 44, 32, 118, 105, 97, 40, 83, 44, 32, 80, 44, 32, 66, 41, 46, 10, 43, 108, 105, 110, 107, 40, 83, 44, 32, 80, 44, 32, 84, 41, 32, 58, 45, 32, 117, 112, 40, 83, 44, 32, 80, 44, 32, 84, 41, 46, 10, 45, 108, 105, 110, 107, 40, 83, 44, 32, 80, 44, 32, 84, 41, 32, 58, 45, 32, 100, 111, 119, 110, 40, 83, 44, 32, 80, 44, 32, 84, 41, 46, 10, 43, 104, 111, 115, 116, 40, 83, 44, 32, 80, 44, 32, 65, 41, 32, 58, 45, 32, 106, 111, 105, 110, 40, 83, 44, 32, 80, 44, 32, 65, 41, 46, 10]⟩), .const (.string ⟨#[115, 116, 97, 116, 101, 32, 109, 111, 100, 101, 47, 49, 46, 10, 101, 118, 101, 110, 116, 32, 115, 101, 116, 47, 49, 46, 10, 43, 109, 111, 100, 101, 40, 77, 41, 32, 58, 45, 32, 115, 101, 116, 40, 77, 41, 46, 10, 45, 109, 111, 100, 101, 40, 78, 41, 32, 58, 45, 32, 115, 101, 116, 40, 77, 41, 44, 32, 109, 111, 100, 101, 40, 78, 41, 44, 32, 78, 32, 33, 61, 32, 77, 46, 10, 102, 111, 114, 119, 97, 114, 100, 40, 49, 41, 32, 58, 45, 32, 112, 97, 99, 107, 101, 116, 40, 83, 44, 32, 73, 44, 32, 65, 44, 32, 66, 41, 44, 32, 109, 111, 100, 101, 40, 111, 110, 41, 44, 32, 73, 32, 33, 61, 32, 49, 46, 10, 102, 111, 114, 119, 97, 114, 100, 40, 50, 41, 32, 58, 45, 32, 112, 97, 99, 107, 101, 116, 40, 83, 44, 32, 73, 44, 32, 65, 44, 32, 66, 41, 44, 32, 110, 111, 116, 32, 109, 111, 100, 101, 40, 111, 110, 41, 44, 32, 66, 32, 33, 61, 32, 55, 46, 10]⟩), .const (.string ⟨#[115, 116, 97, 116, 101, 32, 112, 111, 114, 116, 47, 50, 46, 10, 102, 111, 114, 119, 97, 114, 100, 40, 79, 41, 32, 58, 45, 32, 112, 97, 99, 107, 101, 116, 40, 83, 44, 32, 73, 44, 32, 65, 44, 32, 65, 41, 44, 32, 112, 111, 114, 116, 40, 83, 44, 32, 79, 41, 46, 10, 102, 111, 114, 119, 97, 114, 100, 40, 79, 41, 32, 58, 45, 32, 112, 97, 99, 107, 101, 116, 40, 83, 44, 32, 73, 44, 32, 65, 44, 32, 66, 41, 44, 32, 65, 32, 60, 32, 66, 44, 32, 112, 111, 114, 116, 40, 83, 44, 32, 79, 41, 46, 10]⟩), .const (.string ⟨#[115, 116, 97, 116, 101, 32, 97, 47, 49, 46, 10, 115, 116, 97, 116, 101, 32, 98, 47, 49, 46, 10, 101, 118, 101, 110, 116, 32, 116, 105, 99, 107, 47, 48, 46, 10, 118, 105, 101, 119, 32, 99, 47, 49, 46, 10, 118, 105, 101, 119, 32, 100, 47, 49, 46, 10, 99, 40, 88, 41, 32, 58, 45, 32, 97, 40, 88, 41, 44, 32, 110, 111, 116, 32, 98, 40, 88, 41, 46, 10, 100, 40, 88, 41, 32, 58, 45, 32, 97, 40, 88, 41, 44, 32, 110, 111, 116, 32, 99, 40, 88, 41, 44, 32, 88, 32, 60, 61, 32, 51, 46, 10, 43, 98, 40, 88, 41, 32, 58, 45, 32, 116, 105, 99, 107, 40, 41, 44, 32, 99, 40, 88, 41, 46, 10, 45, 98, 40, 88, 41, 32, 58, 45, 32, 116, 105, 99, 107, 40, 41, 44, 32, 100, 40, 88, 41, 46, 10, 102, 111, 114, 119, 97, 114, 100, 40, 88, 41, 32, 58, 45, 32, 112, 97, 99, 107, 101, 116, 40, 83, 44, 32, 73, 44, 32, 65, 44, 32, 66, 41, 44, 32, 99, 40, 88, 41, 46, 10]⟩), .const (.string ⟨#[115, 116, 97, 116, 101, 32, 97, 47, 50, 46, 10, 115, 116, 97, 116, 101, 32, 98, 47, 48, 46, 10, 101, 118, 101, 110, 116, 32, 101, 47, 49, 46, 10, 118, 105, 101, 119, 32, 99, 47, 50, 46, 10, 99, 40, 88, 44, 32, 89, 41, 32, 58, 45, 32, 97, 40, 88, 44, 32, 89, 41, 46, 10, 99, 40, 88, 44, 32, 89, 41, 32, 58, 45, 32, 99, 40, 88, 44, 32, 90, 41, 44, 32, 99, 40, 90, 44, 32, 89, 41, 46, 10, 43, 97, 40, 88, 44, 32, 89, 41, 32, 58, 45, 32, 101, 40, 88, 41, 44, 32, 89, 32, 61, 32, 50, 46, 10, 45, 97, 40, 88, 44, 32, 88, 41, 32, 58, 45, 32, 101, 40, 88, 41, 46, 10, 43, 98, 40, 41, 32, 58, 45, 32, 112, 97, 99, 107, 101, 116, 40, 49, 44, 32, 73, 44, 32, 65, 44, 32, 53, 41, 44, 32, 110, 111, 116, 32, 98, 40, 41, 46, 10, 102, 111, 114, 119, 97, 114, 100, 40, 51, 41, 32, 58, 45, 32, 112, 97, 99, 107, 101, 116, 40, 83, 44, 32, 49, 44, 32, 65, 44, 32, 66, 41, 44, 32, 98, 40, 41, 44, 32, 65, 32, 61, 32, 52, 46, 10]⟩)] (classics) J J J J J J J J FitL.rf J J J (by kernel_rfl)) (Az (A1 J J) (Ad (Az (A0 J J) (Az (A0 J J) (Az (A0 J J) (Az (Ak 9 1 J J (by kernel_rfl)) ?_)))))))))
 refine Az (x_rem J J J (by omega) J (WalkArith.wf_i64 (by rw [Int.tmod_eq_emod_of_nonneg h0]; rw [hcl]; omega))) ?_
 refine Az (Am 9 1 n.toNat J J J (by kernel_rfl) J (by rw [hcl]; show _ = _; rw [Int.tmod_eq_emod_of_nonneg h0]; omega) (by omega)) ?_
 refine Az (BW J J (by kernel_rfl) J) (Az (A1 J J) (Ae ?_))
 exact ⟨rn [], ⟨⟨⟨_, J, Bu (J)⟩, O⟩, O, O, J⟩⟩

set_option maxHeartbeats 4000000 in
theorem turn_x [Old] (b : List Int) (c : Cur) (hb : b.length ≤ 1048576) (s : ByteArray) (hs : s.size ≤ 100000) : AX Tryz.prog 55 [.one (.ptr 200 0), .one (.c (.string (s)))] [(200, some (DD b c))] (ι := ByteArray × Cur) (fun i => i.1.size ≤ s.size + 20) (fun i => .one (.c (.string (i.1)))) (fun i => [(200, some (DD b i.2))]) := by
 refine AX_body1 (x := fun (i : ByteArray × Cur) => .one (.c (.string (i.1)))) (L' := fun (i : ByteArray × Cur) => [(200, some (DD b i.2))]) Tryz.func55 J J Tryz.ntmps55 J Tryz.results55 ?_
 refine A8 (A9 (AO (A1 J J) (AQ (A8 (A8 (A9 (AO (A0 J J) (AO (D4 J J (by kernel_rfl)) ?_))))))))
 refine BG (AR J J J) (fun b10 h10 => ?_)
 refine AQ ?_
 cases b10
 rotate_left
 · try simp only [tdy] at h10
   refine Ac J (A9 (AO (A1 J J) (AQ (AU ?_))))
   refine ⟨⟨_, _⟩, ?_, rn [], by exact ⟨⟨⟨_, J, VLe.rf⟩, O⟩, ⟨⟨_, J, BLe.rf⟩, O⟩, Af J, J⟩⟩
   first | (show (1 : Nat) ≤ _; omega) | (dsimp only; simp only [Bf, ByteArray.size_extract]; omega) | (simp only [Bf, ByteArray.size_extract]; omega) | exact Nat.le_trans ext_le (Nat.le_add_right _ _)
 try simp only [tdy] at h10
 refine Ab J (A8 (A9 (AO (A0 J J) (AO (A0 J J) (AO (D4 J J (by kernel_rfl)) ?_)))))
 have d14 := Cj b c (n := (s.size : Int)) (by omega)
 refine AO (Aj J J J (C5 b c hb (s.size : Int)) J J J J) (AO (A1 J J) (AQ (A8 (A9 (AO (A0 J J) ?_)))))
 have d16 := Cj b (AY b c (s.size : Int)).2 (n := 4) (by decide)
 refine AO (Aj J J J (C5 b (AY b c (s.size : Int)).2 hb 4) J J J J) (AO (A1 J J) (AQ (A8 (A8 (A9 (AO (A0 J J) ?_))))))
 refine BG (AR J J J) (fun b18 h18 => ?_)
 refine AQ ?_
 cases b18
 rotate_left
 · try simp only [tdy] at h18
   refine Ac J (Bw J (Az (A0 J J) (Az (A0 J J) ?_)))
   refine Az (D8 J J (by kernel_rfl) .no (.yes (l := (AY b c (s.size : Int)).1.toNat) J (by omega)) (by omega) (by first | exact Nat.le_refl _ | omega) J) ?_
   refine Az (A0 J J) (Az (A0 J J) ?_)
   refine Az (Bl J J J (IntWalk.i64_in _ (by omega))) ?_
   refine Az (D8 J J (by kernel_rfl) (.yes (l := ((AY b c (s.size : Int)).1.toNat + 1)) J (by omega)) .no (by omega) (by first | exact Nat.le_refl _ | omega) J) ?_
   refine Az (BM J J J (by first | omega | (simp only [Bf, ByteArray.size_extract]; omega) | (show _ + 1 ≤ _; omega))) ?_
   refine Az (A1 J J) (Bj (by kernel_rfl) ?_)
   refine AU ?_
   refine ⟨⟨_, _⟩, ?_, rn [], by exact ⟨⟨⟨_, J, VLe.rf⟩, O⟩, ⟨⟨_, J, BLe.rf⟩, O⟩, Af J, J⟩⟩
   first | (show (1 : Nat) ≤ _; omega) | (dsimp only; simp only [Bf, ByteArray.size_extract]; omega) | (simp only [Bf, ByteArray.size_extract]; omega) | exact Nat.le_trans ext_le (Nat.le_add_right _ _)
 try simp only [tdy] at h18
 refine Ab J (A8 (A8 (A9 (AO (A0 J J) ?_))))
 refine BG (AR J J J) (fun b28 h28 => ?_)
 refine AQ ?_
 cases b28
 rotate_left
 · try simp only [tdy] at h28
   refine Ac J (A9 (AO (A0 J J) (AO (A0 J J) ?_)))
   refine AO (D8 J J (by kernel_rfl) .no (.yes (l := (AY b c (s.size : Int)).1.toNat) J (by omega)) (by omega) (by first | exact Nat.le_refl _ | omega) J) ?_
   refine AO (A1 J J) (AQ (AU ?_))
   refine ⟨⟨_, _⟩, ?_, rn [], by exact ⟨⟨⟨_, J, VLe.rf⟩, O⟩, ⟨⟨_, J, BLe.rf⟩, O⟩, Af J, J⟩⟩
   first | (show (1 : Nat) ≤ _; omega) | (dsimp only; simp only [Bf, ByteArray.size_extract]; omega) | (simp only [Bf, ByteArray.size_extract]; omega) | exact Nat.le_trans ext_le (Nat.le_add_right _ _)
 try simp only [tdy] at h28
 refine Ab J (A8 (A9 (AO (CR (E := 9) (e := DM) [.const (.string ⟨#[32]⟩), .const (.string ⟨#[35]⟩), .const (.string ⟨#[110, 111, 116, 32]⟩), .const (.string ⟨#[40]⟩), .const (.string ⟨#[41]⟩), .const (.string ⟨#[44]⟩), .const (.string ⟨#[46]⟩), .const (.string ⟨#[58, 45]⟩), .const (.string ⟨#[88]⟩), .const (.string ⟨#[97, 98, 99]⟩), .const (.string ⟨#[48]⟩), .const (.string ⟨#[48, 49]⟩), .const (.string ⟨#[33, 61]⟩), .const (.string ⟨#[61]⟩), .const (.string ⟨#[60]⟩), .const (.string ⟨#[60, 61]⟩), .const (.string ⟨#[43]⟩), .const (.string ⟨#[45]⟩), .const (.string ⟨#[47]⟩), .const (.string ⟨#[10]⟩), .const (.string ⟨#[63]⟩), .const (.string ⟨#[65, 66, 67, 68, 69, 70, 71, 72, 73, 74, 75, 76, 77]⟩), .const (.string ⟨#[97, 98, 99, 100, 101, 102, 103, 104, 105, 106, 107, 108, 109]⟩), .const (.string ⟨#[50, 56, 49, 52, 55, 52, 57, 55, 54, 55, 49, 48, 54, 53, 54]⟩), .const (.string ⟨#[57, 97]⟩), .const (.string ⟨#[115, 116, 97, 116, 101, 32]⟩), .const (.string ⟨#[112, 97, 99, 107, 101, 116]⟩), .const (.string ⟨#[102, 111, 114, 119, 97, 114, 100]⟩), .const (.string ⟨#[195, 169]⟩)] (odds) J J J J J J J J FitL.rf J J J (by kernel_rfl)) (AO (A1 J J) (AQ (A8 (Bw J (Az (A0 J J) (Az (A0 J J) ?_)))))))))
 refine Az (D8 J J (by kernel_rfl) .no (.yes (l := (AY b c (s.size : Int)).1.toNat) J (by omega)) (by omega) (by first | exact Nat.le_refl _ | omega) J) ?_
 refine Az (A0 J J) (Az (A0 J J) (Az (A0 J J) (Az (Ak 9 1 J J (by kernel_rfl)) ?_)))
 have d40 := Cj b (AY b (AY b c (s.size : Int)).2 4).2 (n := 29) (by decide)
 refine Az (Aj J J J (C5 b (AY b (AY b c (s.size : Int)).2 4).2 hb 29) J J J J) ?_
 refine Az (Am 9 1 ((AY b (AY b (AY b c (s.size : Int)).2 4).2 29).1.toNat) J J J (by kernel_rfl) J (by omega) (by rw [odds_len]; omega)) ?_
 refine Az (BW J J (by kernel_rfl) J) ?_
 refine Az (BM J J J (by have := odds_le (k := (AY b (AY b (AY b c (s.size : Int)).2 4).2 29).1.toNat) (by rw [odds_len]; omega); first | omega | (simp only [ByteArray.size_extract]; omega))) ?_
 refine Az (A0 J J) (Az (A0 J J) ?_)
 refine Az (D8 J J (by kernel_rfl) (.yes (l := (AY b c (s.size : Int)).1.toNat) J (by omega)) .no (by omega) (by first | exact Nat.le_refl _ | omega) J) ?_
 refine Az (BM J J J (by have := odds_le (k := (AY b (AY b (AY b c (s.size : Int)).2 4).2 29).1.toNat) (by rw [odds_len]; omega); first | omega | (simp only [Bf, ByteArray.size_extract]; omega))) ?_
 refine Az (A1 J J) (Bj (by kernel_rfl) ?_)
 refine AU ?_
 refine ⟨⟨_, _⟩, ?_, rn [], by exact ⟨⟨⟨_, J, VLe.rf⟩, O⟩, ⟨⟨_, J, BLe.rf⟩, O⟩, Af J, J⟩⟩
 have := odds_le (k := (AY b (AY b (AY b c (s.size : Int)).2 4).2 29).1.toNat) (by rw [odds_len]; omega)
 first | (show (1 : Nat) ≤ _; omega) | (dsimp only; simp only [Bf, ByteArray.size_extract]; omega) | (simp only [Bf, ByteArray.size_extract]; omega) | exact Nat.le_trans ext_le (Nat.le_add_right _ _)
end Go.Proofs.YtkemjhlbokldhaaGreat

namespace Go.Proofs.YtkemjhlbokldhaaGreat
open Go.RowKit
set_option linter.unusedVariables false
set_option linter.unusedSimpArgs false

structure PS where
 i : Nat
 code : Int
 place : Int
def PS.next (st : PS) : PS := ⟨st.i + 1, st.code, st.place⟩
def EL (t : Tokent) : Prop := (t.kind = 1 ∧ t.n = 0 ∧ C7 t.s = true) ∨ (t.kind = 2 ∧ Eu t.s = true) ∨ (t.kind = 3 ∧ t.s = ⟨#[]⟩ ∧ Df t.n = true) ∨ t.kind = 4
def Bt (t : Tokent) (s : ByteArray) : Bool := decide (t.kind = 4) && t.s == s
def BJ (t : Tokent) : Bool := decide (t.kind = 1) && !E2 t.s
def BN (t : Tokent) : Bool := decide (t.kind = 2) || (decide (t.kind = 3) || BJ t)
def FG : ByteArray := ⟨#[110, 111, 116]⟩
def CP (t : Tokent) : Bool := decide (t.kind = 1) && t.s == FG
def BL (t : Tokent) : Bool := BN t || CP t
def Hj (t : Tokent) : Termt := if t.kind = 2 then ⟨t.s, ⟨0, ⟨#[]⟩⟩⟩ else if t.kind = 3 then ⟨⟨#[]⟩, ⟨t.n, ⟨#[]⟩⟩⟩ else ⟨⟨#[]⟩, ⟨0, t.s⟩⟩
def opN (s : ByteArray) : Int := if (s == (⟨#[61]⟩ : ByteArray)) = true then 1 else if (s == (⟨#[33, 61]⟩ : ByteArray)) = true then 2 else if (s == (⟨#[60]⟩ : ByteArray)) = true then 3 else if (s == (⟨#[60, 61]⟩ : ByteArray)) = true then 4 else 0
def opX (s : ByteArray) : Int := if (s == (⟨#[]⟩ : ByteArray)) = true then 0 else if opN s = 0 then -1 else opN s
def Gi (s : ByteArray) : Int := if (s == (⟨#[115, 116, 97, 116, 101]⟩ : ByteArray)) = true then 1 else if (s == (⟨#[101, 118, 101, 110, 116]⟩ : ByteArray)) = true then 2 else if (s == (⟨#[118, 105, 101, 119]⟩ : ByteArray)) = true then 3 else 0
def kindX (s : ByteArray) : Int := if (s == (⟨#[]⟩ : ByteArray)) = true then 0 else if Gi s = 0 then -1 else Gi s
def opI (t : Tokent) : Int := if t.kind = 4 then opX t.s else 0
def opS (t : Tokent) : Int := if t.kind = 4 then opN t.s else 0
def BO (t : Tokent) : Int := if t.kind = 1 then kindX t.s else 0
def CS (t : Tokent) : Int := if t.kind = 1 then Gi t.s else 0
theorem opN_range (s : ByteArray) : 0 ≤ opN s ∧ opN s ≤ 4 := by
 unfold opN; repeat' split
 all_goals omega
theorem kindN_range (s : ByteArray) : 0 ≤ Gi s ∧ Gi s ≤ 3 := by
 unfold Gi; repeat' split
 all_goals omega
theorem opI_pos (t : Tokent) : (0 < opI t ↔ 0 < opS t) ∧ (0 < opI t → opI t = opS t) := by
 have h := opN_range t.s
 unfold opI opS opX
 split
 · split
   · rename_i h2
     have : opN t.s = 0 := by rw [show t.s = ⟨#[]⟩ from ba_iff.1 h2]; decide
     omega
   · split <;> omega
 · omega
theorem kindI_pos (t : Tokent) : (0 < BO t ↔ 0 < CS t) ∧ (0 < BO t → BO t = CS t) := by
 have h := kindN_range t.s
 unfold BO CS kindX
 split
 · split
   · rename_i h2
     have : Gi t.s = 0 := by rw [show t.s = ⟨#[]⟩ from ba_iff.1 h2]; decide
     omega
   · split <;> omega
 · omega
abbrev H8 : Atomt := ⟨⟨#[]⟩, []⟩
section
variable (tk : List Tokent) (e : Int)
def AA (st : PS) : Tokent := if h : st.code = 0 ∧ st.i < tk.length then tk[st.i]'h.2 else ⟨0, 0, ⟨#[]⟩, e⟩
def Bg (c : Int) (st : PS) : PS := if st.code = 0 then ⟨st.i, c, (AA tk e st).pl⟩ else st
def BY (s : ByteArray) (st : PS) : PS := if Bt (AA tk e st) s = true then st.next else Bg tk e 6 st
def BK (st : PS) : ByteArray × PS := if BJ (AA tk e st) = true then ((AA tk e st).s, st.next) else (⟨#[]⟩, Bg tk e 6 st)
def AM (full : Bool) (st : PS) : Termt × PS := if BN (AA tk e st) = true then (if full = true then (BP, Bg tk e 7 st) else (Hj (AA tk e st), st.next)) else (BP, Bg tk e 6 st)
def Dp : Nat → PS → List Termt → List Termt × PS
 | 0, st, a => (a, st)
 | f + 1, st, a => if st.code = 0 then (if BN (AA tk e st) = true ∧ a.length = 6 then (a, Bg tk e 7 st) else
     if Bt (AA tk e (AM tk e false st).2) ⟨#[44]⟩ = true then Dp f (AM tk e false st).2.next (a ++ [(AM tk e false st).1]) else (a ++ [(AM tk e false st).1], (AM tk e false st).2)) else (a, st)
def Fe : Nat → PS → List Termt → List Termt × PS
 | 0, st, a => (a, st)
 | f + 1, st, a => if st.code = 0 then
     (if Bt (AA tk e (AM tk e (decide (a.length = 6)) st).2) ⟨#[44]⟩ = true then Fe f (AM tk e (decide (a.length = 6)) st).2.next (a ++ [(AM tk e (decide (a.length = 6)) st).1]) else (a ++ [(AM tk e (decide (a.length = 6)) st).1], (AM tk e (decide (a.length = 6)) st).2)) else (a, st)
def B7 (st : PS) : PS := BY tk e ⟨#[40]⟩ (BK tk e st).2
def Cd (st : PS) : Atomt × PS := if Bt (AA tk e (B7 tk e st)) ⟨#[41]⟩ = true then (⟨(BK tk e st).1, []⟩, (B7 tk e st).next) else (⟨(BK tk e st).1, (Dp tk e 8 (B7 tk e st) []).1⟩, BY tk e ⟨#[41]⟩ (Dp tk e 8 (B7 tk e st) []).2)
def Ci (st : PS) : Atomt × PS := if Bt (AA tk e (B7 tk e st)) ⟨#[41]⟩ = true then (⟨(BK tk e st).1, []⟩, (B7 tk e st).next) else (⟨(BK tk e st).1, (Fe tk e 8 (B7 tk e st) []).1⟩, BY tk e ⟨#[41]⟩ (Fe tk e 8 (B7 tk e st) []).2)
def CW (st : PS) : Bool := BJ (AA tk e st) && Bt (AA tk e st.next) ⟨#[40]⟩
def CQ (st : PS) : Litt × PS := if CP (AA tk e st) = true then (⟨2, (Cd tk e st.next).1, 0, BP, BP⟩, (Cd tk e st.next).2)
 else if CW tk e st = true then (⟨1, (Cd tk e st).1, 0, BP, BP⟩, (Cd tk e st).2)
 else if opI (AA tk e (AM tk e false st).2) < 1 then (⟨3, H8, opI (AA tk e (AM tk e false st).2), (AM tk e false st).1, BP⟩, Bg tk e 6 (AM tk e false st).2)
 else (⟨3, H8, opI (AA tk e (AM tk e false st).2), (AM tk e false st).1, (AM tk e false (AM tk e false st).2.next).1⟩, (AM tk e false (AM tk e false st).2.next).2)
def opP (st : PS) : PS := if opS (AA tk e st) = 0 then Bg tk e 6 st else st.next
def DT (st : PS) : Litt × PS := if CP (AA tk e st) = true then (⟨2, (Ci tk e st.next).1, 0, BP, BP⟩, (Ci tk e st.next).2)
 else if CW tk e st = true then (⟨1, (Ci tk e st).1, 0, BP, BP⟩, (Ci tk e st).2)
 else (⟨3, H8, opS (AA tk e (AM tk e false st).2), (AM tk e false st).1, (AM tk e false (opP tk e (AM tk e false st).2)).1⟩, (AM tk e false (opP tk e (AM tk e false st).2)).2)
def CU : Nat → PS → List Litt → List Litt × PS
 | 0, st, a => (a, st)
 | f + 1, st, a => if st.code = 0 then (if BL (AA tk e st) = true ∧ a.length = 8 then (a, Bg tk e 7 st) else
     if Bt (AA tk e (CQ tk e st).2) ⟨#[44]⟩ = true then CU f (CQ tk e st).2.next (a ++ [(CQ tk e st).1]) else (a ++ [(CQ tk e st).1], (CQ tk e st).2)) else (a, st)
def EE (a : List Litt) (st : PS) : PS := if a.length = 8 ∧ BL (AA tk e st) = true then Bg tk e 7 st else st
def FC : Nat → PS → List Litt → List Litt × PS
 | 0, st, a => (a, st)
 | f + 1, st, a => if st.code = 0 then
     (if Bt (AA tk e (DT tk e (EE tk e a st)).2) ⟨#[44]⟩ = true then FC f (DT tk e (EE tk e a st)).2.next (a ++ [(DT tk e (EE tk e a st)).1]) else (a ++ [(DT tk e (EE tk e a st)).1], (DT tk e (EE tk e a st)).2)) else (a, st)
def BX (st : PS) : Int × PS := if Bt (AA tk e st) ⟨#[43]⟩ = true then (2, st.next) else if Bt (AA tk e st) ⟨#[45]⟩ = true then (3, st.next) else (1, st)
def C6 (st : PS) : Rulet × PS := if Bt (AA tk e (Cd tk e (BX tk e st).2).2) ⟨#[58, 45]⟩ = true
 then (⟨(BX tk e st).1, (Cd tk e (BX tk e st).2).1, (CU tk e 10 (Cd tk e (BX tk e st).2).2.next []).1⟩, BY tk e ⟨#[46]⟩ (CU tk e 10 (Cd tk e (BX tk e st).2).2.next []).2)
 else (⟨(BX tk e st).1, (Cd tk e (BX tk e st).2).1, []⟩, BY tk e ⟨#[46]⟩ (Cd tk e (BX tk e st).2).2)
def Cl (st : PS) : Rulet × PS := if Bt (AA tk e (Ci tk e (BX tk e st).2).2) ⟨#[58, 45]⟩ = true
 then (⟨(BX tk e st).1, (Ci tk e (BX tk e st).2).1, (FC tk e 10 (Ci tk e (BX tk e st).2).2.next []).1⟩, BY tk e ⟨#[46]⟩ (FC tk e 10 (Ci tk e (BX tk e st).2).2.next []).2)
 else (⟨(BX tk e st).1, (Ci tk e (BX tk e st).2).1, []⟩, BY tk e ⟨#[46]⟩ (Ci tk e (BX tk e st).2).2)
def BB (st : PS) : PS := BY tk e ⟨#[47]⟩ (BK tk e st).2
def CT (k : Int) (st : PS) : Declt × PS := if (AA tk e (BB tk e st.next)).kind = 3 then (if 6 < (AA tk e (BB tk e st.next)).n then (⟨k, (BK tk e st.next).1, 0⟩, BY tk e ⟨#[46]⟩ (Bg tk e 7 (BB tk e st.next))) else (⟨k, (BK tk e st.next).1, (AA tk e (BB tk e st.next)).n⟩, BY tk e ⟨#[46]⟩ (BB tk e st.next).next))
 else (⟨k, (BK tk e st.next).1, 0⟩, BY tk e ⟨#[46]⟩ (Bg tk e 6 (BB tk e st.next)))
def Ef (k : Int) (st : PS) : Declt × PS := if (AA tk e (BB tk e st)).kind = 3 then (if 6 < (AA tk e (BB tk e st)).n then (⟨k, (BK tk e st).1, (AA tk e (BB tk e st)).n⟩, Bg tk e 7 (BB tk e st)) else (⟨k, (BK tk e st).1, (AA tk e (BB tk e st)).n⟩, BY tk e ⟨#[46]⟩ (BB tk e st).next))
 else (⟨k, (BK tk e st).1, 0⟩, Bg tk e 6 (BB tk e st))
def Bo (t : Tokent) : Bool := BJ t || (Bt t ⟨#[43]⟩ || Bt t ⟨#[45]⟩)
abbrev ProgR : Type := List Declt × List Rulet × PS
def Dn : Nat → PS → List Declt → List Rulet → ProgR
 | 0, st, ds, rs => (ds, rs, st)
 | f + 1, st, ds, rs => if st.code = 0 ∧ st.i < tk.length then
     (if (0 < BO (AA tk e st) ∧ ds.length = 16) ∨ (Bo (AA tk e st) = true ∧ rs.length = 24) then Dn f (Bg tk e 7 st) ds rs
     else if 0 < BO (AA tk e st) then Dn f (CT tk e (BO (AA tk e st)) st).2 (ds ++ [(CT tk e (BO (AA tk e st)) st).1]) rs
     else if Bo (AA tk e st) = true then Dn f (C6 tk e st).2 ds (rs ++ [(C6 tk e st).1])
     else Dn f (Bg tk e 6 st) ds rs) else (ds, rs, st)
def FQ (ds : List Declt) (st : PS) : PS := if ds.length = 16 then Bg tk e 7 st else st
def EN (rs : List Rulet) (st : PS) : PS := if Bo (AA tk e st) = true ∧ rs.length = 24 then Bg tk e 7 st else st
def Hw : Nat → PS → List Declt → List Rulet → ProgR
 | 0, st, ds, rs => (ds, rs, st)
 | f + 1, st, ds, rs => if st.code = 0 ∧ st.i < tk.length then
     (if 0 < CS (AA tk e st) then Hw f (Ef tk e (CS (AA tk e st)) (FQ tk e ds st).next).2 (ds ++ [(Ef tk e (CS (AA tk e st)) (FQ tk e ds st).next).1]) rs
     else Hw f (Cl tk e (EN tk e rs st)).2 ds (rs ++ [(Cl tk e (EN tk e rs st)).1])) else (ds, rs, st)
end
abbrev ParseR : Type := Programt × Int × Int
def Iv (r : ProgR) : ParseR := if r.2.2.code = 0 then (⟨r.1, r.2.1⟩, 0, 0) else (⟨[], []⟩, r.2.2.code, r.2.2.place)
def Dw (s : ByteArray) : ParseR := if (AF s).2.1 = 0 then Iv (Dn (AF s).1 s.size 43 ⟨0, 0, 0⟩ [] []) else (⟨[], []⟩, (AF s).2.1, (AF s).2.2)
def Dv (s : ByteArray) : ParseR := if (AF s).2.1 = 0 then Iv (Hw (AF s).1 s.size 43 ⟨0, 0, 0⟩ [] []) else (⟨[], []⟩, (AF s).2.1, (AF s).2.2)

section
variable {tk : List Tokent} {e : Int}
theorem Cq {st : PS} (h : ¬ st.code = 0) : AA tk e st = ⟨0, 0, ⟨#[]⟩, e⟩ := by unfold AA; rw [dif_neg (by intro h2; exact h h2.1)]
theorem here_end {st : PS} (h : ¬ st.i < tk.length) : AA tk e st = ⟨0, 0, ⟨#[]⟩, e⟩ := by unfold AA; rw [dif_neg (by intro h2; exact h h2.2)]
theorem EC {st : PS} (h : st.code = 0) (h2 : st.i < tk.length) : AA tk e st = tk[st.i] := by unfold AA; rw [dif_pos ⟨h, h2⟩]
theorem D0 {st : PS} (h : ¬ (AA tk e st).kind = 0) : st.code = 0 ∧ st.i < tk.length := by
 by_cases q : st.code = 0 ∧ st.i < tk.length
 · exact q
 · unfold AA at h; rw [dif_neg q] at h; exact absurd rfl h
theorem here_tok {st : PS} (hk : ∀ t ∈ tk, EL t) : (AA tk e st).kind = 0 ∨ EL (AA tk e st) := by
 by_cases q : st.code = 0 ∧ st.i < tk.length
 · right; rw [EC q.1 q.2]; exact hk _ (List.getElem_mem _)
 · left; unfold AA; rw [dif_neg q]
theorem DY {t : Tokent} {s : ByteArray} (h : Bt t s = true) : t.kind = 4 := by simp [Bt] at h; exact h.1
theorem IB {t : Tokent} (h : BJ t = true) : t.kind = 1 := by simp [BJ] at h; exact h.1
theorem term_kind {t : Tokent} (h : BN t = true) : ¬ t.kind = 0 := by
 intro h0; simp [BN, BJ, h0] at h
theorem not_kind {t : Tokent} (h : CP t = true) : t.kind = 1 := by simp [CP] at h; exact h.1
theorem starts_kind {t : Tokent} (h : Bo t = true) : ¬ t.kind = 0 := by
 intro h0; simp [Bo, BJ, Bt, h0] at h
theorem HF {t : Tokent} (h : 0 < BO t) : t.kind = 1 := by
 unfold BO at h; split at h
 · assumption
 · omega
theorem opI_kind {t : Tokent} (h : 0 < opI t) : t.kind = 4 := by
 unfold opI at h; split at h
 · assumption
 · omega
theorem Fu {c : Int} {st : PS} (h : ¬ st.code = 0) : Bg tk e c st = st := by simp [Bg, h]
theorem Bq {c : Int} {st : PS} (hc : ¬ c = 0) : ¬ (Bg tk e c st).code = 0 := by
 unfold Bg; split <;> assumption
theorem DA {s : ByteArray} {st : PS} (h : ¬ st.code = 0) : BY tk e s st = st := by simp [BY, Cq h, Bt, Fu h]
theorem word_bad {st : PS} (h : ¬ st.code = 0) : BK tk e st = (⟨#[]⟩, st) := by simp [BK, Cq h, BJ, Fu h]
theorem term_bad {b : Bool} {st : PS} (h : ¬ st.code = 0) : AM tk e b st = (BP, st) := by simp [AM, Cq h, BN, BJ, Fu h]
theorem argsI_bad {f : Nat} {st : PS} {a : List Termt} (h : ¬ st.code = 0) : Dp tk e f st a = (a, st) := by cases f <;> simp [Dp, h]
theorem IT {f : Nat} {st : PS} {a : List Termt} (h : ¬ st.code = 0) : Fe tk e f st a = (a, st) := by cases f <;> simp [Fe, h]
theorem open_bad {st : PS} (h : ¬ st.code = 0) : B7 tk e st = st := by simp [B7, word_bad h, DA h]
theorem atomS_bad {st : PS} (h : ¬ st.code = 0) : Ci tk e st = (H8, st) := by simp [Ci, word_bad h, open_bad h, Cq h, Bt, IT h, DA h]
theorem opP_bad {st : PS} (h : ¬ st.code = 0) : opP tk e st = st := by simp [opP, Cq h, opS, Fu h]
theorem litS_bad {st : PS} (h : ¬ st.code = 0) : (DT tk e st).2 = st := by simp [DT, Cq h, CP, CW, BJ, term_bad h, opP_bad h]
theorem plus_bad {st : PS} (h : ¬ st.code = 0) : BX tk e st = (1, st) := by simp [BX, Cq h, Bt]
theorem ruleS_bad {st : PS} (h : ¬ st.code = 0) : (Cl tk e st).2 = st := by simp [Cl, plus_bad h, atomS_bad h, Cq h, Bt, DA h]
theorem declS_bad {k : Int} {st : PS} (h : ¬ st.code = 0) : (Ef tk e k st).2 = st := by simp [Ef, BB, word_bad h, DA h, Cq h, Fu h]
def Agr {α : Type} (x y : α × PS) : Prop := x.2 = y.2 ∧ (x.2.code = 0 → x.1 = y.1)
theorem term_full {st : PS} {a : List Termt} (h : ¬ (BN (AA tk e st) = true ∧ a.length = 6)) : AM tk e (decide (a.length = 6)) st = AM tk e false st := by
 unfold AM
 by_cases h1 : BN (AA tk e st) = true
 · have h2 : ¬ a.length = 6 := fun q => h ⟨h1, q⟩
   simp [h1, h2]
 · simp [h1]
theorem args_agr : ∀ (f : Nat) (st : PS) (a : List Termt), Agr (Dp tk e f st a) (Fe tk e f st a)
 | 0, st, a => ⟨rfl, fun _ => rfl⟩
 | f + 1, st, a => by
   unfold Dp Fe
   by_cases h0 : st.code = 0
   · rw [if_pos h0, if_pos h0]
     by_cases h1 : BN (AA tk e st) = true ∧ a.length = 6
     · rw [if_pos h1]
       have e1 : AM tk e (decide (a.length = 6)) st = (BP, Bg tk e 7 st) := by simp [AM, h1.1, h1.2]
       have h2 : ¬ (Bg tk e 7 st).code = 0 := Bq (by decide)
       rw [e1, if_neg (by simp [Cq h2, Bt])]
       exact ⟨rfl, fun h => absurd h h2⟩
     · rw [if_neg h1, term_full h1]
       by_cases h3 : Bt (AA tk e (AM tk e false st).2) ⟨#[44]⟩ = true
       · rw [if_pos h3, if_pos h3]; exact args_agr f _ _
       · rw [if_neg h3, if_neg h3]; exact ⟨rfl, fun _ => rfl⟩
   · rw [if_neg h0, if_neg h0]; exact ⟨rfl, fun _ => rfl⟩
theorem DE {s : ByteArray} {st : PS} (h : (BY tk e s st).code = 0) : st.code = 0 := by
 by_cases q : st.code = 0
 · exact q
 · rw [DA q] at h; exact h
theorem Hc (st : PS) : Agr (Cd tk e st) (Ci tk e st) := by
 unfold Cd Ci
 have h := args_agr (tk := tk) (e := e) 8 (B7 tk e st) []
 split
 · exact ⟨rfl, fun _ => rfl⟩
 · exact ⟨by rw [h.1], fun q => by rw [h.2 (DE q)]⟩
theorem lit_agr (st : PS) : Agr (CQ tk e st) (DT tk e st) := by
 unfold CQ DT
 split
 · exact ⟨(Hc _).1, fun q => by rw [(Hc _).2 q]⟩
 · split
   · exact ⟨(Hc _).1, fun q => by rw [(Hc _).2 q]⟩
   · have h := opI_pos (AA tk e (AM tk e false st).2)
     have h2 := (opN_range (AA tk e (AM tk e false st).2).s)
     have h3 : 0 ≤ opS (AA tk e (AM tk e false st).2) := by unfold opS; split <;> omega
     split
     · rename_i h4
       have h5 : opS (AA tk e (AM tk e false st).2) = 0 := by omega
       have e1 : opP tk e (AM tk e false st).2 = Bg tk e 6 (AM tk e false st).2 := by unfold opP; rw [if_pos h5]
       have h6 : ¬ (Bg tk e 6 (AM tk e false st).2).code = 0 := Bq (by decide)
       rw [e1, term_bad h6]
       exact ⟨rfl, fun q => absurd q h6⟩
     · rename_i h4
       have h5 : ¬ opS (AA tk e (AM tk e false st).2) = 0 := by omega
       have e1 : opP tk e (AM tk e false st).2 = (AM tk e false st).2.next := by unfold opP; rw [if_neg h5]
       rw [e1, h.2 (by omega)]
       exact ⟨rfl, fun _ => rfl⟩
theorem body_agr : ∀ (f : Nat) (st : PS) (a : List Litt), Agr (CU tk e f st a) (FC tk e f st a)
 | 0, st, a => ⟨rfl, fun _ => rfl⟩
 | f + 1, st, a => by
   unfold CU FC
   by_cases h0 : st.code = 0
   · rw [if_pos h0, if_pos h0]
     by_cases h1 : BL (AA tk e st) = true ∧ a.length = 8
     · rw [if_pos h1]
       have e1 : EE tk e a st = Bg tk e 7 st := by unfold EE; rw [if_pos ⟨h1.2, h1.1⟩]
       have h2 : ¬ (Bg tk e 7 st).code = 0 := Bq (by decide)
       rw [e1, litS_bad h2, if_neg (by simp [Cq h2, Bt])]
       exact ⟨rfl, fun h => absurd h h2⟩
     · have e1 : EE tk e a st = st := by unfold EE; rw [if_neg fun q => h1 ⟨q.2, q.1⟩]
       have h := lit_agr (tk := tk) (e := e) st
       rw [if_neg h1, e1, ← h.1]
       by_cases h3 : Bt (AA tk e (CQ tk e st).2) ⟨#[44]⟩ = true
       · rw [if_pos h3, if_pos h3, ← h.2 (D0 (by rw [DY h3]; decide)).1]; exact body_agr f _ _
       · rw [if_neg h3, if_neg h3]; exact ⟨rfl, fun q => by rw [h.2 q]⟩
   · rw [if_neg h0, if_neg h0]; exact ⟨rfl, fun _ => rfl⟩
theorem rule_agr (st : PS) : Agr (C6 tk e st) (Cl tk e st) := by
 have h := Hc (tk := tk) (e := e) (BX tk e st).2
 have h2 := body_agr (tk := tk) (e := e) 10 (Cd tk e (BX tk e st).2).2.next []
 unfold C6 Cl
 rw [← h.1]
 split
 · rename_i h3
   refine ⟨by rw [h2.1], fun q => ?_⟩
   rw [h2.2 (DE q), h.2 (D0 (by rw [DY h3]; decide)).1]
 · exact ⟨rfl, fun q => by rw [h.2 (DE q)]⟩
theorem decl_agr (k : Int) (st : PS) : Agr (CT tk e k st) (Ef tk e k st.next) := by
 unfold CT Ef
 split
 · split
   · have h2 : ¬ (Bg tk e 7 (BB tk e st.next)).code = 0 := Bq (by decide)
     rw [DA h2]
     exact ⟨rfl, fun q => absurd q h2⟩
   · exact ⟨rfl, fun _ => rfl⟩
 · have h2 : ¬ (Bg tk e 6 (BB tk e st.next)).code = 0 := Bq (by decide)
   rw [DA h2]
   exact ⟨rfl, fun q => absurd q h2⟩
theorem Du {f : Nat} {st : PS} {ds : List Declt} {rs : List Rulet} (h : ¬ st.code = 0) : Dn tk e f st ds rs = (ds, rs, st) := by cases f <;> simp [Dn, h]
theorem Hq {f : Nat} {st : PS} {ds : List Declt} {rs : List Rulet} (h : ¬ st.code = 0) : Hw tk e f st ds rs = (ds, rs, st) := by cases f <;> simp [Hw, h]
theorem end_bad {ds ds2 : List Declt} {rs rs2 : List Rulet} {st st2 : PS} (h : ¬ st.code = 0) (hc : st.code = st2.code) (hp : st.place = st2.place) : Iv (ds, rs, st) = Iv (ds2, rs2, st2) := by
 unfold Iv
 rw [if_neg h, if_neg (by show ¬ st2.code = 0; omega)]
 show (_, st.code, st.place) = (_, st2.code, st2.place)
 rw [hc, hp]
theorem name_none {t : Tokent} (h : ¬ Bo t = true) : ¬ BJ t = true ∧ Bt t ⟨#[43]⟩ = false ∧ Bt t ⟨#[45]⟩ = false := by
 unfold Bo at h
 cases h1 : BJ t <;> cases h2 : Bt t ⟨#[43]⟩ <;> cases h3 : Bt t ⟨#[45]⟩ <;> simp_all
theorem prog_agr : ∀ (f : Nat) (st : PS) (ds : List Declt) (rs : List Rulet), Iv (Dn tk e f st ds rs) = Iv (Hw tk e f st ds rs)
 | 0, st, ds, rs => rfl
 | f + 1, st, ds, rs => by
   unfold Dn Hw
   by_cases h0 : st.code = 0 ∧ st.i < tk.length
   · rw [if_pos h0, if_pos h0]
     have hk := kindI_pos (AA tk e st)
     by_cases h1 : 0 < BO (AA tk e st)
     · have h1' : 0 < CS (AA tk e st) := hk.1.1 h1
       rw [if_pos h1']
       have hst : Bo (AA tk e st) = false := by
         have q := HF h1
         have q2 : E2 (AA tk e st).s = true := by
           unfold CS Gi at h1'
           rw [if_pos q] at h1'
           unfold E2
           repeat' split at h1'
           · rename_i h; rw [ba_iff.1 h]; simp [ByteArray.toList_eq]
           · rename_i h; rw [ba_iff.1 h]; simp [ByteArray.toList_eq]
           · rename_i h; rw [ba_iff.1 h]; simp [ByteArray.toList_eq]
           · omega
         simp [Bo, BJ, Bt, q, q2]
       by_cases h2 : ds.length = 16
       · have h3 : ¬ (Bg tk e 7 st).code = 0 := Bq (by decide)
         have h3' : ¬ (Bg tk e 7 st).next.code = 0 := h3
         have e1 : FQ tk e ds st = Bg tk e 7 st := by unfold FQ; rw [if_pos h2]
         rw [if_pos (.inl ⟨h1, h2⟩), Du h3, e1]
         have h4 := declS_bad (tk := tk) (e := e) (k := CS (AA tk e st)) h3'
         rw [Hq (by rw [h4]; exact h3'), h4]
         exact end_bad h3 rfl rfl
       · have e1 : FQ tk e ds st = st := by unfold FQ; rw [if_neg h2]
         rw [if_neg (by rw [hst]; simp [h2]), if_pos h1, e1, hk.2 h1]
         have h := decl_agr (tk := tk) (e := e) (CS (AA tk e st)) st
         by_cases h5 : (CT tk e (CS (AA tk e st)) st).2.code = 0
         · rw [← h.1, ← h.2 h5]; exact prog_agr f _ _ _
         · rw [Du h5, ← h.1, Hq h5]
           exact end_bad h5 rfl rfl
     · rw [if_neg (show ¬ 0 < CS (AA tk e st) by omega)]
       by_cases h2 : Bo (AA tk e st) = true ∧ rs.length = 24
       · have h3 : ¬ (Bg tk e 7 st).code = 0 := Bq (by decide)
         have e1 : EN tk e rs st = Bg tk e 7 st := by unfold EN; rw [if_pos h2]
         rw [if_pos (.inr h2), Du h3, e1]
         have h4 := ruleS_bad (tk := tk) (e := e) h3
         rw [Hq (by rw [h4]; exact h3), h4]
         exact end_bad h3 rfl rfl
       · have e1 : EN tk e rs st = st := by unfold EN; rw [if_neg h2]
         rw [if_neg (by intro q; rcases q with q | q; exact h1 q.1; exact h2 q), if_neg h1, e1]
         by_cases h4 : Bo (AA tk e st) = true
         · rw [if_pos h4]
           have h := rule_agr (tk := tk) (e := e) st
           by_cases h5 : (C6 tk e st).2.code = 0
           · rw [← h.1, ← h.2 h5]; exact prog_agr f _ _ _
           · rw [Du h5, ← h.1, Hq h5]
             exact end_bad h5 rfl rfl
         · rw [if_neg h4]
           have h3 : ¬ (Bg tk e 6 st).code = 0 := Bq (by decide)
           obtain ⟨n1, n2, n3⟩ := name_none h4
           have e2 : BX tk e st = (1, st) := by simp [BX, n2, n3]
           have e3 : BK tk e st = (⟨#[]⟩, Bg tk e 6 st) := by unfold BK; rw [if_neg n1]
           have e4 : B7 tk e st = Bg tk e 6 st := by unfold B7; rw [e3, DA h3]
           have e5 : (Ci tk e st).2 = Bg tk e 6 st := by
             unfold Ci; rw [e4, if_neg (by simp [Cq h3, Bt]), IT h3, DA h3]
           have e6 : (Cl tk e st).2 = Bg tk e 6 st := by
             unfold Cl; rw [e2, e5, if_neg (by simp [Cq h3, Bt]), DA h3]
           rw [Du h3, e6, Hq h3]
           exact end_bad h3 rfl rfl
   · rw [if_neg h0, if_neg h0]
theorem parse_agr (s : ByteArray) : Dw s = Dv s := by
 unfold Dw Dv
 rw [prog_agr]
end
end Go.Proofs.YtkemjhlbokldhaaGreat

namespace Go.Proofs.YtkemjhlbokldhaaGreat
open Go.RowKit
set_option linter.unusedVariables false
set_option linter.unusedSimpArgs false

section
variable {tk : List Tokent} {e : Int}
theorem Es {c : Int} {st : PS} : (Bg tk e c st).i = st.i := by unfold Bg; split <;> rfl
theorem fault_ok {c : Int} {st : PS} (h : st.code = 0) : Bg tk e c st = ⟨st.i, c, (AA tk e st).pl⟩ := if_pos h
theorem Fp {st : PS} (h : ¬ (AA tk e st).kind = 0) : st.i < tk.length := (D0 h).2
theorem Ck {st : PS} {s : ByteArray} (h : Bt (AA tk e st) s = true) : st.i < tk.length := Fp (by rw [DY h]; decide)
theorem name_lt {st : PS} (h : BJ (AA tk e st) = true) : st.i < tk.length := Fp (by rw [IB h]; decide)
theorem term_lt {st : PS} (h : BN (AA tk e st) = true) : st.i < tk.length := Fp (term_kind h)
theorem not_lt {st : PS} (h : CP (AA tk e st) = true) : st.i < tk.length := Fp (by rw [not_kind h]; decide)
theorem take_ok {s : ByteArray} {st : PS} (h : Bt (AA tk e st) s = true) : BY tk e s st = st.next := if_pos h
theorem take_no {s : ByteArray} {st : PS} (h : Bt (AA tk e st) s = false) : BY tk e s st = Bg tk e 6 st := if_neg (by rw [h]; decide)
theorem word_ok {st : PS} (h : BJ (AA tk e st) = true) : BK tk e st = ((AA tk e st).s, st.next) := if_pos h
theorem HQ {st : PS} (h : BJ (AA tk e st) = false) : BK tk e st = (⟨#[]⟩, Bg tk e 6 st) := if_neg (by rw [h]; decide)
theorem FI {b : Bool} {st : PS} (h : BN (AA tk e st) = false) : AM tk e b st = (BP, Bg tk e 6 st) := if_neg (by rw [h]; decide)
theorem Hi {st : PS} (h : BN (AA tk e st) = true) : AM tk e false st = (Hj (AA tk e st), st.next) := by unfold AM; rw [if_pos h, if_neg (by decide)]
theorem term_over {st : PS} (h : BN (AA tk e st) = true) : AM tk e true st = (BP, Bg tk e 7 st) := by unfold AM; rw [if_pos h, if_pos rfl]
theorem FJ {s : ByteArray} {st : PS} (h : st.i ≤ tk.length) : (BY tk e s st).i ≤ tk.length := by
 unfold BY; split
 · rename_i h2; exact Ck h2
 · rw [Es]; exact h
theorem HS {st : PS} (h : st.i ≤ tk.length) : (BK tk e st).2.i ≤ tk.length := by
 unfold BK; split
 · rename_i h2; exact name_lt h2
 · show (Bg tk e 6 st).i ≤ _; rw [Es]; exact h
theorem B5 {b : Bool} {st : PS} (h : st.i ≤ tk.length) : (AM tk e b st).2.i ≤ tk.length := by
 unfold AM; split
 · rename_i h2
   split
   · show (Bg tk e 7 st).i ≤ _; rw [Es]; exact h
   · exact term_lt h2
 · show (Bg tk e 6 st).i ≤ _; rw [Es]; exact h
theorem open_le {st : PS} (h : st.i ≤ tk.length) : (B7 tk e st).i ≤ tk.length := FJ (HS h)
theorem slash_le {st : PS} (h : st.i ≤ tk.length) : (BB tk e st).i ≤ tk.length := FJ (HS h)
theorem argsI_le : ∀ (f : Nat) (st : PS) (a : List Termt), st.i ≤ tk.length → (Dp tk e f st a).2.i ≤ tk.length
 | 0, st, a, h => h
 | f + 1, st, a, h => by
   unfold Dp
   split
   · split
     · show (Bg tk e 7 st).i ≤ _; rw [Es]; exact h
     · split
       · rename_i h2; exact argsI_le f _ _ (Ck h2)
       · exact B5 h
   · exact h
theorem Gk {st : PS} (h : st.i ≤ tk.length) : (Cd tk e st).2.i ≤ tk.length := by
 unfold Cd; split
 · rename_i h2; exact Ck h2
 · exact FJ (argsI_le 8 _ _ (open_le h))
theorem atomS_le {st : PS} (h : st.i ≤ tk.length) : (Ci tk e st).2.i ≤ tk.length := by rw [← (Hc st).1]; exact Gk h
theorem litI_le {st : PS} (h : st.i ≤ tk.length) : (CQ tk e st).2.i ≤ tk.length := by
 unfold CQ; split
 · rename_i h2; exact Gk (not_lt h2)
 · split
   · exact Gk h
   · split
     · show (Bg tk e 6 _).i ≤ _; rw [Es]; exact B5 h
     · rename_i h3
       exact B5 (st := (AM tk e false st).2.next) (Fp (st := (AM tk e false st).2) (e := e) (by rw [opI_kind (t := AA tk e (AM tk e false st).2) (by omega)]; decide))
theorem litS_le {st : PS} (h : st.i ≤ tk.length) : (DT tk e st).2.i ≤ tk.length := by rw [← (lit_agr st).1]; exact litI_le h
theorem I1 : ∀ (f : Nat) (st : PS) (a : List Litt), st.i ≤ tk.length → (CU tk e f st a).2.i ≤ tk.length
 | 0, st, a, h => h
 | f + 1, st, a, h => by
   unfold CU
   split
   · split
     · show (Bg tk e 7 st).i ≤ _; rw [Es]; exact h
     · split
       · rename_i h2; exact I1 f _ _ (Ck h2)
       · exact litI_le h
   · exact h
theorem plus_le {st : PS} (h : st.i ≤ tk.length) : (BX tk e st).2.i ≤ tk.length := by
 unfold BX; split
 · rename_i h2; exact Ck h2
 · split
   · rename_i h2; exact Ck h2
   · exact h
theorem ruleI_le {st : PS} (h : st.i ≤ tk.length) : (C6 tk e st).2.i ≤ tk.length := by
 unfold C6; split
 · rename_i h2; exact FJ (I1 10 _ _ (Ck h2))
 · exact FJ (Gk (plus_le h))
theorem ruleS_le {st : PS} (h : st.i ≤ tk.length) : (Cl tk e st).2.i ≤ tk.length := by rw [← (rule_agr st).1]; exact ruleI_le h
theorem declI_le {k : Int} {st : PS} (h : st.i < tk.length) : (CT tk e k st).2.i ≤ tk.length := by
 have h1 : (BB tk e st.next).i ≤ tk.length := slash_le h
 unfold CT; split
 · rename_i h3
   split
   · refine FJ ?_; rw [Es]; exact h1
   · refine FJ (st := (BB tk e st.next).next) (Fp (st := BB tk e st.next) (e := e) (by rw [h3]; decide))
 · refine FJ ?_; rw [Es]; exact h1
theorem declS_le {k : Int} {st : PS} (h : st.i ≤ tk.length) : (Ef tk e k st).2.i ≤ tk.length := by
 have h1 : (BB tk e st).i ≤ tk.length := slash_le h
 unfold Ef; split
 · rename_i h3
   split
   · show (Bg tk e 7 _).i ≤ _; rw [Es]; exact h1
   · refine FJ (st := (BB tk e st).next) (Fp (st := BB tk e st) (e := e) (by rw [h3]; decide))
 · show (Bg tk e 6 _).i ≤ _; rw [Es]; exact h1
theorem of_var {t : Tokent} (h : t.kind = 2) : Hj t = ⟨t.s, ⟨0, ⟨#[]⟩⟩⟩ := if_pos h
theorem of_num {t : Tokent} (h : ¬ t.kind = 2) (h2 : t.kind = 3) : Hj t = ⟨⟨#[]⟩, ⟨t.n, ⟨#[]⟩⟩⟩ := (if_neg h).trans (if_pos h2)
theorem of_name {t : Tokent} (h : ¬ t.kind = 2) (h2 : ¬ t.kind = 3) : Hj t = ⟨⟨#[]⟩, ⟨0, t.s⟩⟩ := (if_neg h).trans (if_neg h2)
theorem of_any {t : Tokent} (h : EL t) (h2 : ¬ t.kind = 2) (h4 : ¬ t.kind = 4) : Hj t = ⟨⟨#[]⟩, ⟨t.n, t.s⟩⟩ := by
 rcases h with h | h | h | h
 · rw [of_name h2 (by omega), h.2.1]
 · exact absurd h.1 h2
 · rw [of_num h2 h.1, h.2.1]
 · exact absurd h h4
theorem args_full {st : PS} {a : List Termt} (h0 : st.code = 0) (h1 : BN (AA tk e st) = true) (h2 : (a.length : Int) = 6) : Dp tk e (8 - a.length) st a = (a, Bg tk e 7 st) := by
 obtain ⟨f, hf⟩ : ∃ f, 8 - a.length = f + 1 := ⟨1, by omega⟩
 rw [hf]; unfold Dp
 rw [if_pos h0, if_pos ⟨h1, by omega⟩]
theorem args_last {st : PS} {a : List Termt} (h0 : st.code = 0) (h1 : ¬ (BN (AA tk e st) = true ∧ (a.length : Int) = 6)) (hl : a.length ≤ 6) (hs : Bt (AA tk e (AM tk e false st).2) ⟨#[44]⟩ = false) : Dp tk e (8 - a.length) st a = (a ++ [(AM tk e false st).1], (AM tk e false st).2) := by
 obtain ⟨f, hf⟩ : ∃ f, 8 - a.length = f + 1 := ⟨7 - a.length, by omega⟩
 rw [hf]; unfold Dp
 rw [if_pos h0, if_neg (fun q => h1 ⟨q.1, by omega⟩), if_neg (by rw [hs]; decide)]
theorem args_more {st : PS} {a : List Termt} (h0 : st.code = 0) (h1 : ¬ (BN (AA tk e st) = true ∧ (a.length : Int) = 6)) (hl : a.length ≤ 6) (hs : Bt (AA tk e (AM tk e false st).2) ⟨#[44]⟩ = true) :
   a.length + 1 ≤ 6 ∧ (AM tk e false st).2.i < tk.length ∧ Dp tk e (8 - (a ++ [(AM tk e false st).1]).length) (AM tk e false st).2.next (a ++ [(AM tk e false st).1]) = Dp tk e (8 - a.length) st a := by
 have h6 : ¬ a.length = 6 := fun q => by
   have h2 : BN (AA tk e st) = false := by
     cases h : BN (AA tk e st)
     · rfl
     · exact absurd ⟨h, by omega⟩ h1
   rw [FI h2] at hs
   have h3 : ¬ (Bg tk e 6 st).code = 0 := Bq (by decide)
   simp [Cq h3, Bt] at hs
 refine ⟨by omega, Ck hs, ?_⟩
 obtain ⟨f, hf⟩ : ∃ f, 8 - a.length = f + 1 := ⟨7 - a.length, by omega⟩
 have hf2 : 8 - (a ++ [(AM tk e false st).1]).length = f := by simp; omega
 rw [hf, hf2, Dp, if_pos h0, if_neg (fun q => h1 ⟨q.1, by omega⟩), if_pos hs]
theorem argsS_last {st : PS} {a : List Termt} (h0 : st.code = 0) (hl : a.length ≤ 6) (hs : Bt (AA tk e (AM tk e (decide ((a.length : Int) = 6)) st).2) ⟨#[44]⟩ = false) : Fe tk e (8 - a.length) st a = (a ++ [(AM tk e (decide ((a.length : Int) = 6)) st).1], (AM tk e (decide ((a.length : Int) = 6)) st).2) := by
 have ed : decide ((a.length : Int) = 6) = decide (a.length = 6) := by rw [decide_eq_decide]; omega
 rw [ed] at hs ⊢
 obtain ⟨f, hf⟩ : ∃ f, 8 - a.length = f + 1 := ⟨7 - a.length, by omega⟩
 rw [hf]; unfold Fe
 rw [if_pos h0, if_neg (by rw [hs]; decide)]
theorem argsS_more {st : PS} {a : List Termt} (h0 : st.code = 0) (hl : a.length ≤ 6) (hs : Bt (AA tk e (AM tk e (decide ((a.length : Int) = 6)) st).2) ⟨#[44]⟩ = true) :
   a.length + 1 ≤ 6 ∧ (AM tk e (decide ((a.length : Int) = 6)) st).2.i < tk.length ∧ Fe tk e (8 - (a ++ [(AM tk e (decide ((a.length : Int) = 6)) st).1]).length) (AM tk e (decide ((a.length : Int) = 6)) st).2.next (a ++ [(AM tk e (decide ((a.length : Int) = 6)) st).1]) = Fe tk e (8 - a.length) st a := by
 have ed : decide ((a.length : Int) = 6) = decide (a.length = 6) := by rw [decide_eq_decide]; omega
 rw [ed] at hs ⊢
 have h6 : ¬ a.length = 6 := fun q => by
   have h3 : ¬ (AM tk e (decide (a.length = 6)) st).2.code = 0 := by
     unfold AM; split
     · rw [if_pos (by simp [q])]; exact Bq (by decide)
     · exact Bq (by decide)
   simp [Cq h3, Bt] at hs
 refine ⟨by omega, Ck hs, ?_⟩
 obtain ⟨f, hf⟩ : ∃ f, 8 - a.length = f + 1 := ⟨7 - a.length, by omega⟩
 have hf2 : 8 - (a ++ [(AM tk e (decide (a.length = 6)) st).1]).length = f := by simp; omega
 rw [hf, hf2, Fe, if_pos h0, if_pos hs]
theorem atomI_none {st : PS} (h : Bt (AA tk e (B7 tk e st)) ⟨#[41]⟩ = true) : Cd tk e st = (⟨(BK tk e st).1, []⟩, (B7 tk e st).next) := if_pos h
theorem atomS_none {st : PS} (h : Bt (AA tk e (B7 tk e st)) ⟨#[41]⟩ = true) : Ci tk e st = (⟨(BK tk e st).1, []⟩, (B7 tk e st).next) := if_pos h
theorem FE {st s2 : PS} {a : List Termt} (h : Bt (AA tk e (B7 tk e st)) ⟨#[41]⟩ = false) (h2 : Dp tk e 8 (B7 tk e st) [] = (a, s2)) : Cd tk e st = (⟨(BK tk e st).1, a⟩, BY tk e ⟨#[41]⟩ s2) := by
 unfold Cd; rw [if_neg (by rw [h]; decide), h2]
theorem atomS_some {st s2 : PS} {a : List Termt} (h : Bt (AA tk e (B7 tk e st)) ⟨#[41]⟩ = false) (h2 : Fe tk e 8 (B7 tk e st) [] = (a, s2)) : Ci tk e st = (⟨(BK tk e st).1, a⟩, BY tk e ⟨#[41]⟩ s2) := by
 unfold Ci; rw [if_neg (by rw [h]; decide), h2]
theorem litI_not {st : PS} (h : CP (AA tk e st) = true) : CQ tk e st = (⟨2, (Cd tk e st.next).1, 0, BP, BP⟩, (Cd tk e st.next).2) := if_pos h
theorem litS_not {st : PS} (h : CP (AA tk e st) = true) : DT tk e st = (⟨2, (Ci tk e st.next).1, 0, BP, BP⟩, (Ci tk e st.next).2) := if_pos h
theorem litI_is {st : PS} (h : CP (AA tk e st) = false) (h2 : CW tk e st = true) : CQ tk e st = (⟨1, (Cd tk e st).1, 0, BP, BP⟩, (Cd tk e st).2) := (if_neg (by rw [h]; decide)).trans (if_pos h2)
theorem litS_is {st : PS} (h : CP (AA tk e st) = false) (h2 : CW tk e st = true) : DT tk e st = (⟨1, (Ci tk e st).1, 0, BP, BP⟩, (Ci tk e st).2) := (if_neg (by rw [h]; decide)).trans (if_pos h2)
theorem CF {st : PS} (h : CP (AA tk e st) = false) (h2 : CW tk e st = false) (h3 : opI (AA tk e (AM tk e false st).2) < 1) : CQ tk e st = (⟨3, H8, opI (AA tk e (AM tk e false st).2), (AM tk e false st).1, BP⟩, Bg tk e 6 (AM tk e false st).2) :=
 (if_neg (by rw [h]; decide)).trans ((if_neg (by rw [h2]; decide)).trans (if_pos h3))
theorem CE {st : PS} (h : CP (AA tk e st) = false) (h2 : CW tk e st = false) (h3 : ¬ opI (AA tk e (AM tk e false st).2) < 1) : CQ tk e st = (⟨3, H8, opI (AA tk e (AM tk e false st).2), (AM tk e false st).1, (AM tk e false (AM tk e false st).2.next).1⟩, (AM tk e false (AM tk e false st).2.next).2) :=
 (if_neg (by rw [h]; decide)).trans ((if_neg (by rw [h2]; decide)).trans (if_neg h3))
theorem EA {st s2 : PS} (h : CP (AA tk e st) = false) (h2 : CW tk e st = false) (h3 : opP tk e (AM tk e false st).2 = s2) : DT tk e st = (⟨3, H8, opS (AA tk e (AM tk e false st).2), (AM tk e false st).1, (AM tk e false s2).1⟩, (AM tk e false s2).2) := by
 subst h3
 exact (if_neg (by rw [h]; decide)).trans (if_neg (by rw [h2]; decide))
theorem F4 {st : PS} (h : ¬ opI (AA tk e st) < 1) : st.i < tk.length := Fp (by rw [opI_kind (t := AA tk e st) (by omega)]; decide)
theorem opP_no {st : PS} (h : opS (AA tk e st) = 0) : opP tk e st = Bg tk e 6 st := if_pos h
theorem Gv {st : PS} (h : ¬ opS (AA tk e st) = 0) : opP tk e st = st.next ∧ st.i < tk.length := by
 refine ⟨if_neg h, Fp (e := e) ?_⟩
 intro h0; apply h; unfold opS; rw [if_neg (by omega)]
theorem body_full {st : PS} {a : List Litt} (h0 : st.code = 0) (h1 : BL (AA tk e st) = true) (h2 : (a.length : Int) = 8) : CU tk e (10 - a.length) st a = (a, Bg tk e 7 st) := by
 obtain ⟨f, hf⟩ : ∃ f, 10 - a.length = f + 1 := ⟨1, by omega⟩
 rw [hf]; unfold CU
 rw [if_pos h0, if_pos ⟨h1, by omega⟩]
theorem body_last {st : PS} {a : List Litt} (h0 : st.code = 0) (h1 : ¬ (BL (AA tk e st) = true ∧ (a.length : Int) = 8)) (hl : a.length ≤ 8) (hs : Bt (AA tk e (CQ tk e st).2) ⟨#[44]⟩ = false) : CU tk e (10 - a.length) st a = (a ++ [(CQ tk e st).1], (CQ tk e st).2) := by
 obtain ⟨f, hf⟩ : ∃ f, 10 - a.length = f + 1 := ⟨9 - a.length, by omega⟩
 rw [hf]; unfold CU
 rw [if_pos h0, if_neg (fun q => h1 ⟨q.1, by omega⟩), if_neg (by rw [hs]; decide)]
theorem lit_none {st : PS} (h : BL (AA tk e st) = false) : ¬ (CQ tk e st).2.code = 0 := by
 simp only [BL, Bool.or_eq_false_iff] at h
 have h1 : CW tk e st = false := by
   have : BJ (AA tk e st) = false := by
     have := h.1; unfold BN at this; simp only [Bool.or_eq_false_iff] at this; exact this.2.2
   simp [CW, this]
 have h3 : ¬ (Bg tk e 6 st).code = 0 := Bq (by decide)
 have h4 : opI (AA tk e (AM tk e false st).2) < 1 := by rw [FI h.1]; simp [Cq h3, opI]
 rw [CF h.2 h1 h4, FI h.1]
 exact Bq (by decide)
theorem body_more {st : PS} {a : List Litt} (h0 : st.code = 0) (h1 : ¬ (BL (AA tk e st) = true ∧ (a.length : Int) = 8)) (hl : a.length ≤ 8) (hs : Bt (AA tk e (CQ tk e st).2) ⟨#[44]⟩ = true) :
   a.length + 1 ≤ 8 ∧ (CQ tk e st).2.i < tk.length ∧ CU tk e (10 - (a ++ [(CQ tk e st).1]).length) (CQ tk e st).2.next (a ++ [(CQ tk e st).1]) = CU tk e (10 - a.length) st a := by
 have h6 : ¬ a.length = 8 := fun q => by
   have h2 : BL (AA tk e st) = false := by
     cases h : BL (AA tk e st)
     · rfl
     · exact absurd ⟨h, by omega⟩ h1
   simp [Cq (lit_none h2), Bt] at hs
 refine ⟨by omega, Ck hs, ?_⟩
 obtain ⟨f, hf⟩ : ∃ f, 10 - a.length = f + 1 := ⟨9 - a.length, by omega⟩
 have hf2 : 10 - (a ++ [(CQ tk e st).1]).length = f := by simp; omega
 rw [hf, hf2, CU, if_pos h0, if_neg (fun q => h1 ⟨q.1, by omega⟩), if_pos hs]
theorem bodyS_last {st s2 : PS} {a : List Litt} (h0 : st.code = 0) (hf : EE tk e a st = s2) (hl : a.length ≤ 8) (hs : Bt (AA tk e (DT tk e s2).2) ⟨#[44]⟩ = false) : FC tk e (10 - a.length) st a = (a ++ [(DT tk e s2).1], (DT tk e s2).2) := by
 subst hf
 obtain ⟨f, hf⟩ : ∃ f, 10 - a.length = f + 1 := ⟨9 - a.length, by omega⟩
 rw [hf]; unfold FC
 rw [if_pos h0, if_neg (by rw [hs]; decide)]
theorem bodyS_more {st s2 : PS} {a : List Litt} (h0 : st.code = 0) (hf : EE tk e a st = s2) (hl : a.length ≤ 8) (hs : Bt (AA tk e (DT tk e s2).2) ⟨#[44]⟩ = true) :
   a.length + 1 ≤ 8 ∧ (DT tk e s2).2.i < tk.length ∧ FC tk e (10 - (a ++ [(DT tk e s2).1]).length) (DT tk e s2).2.next (a ++ [(DT tk e s2).1]) = FC tk e (10 - a.length) st a := by
 subst hf
 have h6 : ¬ a.length = 8 := fun q => by
   have h3 : ¬ (DT tk e (EE tk e a st)).2.code = 0 := by
     by_cases h2 : BL (AA tk e st) = true
     · have e1 : EE tk e a st = Bg tk e 7 st := by unfold EE; rw [if_pos ⟨q, h2⟩]
       have h3 : ¬ (Bg tk e 7 st).code = 0 := Bq (by decide)
       rw [e1, litS_bad h3]; exact h3
     · have e1 : EE tk e a st = st := by unfold EE; rw [if_neg fun q => h2 q.2]
       rw [e1, ← (lit_agr st).1]; exact lit_none (by simpa using h2)
   simp [Cq h3, Bt] at hs
 refine ⟨by omega, Ck hs, ?_⟩
 obtain ⟨f, hf⟩ : ∃ f, 10 - a.length = f + 1 := ⟨9 - a.length, by omega⟩
 have hf2 : 10 - (a ++ [(DT tk e (EE tk e a st)).1]).length = f := by simp; omega
 rw [hf, hf2, FC, if_pos h0, if_pos hs]
theorem full_on {a : List Litt} {st : PS} (h : (a.length : Int) = 8) (h2 : BL (AA tk e st) = true) : EE tk e a st = Bg tk e 7 st := if_pos ⟨by omega, h2⟩
theorem full_off {a : List Litt} {st : PS} (h : ¬ ((a.length : Int) = 8 ∧ BL (AA tk e st) = true)) : EE tk e a st = st := if_neg fun q => h ⟨by omega, q.2⟩
theorem plus_plus {st : PS} (h : Bt (AA tk e st) ⟨#[43]⟩ = true) : BX tk e st = (2, st.next) := if_pos h
theorem plus_minus {st : PS} (h : Bt (AA tk e st) ⟨#[43]⟩ = false) (h2 : Bt (AA tk e st) ⟨#[45]⟩ = true) : BX tk e st = (3, st.next) := (if_neg (by rw [h]; decide)).trans (if_pos h2)
theorem I6 {st : PS} (h : Bt (AA tk e st) ⟨#[43]⟩ = false) (h2 : Bt (AA tk e st) ⟨#[45]⟩ = false) : BX tk e st = (1, st) := (if_neg (by rw [h]; decide)).trans (if_neg (by rw [h2]; decide))
theorem ruleI_body {st : PS} (h : Bt (AA tk e (Cd tk e (BX tk e st).2).2) ⟨#[58, 45]⟩ = true) : C6 tk e st = (⟨(BX tk e st).1, (Cd tk e (BX tk e st).2).1, (CU tk e 10 (Cd tk e (BX tk e st).2).2.next []).1⟩, BY tk e ⟨#[46]⟩ (CU tk e 10 (Cd tk e (BX tk e st).2).2.next []).2) := if_pos h
theorem ruleI_bare {st : PS} (h : Bt (AA tk e (Cd tk e (BX tk e st).2).2) ⟨#[58, 45]⟩ = false) : C6 tk e st = (⟨(BX tk e st).1, (Cd tk e (BX tk e st).2).1, []⟩, BY tk e ⟨#[46]⟩ (Cd tk e (BX tk e st).2).2) := if_neg (by rw [h]; decide)
theorem ruleS_body {st s2 : PS} {b : List Litt} (h : Bt (AA tk e (Ci tk e (BX tk e st).2).2) ⟨#[58, 45]⟩ = true) (h2 : FC tk e 10 (Ci tk e (BX tk e st).2).2.next [] = (b, s2)) : Cl tk e st = (⟨(BX tk e st).1, (Ci tk e (BX tk e st).2).1, b⟩, BY tk e ⟨#[46]⟩ s2) := by
 unfold Cl; rw [if_pos h, h2]
theorem ruleS_bare {st : PS} (h : Bt (AA tk e (Ci tk e (BX tk e st).2).2) ⟨#[58, 45]⟩ = false) : Cl tk e st = (⟨(BX tk e st).1, (Ci tk e (BX tk e st).2).1, []⟩, BY tk e ⟨#[46]⟩ (Ci tk e (BX tk e st).2).2) := if_neg (by rw [h]; decide)
theorem declI_no {k : Int} {st : PS} (h : ¬ (AA tk e (BB tk e st.next)).kind = 3) : CT tk e k st = (⟨k, (BK tk e st.next).1, 0⟩, BY tk e ⟨#[46]⟩ (Bg tk e 6 (BB tk e st.next))) := if_neg h
theorem declI_big {k : Int} {st : PS} (h : (AA tk e (BB tk e st.next)).kind = 3) (h2 : 6 < (AA tk e (BB tk e st.next)).n) : CT tk e k st = (⟨k, (BK tk e st.next).1, 0⟩, BY tk e ⟨#[46]⟩ (Bg tk e 7 (BB tk e st.next))) := (if_pos h).trans (if_pos h2)
theorem declI_ok {k : Int} {st : PS} (h : (AA tk e (BB tk e st.next)).kind = 3) (h2 : ¬ 6 < (AA tk e (BB tk e st.next)).n) : CT tk e k st = (⟨k, (BK tk e st.next).1, (AA tk e (BB tk e st.next)).n⟩, BY tk e ⟨#[46]⟩ (BB tk e st.next).next) := (if_pos h).trans (if_neg h2)
theorem declS_no {k : Int} {st : PS} (h : ¬ (AA tk e (BB tk e st)).kind = 3) : Ef tk e k st = (⟨k, (BK tk e st).1, 0⟩, Bg tk e 6 (BB tk e st)) := if_neg h
theorem declS_big {k : Int} {st : PS} (h : (AA tk e (BB tk e st)).kind = 3) (h2 : 6 < (AA tk e (BB tk e st)).n) : Ef tk e k st = (⟨k, (BK tk e st).1, (AA tk e (BB tk e st)).n⟩, Bg tk e 7 (BB tk e st)) := (if_pos h).trans (if_pos h2)
theorem declS_ok {k : Int} {st : PS} (h : (AA tk e (BB tk e st)).kind = 3) (h2 : ¬ 6 < (AA tk e (BB tk e st)).n) : Ef tk e k st = (⟨k, (BK tk e st).1, (AA tk e (BB tk e st)).n⟩, BY tk e ⟨#[46]⟩ (BB tk e st).next) := (if_pos h).trans (if_neg h2)
theorem num_lt {st : PS} (h : (AA tk e st).kind = 3) : st.i < tk.length := Fp (by rw [h]; decide)
def muP (st : PS) (ds : List Declt) (rs : List Rulet) : Nat := (43 - ds.length - rs.length) * 2 + (if st.code = 0 then 1 else 0)
theorem Ea {st st2 : PS} {ds : List Declt} {rs : List Rulet} (h : st.code = 0) (h2 : ¬ st2.code = 0) : muP st2 ds rs < muP st ds rs := by
 unfold muP; rw [if_pos h, if_neg h2]; omega
theorem Il {st st2 : PS} {ds : List Declt} {rs : List Rulet} {d : Declt} (h : st.code = 0) (h2 : ds.length + rs.length < 43) : muP st2 (ds ++ [d]) rs < muP st ds rs := by
 unfold muP; rw [if_pos h, List.length_append, List.length_cons, List.length_nil]; split <;> omega
theorem F6 {st st2 : PS} {ds : List Declt} {rs : List Rulet} {r : Rulet} (h : st.code = 0) (h2 : ds.length + rs.length < 43) : muP st2 ds (rs ++ [r]) < muP st ds rs := by
 unfold muP; rw [if_pos h, List.length_append, List.length_cons, List.length_nil]; split <;> omega
def E7 (tk : List Tokent) (e : Int) (st : PS) (ds : List Declt) (rs : List Rulet) : ProgR := Dn tk e (43 - ds.length - rs.length) st ds rs
theorem progT_end {st : PS} {ds : List Declt} {rs : List Rulet} (h : ¬ (st.code = 0 ∧ st.i < tk.length)) (hl : ds.length ≤ 16 ∧ rs.length ≤ 24) : E7 tk e st ds rs = (ds, rs, st) := by
 unfold E7
 obtain ⟨f, hf⟩ : ∃ f, 43 - ds.length - rs.length = f + 1 := ⟨42 - ds.length - rs.length, by omega⟩
 rw [hf, Dn, if_neg h]
theorem progT_fault {st : PS} {ds : List Declt} {rs : List Rulet} {c : Int} (hc : ¬ c = 0) : E7 tk e (Bg tk e c st) ds rs = (ds, rs, Bg tk e c st) := Du (Bq hc)
section
variable {st : PS} {ds : List Declt} {rs : List Rulet} (h0 : st.code = 0) (h1 : st.i < tk.length) (hl : ds.length ≤ 16 ∧ rs.length ≤ 24)
include h0 h1 hl
theorem DP (h : (0 < BO (AA tk e st) ∧ (ds.length : Int) = 16) ∨ (Bo (AA tk e st) = true ∧ (rs.length : Int) = 24)) : E7 tk e (Bg tk e 7 st) ds rs = E7 tk e st ds rs := by
 rw [progT_fault (by decide)]
 unfold E7
 obtain ⟨f, hf⟩ : ∃ f, 43 - ds.length - rs.length = f + 1 := ⟨42 - ds.length - rs.length, by omega⟩
 rw [hf, Dn, if_pos ⟨h0, h1⟩, if_pos (by rcases h with h | h; exact .inl ⟨h.1, by omega⟩; exact .inr ⟨h.1, by omega⟩), Du (Bq (by decide))]
theorem Ev (h : ¬ ((0 < BO (AA tk e st) ∧ (ds.length : Int) = 16) ∨ (Bo (AA tk e st) = true ∧ (rs.length : Int) = 24))) (hk : 0 < BO (AA tk e st)) :
   E7 tk e (CT tk e (BO (AA tk e st)) st).2 (ds ++ [(CT tk e (BO (AA tk e st)) st).1]) rs = E7 tk e st ds rs ∧ ds.length < 16 := by
 have h2 : ¬ ds.length = 16 := fun q => h (.inl ⟨hk, by omega⟩)
 refine ⟨?_, by omega⟩
 unfold E7
 obtain ⟨f, hf⟩ : ∃ f, 43 - ds.length - rs.length = f + 1 := ⟨42 - ds.length - rs.length, by omega⟩
 have hf2 : 43 - (ds ++ [(CT tk e (BO (AA tk e st)) st).1]).length - rs.length = f := by simp; omega
 rw [hf, hf2]
 conv => rhs; rw [Dn, if_pos ⟨h0, h1⟩, if_neg (by intro q; rcases q with q | q; exact h (.inl ⟨q.1, by omega⟩); exact h (.inr ⟨q.1, by omega⟩)), if_pos hk]
theorem F3 (h : ¬ ((0 < BO (AA tk e st) ∧ (ds.length : Int) = 16) ∨ (Bo (AA tk e st) = true ∧ (rs.length : Int) = 24))) (hk : ¬ 0 < BO (AA tk e st)) (hs : Bo (AA tk e st) = true) :
   E7 tk e (C6 tk e st).2 ds (rs ++ [(C6 tk e st).1]) = E7 tk e st ds rs ∧ rs.length < 24 := by
 have h2 : ¬ rs.length = 24 := fun q => h (.inr ⟨hs, by omega⟩)
 refine ⟨?_, by omega⟩
 unfold E7
 obtain ⟨f, hf⟩ : ∃ f, 43 - ds.length - rs.length = f + 1 := ⟨42 - ds.length - rs.length, by omega⟩
 have hf2 : 43 - ds.length - (rs ++ [(C6 tk e st).1]).length = f := by simp; omega
 rw [hf, hf2]
 conv => rhs; rw [Dn, if_pos ⟨h0, h1⟩, if_neg (by intro q; rcases q with q | q; exact h (.inl ⟨q.1, by omega⟩); exact h (.inr ⟨q.1, by omega⟩)), if_neg hk, if_pos hs]
theorem progT_none (hk : ¬ 0 < BO (AA tk e st)) (hs : Bo (AA tk e st) = false) : E7 tk e (Bg tk e 6 st) ds rs = E7 tk e st ds rs := by
 rw [progT_fault (by decide)]
 unfold E7
 obtain ⟨f, hf⟩ : ∃ f, 43 - ds.length - rs.length = f + 1 := ⟨42 - ds.length - rs.length, by omega⟩
 rw [hf, Dn, if_pos ⟨h0, h1⟩, if_neg (by rw [hs]; rintro (q | q); exact hk q.1; exact absurd q.1 (by decide)), if_neg hk, if_neg (by rw [hs]; decide), Du (Bq (by decide))]
end
def G8 (tk : List Tokent) (e : Int) (st : PS) (ds : List Declt) (rs : List Rulet) : ProgR := Hw tk e (43 - ds.length - rs.length) st ds rs
def okU (st : PS) (ds : List Declt) (rs : List Rulet) : Prop := (ds.length ≤ 17 ∧ rs.length ≤ 25) ∧ (st.code = 0 → st.i ≤ tk.length ∧ ds.length ≤ 16 ∧ rs.length ≤ 24)
theorem progU_end {st : PS} {ds : List Declt} {rs : List Rulet} (h : ¬ (st.code = 0 ∧ st.i < tk.length)) : G8 tk e st ds rs = (ds, rs, st) := by
 unfold G8
 cases 43 - ds.length - rs.length with
 | zero => rfl
 | succ f => rw [Hw, if_neg h]
section
variable {st s2 : PS} {ds : List Declt} {rs : List Rulet} (h0 : st.code = 0) (h1 : st.i < tk.length) (hl : ds.length ≤ 16 ∧ rs.length ≤ 24)
include h0 h1 hl
theorem progU_decl (hk : 0 < CS (AA tk e st)) (hf : FQ tk e ds st = s2) :
   G8 tk e (Ef tk e (CS (AA tk e st)) s2.next).2 (ds ++ [(Ef tk e (CS (AA tk e st)) s2.next).1]) rs = G8 tk e st ds rs ∧ ((Ef tk e (CS (AA tk e st)) s2.next).2.code = 0 → ds.length < 16 ∧ (Ef tk e (CS (AA tk e st)) s2.next).2.i ≤ tk.length) := by
 subst hf
 constructor
 · unfold G8
   obtain ⟨f, hf⟩ : ∃ f, 43 - ds.length - rs.length = f + 1 := ⟨42 - ds.length - rs.length, by omega⟩
   have hf2 : 43 - (ds ++ [(Ef tk e (CS (AA tk e st)) (FQ tk e ds st).next).1]).length - rs.length = f := by simp; omega
   rw [hf, hf2]
   conv => rhs; rw [Hw, if_pos ⟨h0, h1⟩, if_pos hk]
 · intro hc
   by_cases q : ds.length = 16
   · exfalso
     have e1 : FQ tk e ds st = Bg tk e 7 st := by unfold FQ; rw [if_pos q]
     have h3 : ¬ (Bg tk e 7 st).next.code = 0 := Bq (by decide)
     rw [e1, declS_bad h3] at hc
     exact h3 hc
   · have e1 : FQ tk e ds st = st := by unfold FQ; rw [if_neg q]
     rw [e1]
     exact ⟨by omega, declS_le (st := st.next) h1⟩
theorem Gt (hk : ¬ 0 < CS (AA tk e st)) (hf : EN tk e rs st = s2) :
   G8 tk e (Cl tk e s2).2 ds (rs ++ [(Cl tk e s2).1]) = G8 tk e st ds rs ∧ ((Cl tk e s2).2.code = 0 → rs.length < 24 ∧ (Cl tk e s2).2.i ≤ tk.length) := by
 subst hf
 constructor
 · unfold G8
   obtain ⟨f, hf⟩ : ∃ f, 43 - ds.length - rs.length = f + 1 := ⟨42 - ds.length - rs.length, by omega⟩
   have hf2 : 43 - ds.length - (rs ++ [(Cl tk e (EN tk e rs st)).1]).length = f := by simp; omega
   rw [hf, hf2]
   conv => rhs; rw [Hw, if_pos ⟨h0, h1⟩, if_neg hk]
 · intro hc
   by_cases q : Bo (AA tk e st) = true ∧ rs.length = 24
   · exfalso
     have e1 : EN tk e rs st = Bg tk e 7 st := by unfold EN; rw [if_pos q]
     have h3 : ¬ (Bg tk e 7 st).code = 0 := Bq (by decide)
     rw [e1, ruleS_bad h3] at hc
     exact h3 hc
   · have e1 : EN tk e rs st = st := by unfold EN; rw [if_neg q]
     rw [e1] at hc ⊢
     refine ⟨?_, ruleS_le (by omega)⟩
     by_cases h24 : rs.length = 24
     · exfalso
       have h4 : ¬ Bo (AA tk e st) = true := fun h => q ⟨h, h24⟩
       have h3 : ¬ (Bg tk e 6 st).code = 0 := Bq (by decide)
       obtain ⟨n1, n2, n3⟩ := name_none h4
       have e2 : BX tk e st = (1, st) := I6 n2 n3
       have e3 : BK tk e st = (⟨#[]⟩, Bg tk e 6 st) := by unfold BK; rw [if_neg n1]
       have e4 : B7 tk e st = Bg tk e 6 st := by unfold B7; rw [e3, DA h3]
       have e5 : (Ci tk e st).2 = Bg tk e 6 st := by
         unfold Ci; rw [e4, if_neg (by simp [Cq h3, Bt]), IT h3, DA h3]
       have e6 : (Cl tk e st).2 = Bg tk e 6 st := by
         unfold Cl; rw [e2, e5, if_neg (by simp [Cq h3, Bt]), DA h3]
       rw [e6] at hc
       exact h3 hc
     · omega
end
theorem bodyI_bad {f : Nat} {st : PS} {a : List Litt} (h : ¬ st.code = 0) : CU tk e f st a = (a, st) := by cases f <;> simp [CU, h]
theorem bodyS_bad {f : Nat} {st : PS} {a : List Litt} (h : ¬ st.code = 0) : FC tk e f st a = (a, st) := by cases f <;> simp [FC, h]
theorem Ca {st : PS} {n : Nat} (h : st.i < n) : st.next.i ≤ n := h
theorem Cm {c : Int} {st : PS} (h : st.i ≤ tk.length) : (Bg tk e c st).i ≤ tk.length := by rw [Es]; exact h
theorem Ie {st : PS} (h : BJ (AA tk e st) = false) : CW tk e st = false := by simp [CW, h]
theorem open_end {st : PS} (h : BJ (AA tk e st) = true) (h2 : ¬ st.i + 1 < tk.length) : CW tk e st = false := by
 have h3 : ¬ st.next.i < tk.length := h2
 simp [CW, here_end h3, Bt]
theorem Ig {st : PS} (h : BJ (AA tk e st) = true) (h2 : st.i + 1 < tk.length) : CW tk e st = Bt tk[st.i + 1] ⟨#[40]⟩ := by
 have h3 : st.next.code = 0 := (D0 (tk := tk) (e := e) (st := st) (by rw [IB h]; decide)).1
 have h4 : AA tk e st.next = tk[st.i + 1] := EC h3 h2
 simp [CW, h, h4]
theorem GP {st s0 : PS} {k : Int} (hp : BX tk e st = (k, s0)) (h : Bt (AA tk e (Cd tk e s0).2) ⟨#[58, 45]⟩ = true) : C6 tk e st = (⟨k, (Cd tk e s0).1, (CU tk e 10 (Cd tk e s0).2.next []).1⟩, BY tk e ⟨#[46]⟩ (CU tk e 10 (Cd tk e s0).2.next []).2) := by
 have := ruleI_body (tk := tk) (e := e) (st := st) (by rw [hp]; exact h)
 rw [hp] at this; exact this
theorem GQ {st s0 : PS} {k : Int} (hp : BX tk e st = (k, s0)) (h : Bt (AA tk e (Cd tk e s0).2) ⟨#[58, 45]⟩ = false) : C6 tk e st = (⟨k, (Cd tk e s0).1, []⟩, BY tk e ⟨#[46]⟩ (Cd tk e s0).2) := by
 have := ruleI_bare (tk := tk) (e := e) (st := st) (by rw [hp]; exact h)
 rw [hp] at this; exact this
theorem ruleS_body' {st s0 s2 : PS} {k : Int} {b : List Litt} (hp : BX tk e st = (k, s0)) (h : Bt (AA tk e (Ci tk e s0).2) ⟨#[58, 45]⟩ = true) (h2 : FC tk e 10 (Ci tk e s0).2.next [] = (b, s2)) : Cl tk e st = (⟨k, (Ci tk e s0).1, b⟩, BY tk e ⟨#[46]⟩ s2) := by
 have := ruleS_body (tk := tk) (e := e) (st := st) (b := b) (s2 := s2) (by rw [hp]; exact h) (by rw [hp]; exact h2)
 rw [hp] at this; exact this
theorem ruleS_bare' {st s0 : PS} {k : Int} (hp : BX tk e st = (k, s0)) (h : Bt (AA tk e (Ci tk e s0).2) ⟨#[58, 45]⟩ = false) : Cl tk e st = (⟨k, (Ci tk e s0).1, []⟩, BY tk e ⟨#[46]⟩ (Ci tk e s0).2) := by
 have := ruleS_bare (tk := tk) (e := e) (st := st) (by rw [hp]; exact h)
 rw [hp] at this; exact this
end
end Go.Proofs.YtkemjhlbokldhaaGreat

namespace Go.Proofs.YtkemjhlbokldhaaGreat
open Go.RowKit
set_option linter.unusedVariables false
section results
variable {P : Program} {f : FuncId} {fn : Func} {c : Code} {N : Nat} {args : List AVal} {L L' : Locs}
theorem AC_bodyCTT {ty : TypeId} {r q q2 n k : Nat} {cs : List Cell} {x x2 : AVal} {T : DV} {Lf : Locs} (hf : P.funcs[f]? = some fn) (hb : fn.body = some c) (hn : (fn.name == "runtime.NumGoroutine") = false) (hN : fn.ntmps = N) (hA : Nat.ble args.length N = true) (hr : fn.results = #[.cell r ty, .tmp q, .tmp q2])
   (ht : lk T r = some (.one (.ptr k 0))) (hq : lk T q = some x) (hx : x.flat = true) (hq2 : lk T q2 = some x2) (hx2 : x2.flat = true) (hl : lkl Lf k = some (.box cs)) (hk : Fk P ty = some (some n)) (hcn : cs.length = n) (hren : (AVal.tup [.agg cs, x, x2]).ren (rn []) = .tup [.agg cs, x, x2]) (hle : LeS (Bi L) (rn []) ⟨T, Lf⟩ ⟨[], L'⟩)
   (h : AW P N (Bi L) c (RetS (Bi L) T Lf) (RetQ (Bi L) T Lf) ⟨Ff args 0, L⟩) : AC P f args L (.tup [.agg cs, x, x2]) L' :=
 AC_ofB hf hb hn hN hA hren hle (fun g a w R => by
   obtain ⟨ad, v, h1, h2, h3⟩ := Hv R ht hl hk hcn
   refine ⟨.tuple #[v, a.tmps.getD q undef, a.tmps.getD q2 undef], ?_, ⟨[v, a.tmps.getD q undef, a.tmps.getD q2 undef], rfl, h3, (R.tmp q x hq).vr1 hx, (R.tmp q2 x2 hq2).vr1 hx2, trivial⟩⟩
   simp only [Array.getD_eq_getD_getElem?] at h1
   simp [results, hr, h1, h2]) h
end results
end Go.Proofs.YtkemjhlbokldhaaGreat

namespace Go.Proofs.YtkemjhlbokldhaaGreat
open Go.RowKit
set_option linter.unusedVariables false
set_option linter.unusedSimpArgs false

def psB (tk : List Tokent) (e : Int) (st : PS) : Blk := .box [.sl C1 tk, .c (.int .i64 ((st.i : Nat) : Int)), .c (.int .i64 e), .c (.int .i64 st.code), .c (.int .i64 st.place)]
theorem psB_ren (tk : List Tokent) (e : Int) (st : PS) (r : Nat → Nat) : (psB tk e st).ren r = psB tk e st := rfl
def atomO (x : Atomt) : List Cell := [.c (.string x.name), .own 0]
def litO (x : Litt) : List Cell := [.c (.int .i64 x.kind), .c (.string x.atom.name), .own 0, .c (.int .i64 x.op), .c (.string x.a.var), .c (.int .i64 x.a.val.n), .c (.string x.a.val.s), .c (.string x.b.var), .c (.int .i64 x.b.val.n), .c (.string x.b.val.s)]
def ruleO (x : Rulet) : List Cell := [.c (.int .i64 x.kind), .c (.string x.head.name), .own 0, .own 1]
def atomK (x : Atomt) (k : Nat) : List Cell := [.c (.string x.name), .own k]
def litK (x : Litt) (k : Nat) : List Cell := [.c (.int .i64 x.kind), .c (.string x.atom.name), .own k, .c (.int .i64 x.op), .c (.string x.a.var), .c (.int .i64 x.a.val.n), .c (.string x.a.val.s), .c (.string x.b.var), .c (.int .i64 x.b.val.n), .c (.string x.b.val.s)]
def ruleK (x : Rulet) (k j : Nat) : List Cell := [.c (.int .i64 x.kind), .c (.string x.head.name), .own k, .own j]
def rnP (j : Nat) : Nat := bif Nat.beq j 200 then 200 else 0
theorem rnP_k {k : Nat} (hk : Nat.beq k 200 = false) : rnP k = 0 := by unfold rnP; rw [hk]; rfl
theorem atomK_ren {x : Atomt} {k : Nat} {r : Nat → Nat} (h : r k = 0) : (AVal.agg (atomK x k)).ren r = .agg (atomO x) := by
 show AVal.agg [.c (.string x.name), .own (r k)] = _
 rw [h]; rfl
theorem litK_ren {x : Litt} {k : Nat} {r : Nat → Nat} (h : r k = 0) : (AVal.agg (litK x k)).ren r = .agg (litO x) := by
 show AVal.agg [.c (.int .i64 x.kind), .c (.string x.atom.name), .own (r k), .c (.int .i64 x.op), .c (.string x.a.var), .c (.int .i64 x.a.val.n), .c (.string x.a.val.s), .c (.string x.b.var), .c (.int .i64 x.b.val.n), .c (.string x.b.val.s)] = _
 rw [h]; rfl
theorem ruleK_ren {x : Rulet} {k j : Nat} {r : Nat → Nat} (h : r k = 0) (h2 : r j = 1) : (AVal.agg (ruleK x k j)).ren r = .agg (ruleO x) := by
 show AVal.agg [.c (.int .i64 x.kind), .c (.string x.head.name), .own (r k), .own (r j)] = _
 rw [h, h2]; rfl
theorem ownK_ren {k : Nat} {r : Nat → Nat} (h : r k = 0) : (AVal.one (.own k)).ren r = .one (.own 0) := by
 show AVal.one (.own (r k)) = _
 rw [h]
theorem AC.ps {P : Program} {f : FuncId} {args : List AVal} {tk : List Tokent} {e : Int} {st st' : PS} {res res0 : AVal} {blk : Blk} (h : AC P f args [(200, some (psB tk e st))] res0 [(200, some (psB tk e st')), (0, some blk)]) (k : Nat) (hk : Nat.beq k 200 = false)
   (hres : ∀ r : Nat → Nat, r k = 0 → res.ren r = res0) (hbl : ∀ r : Nat → Nat, blk.ren r = blk) : AC P f args [(200, some (psB tk e st))] res [(200, some (psB tk e st')), (k, some blk)] := by
 have hL : LeL rnP [(200, some (psB tk e st')), (0, some blk)] [(200, some (psB tk e st')), (k, some blk)] :=
   ⟨⟨psB tk e st', rfl, by rw [psB_ren]; exact BLe.rf⟩, ⟨blk, by rw [rnP_k hk]; rfl, by rw [hbl]; exact BLe.rf⟩, trivial⟩
 have hi : injL rnP (Bi [(200, some (psB tk e st')), (k, some blk)]) = true := by
   have h2 : rnP 200 = 200 := rfl
   simp [injL, Bi, rnP_k hk, h2]
   exact .inr rfl
 have hK : LeK rnP [(200, some (psB tk e st')), (0, some blk)] [(200, some (psB tk e st')), (k, some blk)] (Bi [(200, some (psB tk e st))]) :=
   ⟨⟨rfl, .inl (by simp [lk]), fun cs _ => ⟨_, rfl⟩⟩, trivial⟩
 refine ⟨h.fn, fun g w cargs m ha => (h.run g w cargs m ha).mono ?_⟩
 rintro e w' ⟨v, g1, rfl, m1, hv, hs⟩
 exact ⟨v, g1.ren rnP, rfl, m1.unren hL hi, VR.unren hL (by rw [hres rnP (rnP_k hk)]; exact hv), hs.trans m m1 (Step.unren hL hK)⟩
def rnQ (k j : Nat) (i : Nat) : Nat := bif Nat.beq i 200 then 200 else bif Nat.beq i k then 0 else bif Nat.beq i j then 1 else i + 1000
theorem AC.ps2 {P : Program} {f : FuncId} {args : List AVal} {tk : List Tokent} {e : Int} {st st' : PS} {res res0 : AVal} {blk blk2 : Blk} (h : AC P f args [(200, some (psB tk e st))] res0 [(200, some (psB tk e st')), (0, some blk), (1, some blk2)]) (k j : Nat) (hk : Nat.beq k 200 = false) (hj : Nat.beq j 200 = false) (hkj : Nat.beq k j = false) (hjk : Nat.beq j k = false)
   (hres : ∀ r : Nat → Nat, r k = 0 → r j = 1 → res.ren r = res0) (hbl : ∀ r : Nat → Nat, blk.ren r = blk) (hbl2 : ∀ r : Nat → Nat, blk2.ren r = blk2) : AC P f args [(200, some (psB tk e st))] res [(200, some (psB tk e st')), (k, some blk), (j, some blk2)] := by
 have h2 : rnQ k j 200 = 200 := rfl
 have hrk : rnQ k j k = 0 := by unfold rnQ; rw [hk]; simp
 have hrj : rnQ k j j = 1 := by unfold rnQ; rw [hj, hjk]; simp
 have hL : LeL (rnQ k j) [(200, some (psB tk e st')), (0, some blk), (1, some blk2)] [(200, some (psB tk e st')), (k, some blk), (j, some blk2)] :=
   ⟨⟨psB tk e st', rfl, by rw [psB_ren]; exact BLe.rf⟩, ⟨blk, by rw [hrk]; rfl, by rw [hbl]; exact BLe.rf⟩, ⟨blk2, by rw [hrj]; rfl, by rw [hbl2]; exact BLe.rf⟩, trivial⟩
 have hi : injL (rnQ k j) (Bi [(200, some (psB tk e st')), (k, some blk), (j, some blk2)]) = true := by
   have e1 : Nat.beq 0 200 = false := rfl
   have e2 : Nat.beq 1 200 = false := rfl
   have e3 : Nat.beq 1 0 = false := rfl
   simp only [injL, Bi, List.map, hrk, hrj, h2, List.all_cons, List.all_nil, e1, e2, e3, Bool.not_false, Bool.or_true, Bool.and_true, Bool.and_self]
 have hK : LeK (rnQ k j) [(200, some (psB tk e st')), (0, some blk), (1, some blk2)] [(200, some (psB tk e st')), (k, some blk), (j, some blk2)] (Bi [(200, some (psB tk e st))]) :=
   ⟨⟨rfl, .inl (by simp [lk]), fun cs _ => ⟨_, rfl⟩⟩, trivial⟩
 refine ⟨h.fn, fun g w cargs m ha => (h.run g w cargs m ha).mono ?_⟩
 rintro e w' ⟨v, g1, rfl, m1, hv, hs⟩
 exact ⟨v, g1.ren (rnQ k j), rfl, m1.unren hL hi, VR.unren hL (by rw [hres _ hrk hrj]; exact hv), hs.trans m m1 (Step.unren hL hK)⟩
def opL : List ByteArray := [⟨#[]⟩, ⟨#[61]⟩, ⟨#[33, 61]⟩, ⟨#[60]⟩, ⟨#[60, 61]⟩]
def opL4 : List ByteArray := [⟨#[61]⟩, ⟨#[33, 61]⟩, ⟨#[60]⟩, ⟨#[60, 61]⟩]
def kindL : List ByteArray := [⟨#[]⟩, ⟨#[115, 116, 97, 116, 101]⟩, ⟨#[101, 118, 101, 110, 116]⟩, ⟨#[118, 105, 101, 119]⟩]
def kindL3 : List ByteArray := [⟨#[115, 116, 97, 116, 101]⟩, ⟨#[101, 118, 101, 110, 116]⟩, ⟨#[118, 105, 101, 119]⟩]
def idxS (l : List ByteArray) (s : ByteArray) : Int := El (fun x => s == x) l
theorem first_cons {α : Type} {p : α → Bool} {x : α} {l : List α} : El p (x :: l) = if p x = true then 0 else if El p l = -1 then -1 else El p l + 1 := by
 unfold El
 rw [List.findIdx?_cons]
 cases p x
 · cases l.findIdx? p with
   | none => rfl
   | some k =>
     rw [if_neg (by decide), if_neg (by decide), if_neg (by show ¬ ((k : Nat) : Int) = -1; omega)]
     rfl
 · rfl
theorem first_nil {α : Type} {p : α → Bool} : El p [] = -1 := rfl
theorem idx_op (s : ByteArray) : idxS opL s = opX s := by
 unfold idxS opL opX opN
 simp only [first_cons, first_nil]
 cases s == (⟨#[]⟩ : ByteArray) <;> cases s == (⟨#[61]⟩ : ByteArray) <;> cases s == (⟨#[33, 61]⟩ : ByteArray) <;> cases s == (⟨#[60]⟩ : ByteArray) <;> cases s == (⟨#[60, 61]⟩ : ByteArray) <;> simp
theorem idx_kind (s : ByteArray) : idxS kindL s = kindX s := by
 unfold idxS kindL kindX Gi
 simp only [first_cons, first_nil]
 cases s == (⟨#[]⟩ : ByteArray) <;> cases s == (⟨#[115, 116, 97, 116, 101]⟩ : ByteArray) <;> cases s == (⟨#[101, 118, 101, 110, 116]⟩ : ByteArray) <;> cases s == (⟨#[118, 105, 101, 119]⟩ : ByteArray) <;> simp
theorem op_at {s : ByteArray} {k : Nat} (hk : k < opL4.length) (h : s = opL4[k]) : opN s = (k : Int) + 1 := by
 subst h
 match k, hk with
 | 0, _ => rfl
 | 1, _ => rfl
 | 2, _ => rfl
 | 3, _ => rfl
theorem op_none {s : ByteArray} {k : Nat} (hk : 4 ≤ k) (h : NoneTo (fun x => s == x) opL4 k) : opN s = 0 := by
 have h0 := h 0 (by decide) (by omega)
 have h1 := h 1 (by decide) (by omega)
 have h2 := h 2 (by decide) (by omega)
 have h3 := h 3 (by decide) (by omega)
 simp only [opL4, List.getElem_cons_zero, List.getElem_cons_succ] at h0 h1 h2 h3
 simp [opN, h0, h1, h2, h3]
theorem kind_at {s : ByteArray} {k : Nat} (hk : k < kindL3.length) (h : s = kindL3[k]) : Gi s = (k : Int) + 1 := by
 subst h
 match k, hk with
 | 0, _ => rfl
 | 1, _ => rfl
 | 2, _ => rfl
theorem kind_none {s : ByteArray} {k : Nat} (hk : 3 ≤ k) (h : NoneTo (fun x => s == x) kindL3 k) : Gi s = 0 := by
 have h0 := h 0 (by decide) (by omega)
 have h1 := h 1 (by decide) (by omega)
 have h2 := h 2 (by decide) (by omega)
 simp only [kindL3, List.getElem_cons_zero, List.getElem_cons_succ] at h0 h1 h2
 simp [Gi, h0, h1, h2]
end Go.Proofs.YtkemjhlbokldhaaGreat

namespace Go.Proofs.YtkemjhlbokldhaaGreat
open Go.RowKit
set_option linter.unusedVariables false
set_option linter.unusedSimpArgs false
set_option maxRecDepth 100000

set_option maxHeartbeats 4000000 in
theorem nameI_c (s : ByteArray) : AC Tryz.prog 29 [.one (.c (.string s))] [] (.one (.c (.bool (DR s)))) [] := by
 refine Bn Tryz.func29 J J Tryz.ntmps29 J Tryz.results29 ?_
 refine Aa (Az (A1 J J) (Ad (Az (A0 J J) ?_)))
 refine Bd (AS J J J (wordOkI_c _) J J) (fun b4 h4 => ?_)
 refine Az (A0 J J) ?_
 cases b4
 · try simp only [tdy] at h4
   refine A3 J J J J (A3 J J J J (A3 J J J J (Az (AD J J J) (Az (A1 J J) (Ae ?_)))))
   exact ⟨rn [], ⟨⟨⟨_, J, AH (by simp [DR, *])⟩, O⟩, O, O, J⟩⟩
 try simp only [tdy] at h4
 refine AB J J (A0 J J) ?_
 refine Bh J J (AS J J J (keptI_c _) J J) (fun b7 h7 => ?_)
 refine AB J J (Cn J J) (Az (AJ J J J) (Az (A1 J J) (Ae ?_)))
 cases b7
 rotate_left
 · try simp only [tdy] at h7
   exact ⟨rn [], ⟨⟨⟨_, J, AH (by simp [DR, *])⟩, O⟩, O, O, J⟩⟩
 try simp only [tdy] at h7
 exact ⟨rn [], ⟨⟨⟨_, J, AH (by simp [DR, *])⟩, O⟩, O, O, J⟩⟩

set_option maxHeartbeats 4000000 in
theorem termI_c (t : Termt) : AC Tryz.prog 88 [.agg (Fi t)] [] (.one (.c (.bool (Cv t)))) [] := by
 refine Bn Tryz.func88 J J Tryz.ntmps88 J Tryz.results88 ?_
 refine Aa (Az (Dr 100 J J J J J J J) (Az (A1 J J) (A2 (A8 (Aa (Az (Ao 0 0 J J J (by kernel_rfl) J) (Az (A4 J J J (by kernel_rfl) J) ?_)))))))
 refine Bd (x_sneq J J J) (fun b5 h5 => ?_)
 refine A2 ?_
 cases b5
 rotate_left
 · try simp only [tdy] at h5
   refine A5 J (Aa (Az (Ao 0 0 J J J (by kernel_rfl) J) (Az (A4 J J J (by kernel_rfl) J) ?_)))
   refine Bd (AS J J J (varOkI_c _) J J) (fun b8 h8 => ?_)
   refine Az (A0 J J) ?_
   cases b8
   · try simp only [tdy] at h8
     refine A3 J J J J (A3 J J J J (A3 J J J J (A3 J J J J (Az (AD J J J) (Az (A1 J J) (Ae ?_))))))
     exact ⟨rn [], ⟨⟨⟨_, J, AH (by simp [Cv, *])⟩, O⟩, O, O, J⟩⟩
   try simp only [tdy] at h8
   refine AB J J (Ao 1 1 J J J (by kernel_rfl) J) (AB J J (Au 2 J J J (by kernel_rfl) J J) (AB J J (Al [.int .i64 0, .string ⟨#[]⟩] [(0, 1), (1, 1)] J (by kernel_rfl) J J J J J) ?_))
   refine Bh J J (x_veql (a := t.val) (b := noVal) J J J) (fun b13 h13 => ?_)
   refine Az (AJ J J J) (Az (A1 J J) (Ae ?_))
   cases b13
   rotate_left
   · try simp only [tdy] at h13
     exact ⟨rn [], ⟨⟨⟨_, J, AH (by simp [Cv, *])⟩, O⟩, O, O, J⟩⟩
   try simp only [tdy] at h13
   exact ⟨rn [], ⟨⟨⟨_, J, AH (by simp [Cv, *])⟩, O⟩, O, O, J⟩⟩
 try simp only [tdy] at h5
 refine Ab J (Aa (Az (Ao 1 1 J J J (by kernel_rfl) J) (Az (Au 2 J J J (by kernel_rfl) J J) ?_)))
 refine Bd (AS J J J (valueOkI_c _) J J) (fun b17 h17 => ?_)
 refine Az (A0 J J) ?_
 cases b17
 · try simp only [tdy] at h17
   refine A3 J J J J (A3 J J J J (A3 J J J J (A3 J J J J (A3 J J J J (Az (AD J J J) (Az (A1 J J) (Ae ?_)))))))
   exact ⟨rn [], ⟨⟨⟨_, J, AH (by simp [Cv, *])⟩, O⟩, O, O, J⟩⟩
 try simp only [tdy] at h17
 refine AB J J (Ao 1 1 J J J (by kernel_rfl) J) (AB J J (Ao 1 2 J J J (by kernel_rfl) J) (AB J J (A4 J J J (by kernel_rfl) J) ?_))
 refine Bh J J (AS J J J (keptI_c _) J J) (fun b22 h22 => ?_)
 refine AB J J (Cn J J) (Az (AJ J J J) (Az (A1 J J) (Ae ?_)))
 cases b22
 rotate_left
 · try simp only [tdy] at h22
   exact ⟨rn [], ⟨⟨⟨_, J, AH (by simp [Cv, *])⟩, O⟩, O, O, J⟩⟩
 try simp only [tdy] at h22
 exact ⟨rn [], ⟨⟨⟨_, J, AH (by simp [Cv, *])⟩, O⟩, O, O, J⟩⟩

set_option maxHeartbeats 4000000 in
theorem nameS_c (s : ByteArray) : AC Tryz.prog 38 [.one (.c (.string s))] [] (.one (.c (.bool (DR s)))) [] := by
 refine Bn Tryz.func38 J J Tryz.ntmps38 J Tryz.results38 ?_
 refine Aa (Az (A1 J J) (Ad (Az (A0 J J) ?_)))
 refine Bd (AS J J J (wordOkS_c _) J J) (fun b4 h4 => ?_)
 refine Az (A0 J J) ?_
 cases b4
 · try simp only [tdy] at h4
   refine A3 J J J J (A3 J J J J (A3 J J J J (Az (AD J J J) (Az (A1 J J) (Ae ?_)))))
   exact ⟨rn [], ⟨⟨⟨_, J, AH (by simp [DR, *])⟩, O⟩, O, O, J⟩⟩
 try simp only [tdy] at h4
 refine AB J J (A0 J J) ?_
 refine Bh J J (AS J J J (Ht _) J J) (fun b7 h7 => ?_)
 refine AB J J (Cn J J) (Az (AJ J J J) (Az (A1 J J) (Ae ?_)))
 cases b7
 rotate_left
 · try simp only [tdy] at h7
   exact ⟨rn [], ⟨⟨⟨_, J, AH (by simp [DR, *])⟩, O⟩, O, O, J⟩⟩
 try simp only [tdy] at h7
 exact ⟨rn [], ⟨⟨⟨_, J, AH (by simp [DR, *])⟩, O⟩, O, O, J⟩⟩

set_option maxHeartbeats 4000000 in
theorem termS_c (t : Termt) : AC Tryz.prog 93 [.agg (Fi t)] [] (.one (.c (.bool (Cv t)))) [] := by
 refine Bn Tryz.func93 J J Tryz.ntmps93 J Tryz.results93 ?_
 refine Aa (Az (Dr 100 J J J J J J J) (Az (A1 J J) (A2 (A8 (Aa (Az (Ao 0 0 J J J (by kernel_rfl) J) (Az (A4 J J J (by kernel_rfl) J) ?_)))))))
 refine Bd (x_sneq J J J) (fun b5 h5 => ?_)
 refine A2 ?_
 cases b5
 rotate_left
 · try simp only [tdy] at h5
   refine A5 J (Aa (Az (Ao 0 0 J J J (by kernel_rfl) J) (Az (A4 J J J (by kernel_rfl) J) ?_)))
   refine Bd (AS J J J (varOkS_c _) J J) (fun b8 h8 => ?_)
   refine Az (A0 J J) ?_
   cases b8
   · try simp only [tdy] at h8
     refine A3 J J J J (A3 J J J J (A3 J J J J (A3 J J J J (Az (AD J J J) (Az (A1 J J) (Ae ?_))))))
     exact ⟨rn [], ⟨⟨⟨_, J, AH (by simp [Cv, *])⟩, O⟩, O, O, J⟩⟩
   try simp only [tdy] at h8
   refine AB J J (Ao 1 1 J J J (by kernel_rfl) J) (AB J J (Au 2 J J J (by kernel_rfl) J J) (AB J J (Al [.int .i64 0, .string ⟨#[]⟩] [(0, 1), (1, 1)] J (by kernel_rfl) J J J J J) ?_))
   refine Bh J J (x_veql (a := t.val) (b := noVal) J J J) (fun b13 h13 => ?_)
   refine Az (AJ J J J) (Az (A1 J J) (Ae ?_))
   cases b13
   rotate_left
   · try simp only [tdy] at h13
     exact ⟨rn [], ⟨⟨⟨_, J, AH (by simp [Cv, *])⟩, O⟩, O, O, J⟩⟩
   try simp only [tdy] at h13
   exact ⟨rn [], ⟨⟨⟨_, J, AH (by simp [Cv, *])⟩, O⟩, O, O, J⟩⟩
 try simp only [tdy] at h5
 refine Ab J (Aa (Az (Ao 1 1 J J J (by kernel_rfl) J) (Az (Au 2 J J J (by kernel_rfl) J J) ?_)))
 refine Bd (AS J J J (valueOkS_c _) J J) (fun b17 h17 => ?_)
 refine Az (A0 J J) ?_
 cases b17
 · try simp only [tdy] at h17
   refine A3 J J J J (A3 J J J J (A3 J J J J (A3 J J J J (A3 J J J J (Az (AD J J J) (Az (A1 J J) (Ae ?_)))))))
   exact ⟨rn [], ⟨⟨⟨_, J, AH (by simp [Cv, *])⟩, O⟩, O, O, J⟩⟩
 try simp only [tdy] at h17
 refine AB J J (Ao 1 1 J J J (by kernel_rfl) J) (AB J J (Ao 1 2 J J J (by kernel_rfl) J) (AB J J (A4 J J J (by kernel_rfl) J) ?_))
 refine Bh J J (AS J J J (Ht _) J J) (fun b22 h22 => ?_)
 refine AB J J (Cn J J) (Az (AJ J J J) (Az (A1 J J) (Ae ?_)))
 cases b22
 rotate_left
 · try simp only [tdy] at h22
   exact ⟨rn [], ⟨⟨⟨_, J, AH (by simp [Cv, *])⟩, O⟩, O, O, J⟩⟩
 try simp only [tdy] at h22
 exact ⟨rn [], ⟨⟨⟨_, J, AH (by simp [Cv, *])⟩, O⟩, O, O, J⟩⟩

set_option maxHeartbeats 4000000 in
theorem notTerm_c (t : Termt) : AC Tryz.prog 87 [.agg (Fi t)] [] (.one (.c (.bool (!Cv t)))) [] := by
 refine Bn Tryz.func87 J J Tryz.ntmps87 J Tryz.results87 ?_
 refine Aa (Az (Dr 100 J J J J J J J) (Az (A1 J J) (Ad (Az (Au 3 J J J (by kernel_rfl) J J) ?_))))
 refine Bd (AS J J J (termI_c t) J J) (fun b4 h4 => ?_)
 refine Az (Cn J J) (Az (A1 J J) (Ae ?_))
 cases b4
 rotate_left
 · try simp only [tdy] at h4
   exact ⟨rn [], ⟨⟨⟨_, J, AH (by simp [*])⟩, O⟩, O, O, J⟩⟩
 try simp only [tdy] at h4
 exact ⟨rn [], ⟨⟨⟨_, J, AH (by simp [*])⟩, O⟩, O, O, J⟩⟩

set_option maxHeartbeats 4000000 in
theorem idxTerm_c (l : List Termt) : AC Tryz.prog 107 [.one (.sl Bx l), .one (.clo 87 [])] [] (.one (.c (.int .i64 (Hb Cv l)))) [] := by
 refine Bn Tryz.func107 J J Tryz.ntmps107 J Tryz.results107 ?_
 refine AW_slmax 0 J (fun hm0 => ?_)
 refine Aa (Az (A1 J J) (A2 (A8 (Aa (Az (A0 J J) (Az (Ak 46 3 J J (by kernel_rfl)) (Az (A0 J J) (A2 (AZ ?_)))))))))
 refine B8 (ι := {q : Nat // q ≤ l.length ∧ EachTo Cv l q}) (fun p => [(8, .one (.c (.int .i64 ((p.1) : Int))))]) (fun p => []) [0, 1, 7] [] (fun p => l.length - (p.1)) ⟨0, ⟨by omega, .zero⟩⟩ (rn []) ?_ ?_
 exact Ag (by repeat first | exact trivial | refine Ah J (by first | exact VLe.rf | exact A7 (by dsimp only; omega)) ?_) (by repeat first | exact trivial | refine Ai J (by first | exact BLe.rf | exact BLe.box AllC.rf | exact BLe.arr (by exact J)) ?_) J J
 rintro ⟨k, hinv⟩
 dsimp only
 have hk := hinv.1
 have hA := hinv.2
 refine Aa ?_
 refine Bd (BI J J J) (fun b9 h9 => ?_)
 refine A2 (A8 ?_)
 cases b9
 · try simp only [tdy] at h9
   refine Bc J ?_
   refine Br (B2 ?_)
   refine Aa (Az (A1 J J) (Ae ?_))
   exact ⟨rn [], ⟨⟨⟨_, J, A7 (by first | exact (Gj hA (by omega) (by simpa using h16)).symm | exact (FD hA (by omega)).symm)⟩, O⟩, O, O, J⟩⟩
 try simp only [tdy] at h9
 refine A5 J (AP (A8 (AZ (Aa (Az (A0 J J) (Az (A1 J J) (Ad (Az (A0 J J) (Az (A0 J J) (Az (A0 J J) ?_))))))))))
 refine Az (Am 46 3 k J J J (by kernel_rfl) J (by omega) (by omega)) ?_
 refine Az (Co (n := 3) J J (by kernel_rfl) J) ?_
 refine Dk (Av [] [] [] J J J (notTerm_c (l[k]'(by omega))) J AllV.rf (BE J) J J J (by repeat (first | exact trivial | refine ⟨J, ?_⟩)) J) (fun b16 h16 => ?_)
 refine A2 ?_
 cases b16
 rotate_left
 · try simp only [tdy] at h16
   refine A5 J (Aa (Az (A0 J J) (Az (A1 J J) (A2 ?_))))
   refine AU (Bk (Bk ?_))
   exact ⟨rn [], ⟨⟨⟨_, J, A7 (by first | exact (Gj hA (by omega) (by simpa using h16)).symm | exact (FD hA (by omega)).symm)⟩, O⟩, O, O, J⟩⟩
 try simp only [tdy] at h16
 refine Ab J (AG ?_)
 refine Az (Bl J J J (IntWalk.i64_in _ (by omega))) ?_
 refine Az (A0 J J) (A2 ?_)
 refine ⟨⟨k + 1, ⟨by omega, hA.succ (by omega) (by simpa using h16)⟩⟩, rn [], ?_, by dsimp only; omega⟩
 exact Ag (by repeat first | exact trivial | refine Ah J (by first | exact VLe.rf | exact A7 (by dsimp only; omega)) ?_) (by repeat first | exact trivial | refine Ai J (by first | exact BLe.rf | exact BLe.box AllC.rf | exact BLe.arr (by exact J)) ?_) J J

set_option maxHeartbeats 4000000 in
theorem anyTerm_c (l : List Termt) : AC Tryz.prog 86 [.one (.sl Bx l), .one (.clo 87 [])] [] (.one (.c (.bool (!l.all Cv)))) [] := by
 refine Bn Tryz.func86 J J Tryz.ntmps86 J Tryz.results86 ?_
 refine Aa (Az (A1 J J) (Ad (Az (A0 J J) (Az (A0 J J) ?_))))
 refine Az (Av [] [] [] J J J (idxTerm_c l) J AllV.rf (BE J) J J J (by repeat (first | exact trivial | refine ⟨J, ?_⟩)) J) ?_
 refine Bd (Ee J J J) (fun b8 h8 => ?_)
 refine Az (A1 J J) (Ae ?_)
 cases b8
 rotate_left
 · try simp only [tdy] at h8
   exact ⟨rn [], ⟨⟨⟨_, J, AH (by first | (rw [← CZ]; simp [*]; done) | (rw [← CZ]; first | rfl | (symm; rw [decide_eq_true_eq]; omega) | (symm; rw [decide_eq_false_iff_not]; omega)))⟩, O⟩, O, O, J⟩⟩
 try simp only [tdy] at h8
 exact ⟨rn [], ⟨⟨⟨_, J, AH (by first | (rw [← CZ]; simp [*]; done) | (rw [← CZ]; first | rfl | (symm; rw [decide_eq_true_eq]; omega) | (symm; rw [decide_eq_false_iff_not]; omega)))⟩, O⟩, O, O, J⟩⟩

set_option maxHeartbeats 4000000 in
theorem atomI_c (a : Atomt) : AC Tryz.prog 60 [.agg (atomC a)] [] (.one (.c (.bool (Db a)))) [] := by
 refine Bn Tryz.func60 J J Tryz.ntmps60 J Tryz.results60 ?_
 refine Cz 0 1 J J (fun hm0_1 => ?_)
 refine Aa (Az (Dr 100 J J J J J J J) (Az (A1 J J) (Ad (Az (Ao 0 0 J J J (by kernel_rfl) J) (Az (A4 J J J (by kernel_rfl) J) ?_)))))
 refine Bd (AS J J J (nameI_c _) J J) (fun b5 h5 => ?_)
 refine Az (A0 J J) ?_
 cases b5
 · try simp only [tdy] at h5
   refine A3 J J J J (A3 J J J J (A3 J J J J (A3 J J J J (Az (AD J J J) (Az (A0 J J) (A3 J J J J (A3 J J J J (A3 J J J J (A3 J J J J (Az (AD J J J) (Az (A1 J J) (Ae ?_))))))))))))
   exact ⟨rn [], ⟨⟨⟨_, J, AH (by grind [Db])⟩, O⟩, O, O, J⟩⟩
 try simp only [tdy] at h5
 refine AB J J (Ao 1 1 J J J (by kernel_rfl) J) (AB J J (A4 J J J (by kernel_rfl) J) (AB J J (Ak 46 3 J J (by kernel_rfl)) ?_))
 refine Bh J J (E3 J J J) (fun b10 h10 => ?_)
 refine Az (AJ J J J) (Az (A0 J J) ?_)
 cases b10
 · try simp only [tdy] at h10
   refine A3 J J J J (A3 J J J J (A3 J J J J (A3 J J J J (Az (AD J J J) (Az (A1 J J) (Ae ?_))))))
   exact ⟨rn [], ⟨⟨⟨_, J, AH (by grind [Db])⟩, O⟩, O, O, J⟩⟩
 try simp only [tdy] at h10
 refine AB J J (Ao 1 1 J J J (by kernel_rfl) J) (AB J J (A4 J J J (by kernel_rfl) J) ?_)
 refine FF J J (Av [] [] [] J J J (anyTerm_c a.args) J AllV.rf (BE J) J J J (by repeat (first | exact trivial | refine ⟨J, ?_⟩)) J) (fun b15 h15 => ?_)
 refine AB J J (Cn J J) (Az (AJ J J J) (Az (A1 J J) (Ae ?_)))
 cases b15
 rotate_left
 · try simp only [tdy] at h15
   exact ⟨rn [], ⟨⟨⟨_, J, AH (by grind [Db])⟩, O⟩, O, O, J⟩⟩
 try simp only [tdy] at h15
 exact ⟨rn [], ⟨⟨⟨_, J, AH (by grind [Db])⟩, O⟩, O, O, J⟩⟩

set_option maxHeartbeats 4000000 in
theorem atomS_c (a : Atomt) : AC Tryz.prog 70 [.agg (atomC a)] [] (.one (.c (.bool (Db a)))) [] := by
 refine Bn Tryz.func70 J J Tryz.ntmps70 J Tryz.results70 ?_
 refine Cz 0 1 J J (fun hm0_1 => ?_)
 refine Aa (Az (Dr 100 J J J J J J J) (Az (A1 J J) (A2 (A8 (Aa (Az (Ao 0 0 J J J (by kernel_rfl) J) (Az (A4 J J J (by kernel_rfl) J) ?_)))))))
 refine Bd (AS J J J (nameS_c _) J J) (fun b7 h7 => ?_)
 refine Az (Cn J J) (Az (A0 J J) ?_)
 cases b7
 · try simp only [tdy] at h7
   refine A3 J J J J (A3 J J J J (A3 J J J J (A3 J J J J (Az (AJ J J J) (A2 (A5 J (Aa (Az (A1 J J) (Ae ?_)))))))))
   exact ⟨rn [], ⟨⟨⟨_, J, AH (by grind [Db])⟩, O⟩, O, O, J⟩⟩
 try simp only [tdy] at h7
 refine AB J J (Ao 1 1 J J J (by kernel_rfl) J) (AB J J (A4 J J J (by kernel_rfl) J) (AB J J (Ak 46 3 J J (by kernel_rfl)) ?_))
 refine Bh J J (CC J J J) (fun b13 h13 => ?_)
 refine Az (AD J J J) (A2 ?_)
 cases b13
 rotate_left
 · try simp only [tdy] at h13
   refine A5 J (Aa (Az (A1 J J) (Ae ?_)))
   exact ⟨rn [], ⟨⟨⟨_, J, AH (by grind [Db])⟩, O⟩, O, O, J⟩⟩
 try simp only [tdy] at h13
 refine Ab J (A8 (Aa (Az (Ao 1 1 J J J (by kernel_rfl) J) (Az (A4 J J J (by kernel_rfl) J) (Az (Ak 46 3 J J (by kernel_rfl)) (Az (A0 J J) (A2 (AZ ?_))))))))
 refine B8 (ι := {q : Nat // q ≤ a.args.length ∧ EachTo Cv a.args q}) (fun p => [(18, .one (.c (.int .i64 ((p.1) : Int))))]) (fun p => []) [16, 17] [100] (fun p => a.args.length - (p.1)) ⟨0, ⟨by omega, .zero⟩⟩ (rn []) ?_ ?_
 exact Ag (by repeat first | exact trivial | refine Ah J (by first | exact VLe.rf | exact A7 (by dsimp only; omega)) ?_) (by repeat first | exact trivial | refine Ai J (by first | exact BLe.rf | exact BLe.box AllC.rf | exact BLe.arr (by exact J)) ?_) J J
 rintro ⟨k, hinv⟩
 dsimp only
 have hk := hinv.1
 have hA := hinv.2
 refine Aa ?_
 refine Bd (BI J J J) (fun b19 h19 => ?_)
 refine A2 (A8 ?_)
 cases b19
 · try simp only [tdy] at h19
   have hall := hA.all (by omega)
   refine Bc J ?_
   refine Br (B2 ?_)
   refine Aa (Az (A1 J J) (Ae ?_))
   exact ⟨rn [], ⟨⟨⟨_, J, AH (by grind [Db])⟩, O⟩, O, O, J⟩⟩
 try simp only [tdy] at h19
 refine A5 J (AP (A8 (AZ (Aa ?_))))
 refine Az (Am 46 3 k J J J (by kernel_rfl) J (by omega) (by omega)) ?_
 refine Az (Co (n := 3) J J (by kernel_rfl) J) (Az (Aw (.agg #[.string ⟨#[]⟩, .int .i64 0, .string ⟨#[]⟩]) 101 J (by kernel_rfl) J J J J) (Az (Ap 3 J J J J (by kernel_rfl) J J J) (Ad (Az (Au 3 J J J (by kernel_rfl) J J) ?_))))
 refine Bd (AS J J J (termS_c _) J J) (fun b23 h23 => ?_)
 refine Az (Cn J J) (A2 ?_)
 cases b23
 rotate_left
 · try simp only [tdy] at h23
   refine Ab J (AG ?_)
   refine Az (Bl J J J (IntWalk.i64_in _ (by omega))) ?_
   refine Az (A0 J J) (A2 ?_)
   refine ⟨⟨k + 1, ⟨by omega, hA.succ (by omega) h23⟩⟩, rn [], ?_, by dsimp only; omega⟩
   exact Ag (by repeat first | exact trivial | refine Ah J (by first | exact VLe.rf | exact A7 (by dsimp only; omega)) ?_) (by repeat first | exact trivial | refine Ai J (by first | exact BLe.rf | exact BLe.box AllC.rf | exact BLe.arr (by exact J)) ?_) J J
 try simp only [tdy] at h23
 have hall := EachTo.bad (by omega) h23
 refine A5 J (Aa (Az (A1 J J) (A2 ?_)))
 refine AU (Bk (Bk ?_))
 exact ⟨rn [], ⟨⟨⟨_, J, AH (by grind [Db])⟩, O⟩, O, O, J⟩⟩

set_option maxHeartbeats 4000000 in
theorem litI_c (l : Litt) : AC Tryz.prog 63 [.agg (litC l)] [] (.one (.c (.bool (Cs l)))) [] := by
 refine Bn Tryz.func63 J J Tryz.ntmps63 J Tryz.results63 ?_
 refine Cz 0 2 J J (fun hm0_2 => ?_)
 refine Aa (Az (Dr 100 J J J J J J J) (Az (A1 J J) (A2 (A8 (Aa (Az (Ao 0 0 J J J (by kernel_rfl) J) (Az (A4 J J J (by kernel_rfl) J) (A2 (AZ (A8 (Aa ?_)))))))))))
 refine Bd (AR J J J) (fun b6 h6 => ?_)
 refine Az (A1 J J) (A2 ?_)
 cases b6
 rotate_left
 · try simp only [tdy] at h6
   refine A5 J (AP (A5 J (Aa (Az (Ao 1 1 J J J (by kernel_rfl) J) (Az (Au 2 J J J (by kernel_rfl) J J) ?_)))))
   refine Bd (AS J J J (atomI_c l.atom) J J) (fun b10 h10 => ?_)
   refine Az (A0 J J) ?_
   cases b10
   · try simp only [tdy] at h10
     refine A3 J J J J (A3 J J J J (A3 J J J J (Az (AD J J J) (Az (A0 J J) (A3 J J J J (A3 J J J J (A3 J J J J (A3 J J J J (Az (AD J J J) (Az (A0 J J) (A3 J J J J (A3 J J J J (A3 J J J J (A3 J J J J (Az (AD J J J) (Az (A1 J J) (A2 ?_)))))))))))))))))
     refine AU (Bk ?_)
     exact ⟨rn [], ⟨⟨⟨_, J, AH (by grind [Cs])⟩, O⟩, O, O, J⟩⟩
   try simp only [tdy] at h10
   refine AB J J (Ao 3 3 J J J (by kernel_rfl) J) (AB J J (A4 J J J (by kernel_rfl) J) ?_)
   refine Bh J J (AR J J J) (fun b14 h14 => ?_)
   refine Az (AJ J J J) (Az (A0 J J) ?_)
   cases b14
   · try simp only [tdy] at h14
     refine A3 J J J J (A3 J J J J (A3 J J J J (A3 J J J J (Az (AD J J J) (Az (A0 J J) (A3 J J J J (A3 J J J J (A3 J J J J (A3 J J J J (Az (AD J J J) (Az (A1 J J) (A2 ?_))))))))))))
     refine AU (Bk ?_)
     exact ⟨rn [], ⟨⟨⟨_, J, AH (by grind [Cs])⟩, O⟩, O, O, J⟩⟩
   try simp only [tdy] at h14
   refine AB J J (Ao 4 4 J J J (by kernel_rfl) J) (AB J J (Au 3 J J J (by kernel_rfl) J J) (AB J J (Al [.string ⟨#[]⟩, .int .i64 0, .string ⟨#[]⟩] [(0, 1), (1, 2)] J (by kernel_rfl) J J J J J) ?_))
   refine Bh J J (Hz (a := l.a) (b := BP) J J J) (fun b20 h20 => ?_)
   refine Az (AJ J J J) (Az (A0 J J) ?_)
   cases b20
   · try simp only [tdy] at h20
     refine A3 J J J J (A3 J J J J (A3 J J J J (A3 J J J J (Az (AD J J J) (Az (A1 J J) (A2 ?_))))))
     refine AU (Bk ?_)
     exact ⟨rn [], ⟨⟨⟨_, J, AH (by grind [Cs])⟩, O⟩, O, O, J⟩⟩
   try simp only [tdy] at h20
   refine AB J J (Ao 7 7 J J J (by kernel_rfl) J) (AB J J (Au 3 J J J (by kernel_rfl) J J) (AB J J (Al [.string ⟨#[]⟩, .int .i64 0, .string ⟨#[]⟩] [(0, 1), (1, 2)] J (by kernel_rfl) J J J J J) ?_))
   refine Bh J J (Hz (a := l.b) (b := BP) J J J) (fun b26 h26 => ?_)
   refine Az (AJ J J J) (Az (A1 J J) (A2 ?_))
   refine AU (Bk ?_)
   cases b26
   rotate_left
   · try simp only [tdy] at h26
     exact ⟨rn [], ⟨⟨⟨_, J, AH (by grind [Cs])⟩, O⟩, O, O, J⟩⟩
   try simp only [tdy] at h26
   exact ⟨rn [], ⟨⟨⟨_, J, AH (by grind [Cs])⟩, O⟩, O, O, J⟩⟩
 try simp only [tdy] at h6
 refine Bc J (AG ?_)
 refine Bd (AR J J J) (fun b7 h7 => ?_)
 refine Az (A1 J J) (A2 ?_)
 cases b7
 rotate_left
 · try simp only [tdy] at h7
   refine A5 J (Aa (Az (Ao 1 1 J J J (by kernel_rfl) J) (Az (Au 2 J J J (by kernel_rfl) J J) ?_)))
   refine Bd (AS J J J (atomI_c l.atom) J J) (fun b10 h10 => ?_)
   refine Az (A0 J J) ?_
   cases b10
   · try simp only [tdy] at h10
     refine A3 J J J J (A3 J J J J (A3 J J J J (Az (AD J J J) (Az (A0 J J) (A3 J J J J (A3 J J J J (A3 J J J J (A3 J J J J (Az (AD J J J) (Az (A0 J J) (A3 J J J J (A3 J J J J (A3 J J J J (A3 J J J J (Az (AD J J J) (Az (A1 J J) (A2 ?_)))))))))))))))))
     refine AU (Bk ?_)
     exact ⟨rn [], ⟨⟨⟨_, J, AH (by grind [Cs])⟩, O⟩, O, O, J⟩⟩
   try simp only [tdy] at h10
   refine AB J J (Ao 3 3 J J J (by kernel_rfl) J) (AB J J (A4 J J J (by kernel_rfl) J) ?_)
   refine Bh J J (AR J J J) (fun b14 h14 => ?_)
   refine Az (AJ J J J) (Az (A0 J J) ?_)
   cases b14
   · try simp only [tdy] at h14
     refine A3 J J J J (A3 J J J J (A3 J J J J (A3 J J J J (Az (AD J J J) (Az (A0 J J) (A3 J J J J (A3 J J J J (A3 J J J J (A3 J J J J (Az (AD J J J) (Az (A1 J J) (A2 ?_))))))))))))
     refine AU (Bk ?_)
     exact ⟨rn [], ⟨⟨⟨_, J, AH (by grind [Cs])⟩, O⟩, O, O, J⟩⟩
   try simp only [tdy] at h14
   refine AB J J (Ao 4 4 J J J (by kernel_rfl) J) (AB J J (Au 3 J J J (by kernel_rfl) J J) (AB J J (Al [.string ⟨#[]⟩, .int .i64 0, .string ⟨#[]⟩] [(0, 1), (1, 2)] J (by kernel_rfl) J J J J J) ?_))
   refine Bh J J (Hz (a := l.a) (b := BP) J J J) (fun b20 h20 => ?_)
   refine Az (AJ J J J) (Az (A0 J J) ?_)
   cases b20
   · try simp only [tdy] at h20
     refine A3 J J J J (A3 J J J J (A3 J J J J (A3 J J J J (Az (AD J J J) (Az (A1 J J) (A2 ?_))))))
     refine AU (Bk ?_)
     exact ⟨rn [], ⟨⟨⟨_, J, AH (by grind [Cs])⟩, O⟩, O, O, J⟩⟩
   try simp only [tdy] at h20
   refine AB J J (Ao 7 7 J J J (by kernel_rfl) J) (AB J J (Au 3 J J J (by kernel_rfl) J J) (AB J J (Al [.string ⟨#[]⟩, .int .i64 0, .string ⟨#[]⟩] [(0, 1), (1, 2)] J (by kernel_rfl) J J J J J) ?_))
   refine Bh J J (Hz (a := l.b) (b := BP) J J J) (fun b26 h26 => ?_)
   refine Az (AJ J J J) (Az (A1 J J) (A2 ?_))
   refine AU (Bk ?_)
   cases b26
   rotate_left
   · try simp only [tdy] at h26
     exact ⟨rn [], ⟨⟨⟨_, J, AH (by grind [Cs])⟩, O⟩, O, O, J⟩⟩
   try simp only [tdy] at h26
   exact ⟨rn [], ⟨⟨⟨_, J, AH (by grind [Cs])⟩, O⟩, O, O, J⟩⟩
 try simp only [tdy] at h7
 refine Bc J (Aa ?_)
 refine Bd (AR J J J) (fun b29 h29 => ?_)
 refine Az (A1 J J) (A2 ?_)
 cases b29
 · try simp only [tdy] at h29
   refine Ab J (Aa (Az (A1 J J) (Ae ?_)))
   exact ⟨rn [], ⟨⟨⟨_, J, AH (by grind [Cs])⟩, O⟩, O, O, J⟩⟩
 try simp only [tdy] at h29
 refine A5 J (Aa (Az (Ao 3 3 J J J (by kernel_rfl) J) (Az (A4 J J J (by kernel_rfl) J) ?_)))
 refine Bd (Ee J J J) (fun b32 h32 => ?_)
 refine Az (A0 J J) ?_
 cases b32
 · try simp only [tdy] at h32
   refine A3 J J J J (A3 J J J J (A3 J J J J (Az (AD J J J) (Az (A0 J J) (A3 J J J J (A3 J J J J (A3 J J J J (A3 J J J J (Az (AD J J J) (Az (A0 J J) (A3 J J J J (A3 J J J J (A3 J J J J (A3 J J J J (A3 J J J J (Az (AD J J J) (Az (A0 J J) (A3 J J J J (A3 J J J J (A3 J J J J (Az (AD J J J) (Az (A0 J J) (A3 J J J J ?_)))))))))))))))))))))))
   refine A3 J J J J (A3 J J J J (Az (AD J J J) (Az (A1 J J) (A2 ?_))))
   refine AU (Bk ?_)
   exact ⟨rn [], ⟨⟨⟨_, J, AH (by grind [Cs])⟩, O⟩, O, O, J⟩⟩
 try simp only [tdy] at h32
 refine AB J J (Ao 3 3 J J J (by kernel_rfl) J) (AB J J (A4 J J J (by kernel_rfl) J) ?_)
 refine Bh J J (E3 J J J) (fun b36 h36 => ?_)
 refine Az (AJ J J J) (Az (A0 J J) ?_)
 cases b36
 · try simp only [tdy] at h36
   refine A3 J J J J (A3 J J J J (A3 J J J J (A3 J J J J (Az (AD J J J) (Az (A0 J J) (A3 J J J J (A3 J J J J (A3 J J J J (A3 J J J J (A3 J J J J (Az (AD J J J) (Az (A0 J J) (A3 J J J J (A3 J J J J (A3 J J J J (Az (AD J J J) (Az (A0 J J) (A3 J J J J (A3 J J J J (A3 J J J J (Az (AD J J J) (Az (A1 J J) (A2 ?_)))))))))))))))))))))))
   refine AU (Bk ?_)
   exact ⟨rn [], ⟨⟨⟨_, J, AH (by grind [Cs])⟩, O⟩, O, O, J⟩⟩
 try simp only [tdy] at h36
 refine AB J J (Ao 1 1 J J J (by kernel_rfl) J) (AB J J (Ao 0 1 J J J (by kernel_rfl) J) (AB J J (A4 J J J (by kernel_rfl) J) ?_))
 refine Bh J J (DH J J J) (fun b42 h42 => ?_)
 refine Az (AJ J J J) (Az (A0 J J) ?_)
 cases b42
 · try simp only [tdy] at h42
   refine A3 J J J J (A3 J J J J (A3 J J J J (A3 J J J J (A3 J J J J (Az (AD J J J) (Az (A0 J J) (A3 J J J J (A3 J J J J (A3 J J J J (Az (AD J J J) (Az (A0 J J) (A3 J J J J (A3 J J J J (A3 J J J J (Az (AD J J J) (Az (A1 J J) (A2 ?_)))))))))))))))))
   refine AU (Bk ?_)
   exact ⟨rn [], ⟨⟨⟨_, J, AH (by grind [Cs])⟩, O⟩, O, O, J⟩⟩
 try simp only [tdy] at h42
 refine AB J J (Ao 1 1 J J J (by kernel_rfl) J) (AB J J (Ao 1 2 J J J (by kernel_rfl) J) (AB J J (A4 J J J (by kernel_rfl) J) (AB J J (Ak 46 3 J J (by kernel_rfl)) ?_)))
 refine Bh J J (AR J J J) (fun b49 h49 => ?_)
 refine Az (AJ J J J) (Az (A0 J J) ?_)
 cases b49
 · try simp only [tdy] at h49
   refine A3 J J J J (A3 J J J J (A3 J J J J (Az (AD J J J) (Az (A0 J J) (A3 J J J J (A3 J J J J (A3 J J J J (Az (AD J J J) (Az (A1 J J) (A2 ?_))))))))))
   refine AU (Bk ?_)
   exact ⟨rn [], ⟨⟨⟨_, J, AH (by grind [Cs])⟩, O⟩, O, O, J⟩⟩
 try simp only [tdy] at h49
 refine AB J J (Ao 4 4 J J J (by kernel_rfl) J) (AB J J (Au 3 J J J (by kernel_rfl) J J) ?_)
 refine Bh J J (AS J J J (termI_c l.a) J J) (fun b54 h54 => ?_)
 refine Az (AJ J J J) (Az (A0 J J) ?_)
 cases b54
 · try simp only [tdy] at h54
   refine A3 J J J J (A3 J J J J (A3 J J J J (Az (AD J J J) (Az (A1 J J) (A2 ?_)))))
   refine AU (Bk ?_)
   exact ⟨rn [], ⟨⟨⟨_, J, AH (by grind [Cs])⟩, O⟩, O, O, J⟩⟩
 try simp only [tdy] at h54
 refine AB J J (Ao 7 7 J J J (by kernel_rfl) J) (AB J J (Au 3 J J J (by kernel_rfl) J J) ?_)
 refine Bh J J (AS J J J (termI_c l.b) J J) (fun b59 h59 => ?_)
 refine Az (AJ J J J) (Az (A1 J J) (A2 ?_))
 refine AU (Bk ?_)
 cases b59
 rotate_left
 · try simp only [tdy] at h59
   exact ⟨rn [], ⟨⟨⟨_, J, AH (by grind [Cs])⟩, O⟩, O, O, J⟩⟩
 try simp only [tdy] at h59
 exact ⟨rn [], ⟨⟨⟨_, J, AH (by grind [Cs])⟩, O⟩, O, O, J⟩⟩

set_option maxHeartbeats 4000000 in
theorem litS_c (l : Litt) : AC Tryz.prog 71 [.agg (litC l)] [] (.one (.c (.bool (Cs l)))) [] := by
 refine Bn Tryz.func71 J J Tryz.ntmps71 J Tryz.results71 ?_
 refine Cz 0 2 J J (fun hm0_2 => ?_)
 refine Aa (Az (Dr 100 J J J J J J J) (Az (A1 J J) (A2 (A8 (Aa (Az (Ao 0 0 J J J (by kernel_rfl) J) (Az (A4 J J J (by kernel_rfl) J) ?_)))))))
 refine Bd (AR J J J) (fun b6 h6 => ?_)
 refine A2 ?_
 cases b6
 rotate_left
 · try simp only [tdy] at h6
   refine A5 J (Aa (Az (Ao 3 3 J J J (by kernel_rfl) J) (Az (A4 J J J (by kernel_rfl) J) ?_)))
   refine Bd (Ee J J J) (fun b9 h9 => ?_)
   refine Az (A0 J J) ?_
   cases b9
   · try simp only [tdy] at h9
     refine A3 J J J J (A3 J J J J (A3 J J J J (Az (AD J J J) (Az (A0 J J) (A3 J J J J (A3 J J J J (A3 J J J J (A3 J J J J (Az (AD J J J) (Az (A0 J J) (A3 J J J J (A3 J J J J (A3 J J J J (A3 J J J J (A3 J J J J (Az (AD J J J) (Az (A0 J J) (A3 J J J J (A3 J J J J (A3 J J J J (Az (AD J J J) (Az (A0 J J) (A3 J J J J ?_)))))))))))))))))))))))
     refine A3 J J J J (A3 J J J J (Az (AD J J J) (Az (A1 J J) (Ae ?_))))
     exact ⟨rn [], ⟨⟨⟨_, J, AH (by grind [Cs])⟩, O⟩, O, O, J⟩⟩
   try simp only [tdy] at h9
   refine AB J J (Ao 3 3 J J J (by kernel_rfl) J) (AB J J (A4 J J J (by kernel_rfl) J) ?_)
   refine Bh J J (E3 J J J) (fun b13 h13 => ?_)
   refine Az (AJ J J J) (Az (A0 J J) ?_)
   cases b13
   · try simp only [tdy] at h13
     refine A3 J J J J (A3 J J J J (A3 J J J J (A3 J J J J (Az (AD J J J) (Az (A0 J J) (A3 J J J J (A3 J J J J (A3 J J J J (A3 J J J J (A3 J J J J (Az (AD J J J) (Az (A0 J J) (A3 J J J J (A3 J J J J (A3 J J J J (Az (AD J J J) (Az (A0 J J) (A3 J J J J (A3 J J J J (A3 J J J J (Az (AD J J J) (Az (A1 J J) (Ae ?_)))))))))))))))))))))))
     exact ⟨rn [], ⟨⟨⟨_, J, AH (by grind [Cs])⟩, O⟩, O, O, J⟩⟩
   try simp only [tdy] at h13
   refine AB J J (Ao 1 1 J J J (by kernel_rfl) J) (AB J J (Ao 0 1 J J J (by kernel_rfl) J) (AB J J (A4 J J J (by kernel_rfl) J) ?_))
   refine Bh J J (DH J J J) (fun b19 h19 => ?_)
   refine Az (AJ J J J) (Az (A0 J J) ?_)
   cases b19
   · try simp only [tdy] at h19
     refine A3 J J J J (A3 J J J J (A3 J J J J (A3 J J J J (A3 J J J J (Az (AD J J J) (Az (A0 J J) (A3 J J J J (A3 J J J J (A3 J J J J (Az (AD J J J) (Az (A0 J J) (A3 J J J J (A3 J J J J (A3 J J J J (Az (AD J J J) (Az (A1 J J) (Ae ?_)))))))))))))))))
     exact ⟨rn [], ⟨⟨⟨_, J, AH (by grind [Cs])⟩, O⟩, O, O, J⟩⟩
   try simp only [tdy] at h19
   refine AB J J (Ao 1 1 J J J (by kernel_rfl) J) (AB J J (Ao 1 2 J J J (by kernel_rfl) J) (AB J J (A4 J J J (by kernel_rfl) J) (AB J J (Ak 46 3 J J (by kernel_rfl)) ?_)))
   refine Bh J J (AR J J J) (fun b26 h26 => ?_)
   refine Az (AJ J J J) (Az (A0 J J) ?_)
   cases b26
   · try simp only [tdy] at h26
     refine A3 J J J J (A3 J J J J (A3 J J J J (Az (AD J J J) (Az (A0 J J) (A3 J J J J (A3 J J J J (A3 J J J J (Az (AD J J J) (Az (A1 J J) (Ae ?_))))))))))
     exact ⟨rn [], ⟨⟨⟨_, J, AH (by grind [Cs])⟩, O⟩, O, O, J⟩⟩
   try simp only [tdy] at h26
   refine AB J J (Ao 4 4 J J J (by kernel_rfl) J) (AB J J (Au 3 J J J (by kernel_rfl) J J) ?_)
   refine Bh J J (AS J J J (termS_c l.a) J J) (fun b31 h31 => ?_)
   refine Az (AJ J J J) (Az (A0 J J) ?_)
   cases b31
   · try simp only [tdy] at h31
     refine A3 J J J J (A3 J J J J (A3 J J J J (Az (AD J J J) (Az (A1 J J) (Ae ?_)))))
     exact ⟨rn [], ⟨⟨⟨_, J, AH (by grind [Cs])⟩, O⟩, O, O, J⟩⟩
   try simp only [tdy] at h31
   refine AB J J (Ao 7 7 J J J (by kernel_rfl) J) (AB J J (Au 3 J J J (by kernel_rfl) J J) ?_)
   refine Bh J J (AS J J J (termS_c l.b) J J) (fun b36 h36 => ?_)
   refine Az (AJ J J J) (Az (A1 J J) (Ae ?_))
   cases b36
   rotate_left
   · try simp only [tdy] at h36
     exact ⟨rn [], ⟨⟨⟨_, J, AH (by grind [Cs])⟩, O⟩, O, O, J⟩⟩
   try simp only [tdy] at h36
   exact ⟨rn [], ⟨⟨⟨_, J, AH (by grind [Cs])⟩, O⟩, O, O, J⟩⟩
 try simp only [tdy] at h6
 refine Ab J (Aa (Az (Al [.string ⟨#[]⟩, .int .i64 0, .string ⟨#[]⟩] [(0, 1), (1, 2)] J (by kernel_rfl) J J J J J) (Az (Aw (.agg #[.string ⟨#[]⟩, .int .i64 0, .string ⟨#[]⟩]) 101 J (by kernel_rfl) J J J J) (Az (Ap 3 J J J J (by kernel_rfl) J J J) (Ad (Az (Ao 0 0 J J J (by kernel_rfl) J) (Az (A4 J J J (by kernel_rfl) J) ?_)))))))
 refine Bd (AR J J J) (fun b41 h41 => ?_)
 refine Az (A0 J J) ?_
 cases b41
 rotate_left
 · try simp only [tdy] at h41
   refine A3 J J J J (A3 J J J J (A3 J J J J (Az (AJ J J J) (Az (A0 J J) (AB J J (Ao 1 1 J J J (by kernel_rfl) J) (AB J J (Au 2 J J J (by kernel_rfl) J J) ?_))))))
   refine Bh J J (AS J J J (atomS_c l.atom) J J) (fun b50 h50 => ?_)
   refine Az (AJ J J J) (Az (A0 J J) ?_)
   cases b50
   · try simp only [tdy] at h50
     refine A3 J J J J (A3 J J J J (A3 J J J J (Az (AD J J J) (Az (A0 J J) (A3 J J J J (A3 J J J J (A3 J J J J (A3 J J J J (Az (AD J J J) (Az (A0 J J) (A3 J J J J (A3 J J J J (A3 J J J J (A3 J J J J (Az (AD J J J) (Az (A1 J J) (Ae ?_)))))))))))))))))
     exact ⟨rn [], ⟨⟨⟨_, J, AH (by grind [Cs])⟩, O⟩, O, O, J⟩⟩
   try simp only [tdy] at h50
   refine AB J J (Ao 3 3 J J J (by kernel_rfl) J) (AB J J (A4 J J J (by kernel_rfl) J) ?_)
   refine Bh J J (AR J J J) (fun b55 h55 => ?_)
   refine Az (AJ J J J) (Az (A0 J J) ?_)
   cases b55
   · try simp only [tdy] at h55
     refine A3 J J J J (A3 J J J J (A3 J J J J (A3 J J J J (Az (AD J J J) (Az (A0 J J) (A3 J J J J (A3 J J J J (A3 J J J J (A3 J J J J (Az (AD J J J) (Az (A1 J J) (Ae ?_))))))))))))
     exact ⟨rn [], ⟨⟨⟨_, J, AH (by grind [Cs])⟩, O⟩, O, O, J⟩⟩
   try simp only [tdy] at h55
   refine AB J J (Ao 4 4 J J J (by kernel_rfl) J) (AB J J (Au 3 J J J (by kernel_rfl) J J) (AB J J (Au 3 J J J (by kernel_rfl) J J) ?_))
   refine Bh J J (Hz (a := l.a) (b := BP) J J J) (fun b61 h61 => ?_)
   refine Az (AJ J J J) (Az (A0 J J) ?_)
   cases b61
   · try simp only [tdy] at h61
     refine A3 J J J J (A3 J J J J (A3 J J J J (A3 J J J J (Az (AD J J J) (Az (A1 J J) (Ae ?_))))))
     exact ⟨rn [], ⟨⟨⟨_, J, AH (by grind [Cs])⟩, O⟩, O, O, J⟩⟩
   try simp only [tdy] at h61
   refine AB J J (Ao 7 7 J J J (by kernel_rfl) J) (AB J J (Au 3 J J J (by kernel_rfl) J J) (AB J J (Au 3 J J J (by kernel_rfl) J J) ?_))
   refine Bh J J (Hz (a := l.b) (b := BP) J J J) (fun b67 h67 => ?_)
   refine Az (AJ J J J) (Az (A1 J J) (Ae ?_))
   cases b67
   rotate_left
   · try simp only [tdy] at h67
     exact ⟨rn [], ⟨⟨⟨_, J, AH (by grind [Cs])⟩, O⟩, O, O, J⟩⟩
   try simp only [tdy] at h67
   exact ⟨rn [], ⟨⟨⟨_, J, AH (by grind [Cs])⟩, O⟩, O, O, J⟩⟩
 try simp only [tdy] at h41
 refine AB J J (Ao 0 0 J J J (by kernel_rfl) J) (AB J J (A4 J J J (by kernel_rfl) J) ?_)
 refine Bh J J (AR J J J) (fun b45 h45 => ?_)
 refine Az (AD J J J) (Az (A0 J J) ?_)
 cases b45
 · try simp only [tdy] at h45
   refine A3 J J J J (A3 J J J J (A3 J J J J (Az (AD J J J) (Az (A0 J J) (A3 J J J J (A3 J J J J (A3 J J J J (Az (AD J J J) (Az (A0 J J) (A3 J J J J (A3 J J J J (A3 J J J J (A3 J J J J (Az (AD J J J) (Az (A0 J J) (A3 J J J J (A3 J J J J (A3 J J J J (A3 J J J J (Az (AD J J J) (Az (A1 J J) (Ae ?_))))))))))))))))))))))
   exact ⟨rn [], ⟨⟨⟨_, J, AH (by grind [Cs])⟩, O⟩, O, O, J⟩⟩
 try simp only [tdy] at h45
 refine AB J J (Ao 1 1 J J J (by kernel_rfl) J) (AB J J (Au 2 J J J (by kernel_rfl) J J) ?_)
 refine Bh J J (AS J J J (atomS_c l.atom) J J) (fun b50 h50 => ?_)
 refine Az (AJ J J J) (Az (A0 J J) ?_)
 cases b50
 · try simp only [tdy] at h50
   refine A3 J J J J (A3 J J J J (A3 J J J J (Az (AD J J J) (Az (A0 J J) (A3 J J J J (A3 J J J J (A3 J J J J (A3 J J J J (Az (AD J J J) (Az (A0 J J) (A3 J J J J (A3 J J J J (A3 J J J J (A3 J J J J (Az (AD J J J) (Az (A1 J J) (Ae ?_)))))))))))))))))
   exact ⟨rn [], ⟨⟨⟨_, J, AH (by grind [Cs])⟩, O⟩, O, O, J⟩⟩
 try simp only [tdy] at h50
 refine AB J J (Ao 3 3 J J J (by kernel_rfl) J) (AB J J (A4 J J J (by kernel_rfl) J) ?_)
 refine Bh J J (AR J J J) (fun b55 h55 => ?_)
 refine Az (AJ J J J) (Az (A0 J J) ?_)
 cases b55
 · try simp only [tdy] at h55
   refine A3 J J J J (A3 J J J J (A3 J J J J (A3 J J J J (Az (AD J J J) (Az (A0 J J) (A3 J J J J (A3 J J J J (A3 J J J J (A3 J J J J (Az (AD J J J) (Az (A1 J J) (Ae ?_))))))))))))
   exact ⟨rn [], ⟨⟨⟨_, J, AH (by grind [Cs])⟩, O⟩, O, O, J⟩⟩
 try simp only [tdy] at h55
 refine AB J J (Ao 4 4 J J J (by kernel_rfl) J) (AB J J (Au 3 J J J (by kernel_rfl) J J) (AB J J (Au 3 J J J (by kernel_rfl) J J) ?_))
 refine Bh J J (Hz (a := l.a) (b := BP) J J J) (fun b61 h61 => ?_)
 refine Az (AJ J J J) (Az (A0 J J) ?_)
 cases b61
 · try simp only [tdy] at h61
   refine A3 J J J J (A3 J J J J (A3 J J J J (A3 J J J J (Az (AD J J J) (Az (A1 J J) (Ae ?_))))))
   exact ⟨rn [], ⟨⟨⟨_, J, AH (by grind [Cs])⟩, O⟩, O, O, J⟩⟩
 try simp only [tdy] at h61
 refine AB J J (Ao 7 7 J J J (by kernel_rfl) J) (AB J J (Au 3 J J J (by kernel_rfl) J J) (AB J J (Au 3 J J J (by kernel_rfl) J J) ?_))
 refine Bh J J (Hz (a := l.b) (b := BP) J J J) (fun b67 h67 => ?_)
 refine Az (AJ J J J) (Az (A1 J J) (Ae ?_))
 cases b67
 rotate_left
 · try simp only [tdy] at h67
   exact ⟨rn [], ⟨⟨⟨_, J, AH (by grind [Cs])⟩, O⟩, O, O, J⟩⟩
 try simp only [tdy] at h67
 exact ⟨rn [], ⟨⟨⟨_, J, AH (by grind [Cs])⟩, O⟩, O, O, J⟩⟩

set_option maxHeartbeats 4000000 in
theorem notLit_c (t : Litt) : AC Tryz.prog 62 [.agg (litC t)] [] (.one (.c (.bool (!Cs t)))) [] := by
 refine Bn Tryz.func62 J J Tryz.ntmps62 J Tryz.results62 ?_
 refine Aa (Az (Dr 100 J J J J J J J) (Az (A1 J J) (Ad (Az (Au 10 J J J (by kernel_rfl) J J) ?_))))
 refine Bd (AS J J J (litI_c t) J J) (fun b4 h4 => ?_)
 refine Az (Cn J J) (Az (A1 J J) (Ae ?_))
 cases b4
 rotate_left
 · try simp only [tdy] at h4
   exact ⟨rn [], ⟨⟨⟨_, J, AH (by simp [*])⟩, O⟩, O, O, J⟩⟩
 try simp only [tdy] at h4
 exact ⟨rn [], ⟨⟨⟨_, J, AH (by simp [*])⟩, O⟩, O, O, J⟩⟩

set_option maxHeartbeats 4000000 in
theorem idxLit_c (l : List Litt) : AC Tryz.prog 89 [.one (.sl DI l), .one (.clo 62 [])] [] (.one (.c (.int .i64 (Hb Cs l)))) [] := by
 refine Bn Tryz.func89 J J Tryz.ntmps89 J Tryz.results89 ?_
 refine AW_slmax 0 J (fun hm0 => ?_)
 refine Aa (Az (A1 J J) (A2 (A8 (Aa (Az (A0 J J) (Az (Ak 48 10 J J (by kernel_rfl)) (Az (A0 J J) (A2 (AZ ?_)))))))))
 refine B8 (ι := {q : Nat // q ≤ l.length ∧ EachTo Cs l q}) (fun p => [(8, .one (.c (.int .i64 ((p.1) : Int))))]) (fun p => []) [0, 1, 7] [] (fun p => l.length - (p.1)) ⟨0, ⟨by omega, .zero⟩⟩ (rn []) ?_ ?_
 exact Ag (by repeat first | exact trivial | refine Ah J (by first | exact VLe.rf | exact A7 (by dsimp only; omega)) ?_) (by repeat first | exact trivial | refine Ai J (by first | exact BLe.rf | exact BLe.box AllC.rf | exact BLe.arr (by exact J)) ?_) J J
 rintro ⟨k, hinv⟩
 dsimp only
 have hk := hinv.1
 have hA := hinv.2
 refine Aa ?_
 refine Bd (BI J J J) (fun b9 h9 => ?_)
 refine A2 (A8 ?_)
 cases b9
 · try simp only [tdy] at h9
   refine Bc J ?_
   refine Br (B2 ?_)
   refine Aa (Az (A1 J J) (Ae ?_))
   exact ⟨rn [], ⟨⟨⟨_, J, A7 (by first | exact (Gj hA (by omega) (by simpa using h16)).symm | exact (FD hA (by omega)).symm)⟩, O⟩, O, O, J⟩⟩
 try simp only [tdy] at h9
 refine A5 J (AP (A8 (AZ (Aa (Az (A0 J J) (Az (A1 J J) (Ad (Az (A0 J J) (Az (A0 J J) (Az (A0 J J) ?_))))))))))
 refine Az (Am 48 10 k J J J (by kernel_rfl) J (by omega) (by omega)) ?_
 refine Az (Co (n := 10) J J (by kernel_rfl) J) ?_
 refine Dk (Av [] [] [] J J J (notLit_c (l[k]'(by omega))) J AllV.rf (BE J) J J J (by repeat (first | exact trivial | refine ⟨J, ?_⟩)) J) (fun b16 h16 => ?_)
 refine A2 ?_
 cases b16
 rotate_left
 · try simp only [tdy] at h16
   refine A5 J (Aa (Az (A0 J J) (Az (A1 J J) (A2 ?_))))
   refine AU (Bk (Bk ?_))
   exact ⟨rn [], ⟨⟨⟨_, J, A7 (by first | exact (Gj hA (by omega) (by simpa using h16)).symm | exact (FD hA (by omega)).symm)⟩, O⟩, O, O, J⟩⟩
 try simp only [tdy] at h16
 refine Ab J (AG ?_)
 refine Az (Bl J J J (IntWalk.i64_in _ (by omega))) ?_
 refine Az (A0 J J) (A2 ?_)
 refine ⟨⟨k + 1, ⟨by omega, hA.succ (by omega) (by simpa using h16)⟩⟩, rn [], ?_, by dsimp only; omega⟩
 exact Ag (by repeat first | exact trivial | refine Ah J (by first | exact VLe.rf | exact A7 (by dsimp only; omega)) ?_) (by repeat first | exact trivial | refine Ai J (by first | exact BLe.rf | exact BLe.box AllC.rf | exact BLe.arr (by exact J)) ?_) J J

set_option maxHeartbeats 4000000 in
theorem anyLit_c (l : List Litt) : AC Tryz.prog 61 [.one (.sl DI l), .one (.clo 62 [])] [] (.one (.c (.bool (!l.all Cs)))) [] := by
 refine Bn Tryz.func61 J J Tryz.ntmps61 J Tryz.results61 ?_
 refine Aa (Az (A1 J J) (Ad (Az (A0 J J) (Az (A0 J J) ?_))))
 refine Az (Av [] [] [] J J J (idxLit_c l) J AllV.rf (BE J) J J J (by repeat (first | exact trivial | refine ⟨J, ?_⟩)) J) ?_
 refine Bd (Ee J J J) (fun b8 h8 => ?_)
 refine Az (A1 J J) (Ae ?_)
 cases b8
 rotate_left
 · try simp only [tdy] at h8
   exact ⟨rn [], ⟨⟨⟨_, J, AH (by first | (rw [← CZ]; simp [*]; done) | (rw [← CZ]; first | rfl | (symm; rw [decide_eq_true_eq]; omega) | (symm; rw [decide_eq_false_iff_not]; omega)))⟩, O⟩, O, O, J⟩⟩
 try simp only [tdy] at h8
 exact ⟨rn [], ⟨⟨⟨_, J, AH (by first | (rw [← CZ]; simp [*]; done) | (rw [← CZ]; first | rfl | (symm; rw [decide_eq_true_eq]; omega) | (symm; rw [decide_eq_false_iff_not]; omega)))⟩, O⟩, O, O, J⟩⟩

set_option maxHeartbeats 4000000 in
theorem ruleI_c (r : Rulet) : AC Tryz.prog 33 [.agg (ruleC r)] [] (.one (.c (.bool (Cx r)))) [] := by
 refine Bn Tryz.func33 J J Tryz.ntmps33 J Tryz.results33 ?_
 refine Cz 0 3 J J (fun hm0_3 => ?_)
 refine Aa (Az (Dr 100 J J J J J J J) (Az (A1 J J) (Ad (Az (Ao 0 0 J J J (by kernel_rfl) J) (Az (A4 J J J (by kernel_rfl) J) ?_)))))
 refine Bd (Ee J J J) (fun b5 h5 => ?_)
 refine Az (A0 J J) ?_
 cases b5
 · try simp only [tdy] at h5
   refine A3 J J J J (A3 J J J J (A3 J J J J (Az (AD J J J) (Az (A0 J J) (A3 J J J J (A3 J J J J (A3 J J J J (Az (AD J J J) (Az (A0 J J) (A3 J J J J (A3 J J J J (A3 J J J J (A3 J J J J (Az (AD J J J) (Az (A0 J J) (A3 J J J J (A3 J J J J (A3 J J J J (A3 J J J J (Az (AD J J J) (Az (A1 J J) (Ae ?_))))))))))))))))))))))
   exact ⟨rn [], ⟨⟨⟨_, J, AH (by grind [Cx])⟩, O⟩, O, O, J⟩⟩
 try simp only [tdy] at h5
 refine AB J J (Ao 0 0 J J J (by kernel_rfl) J) (AB J J (A4 J J J (by kernel_rfl) J) ?_)
 refine Bh J J (E3 J J J) (fun b9 h9 => ?_)
 refine Az (AJ J J J) (Az (A0 J J) ?_)
 cases b9
 · try simp only [tdy] at h9
   refine A3 J J J J (A3 J J J J (A3 J J J J (Az (AD J J J) (Az (A0 J J) (A3 J J J J (A3 J J J J (A3 J J J J (A3 J J J J (Az (AD J J J) (Az (A0 J J) (A3 J J J J (A3 J J J J (A3 J J J J (A3 J J J J (Az (AD J J J) (Az (A1 J J) (Ae ?_)))))))))))))))))
   exact ⟨rn [], ⟨⟨⟨_, J, AH (by grind [Cx])⟩, O⟩, O, O, J⟩⟩
 try simp only [tdy] at h9
 refine AB J J (Ao 1 1 J J J (by kernel_rfl) J) (AB J J (Au 2 J J J (by kernel_rfl) J J) ?_)
 refine Bh J J (AS J J J (atomI_c r.head) J J) (fun b14 h14 => ?_)
 refine Az (AJ J J J) (Az (A0 J J) ?_)
 cases b14
 · try simp only [tdy] at h14
   refine A3 J J J J (A3 J J J J (A3 J J J J (A3 J J J J (Az (AD J J J) (Az (A0 J J) (A3 J J J J (A3 J J J J (A3 J J J J (A3 J J J J (Az (AD J J J) (Az (A1 J J) (Ae ?_))))))))))))
   exact ⟨rn [], ⟨⟨⟨_, J, AH (by grind [Cx])⟩, O⟩, O, O, J⟩⟩
 try simp only [tdy] at h14
 refine AB J J (Ao 3 3 J J J (by kernel_rfl) J) (AB J J (A4 J J J (by kernel_rfl) J) (AB J J (Ak 48 10 J J (by kernel_rfl)) ?_))
 refine Bh J J (E3 J J J) (fun b20 h20 => ?_)
 refine Az (AJ J J J) (Az (A0 J J) ?_)
 cases b20
 · try simp only [tdy] at h20
   refine A3 J J J J (A3 J J J J (A3 J J J J (A3 J J J J (Az (AD J J J) (Az (A1 J J) (Ae ?_))))))
   exact ⟨rn [], ⟨⟨⟨_, J, AH (by grind [Cx])⟩, O⟩, O, O, J⟩⟩
 try simp only [tdy] at h20
 refine AB J J (Ao 3 3 J J J (by kernel_rfl) J) (AB J J (A4 J J J (by kernel_rfl) J) ?_)
 refine FF J J (Av [] [] [] J J J (anyLit_c r.body) J AllV.rf (BE J) J J J (by repeat (first | exact trivial | refine ⟨J, ?_⟩)) J) (fun b25 h25 => ?_)
 refine AB J J (Cn J J) (Az (AJ J J J) (Az (A1 J J) (Ae ?_)))
 cases b25
 rotate_left
 · try simp only [tdy] at h25
   exact ⟨rn [], ⟨⟨⟨_, J, AH (by grind [Cx])⟩, O⟩, O, O, J⟩⟩
 try simp only [tdy] at h25
 exact ⟨rn [], ⟨⟨⟨_, J, AH (by grind [Cx])⟩, O⟩, O, O, J⟩⟩

set_option maxHeartbeats 4000000 in
theorem ruleS_c (r : Rulet) : AC Tryz.prog 39 [.agg (ruleC r)] [] (.one (.c (.bool (Cx r)))) [] := by
 refine Bn Tryz.func39 J J Tryz.ntmps39 J Tryz.results39 ?_
 refine Cz 0 3 J J (fun hm0_3 => ?_)
 refine Aa (Az (Dr 100 J J J J J J J) (Az (A1 J J) (A2 (A8 (Aa (Az (Ao 0 0 J J J (by kernel_rfl) J) (Az (A4 J J J (by kernel_rfl) J) ?_)))))))
 refine Bd (BI J J J) (fun b6 h6 => ?_)
 refine Az (A0 J J) ?_
 cases b6
 rotate_left
 · try simp only [tdy] at h6
   refine A3 J J J J (A3 J J J J (A3 J J J J (Az (AJ J J J) (Az (A0 J J) (A3 J J J J (A3 J J J J (A3 J J J J (A3 J J J J (Az (AJ J J J) (Az (A0 J J) (A3 J J J J (A3 J J J J (A3 J J J J (A3 J J J J (Az (AJ J J J) (A2 (A5 J (Aa (Az (A1 J J) (Ae ?_))))))))))))))))))))
   exact ⟨rn [], ⟨⟨⟨_, J, AH (by grind [Cx])⟩, O⟩, O, O, J⟩⟩
 try simp only [tdy] at h6
 refine AB J J (Ao 0 0 J J J (by kernel_rfl) J) (AB J J (A4 J J J (by kernel_rfl) J) ?_)
 refine Bh J J (CC J J J) (fun b10 h10 => ?_)
 refine Az (AD J J J) (Az (A0 J J) ?_)
 cases b10
 rotate_left
 · try simp only [tdy] at h10
   refine A3 J J J J (A3 J J J J (A3 J J J J (A3 J J J J (Az (AJ J J J) (Az (A0 J J) (A3 J J J J (A3 J J J J (A3 J J J J (A3 J J J J (Az (AJ J J J) (A2 (A5 J (Aa (Az (A1 J J) (Ae ?_)))))))))))))))
   exact ⟨rn [], ⟨⟨⟨_, J, AH (by grind [Cx])⟩, O⟩, O, O, J⟩⟩
 try simp only [tdy] at h10
 refine AB J J (Ao 1 1 J J J (by kernel_rfl) J) (AB J J (Au 2 J J J (by kernel_rfl) J J) ?_)
 refine Bh J J (AS J J J (atomS_c r.head) J J) (fun b15 h15 => ?_)
 refine AB J J (Cn J J) (Az (AD J J J) (Az (A0 J J) ?_))
 cases b15
 · try simp only [tdy] at h15
   refine A3 J J J J (A3 J J J J (A3 J J J J (A3 J J J J (Az (AJ J J J) (A2 (A5 J (Aa (Az (A1 J J) (Ae ?_)))))))))
   exact ⟨rn [], ⟨⟨⟨_, J, AH (by grind [Cx])⟩, O⟩, O, O, J⟩⟩
 try simp only [tdy] at h15
 refine AB J J (Ao 3 3 J J J (by kernel_rfl) J) (AB J J (A4 J J J (by kernel_rfl) J) (AB J J (Ak 48 10 J J (by kernel_rfl)) ?_))
 refine Bh J J (CC J J J) (fun b22 h22 => ?_)
 refine Az (AD J J J) (A2 ?_)
 cases b22
 rotate_left
 · try simp only [tdy] at h22
   refine A5 J (Aa (Az (A1 J J) (Ae ?_)))
   exact ⟨rn [], ⟨⟨⟨_, J, AH (by grind [Cx])⟩, O⟩, O, O, J⟩⟩
 try simp only [tdy] at h22
 refine Ab J (A8 (Aa (Az (Ao 3 3 J J J (by kernel_rfl) J) (Az (A4 J J J (by kernel_rfl) J) (Az (Ak 48 10 J J (by kernel_rfl)) (Az (A0 J J) (A2 (AZ ?_))))))))
 refine B8 (ι := {q : Nat // q ≤ r.body.length ∧ EachTo Cs r.body q}) (fun p => [(27, .one (.c (.int .i64 ((p.1) : Int))))]) (fun p => []) [1, 26] [100] (fun p => r.body.length - (p.1)) ⟨0, ⟨by omega, .zero⟩⟩ (rn []) ?_ ?_
 exact Ag (by repeat first | exact trivial | refine Ah J (by first | exact VLe.rf | exact A7 (by dsimp only; omega)) ?_) (by repeat first | exact trivial | refine Ai J (by first | exact BLe.rf | exact BLe.box AllC.rf | exact BLe.arr (by exact J)) ?_) J J
 rintro ⟨k, hinv⟩
 dsimp only
 have hk := hinv.1
 have hA := hinv.2
 refine Aa ?_
 refine Bd (BI J J J) (fun b28 h28 => ?_)
 refine A2 (A8 ?_)
 cases b28
 · try simp only [tdy] at h28
   have hall := hA.all (by omega)
   refine Bc J ?_
   refine Br (B2 ?_)
   refine Aa (Az (A1 J J) (Ae ?_))
   exact ⟨rn [], ⟨⟨⟨_, J, AH (by grind [Cx])⟩, O⟩, O, O, J⟩⟩
 try simp only [tdy] at h28
 refine A5 J (AP (A8 (AZ (Aa (Az (A0 J J) (Az (A1 J J) (Ad (Az (Ao 3 3 J J J (by kernel_rfl) J) (Az (A4 J J J (by kernel_rfl) J) (Az (A0 J J) ?_))))))))))
 refine Az (Am 48 10 k J J J (by kernel_rfl) J (by omega) (by omega)) ?_
 refine Az (Co (n := 10) J J (by kernel_rfl) J) ?_
 refine Bd (AS J J J (litS_c _) J J) (fun b35 h35 => ?_)
 refine Az (Cn J J) (A2 ?_)
 cases b35
 rotate_left
 · try simp only [tdy] at h35
   refine Ab J (AG ?_)
   refine Az (Bl J J J (IntWalk.i64_in _ (by omega))) ?_
   refine Az (A0 J J) (A2 ?_)
   refine ⟨⟨k + 1, ⟨by omega, hA.succ (by omega) h35⟩⟩, rn [], ?_, by dsimp only; omega⟩
   exact Ag (by repeat first | exact trivial | refine Ah J (by first | exact VLe.rf | exact A7 (by dsimp only; omega)) ?_) (by repeat first | exact trivial | refine Ai J (by first | exact BLe.rf | exact BLe.box AllC.rf | exact BLe.arr (by exact J)) ?_) J J
 try simp only [tdy] at h35
 have hall := EachTo.bad (by omega) h35
 refine A5 J (Aa (Az (A1 J J) (A2 ?_)))
 refine AU (Bk (Bk ?_))
 exact ⟨rn [], ⟨⟨⟨_, J, AH (by grind [Cx])⟩, O⟩, O, O, J⟩⟩

set_option maxHeartbeats 4000000 in
theorem notRule_c (t : Rulet) : AC Tryz.prog 32 [.agg (ruleC t)] [] (.one (.c (.bool (!Cx t)))) [] := by
 refine Bn Tryz.func32 J J Tryz.ntmps32 J Tryz.results32 ?_
 refine Aa (Az (Dr 100 J J J J J J J) (Az (A1 J J) (Ad (Az (Au 4 J J J (by kernel_rfl) J J) ?_))))
 refine Bd (AS J J J (ruleI_c t) J J) (fun b4 h4 => ?_)
 refine Az (Cn J J) (Az (A1 J J) (Ae ?_))
 cases b4
 rotate_left
 · try simp only [tdy] at h4
   exact ⟨rn [], ⟨⟨⟨_, J, AH (by simp [*])⟩, O⟩, O, O, J⟩⟩
 try simp only [tdy] at h4
 exact ⟨rn [], ⟨⟨⟨_, J, AH (by simp [*])⟩, O⟩, O, O, J⟩⟩

set_option maxHeartbeats 4000000 in
theorem idxRule_c (l : List Rulet) : AC Tryz.prog 59 [.one (.sl ruleE l), .one (.clo 32 [])] [] (.one (.c (.int .i64 (Hb Cx l)))) [] := by
 refine Bn Tryz.func59 J J Tryz.ntmps59 J Tryz.results59 ?_
 refine AW_slmax 0 J (fun hm0 => ?_)
 refine Aa (Az (A1 J J) (A2 (A8 (Aa (Az (A0 J J) (Az (Ak 42 4 J J (by kernel_rfl)) (Az (A0 J J) (A2 (AZ ?_)))))))))
 refine B8 (ι := {q : Nat // q ≤ l.length ∧ EachTo Cx l q}) (fun p => [(8, .one (.c (.int .i64 ((p.1) : Int))))]) (fun p => []) [0, 1, 7] [] (fun p => l.length - (p.1)) ⟨0, ⟨by omega, .zero⟩⟩ (rn []) ?_ ?_
 exact Ag (by repeat first | exact trivial | refine Ah J (by first | exact VLe.rf | exact A7 (by dsimp only; omega)) ?_) (by repeat first | exact trivial | refine Ai J (by first | exact BLe.rf | exact BLe.box AllC.rf | exact BLe.arr (by exact J)) ?_) J J
 rintro ⟨k, hinv⟩
 dsimp only
 have hk := hinv.1
 have hA := hinv.2
 refine Aa ?_
 refine Bd (BI J J J) (fun b9 h9 => ?_)
 refine A2 (A8 ?_)
 cases b9
 · try simp only [tdy] at h9
   refine Bc J ?_
   refine Br (B2 ?_)
   refine Aa (Az (A1 J J) (Ae ?_))
   exact ⟨rn [], ⟨⟨⟨_, J, A7 (by first | exact (Gj hA (by omega) (by simpa using h16)).symm | exact (FD hA (by omega)).symm)⟩, O⟩, O, O, J⟩⟩
 try simp only [tdy] at h9
 refine A5 J (AP (A8 (AZ (Aa (Az (A0 J J) (Az (A1 J J) (Ad (Az (A0 J J) (Az (A0 J J) (Az (A0 J J) ?_))))))))))
 refine Az (Am 42 4 k J J J (by kernel_rfl) J (by omega) (by omega)) ?_
 refine Az (Co (n := 4) J J (by kernel_rfl) J) ?_
 refine Dk (Av [] [] [] J J J (notRule_c (l[k]'(by omega))) J AllV.rf (BE J) J J J (by repeat (first | exact trivial | refine ⟨J, ?_⟩)) J) (fun b16 h16 => ?_)
 refine A2 ?_
 cases b16
 rotate_left
 · try simp only [tdy] at h16
   refine A5 J (Aa (Az (A0 J J) (Az (A1 J J) (A2 ?_))))
   refine AU (Bk (Bk ?_))
   exact ⟨rn [], ⟨⟨⟨_, J, A7 (by first | exact (Gj hA (by omega) (by simpa using h16)).symm | exact (FD hA (by omega)).symm)⟩, O⟩, O, O, J⟩⟩
 try simp only [tdy] at h16
 refine Ab J (AG ?_)
 refine Az (Bl J J J (IntWalk.i64_in _ (by omega))) ?_
 refine Az (A0 J J) (A2 ?_)
 refine ⟨⟨k + 1, ⟨by omega, hA.succ (by omega) (by simpa using h16)⟩⟩, rn [], ?_, by dsimp only; omega⟩
 exact Ag (by repeat first | exact trivial | refine Ah J (by first | exact VLe.rf | exact A7 (by dsimp only; omega)) ?_) (by repeat first | exact trivial | refine Ai J (by first | exact BLe.rf | exact BLe.box AllC.rf | exact BLe.arr (by exact J)) ?_) J J

set_option maxHeartbeats 4000000 in
theorem anyRule_c (l : List Rulet) : AC Tryz.prog 31 [.one (.sl ruleE l), .one (.clo 32 [])] [] (.one (.c (.bool (!l.all Cx)))) [] := by
 refine Bn Tryz.func31 J J Tryz.ntmps31 J Tryz.results31 ?_
 refine Aa (Az (A1 J J) (Ad (Az (A0 J J) (Az (A0 J J) ?_))))
 refine Az (Av [] [] [] J J J (idxRule_c l) J AllV.rf (BE J) J J J (by repeat (first | exact trivial | refine ⟨J, ?_⟩)) J) ?_
 refine Bd (Ee J J J) (fun b8 h8 => ?_)
 refine Az (A1 J J) (Ae ?_)
 cases b8
 rotate_left
 · try simp only [tdy] at h8
   exact ⟨rn [], ⟨⟨⟨_, J, AH (by first | (rw [← CZ]; simp [*]; done) | (rw [← CZ]; first | rfl | (symm; rw [decide_eq_true_eq]; omega) | (symm; rw [decide_eq_false_iff_not]; omega)))⟩, O⟩, O, O, J⟩⟩
 try simp only [tdy] at h8
 exact ⟨rn [], ⟨⟨⟨_, J, AH (by first | (rw [← CZ]; simp [*]; done) | (rw [← CZ]; first | rfl | (symm; rw [decide_eq_true_eq]; omega) | (symm; rw [decide_eq_false_iff_not]; omega)))⟩, O⟩, O, O, J⟩⟩

set_option maxHeartbeats 4000000 in
theorem progI_c (pg : Programt) : AC Tryz.prog 11 [.agg (programC pg)] [] (.one (.c (.bool (Bm pg)))) [] := by
 refine Bn Tryz.func11 J J Tryz.ntmps11 J Tryz.results11 ?_
 refine Cz 0 0 J J (fun hm0_0 => ?_)
 refine Cz 0 1 J J (fun hm0_1 => ?_)
 refine Aa (Az (Dr 100 J J J J J J J) (Az (A1 J J) (A2 (A8 (Aa (Az (Ao 0 0 J J J (by kernel_rfl) J) (Az (A4 J J J (by kernel_rfl) J) (Az (Ak 51 3 J J (by kernel_rfl)) (Az (A0 J J) (A2 (AZ ?_)))))))))))
 refine B8 (ι := {q : Nat // q ≤ pg.decls.length ∧ EachTo Cc pg.decls q}) (fun p => [(8, .one (.c (.int .i64 ((p.1) : Int))))]) (fun p => []) [1, 6, 7] [100] (fun p => pg.decls.length - (p.1)) ⟨0, ⟨by omega, .zero⟩⟩ (rn []) ?_ ?_
 exact Ag (by repeat first | exact trivial | refine Ah J (by first | exact VLe.rf | exact A7 (by dsimp only; omega)) ?_) (by repeat first | exact trivial | refine Ai J (by first | exact BLe.rf | exact BLe.box AllC.rf | exact BLe.arr (by exact J)) ?_) J J
 rintro ⟨k, hinv⟩
 dsimp only
 have hk := hinv.1
 have hA := hinv.2
 refine Aa ?_
 refine Bd (BI J J J) (fun b9 h9 => ?_)
 refine A2 (A8 ?_)
 cases b9
 · try simp only [tdy] at h9
   have hall := hA.all (by omega)
   refine Bc J ?_
   refine Br (B2 ?_)
   refine Aa (Az (Ao 0 0 J J J (by kernel_rfl) J) (Az (A4 J J J (by kernel_rfl) J) (Az (Ak 51 3 J J (by kernel_rfl)) ?_)))
   refine Bd (E3 J J J) (fun b36 h36 => ?_)
   refine Az (A0 J J) ?_
   cases b36
   · try simp only [tdy] at h36
     refine A3 J J J J (A3 J J J J (A3 J J J J (A3 J J J J (Az (AD J J J) (Az (A0 J J) (A3 J J J J (A3 J J J J (A3 J J J J (A3 J J J J (Az (AD J J J) (Az (A1 J J) (Ae ?_))))))))))))
     exact ⟨rn [], ⟨⟨⟨_, J, AH (by first | (have hall := EachTo.bad (g := Cc) (l := pg.decls) (k := k) (by omega) (by unfold Cc; grind [E4]); grind [Bm]) | grind [Bm])⟩, O⟩, O, O, J⟩⟩
   try simp only [tdy] at h36
   refine AB J J (Ao 1 1 J J J (by kernel_rfl) J) (AB J J (A4 J J J (by kernel_rfl) J) (AB J J (Ak 42 4 J J (by kernel_rfl)) ?_))
   refine Bh J J (E3 J J J) (fun b41 h41 => ?_)
   refine Az (AJ J J J) (Az (A0 J J) ?_)
   cases b41
   · try simp only [tdy] at h41
     refine A3 J J J J (A3 J J J J (A3 J J J J (A3 J J J J (Az (AD J J J) (Az (A1 J J) (Ae ?_))))))
     exact ⟨rn [], ⟨⟨⟨_, J, AH (by first | (have hall := EachTo.bad (g := Cc) (l := pg.decls) (k := k) (by omega) (by unfold Cc; grind [E4]); grind [Bm]) | grind [Bm])⟩, O⟩, O, O, J⟩⟩
   try simp only [tdy] at h41
   refine AB J J (Ao 1 1 J J J (by kernel_rfl) J) (AB J J (A4 J J J (by kernel_rfl) J) ?_)
   refine FF J J (Av [] [] [] J J J (anyRule_c pg.rules) J AllV.rf (BE J) J J J (by repeat (first | exact trivial | refine ⟨J, ?_⟩)) J) (fun b46 h46 => ?_)
   refine AB J J (Cn J J) (Az (AJ J J J) (Az (A1 J J) (Ae ?_)))
   cases b46
   rotate_left
   · try simp only [tdy] at h46
     exact ⟨rn [], ⟨⟨⟨_, J, AH (by first | (have hall := EachTo.bad (g := Cc) (l := pg.decls) (k := k) (by omega) (by unfold Cc; grind [E4]); grind [Bm]) | grind [Bm])⟩, O⟩, O, O, J⟩⟩
   try simp only [tdy] at h46
   exact ⟨rn [], ⟨⟨⟨_, J, AH (by first | (have hall := EachTo.bad (g := Cc) (l := pg.decls) (k := k) (by omega) (by unfold Cc; grind [E4]); grind [Bm]) | grind [Bm])⟩, O⟩, O, O, J⟩⟩
 try simp only [tdy] at h9
 refine A5 J (AP (A8 (AZ (Aa ?_))))
 refine Az (Am 51 3 k J J J (by kernel_rfl) J (by omega) (by omega)) ?_
 refine Az (Co (n := 3) J J (by kernel_rfl) J) (Az (Aw (.agg #[.int .i64 0, .string ⟨#[]⟩, .int .i64 0]) 101 J (by kernel_rfl) J J J J) (Az (Ap 3 J J J J (by kernel_rfl) J J J) (Ad (Az (Ao 0 0 J J J (by kernel_rfl) J) (Az (A4 J J J (by kernel_rfl) J) ?_)))))
 refine Bd (BI J J J) (fun b14 h14 => ?_)
 refine Az (A0 J J) ?_
 cases b14
 rotate_left
 · try simp only [tdy] at h14
   refine A3 J J J J (A3 J J J J (A3 J J J J (Az (AJ J J J) (Az (A0 J J) (A3 J J J J (A3 J J J J (A3 J J J J (A3 J J J J (Az (AJ J J J) (Az (A0 J J) (A3 J J J J (A3 J J J J (A3 J J J J (A3 J J J J (Az (AJ J J J) (A2 (A5 J (Aa (Az (A1 J J) (A2 ?_))))))))))))))))))))
   refine AU (Bk (Bk ?_))
   exact ⟨rn [], ⟨⟨⟨_, J, AH (by first | (have hall := EachTo.bad (g := Cc) (l := pg.decls) (k := k) (by omega) (by unfold Cc; grind [E4]); grind [Bm]) | grind [Bm])⟩, O⟩, O, O, J⟩⟩
 try simp only [tdy] at h14
 refine AB J J (Ao 0 0 J J J (by kernel_rfl) J) (AB J J (A4 J J J (by kernel_rfl) J) ?_)
 refine Bh J J (CC J J J) (fun b18 h18 => ?_)
 refine Az (AD J J J) (Az (A0 J J) ?_)
 cases b18
 rotate_left
 · try simp only [tdy] at h18
   refine A3 J J J J (A3 J J J J (A3 J J J J (A3 J J J J (Az (AJ J J J) (Az (A0 J J) (A3 J J J J (A3 J J J J (A3 J J J J (A3 J J J J (Az (AJ J J J) (A2 (A5 J (Aa (Az (A1 J J) (A2 ?_)))))))))))))))
   refine AU (Bk (Bk ?_))
   exact ⟨rn [], ⟨⟨⟨_, J, AH (by first | (have hall := EachTo.bad (g := Cc) (l := pg.decls) (k := k) (by omega) (by unfold Cc; grind [E4]); grind [Bm]) | grind [Bm])⟩, O⟩, O, O, J⟩⟩
 try simp only [tdy] at h18
 refine AB J J (Ao 1 1 J J J (by kernel_rfl) J) (AB J J (A4 J J J (by kernel_rfl) J) ?_)
 refine Bh J J (AS J J J (nameI_c _) J J) (fun b23 h23 => ?_)
 refine AB J J (Cn J J) (Az (AD J J J) (Az (A0 J J) ?_))
 cases b23
 · try simp only [tdy] at h23
   refine A3 J J J J (A3 J J J J (A3 J J J J (A3 J J J J (Az (AJ J J J) (A2 (A5 J (Aa (Az (A1 J J) (A2 ?_)))))))))
   refine AU (Bk (Bk ?_))
   exact ⟨rn [], ⟨⟨⟨_, J, AH (by first | (have hall := EachTo.bad (g := Cc) (l := pg.decls) (k := k) (by omega) (by unfold Cc; grind [E4]); grind [Bm]) | grind [Bm])⟩, O⟩, O, O, J⟩⟩
 try simp only [tdy] at h23
 refine AB J J (Ao 2 2 J J J (by kernel_rfl) J) (AB J J (A4 J J J (by kernel_rfl) J) ?_)
 refine Bh J J (AS J J J (upToI_c _ _) J J) (fun b29 h29 => ?_)
 refine AB J J (Cn J J) (Az (AD J J J) (A2 ?_))
 cases b29
 · try simp only [tdy] at h29
   refine A5 J (Aa (Az (A1 J J) (A2 ?_)))
   refine AU (Bk (Bk ?_))
   exact ⟨rn [], ⟨⟨⟨_, J, AH (by first | (have hall := EachTo.bad (g := Cc) (l := pg.decls) (k := k) (by omega) (by unfold Cc; grind [E4]); grind [Bm]) | grind [Bm])⟩, O⟩, O, O, J⟩⟩
 try simp only [tdy] at h29
 refine Ab J (AG ?_)
 refine Az (Bl J J J (IntWalk.i64_in _ (by omega))) ?_
 refine Az (A0 J J) (A2 ?_)
 refine ⟨⟨k + 1, ⟨by omega, hA.succ (by omega) (by unfold Cc; grind [E4])⟩⟩, rn [], ?_, by dsimp only; omega⟩
 exact Ag (by repeat first | exact trivial | refine Ah J (by first | exact VLe.rf | exact A7 (by dsimp only; omega)) ?_) (by repeat first | exact trivial | refine Ai J (by first | exact BLe.rf | exact BLe.box AllC.rf | exact BLe.arr (by exact J)) ?_) J J

set_option maxHeartbeats 4000000 in
theorem progS_c (pg : Programt) : AC Tryz.prog 14 [.agg (programC pg)] [] (.one (.c (.bool (Bm pg)))) [] := by
 refine Bn Tryz.func14 J J Tryz.ntmps14 J Tryz.results14 ?_
 refine Cz 0 0 J J (fun hm0_0 => ?_)
 refine Cz 0 1 J J (fun hm0_1 => ?_)
 refine Aa (Az (Dr 100 J J J J J J J) (Az (A1 J J) (A2 (A8 (Aa (Az (Ao 0 0 J J J (by kernel_rfl) J) (Az (A4 J J J (by kernel_rfl) J) (Az (Ak 51 3 J J (by kernel_rfl)) ?_))))))))
 refine Bd (CC J J J) (fun b9 h9 => ?_)
 refine Az (A0 J J) ?_
 cases b9
 rotate_left
 · try simp only [tdy] at h9
   refine A3 J J J J (A3 J J J J (A3 J J J J (A3 J J J J (Az (AJ J J J) (A2 (A5 J (Aa (Az (A1 J J) (Ae ?_)))))))))
   exact ⟨rn [], ⟨⟨⟨_, J, AH (by first | (have hall := EachTo.bad (g := Cc) (l := pg.decls) (k := k) (by omega) (by unfold Cc; grind [E4]); grind [Bm]) | grind [Bm])⟩, O⟩, O, O, J⟩⟩
 try simp only [tdy] at h9
 refine AB J J (Ao 1 1 J J J (by kernel_rfl) J) (AB J J (A4 J J J (by kernel_rfl) J) (AB J J (Ak 42 4 J J (by kernel_rfl)) ?_))
 refine Bh J J (CC J J J) (fun b14 h14 => ?_)
 refine Az (AD J J J) (A2 ?_)
 cases b14
 rotate_left
 · try simp only [tdy] at h14
   refine A5 J (Aa (Az (A1 J J) (Ae ?_)))
   exact ⟨rn [], ⟨⟨⟨_, J, AH (by first | (have hall := EachTo.bad (g := Cc) (l := pg.decls) (k := k) (by omega) (by unfold Cc; grind [E4]); grind [Bm]) | grind [Bm])⟩, O⟩, O, O, J⟩⟩
 try simp only [tdy] at h14
 refine Ab J (A8 (Aa (Az (Ao 0 0 J J J (by kernel_rfl) J) (Az (A4 J J J (by kernel_rfl) J) (Az (Ak 51 3 J J (by kernel_rfl)) (Az (A0 J J) (A2 (AZ ?_))))))))
 refine B8 (ι := {q : Nat // q ≤ pg.decls.length ∧ EachTo Cc pg.decls q}) (fun p => [(19, .one (.c (.int .i64 ((p.1) : Int))))]) (fun p => []) [1, 17, 18] [100] (fun p => pg.decls.length - (p.1)) ⟨0, ⟨by omega, .zero⟩⟩ (rn []) ?_ ?_
 exact Ag (by repeat first | exact trivial | refine Ah J (by first | exact VLe.rf | exact A7 (by dsimp only; omega)) ?_) (by repeat first | exact trivial | refine Ai J (by first | exact BLe.rf | exact BLe.box AllC.rf | exact BLe.arr (by exact J)) ?_) J J
 rintro ⟨k, hinv⟩
 dsimp only
 have hk := hinv.1
 have hA := hinv.2
 refine Aa ?_
 refine Bd (BI J J J) (fun b20 h20 => ?_)
 refine A2 (A8 ?_)
 cases b20
 · try simp only [tdy] at h20
   have hdl := hA.all (by omega)
   refine Bc J ?_
   refine Br (B2 ?_)
   refine A8 (Aa (Az (Ao 1 1 J J J (by kernel_rfl) J) (Az (A4 J J J (by kernel_rfl) J) (Az (Ak 42 4 J J (by kernel_rfl)) (Az (A0 J J) (A2 (AZ ?_)))))))
   refine B8 (ι := {q : Nat // q ≤ pg.rules.length ∧ EachTo Cx pg.rules q}) (fun p => [(51, .one (.c (.int .i64 ((p.1) : Int))))]) (fun p => []) [1, 50] [100] (fun p => pg.rules.length - (p.1)) ⟨0, ⟨by omega, .zero⟩⟩ (rn []) ?_ ?_
   exact Ag (by repeat first | exact trivial | refine Ah J (by first | exact VLe.rf | exact A7 (by dsimp only; omega)) ?_) (by repeat first | exact trivial | refine Ai J (by first | exact BLe.rf | exact BLe.box AllC.rf | exact BLe.arr (by exact J)) ?_) J J
   rintro ⟨k, hinv⟩
   dsimp only
   have hk := hinv.1
   have hA := hinv.2
   refine Aa ?_
   refine Bd (BI J J J) (fun b52 h52 => ?_)
   refine A2 (A8 ?_)
   cases b52
   · try simp only [tdy] at h52
     have hall := hA.all (by omega)
     refine Bc J ?_
     refine Br (B2 ?_)
     refine Aa (Az (A1 J J) (Ae ?_))
     exact ⟨rn [], ⟨⟨⟨_, J, AH (by first | (have hall := EachTo.bad (g := Cc) (l := pg.decls) (k := k) (by omega) (by unfold Cc; grind [E4]); grind [Bm]) | grind [Bm])⟩, O⟩, O, O, J⟩⟩
   try simp only [tdy] at h52
   refine A5 J (AP (A8 (AZ (Aa (Az (A0 J J) (Az (A1 J J) (Ad (Az (Ao 1 1 J J J (by kernel_rfl) J) (Az (A4 J J J (by kernel_rfl) J) (Az (A0 J J) ?_))))))))))
   refine Az (Am 42 4 k J J J (by kernel_rfl) J (by omega) (by omega)) ?_
   refine Az (Co (n := 4) J J (by kernel_rfl) J) ?_
   refine Bd (AS J J J (ruleS_c _) J J) (fun b59 h59 => ?_)
   refine Az (Cn J J) (A2 ?_)
   cases b59
   rotate_left
   · try simp only [tdy] at h59
     refine Ab J (AG ?_)
     refine Az (Bl J J J (IntWalk.i64_in _ (by omega))) ?_
     refine Az (A0 J J) (A2 ?_)
     refine ⟨⟨k + 1, ⟨by omega, hA.succ (by omega) h59⟩⟩, rn [], ?_, by dsimp only; omega⟩
     exact Ag (by repeat first | exact trivial | refine Ah J (by first | exact VLe.rf | exact A7 (by dsimp only; omega)) ?_) (by repeat first | exact trivial | refine Ai J (by first | exact BLe.rf | exact BLe.box AllC.rf | exact BLe.arr (by exact J)) ?_) J J
   try simp only [tdy] at h59
   have hbad := EachTo.bad (by omega) h59
   refine A5 J (Aa (Az (A1 J J) (A2 ?_)))
   refine AU (Bk (Bk ?_))
   exact ⟨rn [], ⟨⟨⟨_, J, AH (by first | (have hall := EachTo.bad (g := Cc) (l := pg.decls) (k := k) (by omega) (by unfold Cc; grind [E4]); grind [Bm]) | grind [Bm])⟩, O⟩, O, O, J⟩⟩
 try simp only [tdy] at h20
 refine A5 J (AP (A8 (AZ (Aa ?_))))
 refine Az (Am 51 3 k J J J (by kernel_rfl) J (by omega) (by omega)) ?_
 refine Az (Co (n := 3) J J (by kernel_rfl) J) (Az (Aw (.agg #[.int .i64 0, .string ⟨#[]⟩, .int .i64 0]) 101 J (by kernel_rfl) J J J J) (Az (Ap 3 J J J J (by kernel_rfl) J J J) (Ad (Az (Ao 0 0 J J J (by kernel_rfl) J) (Az (A4 J J J (by kernel_rfl) J) ?_)))))
 refine Bd (BI J J J) (fun b25 h25 => ?_)
 refine Az (A0 J J) ?_
 cases b25
 rotate_left
 · try simp only [tdy] at h25
   refine A3 J J J J (A3 J J J J (A3 J J J J (Az (AJ J J J) (Az (A0 J J) (A3 J J J J (A3 J J J J (A3 J J J J (A3 J J J J (Az (AJ J J J) (Az (A0 J J) (A3 J J J J (A3 J J J J (A3 J J J J (Az (AJ J J J) (Az (A0 J J) (A3 J J J J (A3 J J J J (A3 J J J J (Az (AJ J J J) (A2 (A5 J (Aa (Az (A1 J J) ?_)))))))))))))))))))))))
   refine A2 ?_
   refine AU (Bk (Bk ?_))
   exact ⟨rn [], ⟨⟨⟨_, J, AH (by first | (have hall := EachTo.bad (g := Cc) (l := pg.decls) (k := k) (by omega) (by unfold Cc; grind [E4]); grind [Bm]) | grind [Bm])⟩, O⟩, O, O, J⟩⟩
 try simp only [tdy] at h25
 refine AB J J (Ao 0 0 J J J (by kernel_rfl) J) (AB J J (A4 J J J (by kernel_rfl) J) ?_)
 refine Bh J J (CC J J J) (fun b29 h29 => ?_)
 refine Az (AD J J J) (Az (A0 J J) ?_)
 cases b29
 rotate_left
 · try simp only [tdy] at h29
   refine A3 J J J J (A3 J J J J (A3 J J J J (A3 J J J J (Az (AJ J J J) (Az (A0 J J) (A3 J J J J (A3 J J J J (A3 J J J J (Az (AJ J J J) (Az (A0 J J) (A3 J J J J (A3 J J J J (A3 J J J J (Az (AJ J J J) (A2 (A5 J (Aa (Az (A1 J J) (A2 ?_)))))))))))))))))))
   refine AU (Bk (Bk ?_))
   exact ⟨rn [], ⟨⟨⟨_, J, AH (by first | (have hall := EachTo.bad (g := Cc) (l := pg.decls) (k := k) (by omega) (by unfold Cc; grind [E4]); grind [Bm]) | grind [Bm])⟩, O⟩, O, O, J⟩⟩
 try simp only [tdy] at h29
 refine AB J J (Ao 1 1 J J J (by kernel_rfl) J) (AB J J (A4 J J J (by kernel_rfl) J) ?_)
 refine Bh J J (AS J J J (nameS_c _) J J) (fun b34 h34 => ?_)
 refine AB J J (Cn J J) (Az (AD J J J) (Az (A0 J J) ?_))
 cases b34
 · try simp only [tdy] at h34
   refine A3 J J J J (A3 J J J J (A3 J J J J (Az (AJ J J J) (Az (A0 J J) (A3 J J J J (A3 J J J J (A3 J J J J (Az (AJ J J J) (A2 (A5 J (Aa (Az (A1 J J) (A2 ?_)))))))))))))
   refine AU (Bk (Bk ?_))
   exact ⟨rn [], ⟨⟨⟨_, J, AH (by first | (have hall := EachTo.bad (g := Cc) (l := pg.decls) (k := k) (by omega) (by unfold Cc; grind [E4]); grind [Bm]) | grind [Bm])⟩, O⟩, O, O, J⟩⟩
 try simp only [tdy] at h34
 refine AB J J (Ao 2 2 J J J (by kernel_rfl) J) (AB J J (A4 J J J (by kernel_rfl) J) ?_)
 refine Bh J J (BI J J J) (fun b40 h40 => ?_)
 refine Az (AD J J J) (Az (A0 J J) ?_)
 cases b40
 rotate_left
 · try simp only [tdy] at h40
   refine A3 J J J J (A3 J J J J (A3 J J J J (Az (AJ J J J) (A2 (A5 J (Aa (Az (A1 J J) (A2 ?_))))))))
   refine AU (Bk (Bk ?_))
   exact ⟨rn [], ⟨⟨⟨_, J, AH (by first | (have hall := EachTo.bad (g := Cc) (l := pg.decls) (k := k) (by omega) (by unfold Cc; grind [E4]); grind [Bm]) | grind [Bm])⟩, O⟩, O, O, J⟩⟩
 try simp only [tdy] at h40
 refine AB J J (Ao 2 2 J J J (by kernel_rfl) J) (AB J J (A4 J J J (by kernel_rfl) J) ?_)
 refine Bh J J (CC J J J) (fun b45 h45 => ?_)
 refine Az (AD J J J) (A2 ?_)
 cases b45
 rotate_left
 · try simp only [tdy] at h45
   refine A5 J (Aa (Az (A1 J J) (A2 ?_)))
   refine AU (Bk (Bk ?_))
   exact ⟨rn [], ⟨⟨⟨_, J, AH (by first | (have hall := EachTo.bad (g := Cc) (l := pg.decls) (k := k) (by omega) (by unfold Cc; grind [E4]); grind [Bm]) | grind [Bm])⟩, O⟩, O, O, J⟩⟩
 try simp only [tdy] at h45
 refine Ab J (AG ?_)
 refine Az (Bl J J J (IntWalk.i64_in _ (by omega))) ?_
 refine Az (A0 J J) (A2 ?_)
 refine ⟨⟨k + 1, ⟨by omega, hA.succ (by omega) (by unfold Cc; grind [E4])⟩⟩, rn [], ?_, by dsimp only; omega⟩
 exact Ag (by repeat first | exact trivial | refine Ah J (by first | exact VLe.rf | exact A7 (by dsimp only; omega)) ?_) (by repeat first | exact trivial | refine Ai J (by first | exact BLe.rf | exact BLe.box AllC.rf | exact BLe.arr (by exact J)) ?_) J J
end Go.Proofs.YtkemjhlbokldhaaGreat

namespace Go.Proofs.YtkemjhlbokldhaaGreat
open Go.RowKit
set_option linter.unusedVariables false
set_option linter.unusedSimpArgs false
set_option maxRecDepth 100000

set_option maxHeartbeats 4000000 in
theorem pIndex_c (l : List ByteArray) (s : ByteArray) : AC Tryz.prog 19 [.one (.sl DM l), .one (.c (.string (s)))] [] (.one (.c (.int .i64 (idxS l s)))) [] := by
 refine Bn Tryz.func19 J J Tryz.ntmps19 J Tryz.results19 ?_
 refine AW_slmax 0 J (fun hm0 => ?_)
 refine Aa (Az (A1 J J) (A2 (A8 (Aa (Az (A0 J J) (Az (Ak 9 1 J J (by kernel_rfl)) (Az (A0 J J) (A2 (AZ ?_)))))))))
 refine B8 (ι := {q : Nat // q ≤ l.length ∧ NoneTo (fun x => s == x) l q}) (fun p => [(8, .one (.c (.int .i64 ((p.1) : Int))))]) (fun p => []) [0, 1, 7] [] (fun p => l.length - (p.1)) ⟨0, ⟨by omega, .zero⟩⟩ (rn []) ?_ ?_
 exact Ag (by repeat first | exact trivial | refine Ah J (by first | exact VLe.rf | exact A7 (by dsimp only; omega)) ?_) (by repeat first | exact trivial | refine Ai J (by first | exact BLe.rf | exact BLe.box AllC.rf | exact BLe.arr (by exact J)) ?_) J J
 rintro ⟨k, hinv⟩
 dsimp only
 have hk := hinv.1
 have hn := hinv.2
 refine Aa ?_
 refine Bd (BI J J J) (fun b9 h9 => ?_)
 refine A2 (A8 ?_)
 cases b9
 · try simp only [tdy] at h9
   refine Bc J ?_
   refine Br (B2 ?_)
   refine Aa (Az (A1 J J) (Ae ?_))
   exact ⟨rn [], ⟨⟨⟨_, J, A7 (by unfold idxS; first | exact (firstIdx_at (by omega) (fun j hj hjk => hn j hj hjk) h16).symm | (rw [NoneTo.none (fun j hj hjk => hn j hj (by omega))]))⟩, O⟩, O, O, J⟩⟩
 try simp only [tdy] at h9
 refine A5 J (AP (A8 (AZ (Aa (Az (A0 J J) (Az (A1 J J) (Ad (Az (A0 J J) (Az (A0 J J) (Az (A0 J J) ?_))))))))))
 refine Az (Am 9 1 k J J J (by kernel_rfl) J (by omega) (by omega)) ?_
 refine Az (BW J J (by kernel_rfl) J) ?_
 refine Bd (DH J J J) (fun b16 h16 => ?_)
 refine A2 ?_
 cases b16
 rotate_left
 · try simp only [tdy] at h16
   refine A5 J (Aa (Az (A0 J J) (Az (A1 J J) (A2 ?_))))
   refine AU (Bk (Bk ?_))
   exact ⟨rn [], ⟨⟨⟨_, J, A7 (by unfold idxS; first | exact (firstIdx_at (by omega) (fun j hj hjk => hn j hj hjk) h16).symm | (rw [NoneTo.none (fun j hj hjk => hn j hj (by omega))]))⟩, O⟩, O, O, J⟩⟩
 try simp only [tdy] at h16
 refine Ab J (AG ?_)
 refine Az (Bl J J J (IntWalk.i64_in _ (by omega))) ?_
 refine Az (A0 J J) (A2 ?_)
 refine ⟨⟨k + 1, ⟨by omega, hn.succ (by omega) h16⟩⟩, rn [], ?_, by dsimp only; omega⟩
 exact Ag (by repeat first | exact trivial | refine Ah J (by first | exact VLe.rf | exact A7 (by dsimp only; omega)) ?_) (by repeat first | exact trivial | refine Ai J (by first | exact BLe.rf | exact BLe.box AllC.rf | exact BLe.arr (by exact J)) ?_) J J

set_option maxHeartbeats 4000000 in
theorem Gu (s : ByteArray) : AC Tryz.prog 97 [.one (.c (.string (s)))] [] (.one (.c (.int .i64 (opX s)))) [] := by
 refine Bn Tryz.func97 J J Tryz.ntmps97 J Tryz.results97 ?_
 refine Aa (Az (A1 J J) (Ad (Az (CR (E := 9) (e := DM) [.const (.string ⟨#[]⟩), .const (.string ⟨#[61]⟩), .const (.string ⟨#[33, 61]⟩), .const (.string ⟨#[60]⟩), .const (.string ⟨#[60, 61]⟩)] (opL) J J J J J J J J FitL.rf J J J (by kernel_rfl)) (Az (A0 J J) (Az (AS J J J (pIndex_c opL s) J J) (Az (A1 J J) (Ae ?_)))))))
 exact ⟨rn [], ⟨⟨⟨_, J, A7 (idx_op s)⟩, O⟩, O, O, J⟩⟩

set_option maxHeartbeats 4000000 in
theorem Di (tk : List Tokent) (e : Int) (st : PS) (hm : tk.length ≤ 1048576) (hi : st.i ≤ tk.length) : AC Tryz.prog 18 [.one (.ptr 200 0)] [(200, some (psB tk e st))] (.agg (tokenC (AA tk e st))) [(200, some (psB tk e st))] := by
 refine En (n := 4) (k := 9) (T := [(2, .one (.ptr 9 0))]) (Lf := ((9, some (.box (tokenC (AA tk e st)))) :: [(200, some (psB tk e st))])) Tryz.func18 J J Tryz.ntmps18 J Tryz.results18 J J (by kernel_rfl) J J ⟨O, (by repeat (first | exact trivial | refine ⟨⟨_, J, BLe.rf⟩, ?_⟩)), (Af J), J⟩ ?_
 refine Aa (Az (Aw (.agg #[.int .i64 0, .int .i64 0, .string ⟨#[]⟩, .int .i64 0]) 100 J (by kernel_rfl) J J J J) (A2 (A8 (A8 (Bw J (Az (A0 J J) (Az (AI J J J) (Az (Ao 3 3 J J J (by kernel_rfl) J) (Az (A4 J J J (by kernel_rfl) J) ?_)))))))))
 refine Bd (EK J J J) (fun b7 h7 => ?_)
 refine Az (A0 J J) ?_
 cases b7
 rotate_left
 · try simp only [tdy] at h7
   have hno := Cq (tk := tk) (e := e) (st := st) h7
   refine A3 J J J J (A3 J J J J (A3 J J J J (A3 J J J J (A3 J J J J (A3 J J J J (A3 J J J J (A3 J J J J (A3 J J J J (A3 J J J J (Az (AJ J J J) (Bj (by kernel_rfl) ?_)))))))))))
   refine A5 J (Aa (Az (A0 J J) (Az (AI J J J) (Az (Ao 2 2 J J J (by kernel_rfl) J) (Az (A4 J J J (by kernel_rfl) J) (Az (Al [.int .i64 0, .int .i64 0, .string ⟨#[]⟩, .int .i64 0] [(0, 1), (1, 1), (2, 1), (3, 1)] J (by kernel_rfl) J J J J J) (Az (Ap 4 J J J J (by kernel_rfl) J J J) (Ae ?_))))))))
   exact ⟨rn [(9, 100)], ⟨⟨⟨_, J, VLe.rf⟩, O⟩, ⟨⟨_, J, by first | exact BLe.rf | exact AE (by rw [hno]; first | done | rfl)⟩, ⟨_, J, by first | exact BLe.rf | exact AE (by rw [hno]; first | done | rfl)⟩, O⟩, ⟨⟨J, .inl nofun, fun _ _ => ⟨_, J⟩⟩, O⟩, J⟩⟩
 try simp only [tdy] at h7
 refine AB J J (A0 J J) (AB J J (AI J J J) (AB J J (Ao 1 1 J J J (by kernel_rfl) J) (AB J J (A4 J J J (by kernel_rfl) J) (AB J J (A0 J J) (AB J J (AI J J J) (AB J J (Ao 0 0 J J J (by kernel_rfl) J) (AB J J (A4 J J J (by kernel_rfl) J) (AB J J (Ak 62 4 J J (by kernel_rfl)) ?_))))))))
 refine Bh J J (Ee J J J) (fun b18 h18 => ?_)
 refine Az (AD J J J) (Bj (by kernel_rfl) ?_)
 cases b18
 rotate_left
 · try simp only [tdy] at h18
   have hno := here_end (tk := tk) (e := e) (st := st) (by omega)
   refine A5 J (Aa (Az (A0 J J) (Az (AI J J J) (Az (Ao 2 2 J J J (by kernel_rfl) J) (Az (A4 J J J (by kernel_rfl) J) (Az (Al [.int .i64 0, .int .i64 0, .string ⟨#[]⟩, .int .i64 0] [(0, 1), (1, 1), (2, 1), (3, 1)] J (by kernel_rfl) J J J J J) (Az (Ap 4 J J J J (by kernel_rfl) J J J) (Ae ?_))))))))
   exact ⟨rn [(9, 100)], ⟨⟨⟨_, J, VLe.rf⟩, O⟩, ⟨⟨_, J, by first | exact BLe.rf | exact AE (by rw [hno]; first | done | rfl)⟩, ⟨_, J, by first | exact BLe.rf | exact AE (by rw [hno]; first | done | rfl)⟩, O⟩, ⟨⟨J, .inl nofun, fun _ _ => ⟨_, J⟩⟩, O⟩, J⟩⟩
 try simp only [tdy] at h18
 have hno := EC (tk := tk) (e := e) (st := st) h7 (by omega)
 refine Ab J (A8 (Bw J (Az (A0 J J) (Az (AI J J J) (Az (Ao 0 0 J J J (by kernel_rfl) J) (Az (A4 J J J (by kernel_rfl) J) (Az (A0 J J) (Az (AI J J J) (Az (Ao 1 1 J J J (by kernel_rfl) J) (Az (A4 J J J (by kernel_rfl) J) ?_))))))))))
 refine Az (Am 62 4 st.i J J J (by kernel_rfl) J (by omega) (by omega)) ?_
 refine Az (Co (n := 4) J J (by kernel_rfl) J) (Az (Ap 4 J J J J (by kernel_rfl) J J J) (Bj (by kernel_rfl) ?_))
 refine AU ?_
 exact ⟨rn [(9, 100)], ⟨⟨⟨_, J, VLe.rf⟩, O⟩, ⟨⟨_, J, by first | exact BLe.rf | exact AE (by rw [hno]; first | done | rfl)⟩, ⟨_, J, by first | exact BLe.rf | exact AE (by rw [hno]; first | done | rfl)⟩, O⟩, ⟨⟨J, .inl nofun, fun _ _ => ⟨_, J⟩⟩, O⟩, J⟩⟩

set_option maxHeartbeats 4000000 in
theorem BZ (tk : List Tokent) (e : Int) (st : PS) (hm : tk.length ≤ 1048576) (hi : st.i ≤ tk.length) (c : Int) : AC Tryz.prog 22 [.one (.ptr 200 0), .one (.c (.int .i64 (c)))] [(200, some (psB tk e st))] (.tup []) [(200, some (psB tk e (Bg tk e c st)))] := by
 refine AC_body0 Tryz.func22 J J Tryz.ntmps22 J Tryz.results22 ?_
 refine Aa (Az (A0 J J) (Az (AI J J J) (Az (Ao 3 3 J J J (by kernel_rfl) J) (Az (A4 J J J (by kernel_rfl) J) ?_))))
 refine Bd (AR J J J) (fun b9 h9 => ?_)
 refine A2 ?_
 cases b9
 · try simp only [tdy] at h9
   have hno := Fu (tk := tk) (e := e) (c := c) h9
   refine Ab J ?_
   exact ⟨rn [], ⟨O, ⟨⟨_, J, by first | exact BLe.rf | exact AE (by rw [hno]; first | done | rfl)⟩, O⟩, ⟨⟨J, .inl nofun, fun _ _ => ⟨_, J⟩⟩, O⟩, J⟩⟩
 try simp only [tdy] at h9
 have hno := fault_ok (tk := tk) (e := e) (c := c) h9
 refine A5 J (Aa (Az (A0 J J) (Az (Aj J J J (Di tk e st hm (hi)) J J J J) (Az (Aw (.agg #[.int .i64 0, .int .i64 0, .string ⟨#[]⟩, .int .i64 0]) 100 J (by kernel_rfl) J J J J) (Az (Ap 4 J J J J (by kernel_rfl) J J J) (Ad (Az (A0 J J) (Az (A0 J J) (Az (AI J J J) (Az (Ao 3 3 J J J (by kernel_rfl) J) (Az (Ap 1 J J J J (by kernel_rfl) J J J) (A2 (AG (Az (A0 J J) (Az (Ao 3 3 J J J (by kernel_rfl) J) (Az (A4 J J J (by kernel_rfl) J) (Az (AI J J J) (Az (Ao 4 4 J J J (by kernel_rfl) J) (Az (Ap 1 J J J J (by kernel_rfl) J J J) (A2 ?_))))))))))))))))))))
 exact ⟨rn [], ⟨O, ⟨⟨_, J, by first | exact BLe.rf | exact AE (by rw [hno]; first | done | rfl)⟩, O⟩, ⟨⟨J, .inl nofun, fun _ _ => ⟨_, J⟩⟩, O⟩, J⟩⟩

set_option maxHeartbeats 4000000 in
theorem Dg (tk : List Tokent) (e : Int) (st : PS) (hm : tk.length ≤ 1048576) (hi : st.i ≤ tk.length) (s : ByteArray) : AC Tryz.prog 21 [.one (.ptr 200 0), .one (.c (.string (s)))] [(200, some (psB tk e st))] (.one (.c (.bool (Bt (AA tk e st) s)))) [(200, some (psB tk e st))] := by
 refine Bn Tryz.func21 J J Tryz.ntmps21 J Tryz.results21 ?_
 refine Aa (Az (A1 J J) (Ad (Az (A0 J J) (Az (Aj J J J (Di tk e st hm (hi)) J J J J) (Az (Aw (.agg #[.int .i64 0, .int .i64 0, .string ⟨#[]⟩, .int .i64 0]) 100 J (by kernel_rfl) J J J J) (Az (Ap 4 J J J J (by kernel_rfl) J J J) (Ad (Az (Ao 0 0 J J J (by kernel_rfl) J) (Az (A4 J J J (by kernel_rfl) J) ?_)))))))))
 refine Bd (AR J J J) (fun b10 h10 => ?_)
 refine Az (A0 J J) ?_
 cases b10
 · try simp only [tdy] at h10
   refine A3 J J J J (A3 J J J J (A3 J J J J (A3 J J J J (Az (AD J J J) (Az (A1 J J) (Ae ?_))))))
   exact ⟨rn [], ⟨⟨⟨_, J, AH (by simp [Bt, *])⟩, O⟩, ⟨⟨_, J, by first | exact BLe.rf | exact AE (by rw [hno]; first | done | rfl)⟩, O⟩, ⟨⟨J, .inl nofun, fun _ _ => ⟨_, J⟩⟩, O⟩, J⟩⟩
 try simp only [tdy] at h10
 refine AB J J (Ao 2 2 J J J (by kernel_rfl) J) (AB J J (A4 J J J (by kernel_rfl) J) (AB J J (A0 J J) ?_))
 refine Bh J J (DH J J J) (fun b15 h15 => ?_)
 refine Az (AJ J J J) (Az (A1 J J) (Ae ?_))
 cases b15
 rotate_left
 · try simp only [tdy] at h15
   exact ⟨rn [], ⟨⟨⟨_, J, AH (by simp [Bt, *])⟩, O⟩, ⟨⟨_, J, by first | exact BLe.rf | exact AE (by rw [hno]; first | done | rfl)⟩, O⟩, ⟨⟨J, .inl nofun, fun _ _ => ⟨_, J⟩⟩, O⟩, J⟩⟩
 try simp only [tdy] at h15
 exact ⟨rn [], ⟨⟨⟨_, J, AH (by simp [Bt, *])⟩, O⟩, ⟨⟨_, J, by first | exact BLe.rf | exact AE (by rw [hno]; first | done | rfl)⟩, O⟩, ⟨⟨J, .inl nofun, fun _ _ => ⟨_, J⟩⟩, O⟩, J⟩⟩

set_option maxHeartbeats 4000000 in
theorem Hr (tk : List Tokent) (e : Int) (st : PS) (hm : tk.length ≤ 1048576) (hi : st.i ≤ tk.length) : AC Tryz.prog 20 [.one (.ptr 200 0)] [(200, some (psB tk e st))] (.one (.c (.bool (BJ (AA tk e st))))) [(200, some (psB tk e st))] := by
 refine Bn Tryz.func20 J J Tryz.ntmps20 J Tryz.results20 ?_
 refine Aa (Az (A1 J J) (Ad (Az (A0 J J) (Az (Aj J J J (Di tk e st hm (hi)) J J J J) (Az (Aw (.agg #[.int .i64 0, .int .i64 0, .string ⟨#[]⟩, .int .i64 0]) 100 J (by kernel_rfl) J J J J) (Az (Ap 4 J J J J (by kernel_rfl) J J J) (Ad (Az (Ao 0 0 J J J (by kernel_rfl) J) (Az (A4 J J J (by kernel_rfl) J) ?_)))))))))
 refine Bd (AR J J J) (fun b8 h8 => ?_)
 refine Az (A0 J J) ?_
 cases b8
 · try simp only [tdy] at h8
   refine A3 J J J J (A3 J J J J (A3 J J J J (A3 J J J J (Az (AD J J J) (Az (A1 J J) (Ae ?_))))))
   exact ⟨rn [], ⟨⟨⟨_, J, AH (by simp [BJ, *])⟩, O⟩, ⟨⟨_, J, by first | exact BLe.rf | exact AE (by rw [hno]; first | done | rfl)⟩, O⟩, ⟨⟨J, .inl nofun, fun _ _ => ⟨_, J⟩⟩, O⟩, J⟩⟩
 try simp only [tdy] at h8
 refine AB J J (Ao 2 2 J J J (by kernel_rfl) J) (AB J J (A4 J J J (by kernel_rfl) J) ?_)
 refine Bh J J (AS J J J (keptI_c _) J J) (fun b12 h12 => ?_)
 refine AB J J (Cn J J) (Az (AJ J J J) (Az (A1 J J) (Ae ?_)))
 cases b12
 rotate_left
 · try simp only [tdy] at h12
   exact ⟨rn [], ⟨⟨⟨_, J, AH (by simp [BJ, *])⟩, O⟩, ⟨⟨_, J, by first | exact BLe.rf | exact AE (by rw [hno]; first | done | rfl)⟩, O⟩, ⟨⟨J, .inl nofun, fun _ _ => ⟨_, J⟩⟩, O⟩, J⟩⟩
 try simp only [tdy] at h12
 exact ⟨rn [], ⟨⟨⟨_, J, AH (by simp [BJ, *])⟩, O⟩, ⟨⟨_, J, by first | exact BLe.rf | exact AE (by rw [hno]; first | done | rfl)⟩, O⟩, ⟨⟨J, .inl nofun, fun _ _ => ⟨_, J⟩⟩, O⟩, J⟩⟩

set_option maxHeartbeats 4000000 in
theorem pIsTerm_c (tk : List Tokent) (e : Int) (st : PS) (hm : tk.length ≤ 1048576) (hi : st.i ≤ tk.length) : AC Tryz.prog 76 [.one (.ptr 200 0)] [(200, some (psB tk e st))] (.one (.c (.bool (BN (AA tk e st))))) [(200, some (psB tk e st))] := by
 refine Bn Tryz.func76 J J Tryz.ntmps76 J Tryz.results76 ?_
 refine Aa (Az (A1 J J) (Ad (Az (A0 J J) (Az (Aj J J J (Di tk e st hm (hi)) J J J J) (Az (Aw (.agg #[.int .i64 0, .int .i64 0, .string ⟨#[]⟩, .int .i64 0]) 100 J (by kernel_rfl) J J J J) (Az (Ap 4 J J J J (by kernel_rfl) J J J) (Ad (Az (Ao 0 0 J J J (by kernel_rfl) J) (Az (A4 J J J (by kernel_rfl) J) ?_)))))))))
 refine Bd (AR J J J) (fun b8 h8 => ?_)
 refine Az (A0 J J) ?_
 cases b8
 rotate_left
 · try simp only [tdy] at h8
   refine A3 J J J J (A3 J J J J (A3 J J J J (Az (AJ J J J) (Az (A0 J J) (A3 J J J J (A3 J J J J (Az (AJ J J J) (Az (A1 J J) (Ae ?_)))))))))
   exact ⟨rn [], ⟨⟨⟨_, J, AH (by simp [BN, *])⟩, O⟩, ⟨⟨_, J, by first | exact BLe.rf | exact AE (by rw [hno]; first | done | rfl)⟩, O⟩, ⟨⟨J, .inl nofun, fun _ _ => ⟨_, J⟩⟩, O⟩, J⟩⟩
 try simp only [tdy] at h8
 refine AB J J (Ao 0 0 J J J (by kernel_rfl) J) (AB J J (A4 J J J (by kernel_rfl) J) ?_)
 refine Bh J J (AR J J J) (fun b12 h12 => ?_)
 refine Az (AD J J J) (Az (A0 J J) ?_)
 cases b12
 rotate_left
 · try simp only [tdy] at h12
   refine A3 J J J J (A3 J J J J (Az (AJ J J J) (Az (A1 J J) (Ae ?_))))
   exact ⟨rn [], ⟨⟨⟨_, J, AH (by simp [BN, *])⟩, O⟩, ⟨⟨_, J, by first | exact BLe.rf | exact AE (by rw [hno]; first | done | rfl)⟩, O⟩, ⟨⟨J, .inl nofun, fun _ _ => ⟨_, J⟩⟩, O⟩, J⟩⟩
 try simp only [tdy] at h12
 refine AB J J (A0 J J) ?_
 refine FF J J (Aj J J J (Hr tk e st hm hi) J J J J) (fun b16 h16 => ?_)
 refine Az (AD J J J) (Az (A1 J J) (Ae ?_))
 cases b16
 rotate_left
 · try simp only [tdy] at h16
   exact ⟨rn [], ⟨⟨⟨_, J, AH (by simp [BN, *])⟩, O⟩, ⟨⟨_, J, by first | exact BLe.rf | exact AE (by rw [hno]; first | done | rfl)⟩, O⟩, ⟨⟨J, .inl nofun, fun _ _ => ⟨_, J⟩⟩, O⟩, J⟩⟩
 try simp only [tdy] at h16
 exact ⟨rn [], ⟨⟨⟨_, J, AH (by simp [BN, *])⟩, O⟩, ⟨⟨_, J, by first | exact BLe.rf | exact AE (by rw [hno]; first | done | rfl)⟩, O⟩, ⟨⟨J, .inl nofun, fun _ _ => ⟨_, J⟩⟩, O⟩, J⟩⟩

set_option maxHeartbeats 4000000 in
theorem pStarts_c (tk : List Tokent) (e : Int) (st : PS) (hm : tk.length ≤ 1048576) (hi : st.i ≤ tk.length) : AC Tryz.prog 78 [.one (.ptr 200 0)] [(200, some (psB tk e st))] (.one (.c (.bool (BL (AA tk e st))))) [(200, some (psB tk e st))] := by
 refine Bn Tryz.func78 J J Tryz.ntmps78 J Tryz.results78 ?_
 refine Aa (Az (A1 J J) (Ad (Az (A0 J J) (Az (Aj J J J (Di tk e st hm (hi)) J J J J) (Az (Aw (.agg #[.int .i64 0, .int .i64 0, .string ⟨#[]⟩, .int .i64 0]) 100 J (by kernel_rfl) J J J J) (Az (Ap 4 J J J J (by kernel_rfl) J J J) (Ad (Az (A0 J J) ?_))))))))
 refine Dk (Aj J J J (pIsTerm_c tk e st hm hi) J J J J) (fun b7 h7 => ?_)
 refine Az (A0 J J) ?_
 cases b7
 rotate_left
 · try simp only [tdy] at h7
   refine A3 J J J J (A3 J J J J (A3 J J J J (A3 J J J J (Dc J J J (Dc J J J (Dc J J J (A3 J J J J (Az (AJ J J J) (Az (A1 J J) (Ae ?_))))))))))
   exact ⟨rn [], ⟨⟨⟨_, J, AH (by simp [BL, CP, FG, *])⟩, O⟩, ⟨⟨_, J, by first | exact BLe.rf | exact AE (by rw [hno]; first | done | rfl)⟩, O⟩, ⟨⟨J, .inl nofun, fun _ _ => ⟨_, J⟩⟩, O⟩, J⟩⟩
 try simp only [tdy] at h7
 refine AB J J (Ao 0 0 J J J (by kernel_rfl) J) (AB J J (A4 J J J (by kernel_rfl) J) ?_)
 refine Bh J J (AR J J J) (fun b11 h11 => ?_)
 refine AB J J (A0 J J) ?_
 cases b11
 · try simp only [tdy] at h11
   refine A3 J J J J (A3 J J J J (A3 J J J J (AB J J (AD J J J) (Az (AD J J J) (Az (A1 J J) (Ae ?_))))))
   exact ⟨rn [], ⟨⟨⟨_, J, AH (by simp [BL, CP, FG, *])⟩, O⟩, ⟨⟨_, J, by first | exact BLe.rf | exact AE (by rw [hno]; first | done | rfl)⟩, O⟩, ⟨⟨J, .inl nofun, fun _ _ => ⟨_, J⟩⟩, O⟩, J⟩⟩
 try simp only [tdy] at h11
 refine AB J J (Ao 2 2 J J J (by kernel_rfl) J) (AB J J (A4 J J J (by kernel_rfl) J) ?_)
 refine Bh J J (DH J J J) (fun b15 h15 => ?_)
 refine AB J J (AJ J J J) (Az (AD J J J) (Az (A1 J J) (Ae ?_)))
 cases b15
 rotate_left
 · try simp only [tdy] at h15
   exact ⟨rn [], ⟨⟨⟨_, J, AH (by simp [BL, CP, FG, *])⟩, O⟩, ⟨⟨_, J, by first | exact BLe.rf | exact AE (by rw [hno]; first | done | rfl)⟩, O⟩, ⟨⟨J, .inl nofun, fun _ _ => ⟨_, J⟩⟩, O⟩, J⟩⟩
 try simp only [tdy] at h15
 exact ⟨rn [], ⟨⟨⟨_, J, AH (by simp [BL, CP, FG, *])⟩, O⟩, ⟨⟨_, J, by first | exact BLe.rf | exact AE (by rw [hno]; first | done | rfl)⟩, O⟩, ⟨⟨J, .inl nofun, fun _ _ => ⟨_, J⟩⟩, O⟩, J⟩⟩

set_option maxHeartbeats 4000000 in
theorem DL (tk : List Tokent) (e : Int) (st : PS) (hm : tk.length ≤ 1048576) (hi : st.i ≤ tk.length) (s : ByteArray) : AC Tryz.prog 51 [.one (.ptr 200 0), .one (.c (.string (s)))] [(200, some (psB tk e st))] (.tup []) [(200, some (psB tk e (BY tk e s st)))] := by
 refine AC_body0 Tryz.func51 J J Tryz.ntmps51 J Tryz.results51 ?_
 refine A8 (Aa (Az (A0 J J) (Az (A0 J J) ?_)))
 refine Dk (Aj J J J (Dg tk e st hm hi s) J J J J) (fun b6 h6 => ?_)
 refine Az (Cn J J) (A2 ?_)
 cases b6
 · try simp only [tdy] at h6
   have hno := take_no h6
   refine A5 J (Aa (Az (A0 J J) (Az (Aj J J J (BZ tk e st hm hi 6) J J J J) (Ae ?_))))
   exact ⟨rn [], ⟨O, ⟨⟨_, J, by first | exact BLe.rf | exact AE (by rw [hno]; first | done | rfl)⟩, O⟩, ⟨⟨J, .inl nofun, fun _ _ => ⟨_, J⟩⟩, O⟩, J⟩⟩
 try simp only [tdy] at h6
 have hno := take_ok h6
 have hlt := Ck h6
 refine Ab J (AG (Az (A0 J J) (Az (AI J J J) (Az (Ao 1 1 J J J (by kernel_rfl) J) (Az (A4 J J J (by kernel_rfl) J) ?_)))))
 refine Az (Bl J J J (IntWalk.i64_in _ (by omega))) ?_
 refine Az (AI J J J) (Az (Ao 1 1 J J J (by kernel_rfl) J) (Az (Ap 1 J J J J (by kernel_rfl) J J J) (A2 ?_)))
 exact ⟨rn [], ⟨O, ⟨⟨_, J, by first | exact BLe.rf | exact AE (by rw [hno]; first | done | rfl)⟩, O⟩, ⟨⟨J, .inl nofun, fun _ _ => ⟨_, J⟩⟩, O⟩, J⟩⟩

set_option maxHeartbeats 4000000 in
theorem pName_c (tk : List Tokent) (e : Int) (st : PS) (hm : tk.length ≤ 1048576) (hi : st.i ≤ tk.length) : AC Tryz.prog 50 [.one (.ptr 200 0)] [(200, some (psB tk e st))] (.one (.c (.string ((BK tk e st).1)))) [(200, some (psB tk e (BK tk e st).2))] := by
 refine Bn Tryz.func50 J J Tryz.ntmps50 J Tryz.results50 ?_
 refine Aa (Az (A1 J J) (A2 (A8 (Aa (Az (A0 J J) ?_)))))
 refine Dk (Aj J J J (Hr tk e st hm hi) J J J J) (fun b5 h5 => ?_)
 refine Az (Cn J J) (A2 ?_)
 cases b5
 · try simp only [tdy] at h5
   have hno := HQ h5
   refine A5 J (Aa (Az (A0 J J) (Az (Aj J J J (BZ tk e st hm hi 6) J J J J) (Ad (Az (A1 J J) (Ae ?_))))))
   exact ⟨rn [], ⟨⟨⟨_, J, Bu (by rw [hno])⟩, O⟩, ⟨⟨_, J, by first | exact BLe.rf | exact AE (by rw [hno]; first | done | rfl)⟩, O⟩, ⟨⟨J, .inl nofun, fun _ _ => ⟨_, J⟩⟩, O⟩, J⟩⟩
 try simp only [tdy] at h5
 have hno := word_ok h5
 have hlt := name_lt h5
 refine Ab J (Aa (Az (A0 J J) (Az (Aj J J J (Di tk e st hm (hi)) J J J J) (Az (Aw (.agg #[.int .i64 0, .int .i64 0, .string ⟨#[]⟩, .int .i64 0]) 100 J (by kernel_rfl) J J J J) (Az (Ap 4 J J J J (by kernel_rfl) J J J) (Ad (Az (A0 J J) (Az (AI J J J) (Az (Ao 1 1 J J J (by kernel_rfl) J) (Az (A4 J J J (by kernel_rfl) J) ?_))))))))))
 refine Az (Bl J J J (IntWalk.i64_in _ (by omega))) ?_
 refine Az (AI J J J) (Az (Ao 1 1 J J J (by kernel_rfl) J) (Az (Ap 1 J J J J (by kernel_rfl) J J J) (Ad (Az (Ao 2 2 J J J (by kernel_rfl) J) (Az (A4 J J J (by kernel_rfl) J) (Az (A1 J J) (Ae ?_)))))))
 exact ⟨rn [], ⟨⟨⟨_, J, Bu (by rw [hno])⟩, O⟩, ⟨⟨_, J, by first | exact BLe.rf | exact AE (by rw [hno]; first | done | rfl)⟩, O⟩, ⟨⟨J, .inl nofun, fun _ _ => ⟨_, J⟩⟩, O⟩, J⟩⟩

set_option maxHeartbeats 4000000 in
theorem Cr (tk : List Tokent) (e : Int) (st : PS) (hm : tk.length ≤ 1048576) (hi : st.i ≤ tk.length) : AC Tryz.prog 77 [.one (.ptr 200 0)] [(200, some (psB tk e st))] (.agg (Fi (AM tk e false st).1)) [(200, some (psB tk e (AM tk e false st).2))] := by
 refine En (n := 3) (k := 9) (T := [(2, .one (.ptr 9 0))]) (Lf := ((9, some (.box (Fi (AM tk e false st).1))) :: [(200, some (psB tk e (AM tk e false st).2))])) Tryz.func77 J J Tryz.ntmps77 J Tryz.results77 J J (by kernel_rfl) J J ⟨O, (by repeat (first | exact trivial | refine ⟨⟨_, J, BLe.rf⟩, ?_⟩)), (Af J), J⟩ ?_
 refine Aa (Az (Aw (.agg #[.string ⟨#[]⟩, .int .i64 0, .string ⟨#[]⟩]) 100 J (by kernel_rfl) J J J J) (A2 (A8 (Aa (Az (A0 J J) ?_)))))
 refine Dk (Aj J J J (pIsTerm_c tk e st hm hi) J J J J) (fun b5 h5 => ?_)
 refine Az (Cn J J) (A2 ?_)
 cases b5
 · try simp only [tdy] at h5
   have hno := FI (b := false) h5
   refine A5 J (Aa (Az (A0 J J) (Az (Aj J J J (BZ tk e st hm hi 6) J J J J) (Ad (Az (Al [.string ⟨#[]⟩, .int .i64 0, .string ⟨#[]⟩] [(0, 1), (1, 2)] J (by kernel_rfl) J J J J J) (Az (Ap 3 J J J J (by kernel_rfl) J J J) (Ae ?_)))))))
   exact ⟨rn [(9, 100)], ⟨⟨⟨_, J, VLe.rf⟩, O⟩, ⟨⟨_, J, by first | exact BLe.rf | exact AE (by rw [hno]; first | done | rfl)⟩, ⟨_, J, by first | exact BLe.rf | exact AE (by rw [hno]; first | done | rfl)⟩, O⟩, ⟨⟨J, .inl nofun, fun _ _ => ⟨_, J⟩⟩, O⟩, J⟩⟩
 try simp only [tdy] at h5
 have hn1 := Hi h5
 have hlt := term_lt h5
 refine Ab J (Aa (Az (A0 J J) (Az (Aj J J J (Di tk e st hm (hi)) J J J J) (Az (Aw (.agg #[.int .i64 0, .int .i64 0, .string ⟨#[]⟩, .int .i64 0]) 101 J (by kernel_rfl) J J J J) (Az (Ap 4 J J J J (by kernel_rfl) J J J) (Ad (Az (A0 J J) (Az (AI J J J) (Az (Ao 1 1 J J J (by kernel_rfl) J) (Az (A4 J J J (by kernel_rfl) J) ?_))))))))))
 refine Az (Bl J J J (IntWalk.i64_in _ (by omega))) ?_
 refine Az (AI J J J) (Az (Ao 1 1 J J J (by kernel_rfl) J) (Az (Ap 1 J J J J (by kernel_rfl) J J J) (A2 (A8 (Aa (Az (Ao 0 0 J J J (by kernel_rfl) J) (Az (A4 J J J (by kernel_rfl) J) (A2 (AZ (Aa ?_))))))))))
 refine Bd (AR J J J) (fun b22 h22 => ?_)
 refine Az (A1 J J) (A2 ?_)
 cases b22
 rotate_left
 · try simp only [tdy] at h22
   have hno := hn1.trans (congrArg (fun x => (x, st.next)) (of_var h22))
   refine A5 J (Aa (Az (Ao 2 2 J J J (by kernel_rfl) J) (Az (A4 J J J (by kernel_rfl) J) (Az (Al [.string ⟨#[]⟩, .int .i64 0, .string ⟨#[]⟩] [(0, 1), (1, 2)] J (by kernel_rfl) J J J J J) (Az (Ap 3 J J J J (by kernel_rfl) J J J) (A2 ?_))))))
   refine AU (Bk ?_)
   exact ⟨rn [(9, 100)], ⟨⟨⟨_, J, VLe.rf⟩, O⟩, ⟨⟨_, J, by first | exact BLe.rf | exact AE (by rw [hno]; first | done | rfl)⟩, ⟨_, J, by first | exact BLe.rf | exact AE (by rw [hno]; first | done | rfl)⟩, O⟩, ⟨⟨J, .inl nofun, fun _ _ => ⟨_, J⟩⟩, O⟩, J⟩⟩
 try simp only [tdy] at h22
 refine Bc J (Aa ?_)
 refine Bd (AR J J J) (fun b27 h27 => ?_)
 refine Az (A1 J J) (A2 ?_)
 cases b27
 rotate_left
 · try simp only [tdy] at h27
   have hno := hn1.trans (congrArg (fun x => (x, st.next)) (of_num h22 h27))
   refine A5 J (Aa (Az (Ao 1 1 J J J (by kernel_rfl) J) (Az (A4 J J J (by kernel_rfl) J) (Az (Al [.int .i64 0, .string ⟨#[]⟩] [(0, 1), (1, 1)] J (by kernel_rfl) J J J J J) (Az (Al [.string ⟨#[]⟩, .int .i64 0, .string ⟨#[]⟩] [(0, 1), (1, 2)] J (by kernel_rfl) J J J J J) (Az (Ap 3 J J J J (by kernel_rfl) J J J) (A2 ?_)))))))
   refine AU (Bk ?_)
   exact ⟨rn [(9, 100)], ⟨⟨⟨_, J, VLe.rf⟩, O⟩, ⟨⟨_, J, by first | exact BLe.rf | exact AE (by rw [hno]; first | done | rfl)⟩, ⟨_, J, by first | exact BLe.rf | exact AE (by rw [hno]; first | done | rfl)⟩, O⟩, ⟨⟨J, .inl nofun, fun _ _ => ⟨_, J⟩⟩, O⟩, J⟩⟩
 try simp only [tdy] at h27
 have hno := hn1.trans (congrArg (fun x => (x, st.next)) (of_name h22 h27))
 refine Ab J (Aa (Az (Ao 2 2 J J J (by kernel_rfl) J) (Az (A4 J J J (by kernel_rfl) J) (Az (Al [.int .i64 0, .string ⟨#[]⟩] [(0, 1), (1, 1)] J (by kernel_rfl) J J J J J) (Az (Al [.string ⟨#[]⟩, .int .i64 0, .string ⟨#[]⟩] [(0, 1), (1, 2)] J (by kernel_rfl) J J J J J) (Az (Ap 3 J J J J (by kernel_rfl) J J J) (Ae ?_)))))))
 exact ⟨rn [(9, 100)], ⟨⟨⟨_, J, VLe.rf⟩, O⟩, ⟨⟨_, J, by first | exact BLe.rf | exact AE (by rw [hno]; first | done | rfl)⟩, ⟨_, J, by first | exact BLe.rf | exact AE (by rw [hno]; first | done | rfl)⟩, O⟩, ⟨⟨J, .inl nofun, fun _ _ => ⟨_, J⟩⟩, O⟩, J⟩⟩
end Go.Proofs.YtkemjhlbokldhaaGreat

namespace Go.Proofs
open Go.Shelf
def Tryz.lays137_ren : Go.Shelf.Ren := ⟨fun | 137 => 73 | 217 => 95 | 266 => 113 | n => n, fun | 9 => 9 | 5 => 5 | 3 => 3 | n => n, fun | n => n⟩
theorem Tryz.lays137 : Go.Proofs.Lays.n137 Tryz.prog Tryz.lays137_ren := {
 mixed := by kernel_rfl
 f137 := Tryz.func73.trans (congrArg some (by kernel_rfl))
 f217 := Tryz.func95.trans (congrArg some (by kernel_rfl))
 f266 := Tryz.func113.trans (congrArg some (by kernel_rfl))
 t3 := Tryz.underlying3
 a3 := Tryz.isAgg3
 z3 := Tryz.sizeOf3
 v3 := Tryz.zeroValue3
 t5 := Tryz.underlying5
 a5 := Tryz.isAgg5
 z5 := Tryz.sizeOf5
 v5 := Tryz.zeroValue5
 t9 := Tryz.underlying9
 a9 := Tryz.isAgg9
 z9 := Tryz.sizeOf9
 v9 := Tryz.zeroValue9 }
open Go.RowKit in
theorem Tryz.strings_IndexByte (s : ByteArray) (c : Int) (w : World) :
   Calls Tryz.prog 73 #[.string s, .int .u8 c] w fun e w' => e = .returned (.int .i64 (Lib.indexByte s.data.toList c.toNat.toUInt8)) ∧ w' = w := Any.strings_IndexByte Tryz.lays137 s c w
def Tryz.lays206_ren : Go.Shelf.Ren := ⟨fun | 206 => 96 | n => n, fun | 9 => 9 | 4 => 4 | 3 => 3 | n => n, fun | n => n⟩
theorem Tryz.lays206 : Go.Proofs.Lays.n206 Tryz.prog Tryz.lays206_ren := {
 mixed := by kernel_rfl
 f206 := Tryz.func96.trans (congrArg some (by kernel_rfl))
 t3 := Tryz.underlying3
 a3 := Tryz.isAgg3
 z3 := Tryz.sizeOf3
 v3 := Tryz.zeroValue3
 t4 := Tryz.underlying4
 a4 := Tryz.isAgg4
 z4 := Tryz.sizeOf4
 v4 := Tryz.zeroValue4
 t9 := Tryz.underlying9
 a9 := Tryz.isAgg9
 z9 := Tryz.sizeOf9
 v9 := Tryz.zeroValue9 }
open Go.RowKit Go.Lib in
theorem Tryz.stringslite_HasPrefix (s p : ByteArray) (w : World) :
   Calls Tryz.prog 96 #[.string s, .string p] w fun e w' => e = .returned (.bool (Lib.hasPrefix s.data.toList p.data.toList)) ∧ w' = w := Any.stringslite_HasPrefix Tryz.lays206 s p w
end Go.Proofs

namespace Go.Proofs.YtkemjhlbokldhaaGreat
open Go.RowKit
set_option linter.unusedVariables false
theorem wf_byte (b : UInt8) : (Lit.int .u8 (b.toNat : Int)).wf = true := by
 have := b.toNat_lt
 simp [Lit.wf, IntKind.min, IntKind.max, IntKind.signed, IntKind.bits]; omega
section ops
variable {P : Program} {N : Nat} {d : Nat} {s : St} {ty : TypeId} {pos : String} {after : Array Edge} {gd : Option (Nat × Bool)}
theorem CL {T : Nat} {x ix : Operand} {b : ByteArray} {ik : IntKind} {v : Int} {k : Nat} (hN : Nat.blt d N = true) (h : evo s.t x = some (.one (.c (.string b)))) (h2 : evo s.t ix = some (.one (.c (.int ik v)))) (hT : P.underlying T = some .string) (hv : v = (k : Int)) (hk : k < b.size) :
   Stp P N ⟨some d, .index T x ix, ty, pos, after, gd⟩ s ⟨(d, .one (.c (.int .u8 (b[k].toNat : Int)))) :: s.t, s.l⟩ ⟨rdo x (.one (.c (.string b))) ++ rdo ix (.one (.c (.int ik v))), [], [(d, .one (.c (.int .u8 (b[k].toNat : Int))))], [], []⟩ :=
 Stp.pure rfl hN (fun p hp => by rcases List.mem_append.1 hp with hp | hp; exact Cg h p hp; exact Cg h2 p hp) (by simp) fun g s' a w ht hl' r => by
   obtain ⟨e1, e2⟩ : CellR g s'.l w (a.eval x) (.c (.string b)) := B4 r (BC h) fun p hp => ht p (List.mem_append_left _ hp)
   have e4 : a.eval ix = .int ik v := (B4 r (BC h2) fun p hp => ht p (List.mem_append_right _ hp) : CellR g s'.l w _ (.c (.int ik v))).1
   subst hv
   have hrun : (Instr.index T (.string b) (.int ik (k : Int))).run P w = .ok (.int .u8 (b[k].toNat : Int)) w := by
     simp [Instr.index, asIntOf, run_underlying hT, hk]
   exact ⟨_, by simp only [execOp, e1, e4, Sem.run_bind, hrun, Result.andThen_ok, Sem.run_pure], rfl, wf_byte _⟩
end ops
end Go.Proofs.YtkemjhlbokldhaaGreat

namespace Go.Proofs.YtkemjhlbokldhaaGreat
open Go.RowKit
set_option linter.unusedVariables false
set_option linter.unusedSimpArgs false

theorem textN_wf (s : ByteArray) : (Lit.int .i64 (D9 s)).wf = true := by
 unfold D9
 cases h : Dd s with
 | none => exact WalkArith.wf_i64 (by decide)
 | some n =>
   have := (textNum_some h).1
   exact WalkArith.wf_i64 (by simp; omega)
theorem textNumI_c (s : ByteArray) : AC Tryz.prog 74 [.one (.c (.string s))] [] (.tup [.one (.c (.int .i64 (D9 s))), .one (.c (.bool (Ds s)))]) [] :=
 AC.pure2 ⟨_, _, Tryz.func74, rfl, rfl⟩ (textN_wf s) trivial fun w g cargs h => by
   obtain ⟨x, rfl, h1⟩ := IG h
   obtain ⟨rfl, hs⟩ := FO h1
   exact (textNumI_any s w hs).mono fun e w' ⟨h1, h2⟩ => ⟨h1, EI h2⟩
theorem textNumS_c (s : ByteArray) : AC Tryz.prog 100 [.one (.c (.string s))] [] (.tup [.one (.c (.int .i64 (D9 s))), .one (.c (.bool (Ds s)))]) [] :=
 AC.pure2 ⟨_, _, Tryz.func100, rfl, rfl⟩ (textN_wf s) trivial fun w g cargs h => by
   obtain ⟨x, rfl, h1⟩ := IG h
   obtain ⟨rfl, hs⟩ := FO h1
   exact (textNumS_any s w hs).mono fun e w' h => h
theorem idxB_lt {l : List UInt8} {c : UInt8} : -1 ≤ Lib.indexByte l c ∧ Lib.indexByte l c ≤ l.length := by
 have h1 := Lib.indexByte_ge l c
 refine ⟨h1, ?_⟩
 by_cases h : Lib.indexByte l c < 0
 · omega
 · obtain ⟨o, ho⟩ : ∃ o : Nat, Lib.indexByte l c = o := ⟨(Lib.indexByte l c).toNat, by omega⟩
   obtain ⟨h2, _⟩ := Lib.indexByte_some ho
   have := (List.getElem?_eq_some_iff.1 h2).1
   omega
theorem idxByte_c (s : ByteArray) (c : Int) (hs : s.size ≤ 1048576) : AC Tryz.prog 73 [.one (.c (.string s)), .one (.c (.int .u8 c))] [] (.one (.c (.int .i64 (Lib.indexByte s.data.toList c.toNat.toUInt8)))) [] :=
 AC.pure ⟨_, _, Tryz.func73, rfl, rfl⟩ (by
   obtain ⟨h1, h2⟩ := idxB_lt (l := s.data.toList) (c := c.toNat.toUInt8)
   have e : s.data.toList.length = s.size := by simp
   exact WalkArith.wf_i64 (by omega)) fun w g cargs h => by
   obtain ⟨x, y, rfl, h1, h2⟩ := inv2 h
   obtain ⟨rfl, _⟩ := inv_c h1
   obtain ⟨rfl, _⟩ := inv_c h2
   exact (Go.Proofs.Tryz.strings_IndexByte s c w).mono fun e w' ⟨h1, h2⟩ => ⟨h1, EI h2.symm⟩
theorem litePre_c (s p : ByteArray) : AC Tryz.prog 96 [.one (.c (.string s)), .one (.c (.string p))] [] (.one (.c (.bool (Lib.hasPrefix s.data.toList p.data.toList)))) [] :=
 AC.pure ⟨_, _, Tryz.func96, rfl, rfl⟩ trivial fun w g cargs h => by
   obtain ⟨x, y, rfl, h1, h2⟩ := inv2 h
   obtain ⟨rfl, _⟩ := inv_c h1
   obtain ⟨rfl, _⟩ := inv_c h2
   exact (Go.Proofs.Tryz.stringslite_HasPrefix s p w).mono fun e w' ⟨h1, h2⟩ => ⟨h1, EI h2.symm⟩
section
variable {s : ByteArray}
theorem ext_at {i : Nat} (hi : i ≤ s.size) (k : Nat) : (s.extract i s.size).data.toList[k]? = s.data.toList[i + k]? := by
 rw [ByteArray.data_extract, Array.toList_extract]
 simp only [List.extract, List.drop_take]
 rw [List.take_of_length_le (by simp), List.getElem?_drop]
theorem byte_at {j : Nat} (h : j < s.size) : s.data.toList[j]? = some s[j] := by
 rw [List.getElem?_eq_getElem (by simpa using h), CB s j h]
theorem lineEnd_none {i : Nat} (hi : i ≤ s.size) (h : ∀ j, i ≤ j → ∀ (hj : j < s.size), ¬ (s[j].toNat : Int) = 10) : Ce s i = s.size := by
 by_cases h1 : i < s.size
 · rw [Ex h1 (h i (Nat.le_refl _) h1)]
   exact lineEnd_none (by omega) fun j hj hj2 => h j (by omega) hj2
 · rw [lineEnd_end h1]; omega
termination_by s.size - i
theorem lineEnd_some {i o : Nat} (hj : i + o < s.size) (h : (s[i + o].toNat : Int) = 10) (h2 : ∀ j, i ≤ j → ∀ (hjo : j < i + o), ¬ ((s[j]'(by omega)).toNat : Int) = 10) : Ce s i = i + o := by
 induction o generalizing i with
 | zero => exact lineEnd_at hj h
 | succ o ih =>
   have e : i + 1 + o = i + (o + 1) := by omega
   have h5 : (s[i + 1 + o].toNat : Int) = 10 := by simp only [e]; exact h
   rw [Ex (by omega) (h2 i (Nat.le_refl _) (by omega)), ih (i := i + 1) (by omega) h5 fun j h3 h4 => h2 j (by omega) (by omega)]
   omega
theorem ten_eq (b : UInt8) : (b.toNat : Int) = 10 ↔ b = (10 : Int).toNat.toUInt8 := by
 constructor
 · intro h
   have : b.toNat = 10 := by omega
   exact UInt8.toNat.inj (by rw [this]; rfl)
 · intro h; rw [h]; rfl
theorem line_none {i : Nat} (hi : i ≤ s.size) (h : Lib.indexByte (s.extract i s.size).data.toList (10 : Int).toNat.toUInt8 < 0) : Ce s i = s.size := by
 have h1 := Lib.indexByte_ge (s.extract i s.size).data.toList (10 : Int).toNat.toUInt8
 have h2 := Lib.indexByte_none (l := (s.extract i s.size).data.toList) (c := (10 : Int).toNat.toUInt8) (by omega)
 refine lineEnd_none hi fun j hj hj2 h3 => h2 (j - i) ?_
 rw [ext_at hi, show i + (j - i) = j by omega, byte_at hj2, (ten_eq _).1 h3]
theorem line_some {i : Nat} (hi : i ≤ s.size) (h : ¬ Lib.indexByte (s.extract i s.size).data.toList (10 : Int).toNat.toUInt8 < 0) : (Ce s i : Int) = i + Lib.indexByte (s.extract i s.size).data.toList (10 : Int).toNat.toUInt8 ∧ Ce s i < s.size := by
 obtain ⟨o, ho⟩ : ∃ o : Nat, Lib.indexByte (s.extract i s.size).data.toList (10 : Int).toNat.toUInt8 = o := ⟨(Lib.indexByte (s.extract i s.size).data.toList (10 : Int).toNat.toUInt8).toNat, by omega⟩
 obtain ⟨h1, h2⟩ := Lib.indexByte_some ho
 rw [ext_at hi] at h1
 have hj : i + o < s.size := by simpa using (List.getElem?_eq_some_iff.1 h1).1
 rw [byte_at hj] at h1
 have e := lineEnd_some (s := s) (i := i) (o := o) hj ((ten_eq _).2 (by simpa using h1)) fun j h3 h4 h5 => h2 (j - i) (by omega) (by
   rw [ext_at hi, show i + (j - i) = j by omega, byte_at (by omega), (ten_eq _).1 h5])
 rw [e, ho]
 exact ⟨by omega, hj⟩
end
theorem lineQ (s : ByteArray) (i : Nat) (hi : i ≤ s.size) (hs : s.size ≤ 1048576) : ∃ q : Int, AC Tryz.prog 73 [.one (.c (.string (s.extract i s.size))), .one (.c (.int .u8 10))] [] (.one (.c (.int .i64 q))) [] ∧ (q < 0 → Ce s i = s.size) ∧ (0 ≤ q → (Ce s i : Int) = i + q ∧ Ce s i < s.size) :=
 ⟨_, idxByte_c (s.extract i s.size) 10 (by rw [ByteArray.size_extract]; omega), fun h => line_none hi h, fun h => line_some hi (Int.not_lt.2 h)⟩
theorem noteQ (s : ByteArray) (j : Nat) (hj : j < s.size) (hb : CH s[j].toNat = false) (h3 : (s[j].toNat : Int) = 35) (hs : s.size ≤ 1048576) : ∃ (q : Int) (le : Nat), AC Tryz.prog 73 [.one (.c (.string (s.extract j s.size))), .one (.c (.int .u8 10))] [] (.one (.c (.int .i64 q))) [] ∧ (q < 0 → B3 s j = s.size) ∧ (0 ≤ q → (le : Int) = j + q ∧ le < s.size ∧ j < le ∧ B3 s j = B3 s le) := by
 obtain ⟨q, h1, h2, h4⟩ := lineQ s j (Nat.le_of_lt hj) hs
 exact ⟨q, Ce s j, h1, fun h => note_end hj hb h3 (h2 h), fun h => ⟨(h4 h).1, (h4 h).2, note_lt hj h3, Ge hj hb h3⟩⟩
section
variable {s : ByteArray}
theorem IK {i n : Nat} (h : i + n ≤ s.size) : (s.extract i (i + n)).data.toList = (s.data.toList.drop i).take n := by
 rw [ByteArray.data_extract, Array.toList_extract]
 simp [List.extract, List.drop_take]
theorem ext_all {i : Nat} (h : i ≤ s.size) : (s.extract i s.size).data.toList = s.data.toList.drop i := by
 rw [ByteArray.data_extract, Array.toList_extract]
 simp only [List.extract, List.drop_take]
 rw [List.take_of_length_le (by simp)]
theorem two_pre {i : Nat} (h : i ≤ s.size) {p : ByteArray} (hp : p.size = 2) : Lib.hasPrefix (s.extract i s.size).data.toList p.data.toList = true ↔ i + 1 < s.size ∧ s.extract i (i + 2) = p := by
 have hl : p.data.toList.length = 2 := by simpa using hp
 have hn : s.data.toList.length = s.size := by simp
 unfold Lib.hasPrefix
 rw [ext_all h, List.isPrefixOf_iff_prefix, List.prefix_iff_eq_take, hl]
 constructor
 · intro e
   have h1 : i + 1 < s.size := by
     have := congrArg List.length e
     rw [hl, List.length_take, List.length_drop, hn] at this
     omega
   refine ⟨h1, ByteArray.ext (Array.ext' ?_)⟩
   rw [IK (by omega), ← e]
 · rintro ⟨h1, e⟩
   rw [← e, IK (by omega)]
end
end Go.Proofs.YtkemjhlbokldhaaGreat

namespace Go.Proofs.YtkemjhlbokldhaaGreat
open Go.RowKit
set_option linter.unusedVariables false
set_option linter.unusedSimpArgs false

def twos : List ByteArray := [⟨#[58, 45]⟩, ⟨#[33, 61]⟩, ⟨#[60, 61]⟩]
def ones : List ByteArray := [⟨#[40]⟩, ⟨#[41]⟩, ⟨#[44]⟩, ⟨#[46]⟩, ⟨#[61]⟩, ⟨#[60]⟩, ⟨#[43]⟩, ⟨#[45]⟩, ⟨#[47]⟩]
def signB : ByteArray := ⟨#[40, 41, 44, 46, 61, 60, 43, 45, 47]⟩
theorem HT : twos.length = 3 := rfl
theorem CX : ones.length = 9 := rfl
theorem twos_mem (x : ByteArray) : EM x = twos.any (fun y => x == y) := by
 simp [EM, twos]
theorem twos_size {p : ByteArray} (h : p ∈ twos) : p.size = 2 := by
 simp only [twos, List.mem_cons, List.not_mem_nil, or_false] at h
 rcases h with rfl | rfl | rfl <;> rfl
section
variable {s : ByteArray} {i : Nat}
theorem sym_two (hi : i < s.size) {k : Nat} (hk : k < twos.length) (h : Lib.hasPrefix (s.extract i s.size).data.toList twos[k].data.toList = true) : C2 s i = twos[k] := by
 obtain ⟨h1, h2⟩ := (two_pre (by omega) (twos_size (List.getElem_mem hk))).1 h
 have h3 : EM twos[k] = true := by rw [twos_mem, List.any_eq_true]; exact ⟨_, List.getElem_mem hk, ba_iff.2 rfl⟩
 unfold C2
 rw [dif_pos hi, h2, if_pos ⟨h1, h3⟩]
theorem no_two (hi : i < s.size) {k : Nat} (hn : NoneTo (fun p : ByteArray => Lib.hasPrefix (s.extract i s.size).data.toList p.data.toList) twos k) (hk : 3 ≤ k) : ¬ (i + 1 < s.size ∧ EM (s.extract i (i + 2)) = true) := by
 rintro ⟨h1, h2⟩
 rw [twos_mem, List.any_eq_true] at h2
 obtain ⟨p, hp, h3⟩ := h2
 obtain ⟨j, hj, rfl⟩ := List.getElem_of_mem hp
 have h4 := hn j hj (by rw [HT] at hj; omega)
 have h5 := (two_pre (s := s) (i := i) (by omega) (twos_size (List.getElem_mem hj))).2 ⟨h1, ba_iff.1 h3⟩
 simp only [h5] at h4; cases h4
theorem in_signs {c : UInt8} : 0 ≤ Lib.indexByte signB.data.toList c ↔ ((c.toNat : Int) ∈ HW) := by
 constructor
 · intro h
   obtain ⟨o, ho⟩ : ∃ o : Nat, Lib.indexByte signB.data.toList c = o := ⟨(Lib.indexByte signB.data.toList c).toNat, by omega⟩
   obtain ⟨h1, _⟩ := Lib.indexByte_some ho
   have h2 : c ∈ signB.data.toList := List.mem_of_getElem? h1
   have h3 : signB.data.toList = [40, 41, 44, 46, 61, 60, 43, 45, 47] := rfl
   rw [h3] at h2
   simp only [List.mem_cons, List.not_mem_nil, or_false] at h2
   rcases h2 with rfl | rfl | rfl | rfl | rfl | rfl | rfl | rfl | rfl <;> decide
 · intro h
   refine Int.not_lt.1 fun hl => ?_
   have h0 := Lib.indexByte_ge signB.data.toList c
   have h1 := Lib.indexByte_none (l := signB.data.toList) (c := c) (by omega)
   have hc : ∀ n : Nat, n < 256 → (c.toNat : Int) = n → c = UInt8.ofNat n := fun n hn h => by
     apply UInt8.toNat.inj
     rw [UInt8.toNat_ofNat_of_lt' (by omega)]; omega
   simp only [HW, List.mem_cons, List.not_mem_nil, or_false] at h
   rcases h with h | h | h | h | h | h | h | h | h
   · exact h1 0 (by rw [hc 40 (by decide) h]; rfl)
   · exact h1 1 (by rw [hc 41 (by decide) h]; rfl)
   · exact h1 2 (by rw [hc 44 (by decide) h]; rfl)
   · exact h1 3 (by rw [hc 46 (by decide) h]; rfl)
   · exact h1 4 (by rw [hc 61 (by decide) h]; rfl)
   · exact h1 5 (by rw [hc 60 (by decide) h]; rfl)
   · exact h1 6 (by rw [hc 43 (by decide) h]; rfl)
   · exact h1 7 (by rw [hc 45 (by decide) h]; rfl)
   · exact h1 8 (by rw [hc 47 (by decide) h]; rfl)
theorem back_u8 (c : UInt8) : (c.toNat : Int).toNat.toUInt8 = c := by
 apply UInt8.toNat.inj
 have := c.toNat_lt
 simp
theorem sym_one (hi : i < s.size) (h2 : ¬ (i + 1 < s.size ∧ EM (s.extract i (i + 2)) = true)) (h : 0 ≤ Lib.indexByte signB.data.toList (s[i].toNat : Int).toNat.toUInt8) : C2 s i = s.extract i (i + 1) := by
 rw [back_u8] at h
 unfold C2
 rw [dif_pos hi, if_neg h2, if_pos (in_signs.1 h)]
theorem sym_none (hi : i < s.size) (h2 : ¬ (i + 1 < s.size ∧ EM (s.extract i (i + 2)) = true)) (h : ¬ 0 ≤ Lib.indexByte signB.data.toList (s[i].toNat : Int).toNat.toUInt8) : C2 s i = ⟨#[]⟩ := by
 rw [back_u8] at h
 unfold C2
 rw [dif_pos hi, if_neg h2, if_neg fun q => h (in_signs.2 q)]
theorem sym_pair (hi : i + 1 < s.size) {p : ByteArray} (h : s.extract i (i + 2) = p) (hp : EM p = true) : C2 s i = p := by
 unfold C2
 rw [dif_pos (by omega), h, if_pos ⟨hi, hp⟩]
theorem Fr {k : Nat} (hk : k < ones.length) : ones[k].size = 1 := by
 have : ∀ p ∈ ones, p.size = 1 := by
   intro p hp
   simp only [ones, List.mem_cons, List.not_mem_nil, or_false] at hp
   rcases hp with rfl | rfl | rfl | rfl | rfl | rfl | rfl | rfl | rfl <;> rfl
 exact this _ (List.getElem_mem hk)
def hd0 (p : ByteArray) : Int := match p.data.toList with | [] => -1 | c :: _ => c.toNat
theorem HG {p : ByteArray} (h : 0 < p.size) : hd0 p = p[0].toNat := by
 have h1 := CB p 0 h
 unfold hd0
 cases hl : p.data.toList with
 | nil => have : p.data.toList.length = p.size := by simp
          rw [hl] at this; simp at this; omega
 | cons c l => simp [hl] at h1; simp [h1]
theorem ones_signs : ones.map hd0 = HW := rfl
theorem one_ext (hi : i < s.size) {p : ByteArray} (hp : p.size = 1) (h : hd0 p = s[i].toNat) : s.extract i (i + 1) = p := by
 have h0 : 0 < p.size := by omega
 rw [HG h0] at h
 refine ByteArray.ext (Array.ext' ?_)
 rw [IK (by omega)]
 have e1 : s.data.toList.drop i = s[i] :: s.data.toList.drop (i + 1) := by
   rw [List.drop_eq_getElem_cons (by simpa using hi), CB s i hi]
 have e2 : p.data.toList = [p[0]] := by
   have h2 := CB p 0 h0
   have h3 : p.data.toList.length = 1 := by simpa using hp
   match hl : p.data.toList, h3 with
   | [c], _ => simp [hl] at h2; rw [h2]
 rw [e1, e2]
 simp only [List.take_succ_cons, List.take_zero]
 rw [UInt8.toNat.inj (show s[i].toNat = p[0].toNat by omega)]
theorem sym_hit (hi : i < s.size) (h2 : ¬ (i + 1 < s.size ∧ EM (s.extract i (i + 2)) = true)) {k : Nat} (hk : k < ones.length) (h0 : 0 < ones[k].size) (h : (ones[k][0].toNat : Int) = s[i].toNat) : C2 s i = ones[k] := by
 have e : hd0 ones[k] = s[i].toNat := by rw [HG h0]; exact h
 unfold C2
 have hm : (s[i].toNat : Int) ∈ HW := by
   rw [← ones_signs, List.mem_map]
   exact ⟨ones[k], List.getElem_mem hk, e⟩
 rw [dif_pos hi, if_neg h2, if_pos hm, one_ext hi (Fr hk) e]
theorem sym_miss (hi : i < s.size) (h2 : ¬ (i + 1 < s.size ∧ EM (s.extract i (i + 2)) = true)) {k : Nat} (hk : 9 ≤ k) (hn : NoneTo (fun p : ByteArray => decide (hd0 p = s[i].toNat)) ones k) : C2 s i = ⟨#[]⟩ := by
 unfold C2
 have hm : ¬ (s[i].toNat : Int) ∈ HW := by
   rw [← ones_signs, List.mem_map]
   rintro ⟨p, hp, e⟩
   obtain ⟨j, hj, rfl⟩ := List.getElem_of_mem hp
   have := hn j hj (by rw [CX] at hj; omega)
   simp [e] at this
 rw [dif_pos hi, if_neg h2, if_neg hm]
theorem not_two {y : ByteArray} (h1 : (y == (⟨#[58, 45]⟩ : ByteArray)) = false) (h2 : (y == (⟨#[33, 61]⟩ : ByteArray)) = false) (h3 : (y == (⟨#[60, 61]⟩ : ByteArray)) = false) : ¬ (i + 1 < s.size ∧ EM y = true) := by
 simp [EM, h1, h2, h3]
end
section
variable {s : ByteArray} {j : Nat}
theorem size_zero {y : ByteArray} (h : y.size = 0) : y = ⟨#[]⟩ := by
 obtain ⟨⟨l⟩⟩ := y
 have : l.length = 0 := h
 rw [List.eq_nil_of_length_eq_zero this]
theorem cls_dig {c : Int} : cls c = 3 ↔ Cf c = true := by
 unfold cls
 by_cases h1 : Ct c = true
 · have : Cf c = false := by
     unfold Ct at h1; unfold Cf
     simp only [decide_eq_true_eq, decide_eq_false_iff_not] at *; omega
   simp [h1, this]
 · by_cases h2 : upB c = true
   · have : Cf c = false := by
       unfold upB at h2; unfold Cf
       simp only [decide_eq_true_eq, decide_eq_false_iff_not] at *; omega
     simp [h1, h2, this]
   · by_cases h3 : Cf c = true <;> simp [h1, h2, h3]
theorem cls_pos {c : Int} : (cls c = 0 ↔ B0 c = false) ∧ (0 < cls c ↔ B0 c = true) := by
 have := alnum_cls c
 have h2 : 0 ≤ cls c := by
   unfold cls; repeat' split
   all_goals omega
 constructor
 · rw [this, decide_eq_false_iff_not]; omega
 · rw [this, decide_eq_true_eq]
theorem lexw_bad (h : j < s.size) (hs : B3 s j = j) (ha : B0 s[j].toNat = true) (hc : ¬ (BT s j (s[j].toNat : Int)).2.2 = 0) : lexR s j = ([], (BT s j (s[j].toNat : Int)).2.2, (j : Int)) := by
 unfold BT at *
 cases ht : DK s j (Bp s j) (s[j].toNat : Int) with
 | mk o c =>
   cases o with
   | none => rw [ht] at hc; rw [lex_wrong h hs ha ht]
   | some t => rw [ht] at hc; exact absurd rfl hc
theorem tok_none {i e : Nat} {c k : Int} (h : DK s i e c = (none, k)) : ¬ k = 0 := by
 unfold DK at h
 repeat' split at h
 all_goals (first | (simp only [Prod.mk.injEq] at h; omega) | (simp at h; done) | (have := congrArg Prod.snd h; simp at this; omega))
theorem lexw_ok (h : j < s.size) (hs : B3 s j = j) (ha : B0 s[j].toNat = true) (hc : (BT s j (s[j].toNat : Int)).2.2 = 0) : lexR s j = Fl (BT s j (s[j].toNat : Int)).1 (lexR s (Bp s j)) ∧ (BT s j (s[j].toNat : Int)).2.1 = ((Bp s j : Nat) : Int) := by
 unfold BT at *
 cases ht : DK s j (Bp s j) (s[j].toNat : Int) with
 | mk o c =>
   cases o with
   | none => rw [ht] at hc; exact absurd hc (tok_none ht)
   | some t => exact ⟨lex_word h hs ha ht, rfl⟩
theorem Fa {out : List Tokent} {r : IU} {c p : Int} (h : Fb out (lexR s j) = r) (h2 : lexR s j = ([], c, p)) (hc : ¬ c = 0) : r = ([], c, p) := by
 rw [← h, h2]; simp [Fb, hc]
theorem EU {out : List Tokent} {r : IU} {t : Tokent} {k : Nat} (h : Fb out (lexR s j) = r) (h2 : lexR s j = Fl t (lexR s k)) : Fb (out ++ [t]) (lexR s k) = r := by
 rw [← comb_cons, ← h2]; exact h
theorem Ed {out : List Tokent} {r : IU} {k : Nat} (h : Fb out (lexR s j) = r) (hk : B3 s j = B3 s k) : Fb out (lexR s k) = r := by
 rw [← lex_skip hk]; exact h
theorem comb_end {out : List Tokent} {r : IU} (h : Fb out (lexR s j) = r) (h2 : ¬ j < s.size) : r = (out, 0, 0) := by
 rw [← h, lex_end h2]; simp [Fb]
theorem consL_wf {t : Tokent} {r : IU} (h : ¬ (Fl t r).2.1 = 0) : (Fl t r).1 = [] := by
 unfold Fl at *
 by_cases q : r.2.1 = 0
 · rw [if_pos q] at h; exact absurd q h
 · rw [if_neg q]
theorem lexR_wf {i : Nat} (h : ¬ (lexR s i).2.1 = 0) : (lexR s i).1 = [] := by
 rw [lexR] at *
 split
 · rename_i h1
   rw [dif_pos h1] at h
   split
   · rename_i ha
     rw [dif_pos ha] at h
     split
     · rename_i t c ht
       simp only [ht] at h
       exact consL_wf h
     · rfl
   · rename_i ha
     rw [dif_neg ha] at h
     split
     · rfl
     · rename_i hy
       rw [dif_neg hy] at h
       exact consL_wf h
 · rfl
theorem comb_start : Fb [] (lexR s j) = lexR s j := by
 unfold Fb
 by_cases h : (lexR s j).2.1 = 0
 · rw [if_pos h]; rfl
 · rw [if_neg h, ← lexR_wf h]
theorem lexAll_big (h : 6000 < (s.size : Int)) : AF s = ([], 1, 0) := by unfold AF; rw [if_pos (by omega)]
theorem Dz (h : ¬ 6000 < (s.size : Int)) : AF s = lexR s 0 := by unfold AF; rw [if_neg (by omega)]
theorem Hs {k : Nat} {t : Tokent} (h : j < s.size) (hs : B3 s j = j) (ha : B0 s[j].toNat = true) (he : k = Bp s j) (hc : BT s j (s[j].toNat : Int) = (t, (k : Int), 0)) : lexR s j = Fl t (lexR s k) := by
 have := (lexw_ok h hs ha (by rw [hc])).1
 rw [hc, ← he] at this; exact this
theorem lexS_bad {c : Int} (h : j < s.size) (hs : B3 s j = j) (ha : B0 s[j].toNat = true) (hc : BT s j (s[j].toNat : Int) = (⟨0, 0, ⟨#[]⟩, 0⟩, 0, c)) (h0 : ¬ c = 0) : lexR s j = ([], c, (j : Int)) := by
 have := lexw_bad h hs ha (by rw [hc]; exact h0)
 rw [hc] at this; exact this
end
end Go.Proofs.YtkemjhlbokldhaaGreat
