/- Lemmas of the walks, part 3. -/
import Derived.Test.YtfdpigafekohgaaM2
/- Messages read out of bytes, in plain words. -/
namespace Go.Proofs.Ytfdpigafekohgaa
open Go.RowKit
set_option linter.unusedVariables false
set_option linter.unusedSimpArgs false

/-! ### From the front -/
def pairI (r : List Int) : (Int × Int) × List Int := (((takeI r 6).1, (takeI (takeI r 6).2 6).1), (takeI (takeI r 6).2 6).2)
def actI (r : List Int) : Actt × List Int := (⟨(takeI r 1).1, (takeI (takeI r 1).2 1).1, (takeI (takeI (takeI r 1).2 1).2 6).1⟩, (takeI (takeI (takeI r 1).2 1).2 6).2)
def mrA (r : List Int) : Int × List Int := takeI r 4
def mrB (r : List Int) : Int × List Int := takeI (mrA r).2 2
def mrC (r : List Int) (k : Nat) : List (Int × Int) × List Int := iterG pairI k (mrB r).2
def mrD (r : List Int) : Int × List Int := takeI (mrC r 8).2 1
def mrE (r : List Int) (k : Nat) : List Actt × List Int := iterG actI k (mrD r).2
def mrH (r : List Int) (k : Nat) : List Int × List Int := iterG (fun q => takeI q 6) k (takeI r 1).2
def kindOf (b : List Int) : Int := b.getD 1 0
def sesOf (b : List Int) : Int := bign ((b.drop 4).take 4)
def xidOf (b : List Int) : Int := bign ((b.drop 8).take 4)
def lenOf (b : List Int) : Int := bign ((b.drop 2).take 2)
def plainM (b : List Int) : Msgt := ⟨kindOf b, sesOf b, xidOf b, 0, 0, ⟨[], []⟩, [], false, ⟨[]⟩⟩
def msgI (b : List Int) : Msgt :=
  if kindOf b = 2 then ⟨kindOf b, sesOf b, xidOf b, (mrA (b.drop 12)).1, (mrB (b.drop 12)).1, ⟨(mrC (b.drop 12) 8).1.map Prod.fst, (mrC (b.drop 12) 8).1.map Prod.snd⟩, (mrE (b.drop 12) (mrD (b.drop 12)).1.toNat).1, false, ⟨[]⟩⟩
  else if kindOf b = 3 then ⟨kindOf b, sesOf b, xidOf b, (takeI (b.drop 12) 4).1, 0, ⟨[], []⟩, [], false, ⟨[]⟩⟩
  else if kindOf b = 5 then ⟨kindOf b, sesOf b, xidOf b, 0, 0, ⟨[], []⟩, [], decide ((takeI (b.drop 12) 1).1 = 1), ⟨(mrH (b.drop 12) 8).1⟩⟩
  else plainM b
theorem msgI_add {b : List Int} (h : kindOf b = 2) : msgI b = ⟨kindOf b, sesOf b, xidOf b, (mrA (b.drop 12)).1, (mrB (b.drop 12)).1, ⟨(mrC (b.drop 12) 8).1.map Prod.fst, (mrC (b.drop 12) 8).1.map Prod.snd⟩, (mrE (b.drop 12) (mrD (b.drop 12)).1.toNat).1, false, ⟨[]⟩⟩ := if_pos h
theorem msgI_flip {b : List Int} (h : kindOf b = 3) : msgI b = ⟨kindOf b, sesOf b, xidOf b, (takeI (b.drop 12) 4).1, 0, ⟨[], []⟩, [], false, ⟨[]⟩⟩ := by unfold msgI; rw [if_neg (by omega), if_pos h]
theorem msgI_note {b : List Int} (h : kindOf b = 5) : msgI b = ⟨kindOf b, sesOf b, xidOf b, 0, 0, ⟨[], []⟩, [], decide ((takeI (b.drop 12) 1).1 = 1), ⟨(mrH (b.drop 12) 8).1⟩⟩ := by unfold msgI; rw [if_neg (by omega), if_neg (by omega), if_pos h]
theorem msgI_none {b : List Int} (h2 : ¬ kindOf b = 2) (h3 : ¬ kindOf b = 3) (h5 : ¬ kindOf b = 5) : msgI b = plainM b := by unfold msgI; rw [if_neg h2, if_neg h3, if_neg h5]
theorem pairs_v {s : List Int} {k : Nat} : (iterG pairI k s).1.map Prod.fst ++ [(takeI (iterG pairI k s).2 6).1] = (iterG pairI (k + 1) s).1.map Prod.fst := by simp [iterG, pairI]
theorem pairs_m {s : List Int} {k : Nat} : (iterG pairI k s).1.map Prod.snd ++ [(takeI (takeI (iterG pairI k s).2 6).2 6).1] = (iterG pairI (k + 1) s).1.map Prod.snd := by simp [iterG, pairI]

/-! ### From places -/
def actS (b : List Int) (i : Nat) : Actt := ⟨getS b (115 + 8 * (i : Int)) 1, getS b (115 + 8 * (i : Int) + 1) 1, getS b (115 + 8 * (i : Int) + 2) 6⟩
def sH (b : List Int) (k : Nat) : List Int := (List.range k).map fun (f : Nat) => getS b (13 + 6 * (f : Int)) 6
def sActs (b : List Int) (k : Nat) : List Actt := (List.range k).map (actS b)
theorem sActs_len {b : List Int} {k : Nat} : (sActs b k).length = k := by simp [sActs]
theorem sH_len {b : List Int} {k : Nat} : (sH b k).length = k := by simp [sH]

/-! ### What was written is read -/
theorem flat_len {α : Type} {g : α → List Int} {s : Nat} (hg : ∀ x, (g x).length = s) : ∀ xs : List α, (xs.flatMap g).length = s * xs.length
  | [] => rfl
  | x :: xs => by rw [List.flatMap_cons, List.length_append, hg, flat_len hg xs, List.length_cons, Nat.mul_succ]; omega
theorem Lies.skip {α : Type} {b r : List Int} {z : Int} {g : α → List Int} {s : Nat} {xs : List α} (hg : ∀ x, (g x).length = s) (h : Lies b z (xs.flatMap g ++ r)) {k : Nat} (hk : k ≤ xs.length) : Lies b (z + (s : Int) * (k : Int)) ((xs.drop k).flatMap g ++ r) := by
  have e : xs.flatMap g ++ r = (xs.take k).flatMap g ++ ((xs.drop k).flatMap g ++ r) := by rw [← List.append_assoc, ← List.flatMap_append, List.take_append_drop]
  have hl : ((xs.take k).flatMap g).length = s * k := by rw [flat_len hg, List.length_take, Nat.min_eq_left hk]
  obtain ⟨h0, h1, h2⟩ := h
  rw [e] at h2
  have h3 := congrArg List.length h2
  rw [List.length_drop, List.length_append, hl] at h3
  have ec : ((s * k : Nat) : Int) = (s : Int) * (k : Int) := by push_cast; rfl
  refine ⟨by omega, by omega, ?_⟩
  rw [show (z + (s : Int) * (k : Int)).toNat = z.toNat + s * k by omega, ← List.drop_drop, h2]
  exact List.drop_left' hl
def pairsOf (m : Matcht) : List (Int × Int) := (List.range 8).map fun f => (m.v.getD f 0, m.m.getD f 0)
def pairBy (p : Int × Int) : List Int := putB p.1 6 ++ putB p.2 6
theorem pairTo_flat (m : Matcht) : pairTo m 8 = (pairsOf m).flatMap pairBy := by
  unfold pairTo pairsOf
  rw [List.flatMap_map]; rfl
theorem eight_list {l : List Int} (h : l.length = 8) : (List.range 8).map (fun f => l.getD f 0) = l := by
  refine List.ext_getElem (by simp [h]) fun i h1 h2 => ?_
  simp [List.getD, h2]
theorem pairsOf_v {m : Matcht} (h : m.v.length = 8) : (pairsOf m).map Prod.fst = m.v := by
  unfold pairsOf; rw [List.map_map]; exact eight_list h
theorem pairsOf_m {m : Matcht} (h : m.m.length = 8) : (pairsOf m).map Prod.snd = m.m := by
  unfold pairsOf; rw [List.map_map]; exact eight_list h
theorem p6 : (256 : Int) ^ 6 = 281474976710656 := rfl
theorem p4 : (256 : Int) ^ 4 = 4294967296 := rfl
theorem p2 : (256 : Int) ^ 2 = 65536 := rfl
theorem pairsOf_in {m : Matcht} (h : matchB m = true) (hm : ∀ x ∈ m.v, x ≤ 9223372036854775807) : ∀ p ∈ pairsOf m, (0 ≤ p.1 ∧ p.1 < 256 ^ 6) ∧ 0 ≤ p.2 ∧ p.2 < 256 ^ 6 := fun p hp => by
  unfold pairsOf at hp
  obtain ⟨f, hf, rfl⟩ := List.mem_map.1 hp
  obtain ⟨h1, h2, h3, h4⟩ := matchB_get h hm (k := f) (by simpa using hf)
  simp only [List.getD, h1, h2, List.getElem?_eq_getElem, Option.getD_some, p6]
  omega
theorem matchB_8 {m : Matcht} (h : matchB m = true) : m.v.length = 8 ∧ m.m.length = 8 := by
  simp only [matchB, Bool.and_eq_true, decide_eq_true_eq] at h
  exact ⟨h.1, eight_8 h.2.1⟩
theorem pairI_read {p : Int × Int} (h : (0 ≤ p.1 ∧ p.1 < 256 ^ 6) ∧ 0 ≤ p.2 ∧ p.2 < 256 ^ 6) (r : List Int) : pairI (pairBy p ++ r) = (p, r) := by
  have e1 := takeI_put (s := 6) (r := putB p.2 6 ++ r) h.1.1 h.1.2
  have e2 := takeI_put (s := 6) (r := r) h.2.1 h.2.2
  rw [show ((6 : Nat) : Int) = 6 from rfl] at e1 e2
  unfold pairI pairBy
  rw [List.append_assoc, e1]
  simp only
  rw [e2]
theorem actI_read {a : Actt} (h : actB a = true) (r : List Int) : actI (actBytes a ++ r) = (a, r) := by
  have hb := actB_in h
  have e1 := takeI_byte (n := a.kind) (r := [a.a] ++ putB a.b 6 ++ r) (by omega) (by omega)
  have e2 := takeI_byte (n := a.a) (r := putB a.b 6 ++ r) (by omega) (by omega)
  have e3 := takeI_put (s := 6) (n := a.b) (r := r) (by omega) (by rw [p6]; omega)
  rw [show ((6 : Nat) : Int) = 6 from rfl] at e3
  have e0 : actBytes a ++ r = [a.kind] ++ ([a.a] ++ putB a.b 6 ++ r) := by simp [actBytes]
  unfold actI
  rw [e0, e1]
  simp only
  rw [List.append_assoc, e2]
  simp only
  rw [e3]
theorem fits_in {l : List Int} (h : eight l = true) : ∀ x ∈ l, 0 ≤ x ∧ x < 256 ^ 6 := fun x hx => by
  obtain ⟨j, hj, rfl⟩ := List.getElem_of_mem hx
  have := fits48 (eight_get h hj)
  rw [p6]; omega
structure Head12 (b : List Int) (m : Msgt) : Prop where
  len : (b.length : Int) = 12 + ((bodyB m).length : Int)
  kind : kindOf b = m.kind
  ses : sesOf b = m.session
  xid : xidOf b = m.xid
  rest : b.drop 12 = bodyB m
  ver : b.getD 0 0 = 1
  long : lenOf b = (b.length : Int)
theorem whole_head {m : Msgt} (h : msgB m = true) : Head12 (wholeB m) m := by
  have hi := (msgB_in h).1
  have hl : ((wholeB m).length : Int) = 12 + ((bodyB m).length : Int) := by
    simp only [wholeB, List.length_append, List.length_cons, List.length_nil, putB_len]; omega
  have hb := bodyB_len h
  have e2 : (wholeB m).drop 2 = putB (12 + ((bodyB m).length : Int)) 2 ++ (putB m.session 4 ++ putB m.xid 4 ++ bodyB m) := by simp [wholeB]
  have e4 : (wholeB m).drop 4 = putB m.session 4 ++ (putB m.xid 4 ++ bodyB m) := by
    rw [show (4 : Nat) = 2 + 2 from rfl, ← List.drop_drop, e2, List.drop_left' putB_len, List.append_assoc]
  have e8 : (wholeB m).drop 8 = putB m.xid 4 ++ bodyB m := by
    rw [show (8 : Nat) = 4 + 4 from rfl, ← List.drop_drop, e4, List.drop_left' putB_len]
  have e12 : (wholeB m).drop 12 = bodyB m := by
    rw [show (12 : Nat) = 8 + 4 from rfl, ← List.drop_drop, e8, List.drop_left' putB_len]
  refine ⟨hl, by simp [kindOf, wholeB], ?_, ?_, e12, by simp [wholeB], ?_⟩
  · unfold sesOf; rw [e4, List.take_left' putB_len]; exact bign_put (by omega) (by rw [p4]; omega)
  · unfold xidOf; rw [e8, List.take_left' putB_len]; exact bign_put (by omega) (by rw [p4]; omega)
  · unfold lenOf; rw [e2, List.take_left' putB_len, hl]; exact bign_put (by omega) (by rw [p2]; omega)
theorem len0 {α : Type} {l : List α} (h : l.length = 0) : l = [] := List.eq_nil_of_length_eq_zero h
theorem msgB_rest {m : Msgt} (h : msgB m = true) : (m.kind = 2 → m.hand = false ∧ m.head.v = []) ∧ (m.kind = 3 → m.prio = 0 ∧ m.mat.v = [] ∧ m.mat.m = [] ∧ m.acts = [] ∧ m.hand = false ∧ m.head.v = []) ∧ (m.kind = 5 → m.epoch = 0 ∧ m.prio = 0 ∧ m.mat.v = [] ∧ m.mat.m = [] ∧ m.acts = [])
    ∧ (m.kind = 1 ∨ m.kind = 4 ∨ m.kind = 6 → m.epoch = 0 ∧ m.prio = 0 ∧ m.mat.v = [] ∧ m.mat.m = [] ∧ m.acts = [] ∧ m.hand = false ∧ m.head.v = []) := by
  unfold msgB at h
  simp only [Bool.and_eq_true] at h
  obtain ⟨_, h⟩ := h
  simp only [noAddB, noNoteB] at h
  refine ⟨fun e => ?_, fun e => ?_, fun e => ?_, fun e => ?_⟩
  · rw [if_neg (by omega), if_pos e] at h
    simp only [Bool.and_eq_true, decide_eq_true_eq, Bool.not_eq_true'] at h
    exact ⟨h.2.1, len0 h.2.2⟩
  · rw [if_neg (by omega), if_neg (by omega), if_pos e] at h
    simp only [Bool.and_eq_true, decide_eq_true_eq, Bool.not_eq_true'] at h
    exact ⟨h.2.1.1, len0 h.2.1.2.1, len0 h.2.1.2.2.1, len0 h.2.1.2.2.2, h.2.2.1, len0 h.2.2.2⟩
  · rw [if_neg (by omega), if_neg (by omega), if_neg (by omega), if_pos e] at h
    simp only [Bool.and_eq_true, decide_eq_true_eq, Bool.not_eq_true'] at h
    exact ⟨h.1, h.2.1.1, len0 h.2.1.2.1, len0 h.2.1.2.2.1, len0 h.2.1.2.2.2⟩
  · rw [if_pos e] at h
    simp only [Bool.and_eq_true, decide_eq_true_eq, Bool.not_eq_true'] at h
    exact ⟨h.1, h.2.1.1, len0 h.2.1.2.1, len0 h.2.1.2.2.1, len0 h.2.1.2.2.2, h.2.2.1, len0 h.2.2.2⟩
theorem handB_read (x : Bool) : decide (handB x = 1) = x := by cases x <;> rfl
theorem msgBytes_yes {m : Msgt} {b : List Int} (h : msgBytes m = (b, true)) : msgB m = true ∧ b = wholeB m := by
  unfold msgBytes at h
  split at h
  · rename_i h1
    cases h; exact ⟨h1, rfl⟩
  · cases h
theorem kinds6 {m : Msgt} (h : msgB m = true) (h2 : ¬ m.kind = 2) (h3 : ¬ m.kind = 3) (h5 : ¬ m.kind = 5) : m.kind = 1 ∨ m.kind = 4 ∨ m.kind = 6 := by
  have := (msgB_in h).1; omega
theorem msgI_read {m : Msgt} {b : List Int} (h : msgBytes m = (b, true)) (hv : ∀ x ∈ m.mat.v, x ≤ 9223372036854775807) : msgI b = m := by
  obtain ⟨hB, rfl⟩ := msgBytes_yes h
  have H := whole_head hB
  obtain ⟨hi, hA, hF, hN⟩ := msgB_in hB
  obtain ⟨r2, r3, r5, r1⟩ := msgB_rest hB
  have hE := msgB_ep hB
  by_cases k2 : m.kind = 2
  · obtain ⟨a1, a2, a3⟩ := hA k2
    have m8 := matchB_8 a2
    have pin := pairsOf_in a2 hv
    rw [msgI_add (by rw [H.kind]; exact k2), H.rest, bodyB_add k2, pairTo_flat]
    have e1 := takeI_put (n := m.epoch) (s := 4) (r := putB m.prio 2 ++ ((pairsOf m.mat).flatMap pairBy ++ ([(m.acts.length : Int)] ++ m.acts.flatMap actBytes))) (by omega) (by rw [p4]; omega)
    have e2 := takeI_put (n := m.prio) (s := 2) (r := (pairsOf m.mat).flatMap pairBy ++ ([(m.acts.length : Int)] ++ m.acts.flatMap actBytes)) (by omega) (by rw [p2]; omega)
    have e3 := iterG_read (f := pairI) (fun q : List Int => q) pairBy (xs := pairsOf m.mat) (r := [(m.acts.length : Int)] ++ m.acts.flatMap actBytes) fun p hp r => pairI_read (pin p hp) r
    have l8 : (pairsOf m.mat).length = 8 := by simp [pairsOf]
    have a12 := actsB_12 a3
    have e4 := takeI_byte (n := (m.acts.length : Int)) (r := m.acts.flatMap actBytes) (by omega) (by omega)
    have e5 := iterG_read (f := actI) (fun q : List Int => q) actBytes (xs := m.acts) (r := []) fun a ha r => by
      obtain ⟨j, hj, rfl⟩ := List.getElem_of_mem ha
      exact actI_read (actsB_get a3 hj) r
    rw [List.append_nil] at e5
    rw [show ((4 : Nat) : Int) = 4 from rfl] at e1
    rw [show ((2 : Nat) : Int) = 2 from rfl] at e2
    rw [l8] at e3
    have ea : putB m.epoch 4 ++ putB m.prio 2 ++ (pairsOf m.mat).flatMap pairBy ++ [(m.acts.length : Int)] ++ m.acts.flatMap actBytes = putB m.epoch 4 ++ (putB m.prio 2 ++ ((pairsOf m.mat).flatMap pairBy ++ ([(m.acts.length : Int)] ++ m.acts.flatMap actBytes))) := by simp only [List.append_assoc]
    unfold mrE mrD mrC mrB mrA
    rw [ea, e1]
    simp only
    rw [e2]
    simp only
    rw [e3]
    simp only
    rw [e4]
    simp only [Int.toNat_natCast]
    rw [e5, pairsOf_v m8.1, pairsOf_m m8.2, H.kind, H.ses, H.xid]
    obtain ⟨q1, q2⟩ := r2 k2
    obtain ⟨kd, ses, xd, ep, pr, ⟨v, mm⟩, ac, hd, ⟨hv8⟩⟩ := m
    simp only at q1 q2 ⊢
    rw [q1, q2]
  · by_cases k3 : m.kind = 3
    · have e1 := takeI_put (n := m.epoch) (s := 4) (r := []) (by have := hE (.inr k3); omega) (by rw [p4]; have := hE (.inr k3); omega)
      rw [List.append_nil, show ((4 : Nat) : Int) = 4 from rfl] at e1
      rw [msgI_flip (by rw [H.kind]; exact k3), H.rest, bodyB_flip k3, e1, H.kind, H.ses, H.xid]
      obtain ⟨q1, q2, q3, q4, q5, q6⟩ := r3 k3
      obtain ⟨kd, ses, xd, ep, pr, ⟨v, mm⟩, ac, hd, ⟨hv8⟩⟩ := m
      simp only at q1 q2 q3 q4 q5 q6 ⊢
      rw [q1, q2, q3, q4, q5, q6]
    · by_cases k5 : m.kind = 5
      · have n5 := hN k5
        have e0 : handB m.hand = 0 ∨ handB m.hand = 1 := by unfold handB; split <;> simp
        have e1 := takeI_byte (n := handB m.hand) (r := headBy m.head.v) (by omega) (by omega)
        have e2 := iterG_read (f := fun q => takeI q 6) (fun q : List Int => q) (fun n => putB n 6) (xs := m.head.v) (r := []) fun x hx r => by
          have := fits_in n5 x hx
          exact takeI_put (s := 6) this.1 this.2
        rw [List.append_nil, eight_8 n5] at e2
        rw [msgI_note (by rw [H.kind]; exact k5), H.rest, bodyB_note k5]
        unfold mrH
        rw [e1]
        simp only
        rw [handB_read]
        unfold headBy
        rw [e2, H.kind, H.ses, H.xid]
        obtain ⟨q1, q2, q3, q4, q5⟩ := r5 k5
        obtain ⟨kd, ses, xd, ep, pr, ⟨v, mm⟩, ac, hd, ⟨hv8⟩⟩ := m
        simp only at q1 q2 q3 q4 q5 ⊢
        rw [q1, q2, q3, q4, q5]
      · rw [msgI_none (by rw [H.kind]; exact k2) (by rw [H.kind]; exact k3) (by rw [H.kind]; exact k5)]
        unfold plainM
        rw [H.kind, H.ses, H.xid]
        obtain ⟨q1, q2, q3, q4, q5, q6, q7⟩ := r1 (kinds6 hB k2 k3 k5)
        obtain ⟨kd, ses, xd, ep, pr, ⟨v, mm⟩, ac, hd, ⟨hv8⟩⟩ := m
        simp only at q1 q2 q3 q4 q5 q6 q7 ⊢
        rw [q1, q2, q3, q4, q5, q6, q7]
/-! ### The answer -/
def zeroM : Msgt := ⟨0, 0, 0, 0, 0, ⟨[], []⟩, [], false, ⟨[]⟩⟩
def msgRead (b : List Int) : Msgt × Int :=
  if b.length < 12 ∨ 300 < b.length then (zeroM, 1) else if ¬ b.getD 0 0 = 1 then (zeroM, 2) else if ¬ lenOf b = (b.length : Int) then (zeroM, 3)
  else if kindOf b < 1 ∨ 6 < kindOf b then (zeroM, 4) else if msgBytes (msgI b) = (b, true) then (msgI b, 0) else (zeroM, 5)
theorem msgRead_1 {b : List Int} (h : b.length < 12 ∨ 300 < b.length) : msgRead b = (zeroM, 1) := if_pos h
theorem msgRead_2 {b : List Int} (h1 : ¬ (b.length < 12 ∨ 300 < b.length)) (h : ¬ b.getD 0 0 = 1) : msgRead b = (zeroM, 2) := by unfold msgRead; rw [if_neg h1, if_pos h]
theorem msgRead_3 {b : List Int} (h1 : ¬ (b.length < 12 ∨ 300 < b.length)) (h2 : b.getD 0 0 = 1) (h : ¬ lenOf b = (b.length : Int)) : msgRead b = (zeroM, 3) := by unfold msgRead; rw [if_neg h1, if_neg (by simpa using h2), if_pos h]
theorem msgRead_4 {b : List Int} (h1 : ¬ (b.length < 12 ∨ 300 < b.length)) (h2 : b.getD 0 0 = 1) (h3 : lenOf b = (b.length : Int)) (h : kindOf b < 1 ∨ 6 < kindOf b) : msgRead b = (zeroM, 4) := by
  unfold msgRead; rw [if_neg h1, if_neg (by simpa using h2), if_neg (by simpa using h3), if_pos h]
theorem takeI_max {xs : List Int} {n : Int} (h : n ≤ 6) : (takeI xs n).1 ≤ 9223372036854775807 := by have := (takeI_in (xs := xs) h).2; omega
theorem msgI_v (b : List Int) : ∀ x ∈ (msgI b).mat.v, x ≤ 9223372036854775807 := fun x hx => by
  by_cases h2 : kindOf b = 2
  · rw [msgI_add h2] at hx
    obtain ⟨p, hp, rfl⟩ := List.mem_map.1 hx
    exact iterG_all (f := pairI) (fun p => p.1 ≤ 9223372036854775807) (fun s => takeI_max (by omega)) p hp
  · by_cases h3 : kindOf b = 3
    · rw [msgI_flip h3] at hx; cases hx
    · by_cases h5 : kindOf b = 5
      · rw [msgI_note h5] at hx; cases hx
      · rw [msgI_none h2 h3 h5] at hx; cases hx
theorem msgBytes_pass {m : Msgt} {b : List Int} (h : msgBytes m = (b, true)) : ¬ (b.length < 12 ∨ 300 < b.length) ∧ b.getD 0 0 = 1 ∧ lenOf b = (b.length : Int) ∧ ¬ (kindOf b < 1 ∨ 6 < kindOf b) := by
  obtain ⟨hB, rfl⟩ := msgBytes_yes h
  have H := whole_head hB
  have hb := bodyB_len hB
  have hi := (msgB_in hB).1
  have := H.len
  have hk := H.kind
  exact ⟨by omega, H.ver, H.long, by omega⟩
theorem msgRead_yes {m : Msgt} {b : List Int} (h : msgBytes m = (b, true)) (hv : ∀ x ∈ m.mat.v, x ≤ 9223372036854775807) : msgRead b = (m, 0) := by
  obtain ⟨p1, p2, p3, p4⟩ := msgBytes_pass h
  have e := msgI_read h hv
  unfold msgRead
  rw [if_neg p1, if_neg (by simpa using p2), if_neg (by simpa using p3), if_neg p4, e, if_pos h]
theorem msgRead_no {b : List Int} (p1 : ¬ (b.length < 12 ∨ 300 < b.length)) (p2 : b.getD 0 0 = 1) (p3 : lenOf b = (b.length : Int)) (p4 : ¬ (kindOf b < 1 ∨ 6 < kindOf b)) (h : ¬ msgBytes (msgI b) = (b, true)) : msgRead b = (zeroM, 5) := by
  unfold msgRead
  rw [if_neg p1, if_neg (by simpa using p2), if_neg (by simpa using p3), if_neg p4, if_neg h]
end Go.Proofs.Ytfdpigafekohgaa

/- Relations (printed by walk.py) -/
namespace Go.Proofs.Ytfdpigafekohgaa
open Go.RowKit
set_option linter.unusedVariables false
set_option linter.unusedSimpArgs false
set_option maxRecDepth 100000


set_option maxHeartbeats 4000000 in
theorem upToI_c (n m : Int) : AC Try.prog 68 [.one (.c (.int .i64 n)), .one (.c (.int .i64 m))] [] (.one (.c (.bool (upToB n m)))) [] := by
  refine AC_body1 Try.func68 rfl rfl Try.ntmps68 rfl Try.results68 ?_
  refine AW_seq ?_
  refine AW_region ?_
  refine AL_p (x_assign rfl rfl) ?_
  refine AL_nil ?_
  refine AW_seq ?_
  refine AW_region ?_
  refine AL_p (x_move rfl rfl) ?_
  refine AL_b (x_geq rfl rfl rfl) (fun b6 h6 => ?_)
  refine AL_p (x_move rfl rfl) ?_
  cases b6
  · try simp only [tdy] at h6
    refine AL_o rfl rfl rfl rfl ?_
    refine AL_o rfl rfl rfl rfl ?_
    refine AL_o rfl rfl rfl rfl ?_
    refine AL_p (x_pickF rfl rfl rfl) ?_
    refine AL_p (x_assign rfl rfl) ?_
    refine AL_nil ?_
    refine AW_ret ?_
    exact ⟨rn [], ⟨⟨⟨_, rfl, vle_bool (by first | exact (decide_eq_true (by omega)).symm | exact (decide_eq_false (by omega)).symm)⟩, trivial⟩, trivial, trivial, rfl⟩⟩
  try simp only [tdy] at h6
  refine AL_g rfl rfl (x_move rfl rfl) ?_
  refine AL_g rfl rfl (x_move rfl rfl) ?_
  refine AL_gb rfl rfl (x_leq rfl rfl rfl) (fun b10 h10 => ?_)
  refine AL_p (x_pickT rfl rfl rfl) ?_
  refine AL_p (x_assign rfl rfl) ?_
  refine AL_nil ?_
  refine AW_ret ?_
  cases b10
  rotate_left
  · try simp only [tdy] at h10
    exact ⟨rn [], ⟨⟨⟨_, rfl, vle_bool (by first | exact (decide_eq_true (by omega)).symm | exact (decide_eq_false (by omega)).symm)⟩, trivial⟩, trivial, trivial, rfl⟩⟩
  try simp only [tdy] at h10
  exact ⟨rn [], ⟨⟨⟨_, rfl, vle_bool (by first | exact (decide_eq_true (by omega)).symm | exact (decide_eq_false (by omega)).symm)⟩, trivial⟩, trivial, trivial, rfl⟩⟩


end Go.Proofs.Ytfdpigafekohgaa
