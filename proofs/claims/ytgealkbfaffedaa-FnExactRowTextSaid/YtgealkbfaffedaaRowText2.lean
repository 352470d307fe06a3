/- RowText of the program. -/
import Derived.Test.YtgealkbfaffedaaRowText
import Derived.Test.YtgealkbfaffedaaShelf
import Derived.Maps.AppendAt
namespace Go.Proofs.Ytgealkbfaffedaa
open Go.RowKit
set_option linter.unusedVariables false
set_option maxRecDepth 100000

theorem Kept.grown {w W W' : World} {L : List (Addr × Value)} {row : Option Nat} {B : Nat} (K : Kept w L W) (hg : W.grownBy W' row) (hr : ∀ q, row = some q → B ≤ q) (hw : w.heap.size ≤ B) (hL : ∀ p ∈ L, p.1.block < B) : Kept w L W' :=
  ⟨K.1.grown hg K.1.size (fun q hq => Nat.le_trans hw (hr q hq)), fun p hp => hg.cell (K.2 p hp) (fun e => by have := hr _ e.symm; have := hL p hp; omega)⟩

theorem infoStr : (Try.prog.info? 9).map (fun i => (i.zero, i.size, i.bytes)) = some (some (.string ByteArray.empty), 1, 16) := by kernel_rfl

/-- The texts of the first k values. -/
def parts (xs : List Val) (k : Nat) : List ByteArray := (xs.take k).map valText
theorem parts_len {xs : List Val} {k : Nat} (hk : k ≤ xs.length) : (parts xs k).length = k := by simp [parts]; omega
theorem parts_succ {xs : List Val} {k : Nat} (hk : k < xs.length) : parts xs (k + 1) = parts xs k ++ [valText xs[k]] := by
  rw [parts, parts, List.take_add_one, List.getElem?_eq_getElem hk, List.map_append]; rfl

theorem join_snoc (l : List (List UInt8)) (x sep : List UInt8) : Lib.join (l ++ [x]) sep = if l = [] then x else Lib.join l sep ++ sep ++ x := by
  cases l with
  | nil => simp [Lib.join_one]
  | cons y r =>
    rw [List.cons_append, Lib.join_cons, Lib.join_cons, if_neg (by simp)]
    simp [Lib.joinTail, List.append_assoc]
theorem text_ext {a b : ByteArray} (h : a.data.toList = b.data.toList) : a = b := by
  obtain ⟨⟨a⟩⟩ := a
  obtain ⟨⟨b⟩⟩ := b
  simp at h; rw [h]
def joined (xs : List Val) (k : Nat) : ByteArray := ⟨(Lib.join ((parts xs k).map (·.data.toList)) [44]).toArray⟩
theorem rtAcc_list (xs : List Val) : ∀ k, k ≤ xs.length → (rtAcc xs k).data.toList = 40 :: Lib.join ((parts xs k).map (·.data.toList)) [44]
  | 0, _ => by simp [rtAcc, parts, Lib.join_nil]
  | k + 1, h => by
    have ih := rtAcc_list xs k (by omega)
    have hl := parts_len (xs := xs) (k := k) (by omega)
    rw [parts_succ (by omega), List.map_append, List.map_cons, List.map_nil, join_snoc]
    by_cases h0 : 0 < k
    · rw [rtAcc_pos (by omega) h0, if_neg (by intro e; have := congrArg List.length e; simp only [List.length_map, List.length_nil, hl] at this; omega)]
      simp [ByteArray.data_append, ih, List.append_assoc]
    · have hp : parts xs k = [] := List.eq_nil_of_length_eq_zero (by omega)
      rw [rtAcc_zero (by omega) (by omega), hp, List.map_nil, if_pos rfl]
      have : k = 0 := by omega
      subst this
      simp [ByteArray.data_append, rtAcc]
theorem rtAcc_joined (xs : List Val) : rtAcc xs xs.length = ⟨#[40]⟩ ++ joined xs xs.length := by
  apply text_ext
  rw [rtAcc_list xs _ (Nat.le_refl _)]
  simp [ByteArray.data_append, joined]
theorem joined_size (xs : List Val) : (Lib.join ((parts xs xs.length).map (·.data.toList)) [44]).length ≤ 16 * xs.length ∧ (joined xs xs.length).size ≤ 16 * xs.length := by
  have h1 := rtAcc_size xs _ (Nat.le_refl _)
  have h2 := congrArg List.length (rtAcc_list xs _ (Nat.le_refl _))
  have h3 : (rtAcc xs xs.length).data.toList.length = (rtAcc xs xs.length).size := Array.length_toList
  have h4 : (joined xs xs.length).size = (Lib.join ((parts xs xs.length).map (·.data.toList)) [44]).length := List.size_toArray
  simp only [List.length_cons] at h2
  omega

/-- The joining of what the loop has laid. -/
theorem join_own (W : World) (base : Nat) (v : Value) (xs : List Val) (hown : W.ownsRow base 9 1 v (parts xs xs.length).length ((parts xs xs.length).map Value.string)) (hl : xs.length ≤ 6) :
    Calls Try.prog 69 #[v, .string ⟨#[44]⟩] W fun e w' => e = .returned (.string (joined xs xs.length)) ∧ Below W.heap.size W w' := by
  have hpl := parts_len (xs := xs) (Nat.le_refl _)
  have hjs := (joined_size xs).1
  rcases hown.2 with ⟨rfl, h0⟩ | ⟨g, cp, cur, rfl, hb, hh, hle, _⟩
  · have hx : xs = [] := List.eq_nil_of_length_eq_zero (by omega)
    subst hx
    exact (Try.strings_Join_none _ _ _ _).mono fun e w' ⟨he, hw⟩ => ⟨he, by rw [hw]; exact Below.refl _ _⟩
  · have hj2 : (Lib.join ((parts xs xs.length).map (·.data.toList)) [44]).length ≤ 140737488355328 := by omega
    refine (Try.strings_Join g 0 cp (parts xs xs.length) _ _ ?_ ?_ (by omega) hle hj2).mono fun e w' h => h
    · intro j x hj
      have := hown.cells (g := g) rfl j (.string x) (by simp [hj])
      cases j with
      | zero => simpa [Addr.add] using this
      | succ j => simpa [Addr.add] using this
    · exact (hown.lt g rfl).2

set_option maxHeartbeats 1600000 in
theorem rowTextI_any (a : Option Addr) (n cap : Nat) (xs : List Val) (bs : List Nat) (w : World) (h : SliceRep valE w a n cap xs bs) :
    Calls Try.prog 39 #[.agg #[.slice a n cap]] w fun e w' => e = .returned (.string (rowText xs)) ∧ Below w.heap.size w w' := by
  have hmax := h.max
  obtain rfl := h.1
  obtain ⟨ii, hi, hz0, hz1, hz2⟩ := info_parts infoStr
  have H := (Held.start w).box_ #[.slice a xs.length cap] 42
  have H2 := H.s1
  have K : Kept w [(⟨w.heap.size, 0, none⟩, .slice a xs.length cap)] _ := ((Kept.at_ H.below).cons (H2.2 0))
  have hsz0 : w.heap.size + 1 ≤ (w.alloc (.cells #[.slice a xs.length cap] 42)).heap.size := by simp
  have kk := K.c1.2
  clear H H2
  go_enter Try.func39, Try.ntmps39
  go_wp2_with fail
  generalize (w.alloc (.cells #[.slice a xs.length cap] 42)) = w0 at *
  refine (rowOkI_any _ _ _ xs _ _ (h.up K.1)).mono ?_
  rintro e w1 ⟨rfl, hb⟩
  replace K := K.up hb
  have hsz := Nat.le_trans hsz0 hb.size
  clear kk hb hsz0
  have kk := K.c1.2
  cases ho : rowOk xs
  · have HR := Lib.hid (show rowText xs = ByteArray.empty by simp [rowText, ho])
    go_wp2_with fail
    go_ret
    exact ⟨by rw [HR.out]; rfl, K.1⟩
  · have HR := Lib.hid (show rowText xs = rtAcc xs xs.length ++ ⟨#[41]⟩ by simp [rowText, ho])
    have hl : xs.length ≤ 6 := by simp [rowOk] at ho; exact ho.1
    have kn := (K.alloc (.cells #[] 9)).c1.2
    have hzl : w.heap.size < w1.heap.size := by omega
    go_wp2_with fail
    clear kk kn hzl
    go_loopw [3, 13] (fun v i W => ∃ k : Nat, k ≤ xs.length ∧ i = .int .i64 k ∧ W.ownsRow (w.heap.size + 1) 9 1 v (parts xs k).length ((parts xs k).map Value.string) ∧ w.heap.size + 1 ≤ W.heap.size ∧ Kept w [(⟨w.heap.size, 0, none⟩, .slice a xs.length cap)] W) (fun _ i _ => xs.length - (intOf i).toNat)
    case atStart =>
      exact ⟨0, Nat.zero_le _, rfl, World.ownsRow_made _ #[] 0 hsz (Nat.zero_le _) rfl, by simp; omega, K.alloc _⟩
    case round =>
      clear K
      obtain ⟨k, hk, rfl, hown, hW, K⟩ := hrel
      have hpl := parts_len hk
      by_cases hlt : k < xs.length
      · obtain ⟨g, off, rfl, c0, c1, hs, hn⟩ := (h.up K.1).val hlt
        have i0 : (0 : Int) ≤ (k : Int) := by omega
        have i1 : (k : Int) < (xs.length : Int) := by omega
        have K1 := K.alloc (.cells #[.int .i64 xs[k].n, .string xs[k].s] 27)
        have hown1 := hown.alloc (.cells #[.int .i64 xs[k].n, .string xs[k].s] 27)
        have hW1 : w.heap.size + 1 ≤ (wr.alloc (.cells #[.int .i64 xs[k].n, .string xs[k].s] 27)).heap.size := by simp; omega
        go_wp2_with fail
        refine (valueTextI_any _ _ hs).mono ?_
        rintro e w2 ⟨rfl, hb⟩
        have hg0 : (wr.alloc (.cells #[.int .i64 xs[k].n, .string xs[k].s] 27)).grownBy w2 none := ⟨hb.os, hb.tape, hb.output, hb.size, fun q hq _ => hb.block q hq⟩
        have hown2 := hown1.kept hg0 (by by_cases hq : u3.ownBlock = none; exact .inl hq; exact .inr hq)
        replace K1 := K1.up hb
        have hW2 := Nat.le_trans hW1 hb.size
        clear hb hg0 hown1 hown hW1 hW K c0 c1
        have hpl1 : (parts xs k).length ≤ 6 := by omega
        go_wp2_with (first
          | (at_builtin; refine wpList_append_own _ rfl _ _ 80 rfl (w.heap.size + 1) 9 ii (.string ByteArray.empty) 1 16 Try.underlying80 hi hz0 hz1 hz2 rfl (by decide) _ _ _ rfl (hown2.alloc _) ⟨w2.heap.size, 0, none⟩ 1 1 [.string (valText xs[k])] rfl rfl (cell_one_new _ _ _) (fun x hx => by simp at hx; subst hx; rfl) (by unfold maxLen; omega) (by omega) (by simp; omega) ?_; intro v' w3 hown' hgrow3 hnil3))
        have K3 := (K1.alloc _).grown hgrow3 (fun q hq => (hown2.lt q hq).1) (Nat.le_succ _) (by intro p hp; simp at hp; subst hp; simp)
        have hW3 : w.heap.size + 1 ≤ w3.heap.size := by have := hgrow3.size; simp at this; omega
        have hown3 : w3.ownsRow (w.heap.size + 1) 9 1 v' (parts xs (k + 1)).length ((parts xs (k + 1)).map Value.string) := by
          rw [parts_succ hlt, List.map_append, List.length_append]; exact hown'
        clear hown' hgrow3 hnil3 hown2 hW2 K1
        go_wp2_with fail
        go_roundw
        case rel => exact ⟨k + 1, by omega, by go_num, hown3, hW3, K3⟩
        case measure => simp [intOf]; omega
      · obtain rfl : k = xs.length := by omega
        have HJ := Lib.hid (rtAcc_joined xs)
        have hjs := (joined_size xs).2
        go_wp2_with fail
        refine (join_own _ _ _ xs hown hl).mono ?_
        rintro e w2 ⟨rfl, hb⟩
        replace K := K.up hb
        clear hown hb
        generalize joined xs xs.length = jj at *
        have z1 : ¬ 9223372036854775807 < (⟨#[40]⟩ : ByteArray).size + jj.size := by have : (⟨#[40]⟩ : ByteArray).size = 1 := rfl; omega
        have z2 : ¬ 9223372036854775807 < (⟨#[40]⟩ ++ jj).size + (⟨#[41]⟩ : ByteArray).size := by
          have a1 : (⟨#[40]⟩ : ByteArray).size = 1 := rfl
          have a2 : (⟨#[41]⟩ : ByteArray).size = 1 := rfl
          rw [ByteArray.size_append]; omega
        go_wp2_with fail
        go_ret
        exact ⟨by rw [HR.out, HJ.out]; rfl, K.1⟩
end Go.Proofs.Ytgealkbfaffedaa
