/- The words of code, plainly. -/
import Derived.Test.YteeljnlepbnhkaaDoorEX
import Derived.Test.YteeljnlepbnhkaaDoorEQ
import Derived.Test.YteeljnlepbnhkaaDoorQA
import Derived.Test.YteeljnlepbnhkaaDoorFT
import Derived.Lib.FieldsP
set_option linter.unusedVariables false
set_option linter.unusedSimpArgs false
namespace Go.Proofs.YteeljnlepbnhkaaDoor
open Go.RowKit Fw
namespace Cw
open Qa Go.Lib Ec
/-- words, cut at blanks; cur: the word that is open -/
def wl (cur : List UInt8) : List UInt8 → List (List UInt8)
  | [] => if cur = [] then [] else [cur]
  | b :: r => if b = 32 then (if cur = [] then wl [] r else cur :: wl [] r) else wl (cur ++ [b]) r
/-- lines -/
def ll (cur : List UInt8) : List UInt8 → List (List UInt8)
  | [] => if cur = [] then [] else [cur]
  | b :: r => if b = 10 then cur :: ll [] r else ll (cur ++ [b]) r
def no (x : UInt8) (l : List UInt8) : Prop := ∀ b ∈ l, b ≠ x
theorem wl_free : ∀ {l1 cur l2 : List UInt8}, no 32 l1 → wl cur (l1 ++ l2) = wl (cur ++ l1) l2
  | [], cur, l2, _ => by simp
  | b :: t, cur, l2, h => by
    have hb : b ≠ 32 := h b (by simp)
    have := wl_free (l1 := t) (cur := cur ++ [b]) (l2 := l2) (fun x hx => h x (by simp [hx]))
    simp only [List.cons_append, wl, if_neg hb, this, List.append_assoc, List.nil_append]
theorem ll_free : ∀ {l1 cur l2 : List UInt8}, no 10 l1 → ll cur (l1 ++ l2) = ll (cur ++ l1) l2
  | [], cur, l2, _ => by simp
  | b :: t, cur, l2, h => by
    have hb : b ≠ 10 := h b (by simp)
    have := ll_free (l1 := t) (cur := cur ++ [b]) (l2 := l2) (fun x hx => h x (by simp [hx]))
    simp only [List.cons_append, ll, if_neg hb, this, List.append_assoc, List.nil_append]
theorem ll_cut {l1 l2 : List UInt8} (h : no 10 l1) : ll [] (l1 ++ 10 :: l2) = l1 :: ll [] l2 := by
  rw [ll_free h]; simp [ll]
theorem ll_last {l : List UInt8} (h : no 10 l) (hne : l ≠ []) : ll [] l = [l] := by
  have := ll_free (l1 := l) (cur := []) (l2 := []) h
  rw [List.append_nil] at this
  rw [this]; simp [ll, hne]
/-! FieldsFunc at the blank. -/
def blank (r : Nat) : Bool := decide (r = 32)
theorem dec_small {n b0 b1 b2 b3 : Nat} (h : b0 < 128) : decodeN n b0 b1 b2 b3 = (b0, 1) := by unfold decodeN; rw [if_pos h]
theorem dec_big {n b0 b1 b2 b3 : Nat} (h : ¬ b0 < 128) (hn : 1 ≤ n) : (decodeN n b0 b1 b2 b3).1 ≠ 32 ∧ 1 ≤ (decodeN n b0 b1 b2 b3).2 ∧ (decodeN n b0 b1 b2 b3).2 ≤ n ∧ (1 < (decodeN n b0 b1 b2 b3).2 → 128 ≤ b1) ∧ (2 < (decodeN n b0 b1 b2 b3).2 → 128 ≤ b2) ∧ (3 < (decodeN n b0 b1 b2 b3).2 → 128 ≤ b3) ∧ (decodeN n b0 b1 b2 b3).2 ≤ 4 := by
  unfold decodeN
  rw [if_neg h]
  repeat' split
  all_goals (refine ⟨?_, ?_, ?_, ?_, ?_, ?_, ?_⟩ <;> simp only <;> omega)
theorem get_drop {s : ByteArray} {pos j : Nat} (h : pos + j < s.size) : (s.data.toList.drop pos)[j]? = some (s.get! (pos + j)) := by
  rw [List.getElem?_drop]
  have h1 : pos + j < s.data.size := h
  rw [List.getElem?_eq_getElem (by simpa using h1)]
  simp only [Option.some.injEq]
  show _ = s.data[pos + j]!
  rw [getElem!_pos s.data (pos + j) h1]
  simp
/-- the bytes of one rune at pos are blanks only where the rune is one -/
theorem rune_bytes {s : ByteArray} {pos : Nat} (h : pos < s.size) : 1 ≤ (Utf8.decode s pos).2 ∧ pos + (Utf8.decode s pos).2 ≤ s.size ∧
    ((Utf8.decode s pos).1 = 32 → (s.data.toList.drop pos).take (Utf8.decode s pos).2 = [32]) ∧ ((Utf8.decode s pos).1 ≠ 32 → no 32 ((s.data.toList.drop pos).take (Utf8.decode s pos).2)) := by
  rw [decode_at]
  by_cases hb : (s.get! pos).toNat < 128
  · rw [dec_small hb]
    have hg := get_drop (s := s) (pos := pos) (j := 0) h
    rw [Nat.add_zero] at hg
    have ht : (s.data.toList.drop pos).take 1 = [s.get! pos] := by
      rw [List.take_one]
      rw [List.head?_eq_getElem?, hg]; rfl
    refine ⟨Nat.le_refl _, h, fun h32 => ?_, fun h32 b hb2 => ?_⟩
    · rw [ht]
      have : s.get! pos = 32 := UInt8.toNat_inj.1 (by simpa using h32)
      rw [this]
    · simp only [ht, List.mem_singleton] at hb2
      subst hb2
      intro e
      apply h32
      show (s.get! pos).toNat = 32
      rw [e]; rfl
  · obtain ⟨h1, h2, h3, h4, h5, h6, h7⟩ := dec_big (n := s.size - pos) (b1 := (s.get! (pos + 1)).toNat) (b2 := (s.get! (pos + 2)).toNat) (b3 := (s.get! (pos + 3)).toNat) hb (by omega)
    refine ⟨h2, by omega, fun h => absurd h h1, fun _ b hb2 e => ?_⟩
    subst e
    obtain ⟨j, he⟩ := List.mem_iff_getElem?.1 hb2
    have hj := (List.getElem?_eq_some_iff.1 he).1
    rw [List.length_take] at hj
    rw [List.getElem?_take, if_pos (by omega), get_drop (by omega)] at he
    simp only [Option.some.injEq] at he
    have h32 : (s.get! (pos + j)).toNat = 32 := by rw [he]; rfl
    have hc : j = 0 ∨ j = 1 ∨ j = 2 ∨ j = 3 := by omega
    rcases hc with rfl | rfl | rfl | rfl
    · rw [Nat.add_zero] at h32; omega
    · have := h4 (by omega); omega
    · have := h5 (by omega); omega
    · have := h6 (by omega); omega
theorem spans_wl (s : ByteArray) : ∀ (f pos : Nat) (st : Option Nat) (acc : List (Nat × Nat)), s.size ≤ pos + f → pos ≤ s.size → (∀ a, st = some a → a < pos) →
    (closeSpans s (spansFromP blank s f pos st acc)).map (fun p => pieceU s.data.toList p.1 p.2) = acc.map (fun p => pieceU s.data.toList p.1 p.2) ++ wl (openPiece s.data.toList st pos) (s.data.toList.drop pos) := by
  have hend : ∀ (pos : Nat) (st : Option Nat) (acc : List (Nat × Nat)), pos = s.size → (∀ a, st = some a → a < pos) → (closeSpans s (acc, st)).map (fun p => pieceU s.data.toList p.1 p.2) = acc.map (fun p => pieceU s.data.toList p.1 p.2) ++ wl (openPiece s.data.toList st pos) (s.data.toList.drop pos) := fun pos st acc hp hst => by
    subst hp
    have hd : s.data.toList.drop s.size = [] := List.drop_eq_nil_of_le (by rw [← size_eq]; exact Nat.le_refl _)
    rw [hd]
    cases st with
    | none => simp [closeSpans, openPiece, wl]
    | some a =>
      have := pieceU_ne s.data.toList a s.size (hst a rfl) (by rw [← size_eq]; exact Nat.le_refl _)
      simp [closeSpans, openPiece, wl, this]
  intro f
  induction f with
  | zero => intro pos st acc h hp hst; exact hend pos st acc (by omega) hst
  | succ f ih =>
    intro pos st acc h hp hst
    by_cases hlt : pos < s.size
    · obtain ⟨k1, k2, k3, k4⟩ := rune_bytes hlt
      have hsplit : s.data.toList.drop pos = (s.data.toList.drop pos).take (Utf8.decode s pos).2 ++ s.data.toList.drop (pos + (Utf8.decode s pos).2) := by
        conv => lhs; rw [← List.take_append_drop (Utf8.decode s pos).2 (s.data.toList.drop pos)]
        rw [List.drop_drop]
      simp only [spansFromP, if_pos hlt]
      by_cases h32 : (Utf8.decode s pos).1 = 32
      · have hb : blank (Utf8.decode s pos).1 = true := by unfold blank; rw [h32]; rfl
        simp only [hb, if_true]
        rw [hsplit, k3 h32]
        cases st with
        | none =>
          have q := ih (pos + (Utf8.decode s pos).2) none acc (by omega) k2 (fun a h => by cases h)
          rw [q]; simp [openPiece, wl]
        | some a =>
          have hpn := pieceU_ne s.data.toList a pos (hst a rfl) (by rw [← size_eq]; omega)
          have q := ih (pos + (Utf8.decode s pos).2) none (acc ++ [(a, pos)]) (by omega) k2 (fun a h => by cases h)
          rw [q]; simp [openPiece, wl, hpn]
      · have hb : blank (Utf8.decode s pos).1 = false := by unfold blank; exact decide_eq_false h32
        simp only [hb, Bool.false_eq_true, if_false]
        rw [hsplit, wl_free (k4 h32)]
        cases st with
        | none =>
          have q := ih (pos + (Utf8.decode s pos).2) (some pos) acc (by omega) k2 (fun a h => by cases h; omega)
          have e : ([] : List UInt8) ++ (s.data.toList.drop pos).take (Utf8.decode s pos).2 = pieceU s.data.toList pos (pos + (Utf8.decode s pos).2) := by
            unfold pieceU
            rw [List.nil_append, Nat.add_sub_cancel_left]
          rw [q]; simp only [openPiece]; rw [e]
        | some a =>
          have q := ih (pos + (Utf8.decode s pos).2) (some a) acc (by omega) k2 (fun b h => by cases h; have := hst a rfl; omega)
          rw [q]; simp only [openPiece]; rw [pieceU_grow _ _ _ _ (Nat.le_of_lt (hst a rfl))]
    · rw [spansFromP_end blank s _ _ _ _ hlt]; exact hend pos st acc (by omega) hst
theorem fields_wl (l : List UInt8) : goFieldsP blank (bS l) = (wl [] l).map bS := by
  have h := spans_wl (bS l) (bS l).size 0 none [] (by omega) (Nat.zero_le _) (fun a h => by cases h)
  have h' : (spansOfP blank (bS l)).map (fun p => pieceU l p.1 p.2) = wl [] l := by
    unfold spansOfP
    have e : (bS l).data.toList = l := rfl
    rw [e] at h
    rw [h]; simp [openPiece]
  rw [← h', List.map_map]
  unfold goFieldsP
  refine List.map_congr_left fun p _ => ?_
  rw [bS_extract]
  simp only [Function.comp, pieceU]
  rw [List.drop_take]
end Cw
end Go.Proofs.YteeljnlepbnhkaaDoor
