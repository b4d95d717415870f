/- A ratio's text written and read: the program's and the reference's. -/
import Derived.Test.YtlcgfhliaalccaaDoorFT
import Derived.Test.YtlcgfhliaalccaaDoorQS
import Derived.Test.YtlcgfhliaalccaaDoorQA
import Derived.Test.YtlcgfhliaalccaaDoorRG
import Derived.Lib.AtoiAllCases
import Derived.Lib.AppendIntMem
import Derived.Lib.AtoiErrMem
set_option linter.unusedVariables false
set_option linter.unusedSimpArgs false
namespace Go.Proofs.YtlcgfhliaalccaaDoor
open Go.RowKit Fw
namespace Qb
open Qa Go.Lib Rt Rc
/-- what the library's tables and errors hold -/
def Ev (w : World) : Prop := Lib.TabIs Tryd.prog w "internal/strconv.uint64pow10" .u64 Lib.pow10Tab ∧ (∃ t p, w.cell? ⟨1, 0, none⟩ = some (.iface t p)) ∧ (∃ t p, w.cell? ⟨2, 0, none⟩ = some (.iface t p))
theorem Ev.below {w w' : World} (h : Ev w) (hb : Below w.heap.size w w') : Ev w' := by
  obtain ⟨h1, ⟨t1, p1, h2⟩, t2, p2, h3⟩ := h
  exact ⟨Lib.TabBelow.here ((Lib.tabBelow_of_tabIs h1).on hb), ⟨t1, p1, HP.old (HP.of_below (S := Tr) hb) trivial h2⟩, t2, p2, HP.old (HP.of_below (S := Tr) hb) trivial h3⟩
theorem itoa_any (n : Int) (w : World) (h : -9223372036854775808 ≤ n ∧ n ≤ 9223372036854775807) (hE : Ev w) :
    Calls Tryd.prog 11 #[vI n] w fun e w' => e = .returned (.string (bS (Lib.itoa n))) ∧ Below w.heap.size w w' := by
  refine (Tryd.strconv_Itoa n h.1 h.2 w hE.1).mono ?_
  rintro e w' ⟨rfl, k, os, rfl⟩
  exact ⟨rfl, Lib.below_grow _ _ (Nat.le_refl _) _ _⟩
theorem below_bytes (w : World) (t : ByteArray) (T : TypeId) : Below w.heap.size w (Lib.bytesWorld w T t) := by
  exact Lib.bytesWorld_below w T t
theorem atoi_any (l : List UInt8) (w : World) (hl : l.length ≤ 281474976710656) (hE : Ev w) :
    Calls Tryd.prog 14 #[.string (bS l)] w fun e w' => (∃ v, Lib.atoiAll l = .ok v ∧ e = .returned (.tuple #[vI v, .nilIface]) ∧ Below w.heap.size w w') ∨ (∃ v N, (∀ u, Lib.atoiAll l ≠ .ok u) ∧ e = .returned (.tuple #[vI v, .iface 53 (.pointer (some ⟨N, 0, none⟩))]) ∧ Below w.heap.size w w') := by
  rcases h : Lib.atoiAll l with v | _ | _
  · refine (Tryd.strconv_Atoi_ok (bS l) (by rw [size_bS]; omega) v h w).mono ?_
    rintro e w' ⟨rfl, hw⟩
    refine .inl ⟨v, rfl, rfl, ?_⟩
    rcases hw with rfl | ⟨t, rfl⟩
    · exact Below.refl _ _
    · exact below_bytes _ _ _
  · obtain ⟨t, p, hv⟩ := hE.2.1
    refine (Tryd.strconv_Atoi_syntax (bS l) (by rw [size_bS]; omega) (h.trans rfl) _ w hv (.inr ⟨t, p, rfl⟩)).mono ?_
    rintro e w' ⟨N, rfl, -, -, hb⟩
    exact .inr ⟨_, N, fun u hu => (by cases hu), rfl, hb⟩
  · obtain ⟨t, p, hv⟩ := hE.2.2
    refine (Tryd.strconv_Atoi_range (bS l) (by rw [size_bS]; omega) h _ w hv (.inr ⟨t, p, rfl⟩)).mono ?_
    rintro e w' ⟨N, rfl, -, -, hb⟩
    exact .inr ⟨_, N, fun u hu => (by cases hu), rfl, hb⟩
def tx (a b : Int) : List UInt8 := if val a b = true then txt a b else []
def te (a b : Int) : Int := if val a b = true then 0 else 1
def isT (l : List UInt8) (a b : Int) : Prop := val a b = true ∧ txt a b = l
theorem te0 {a b : Int} (h : te a b = 0) : val a b = true ∧ tx a b = txt a b := by
  unfold te at h; unfold tx
  cases hv : val a b
  · rw [hv] at h; simp at h
  · exact ⟨rfl, by simp⟩
theorem te_ok {a b : Int} (h : val a b = true) : te a b = 0 ∧ tx a b = txt a b := by unfold te tx; rw [h]; exact ⟨rfl, rfl⟩
theorem te_no {a b : Int} (h : val a b = false) : te a b = 1 ∧ tx a b = [] := by unfold te tx; rw [h]; exact ⟨rfl, rfl⟩
theorem val_bd {a b : Int} (h : val a b = true) : 1 ≤ b ∧ b ≤ 1000000000 ∧ -1000000000 ≤ a ∧ a ≤ 1000000000 := by
  unfold val at h; simp at h; omega
def no47 (l : List UInt8) : Prop := ∀ x ∈ l, x ≠ 47
theorem split_idx {l : List UInt8} {k : Nat} (h : Lib.indexByte l 47 = (k : Int)) : k < l.length ∧ l = l.take k ++ 47 :: l.drop (k + 1) ∧ no47 (l.take k) := by
  obtain ⟨h1, h2⟩ := Lib.indexByte_some h
  have hk := (List.getElem?_eq_some_iff.1 h1).1
  refine ⟨hk, ?_, fun x hx he => ?_⟩
  · have h3 := (List.take_append_drop k l).symm
    rw [List.drop_eq_getElem_cons hk, (List.getElem?_eq_some_iff.1 h1).2] at h3
    exact h3
  · obtain ⟨j, hj, rfl⟩ := List.mem_iff_getElem.1 hx
    simp at hj
    exact h2 j (by omega) (by rw [List.getElem?_eq_getElem (by omega)]; rw [← he]; simp)
theorem no_idx {l : List UInt8} (h : ¬ 0 ≤ Lib.indexByte l 47) : no47 l := fun x hx he => by
  have h1 := Lib.indexByte_ge l 47
  obtain ⟨j, hj, rfl⟩ := List.mem_iff_getElem.1 hx
  exact Lib.indexByte_none (show Lib.indexByte l 47 = -1 by omega) j (by rw [List.getElem?_eq_getElem hj, he])
def CutOf (l top bot : List UInt8) : Prop := (no47 l ∧ top = l ∧ bot = [49]) ∨ (l = top ++ 47 :: bot ∧ no47 top)
theorem parse_is {l top bot : List UInt8} {a b : Int} (hc : CutOf l top bot) (h : isT l a b) : Lib.atoiAll top = .ok a ∧ Lib.atoiAll bot = .ok b ∧ te a b = 0 ∧ tx a b = l := by
  obtain ⟨hv, ht⟩ := h
  have hbd := val_bd hv
  have h1 := atoiAll_itoa (n := a) (by omega) (by omega)
  have h2 := atoiAll_itoa (n := b) (by omega) (by omega)
  have e1 : Lib.itoa 1 = [49] := by rw [itoa_pos (by decide)]; exact decDigits_one (by decide)
  have hk : top = Lib.itoa a ∧ bot = Lib.itoa b := by
    unfold txt at ht
    rcases hc with ⟨hn, rfl, rfl⟩ | ⟨rfl, hn⟩
    · by_cases hb : b = 1
      · subst hb; simp at ht; exact ⟨ht.symm, e1.symm⟩
      · simp only [hb, if_false] at ht
        exact absurd rfl (hn 47 (by rw [← ht]; simp))
    · by_cases hb : b = 1
      · subst hb; simp at ht
        exact absurd rfl (itoa_no47 a 47 (by rw [ht]; simp))
      · simp only [hb, if_false] at ht
        obtain ⟨g1, g2⟩ := split47 (itoa_no47 a) hn ht
        exact ⟨g1.symm, g2.symm⟩
  rw [hk.1, hk.2]
  exact ⟨h1, h2, (te_ok hv).1, (te_ok hv).2.trans ht⟩
theorem isT_inj {l : List UInt8} {a b c d : Int} (h1 : isT l a b) (h2 : isT l c d) : a = c ∧ b = d := txt_inj (h1.2.trans h2.2.symm)
/-- what a reading answers -/
def ParseP (l : List UInt8) (w : World) (e : Ending) (w' : World) : Prop := ((∃ a b, isT l a b ∧ e = .returned (.tuple #[.agg #[vI a, vI b], vI 0])) ∨ ((∀ a b, ¬ isT l a b) ∧ e = .returned (.tuple #[.agg #[vI 0, vI 0], vI 4]))) ∧ Below w.heap.size w w'
/-! The reference's reading. -/
theorem dec_bad {l : List UInt8} {b : UInt8} : ∀ (i acc : Nat) {m : Nat}, Lib.decFrom acc (l.take i) = some m → l[i]? = some b → Lib.digitVal b = none → Lib.decFrom acc l = none := by
  induction l with
  | nil => intro i acc m _ h; simp at h
  | cons c r ih =>
    intro i acc m h1 h2 h3
    cases i with
    | zero =>
      simp at h2; subst h2
      simp only [Lib.decFrom, h3]
    | succ i =>
      simp only [List.take_succ_cons, Lib.decFrom] at h1 ⊢
      cases hd : Lib.digitVal c with
      | none => rfl
      | some d =>
        simp only [hd] at h1
        exact ih i _ h1 (by simpa using h2) h3
def Sgn (l t : List UInt8) (sg : Int) : Prop := (sg = -1 ∧ l = 45 :: t) ∨ (sg = 1 ∧ l = t ∧ ∀ r, t ≠ 45 :: r)
def At47 (t : List UInt8) (i c : Nat) : Prop := (c = t.length ∧ ∀ j, j < i → t[j]? ≠ some 47) ∨ (c < t.length ∧ t[c]? = some 47 ∧ ∀ j, j < c → t[j]? ≠ some 47)
theorem At47.step_n {t : List UInt8} {i c : Nat} (h : At47 t i c) (hn : t[i]? ≠ some 47) : At47 t (i + 1) c := by
  rcases h with ⟨h1, h2⟩ | h
  · refine .inl ⟨h1, fun j hj => ?_⟩
    by_cases e : j = i
    · subst e; exact hn
    · exact h2 j (by omega)
  · exact .inr h
theorem At47.step_k {t : List UInt8} {i c : Nat} (h : At47 t i c) (hc : ¬ c = t.length) : At47 t (i + 1) c := by
  rcases h with ⟨h1, h2⟩ | h
  · exact absurd h1 hc
  · exact .inr h
theorem At47.step_y {t : List UInt8} {i c : Nat} (h : At47 t i c) (hc : c = t.length) (hi : t[i]? = some 47) : At47 t (i + 1) i := by
  rcases h with ⟨h1, h2⟩ | ⟨h1, _⟩
  · exact .inr ⟨(List.getElem?_eq_some_iff.1 hi).1, hi, h2⟩
  · omega
theorem At47.cut {t : List UInt8} {c : Nat} (h : At47 t t.length c) : (c = t.length ∧ no47 t) ∨ (c < t.length ∧ t = t.take c ++ 47 :: t.drop (c + 1) ∧ no47 (t.take c)) := by
  have mem : ∀ {k : Nat}, k ≤ t.length → (∀ j, j < k → t[j]? ≠ some 47) → no47 (t.take k) := fun {k} hk h2 x hx he => by
    obtain ⟨j, hj, rfl⟩ := List.mem_iff_getElem.1 hx
    simp at hj
    exact h2 j (by omega) (by rw [List.getElem?_eq_getElem (by omega)]; rw [← he]; simp)
  rcases h with ⟨h1, h2⟩ | ⟨h1, h2, h3⟩
  · have := mem (Nat.le_refl _) h2
    rw [List.take_length] at this
    exact .inl ⟨h1, this⟩
  · refine .inr ⟨h1, ?_, mem (by omega) h3⟩
    have h4 := (List.take_append_drop c t).symm
    rw [List.drop_eq_getElem_cons h1, (List.getElem?_eq_some_iff.1 h2).2] at h4
    exact h4
theorem rparse_is {l t : List UInt8} {sg : Int} {c : Nat} {a b : Int} (hs : Sgn l t sg) (hc : At47 t t.length c) (h : isT l a b) :
    sg * dgt (t.take c) = a ∧ 0 ≤ dgt (t.take c) ∧ (c < t.length → dgt (t.drop (c + 1)) = b) ∧ (¬ c < t.length → b = 1) ∧ te a b = 0 ∧ tx a b = l := by
  obtain ⟨hv, ht⟩ := h
  have hbd := val_bd hv
  have hda := dgt_dec (u := a.natAbs) (by omega)
  have hdb := dgt_dec (u := b.natAbs) (by omega)
  have hib : Lib.itoa b = decDigits b.natAbs := itoa_pos (by omega)
  have nod : ∀ u, no47 (decDigits u) := fun u x hx he => by have := dec_digit u x hx; subst he; revert this; decide
  -- the text without its sign
  have key : ∃ (B : List UInt8), t = decDigits a.natAbs ++ B ∧ B = (if b = 1 then [] else 47 :: decDigits b.natAbs) ∧ sg * (a.natAbs : Int) = a := by
    refine ⟨if b = 1 then [] else 47 :: decDigits b.natAbs, ?_, rfl, ?_⟩
    · unfold txt at ht
      rw [hib] at ht
      rcases Int.lt_or_le a 0 with h0 | h0
      · rw [itoa_ne h0] at ht
        rcases hs with ⟨-, rfl⟩ | ⟨-, rfl, hno⟩
        · simp at ht; exact ht.symm
        · exact absurd ht.symm (by simpa using hno _)
      · rw [itoa_pos h0] at ht
        rcases hs with ⟨-, rfl⟩ | ⟨-, rfl, hno⟩
        · cases hd : decDigits a.natAbs with
          | nil => exact absurd hd (decDigits_ne _)
          | cons x r =>
            rw [hd] at ht
            have := dec_digit a.natAbs x (by rw [hd]; exact List.mem_cons_self)
            simp at ht
            have e := ht.1
            subst e; exfalso; revert this; decide
        · exact ht.symm
    · unfold txt at ht
      rw [hib] at ht
      rcases Int.lt_or_le a 0 with h0 | h0
      · rw [itoa_ne h0] at ht
        rcases hs with ⟨rfl, -⟩ | ⟨-, rfl, hno⟩
        · omega
        · exact absurd ht.symm (by simpa using hno _)
      · rw [itoa_pos h0] at ht
        rcases hs with ⟨-, rfl⟩ | ⟨rfl, -⟩
        · cases hd : decDigits a.natAbs with
          | nil => exact absurd hd (decDigits_ne _)
          | cons x r =>
            rw [hd] at ht
            have := dec_digit a.natAbs x (by rw [hd]; exact List.mem_cons_self)
            simp at ht
            have e := ht.1
            subst e; exfalso; revert this; decide
        · omega
  obtain ⟨B, hB, hBd, hsg⟩ := key
  have hfin : te a b = 0 ∧ tx a b = l := ⟨(te_ok hv).1, (te_ok hv).2.trans ht⟩
  rcases hc.cut with ⟨h1, h2⟩ | ⟨h1, h2, h3⟩
  · have hb1 : b = 1 := by
      apply Classical.byContradiction
      intro hb
      rw [if_neg hb] at hBd
      exact absurd rfl (h2 47 (by rw [hB, hBd]; simp))
    subst hb1
    simp at hBd
    subst hBd
    rw [h1, List.take_length, hB, List.append_nil, hda]
    exact ⟨hsg, by omega, fun h => by simp at h, fun _ => rfl, hfin⟩
  · by_cases hb : b = 1
    · subst hb
      simp at hBd
      subst hBd
      rw [List.append_nil] at hB
      exact absurd rfl (nod a.natAbs 47 (by rw [← hB, h2]; simp))
    · rw [if_neg hb] at hBd
      subst hBd
      rw [hB] at h2
      obtain ⟨g1, g2⟩ := split47 (nod _) (by rw [hB] at h3; exact h3) h2
      have g1' : t.take c = decDigits a.natAbs := by rw [hB]; exact g1.symm
      have g2' : t.drop (c + 1) = decDigits b.natAbs := by rw [hB]; exact g2.symm
      rw [g1', g2', hda, hdb]
      exact ⟨hsg, by omega, fun _ => by omega, fun h => absurd h1 h, hfin⟩
theorem sz3 : (Tryd.prog.info? 3).map (·.size) = some 1 := by kernel_rfl
theorem sz23 : (Tryd.prog.info? 23).map (·.size) = some 2 := by kernel_rfl
set_option maxRecDepth 20000 in
set_option maxHeartbeats 4000000 in
theorem scut_any (l : List UInt8) (w : World) (hl : l.length ≤ 281474976710656) :
    Calls Tryd.prog 24 #[.string (bS l), .string (bS ([47]))] w fun e w' => ((no47 l ∧ e = .returned (.tuple #[.string (bS l), .string (bS []), .bool false])) ∨ (∃ l1 l2, l = l1 ++ 47 :: l2 ∧ no47 l1 ∧ e = .returned (.tuple #[.string (bS l1), .string (bS l2), .bool true]))) ∧ Below w.heap.size w w' := by
  refine calls_of Tryd.func24 rfl (m := 23) rfl [(0, .string (bS l)), (1, .string (bS ([47])))] (Fr_enter [.string (bS l), .string (bS ([47]))] 23 (Nat.le_of_ble_eq_true rfl)) ?_
  have hH1 : HP Tr w w [] := HP.refl w
  refine WC.seq fun K2 hK2 => ?_
  refine WC.region ?_
  refine WL.pure (v := .string (bS [])) 4 rfl (Nat.le_of_ble_eq_true rfl) rfl rfl (by kernel_rfl) ?_
  refine WL.pure (v := .string (bS [])) 5 rfl (Nat.le_of_ble_eq_true rfl) rfl rfl (by kernel_rfl) ?_
  refine WL.pure (v := .bool false) 6 rfl (Nat.le_of_ble_eq_true rfl) rfl rfl (by kernel_rfl) ?_
  refine WL.nil ?_
  refine WQ.then ?_
  refine hK2 _ _ _ ?_
  refine WC.seq fun K3 hK3 => ?_
  refine WC.seq fun K4 hK4 => ?_
  refine WC.region ?_
  refine WL.pure (v := .string (bS l)) 8 rfl (Nat.le_of_ble_eq_true rfl) rfl rfl (by kernel_rfl) ?_
  refine WL.pure (v := .string (bS ([47]))) 9 rfl (Nat.le_of_ble_eq_true rfl) rfl rfl (by kernel_rfl) ?_
  refine WL.call (f := 30) (args := #[.string (bS l), .string (bS ([47]))]) 10 rfl (Nat.le_of_ble_eq_true rfl) rfl rfl (by kernel_rfl) ?_
  refine ((Tryd.stringslite_Index_one (bS l) 47 _).mono fun e w2 h => And.intro h.1 h.2.symm).mono ?_
  rintro e w5 ⟨rfl, rfl⟩
  refine ⟨_, rfl, ?_⟩
  refine WL.pure (v := vI (Lib.indexByte l 47)) 7 rfl (Nat.le_of_ble_eq_true rfl) rfl rfl (by kernel_rfl) ?_
  refine WL.nil ?_
  refine WQ.then ?_
  refine hK4 _ _ _ ?_
  refine WC.seq fun K6 hK6 => ?_
  refine WC.region ?_
  refine WL.pure (v := vI (Lib.indexByte l 47)) 11 rfl (Nat.le_of_ble_eq_true rfl) rfl rfl (by kernel_rfl) ?_
  by_cases hc : (0 : Int) ≤ (Lib.indexByte l 47)
  ·
    refine WL.pure (v := .bool true) 12 rfl (Nat.le_of_ble_eq_true rfl) rfl rfl (x_geq rfl rfl rfl (dT (hc))) ?_
    refine WL.nil ?_
    refine WQ.then ?_
    refine hK6 _ _ _ ?_
    refine WC.yes rfl ?_
    refine WC.seq fun K7 hK7 => ?_
    obtain ⟨k, hk⟩ : ∃ k : Nat, Lib.indexByte l 47 = (k : Int) := ⟨(Lib.indexByte l 47).toNat, by omega⟩
    obtain ⟨hk1, hk2, hk3⟩ := split_idx hk
    refine WC.still (by kernel_rfl) (by kernel_rfl) ?_
    have hH8 : HP Tr w _ [] := HP.drew hH1
    refine WS.val (v := .string (bS l)) 13 rfl (Nat.le_of_ble_eq_true rfl) rfl rfl (by kernel_rfl) ?_
    refine WS.val (v := vI (Lib.indexByte l 47)) 14 rfl (Nat.le_of_ble_eq_true rfl) rfl rfl (by kernel_rfl) ?_
    refine WS.val (v := .string (bS (l.take k))) 15 rfl (Nat.le_of_ble_eq_true rfl) rfl rfl (x_shi (l) (k) rfl rfl rfl Tryd.underlying9 (hk) (by omega)) ?_
    refine WS.val (v := .string (bS l)) 16 rfl (Nat.le_of_ble_eq_true rfl) rfl rfl (by kernel_rfl) ?_
    refine WS.val (v := vI (Lib.indexByte l 47)) 17 rfl (Nat.le_of_ble_eq_true rfl) rfl rfl (by kernel_rfl) ?_
    refine WS.val (v := .string (bS ([47]))) 18 rfl (Nat.le_of_ble_eq_true rfl) rfl rfl (by kernel_rfl) ?_
    refine WS.val (v := vI ((([47]).length : Nat) : Int)) 19 rfl (Nat.le_of_ble_eq_true rfl) rfl rfl (x_slen (([47])) rfl rfl rfl Tryd.underlying9) ?_
    refine WS.val (v := vI ((k + 1 : Nat) : Int)) 20 rfl (Nat.le_of_ble_eq_true rfl) rfl rfl (x_add (Z := ((k + 1 : Nat) : Int)) rfl rfl rfl (by rw [hk]; simp) (by omega) (by omega)) ?_
    refine WS.val (v := .string (bS (l.drop (k + 1)))) 21 rfl (Nat.le_of_ble_eq_true rfl) rfl rfl (x_slo (l) (k + 1) rfl rfl rfl Tryd.underlying9 (by omega) (by omega)) ?_
    refine WS.val (v := .string (bS (l.take k))) 4 rfl (Nat.le_of_ble_eq_true rfl) rfl rfl (by kernel_rfl) ?_
    refine WS.val (v := .string (bS (l.drop (k + 1)))) 5 rfl (Nat.le_of_ble_eq_true rfl) rfl rfl (by kernel_rfl) ?_
    refine WS.val (v := .bool true) 6 rfl (Nat.le_of_ble_eq_true rfl) rfl rfl (by kernel_rfl) ?_
    refine WS.nilQ ?_
    refine WQ.then ?_
    refine hK7 _ _ _ ?_
    refine WC.sub (l' := [(0, .string (bS l)), (1, .string (bS ([47]))), (4, .string (bS (l.take k))), (5, .string (bS (l.drop (k + 1)))), (6, .bool true), (7, vI (Lib.indexByte l 47)), (12, .bool true)]) ⟨rfl, rfl, rfl, rfl, rfl, rfl, rfl, trivial⟩ ?_
    refine WC.ret ?_
    refine WQ.thenRet ?_
    refine WQ.ret3 4 5 6 rfl rfl rfl rfl ?_
    exact ⟨.inr ⟨_, _, hk2, hk3, rfl⟩, HP.below hH8⟩
  ·
    refine WL.pure (v := .bool false) 12 rfl (Nat.le_of_ble_eq_true rfl) rfl rfl (x_geq rfl rfl rfl (dF (hc))) ?_
    refine WL.nil ?_
    refine WQ.then ?_
    refine hK6 _ _ _ ?_
    refine WC.no rfl ?_
    refine WC.skip ?_
    refine WQ.then ?_
    refine hK3 _ _ _ ?_
    refine WC.seq fun K9 hK9 => ?_
    refine WC.region ?_
    refine WL.pure (v := .string (bS l)) 22 rfl (Nat.le_of_ble_eq_true rfl) rfl rfl (by kernel_rfl) ?_
    refine WL.pure (v := .string (bS l)) 4 rfl (Nat.le_of_ble_eq_true rfl) rfl rfl (by kernel_rfl) ?_
    refine WL.pure (v := .string (bS [])) 5 rfl (Nat.le_of_ble_eq_true rfl) rfl rfl (by kernel_rfl) ?_
    refine WL.pure (v := .bool false) 6 rfl (Nat.le_of_ble_eq_true rfl) rfl rfl (by kernel_rfl) ?_
    refine WL.nil ?_
    refine WQ.then ?_
    refine hK9 _ _ _ ?_
    refine WC.sub (l' := [(0, .string (bS l)), (1, .string (bS ([47]))), (4, .string (bS l)), (5, .string (bS [])), (6, .bool false), (7, vI (Lib.indexByte l 47)), (12, .bool false)]) ⟨rfl, rfl, rfl, rfl, rfl, rfl, rfl, trivial⟩ ?_
    refine WC.ret ?_
    refine WQ.ret3 4 5 6 rfl rfl rfl rfl ?_
    exact ⟨.inl ⟨no_idx hc, rfl⟩, HP.below hH1⟩
set_option maxRecDepth 20000 in
set_option maxHeartbeats 4000000 in
theorem cut_any (l : List UInt8) (w : World) (hl : l.length ≤ 281474976710656) :
    Calls Tryd.prog 13 #[.string (bS l), .string (bS ([47]))] w fun e w' => ((no47 l ∧ e = .returned (.tuple #[.string (bS l), .string (bS []), .bool false])) ∨ (∃ l1 l2, l = l1 ++ 47 :: l2 ∧ no47 l1 ∧ e = .returned (.tuple #[.string (bS l1), .string (bS l2), .bool true]))) ∧ Below w.heap.size w w' := by
  refine calls_of Tryd.func13 rfl (m := 13) rfl [(0, .string (bS l)), (1, .string (bS ([47])))] (Fr_enter [.string (bS l), .string (bS ([47]))] 13 (Nat.le_of_ble_eq_true rfl)) ?_
  have hH1 : HP Tr w w [] := HP.refl w
  refine WC.seq fun K2 hK2 => ?_
  refine WC.region ?_
  refine WL.pure (v := .string (bS [])) 4 rfl (Nat.le_of_ble_eq_true rfl) rfl rfl (by kernel_rfl) ?_
  refine WL.pure (v := .string (bS [])) 5 rfl (Nat.le_of_ble_eq_true rfl) rfl rfl (by kernel_rfl) ?_
  refine WL.pure (v := .bool false) 6 rfl (Nat.le_of_ble_eq_true rfl) rfl rfl (by kernel_rfl) ?_
  refine WL.nil ?_
  refine WQ.then ?_
  refine hK2 _ _ _ ?_
  refine WC.seq fun K3 hK3 => ?_
  refine WC.region ?_
  refine WL.pure (v := .string (bS l)) 7 rfl (Nat.le_of_ble_eq_true rfl) rfl rfl (by kernel_rfl) ?_
  refine WL.pure (v := .string (bS ([47]))) 8 rfl (Nat.le_of_ble_eq_true rfl) rfl rfl (by kernel_rfl) ?_
  refine WL.call (f := 24) (args := #[.string (bS l), .string (bS ([47]))]) 9 rfl (Nat.le_of_ble_eq_true rfl) rfl rfl (by kernel_rfl) ?_
  refine (scut_any l _ hl).mono ?_
  rintro e w1 ⟨⟨hno, rfl⟩ | ⟨l1, l2, hl12, hno, rfl⟩, hb⟩
  ·
    refine ⟨_, rfl, ?_⟩
    have hH4 : HP Tr w _ [] := HP.call hH1 hb
    refine WL.pure (v := .string (bS l)) 10 rfl (Nat.le_of_ble_eq_true rfl) rfl rfl (by kernel_rfl) ?_
    refine WL.pure (v := .string (bS ([]))) 11 rfl (Nat.le_of_ble_eq_true rfl) rfl rfl (by kernel_rfl) ?_
    refine WL.pure (v := .bool false) 12 rfl (Nat.le_of_ble_eq_true rfl) rfl rfl (by kernel_rfl) ?_
    refine WL.pure (v := .string (bS l)) 4 rfl (Nat.le_of_ble_eq_true rfl) rfl rfl (by kernel_rfl) ?_
    refine WL.pure (v := .string (bS ([]))) 5 rfl (Nat.le_of_ble_eq_true rfl) rfl rfl (by kernel_rfl) ?_
    refine WL.pure (v := .bool false) 6 rfl (Nat.le_of_ble_eq_true rfl) rfl rfl (by kernel_rfl) ?_
    refine WL.nil ?_
    refine WQ.then ?_
    refine hK3 _ _ _ ?_
    refine WC.sub (l' := [(0, .string (bS l)), (1, .string (bS ([47]))), (4, .string (bS l)), (5, .string (bS ([]))), (6, .bool false)]) ⟨rfl, rfl, rfl, rfl, rfl, trivial⟩ ?_
    refine WC.ret ?_
    refine WQ.ret3 4 5 6 rfl rfl rfl rfl ?_
    exact ⟨.inl ⟨hno, rfl⟩, HP.below hH4⟩
  ·
    refine ⟨_, rfl, ?_⟩
    have hH5 : HP Tr w _ [] := HP.call hH1 hb
    refine WL.pure (v := .string (bS l1)) 10 rfl (Nat.le_of_ble_eq_true rfl) rfl rfl (by kernel_rfl) ?_
    refine WL.pure (v := .string (bS l2)) 11 rfl (Nat.le_of_ble_eq_true rfl) rfl rfl (by kernel_rfl) ?_
    refine WL.pure (v := .bool true) 12 rfl (Nat.le_of_ble_eq_true rfl) rfl rfl (by kernel_rfl) ?_
    refine WL.pure (v := .string (bS l1)) 4 rfl (Nat.le_of_ble_eq_true rfl) rfl rfl (by kernel_rfl) ?_
    refine WL.pure (v := .string (bS l2)) 5 rfl (Nat.le_of_ble_eq_true rfl) rfl rfl (by kernel_rfl) ?_
    refine WL.pure (v := .bool true) 6 rfl (Nat.le_of_ble_eq_true rfl) rfl rfl (by kernel_rfl) ?_
    refine WL.nil ?_
    refine WQ.then ?_
    refine hK3 _ _ _ ?_
    refine WC.sub (l' := [(0, .string (bS l)), (1, .string (bS ([47]))), (4, .string (bS l1)), (5, .string (bS l2)), (6, .bool true)]) ⟨rfl, rfl, rfl, rfl, rfl, trivial⟩ ?_
    refine WC.ret ?_
    refine WQ.ret3 4 5 6 rfl rfl rfl rfl ?_
    exact ⟨.inr ⟨l1, l2, hl12, hno, rfl⟩, HP.below hH5⟩
set_option maxRecDepth 20000 in
set_option maxHeartbeats 4000000 in
theorem digits_any (l : List UInt8) (w : World) :
    Calls Tryd.prog 17 #[.string (bS l)] w fun e w' => e = .returned (vI (dgt l)) ∧ Below w.heap.size w w' := by
  refine calls_of Tryd.func17 rfl (m := 38) rfl [(0, .string (bS l))] (Fr_enter [.string (bS l)] 38 (Nat.le_of_ble_eq_true rfl)) ?_
  have hH1 : HP Tr w w [] := HP.refl w
  refine WC.seq fun K2 hK2 => ?_
  refine WC.region ?_
  refine WL.pure (v := vI 0) 2 rfl (Nat.le_of_ble_eq_true rfl) rfl rfl (by kernel_rfl) ?_
  refine WL.nil ?_
  refine WQ.then ?_
  refine hK2 _ _ _ ?_
  refine WC.seq fun K3 hK3 => ?_
  refine WC.seq fun K4 hK4 => ?_
  refine WC.region ?_
  refine WL.pure (v := .string (bS l)) 5 rfl (Nat.le_of_ble_eq_true rfl) rfl rfl (by kernel_rfl) ?_
  refine WL.pure (v := vI (l.length : Int)) 6 rfl (Nat.le_of_ble_eq_true rfl) rfl rfl (x_slen (l) rfl rfl rfl Tryd.underlying9) ?_
  by_cases h1 : (l.length : Int) < 1
  ·
    refine WL.pure (v := .bool true) 7 rfl (Nat.le_of_ble_eq_true rfl) rfl rfl (x_lss rfl rfl rfl (dT (h1))) ?_
    refine WL.pure (v := .bool true) 8 rfl (Nat.le_of_ble_eq_true rfl) rfl rfl (by kernel_rfl) ?_
    refine WL.pass 9 rfl (Nat.le_of_ble_eq_true rfl) rfl ?_
    refine WL.pass 10 rfl (Nat.le_of_ble_eq_true rfl) rfl ?_
    refine WL.pass 11 rfl (Nat.le_of_ble_eq_true rfl) rfl ?_
    refine WL.pure (v := .bool true) 12 rfl (Nat.le_of_ble_eq_true rfl) rfl rfl (by kernel_rfl) ?_
    refine WL.nil ?_
    refine WQ.then ?_
    refine hK4 _ _ _ ?_
    refine WC.sub (l' := [(0, .string (bS l)), (2, vI 0), (12, .bool true)]) ⟨rfl, rfl, rfl, trivial⟩ ?_
    refine WC.yes rfl ?_
    refine WC.seq fun K5 hK5 => ?_
    refine WC.region ?_
    refine WL.pure (v := vI (-1)) 2 rfl (Nat.le_of_ble_eq_true rfl) rfl rfl (by kernel_rfl) ?_
    refine WL.nil ?_
    refine WQ.then ?_
    refine hK5 _ _ _ ?_
    refine WC.ret ?_
    refine WQ.thenRet ?_
    refine WQ.ret1 2 rfl rfl ?_
    exact ⟨by unfold dgt; rw [if_pos (by omega)], HP.below hH1⟩
  ·
    refine WL.pure (v := .bool false) 7 rfl (Nat.le_of_ble_eq_true rfl) rfl rfl (x_lss rfl rfl rfl (dF (h1))) ?_
    refine WL.pure (v := .bool false) 8 rfl (Nat.le_of_ble_eq_true rfl) rfl rfl (by kernel_rfl) ?_
    refine WL.pure (v := .string (bS l)) 9 rfl (Nat.le_of_ble_eq_true rfl) rfl rfl (by kernel_rfl) ?_
    refine WL.pure (v := vI (l.length : Int)) 10 rfl (Nat.le_of_ble_eq_true rfl) rfl rfl (x_slen (l) rfl rfl rfl Tryd.underlying9) ?_
    by_cases h10 : (10 : Int) < (l.length : Int)
    ·
      refine WL.pure (v := .bool true) 11 rfl (Nat.le_of_ble_eq_true rfl) rfl rfl (x_gtr rfl rfl rfl (dT (h10))) ?_
      refine WL.pure (v := .bool true) 12 rfl (Nat.le_of_ble_eq_true rfl) rfl rfl (by kernel_rfl) ?_
      refine WL.nil ?_
      refine WQ.then ?_
      refine hK4 _ _ _ ?_
      refine WC.sub (l' := [(0, .string (bS l)), (2, vI 0), (12, .bool true)]) ⟨rfl, rfl, rfl, trivial⟩ ?_
      refine WC.yes rfl ?_
      refine WC.seq fun K6 hK6 => ?_
      refine WC.region ?_
      refine WL.pure (v := vI (-1)) 2 rfl (Nat.le_of_ble_eq_true rfl) rfl rfl (by kernel_rfl) ?_
      refine WL.nil ?_
      refine WQ.then ?_
      refine hK6 _ _ _ ?_
      refine WC.ret ?_
      refine WQ.thenRet ?_
      refine WQ.ret1 2 rfl rfl ?_
      exact ⟨by unfold dgt; rw [if_pos (by omega)], HP.below hH1⟩
    ·
      refine WL.pure (v := .bool false) 11 rfl (Nat.le_of_ble_eq_true rfl) rfl rfl (x_gtr rfl rfl rfl (dF (h10))) ?_
      refine WL.pure (v := .bool false) 12 rfl (Nat.le_of_ble_eq_true rfl) rfl rfl (by kernel_rfl) ?_
      refine WL.nil ?_
      refine WQ.then ?_
      refine hK4 _ _ _ ?_
      refine WC.sub (l' := [(0, .string (bS l)), (2, vI 0), (12, .bool false)]) ⟨rfl, rfl, rfl, trivial⟩ ?_
      refine WC.no rfl ?_
      refine WC.skip ?_
      refine WQ.then ?_
      refine hK3 _ _ _ ?_
      refine WC.seq fun K7 hK7 => ?_
      refine WC.region ?_
      refine WL.pure (v := vI 0) 3 rfl (Nat.le_of_ble_eq_true rfl) rfl rfl (by kernel_rfl) ?_
      refine WL.nil ?_
      refine WQ.then ?_
      refine hK7 _ _ _ ?_
      refine WC.seq fun K8 hK8 => ?_
      refine WC.seq fun K9 hK9 => ?_
      refine WC.region ?_
      refine WL.pure (v := vI 0) 4 rfl (Nat.le_of_ble_eq_true rfl) rfl rfl (by kernel_rfl) ?_
      refine WL.nil ?_
      refine WQ.then ?_
      refine hK9 _ _ _ ?_
      refine WC.block ?_
      refine WC.loop (fun kk0 ll0 ww0 => ∃ (i : Nat) (m : Nat), ll0 = [(0, .string (bS l)), (3, vI (m : Int)), (4, vI (i : Int))] ∧ kk0 = l.length - i ∧ (i ≤ l.length) ∧ (Lib.decFrom 0 (l.take i) = some m) ∧ HP Tr w ww0 []) (l.length) [(0, .string (bS l)), (3, vI 0), (4, vI 0)] ⟨rfl, rfl, rfl, trivial⟩ ⟨0, 0, rfl, rfl, Nat.zero_le _, rfl, hH1⟩ ?_
      rintro kk l w11 ⟨i, m, rfl, hkk, hi, hm, hH12⟩ K10 hK10
      refine WC.seq fun K13 hK13 => ?_
      refine WC.seq fun K14 hK14 => ?_
      refine WC.region ?_
      refine WL.pure (v := vI (i : Int)) 13 rfl (Nat.le_of_ble_eq_true rfl) rfl rfl (by kernel_rfl) ?_
      refine WL.pure (v := .string (bS l)) 14 rfl (Nat.le_of_ble_eq_true rfl) rfl rfl (by kernel_rfl) ?_
      refine WL.pure (v := vI (l.length : Int)) 15 rfl (Nat.le_of_ble_eq_true rfl) rfl rfl (x_slen (l) rfl rfl rfl Tryd.underlying9) ?_
      by_cases hlt : (i : Int) < (l.length : Int)
      ·
        refine WL.pure (v := .bool true) 16 rfl (Nat.le_of_ble_eq_true rfl) rfl rfl (x_lss rfl rfl rfl (dT (hlt))) ?_
        refine WL.nil ?_
        refine WQ.then ?_
        refine hK14 _ _ _ ?_
        refine WC.yes rfl ?_
        refine WC.skip ?_
        refine WQ.then ?_
        refine hK13 _ _ _ ?_
        refine WC.seq fun K15 hK15 => ?_
        refine WC.block ?_
        refine WC.seq fun K16 hK16 => ?_
        refine WC.seq fun K17 hK17 => ?_
        have hlt' : i < l.length := by omega
        obtain ⟨b, hb⟩ : ∃ b, l[i]? = some b := ⟨l[i], List.getElem?_eq_getElem hlt'⟩
        have hb1 := b.toNat_lt
        refine WC.region ?_
        refine WL.pure (v := .string (bS l)) 19 rfl (Nat.le_of_ble_eq_true rfl) rfl rfl (by kernel_rfl) ?_
        refine WL.pure (v := vI (i : Int)) 20 rfl (Nat.le_of_ble_eq_true rfl) rfl rfl (by kernel_rfl) ?_
        refine WL.pure (v := .int .u8 (b.toNat : Int)) 21 rfl (Nat.le_of_ble_eq_true rfl) rfl rfl (x_sidx l i b rfl rfl rfl Tryd.underlying9 rfl hb) ?_
        by_cases hlo : (b.toNat : Int) < 48
        ·
          refine WL.pure (v := .bool true) 22 rfl (Nat.le_of_ble_eq_true rfl) rfl rfl (x_lss rfl rfl rfl (dT (hlo))) ?_
          refine WL.pure (v := .bool true) 23 rfl (Nat.le_of_ble_eq_true rfl) rfl rfl (by kernel_rfl) ?_
          refine WL.pass 24 rfl (Nat.le_of_ble_eq_true rfl) rfl ?_
          refine WL.pass 25 rfl (Nat.le_of_ble_eq_true rfl) rfl ?_
          refine WL.pass 26 rfl (Nat.le_of_ble_eq_true rfl) rfl ?_
          refine WL.pass 27 rfl (Nat.le_of_ble_eq_true rfl) rfl ?_
          refine WL.pure (v := .bool true) 28 rfl (Nat.le_of_ble_eq_true rfl) rfl rfl (by kernel_rfl) ?_
          refine WL.nil ?_
          refine WQ.then ?_
          refine hK17 _ _ _ ?_
          refine WC.sub (l' := [(0, .string (bS l)), (3, vI (m : Int)), (4, vI (i : Int)), (16, .bool true), (28, .bool true)]) ⟨rfl, rfl, rfl, rfl, rfl, trivial⟩ ?_
          refine WC.yes rfl ?_
          refine WC.seq fun K18 hK18 => ?_
          refine WC.region ?_
          refine WL.pure (v := vI (-1)) 2 rfl (Nat.le_of_ble_eq_true rfl) rfl rfl (by kernel_rfl) ?_
          refine WL.nil ?_
          refine WQ.then ?_
          refine hK18 _ _ _ ?_
          refine WC.ret ?_
          refine WQ.thenRet ?_
          refine WQ.inRet ?_
          refine WQ.thenRet ?_
          refine WQ.thenRet ?_
          refine WQ.inRet ?_
          refine WQ.thenRet ?_
          refine WQ.ret1 2 rfl rfl ?_
          have hdv : Lib.digitVal b = none := by unfold Lib.digitVal; rw [if_neg (by omega)]
          exact ⟨by unfold dgt; rw [if_neg (by omega), dec_bad i 0 hm hb hdv], HP.below hH12⟩
        ·
          refine WL.pure (v := .bool false) 22 rfl (Nat.le_of_ble_eq_true rfl) rfl rfl (x_lss rfl rfl rfl (dF (hlo))) ?_
          refine WL.pure (v := .bool false) 23 rfl (Nat.le_of_ble_eq_true rfl) rfl rfl (by kernel_rfl) ?_
          refine WL.pure (v := .string (bS l)) 24 rfl (Nat.le_of_ble_eq_true rfl) rfl rfl (by kernel_rfl) ?_
          refine WL.pure (v := vI (i : Int)) 25 rfl (Nat.le_of_ble_eq_true rfl) rfl rfl (by kernel_rfl) ?_
          refine WL.pure (v := .int .u8 (b.toNat : Int)) 26 rfl (Nat.le_of_ble_eq_true rfl) rfl rfl (x_sidx l i b rfl rfl rfl Tryd.underlying9 rfl hb) ?_
          by_cases hhi : (57 : Int) < (b.toNat : Int)
          ·
            refine WL.pure (v := .bool true) 27 rfl (Nat.le_of_ble_eq_true rfl) rfl rfl (x_gtr rfl rfl rfl (dT (hhi))) ?_
            refine WL.pure (v := .bool true) 28 rfl (Nat.le_of_ble_eq_true rfl) rfl rfl (by kernel_rfl) ?_
            refine WL.nil ?_
            refine WQ.then ?_
            refine hK17 _ _ _ ?_
            refine WC.sub (l' := [(0, .string (bS l)), (3, vI (m : Int)), (4, vI (i : Int)), (16, .bool true), (28, .bool true)]) ⟨rfl, rfl, rfl, rfl, rfl, trivial⟩ ?_
            refine WC.yes rfl ?_
            refine WC.seq fun K19 hK19 => ?_
            refine WC.region ?_
            refine WL.pure (v := vI (-1)) 2 rfl (Nat.le_of_ble_eq_true rfl) rfl rfl (by kernel_rfl) ?_
            refine WL.nil ?_
            refine WQ.then ?_
            refine hK19 _ _ _ ?_
            refine WC.ret ?_
            refine WQ.thenRet ?_
            refine WQ.inRet ?_
            refine WQ.thenRet ?_
            refine WQ.thenRet ?_
            refine WQ.inRet ?_
            refine WQ.thenRet ?_
            refine WQ.ret1 2 rfl rfl ?_
            have hdv : Lib.digitVal b = none := by unfold Lib.digitVal; rw [if_neg (by omega)]
            exact ⟨by unfold dgt; rw [if_neg (by omega), dec_bad i 0 hm hb hdv], HP.below hH12⟩
          ·
            refine WL.pure (v := .bool false) 27 rfl (Nat.le_of_ble_eq_true rfl) rfl rfl (x_gtr rfl rfl rfl (dF (hhi))) ?_
            refine WL.pure (v := .bool false) 28 rfl (Nat.le_of_ble_eq_true rfl) rfl rfl (by kernel_rfl) ?_
            refine WL.nil ?_
            refine WQ.then ?_
            refine hK17 _ _ _ ?_
            refine WC.sub (l' := [(0, .string (bS l)), (3, vI (m : Int)), (4, vI (i : Int)), (16, .bool true), (28, .bool false)]) ⟨rfl, rfl, rfl, rfl, rfl, trivial⟩ ?_
            refine WC.no rfl ?_
            refine WC.skip ?_
            refine WQ.then ?_
            refine hK16 _ _ _ ?_
            have hmb : m < 10000000000 := by
              have h1 := Lib.decFrom_lt _ _ _ hm
              have h2 : (10 : Nat) ^ (l.take i).length ≤ 10 ^ 10 := Nat.pow_le_pow_right (by decide) (by simp; omega)
              have h3 : (10 : Nat) ^ 10 = 10000000000 := by decide
              omega
            refine WC.region ?_
            refine WL.pure (v := vI (m : Int)) 29 rfl (Nat.le_of_ble_eq_true rfl) rfl rfl (by kernel_rfl) ?_
            refine WL.pure (v := vI ((10 * m : Nat) : Int)) 30 rfl (Nat.le_of_ble_eq_true rfl) rfl rfl (x_mul (Z := ((10 * m : Nat) : Int)) rfl rfl rfl (by omega) (by omega) (by omega)) ?_
            refine WL.pure (v := .string (bS l)) 31 rfl (Nat.le_of_ble_eq_true rfl) rfl rfl (by kernel_rfl) ?_
            refine WL.pure (v := vI (i : Int)) 32 rfl (Nat.le_of_ble_eq_true rfl) rfl rfl (by kernel_rfl) ?_
            refine WL.pure (v := .int .u8 (b.toNat : Int)) 33 rfl (Nat.le_of_ble_eq_true rfl) rfl rfl (x_sidx l i b rfl rfl rfl Tryd.underlying9 rfl hb) ?_
            refine WL.pure (v := .int .u8 ((b.toNat - 48 : Nat) : Int)) 34 rfl (Nat.le_of_ble_eq_true rfl) rfl rfl (x_sub8 (Z := ((b.toNat - 48 : Nat) : Int)) rfl rfl rfl (by omega) (by omega) (by omega)) ?_
            refine WL.pure (v := vI ((b.toNat - 48 : Nat) : Int)) 35 rfl (Nat.le_of_ble_eq_true rfl) rfl rfl (x_cvi rfl rfl (by kernel_rfl) Tryd.underlying3 (by omega) (by omega)) ?_
            refine WL.pure (v := vI ((m * 10 + (b.toNat - 48) : Nat) : Int)) 36 rfl (Nat.le_of_ble_eq_true rfl) rfl rfl (x_add (Z := ((m * 10 + (b.toNat - 48) : Nat) : Int)) rfl rfl rfl (by omega) (by omega) (by omega)) ?_
            refine WL.pure (v := vI ((m * 10 + (b.toNat - 48) : Nat) : Int)) 3 rfl (Nat.le_of_ble_eq_true rfl) rfl rfl (by kernel_rfl) ?_
            refine WL.nil ?_
            refine WQ.inNormal ?_
            refine WQ.then ?_
            refine hK15 _ _ _ ?_
            refine WC.sub (l' := [(0, .string (bS l)), (3, vI ((m * 10 + (b.toNat - 48) : Nat) : Int)), (4, vI (i : Int)), (16, .bool true), (28, .bool false)]) ⟨rfl, rfl, rfl, rfl, rfl, trivial⟩ ?_
            refine WC.region ?_
            refine WL.pure (v := vI (i : Int)) 17 rfl (Nat.le_of_ble_eq_true rfl) rfl rfl (by kernel_rfl) ?_
            refine WL.pure (v := vI ((i + 1 : Nat) : Int)) 18 rfl (Nat.le_of_ble_eq_true rfl) rfl rfl (x_add (Z := ((i + 1 : Nat) : Int)) rfl rfl rfl (by omega) (by omega) (by omega)) ?_
            refine WL.pure (v := vI ((i + 1 : Nat) : Int)) 4 rfl (Nat.le_of_ble_eq_true rfl) rfl rfl (by kernel_rfl) ?_
            refine WL.nil ?_
            refine WQ.sub (l' := [(0, .string (bS l)), (3, vI ((m * 10 + (b.toNat - 48) : Nat) : Int)), (4, vI ((i + 1 : Nat) : Int))]) ⟨rfl, rfl, rfl, trivial⟩ ?_
            refine WQ.then (hK10 _ _ _ (by omega) ⟨i + 1, m * 10 + (b.toNat - 48), rfl, rfl, by omega, Lib.decFrom_take l i 0 m b (b.toNat - 48) hm hb (by unfold Lib.digitVal; rw [if_pos (by omega)]), hH12⟩)
      ·
        refine WL.pure (v := .bool false) 16 rfl (Nat.le_of_ble_eq_true rfl) rfl rfl (x_lss rfl rfl rfl (dF (hlt))) ?_
        refine WL.nil ?_
        refine WQ.then ?_
        refine hK14 _ _ _ ?_
        refine WC.no rfl ?_
        refine WC.exit ?_
        refine WQ.thenExit ?_
        refine WQ.thenExit ?_
        refine WQ.inExit ?_
        refine WQ.then ?_
        refine hK8 _ _ _ ?_
        refine WC.seq fun K20 hK20 => ?_
        refine WC.region ?_
        refine WL.pure (v := vI (m : Int)) 37 rfl (Nat.le_of_ble_eq_true rfl) rfl rfl (by kernel_rfl) ?_
        refine WL.pure (v := vI (m : Int)) 2 rfl (Nat.le_of_ble_eq_true rfl) rfl rfl (by kernel_rfl) ?_
        refine WL.nil ?_
        refine WQ.then ?_
        refine hK20 _ _ _ ?_
        refine WC.ret ?_
        refine WQ.ret1 2 rfl rfl ?_
        have hm2 : Lib.decFrom 0 l = some m := by rw [show i = l.length by omega, List.take_length] at hm; exact hm
        exact ⟨by unfold dgt; rw [if_neg (by omega), hm2], HP.below hH12⟩
set_option maxRecDepth 20000 in
set_option maxHeartbeats 4000000 in
theorem Text_any (a b : Int) (w : World) (hE : Ev w) :
    Calls Tryd.prog 5 #[.agg #[vI a, vI b]] w fun e w' => e = .returned (.tuple #[.string (bS (tx a b)), vI (te a b)]) ∧ Below w.heap.size w w' := by
  refine calls_of Tryd.func5 rfl (m := 21) rfl [(0, .agg #[vI a, vI b])] (Fr_enter [.agg #[vI a, vI b]] 21 (Nat.le_of_ble_eq_true rfl)) ?_
  have hH1 : HP Tr w w [] := HP.refl w
  refine WC.seq fun K2 hK2 => ?_
  refine WC.region ?_
  refine WL.alloc (c := #[vI a, vI b]) (T := 23) hH1 1 rfl (by decide) rfl rfl (fun b3 => vP b3 0) (by kernel_rfl) (fun b3 w4 hw4 => ?_)
  have hH5 : HP Tr w w4 [.cel b3 #[vI a, vI b] 23] := hw4.2
  have nb3 := hw4.1
  clear hw4
  refine WL.pure (v := .string (bS [])) 2 rfl (Nat.le_of_ble_eq_true rfl) rfl rfl (by kernel_rfl) ?_
  refine WL.pure (v := vI 0) 3 rfl (Nat.le_of_ble_eq_true rfl) rfl rfl (by kernel_rfl) ?_
  refine WL.nil ?_
  refine WQ.then ?_
  refine hK2 _ _ _ ?_
  refine WC.seq fun K6 hK6 => ?_
  refine WC.seq fun K7 hK7 => ?_
  refine WC.region ?_
  refine WL.pure (v := .agg #[vI a, vI b]) 5 rfl (Nat.le_of_ble_eq_true rfl) rfl rfl (x_loadS (cs := [vI a, vI b]) rfl rfl Tryd.underlying23 rfl sz23 (HP.range hH5 0 rfl rfl)) ?_
  refine WL.call (f := 10) (args := #[.agg #[vI a, vI b]]) 6 rfl (Nat.le_of_ble_eq_true rfl) rfl rfl (by kernel_rfl) ?_
  refine (valid_any a b _).mono ?_
  rintro e w8 ⟨rfl, hb9⟩
  refine ⟨_, rfl, ?_⟩
  have hH10 : HP Tr w _ [.cel b3 #[vI a, vI b] 23] := HP.call hH5 hb9
  refine WL.pure (v := .bool (!(val a b))) 7 rfl (Nat.le_of_ble_eq_true rfl) rfl rfl (by kernel_rfl) ?_
  refine WL.nil ?_
  refine WQ.then ?_
  refine hK7 _ _ _ ?_
  rcases Bool.eq_false_or_eq_true (val a b) with hA | hA
  ·
    have hbd := val_bd hA
    have hla := itoa_len (n := a) (by omega) (by omega)
    have hlb := itoa_len (n := b) (by omega) (by omega)
    refine WC.no (congrArg (fun b => some (Value.bool (!b))) hA) ?_
    refine WC.skip ?_
    refine WQ.then ?_
    refine hK6 _ _ _ ?_
    refine WC.seq fun K11 hK11 => ?_
    refine WC.region ?_
    refine WL.pure (v := vP b3 0) 8 rfl (Nat.le_of_ble_eq_true rfl) rfl rfl (by kernel_rfl) ?_
    refine WL.pure (v := vI a) 9 rfl (Nat.le_of_ble_eq_true rfl) rfl rfl (x_load rfl rfl Tryd.underlying3 rfl (HP.cell hH10 0 rfl rfl)) ?_
    refine WL.call (f := 11) (args := #[vI a]) 10 rfl (Nat.le_of_ble_eq_true rfl) rfl rfl (by kernel_rfl) ?_
    refine (itoa_any a _ (by omega) (hE.below (HP.below hH10))).mono ?_
    rintro e w12 ⟨rfl, hb13⟩
    refine ⟨_, rfl, ?_⟩
    have hH14 : HP Tr w _ [.cel b3 #[vI a, vI b] 23] := HP.call hH10 hb13
    refine WL.pure (v := .string (bS (Lib.itoa a))) 4 rfl (Nat.le_of_ble_eq_true rfl) rfl rfl (by kernel_rfl) ?_
    refine WL.nil ?_
    refine WQ.then ?_
    refine hK11 _ _ _ ?_
    refine WC.seq fun K15 hK15 => ?_
    refine WC.seq fun K16 hK16 => ?_
    refine WC.region ?_
    refine WL.pure (v := vP b3 1) 11 rfl (Nat.le_of_ble_eq_true rfl) rfl rfl (by kernel_rfl) ?_
    refine WL.pure (v := vI b) 12 rfl (Nat.le_of_ble_eq_true rfl) rfl rfl (x_load rfl rfl Tryd.underlying3 rfl (HP.cell hH14 0 rfl rfl)) ?_
    by_cases hb1 : b ≠ 1
    ·
      refine WL.pure (v := .bool true) 13 rfl (Nat.le_of_ble_eq_true rfl) rfl rfl (x_neq rfl rfl rfl (dT (hb1))) ?_
      refine WL.nil ?_
      refine WQ.then ?_
      refine hK16 _ _ _ ?_
      refine WC.sub (l' := [(0, .agg #[vI a, vI b]), (1, vP b3 0), (2, .string (bS [])), (3, vI 0), (4, .string (bS (Lib.itoa a))), (7, .bool (!(val a b))), (13, .bool true)]) ⟨rfl, rfl, rfl, rfl, rfl, rfl, rfl, trivial⟩ ?_
      refine WC.yes rfl ?_
      refine WC.region ?_
      refine WL.pure (v := .string (bS (Lib.itoa a))) 14 rfl (Nat.le_of_ble_eq_true rfl) rfl rfl (by kernel_rfl) ?_
      refine WL.pure (v := vP b3 1) 15 rfl (Nat.le_of_ble_eq_true rfl) rfl rfl (by kernel_rfl) ?_
      refine WL.pure (v := vI b) 16 rfl (Nat.le_of_ble_eq_true rfl) rfl rfl (x_load rfl rfl Tryd.underlying3 rfl (HP.cell hH14 0 rfl rfl)) ?_
      refine WL.call (f := 11) (args := #[vI b]) 17 rfl (Nat.le_of_ble_eq_true rfl) rfl rfl (by kernel_rfl) ?_
      refine (itoa_any b _ (by omega) (hE.below (HP.below hH14))).mono ?_
      rintro e w17 ⟨rfl, hb18⟩
      refine ⟨_, rfl, ?_⟩
      have hH19 : HP Tr w _ [.cel b3 #[vI a, vI b] 23] := HP.call hH14 hb18
      refine WL.pure (v := .string (bS (([47]) ++ (Lib.itoa b)))) 18 rfl (Nat.le_of_ble_eq_true rfl) rfl rfl (x_sadd ([47]) ((Lib.itoa b)) rfl rfl rfl (by simp only [List.length_append, List.length_cons, List.length_nil]; omega)) ?_
      refine WL.pure (v := .string (bS ((Lib.itoa a) ++ (([47]) ++ (Lib.itoa b))))) 19 rfl (Nat.le_of_ble_eq_true rfl) rfl rfl (x_sadd ((Lib.itoa a)) ((([47]) ++ (Lib.itoa b))) rfl rfl rfl (by simp only [List.length_append, List.length_cons, List.length_nil]; omega)) ?_
      refine WL.pure (v := .string (bS ((Lib.itoa a) ++ (([47]) ++ (Lib.itoa b))))) 4 rfl (Nat.le_of_ble_eq_true rfl) rfl rfl (by kernel_rfl) ?_
      refine WL.nil ?_
      refine WQ.then ?_
      refine hK15 _ _ _ ?_
      refine WC.sub (l' := [(0, .agg #[vI a, vI b]), (1, vP b3 0), (2, .string (bS [])), (3, vI 0), (4, .string (bS ((Lib.itoa a) ++ (([47]) ++ (Lib.itoa b))))), (7, .bool (!(val a b))), (13, .bool true)]) ⟨rfl, rfl, rfl, rfl, rfl, rfl, rfl, trivial⟩ ?_
      refine WC.seq fun K20 hK20 => ?_
      refine WC.region ?_
      refine WL.pure (v := .string (bS ((Lib.itoa a) ++ (([47]) ++ (Lib.itoa b))))) 20 rfl (Nat.le_of_ble_eq_true rfl) rfl rfl (by kernel_rfl) ?_
      refine WL.pure (v := .string (bS ((Lib.itoa a) ++ (([47]) ++ (Lib.itoa b))))) 2 rfl (Nat.le_of_ble_eq_true rfl) rfl rfl (by kernel_rfl) ?_
      refine WL.pure (v := vI 0) 3 rfl (Nat.le_of_ble_eq_true rfl) rfl rfl (by kernel_rfl) ?_
      refine WL.nil ?_
      refine WQ.then ?_
      refine hK20 _ _ _ ?_
      refine WC.ret ?_
      refine WQ.ret2 2 3 rfl rfl rfl ?_
      exact ⟨by rw [(te_ok hA).1, (te_ok hA).2]; unfold txt; rw [if_neg hb1]; simp only [List.append_assoc, List.cons_append, List.nil_append], HP.below hH19⟩
    ·
      refine WL.pure (v := .bool false) 13 rfl (Nat.le_of_ble_eq_true rfl) rfl rfl (x_neq rfl rfl rfl (dF (hb1))) ?_
      refine WL.nil ?_
      refine WQ.then ?_
      refine hK16 _ _ _ ?_
      refine WC.sub (l' := [(0, .agg #[vI a, vI b]), (1, vP b3 0), (2, .string (bS [])), (3, vI 0), (4, .string (bS (Lib.itoa a))), (7, .bool (!(val a b))), (13, .bool false)]) ⟨rfl, rfl, rfl, rfl, rfl, rfl, rfl, trivial⟩ ?_
      refine WC.no rfl ?_
      refine WC.skip ?_
      refine WQ.then ?_
      refine hK15 _ _ _ ?_
      refine WC.seq fun K21 hK21 => ?_
      refine WC.region ?_
      refine WL.pure (v := .string (bS (Lib.itoa a))) 20 rfl (Nat.le_of_ble_eq_true rfl) rfl rfl (by kernel_rfl) ?_
      refine WL.pure (v := .string (bS (Lib.itoa a))) 2 rfl (Nat.le_of_ble_eq_true rfl) rfl rfl (by kernel_rfl) ?_
      refine WL.pure (v := vI 0) 3 rfl (Nat.le_of_ble_eq_true rfl) rfl rfl (by kernel_rfl) ?_
      refine WL.nil ?_
      refine WQ.then ?_
      refine hK21 _ _ _ ?_
      refine WC.ret ?_
      refine WQ.ret2 2 3 rfl rfl rfl ?_
      exact ⟨by rw [(te_ok hA).1, (te_ok hA).2]; unfold txt; rw [if_pos (Decidable.not_not.1 hb1), List.append_nil], HP.below hH14⟩
  ·
    refine WC.yes (congrArg (fun b => some (Value.bool (!b))) hA) ?_
    refine WC.seq fun K22 hK22 => ?_
    refine WC.region ?_
    refine WL.pure (v := .string (bS [])) 2 rfl (Nat.le_of_ble_eq_true rfl) rfl rfl (by kernel_rfl) ?_
    refine WL.pure (v := vI 1) 3 rfl (Nat.le_of_ble_eq_true rfl) rfl rfl (by kernel_rfl) ?_
    refine WL.nil ?_
    refine WQ.then ?_
    refine hK22 _ _ _ ?_
    refine WC.ret ?_
    refine WQ.thenRet ?_
    refine WQ.ret2 2 3 rfl rfl rfl ?_
    exact ⟨by rw [(te_no hA).1, (te_no hA).2], HP.below hH10⟩
set_option maxRecDepth 20000 in
set_option maxHeartbeats 4000000 in
theorem rText_any (a b : Int) (w : World) (hE : Ev w) :
    Calls Tryd.prog 6 #[.agg #[vI a, vI b]] w fun e w' => e = .returned (.tuple #[.string (bS (tx a b)), vI (te a b)]) ∧ Below w.heap.size w w' := by
  refine calls_of Tryd.func6 rfl (m := 21) rfl [(0, .agg #[vI a, vI b])] (Fr_enter [.agg #[vI a, vI b]] 21 (Nat.le_of_ble_eq_true rfl)) ?_
  have hH1 : HP Tr w w [] := HP.refl w
  refine WC.seq fun K2 hK2 => ?_
  refine WC.region ?_
  refine WL.alloc (c := #[vI a, vI b]) (T := 23) hH1 1 rfl (by decide) rfl rfl (fun b3 => vP b3 0) (by kernel_rfl) (fun b3 w4 hw4 => ?_)
  have hH5 : HP Tr w w4 [.cel b3 #[vI a, vI b] 23] := hw4.2
  have nb3 := hw4.1
  clear hw4
  refine WL.pure (v := .string (bS [])) 2 rfl (Nat.le_of_ble_eq_true rfl) rfl rfl (by kernel_rfl) ?_
  refine WL.pure (v := vI 0) 3 rfl (Nat.le_of_ble_eq_true rfl) rfl rfl (by kernel_rfl) ?_
  refine WL.nil ?_
  refine WQ.then ?_
  refine hK2 _ _ _ ?_
  refine WC.seq fun K6 hK6 => ?_
  refine WC.seq fun K7 hK7 => ?_
  refine WC.region ?_
  refine WL.pure (v := .agg #[vI a, vI b]) 4 rfl (Nat.le_of_ble_eq_true rfl) rfl rfl (x_loadS (cs := [vI a, vI b]) rfl rfl Tryd.underlying23 rfl sz23 (HP.range hH5 0 rfl rfl)) ?_
  refine WL.call (f := 12) (args := #[.agg #[vI a, vI b]]) 5 rfl (Nat.le_of_ble_eq_true rfl) rfl rfl (by kernel_rfl) ?_
  refine (rvalid_any a b _).mono ?_
  rintro e w8 ⟨rfl, hb9⟩
  refine ⟨_, rfl, ?_⟩
  have hH10 : HP Tr w _ [.cel b3 #[vI a, vI b] 23] := HP.call hH5 hb9
  refine WL.pure (v := .bool (!(val a b))) 6 rfl (Nat.le_of_ble_eq_true rfl) rfl rfl (by kernel_rfl) ?_
  refine WL.nil ?_
  refine WQ.then ?_
  refine hK7 _ _ _ ?_
  rcases Bool.eq_false_or_eq_true (val a b) with hA | hA
  ·
    have hbd := val_bd hA
    have hla := itoa_len (n := a) (by omega) (by omega)
    have hlb := itoa_len (n := b) (by omega) (by omega)
    refine WC.no (congrArg (fun b => some (Value.bool (!b))) hA) ?_
    refine WC.skip ?_
    refine WQ.then ?_
    refine hK6 _ _ _ ?_
    refine WC.seq fun K11 hK11 => ?_
    refine WC.seq fun K12 hK12 => ?_
    refine WC.region ?_
    refine WL.pure (v := vP b3 1) 7 rfl (Nat.le_of_ble_eq_true rfl) rfl rfl (by kernel_rfl) ?_
    refine WL.pure (v := vI b) 8 rfl (Nat.le_of_ble_eq_true rfl) rfl rfl (x_load rfl rfl Tryd.underlying3 rfl (HP.cell hH10 0 rfl rfl)) ?_
    by_cases hb1 : b = 1
    ·
      refine WL.pure (v := .bool true) 9 rfl (Nat.le_of_ble_eq_true rfl) rfl rfl (x_eql rfl rfl rfl (dT (hb1))) ?_
      refine WL.nil ?_
      refine WQ.then ?_
      refine hK12 _ _ _ ?_
      refine WC.yes rfl ?_
      refine WC.seq fun K13 hK13 => ?_
      refine WC.region ?_
      refine WL.pure (v := vP b3 0) 10 rfl (Nat.le_of_ble_eq_true rfl) rfl rfl (by kernel_rfl) ?_
      refine WL.pure (v := vI a) 11 rfl (Nat.le_of_ble_eq_true rfl) rfl rfl (x_load rfl rfl Tryd.underlying3 rfl (HP.cell hH10 0 rfl rfl)) ?_
      refine WL.call (f := 11) (args := #[vI a]) 12 rfl (Nat.le_of_ble_eq_true rfl) rfl rfl (by kernel_rfl) ?_
      refine (itoa_any a _ (by omega) (hE.below (HP.below hH10))).mono ?_
      rintro e w14 ⟨rfl, hb15⟩
      refine ⟨_, rfl, ?_⟩
      have hH16 : HP Tr w _ [.cel b3 #[vI a, vI b] 23] := HP.call hH10 hb15
      refine WL.pure (v := .string (bS (Lib.itoa a))) 2 rfl (Nat.le_of_ble_eq_true rfl) rfl rfl (by kernel_rfl) ?_
      refine WL.pure (v := vI 0) 3 rfl (Nat.le_of_ble_eq_true rfl) rfl rfl (by kernel_rfl) ?_
      refine WL.nil ?_
      refine WQ.then ?_
      refine hK13 _ _ _ ?_
      refine WC.sub (l' := [(0, .agg #[vI a, vI b]), (1, vP b3 0), (2, .string (bS (Lib.itoa a))), (3, vI 0), (6, .bool (!(val a b))), (9, .bool true)]) ⟨rfl, rfl, rfl, rfl, rfl, rfl, trivial⟩ ?_
      refine WC.ret ?_
      refine WQ.thenRet ?_
      refine WQ.ret2 2 3 rfl rfl rfl ?_
      exact ⟨by rw [(te_ok hA).1, (te_ok hA).2]; unfold txt; rw [if_pos hb1, List.append_nil], HP.below hH16⟩
    ·
      refine WL.pure (v := .bool false) 9 rfl (Nat.le_of_ble_eq_true rfl) rfl rfl (x_eql rfl rfl rfl (dF (hb1))) ?_
      refine WL.nil ?_
      refine WQ.then ?_
      refine hK12 _ _ _ ?_
      refine WC.no rfl ?_
      refine WC.skip ?_
      refine WQ.then ?_
      refine hK11 _ _ _ ?_
      refine WC.seq fun K17 hK17 => ?_
      refine WC.confG (γ := Unit) [(9, .bool false), (8, vI b), (7, vP b3 1), (6, .bool (!(val a b))), (5, .bool (val a b)), (4, .agg #[vI a, vI b]), (1, vP b3 0), (0, .agg #[vI a, vI b])] (fun gy => [vP b3 0, vI a, .string (bS (Lib.itoa a)), .string (bS ((Lib.itoa a) ++ ([47]))), vP b3 1, vI b, .string (bS (Lib.itoa b)), .string (bS (((Lib.itoa a) ++ ([47])) ++ (Lib.itoa b))), .string (bS (((Lib.itoa a) ++ ([47])) ++ (Lib.itoa b))), vI 0]) (fun gy D wz => HP Tr w wz [.cel b3 #[vI a, vI b] 23]) () (by kernel_rfl) ⟨rfl, rfl, rfl, rfl, rfl, rfl, rfl, rfl, trivial⟩ (by kernel_rfl) (by kernel_rfl) (by kernel_rfl) (fun _ => rfl) (by kernel_rfl) (HP.drew hH10) ?_ ?_
      · refine AllOk.cons ?o0 (AllOk.cons ?o1 (AllOk.cons ?o2 (AllOk.cons ?o3 (AllOk.cons ?o4 (AllOk.cons ?o5 (AllOk.cons ?o6 (AllOk.cons ?o7 (AllOk.cons ?o8 (AllOk.cons ?o9 (AllOk.nil _))))))))))
        case o0 =>
          intro gy D wz hDi hdep hclo hW
          exact .inl ⟨rfl, rfl, .inl ⟨gy, wz, fun _ _ => rfl, by kernel_rfl, hW⟩⟩
        case o1 =>
          intro gy D wz hDi hdep hclo hW
          exact .inl ⟨rfl, rfl, .inl ⟨gy, wz, fun _ _ => rfl, x_load rfl rfl Tryd.underlying3 rfl (HP.cell hW 0 rfl rfl), hW⟩⟩
        case o2 =>
          intro gy D wz hDi hdep hclo hW
          have hW2 := hW
          exact .inl ⟨rfl, rfl, .inr (.inr ⟨11, #[vI a], by kernel_rfl, (itoa_any a _ (by omega) (hE.below (HP.below hW))).mono fun e w2 h => ⟨gy, fun _ _ => rfl, h.1, HP.call hW h.2⟩⟩)⟩
        case o3 =>
          intro gy D wz hDi hdep hclo hW
          exact .inl ⟨rfl, rfl, .inl ⟨gy, wz, fun _ _ => rfl, x_sadd ((Lib.itoa a)) ([47]) rfl rfl rfl (by simp only [List.length_append, List.length_cons, List.length_nil]; omega), hW⟩⟩
        case o4 =>
          intro gy D wz hDi hdep hclo hW
          exact .inl ⟨rfl, rfl, .inl ⟨gy, wz, fun _ _ => rfl, by kernel_rfl, hW⟩⟩
        case o5 =>
          intro gy D wz hDi hdep hclo hW
          exact .inl ⟨rfl, rfl, .inl ⟨gy, wz, fun _ _ => rfl, x_load rfl rfl Tryd.underlying3 rfl (HP.cell hW 0 rfl rfl), hW⟩⟩
        case o6 =>
          intro gy D wz hDi hdep hclo hW
          have hW2 := hW
          exact .inl ⟨rfl, rfl, .inr (.inr ⟨11, #[vI b], by kernel_rfl, (itoa_any b _ (by omega) (hE.below (HP.below hW))).mono fun e w2 h => ⟨gy, fun _ _ => rfl, h.1, HP.call hW h.2⟩⟩)⟩
        case o7 =>
          intro gy D wz hDi hdep hclo hW
          exact .inl ⟨rfl, rfl, .inl ⟨gy, wz, fun _ _ => rfl, x_sadd (((Lib.itoa a) ++ ([47]))) ((Lib.itoa b)) rfl rfl rfl (by simp only [List.length_append, List.length_cons, List.length_nil]; omega), hW⟩⟩
        case o8 =>
          intro gy D wz hDi hdep hclo hW
          exact .inl ⟨rfl, rfl, .inl ⟨gy, wz, fun _ _ => rfl, by kernel_rfl, hW⟩⟩
        case o9 =>
          intro gy D wz hDi hdep hclo hW
          exact .inl ⟨rfl, rfl, .inl ⟨gy, wz, fun _ _ => rfl, by kernel_rfl, hW⟩⟩
      rintro gy D w18 hall hH19
      clear hall
      refine WQ.sub (l' := [(0, .agg #[vI a, vI b]), (1, vP b3 0), (2, .string (bS (((Lib.itoa a) ++ ([47])) ++ (Lib.itoa b)))), (3, vI 0), (6, .bool (!(val a b))), (9, .bool false)]) ⟨rfl, rfl, rfl, rfl, rfl, rfl, trivial⟩ ?_
      refine WQ.then ?_
      refine hK17 _ _ _ ?_
      refine WC.ret ?_
      refine WQ.ret2 2 3 rfl rfl rfl ?_
      exact ⟨by rw [(te_ok hA).1, (te_ok hA).2]; unfold txt; rw [if_neg hb1]; simp only [List.append_assoc, List.cons_append, List.nil_append], HP.below hH19⟩
  ·
    refine WC.yes (congrArg (fun b => some (Value.bool (!b))) hA) ?_
    refine WC.seq fun K20 hK20 => ?_
    refine WC.region ?_
    refine WL.pure (v := .string (bS [])) 2 rfl (Nat.le_of_ble_eq_true rfl) rfl rfl (by kernel_rfl) ?_
    refine WL.pure (v := vI 1) 3 rfl (Nat.le_of_ble_eq_true rfl) rfl rfl (by kernel_rfl) ?_
    refine WL.nil ?_
    refine WQ.then ?_
    refine hK20 _ _ _ ?_
    refine WC.ret ?_
    refine WQ.thenRet ?_
    refine WQ.ret2 2 3 rfl rfl rfl ?_
    exact ⟨by rw [(te_no hA).1, (te_no hA).2], HP.below hH10⟩
set_option maxRecDepth 20000 in
set_option maxHeartbeats 4000000 in
theorem Parse_any (l : List UInt8) (w : World) (hl : l.length ≤ 281474976710656) (hE : Ev w) :
    Calls Tryd.prog 7 #[.string (bS l)] w (ParseP l w) := by
  refine calls_of Tryd.func7 rfl (m := 57) rfl [(0, .string (bS l))] (Fr_enter [.string (bS l)] 57 (Nat.le_of_ble_eq_true rfl)) ?_
  have hH1 : HP Tr w w [] := HP.refl w
  refine WC.seq fun K2 hK2 => ?_
  refine WC.region ?_
  refine WL.alloc (c := #[vI 0, vI 0]) (T := 23) hH1 2 rfl (by decide) rfl rfl (fun b3 => vP b3 0) (by kernel_rfl) (fun b3 w4 hw4 => ?_)
  have hH5 : HP Tr w w4 [.cel b3 #[vI 0, vI 0] 23] := hw4.2
  have nb3 := hw4.1
  clear hw4
  refine WL.pure (v := vI 0) 3 rfl (Nat.le_of_ble_eq_true rfl) rfl rfl (by kernel_rfl) ?_
  refine WL.nil ?_
  refine WQ.then ?_
  refine hK2 _ _ _ ?_
  refine WC.seq fun K6 hK6 => ?_
  refine WC.region ?_
  refine WL.pure (v := .string (bS l)) 15 rfl (Nat.le_of_ble_eq_true rfl) rfl rfl (by kernel_rfl) ?_
  refine WL.call (f := 13) (args := #[.string (bS l), .string (bS [47])]) 16 rfl (Nat.le_of_ble_eq_true rfl) rfl rfl (by kernel_rfl) ?_
  refine (cut_any l _ hl).mono ?_
  rintro e w1 ⟨⟨hno, rfl⟩ | ⟨l1, l2, hl12, hno, rfl⟩, hb⟩
  ·
    refine ⟨_, rfl, ?_⟩
    have hH7 : HP Tr w _ [.cel b3 #[vI 0, vI 0] 23] := HP.call hH5 hb
    have hcut : CutOf l l [49] := .inl ⟨hno, rfl, rfl⟩
    have hl1 : l.length ≤ 281474976710656 ∧ ([49] : List UInt8).length ≤ 281474976710656 := by exact ⟨hl, by decide⟩
    refine WL.pure (v := .tuple #[.string (bS l), .string (bS ([])), .bool false]) 14 rfl (Nat.le_of_ble_eq_true rfl) rfl rfl (by kernel_rfl) ?_
    refine WL.pure (v := .string (bS l)) 17 rfl (Nat.le_of_ble_eq_true rfl) rfl rfl (by kernel_rfl) ?_
    refine WL.pure (v := .string (bS ([]))) 18 rfl (Nat.le_of_ble_eq_true rfl) rfl rfl (by kernel_rfl) ?_
    refine WL.pure (v := .bool false) 19 rfl (Nat.le_of_ble_eq_true rfl) rfl rfl (by kernel_rfl) ?_
    refine WL.pure (v := .string (bS l)) 4 rfl (Nat.le_of_ble_eq_true rfl) rfl rfl (by kernel_rfl) ?_
    refine WL.pure (v := .string (bS ([]))) 5 rfl (Nat.le_of_ble_eq_true rfl) rfl rfl (by kernel_rfl) ?_
    refine WL.pure (v := .bool false) 6 rfl (Nat.le_of_ble_eq_true rfl) rfl rfl (by kernel_rfl) ?_
    refine WL.nil ?_
    refine WQ.then ?_
    refine hK6 _ _ _ ?_
    refine WC.sub (l' := [(0, .string (bS l)), (2, vP b3 0), (3, vI 0), (4, .string (bS l)), (5, .string (bS ([]))), (6, .bool false)]) ⟨rfl, rfl, rfl, rfl, rfl, rfl, trivial⟩ ?_
    refine WC.seq fun K8 hK8 => ?_
    refine WC.seq fun K9 hK9 => ?_
    refine WC.region ?_
    refine WL.pure (v := .bool false) 20 rfl (Nat.le_of_ble_eq_true rfl) rfl rfl (by kernel_rfl) ?_
    refine WL.pure (v := .bool true) 21 rfl (Nat.le_of_ble_eq_true rfl) rfl rfl (by kernel_rfl) ?_
    refine WL.nil ?_
    refine WQ.then ?_
    refine hK9 _ _ _ ?_
    refine WC.yes rfl ?_
    refine WC.region ?_
    refine WL.pure (v := .string (bS [49])) 5 rfl (Nat.le_of_ble_eq_true rfl) rfl rfl (by kernel_rfl) ?_
    refine WL.nil ?_
    refine WQ.then ?_
    refine hK8 _ _ _ ?_
    refine WC.seq fun K10 hK10 => ?_
    refine WC.region ?_
    refine WL.pure (v := .string (bS l)) 23 rfl (Nat.le_of_ble_eq_true rfl) rfl rfl (by kernel_rfl) ?_
    refine WL.call (f := 14) (args := #[.string (bS l)]) 24 rfl (Nat.le_of_ble_eq_true rfl) rfl rfl (by kernel_rfl) ?_
    refine (atoi_any l _ hl1.1 (hE.below (HP.below hH7))).mono ?_
    rintro e w2 (⟨v, hv, rfl, hb⟩ | ⟨v, N0, hv, rfl, hb⟩)
    ·
      refine ⟨_, rfl, ?_⟩
      have hH11 : HP Tr w _ [.cel b3 #[vI 0, vI 0] 23] := HP.call hH7 hb
      refine WL.pure (v := .tuple #[vI v, .nilIface]) 22 rfl (Nat.le_of_ble_eq_true rfl) rfl rfl (by kernel_rfl) ?_
      refine WL.pure (v := vI v) 25 rfl (Nat.le_of_ble_eq_true rfl) rfl rfl (by kernel_rfl) ?_
      refine WL.pure (v := .nilIface) 26 rfl (Nat.le_of_ble_eq_true rfl) rfl rfl (by kernel_rfl) ?_
      refine WL.pure (v := vI v) 7 rfl (Nat.le_of_ble_eq_true rfl) rfl rfl (by kernel_rfl) ?_
      refine WL.pure (v := .nilIface) 8 rfl (Nat.le_of_ble_eq_true rfl) rfl rfl (by kernel_rfl) ?_
      refine WL.nil ?_
      refine WQ.then ?_
      refine hK10 _ _ _ ?_
      refine WC.sub (l' := [(0, .string (bS l)), (2, vP b3 0), (3, vI 0), (4, .string (bS l)), (5, .string (bS [49])), (6, .bool false), (7, vI v), (8, .nilIface), (21, .bool true)]) ⟨rfl, rfl, rfl, rfl, rfl, rfl, rfl, rfl, rfl, trivial⟩ ?_
      refine WC.seq fun K12 hK12 => ?_
      refine WC.region ?_
      refine WL.pure (v := .string (bS [49])) 28 rfl (Nat.le_of_ble_eq_true rfl) rfl rfl (by kernel_rfl) ?_
      refine WL.call (f := 14) (args := #[.string (bS [49])]) 29 rfl (Nat.le_of_ble_eq_true rfl) rfl rfl (by kernel_rfl) ?_
      refine (atoi_any ([49]) _ hl1.2 (hE.below (HP.below hH11))).mono ?_
      rintro e w2 (⟨u, hu, rfl, hb⟩ | ⟨u, N1, hu, rfl, hb⟩)
      ·
        refine ⟨_, rfl, ?_⟩
        have hH13 : HP Tr w _ [.cel b3 #[vI 0, vI 0] 23] := HP.call hH11 hb
        refine WL.pure (v := .tuple #[vI u, .nilIface]) 27 rfl (Nat.le_of_ble_eq_true rfl) rfl rfl (by kernel_rfl) ?_
        refine WL.pure (v := vI u) 30 rfl (Nat.le_of_ble_eq_true rfl) rfl rfl (by kernel_rfl) ?_
        refine WL.pure (v := .nilIface) 31 rfl (Nat.le_of_ble_eq_true rfl) rfl rfl (by kernel_rfl) ?_
        refine WL.pure (v := vI u) 9 rfl (Nat.le_of_ble_eq_true rfl) rfl rfl (by kernel_rfl) ?_
        refine WL.pure (v := .nilIface) 10 rfl (Nat.le_of_ble_eq_true rfl) rfl rfl (by kernel_rfl) ?_
        refine WL.nil ?_
        refine WQ.then ?_
        refine hK12 _ _ _ ?_
        refine WC.seq fun K14 hK14 => ?_
        refine WC.region ?_
        refine WL.pure (v := vI v) 32 rfl (Nat.le_of_ble_eq_true rfl) rfl rfl (by kernel_rfl) ?_
        refine WL.pure (v := vI u) 33 rfl (Nat.le_of_ble_eq_true rfl) rfl rfl (by kernel_rfl) ?_
        refine WL.pure (v := .agg #[vI v, vI u]) 34 rfl (Nat.le_of_ble_eq_true rfl) rfl rfl (by kernel_rfl) ?_
        refine WL.alloc (c := #[vI 0, vI 0]) (T := 23) hH13 11 rfl (by decide) rfl rfl (fun b15 => vP b15 0) (by kernel_rfl) (fun b15 w16 hw16 => ?_)
        have hH17 : HP Tr w w16 [.cel b3 #[vI 0, vI 0] 23, .cel b15 #[vI 0, vI 0] 23] := hw16.2
        have nb15 := hw16.1
        clear hw16
        refine WL.storeS (H2 := [.cel b3 #[vI 0, vI 0] 23, .cel b15 #[vI v, vI u] 23]) 1 hH17 rfl rfl rfl rfl rfl rfl sz23 rfl (Nat.le_of_ble_eq_true rfl) rfl rfl ?_
        intro w18 hH19
        refine WL.nil ?_
        refine WQ.then ?_
        refine hK14 _ _ _ ?_
        refine WC.sub (l' := [(0, .string (bS l)), (2, vP b3 0), (3, vI 0), (4, .string (bS l)), (5, .string (bS [49])), (6, .bool false), (7, vI v), (8, .nilIface), (9, vI u), (10, .nilIface), (11, vP b15 0), (21, .bool true)]) ⟨rfl, rfl, rfl, rfl, rfl, rfl, rfl, rfl, rfl, rfl, rfl, rfl, trivial⟩ ?_
        refine WC.seq fun K20 hK20 => ?_
        refine WC.seq fun K21 hK21 => ?_
        refine WC.region ?_
        refine WL.pure (v := .agg #[vI v, vI u]) 36 rfl (Nat.le_of_ble_eq_true rfl) rfl rfl (x_loadS (cs := [vI v, vI u]) rfl rfl Tryd.underlying23 rfl sz23 (HP.range hH19 1 rfl rfl)) ?_
        refine WL.call (f := 5) (args := #[.agg #[vI v, vI u]]) 37 rfl (Nat.le_of_ble_eq_true rfl) rfl rfl (by kernel_rfl) ?_
        refine (Text_any v u _ (hE.below (HP.below hH19))).mono ?_
        rintro e w22 ⟨rfl, hb23⟩
        refine ⟨_, rfl, ?_⟩
        have hH24 : HP Tr w _ [.cel b3 #[vI 0, vI 0] 23, .cel b15 #[vI v, vI u] 23] := HP.call hH19 hb23
        refine WL.pure (v := .tuple #[.string (bS (tx v u)), vI (te v u)]) 35 rfl (Nat.le_of_ble_eq_true rfl) rfl rfl (by kernel_rfl) ?_
        refine WL.pure (v := .string (bS (tx v u))) 38 rfl (Nat.le_of_ble_eq_true rfl) rfl rfl (by kernel_rfl) ?_
        refine WL.pure (v := vI (te v u)) 39 rfl (Nat.le_of_ble_eq_true rfl) rfl rfl (by kernel_rfl) ?_
        refine WL.pure (v := .string (bS (tx v u))) 12 rfl (Nat.le_of_ble_eq_true rfl) rfl rfl (by kernel_rfl) ?_
        refine WL.pure (v := vI (te v u)) 13 rfl (Nat.le_of_ble_eq_true rfl) rfl rfl (by kernel_rfl) ?_
        refine WL.nil ?_
        refine WQ.then ?_
        refine hK21 _ _ _ ?_
        refine WC.seq fun K25 hK25 => ?_
        refine WC.region ?_
        refine WL.pure (v := .nilIface) 40 rfl (Nat.le_of_ble_eq_true rfl) rfl rfl (by kernel_rfl) ?_
        refine WL.pure (v := .bool false) 41 rfl (Nat.le_of_ble_eq_true rfl) rfl rfl (by kernel_rfl) ?_
        refine WL.pure (v := .bool false) 42 rfl (Nat.le_of_ble_eq_true rfl) rfl rfl (by kernel_rfl) ?_
        refine WL.pure (v := .nilIface) 43 rfl (Nat.le_of_ble_eq_true rfl) rfl rfl (by kernel_rfl) ?_
        refine WL.pure (v := .bool false) 44 rfl (Nat.le_of_ble_eq_true rfl) rfl rfl (by kernel_rfl) ?_
        refine WL.pure (v := .bool false) 45 rfl (Nat.le_of_ble_eq_true rfl) rfl rfl (by kernel_rfl) ?_
        refine WL.pure (v := .bool false) 46 rfl (Nat.le_of_ble_eq_true rfl) rfl rfl (by kernel_rfl) ?_
        refine WL.pure (v := vI (te v u)) 47 rfl (Nat.le_of_ble_eq_true rfl) rfl rfl (by kernel_rfl) ?_
        by_cases hte : te v u ≠ 0
        ·
          refine WL.pure (v := .bool true) 48 rfl (Nat.le_of_ble_eq_true rfl) rfl rfl (x_neq rfl rfl rfl (dT (hte))) ?_
          refine WL.pure (v := .bool true) 49 rfl (Nat.le_of_ble_eq_true rfl) rfl rfl (by kernel_rfl) ?_
          refine WL.pure (v := .bool true) 50 rfl (Nat.le_of_ble_eq_true rfl) rfl rfl (by kernel_rfl) ?_
          refine WL.pass 51 rfl (Nat.le_of_ble_eq_true rfl) rfl ?_
          refine WL.pass 52 rfl (Nat.le_of_ble_eq_true rfl) rfl ?_
          refine WL.pass 53 rfl (Nat.le_of_ble_eq_true rfl) rfl ?_
          refine WL.pure (v := .bool true) 54 rfl (Nat.le_of_ble_eq_true rfl) rfl rfl (by kernel_rfl) ?_
          refine WL.nil ?_
          refine WQ.then ?_
          refine hK25 _ _ _ ?_
          refine WC.sub (l' := [(0, .string (bS l)), (2, vP b3 0), (3, vI 0), (4, .string (bS l)), (5, .string (bS [49])), (6, .bool false), (7, vI v), (8, .nilIface), (9, vI u), (10, .nilIface), (11, vP b15 0), (12, .string (bS (tx v u))), (13, vI (te v u)), (21, .bool true), (54, .bool true)]) ⟨rfl, rfl, rfl, rfl, rfl, rfl, rfl, rfl, rfl, rfl, rfl, rfl, rfl, rfl, rfl, trivial⟩ ?_
          refine WC.yes rfl ?_
          refine WC.seq fun K26 hK26 => ?_
          refine WC.region ?_
          refine WL.pure (v := .agg #[vI 0, vI 0]) 55 rfl (Nat.le_of_ble_eq_true rfl) rfl rfl (by kernel_rfl) ?_
          refine WL.storeS (H2 := [.cel b3 #[vI 0, vI 0] 23, .cel b15 #[vI v, vI u] 23]) 0 hH24 rfl rfl rfl rfl rfl rfl sz23 rfl (Nat.le_of_ble_eq_true rfl) rfl rfl ?_
          intro w27 hH28
          refine WL.pure (v := vI 4) 3 rfl (Nat.le_of_ble_eq_true rfl) rfl rfl (by kernel_rfl) ?_
          refine WL.nil ?_
          refine WQ.then ?_
          refine hK26 _ _ _ ?_
          refine WC.ret ?_
          refine WQ.thenRet ?_
          refine WQ.retC2 2 23 3 rfl rfl rfl (HP.loadRow hH28 0 rfl Tryd.underlying23 rfl sz23) ?_
          refine ⟨.inr ⟨fun a b hT => ?_, rfl⟩, HP.below hH28⟩
          obtain ⟨g1, g2, g3, g4⟩ := parse_is hcut hT
          rw [hv] at g1; rw [hu] at g2; cases g1; cases g2
          exact hte (by rw [g3])
        ·
          refine WL.pure (v := .bool false) 48 rfl (Nat.le_of_ble_eq_true rfl) rfl rfl (x_neq rfl rfl rfl (dF (hte))) ?_
          refine WL.pure (v := .bool false) 49 rfl (Nat.le_of_ble_eq_true rfl) rfl rfl (by kernel_rfl) ?_
          refine WL.pure (v := .bool false) 50 rfl (Nat.le_of_ble_eq_true rfl) rfl rfl (by kernel_rfl) ?_
          refine WL.pure (v := .string (bS (tx v u))) 51 rfl (Nat.le_of_ble_eq_true rfl) rfl rfl (by kernel_rfl) ?_
          refine WL.pure (v := .string (bS l)) 52 rfl (Nat.le_of_ble_eq_true rfl) rfl rfl (by kernel_rfl) ?_
          by_cases htx : (tx v u) = l
          ·
            refine WL.pure (v := .bool false) 53 rfl (Nat.le_of_ble_eq_true rfl) rfl rfl (x_neqs rfl rfl rfl (dF (fun h => h (congrArg bS htx)))) ?_
            refine WL.pure (v := .bool false) 54 rfl (Nat.le_of_ble_eq_true rfl) rfl rfl (by kernel_rfl) ?_
            refine WL.nil ?_
            refine WQ.then ?_
            refine hK25 _ _ _ ?_
            refine WC.sub (l' := [(0, .string (bS l)), (2, vP b3 0), (3, vI 0), (4, .string (bS l)), (5, .string (bS [49])), (6, .bool false), (7, vI v), (8, .nilIface), (9, vI u), (10, .nilIface), (11, vP b15 0), (12, .string (bS (tx v u))), (13, vI (te v u)), (21, .bool true), (54, .bool false)]) ⟨rfl, rfl, rfl, rfl, rfl, rfl, rfl, rfl, rfl, rfl, rfl, rfl, rfl, rfl, rfl, trivial⟩ ?_
            refine WC.no rfl ?_
            refine WC.skip ?_
            refine WQ.then ?_
            refine hK20 _ _ _ ?_
            refine WC.seq fun K29 hK29 => ?_
            refine WC.region ?_
            refine WL.pure (v := .agg #[vI v, vI u]) 56 rfl (Nat.le_of_ble_eq_true rfl) rfl rfl (x_loadS (cs := [vI v, vI u]) rfl rfl Tryd.underlying23 rfl sz23 (HP.range hH24 1 rfl rfl)) ?_
            refine WL.storeS (H2 := [.cel b3 #[vI v, vI u] 23, .cel b15 #[vI v, vI u] 23]) 0 hH24 rfl rfl rfl rfl rfl rfl sz23 rfl (Nat.le_of_ble_eq_true rfl) rfl rfl ?_
            intro w30 hH31
            refine WL.pure (v := vI 0) 3 rfl (Nat.le_of_ble_eq_true rfl) rfl rfl (by kernel_rfl) ?_
            refine WL.nil ?_
            refine WQ.then ?_
            refine hK29 _ _ _ ?_
            refine WC.ret ?_
            refine WQ.retC2 2 23 3 rfl rfl rfl (HP.loadRow hH31 0 rfl Tryd.underlying23 rfl sz23) ?_
            exact ⟨.inl ⟨v, u, ⟨(te0 (Decidable.not_not.1 hte)).1, (te0 (a := v) (b := u) (Decidable.not_not.1 hte)).2.symm.trans htx⟩, rfl⟩, HP.below hH31⟩
          ·
            refine WL.pure (v := .bool true) 53 rfl (Nat.le_of_ble_eq_true rfl) rfl rfl (x_neqs rfl rfl rfl (dT (fun h => htx (bS_inj h)))) ?_
            refine WL.pure (v := .bool true) 54 rfl (Nat.le_of_ble_eq_true rfl) rfl rfl (by kernel_rfl) ?_
            refine WL.nil ?_
            refine WQ.then ?_
            refine hK25 _ _ _ ?_
            refine WC.sub (l' := [(0, .string (bS l)), (2, vP b3 0), (3, vI 0), (4, .string (bS l)), (5, .string (bS [49])), (6, .bool false), (7, vI v), (8, .nilIface), (9, vI u), (10, .nilIface), (11, vP b15 0), (12, .string (bS (tx v u))), (13, vI (te v u)), (21, .bool true), (54, .bool true)]) ⟨rfl, rfl, rfl, rfl, rfl, rfl, rfl, rfl, rfl, rfl, rfl, rfl, rfl, rfl, rfl, trivial⟩ ?_
            refine WC.yes rfl ?_
            refine WC.seq fun K32 hK32 => ?_
            refine WC.region ?_
            refine WL.pure (v := .agg #[vI 0, vI 0]) 55 rfl (Nat.le_of_ble_eq_true rfl) rfl rfl (by kernel_rfl) ?_
            refine WL.storeS (H2 := [.cel b3 #[vI 0, vI 0] 23, .cel b15 #[vI v, vI u] 23]) 0 hH24 rfl rfl rfl rfl rfl rfl sz23 rfl (Nat.le_of_ble_eq_true rfl) rfl rfl ?_
            intro w33 hH34
            refine WL.pure (v := vI 4) 3 rfl (Nat.le_of_ble_eq_true rfl) rfl rfl (by kernel_rfl) ?_
            refine WL.nil ?_
            refine WQ.then ?_
            refine hK32 _ _ _ ?_
            refine WC.ret ?_
            refine WQ.thenRet ?_
            refine WQ.retC2 2 23 3 rfl rfl rfl (HP.loadRow hH34 0 rfl Tryd.underlying23 rfl sz23) ?_
            refine ⟨.inr ⟨fun a b hT => ?_, rfl⟩, HP.below hH34⟩
            obtain ⟨g1, g2, g3, g4⟩ := parse_is hcut hT
            rw [hv] at g1; rw [hu] at g2; cases g1; cases g2
            exact htx g4
      ·
        refine ⟨_, rfl, ?_⟩
        have hH35 : HP Tr w _ [.cel b3 #[vI 0, vI 0] 23] := HP.call hH11 hb
        refine WL.pure (v := .tuple #[vI u, .iface 53 (.pointer (some ⟨N1, 0, none⟩))]) 27 rfl (Nat.le_of_ble_eq_true rfl) rfl rfl (by kernel_rfl) ?_
        refine WL.pure (v := vI u) 30 rfl (Nat.le_of_ble_eq_true rfl) rfl rfl (by kernel_rfl) ?_
        refine WL.pure (v := .iface 53 (.pointer (some ⟨N1, 0, none⟩))) 31 rfl (Nat.le_of_ble_eq_true rfl) rfl rfl (by kernel_rfl) ?_
        refine WL.pure (v := vI u) 9 rfl (Nat.le_of_ble_eq_true rfl) rfl rfl (by kernel_rfl) ?_
        refine WL.pure (v := .iface 53 (.pointer (some ⟨N1, 0, none⟩))) 10 rfl (Nat.le_of_ble_eq_true rfl) rfl rfl (by kernel_rfl) ?_
        refine WL.nil ?_
        refine WQ.then ?_
        refine hK12 _ _ _ ?_
        refine WC.seq fun K36 hK36 => ?_
        refine WC.region ?_
        refine WL.pure (v := vI v) 32 rfl (Nat.le_of_ble_eq_true rfl) rfl rfl (by kernel_rfl) ?_
        refine WL.pure (v := vI u) 33 rfl (Nat.le_of_ble_eq_true rfl) rfl rfl (by kernel_rfl) ?_
        refine WL.pure (v := .agg #[vI v, vI u]) 34 rfl (Nat.le_of_ble_eq_true rfl) rfl rfl (by kernel_rfl) ?_
        refine WL.alloc (c := #[vI 0, vI 0]) (T := 23) hH35 11 rfl (by decide) rfl rfl (fun b37 => vP b37 0) (by kernel_rfl) (fun b37 w38 hw38 => ?_)
        have hH39 : HP Tr w w38 [.cel b3 #[vI 0, vI 0] 23, .cel b37 #[vI 0, vI 0] 23] := hw38.2
        have nb37 := hw38.1
        clear hw38
        refine WL.storeS (H2 := [.cel b3 #[vI 0, vI 0] 23, .cel b37 #[vI v, vI u] 23]) 1 hH39 rfl rfl rfl rfl rfl rfl sz23 rfl (Nat.le_of_ble_eq_true rfl) rfl rfl ?_
        intro w40 hH41
        refine WL.nil ?_
        refine WQ.then ?_
        refine hK36 _ _ _ ?_
        refine WC.sub (l' := [(0, .string (bS l)), (2, vP b3 0), (3, vI 0), (4, .string (bS l)), (5, .string (bS [49])), (6, .bool false), (7, vI v), (8, .nilIface), (9, vI u), (10, .iface 53 (.pointer (some ⟨N1, 0, none⟩))), (11, vP b37 0), (21, .bool true)]) ⟨rfl, rfl, rfl, rfl, rfl, rfl, rfl, rfl, rfl, rfl, rfl, rfl, trivial⟩ ?_
        refine WC.seq fun K42 hK42 => ?_
        refine WC.seq fun K43 hK43 => ?_
        refine WC.region ?_
        refine WL.pure (v := .agg #[vI v, vI u]) 36 rfl (Nat.le_of_ble_eq_true rfl) rfl rfl (x_loadS (cs := [vI v, vI u]) rfl rfl Tryd.underlying23 rfl sz23 (HP.range hH41 1 rfl rfl)) ?_
        refine WL.call (f := 5) (args := #[.agg #[vI v, vI u]]) 37 rfl (Nat.le_of_ble_eq_true rfl) rfl rfl (by kernel_rfl) ?_
        refine (Text_any v u _ (hE.below (HP.below hH41))).mono ?_
        rintro e w44 ⟨rfl, hb45⟩
        refine ⟨_, rfl, ?_⟩
        have hH46 : HP Tr w _ [.cel b3 #[vI 0, vI 0] 23, .cel b37 #[vI v, vI u] 23] := HP.call hH41 hb45
        refine WL.pure (v := .tuple #[.string (bS (tx v u)), vI (te v u)]) 35 rfl (Nat.le_of_ble_eq_true rfl) rfl rfl (by kernel_rfl) ?_
        refine WL.pure (v := .string (bS (tx v u))) 38 rfl (Nat.le_of_ble_eq_true rfl) rfl rfl (by kernel_rfl) ?_
        refine WL.pure (v := vI (te v u)) 39 rfl (Nat.le_of_ble_eq_true rfl) rfl rfl (by kernel_rfl) ?_
        refine WL.pure (v := .string (bS (tx v u))) 12 rfl (Nat.le_of_ble_eq_true rfl) rfl rfl (by kernel_rfl) ?_
        refine WL.pure (v := vI (te v u)) 13 rfl (Nat.le_of_ble_eq_true rfl) rfl rfl (by kernel_rfl) ?_
        refine WL.nil ?_
        refine WQ.then ?_
        refine hK43 _ _ _ ?_
        refine WC.seq fun K47 hK47 => ?_
        refine WC.region ?_
        refine WL.pure (v := .nilIface) 40 rfl (Nat.le_of_ble_eq_true rfl) rfl rfl (by kernel_rfl) ?_
        refine WL.pure (v := .bool false) 41 rfl (Nat.le_of_ble_eq_true rfl) rfl rfl (by kernel_rfl) ?_
        refine WL.pure (v := .bool false) 42 rfl (Nat.le_of_ble_eq_true rfl) rfl rfl (by kernel_rfl) ?_
        refine WL.pure (v := .iface 53 (.pointer (some ⟨N1, 0, none⟩))) 43 rfl (Nat.le_of_ble_eq_true rfl) rfl rfl (by kernel_rfl) ?_
        refine WL.pure (v := .bool true) 44 rfl (Nat.le_of_ble_eq_true rfl) rfl rfl (by kernel_rfl) ?_
        refine WL.pure (v := .bool true) 45 rfl (Nat.le_of_ble_eq_true rfl) rfl rfl (by kernel_rfl) ?_
        refine WL.pure (v := .bool true) 46 rfl (Nat.le_of_ble_eq_true rfl) rfl rfl (by kernel_rfl) ?_
        refine WL.pass 47 rfl (Nat.le_of_ble_eq_true rfl) rfl ?_
        refine WL.pass 48 rfl (Nat.le_of_ble_eq_true rfl) rfl ?_
        refine WL.pure (v := .bool true) 49 rfl (Nat.le_of_ble_eq_true rfl) rfl rfl (by kernel_rfl) ?_
        refine WL.pure (v := .bool true) 50 rfl (Nat.le_of_ble_eq_true rfl) rfl rfl (by kernel_rfl) ?_
        refine WL.pass 51 rfl (Nat.le_of_ble_eq_true rfl) rfl ?_
        refine WL.pass 52 rfl (Nat.le_of_ble_eq_true rfl) rfl ?_
        refine WL.pass 53 rfl (Nat.le_of_ble_eq_true rfl) rfl ?_
        refine WL.pure (v := .bool true) 54 rfl (Nat.le_of_ble_eq_true rfl) rfl rfl (by kernel_rfl) ?_
        refine WL.nil ?_
        refine WQ.then ?_
        refine hK47 _ _ _ ?_
        refine WC.sub (l' := [(0, .string (bS l)), (2, vP b3 0), (3, vI 0), (4, .string (bS l)), (5, .string (bS [49])), (6, .bool false), (7, vI v), (8, .nilIface), (9, vI u), (10, .iface 53 (.pointer (some ⟨N1, 0, none⟩))), (11, vP b37 0), (12, .string (bS (tx v u))), (13, vI (te v u)), (21, .bool true), (54, .bool true)]) ⟨rfl, rfl, rfl, rfl, rfl, rfl, rfl, rfl, rfl, rfl, rfl, rfl, rfl, rfl, rfl, trivial⟩ ?_
        refine WC.yes rfl ?_
        refine WC.seq fun K48 hK48 => ?_
        refine WC.region ?_
        refine WL.pure (v := .agg #[vI 0, vI 0]) 55 rfl (Nat.le_of_ble_eq_true rfl) rfl rfl (by kernel_rfl) ?_
        refine WL.storeS (H2 := [.cel b3 #[vI 0, vI 0] 23, .cel b37 #[vI v, vI u] 23]) 0 hH46 rfl rfl rfl rfl rfl rfl sz23 rfl (Nat.le_of_ble_eq_true rfl) rfl rfl ?_
        intro w49 hH50
        refine WL.pure (v := vI 4) 3 rfl (Nat.le_of_ble_eq_true rfl) rfl rfl (by kernel_rfl) ?_
        refine WL.nil ?_
        refine WQ.then ?_
        refine hK48 _ _ _ ?_
        refine WC.ret ?_
        refine WQ.thenRet ?_
        refine WQ.retC2 2 23 3 rfl rfl rfl (HP.loadRow hH50 0 rfl Tryd.underlying23 rfl sz23) ?_
        refine ⟨.inr ⟨fun a b hT => ?_, rfl⟩, HP.below hH50⟩
        obtain ⟨g1, g2, g3, g4⟩ := parse_is hcut hT
        exact hu _ g2
    ·
      refine ⟨_, rfl, ?_⟩
      have hH51 : HP Tr w _ [.cel b3 #[vI 0, vI 0] 23] := HP.call hH7 hb
      refine WL.pure (v := .tuple #[vI v, .iface 53 (.pointer (some ⟨N0, 0, none⟩))]) 22 rfl (Nat.le_of_ble_eq_true rfl) rfl rfl (by kernel_rfl) ?_
      refine WL.pure (v := vI v) 25 rfl (Nat.le_of_ble_eq_true rfl) rfl rfl (by kernel_rfl) ?_
      refine WL.pure (v := .iface 53 (.pointer (some ⟨N0, 0, none⟩))) 26 rfl (Nat.le_of_ble_eq_true rfl) rfl rfl (by kernel_rfl) ?_
      refine WL.pure (v := vI v) 7 rfl (Nat.le_of_ble_eq_true rfl) rfl rfl (by kernel_rfl) ?_
      refine WL.pure (v := .iface 53 (.pointer (some ⟨N0, 0, none⟩))) 8 rfl (Nat.le_of_ble_eq_true rfl) rfl rfl (by kernel_rfl) ?_
      refine WL.nil ?_
      refine WQ.then ?_
      refine hK10 _ _ _ ?_
      refine WC.sub (l' := [(0, .string (bS l)), (2, vP b3 0), (3, vI 0), (4, .string (bS l)), (5, .string (bS [49])), (6, .bool false), (7, vI v), (8, .iface 53 (.pointer (some ⟨N0, 0, none⟩))), (21, .bool true)]) ⟨rfl, rfl, rfl, rfl, rfl, rfl, rfl, rfl, rfl, trivial⟩ ?_
      refine WC.seq fun K52 hK52 => ?_
      refine WC.region ?_
      refine WL.pure (v := .string (bS [49])) 28 rfl (Nat.le_of_ble_eq_true rfl) rfl rfl (by kernel_rfl) ?_
      refine WL.call (f := 14) (args := #[.string (bS [49])]) 29 rfl (Nat.le_of_ble_eq_true rfl) rfl rfl (by kernel_rfl) ?_
      refine (atoi_any ([49]) _ hl1.2 (hE.below (HP.below hH51))).mono ?_
      rintro e w2 (⟨u, hu, rfl, hb⟩ | ⟨u, N1, hu, rfl, hb⟩)
      ·
        refine ⟨_, rfl, ?_⟩
        have hH53 : HP Tr w _ [.cel b3 #[vI 0, vI 0] 23] := HP.call hH51 hb
        refine WL.pure (v := .tuple #[vI u, .nilIface]) 27 rfl (Nat.le_of_ble_eq_true rfl) rfl rfl (by kernel_rfl) ?_
        refine WL.pure (v := vI u) 30 rfl (Nat.le_of_ble_eq_true rfl) rfl rfl (by kernel_rfl) ?_
        refine WL.pure (v := .nilIface) 31 rfl (Nat.le_of_ble_eq_true rfl) rfl rfl (by kernel_rfl) ?_
        refine WL.pure (v := vI u) 9 rfl (Nat.le_of_ble_eq_true rfl) rfl rfl (by kernel_rfl) ?_
        refine WL.pure (v := .nilIface) 10 rfl (Nat.le_of_ble_eq_true rfl) rfl rfl (by kernel_rfl) ?_
        refine WL.nil ?_
        refine WQ.then ?_
        refine hK52 _ _ _ ?_
        refine WC.seq fun K54 hK54 => ?_
        refine WC.region ?_
        refine WL.pure (v := vI v) 32 rfl (Nat.le_of_ble_eq_true rfl) rfl rfl (by kernel_rfl) ?_
        refine WL.pure (v := vI u) 33 rfl (Nat.le_of_ble_eq_true rfl) rfl rfl (by kernel_rfl) ?_
        refine WL.pure (v := .agg #[vI v, vI u]) 34 rfl (Nat.le_of_ble_eq_true rfl) rfl rfl (by kernel_rfl) ?_
        refine WL.alloc (c := #[vI 0, vI 0]) (T := 23) hH53 11 rfl (by decide) rfl rfl (fun b55 => vP b55 0) (by kernel_rfl) (fun b55 w56 hw56 => ?_)
        have hH57 : HP Tr w w56 [.cel b3 #[vI 0, vI 0] 23, .cel b55 #[vI 0, vI 0] 23] := hw56.2
        have nb55 := hw56.1
        clear hw56
        refine WL.storeS (H2 := [.cel b3 #[vI 0, vI 0] 23, .cel b55 #[vI v, vI u] 23]) 1 hH57 rfl rfl rfl rfl rfl rfl sz23 rfl (Nat.le_of_ble_eq_true rfl) rfl rfl ?_
        intro w58 hH59
        refine WL.nil ?_
        refine WQ.then ?_
        refine hK54 _ _ _ ?_
        refine WC.sub (l' := [(0, .string (bS l)), (2, vP b3 0), (3, vI 0), (4, .string (bS l)), (5, .string (bS [49])), (6, .bool false), (7, vI v), (8, .iface 53 (.pointer (some ⟨N0, 0, none⟩))), (9, vI u), (10, .nilIface), (11, vP b55 0), (21, .bool true)]) ⟨rfl, rfl, rfl, rfl, rfl, rfl, rfl, rfl, rfl, rfl, rfl, rfl, trivial⟩ ?_
        refine WC.seq fun K60 hK60 => ?_
        refine WC.seq fun K61 hK61 => ?_
        refine WC.region ?_
        refine WL.pure (v := .agg #[vI v, vI u]) 36 rfl (Nat.le_of_ble_eq_true rfl) rfl rfl (x_loadS (cs := [vI v, vI u]) rfl rfl Tryd.underlying23 rfl sz23 (HP.range hH59 1 rfl rfl)) ?_
        refine WL.call (f := 5) (args := #[.agg #[vI v, vI u]]) 37 rfl (Nat.le_of_ble_eq_true rfl) rfl rfl (by kernel_rfl) ?_
        refine (Text_any v u _ (hE.below (HP.below hH59))).mono ?_
        rintro e w62 ⟨rfl, hb63⟩
        refine ⟨_, rfl, ?_⟩
        have hH64 : HP Tr w _ [.cel b3 #[vI 0, vI 0] 23, .cel b55 #[vI v, vI u] 23] := HP.call hH59 hb63
        refine WL.pure (v := .tuple #[.string (bS (tx v u)), vI (te v u)]) 35 rfl (Nat.le_of_ble_eq_true rfl) rfl rfl (by kernel_rfl) ?_
        refine WL.pure (v := .string (bS (tx v u))) 38 rfl (Nat.le_of_ble_eq_true rfl) rfl rfl (by kernel_rfl) ?_
        refine WL.pure (v := vI (te v u)) 39 rfl (Nat.le_of_ble_eq_true rfl) rfl rfl (by kernel_rfl) ?_
        refine WL.pure (v := .string (bS (tx v u))) 12 rfl (Nat.le_of_ble_eq_true rfl) rfl rfl (by kernel_rfl) ?_
        refine WL.pure (v := vI (te v u)) 13 rfl (Nat.le_of_ble_eq_true rfl) rfl rfl (by kernel_rfl) ?_
        refine WL.nil ?_
        refine WQ.then ?_
        refine hK61 _ _ _ ?_
        refine WC.seq fun K65 hK65 => ?_
        refine WC.region ?_
        refine WL.pure (v := .iface 53 (.pointer (some ⟨N0, 0, none⟩))) 40 rfl (Nat.le_of_ble_eq_true rfl) rfl rfl (by kernel_rfl) ?_
        refine WL.pure (v := .bool true) 41 rfl (Nat.le_of_ble_eq_true rfl) rfl rfl (by kernel_rfl) ?_
        refine WL.pure (v := .bool true) 42 rfl (Nat.le_of_ble_eq_true rfl) rfl rfl (by kernel_rfl) ?_
        refine WL.pass 43 rfl (Nat.le_of_ble_eq_true rfl) rfl ?_
        refine WL.pass 44 rfl (Nat.le_of_ble_eq_true rfl) rfl ?_
        refine WL.pure (v := .bool true) 45 rfl (Nat.le_of_ble_eq_true rfl) rfl rfl (by kernel_rfl) ?_
        refine WL.pure (v := .bool true) 46 rfl (Nat.le_of_ble_eq_true rfl) rfl rfl (by kernel_rfl) ?_
        refine WL.pass 47 rfl (Nat.le_of_ble_eq_true rfl) rfl ?_
        refine WL.pass 48 rfl (Nat.le_of_ble_eq_true rfl) rfl ?_
        refine WL.pure (v := .bool true) 49 rfl (Nat.le_of_ble_eq_true rfl) rfl rfl (by kernel_rfl) ?_
        refine WL.pure (v := .bool true) 50 rfl (Nat.le_of_ble_eq_true rfl) rfl rfl (by kernel_rfl) ?_
        refine WL.pass 51 rfl (Nat.le_of_ble_eq_true rfl) rfl ?_
        refine WL.pass 52 rfl (Nat.le_of_ble_eq_true rfl) rfl ?_
        refine WL.pass 53 rfl (Nat.le_of_ble_eq_true rfl) rfl ?_
        refine WL.pure (v := .bool true) 54 rfl (Nat.le_of_ble_eq_true rfl) rfl rfl (by kernel_rfl) ?_
        refine WL.nil ?_
        refine WQ.then ?_
        refine hK65 _ _ _ ?_
        refine WC.sub (l' := [(0, .string (bS l)), (2, vP b3 0), (3, vI 0), (4, .string (bS l)), (5, .string (bS [49])), (6, .bool false), (7, vI v), (8, .iface 53 (.pointer (some ⟨N0, 0, none⟩))), (9, vI u), (10, .nilIface), (11, vP b55 0), (12, .string (bS (tx v u))), (13, vI (te v u)), (21, .bool true), (54, .bool true)]) ⟨rfl, rfl, rfl, rfl, rfl, rfl, rfl, rfl, rfl, rfl, rfl, rfl, rfl, rfl, rfl, trivial⟩ ?_
        refine WC.yes rfl ?_
        refine WC.seq fun K66 hK66 => ?_
        refine WC.region ?_
        refine WL.pure (v := .agg #[vI 0, vI 0]) 55 rfl (Nat.le_of_ble_eq_true rfl) rfl rfl (by kernel_rfl) ?_
        refine WL.storeS (H2 := [.cel b3 #[vI 0, vI 0] 23, .cel b55 #[vI v, vI u] 23]) 0 hH64 rfl rfl rfl rfl rfl rfl sz23 rfl (Nat.le_of_ble_eq_true rfl) rfl rfl ?_
        intro w67 hH68
        refine WL.pure (v := vI 4) 3 rfl (Nat.le_of_ble_eq_true rfl) rfl rfl (by kernel_rfl) ?_
        refine WL.nil ?_
        refine WQ.then ?_
        refine hK66 _ _ _ ?_
        refine WC.ret ?_
        refine WQ.thenRet ?_
        refine WQ.retC2 2 23 3 rfl rfl rfl (HP.loadRow hH68 0 rfl Tryd.underlying23 rfl sz23) ?_
        refine ⟨.inr ⟨fun a b hT => ?_, rfl⟩, HP.below hH68⟩
        obtain ⟨g1, g2, g3, g4⟩ := parse_is hcut hT
        exact hv _ g1
      ·
        refine ⟨_, rfl, ?_⟩
        have hH69 : HP Tr w _ [.cel b3 #[vI 0, vI 0] 23] := HP.call hH51 hb
        refine WL.pure (v := .tuple #[vI u, .iface 53 (.pointer (some ⟨N1, 0, none⟩))]) 27 rfl (Nat.le_of_ble_eq_true rfl) rfl rfl (by kernel_rfl) ?_
        refine WL.pure (v := vI u) 30 rfl (Nat.le_of_ble_eq_true rfl) rfl rfl (by kernel_rfl) ?_
        refine WL.pure (v := .iface 53 (.pointer (some ⟨N1, 0, none⟩))) 31 rfl (Nat.le_of_ble_eq_true rfl) rfl rfl (by kernel_rfl) ?_
        refine WL.pure (v := vI u) 9 rfl (Nat.le_of_ble_eq_true rfl) rfl rfl (by kernel_rfl) ?_
        refine WL.pure (v := .iface 53 (.pointer (some ⟨N1, 0, none⟩))) 10 rfl (Nat.le_of_ble_eq_true rfl) rfl rfl (by kernel_rfl) ?_
        refine WL.nil ?_
        refine WQ.then ?_
        refine hK52 _ _ _ ?_
        refine WC.seq fun K70 hK70 => ?_
        refine WC.region ?_
        refine WL.pure (v := vI v) 32 rfl (Nat.le_of_ble_eq_true rfl) rfl rfl (by kernel_rfl) ?_
        refine WL.pure (v := vI u) 33 rfl (Nat.le_of_ble_eq_true rfl) rfl rfl (by kernel_rfl) ?_
        refine WL.pure (v := .agg #[vI v, vI u]) 34 rfl (Nat.le_of_ble_eq_true rfl) rfl rfl (by kernel_rfl) ?_
        refine WL.alloc (c := #[vI 0, vI 0]) (T := 23) hH69 11 rfl (by decide) rfl rfl (fun b71 => vP b71 0) (by kernel_rfl) (fun b71 w72 hw72 => ?_)
        have hH73 : HP Tr w w72 [.cel b3 #[vI 0, vI 0] 23, .cel b71 #[vI 0, vI 0] 23] := hw72.2
        have nb71 := hw72.1
        clear hw72
        refine WL.storeS (H2 := [.cel b3 #[vI 0, vI 0] 23, .cel b71 #[vI v, vI u] 23]) 1 hH73 rfl rfl rfl rfl rfl rfl sz23 rfl (Nat.le_of_ble_eq_true rfl) rfl rfl ?_
        intro w74 hH75
        refine WL.nil ?_
        refine WQ.then ?_
        refine hK70 _ _ _ ?_
        refine WC.sub (l' := [(0, .string (bS l)), (2, vP b3 0), (3, vI 0), (4, .string (bS l)), (5, .string (bS [49])), (6, .bool false), (7, vI v), (8, .iface 53 (.pointer (some ⟨N0, 0, none⟩))), (9, vI u), (10, .iface 53 (.pointer (some ⟨N1, 0, none⟩))), (11, vP b71 0), (21, .bool true)]) ⟨rfl, rfl, rfl, rfl, rfl, rfl, rfl, rfl, rfl, rfl, rfl, rfl, trivial⟩ ?_
        refine WC.seq fun K76 hK76 => ?_
        refine WC.seq fun K77 hK77 => ?_
        refine WC.region ?_
        refine WL.pure (v := .agg #[vI v, vI u]) 36 rfl (Nat.le_of_ble_eq_true rfl) rfl rfl (x_loadS (cs := [vI v, vI u]) rfl rfl Tryd.underlying23 rfl sz23 (HP.range hH75 1 rfl rfl)) ?_
        refine WL.call (f := 5) (args := #[.agg #[vI v, vI u]]) 37 rfl (Nat.le_of_ble_eq_true rfl) rfl rfl (by kernel_rfl) ?_
        refine (Text_any v u _ (hE.below (HP.below hH75))).mono ?_
        rintro e w78 ⟨rfl, hb79⟩
        refine ⟨_, rfl, ?_⟩
        have hH80 : HP Tr w _ [.cel b3 #[vI 0, vI 0] 23, .cel b71 #[vI v, vI u] 23] := HP.call hH75 hb79
        refine WL.pure (v := .tuple #[.string (bS (tx v u)), vI (te v u)]) 35 rfl (Nat.le_of_ble_eq_true rfl) rfl rfl (by kernel_rfl) ?_
        refine WL.pure (v := .string (bS (tx v u))) 38 rfl (Nat.le_of_ble_eq_true rfl) rfl rfl (by kernel_rfl) ?_
        refine WL.pure (v := vI (te v u)) 39 rfl (Nat.le_of_ble_eq_true rfl) rfl rfl (by kernel_rfl) ?_
        refine WL.pure (v := .string (bS (tx v u))) 12 rfl (Nat.le_of_ble_eq_true rfl) rfl rfl (by kernel_rfl) ?_
        refine WL.pure (v := vI (te v u)) 13 rfl (Nat.le_of_ble_eq_true rfl) rfl rfl (by kernel_rfl) ?_
        refine WL.nil ?_
        refine WQ.then ?_
        refine hK77 _ _ _ ?_
        refine WC.seq fun K81 hK81 => ?_
        refine WC.region ?_
        refine WL.pure (v := .iface 53 (.pointer (some ⟨N0, 0, none⟩))) 40 rfl (Nat.le_of_ble_eq_true rfl) rfl rfl (by kernel_rfl) ?_
        refine WL.pure (v := .bool true) 41 rfl (Nat.le_of_ble_eq_true rfl) rfl rfl (by kernel_rfl) ?_
        refine WL.pure (v := .bool true) 42 rfl (Nat.le_of_ble_eq_true rfl) rfl rfl (by kernel_rfl) ?_
        refine WL.pass 43 rfl (Nat.le_of_ble_eq_true rfl) rfl ?_
        refine WL.pass 44 rfl (Nat.le_of_ble_eq_true rfl) rfl ?_
        refine WL.pure (v := .bool true) 45 rfl (Nat.le_of_ble_eq_true rfl) rfl rfl (by kernel_rfl) ?_
        refine WL.pure (v := .bool true) 46 rfl (Nat.le_of_ble_eq_true rfl) rfl rfl (by kernel_rfl) ?_
        refine WL.pass 47 rfl (Nat.le_of_ble_eq_true rfl) rfl ?_
        refine WL.pass 48 rfl (Nat.le_of_ble_eq_true rfl) rfl ?_
        refine WL.pure (v := .bool true) 49 rfl (Nat.le_of_ble_eq_true rfl) rfl rfl (by kernel_rfl) ?_
        refine WL.pure (v := .bool true) 50 rfl (Nat.le_of_ble_eq_true rfl) rfl rfl (by kernel_rfl) ?_
        refine WL.pass 51 rfl (Nat.le_of_ble_eq_true rfl) rfl ?_
        refine WL.pass 52 rfl (Nat.le_of_ble_eq_true rfl) rfl ?_
        refine WL.pass 53 rfl (Nat.le_of_ble_eq_true rfl) rfl ?_
        refine WL.pure (v := .bool true) 54 rfl (Nat.le_of_ble_eq_true rfl) rfl rfl (by kernel_rfl) ?_
        refine WL.nil ?_
        refine WQ.then ?_
        refine hK81 _ _ _ ?_
        refine WC.sub (l' := [(0, .string (bS l)), (2, vP b3 0), (3, vI 0), (4, .string (bS l)), (5, .string (bS [49])), (6, .bool false), (7, vI v), (8, .iface 53 (.pointer (some ⟨N0, 0, none⟩))), (9, vI u), (10, .iface 53 (.pointer (some ⟨N1, 0, none⟩))), (11, vP b71 0), (12, .string (bS (tx v u))), (13, vI (te v u)), (21, .bool true), (54, .bool true)]) ⟨rfl, rfl, rfl, rfl, rfl, rfl, rfl, rfl, rfl, rfl, rfl, rfl, rfl, rfl, rfl, trivial⟩ ?_
        refine WC.yes rfl ?_
        refine WC.seq fun K82 hK82 => ?_
        refine WC.region ?_
        refine WL.pure (v := .agg #[vI 0, vI 0]) 55 rfl (Nat.le_of_ble_eq_true rfl) rfl rfl (by kernel_rfl) ?_
        refine WL.storeS (H2 := [.cel b3 #[vI 0, vI 0] 23, .cel b71 #[vI v, vI u] 23]) 0 hH80 rfl rfl rfl rfl rfl rfl sz23 rfl (Nat.le_of_ble_eq_true rfl) rfl rfl ?_
        intro w83 hH84
        refine WL.pure (v := vI 4) 3 rfl (Nat.le_of_ble_eq_true rfl) rfl rfl (by kernel_rfl) ?_
        refine WL.nil ?_
        refine WQ.then ?_
        refine hK82 _ _ _ ?_
        refine WC.ret ?_
        refine WQ.thenRet ?_
        refine WQ.retC2 2 23 3 rfl rfl rfl (HP.loadRow hH84 0 rfl Tryd.underlying23 rfl sz23) ?_
        refine ⟨.inr ⟨fun a b hT => ?_, rfl⟩, HP.below hH84⟩
        obtain ⟨g1, g2, g3, g4⟩ := parse_is hcut hT
        exact hv _ g1
  ·
    refine ⟨_, rfl, ?_⟩
    have hH85 : HP Tr w _ [.cel b3 #[vI 0, vI 0] 23] := HP.call hH5 hb
    have hcut : CutOf l l1 l2 := .inr ⟨hl12, hno⟩
    have hl1 : l1.length ≤ 281474976710656 ∧ l2.length ≤ 281474976710656 := by rw [hl12] at hl; simp at hl; omega
    refine WL.pure (v := .tuple #[.string (bS l1), .string (bS l2), .bool true]) 14 rfl (Nat.le_of_ble_eq_true rfl) rfl rfl (by kernel_rfl) ?_
    refine WL.pure (v := .string (bS l1)) 17 rfl (Nat.le_of_ble_eq_true rfl) rfl rfl (by kernel_rfl) ?_
    refine WL.pure (v := .string (bS l2)) 18 rfl (Nat.le_of_ble_eq_true rfl) rfl rfl (by kernel_rfl) ?_
    refine WL.pure (v := .bool true) 19 rfl (Nat.le_of_ble_eq_true rfl) rfl rfl (by kernel_rfl) ?_
    refine WL.pure (v := .string (bS l1)) 4 rfl (Nat.le_of_ble_eq_true rfl) rfl rfl (by kernel_rfl) ?_
    refine WL.pure (v := .string (bS l2)) 5 rfl (Nat.le_of_ble_eq_true rfl) rfl rfl (by kernel_rfl) ?_
    refine WL.pure (v := .bool true) 6 rfl (Nat.le_of_ble_eq_true rfl) rfl rfl (by kernel_rfl) ?_
    refine WL.nil ?_
    refine WQ.then ?_
    refine hK6 _ _ _ ?_
    refine WC.sub (l' := [(0, .string (bS l)), (2, vP b3 0), (3, vI 0), (4, .string (bS l1)), (5, .string (bS l2)), (6, .bool true)]) ⟨rfl, rfl, rfl, rfl, rfl, rfl, trivial⟩ ?_
    refine WC.seq fun K86 hK86 => ?_
    refine WC.seq fun K87 hK87 => ?_
    refine WC.region ?_
    refine WL.pure (v := .bool true) 20 rfl (Nat.le_of_ble_eq_true rfl) rfl rfl (by kernel_rfl) ?_
    refine WL.pure (v := .bool false) 21 rfl (Nat.le_of_ble_eq_true rfl) rfl rfl (by kernel_rfl) ?_
    refine WL.nil ?_
    refine WQ.then ?_
    refine hK87 _ _ _ ?_
    refine WC.no rfl ?_
    refine WC.skip ?_
    refine WQ.then ?_
    refine hK86 _ _ _ ?_
    refine WC.seq fun K88 hK88 => ?_
    refine WC.region ?_
    refine WL.pure (v := .string (bS l1)) 23 rfl (Nat.le_of_ble_eq_true rfl) rfl rfl (by kernel_rfl) ?_
    refine WL.call (f := 14) (args := #[.string (bS l1)]) 24 rfl (Nat.le_of_ble_eq_true rfl) rfl rfl (by kernel_rfl) ?_
    refine (atoi_any l1 _ hl1.1 (hE.below (HP.below hH85))).mono ?_
    rintro e w2 (⟨v, hv, rfl, hb⟩ | ⟨v, N0, hv, rfl, hb⟩)
    ·
      refine ⟨_, rfl, ?_⟩
      have hH89 : HP Tr w _ [.cel b3 #[vI 0, vI 0] 23] := HP.call hH85 hb
      refine WL.pure (v := .tuple #[vI v, .nilIface]) 22 rfl (Nat.le_of_ble_eq_true rfl) rfl rfl (by kernel_rfl) ?_
      refine WL.pure (v := vI v) 25 rfl (Nat.le_of_ble_eq_true rfl) rfl rfl (by kernel_rfl) ?_
      refine WL.pure (v := .nilIface) 26 rfl (Nat.le_of_ble_eq_true rfl) rfl rfl (by kernel_rfl) ?_
      refine WL.pure (v := vI v) 7 rfl (Nat.le_of_ble_eq_true rfl) rfl rfl (by kernel_rfl) ?_
      refine WL.pure (v := .nilIface) 8 rfl (Nat.le_of_ble_eq_true rfl) rfl rfl (by kernel_rfl) ?_
      refine WL.nil ?_
      refine WQ.then ?_
      refine hK88 _ _ _ ?_
      refine WC.sub (l' := [(0, .string (bS l)), (2, vP b3 0), (3, vI 0), (4, .string (bS l1)), (5, .string (bS l2)), (6, .bool true), (7, vI v), (8, .nilIface), (21, .bool false)]) ⟨rfl, rfl, rfl, rfl, rfl, rfl, rfl, rfl, rfl, trivial⟩ ?_
      refine WC.seq fun K90 hK90 => ?_
      refine WC.region ?_
      refine WL.pure (v := .string (bS l2)) 28 rfl (Nat.le_of_ble_eq_true rfl) rfl rfl (by kernel_rfl) ?_
      refine WL.call (f := 14) (args := #[.string (bS l2)]) 29 rfl (Nat.le_of_ble_eq_true rfl) rfl rfl (by kernel_rfl) ?_
      refine (atoi_any l2 _ hl1.2 (hE.below (HP.below hH89))).mono ?_
      rintro e w2 (⟨u, hu, rfl, hb⟩ | ⟨u, N1, hu, rfl, hb⟩)
      ·
        refine ⟨_, rfl, ?_⟩
        have hH91 : HP Tr w _ [.cel b3 #[vI 0, vI 0] 23] := HP.call hH89 hb
        refine WL.pure (v := .tuple #[vI u, .nilIface]) 27 rfl (Nat.le_of_ble_eq_true rfl) rfl rfl (by kernel_rfl) ?_
        refine WL.pure (v := vI u) 30 rfl (Nat.le_of_ble_eq_true rfl) rfl rfl (by kernel_rfl) ?_
        refine WL.pure (v := .nilIface) 31 rfl (Nat.le_of_ble_eq_true rfl) rfl rfl (by kernel_rfl) ?_
        refine WL.pure (v := vI u) 9 rfl (Nat.le_of_ble_eq_true rfl) rfl rfl (by kernel_rfl) ?_
        refine WL.pure (v := .nilIface) 10 rfl (Nat.le_of_ble_eq_true rfl) rfl rfl (by kernel_rfl) ?_
        refine WL.nil ?_
        refine WQ.then ?_
        refine hK90 _ _ _ ?_
        refine WC.seq fun K92 hK92 => ?_
        refine WC.region ?_
        refine WL.pure (v := vI v) 32 rfl (Nat.le_of_ble_eq_true rfl) rfl rfl (by kernel_rfl) ?_
        refine WL.pure (v := vI u) 33 rfl (Nat.le_of_ble_eq_true rfl) rfl rfl (by kernel_rfl) ?_
        refine WL.pure (v := .agg #[vI v, vI u]) 34 rfl (Nat.le_of_ble_eq_true rfl) rfl rfl (by kernel_rfl) ?_
        refine WL.alloc (c := #[vI 0, vI 0]) (T := 23) hH91 11 rfl (by decide) rfl rfl (fun b93 => vP b93 0) (by kernel_rfl) (fun b93 w94 hw94 => ?_)
        have hH95 : HP Tr w w94 [.cel b3 #[vI 0, vI 0] 23, .cel b93 #[vI 0, vI 0] 23] := hw94.2
        have nb93 := hw94.1
        clear hw94
        refine WL.storeS (H2 := [.cel b3 #[vI 0, vI 0] 23, .cel b93 #[vI v, vI u] 23]) 1 hH95 rfl rfl rfl rfl rfl rfl sz23 rfl (Nat.le_of_ble_eq_true rfl) rfl rfl ?_
        intro w96 hH97
        refine WL.nil ?_
        refine WQ.then ?_
        refine hK92 _ _ _ ?_
        refine WC.sub (l' := [(0, .string (bS l)), (2, vP b3 0), (3, vI 0), (4, .string (bS l1)), (5, .string (bS l2)), (6, .bool true), (7, vI v), (8, .nilIface), (9, vI u), (10, .nilIface), (11, vP b93 0), (21, .bool false)]) ⟨rfl, rfl, rfl, rfl, rfl, rfl, rfl, rfl, rfl, rfl, rfl, rfl, trivial⟩ ?_
        refine WC.seq fun K98 hK98 => ?_
        refine WC.seq fun K99 hK99 => ?_
        refine WC.region ?_
        refine WL.pure (v := .agg #[vI v, vI u]) 36 rfl (Nat.le_of_ble_eq_true rfl) rfl rfl (x_loadS (cs := [vI v, vI u]) rfl rfl Tryd.underlying23 rfl sz23 (HP.range hH97 1 rfl rfl)) ?_
        refine WL.call (f := 5) (args := #[.agg #[vI v, vI u]]) 37 rfl (Nat.le_of_ble_eq_true rfl) rfl rfl (by kernel_rfl) ?_
        refine (Text_any v u _ (hE.below (HP.below hH97))).mono ?_
        rintro e w100 ⟨rfl, hb101⟩
        refine ⟨_, rfl, ?_⟩
        have hH102 : HP Tr w _ [.cel b3 #[vI 0, vI 0] 23, .cel b93 #[vI v, vI u] 23] := HP.call hH97 hb101
        refine WL.pure (v := .tuple #[.string (bS (tx v u)), vI (te v u)]) 35 rfl (Nat.le_of_ble_eq_true rfl) rfl rfl (by kernel_rfl) ?_
        refine WL.pure (v := .string (bS (tx v u))) 38 rfl (Nat.le_of_ble_eq_true rfl) rfl rfl (by kernel_rfl) ?_
        refine WL.pure (v := vI (te v u)) 39 rfl (Nat.le_of_ble_eq_true rfl) rfl rfl (by kernel_rfl) ?_
        refine WL.pure (v := .string (bS (tx v u))) 12 rfl (Nat.le_of_ble_eq_true rfl) rfl rfl (by kernel_rfl) ?_
        refine WL.pure (v := vI (te v u)) 13 rfl (Nat.le_of_ble_eq_true rfl) rfl rfl (by kernel_rfl) ?_
        refine WL.nil ?_
        refine WQ.then ?_
        refine hK99 _ _ _ ?_
        refine WC.seq fun K103 hK103 => ?_
        refine WC.region ?_
        refine WL.pure (v := .nilIface) 40 rfl (Nat.le_of_ble_eq_true rfl) rfl rfl (by kernel_rfl) ?_
        refine WL.pure (v := .bool false) 41 rfl (Nat.le_of_ble_eq_true rfl) rfl rfl (by kernel_rfl) ?_
        refine WL.pure (v := .bool false) 42 rfl (Nat.le_of_ble_eq_true rfl) rfl rfl (by kernel_rfl) ?_
        refine WL.pure (v := .nilIface) 43 rfl (Nat.le_of_ble_eq_true rfl) rfl rfl (by kernel_rfl) ?_
        refine WL.pure (v := .bool false) 44 rfl (Nat.le_of_ble_eq_true rfl) rfl rfl (by kernel_rfl) ?_
        refine WL.pure (v := .bool false) 45 rfl (Nat.le_of_ble_eq_true rfl) rfl rfl (by kernel_rfl) ?_
        refine WL.pure (v := .bool false) 46 rfl (Nat.le_of_ble_eq_true rfl) rfl rfl (by kernel_rfl) ?_
        refine WL.pure (v := vI (te v u)) 47 rfl (Nat.le_of_ble_eq_true rfl) rfl rfl (by kernel_rfl) ?_
        by_cases hte : te v u ≠ 0
        ·
          refine WL.pure (v := .bool true) 48 rfl (Nat.le_of_ble_eq_true rfl) rfl rfl (x_neq rfl rfl rfl (dT (hte))) ?_
          refine WL.pure (v := .bool true) 49 rfl (Nat.le_of_ble_eq_true rfl) rfl rfl (by kernel_rfl) ?_
          refine WL.pure (v := .bool true) 50 rfl (Nat.le_of_ble_eq_true rfl) rfl rfl (by kernel_rfl) ?_
          refine WL.pass 51 rfl (Nat.le_of_ble_eq_true rfl) rfl ?_
          refine WL.pass 52 rfl (Nat.le_of_ble_eq_true rfl) rfl ?_
          refine WL.pass 53 rfl (Nat.le_of_ble_eq_true rfl) rfl ?_
          refine WL.pure (v := .bool true) 54 rfl (Nat.le_of_ble_eq_true rfl) rfl rfl (by kernel_rfl) ?_
          refine WL.nil ?_
          refine WQ.then ?_
          refine hK103 _ _ _ ?_
          refine WC.sub (l' := [(0, .string (bS l)), (2, vP b3 0), (3, vI 0), (4, .string (bS l1)), (5, .string (bS l2)), (6, .bool true), (7, vI v), (8, .nilIface), (9, vI u), (10, .nilIface), (11, vP b93 0), (12, .string (bS (tx v u))), (13, vI (te v u)), (21, .bool false), (54, .bool true)]) ⟨rfl, rfl, rfl, rfl, rfl, rfl, rfl, rfl, rfl, rfl, rfl, rfl, rfl, rfl, rfl, trivial⟩ ?_
          refine WC.yes rfl ?_
          refine WC.seq fun K104 hK104 => ?_
          refine WC.region ?_
          refine WL.pure (v := .agg #[vI 0, vI 0]) 55 rfl (Nat.le_of_ble_eq_true rfl) rfl rfl (by kernel_rfl) ?_
          refine WL.storeS (H2 := [.cel b3 #[vI 0, vI 0] 23, .cel b93 #[vI v, vI u] 23]) 0 hH102 rfl rfl rfl rfl rfl rfl sz23 rfl (Nat.le_of_ble_eq_true rfl) rfl rfl ?_
          intro w105 hH106
          refine WL.pure (v := vI 4) 3 rfl (Nat.le_of_ble_eq_true rfl) rfl rfl (by kernel_rfl) ?_
          refine WL.nil ?_
          refine WQ.then ?_
          refine hK104 _ _ _ ?_
          refine WC.ret ?_
          refine WQ.thenRet ?_
          refine WQ.retC2 2 23 3 rfl rfl rfl (HP.loadRow hH106 0 rfl Tryd.underlying23 rfl sz23) ?_
          refine ⟨.inr ⟨fun a b hT => ?_, rfl⟩, HP.below hH106⟩
          obtain ⟨g1, g2, g3, g4⟩ := parse_is hcut hT
          rw [hv] at g1; rw [hu] at g2; cases g1; cases g2
          exact hte (by rw [g3])
        ·
          refine WL.pure (v := .bool false) 48 rfl (Nat.le_of_ble_eq_true rfl) rfl rfl (x_neq rfl rfl rfl (dF (hte))) ?_
          refine WL.pure (v := .bool false) 49 rfl (Nat.le_of_ble_eq_true rfl) rfl rfl (by kernel_rfl) ?_
          refine WL.pure (v := .bool false) 50 rfl (Nat.le_of_ble_eq_true rfl) rfl rfl (by kernel_rfl) ?_
          refine WL.pure (v := .string (bS (tx v u))) 51 rfl (Nat.le_of_ble_eq_true rfl) rfl rfl (by kernel_rfl) ?_
          refine WL.pure (v := .string (bS l)) 52 rfl (Nat.le_of_ble_eq_true rfl) rfl rfl (by kernel_rfl) ?_
          by_cases htx : (tx v u) = l
          ·
            refine WL.pure (v := .bool false) 53 rfl (Nat.le_of_ble_eq_true rfl) rfl rfl (x_neqs rfl rfl rfl (dF (fun h => h (congrArg bS htx)))) ?_
            refine WL.pure (v := .bool false) 54 rfl (Nat.le_of_ble_eq_true rfl) rfl rfl (by kernel_rfl) ?_
            refine WL.nil ?_
            refine WQ.then ?_
            refine hK103 _ _ _ ?_
            refine WC.sub (l' := [(0, .string (bS l)), (2, vP b3 0), (3, vI 0), (4, .string (bS l1)), (5, .string (bS l2)), (6, .bool true), (7, vI v), (8, .nilIface), (9, vI u), (10, .nilIface), (11, vP b93 0), (12, .string (bS (tx v u))), (13, vI (te v u)), (21, .bool false), (54, .bool false)]) ⟨rfl, rfl, rfl, rfl, rfl, rfl, rfl, rfl, rfl, rfl, rfl, rfl, rfl, rfl, rfl, trivial⟩ ?_
            refine WC.no rfl ?_
            refine WC.skip ?_
            refine WQ.then ?_
            refine hK98 _ _ _ ?_
            refine WC.seq fun K107 hK107 => ?_
            refine WC.region ?_
            refine WL.pure (v := .agg #[vI v, vI u]) 56 rfl (Nat.le_of_ble_eq_true rfl) rfl rfl (x_loadS (cs := [vI v, vI u]) rfl rfl Tryd.underlying23 rfl sz23 (HP.range hH102 1 rfl rfl)) ?_
            refine WL.storeS (H2 := [.cel b3 #[vI v, vI u] 23, .cel b93 #[vI v, vI u] 23]) 0 hH102 rfl rfl rfl rfl rfl rfl sz23 rfl (Nat.le_of_ble_eq_true rfl) rfl rfl ?_
            intro w108 hH109
            refine WL.pure (v := vI 0) 3 rfl (Nat.le_of_ble_eq_true rfl) rfl rfl (by kernel_rfl) ?_
            refine WL.nil ?_
            refine WQ.then ?_
            refine hK107 _ _ _ ?_
            refine WC.ret ?_
            refine WQ.retC2 2 23 3 rfl rfl rfl (HP.loadRow hH109 0 rfl Tryd.underlying23 rfl sz23) ?_
            exact ⟨.inl ⟨v, u, ⟨(te0 (Decidable.not_not.1 hte)).1, (te0 (a := v) (b := u) (Decidable.not_not.1 hte)).2.symm.trans htx⟩, rfl⟩, HP.below hH109⟩
          ·
            refine WL.pure (v := .bool true) 53 rfl (Nat.le_of_ble_eq_true rfl) rfl rfl (x_neqs rfl rfl rfl (dT (fun h => htx (bS_inj h)))) ?_
            refine WL.pure (v := .bool true) 54 rfl (Nat.le_of_ble_eq_true rfl) rfl rfl (by kernel_rfl) ?_
            refine WL.nil ?_
            refine WQ.then ?_
            refine hK103 _ _ _ ?_
            refine WC.sub (l' := [(0, .string (bS l)), (2, vP b3 0), (3, vI 0), (4, .string (bS l1)), (5, .string (bS l2)), (6, .bool true), (7, vI v), (8, .nilIface), (9, vI u), (10, .nilIface), (11, vP b93 0), (12, .string (bS (tx v u))), (13, vI (te v u)), (21, .bool false), (54, .bool true)]) ⟨rfl, rfl, rfl, rfl, rfl, rfl, rfl, rfl, rfl, rfl, rfl, rfl, rfl, rfl, rfl, trivial⟩ ?_
            refine WC.yes rfl ?_
            refine WC.seq fun K110 hK110 => ?_
            refine WC.region ?_
            refine WL.pure (v := .agg #[vI 0, vI 0]) 55 rfl (Nat.le_of_ble_eq_true rfl) rfl rfl (by kernel_rfl) ?_
            refine WL.storeS (H2 := [.cel b3 #[vI 0, vI 0] 23, .cel b93 #[vI v, vI u] 23]) 0 hH102 rfl rfl rfl rfl rfl rfl sz23 rfl (Nat.le_of_ble_eq_true rfl) rfl rfl ?_
            intro w111 hH112
            refine WL.pure (v := vI 4) 3 rfl (Nat.le_of_ble_eq_true rfl) rfl rfl (by kernel_rfl) ?_
            refine WL.nil ?_
            refine WQ.then ?_
            refine hK110 _ _ _ ?_
            refine WC.ret ?_
            refine WQ.thenRet ?_
            refine WQ.retC2 2 23 3 rfl rfl rfl (HP.loadRow hH112 0 rfl Tryd.underlying23 rfl sz23) ?_
            refine ⟨.inr ⟨fun a b hT => ?_, rfl⟩, HP.below hH112⟩
            obtain ⟨g1, g2, g3, g4⟩ := parse_is hcut hT
            rw [hv] at g1; rw [hu] at g2; cases g1; cases g2
            exact htx g4
      ·
        refine ⟨_, rfl, ?_⟩
        have hH113 : HP Tr w _ [.cel b3 #[vI 0, vI 0] 23] := HP.call hH89 hb
        refine WL.pure (v := .tuple #[vI u, .iface 53 (.pointer (some ⟨N1, 0, none⟩))]) 27 rfl (Nat.le_of_ble_eq_true rfl) rfl rfl (by kernel_rfl) ?_
        refine WL.pure (v := vI u) 30 rfl (Nat.le_of_ble_eq_true rfl) rfl rfl (by kernel_rfl) ?_
        refine WL.pure (v := .iface 53 (.pointer (some ⟨N1, 0, none⟩))) 31 rfl (Nat.le_of_ble_eq_true rfl) rfl rfl (by kernel_rfl) ?_
        refine WL.pure (v := vI u) 9 rfl (Nat.le_of_ble_eq_true rfl) rfl rfl (by kernel_rfl) ?_
        refine WL.pure (v := .iface 53 (.pointer (some ⟨N1, 0, none⟩))) 10 rfl (Nat.le_of_ble_eq_true rfl) rfl rfl (by kernel_rfl) ?_
        refine WL.nil ?_
        refine WQ.then ?_
        refine hK90 _ _ _ ?_
        refine WC.seq fun K114 hK114 => ?_
        refine WC.region ?_
        refine WL.pure (v := vI v) 32 rfl (Nat.le_of_ble_eq_true rfl) rfl rfl (by kernel_rfl) ?_
        refine WL.pure (v := vI u) 33 rfl (Nat.le_of_ble_eq_true rfl) rfl rfl (by kernel_rfl) ?_
        refine WL.pure (v := .agg #[vI v, vI u]) 34 rfl (Nat.le_of_ble_eq_true rfl) rfl rfl (by kernel_rfl) ?_
        refine WL.alloc (c := #[vI 0, vI 0]) (T := 23) hH113 11 rfl (by decide) rfl rfl (fun b115 => vP b115 0) (by kernel_rfl) (fun b115 w116 hw116 => ?_)
        have hH117 : HP Tr w w116 [.cel b3 #[vI 0, vI 0] 23, .cel b115 #[vI 0, vI 0] 23] := hw116.2
        have nb115 := hw116.1
        clear hw116
        refine WL.storeS (H2 := [.cel b3 #[vI 0, vI 0] 23, .cel b115 #[vI v, vI u] 23]) 1 hH117 rfl rfl rfl rfl rfl rfl sz23 rfl (Nat.le_of_ble_eq_true rfl) rfl rfl ?_
        intro w118 hH119
        refine WL.nil ?_
        refine WQ.then ?_
        refine hK114 _ _ _ ?_
        refine WC.sub (l' := [(0, .string (bS l)), (2, vP b3 0), (3, vI 0), (4, .string (bS l1)), (5, .string (bS l2)), (6, .bool true), (7, vI v), (8, .nilIface), (9, vI u), (10, .iface 53 (.pointer (some ⟨N1, 0, none⟩))), (11, vP b115 0), (21, .bool false)]) ⟨rfl, rfl, rfl, rfl, rfl, rfl, rfl, rfl, rfl, rfl, rfl, rfl, trivial⟩ ?_
        refine WC.seq fun K120 hK120 => ?_
        refine WC.seq fun K121 hK121 => ?_
        refine WC.region ?_
        refine WL.pure (v := .agg #[vI v, vI u]) 36 rfl (Nat.le_of_ble_eq_true rfl) rfl rfl (x_loadS (cs := [vI v, vI u]) rfl rfl Tryd.underlying23 rfl sz23 (HP.range hH119 1 rfl rfl)) ?_
        refine WL.call (f := 5) (args := #[.agg #[vI v, vI u]]) 37 rfl (Nat.le_of_ble_eq_true rfl) rfl rfl (by kernel_rfl) ?_
        refine (Text_any v u _ (hE.below (HP.below hH119))).mono ?_
        rintro e w122 ⟨rfl, hb123⟩
        refine ⟨_, rfl, ?_⟩
        have hH124 : HP Tr w _ [.cel b3 #[vI 0, vI 0] 23, .cel b115 #[vI v, vI u] 23] := HP.call hH119 hb123
        refine WL.pure (v := .tuple #[.string (bS (tx v u)), vI (te v u)]) 35 rfl (Nat.le_of_ble_eq_true rfl) rfl rfl (by kernel_rfl) ?_
        refine WL.pure (v := .string (bS (tx v u))) 38 rfl (Nat.le_of_ble_eq_true rfl) rfl rfl (by kernel_rfl) ?_
        refine WL.pure (v := vI (te v u)) 39 rfl (Nat.le_of_ble_eq_true rfl) rfl rfl (by kernel_rfl) ?_
        refine WL.pure (v := .string (bS (tx v u))) 12 rfl (Nat.le_of_ble_eq_true rfl) rfl rfl (by kernel_rfl) ?_
        refine WL.pure (v := vI (te v u)) 13 rfl (Nat.le_of_ble_eq_true rfl) rfl rfl (by kernel_rfl) ?_
        refine WL.nil ?_
        refine WQ.then ?_
        refine hK121 _ _ _ ?_
        refine WC.seq fun K125 hK125 => ?_
        refine WC.region ?_
        refine WL.pure (v := .nilIface) 40 rfl (Nat.le_of_ble_eq_true rfl) rfl rfl (by kernel_rfl) ?_
        refine WL.pure (v := .bool false) 41 rfl (Nat.le_of_ble_eq_true rfl) rfl rfl (by kernel_rfl) ?_
        refine WL.pure (v := .bool false) 42 rfl (Nat.le_of_ble_eq_true rfl) rfl rfl (by kernel_rfl) ?_
        refine WL.pure (v := .iface 53 (.pointer (some ⟨N1, 0, none⟩))) 43 rfl (Nat.le_of_ble_eq_true rfl) rfl rfl (by kernel_rfl) ?_
        refine WL.pure (v := .bool true) 44 rfl (Nat.le_of_ble_eq_true rfl) rfl rfl (by kernel_rfl) ?_
        refine WL.pure (v := .bool true) 45 rfl (Nat.le_of_ble_eq_true rfl) rfl rfl (by kernel_rfl) ?_
        refine WL.pure (v := .bool true) 46 rfl (Nat.le_of_ble_eq_true rfl) rfl rfl (by kernel_rfl) ?_
        refine WL.pass 47 rfl (Nat.le_of_ble_eq_true rfl) rfl ?_
        refine WL.pass 48 rfl (Nat.le_of_ble_eq_true rfl) rfl ?_
        refine WL.pure (v := .bool true) 49 rfl (Nat.le_of_ble_eq_true rfl) rfl rfl (by kernel_rfl) ?_
        refine WL.pure (v := .bool true) 50 rfl (Nat.le_of_ble_eq_true rfl) rfl rfl (by kernel_rfl) ?_
        refine WL.pass 51 rfl (Nat.le_of_ble_eq_true rfl) rfl ?_
        refine WL.pass 52 rfl (Nat.le_of_ble_eq_true rfl) rfl ?_
        refine WL.pass 53 rfl (Nat.le_of_ble_eq_true rfl) rfl ?_
        refine WL.pure (v := .bool true) 54 rfl (Nat.le_of_ble_eq_true rfl) rfl rfl (by kernel_rfl) ?_
        refine WL.nil ?_
        refine WQ.then ?_
        refine hK125 _ _ _ ?_
        refine WC.sub (l' := [(0, .string (bS l)), (2, vP b3 0), (3, vI 0), (4, .string (bS l1)), (5, .string (bS l2)), (6, .bool true), (7, vI v), (8, .nilIface), (9, vI u), (10, .iface 53 (.pointer (some ⟨N1, 0, none⟩))), (11, vP b115 0), (12, .string (bS (tx v u))), (13, vI (te v u)), (21, .bool false), (54, .bool true)]) ⟨rfl, rfl, rfl, rfl, rfl, rfl, rfl, rfl, rfl, rfl, rfl, rfl, rfl, rfl, rfl, trivial⟩ ?_
        refine WC.yes rfl ?_
        refine WC.seq fun K126 hK126 => ?_
        refine WC.region ?_
        refine WL.pure (v := .agg #[vI 0, vI 0]) 55 rfl (Nat.le_of_ble_eq_true rfl) rfl rfl (by kernel_rfl) ?_
        refine WL.storeS (H2 := [.cel b3 #[vI 0, vI 0] 23, .cel b115 #[vI v, vI u] 23]) 0 hH124 rfl rfl rfl rfl rfl rfl sz23 rfl (Nat.le_of_ble_eq_true rfl) rfl rfl ?_
        intro w127 hH128
        refine WL.pure (v := vI 4) 3 rfl (Nat.le_of_ble_eq_true rfl) rfl rfl (by kernel_rfl) ?_
        refine WL.nil ?_
        refine WQ.then ?_
        refine hK126 _ _ _ ?_
        refine WC.ret ?_
        refine WQ.thenRet ?_
        refine WQ.retC2 2 23 3 rfl rfl rfl (HP.loadRow hH128 0 rfl Tryd.underlying23 rfl sz23) ?_
        refine ⟨.inr ⟨fun a b hT => ?_, rfl⟩, HP.below hH128⟩
        obtain ⟨g1, g2, g3, g4⟩ := parse_is hcut hT
        exact hu _ g2
    ·
      refine ⟨_, rfl, ?_⟩
      have hH129 : HP Tr w _ [.cel b3 #[vI 0, vI 0] 23] := HP.call hH85 hb
      refine WL.pure (v := .tuple #[vI v, .iface 53 (.pointer (some ⟨N0, 0, none⟩))]) 22 rfl (Nat.le_of_ble_eq_true rfl) rfl rfl (by kernel_rfl) ?_
      refine WL.pure (v := vI v) 25 rfl (Nat.le_of_ble_eq_true rfl) rfl rfl (by kernel_rfl) ?_
      refine WL.pure (v := .iface 53 (.pointer (some ⟨N0, 0, none⟩))) 26 rfl (Nat.le_of_ble_eq_true rfl) rfl rfl (by kernel_rfl) ?_
      refine WL.pure (v := vI v) 7 rfl (Nat.le_of_ble_eq_true rfl) rfl rfl (by kernel_rfl) ?_
      refine WL.pure (v := .iface 53 (.pointer (some ⟨N0, 0, none⟩))) 8 rfl (Nat.le_of_ble_eq_true rfl) rfl rfl (by kernel_rfl) ?_
      refine WL.nil ?_
      refine WQ.then ?_
      refine hK88 _ _ _ ?_
      refine WC.sub (l' := [(0, .string (bS l)), (2, vP b3 0), (3, vI 0), (4, .string (bS l1)), (5, .string (bS l2)), (6, .bool true), (7, vI v), (8, .iface 53 (.pointer (some ⟨N0, 0, none⟩))), (21, .bool false)]) ⟨rfl, rfl, rfl, rfl, rfl, rfl, rfl, rfl, rfl, trivial⟩ ?_
      refine WC.seq fun K130 hK130 => ?_
      refine WC.region ?_
      refine WL.pure (v := .string (bS l2)) 28 rfl (Nat.le_of_ble_eq_true rfl) rfl rfl (by kernel_rfl) ?_
      refine WL.call (f := 14) (args := #[.string (bS l2)]) 29 rfl (Nat.le_of_ble_eq_true rfl) rfl rfl (by kernel_rfl) ?_
      refine (atoi_any l2 _ hl1.2 (hE.below (HP.below hH129))).mono ?_
      rintro e w2 (⟨u, hu, rfl, hb⟩ | ⟨u, N1, hu, rfl, hb⟩)
      ·
        refine ⟨_, rfl, ?_⟩
        have hH131 : HP Tr w _ [.cel b3 #[vI 0, vI 0] 23] := HP.call hH129 hb
        refine WL.pure (v := .tuple #[vI u, .nilIface]) 27 rfl (Nat.le_of_ble_eq_true rfl) rfl rfl (by kernel_rfl) ?_
        refine WL.pure (v := vI u) 30 rfl (Nat.le_of_ble_eq_true rfl) rfl rfl (by kernel_rfl) ?_
        refine WL.pure (v := .nilIface) 31 rfl (Nat.le_of_ble_eq_true rfl) rfl rfl (by kernel_rfl) ?_
        refine WL.pure (v := vI u) 9 rfl (Nat.le_of_ble_eq_true rfl) rfl rfl (by kernel_rfl) ?_
        refine WL.pure (v := .nilIface) 10 rfl (Nat.le_of_ble_eq_true rfl) rfl rfl (by kernel_rfl) ?_
        refine WL.nil ?_
        refine WQ.then ?_
        refine hK130 _ _ _ ?_
        refine WC.seq fun K132 hK132 => ?_
        refine WC.region ?_
        refine WL.pure (v := vI v) 32 rfl (Nat.le_of_ble_eq_true rfl) rfl rfl (by kernel_rfl) ?_
        refine WL.pure (v := vI u) 33 rfl (Nat.le_of_ble_eq_true rfl) rfl rfl (by kernel_rfl) ?_
        refine WL.pure (v := .agg #[vI v, vI u]) 34 rfl (Nat.le_of_ble_eq_true rfl) rfl rfl (by kernel_rfl) ?_
        refine WL.alloc (c := #[vI 0, vI 0]) (T := 23) hH131 11 rfl (by decide) rfl rfl (fun b133 => vP b133 0) (by kernel_rfl) (fun b133 w134 hw134 => ?_)
        have hH135 : HP Tr w w134 [.cel b3 #[vI 0, vI 0] 23, .cel b133 #[vI 0, vI 0] 23] := hw134.2
        have nb133 := hw134.1
        clear hw134
        refine WL.storeS (H2 := [.cel b3 #[vI 0, vI 0] 23, .cel b133 #[vI v, vI u] 23]) 1 hH135 rfl rfl rfl rfl rfl rfl sz23 rfl (Nat.le_of_ble_eq_true rfl) rfl rfl ?_
        intro w136 hH137
        refine WL.nil ?_
        refine WQ.then ?_
        refine hK132 _ _ _ ?_
        refine WC.sub (l' := [(0, .string (bS l)), (2, vP b3 0), (3, vI 0), (4, .string (bS l1)), (5, .string (bS l2)), (6, .bool true), (7, vI v), (8, .iface 53 (.pointer (some ⟨N0, 0, none⟩))), (9, vI u), (10, .nilIface), (11, vP b133 0), (21, .bool false)]) ⟨rfl, rfl, rfl, rfl, rfl, rfl, rfl, rfl, rfl, rfl, rfl, rfl, trivial⟩ ?_
        refine WC.seq fun K138 hK138 => ?_
        refine WC.seq fun K139 hK139 => ?_
        refine WC.region ?_
        refine WL.pure (v := .agg #[vI v, vI u]) 36 rfl (Nat.le_of_ble_eq_true rfl) rfl rfl (x_loadS (cs := [vI v, vI u]) rfl rfl Tryd.underlying23 rfl sz23 (HP.range hH137 1 rfl rfl)) ?_
        refine WL.call (f := 5) (args := #[.agg #[vI v, vI u]]) 37 rfl (Nat.le_of_ble_eq_true rfl) rfl rfl (by kernel_rfl) ?_
        refine (Text_any v u _ (hE.below (HP.below hH137))).mono ?_
        rintro e w140 ⟨rfl, hb141⟩
        refine ⟨_, rfl, ?_⟩
        have hH142 : HP Tr w _ [.cel b3 #[vI 0, vI 0] 23, .cel b133 #[vI v, vI u] 23] := HP.call hH137 hb141
        refine WL.pure (v := .tuple #[.string (bS (tx v u)), vI (te v u)]) 35 rfl (Nat.le_of_ble_eq_true rfl) rfl rfl (by kernel_rfl) ?_
        refine WL.pure (v := .string (bS (tx v u))) 38 rfl (Nat.le_of_ble_eq_true rfl) rfl rfl (by kernel_rfl) ?_
        refine WL.pure (v := vI (te v u)) 39 rfl (Nat.le_of_ble_eq_true rfl) rfl rfl (by kernel_rfl) ?_
        refine WL.pure (v := .string (bS (tx v u))) 12 rfl (Nat.le_of_ble_eq_true rfl) rfl rfl (by kernel_rfl) ?_
        refine WL.pure (v := vI (te v u)) 13 rfl (Nat.le_of_ble_eq_true rfl) rfl rfl (by kernel_rfl) ?_
        refine WL.nil ?_
        refine WQ.then ?_
        refine hK139 _ _ _ ?_
        refine WC.seq fun K143 hK143 => ?_
        refine WC.region ?_
        refine WL.pure (v := .iface 53 (.pointer (some ⟨N0, 0, none⟩))) 40 rfl (Nat.le_of_ble_eq_true rfl) rfl rfl (by kernel_rfl) ?_
        refine WL.pure (v := .bool true) 41 rfl (Nat.le_of_ble_eq_true rfl) rfl rfl (by kernel_rfl) ?_
        refine WL.pure (v := .bool true) 42 rfl (Nat.le_of_ble_eq_true rfl) rfl rfl (by kernel_rfl) ?_
        refine WL.pass 43 rfl (Nat.le_of_ble_eq_true rfl) rfl ?_
        refine WL.pass 44 rfl (Nat.le_of_ble_eq_true rfl) rfl ?_
        refine WL.pure (v := .bool true) 45 rfl (Nat.le_of_ble_eq_true rfl) rfl rfl (by kernel_rfl) ?_
        refine WL.pure (v := .bool true) 46 rfl (Nat.le_of_ble_eq_true rfl) rfl rfl (by kernel_rfl) ?_
        refine WL.pass 47 rfl (Nat.le_of_ble_eq_true rfl) rfl ?_
        refine WL.pass 48 rfl (Nat.le_of_ble_eq_true rfl) rfl ?_
        refine WL.pure (v := .bool true) 49 rfl (Nat.le_of_ble_eq_true rfl) rfl rfl (by kernel_rfl) ?_
        refine WL.pure (v := .bool true) 50 rfl (Nat.le_of_ble_eq_true rfl) rfl rfl (by kernel_rfl) ?_
        refine WL.pass 51 rfl (Nat.le_of_ble_eq_true rfl) rfl ?_
        refine WL.pass 52 rfl (Nat.le_of_ble_eq_true rfl) rfl ?_
        refine WL.pass 53 rfl (Nat.le_of_ble_eq_true rfl) rfl ?_
        refine WL.pure (v := .bool true) 54 rfl (Nat.le_of_ble_eq_true rfl) rfl rfl (by kernel_rfl) ?_
        refine WL.nil ?_
        refine WQ.then ?_
        refine hK143 _ _ _ ?_
        refine WC.sub (l' := [(0, .string (bS l)), (2, vP b3 0), (3, vI 0), (4, .string (bS l1)), (5, .string (bS l2)), (6, .bool true), (7, vI v), (8, .iface 53 (.pointer (some ⟨N0, 0, none⟩))), (9, vI u), (10, .nilIface), (11, vP b133 0), (12, .string (bS (tx v u))), (13, vI (te v u)), (21, .bool false), (54, .bool true)]) ⟨rfl, rfl, rfl, rfl, rfl, rfl, rfl, rfl, rfl, rfl, rfl, rfl, rfl, rfl, rfl, trivial⟩ ?_
        refine WC.yes rfl ?_
        refine WC.seq fun K144 hK144 => ?_
        refine WC.region ?_
        refine WL.pure (v := .agg #[vI 0, vI 0]) 55 rfl (Nat.le_of_ble_eq_true rfl) rfl rfl (by kernel_rfl) ?_
        refine WL.storeS (H2 := [.cel b3 #[vI 0, vI 0] 23, .cel b133 #[vI v, vI u] 23]) 0 hH142 rfl rfl rfl rfl rfl rfl sz23 rfl (Nat.le_of_ble_eq_true rfl) rfl rfl ?_
        intro w145 hH146
        refine WL.pure (v := vI 4) 3 rfl (Nat.le_of_ble_eq_true rfl) rfl rfl (by kernel_rfl) ?_
        refine WL.nil ?_
        refine WQ.then ?_
        refine hK144 _ _ _ ?_
        refine WC.ret ?_
        refine WQ.thenRet ?_
        refine WQ.retC2 2 23 3 rfl rfl rfl (HP.loadRow hH146 0 rfl Tryd.underlying23 rfl sz23) ?_
        refine ⟨.inr ⟨fun a b hT => ?_, rfl⟩, HP.below hH146⟩
        obtain ⟨g1, g2, g3, g4⟩ := parse_is hcut hT
        exact hv _ g1
      ·
        refine ⟨_, rfl, ?_⟩
        have hH147 : HP Tr w _ [.cel b3 #[vI 0, vI 0] 23] := HP.call hH129 hb
        refine WL.pure (v := .tuple #[vI u, .iface 53 (.pointer (some ⟨N1, 0, none⟩))]) 27 rfl (Nat.le_of_ble_eq_true rfl) rfl rfl (by kernel_rfl) ?_
        refine WL.pure (v := vI u) 30 rfl (Nat.le_of_ble_eq_true rfl) rfl rfl (by kernel_rfl) ?_
        refine WL.pure (v := .iface 53 (.pointer (some ⟨N1, 0, none⟩))) 31 rfl (Nat.le_of_ble_eq_true rfl) rfl rfl (by kernel_rfl) ?_
        refine WL.pure (v := vI u) 9 rfl (Nat.le_of_ble_eq_true rfl) rfl rfl (by kernel_rfl) ?_
        refine WL.pure (v := .iface 53 (.pointer (some ⟨N1, 0, none⟩))) 10 rfl (Nat.le_of_ble_eq_true rfl) rfl rfl (by kernel_rfl) ?_
        refine WL.nil ?_
        refine WQ.then ?_
        refine hK130 _ _ _ ?_
        refine WC.seq fun K148 hK148 => ?_
        refine WC.region ?_
        refine WL.pure (v := vI v) 32 rfl (Nat.le_of_ble_eq_true rfl) rfl rfl (by kernel_rfl) ?_
        refine WL.pure (v := vI u) 33 rfl (Nat.le_of_ble_eq_true rfl) rfl rfl (by kernel_rfl) ?_
        refine WL.pure (v := .agg #[vI v, vI u]) 34 rfl (Nat.le_of_ble_eq_true rfl) rfl rfl (by kernel_rfl) ?_
        refine WL.alloc (c := #[vI 0, vI 0]) (T := 23) hH147 11 rfl (by decide) rfl rfl (fun b149 => vP b149 0) (by kernel_rfl) (fun b149 w150 hw150 => ?_)
        have hH151 : HP Tr w w150 [.cel b3 #[vI 0, vI 0] 23, .cel b149 #[vI 0, vI 0] 23] := hw150.2
        have nb149 := hw150.1
        clear hw150
        refine WL.storeS (H2 := [.cel b3 #[vI 0, vI 0] 23, .cel b149 #[vI v, vI u] 23]) 1 hH151 rfl rfl rfl rfl rfl rfl sz23 rfl (Nat.le_of_ble_eq_true rfl) rfl rfl ?_
        intro w152 hH153
        refine WL.nil ?_
        refine WQ.then ?_
        refine hK148 _ _ _ ?_
        refine WC.sub (l' := [(0, .string (bS l)), (2, vP b3 0), (3, vI 0), (4, .string (bS l1)), (5, .string (bS l2)), (6, .bool true), (7, vI v), (8, .iface 53 (.pointer (some ⟨N0, 0, none⟩))), (9, vI u), (10, .iface 53 (.pointer (some ⟨N1, 0, none⟩))), (11, vP b149 0), (21, .bool false)]) ⟨rfl, rfl, rfl, rfl, rfl, rfl, rfl, rfl, rfl, rfl, rfl, rfl, trivial⟩ ?_
        refine WC.seq fun K154 hK154 => ?_
        refine WC.seq fun K155 hK155 => ?_
        refine WC.region ?_
        refine WL.pure (v := .agg #[vI v, vI u]) 36 rfl (Nat.le_of_ble_eq_true rfl) rfl rfl (x_loadS (cs := [vI v, vI u]) rfl rfl Tryd.underlying23 rfl sz23 (HP.range hH153 1 rfl rfl)) ?_
        refine WL.call (f := 5) (args := #[.agg #[vI v, vI u]]) 37 rfl (Nat.le_of_ble_eq_true rfl) rfl rfl (by kernel_rfl) ?_
        refine (Text_any v u _ (hE.below (HP.below hH153))).mono ?_
        rintro e w156 ⟨rfl, hb157⟩
        refine ⟨_, rfl, ?_⟩
        have hH158 : HP Tr w _ [.cel b3 #[vI 0, vI 0] 23, .cel b149 #[vI v, vI u] 23] := HP.call hH153 hb157
        refine WL.pure (v := .tuple #[.string (bS (tx v u)), vI (te v u)]) 35 rfl (Nat.le_of_ble_eq_true rfl) rfl rfl (by kernel_rfl) ?_
        refine WL.pure (v := .string (bS (tx v u))) 38 rfl (Nat.le_of_ble_eq_true rfl) rfl rfl (by kernel_rfl) ?_
        refine WL.pure (v := vI (te v u)) 39 rfl (Nat.le_of_ble_eq_true rfl) rfl rfl (by kernel_rfl) ?_
        refine WL.pure (v := .string (bS (tx v u))) 12 rfl (Nat.le_of_ble_eq_true rfl) rfl rfl (by kernel_rfl) ?_
        refine WL.pure (v := vI (te v u)) 13 rfl (Nat.le_of_ble_eq_true rfl) rfl rfl (by kernel_rfl) ?_
        refine WL.nil ?_
        refine WQ.then ?_
        refine hK155 _ _ _ ?_
        refine WC.seq fun K159 hK159 => ?_
        refine WC.region ?_
        refine WL.pure (v := .iface 53 (.pointer (some ⟨N0, 0, none⟩))) 40 rfl (Nat.le_of_ble_eq_true rfl) rfl rfl (by kernel_rfl) ?_
        refine WL.pure (v := .bool true) 41 rfl (Nat.le_of_ble_eq_true rfl) rfl rfl (by kernel_rfl) ?_
        refine WL.pure (v := .bool true) 42 rfl (Nat.le_of_ble_eq_true rfl) rfl rfl (by kernel_rfl) ?_
        refine WL.pass 43 rfl (Nat.le_of_ble_eq_true rfl) rfl ?_
        refine WL.pass 44 rfl (Nat.le_of_ble_eq_true rfl) rfl ?_
        refine WL.pure (v := .bool true) 45 rfl (Nat.le_of_ble_eq_true rfl) rfl rfl (by kernel_rfl) ?_
        refine WL.pure (v := .bool true) 46 rfl (Nat.le_of_ble_eq_true rfl) rfl rfl (by kernel_rfl) ?_
        refine WL.pass 47 rfl (Nat.le_of_ble_eq_true rfl) rfl ?_
        refine WL.pass 48 rfl (Nat.le_of_ble_eq_true rfl) rfl ?_
        refine WL.pure (v := .bool true) 49 rfl (Nat.le_of_ble_eq_true rfl) rfl rfl (by kernel_rfl) ?_
        refine WL.pure (v := .bool true) 50 rfl (Nat.le_of_ble_eq_true rfl) rfl rfl (by kernel_rfl) ?_
        refine WL.pass 51 rfl (Nat.le_of_ble_eq_true rfl) rfl ?_
        refine WL.pass 52 rfl (Nat.le_of_ble_eq_true rfl) rfl ?_
        refine WL.pass 53 rfl (Nat.le_of_ble_eq_true rfl) rfl ?_
        refine WL.pure (v := .bool true) 54 rfl (Nat.le_of_ble_eq_true rfl) rfl rfl (by kernel_rfl) ?_
        refine WL.nil ?_
        refine WQ.then ?_
        refine hK159 _ _ _ ?_
        refine WC.sub (l' := [(0, .string (bS l)), (2, vP b3 0), (3, vI 0), (4, .string (bS l1)), (5, .string (bS l2)), (6, .bool true), (7, vI v), (8, .iface 53 (.pointer (some ⟨N0, 0, none⟩))), (9, vI u), (10, .iface 53 (.pointer (some ⟨N1, 0, none⟩))), (11, vP b149 0), (12, .string (bS (tx v u))), (13, vI (te v u)), (21, .bool false), (54, .bool true)]) ⟨rfl, rfl, rfl, rfl, rfl, rfl, rfl, rfl, rfl, rfl, rfl, rfl, rfl, rfl, rfl, trivial⟩ ?_
        refine WC.yes rfl ?_
        refine WC.seq fun K160 hK160 => ?_
        refine WC.region ?_
        refine WL.pure (v := .agg #[vI 0, vI 0]) 55 rfl (Nat.le_of_ble_eq_true rfl) rfl rfl (by kernel_rfl) ?_
        refine WL.storeS (H2 := [.cel b3 #[vI 0, vI 0] 23, .cel b149 #[vI v, vI u] 23]) 0 hH158 rfl rfl rfl rfl rfl rfl sz23 rfl (Nat.le_of_ble_eq_true rfl) rfl rfl ?_
        intro w161 hH162
        refine WL.pure (v := vI 4) 3 rfl (Nat.le_of_ble_eq_true rfl) rfl rfl (by kernel_rfl) ?_
        refine WL.nil ?_
        refine WQ.then ?_
        refine hK160 _ _ _ ?_
        refine WC.ret ?_
        refine WQ.thenRet ?_
        refine WQ.retC2 2 23 3 rfl rfl rfl (HP.loadRow hH162 0 rfl Tryd.underlying23 rfl sz23) ?_
        refine ⟨.inr ⟨fun a b hT => ?_, rfl⟩, HP.below hH162⟩
        obtain ⟨g1, g2, g3, g4⟩ := parse_is hcut hT
        exact hv _ g1
set_option maxRecDepth 20000 in
set_option maxHeartbeats 4000000 in
theorem rParse_any (l : List UInt8) (w : World) (hl : l.length ≤ 281474976710656) (hE : Ev w) :
    Calls Tryd.prog 9 #[.string (bS l)] w (ParseP l w) := by
  refine calls_of Tryd.func9 rfl (m := 79) rfl [(0, .string (bS l))] (Fr_enter [.string (bS l)] 79 (Nat.le_of_ble_eq_true rfl)) ?_
  have hH1 : HP Tr w w [] := HP.refl w
  refine WC.seq fun K2 hK2 => ?_
  refine WC.region ?_
  refine WL.alloc (c := #[vI 0, vI 0]) (T := 23) hH1 2 rfl (by decide) rfl rfl (fun b3 => vP b3 0) (by kernel_rfl) (fun b3 w4 hw4 => ?_)
  have hH5 : HP Tr w w4 [.cel b3 #[vI 0, vI 0] 23] := hw4.2
  have nb3 := hw4.1
  clear hw4
  refine WL.pure (v := vI 0) 3 rfl (Nat.le_of_ble_eq_true rfl) rfl rfl (by kernel_rfl) ?_
  refine WL.nil ?_
  refine WQ.then ?_
  refine hK2 _ _ _ ?_
  refine WC.seq fun K6 hK6 => ?_
  refine WC.region ?_
  refine WL.pure (v := .string (bS l)) 11 rfl (Nat.le_of_ble_eq_true rfl) rfl rfl (by kernel_rfl) ?_
  refine WL.pure (v := .string (bS l)) 4 rfl (Nat.le_of_ble_eq_true rfl) rfl rfl (by kernel_rfl) ?_
  refine WL.nil ?_
  refine WQ.then ?_
  refine hK6 _ _ _ ?_
  refine WC.seq fun K7 hK7 => ?_
  refine WC.region ?_
  refine WL.pure (v := vI 1) 5 rfl (Nat.le_of_ble_eq_true rfl) rfl rfl (by kernel_rfl) ?_
  refine WL.nil ?_
  refine WQ.then ?_
  refine hK7 _ _ _ ?_
  refine WC.seq fun K8 hK8 => ?_
  refine WC.seq fun K9 hK9 => ?_
  refine WC.region ?_
  refine WL.pure (v := .string (bS l)) 12 rfl (Nat.le_of_ble_eq_true rfl) rfl rfl (by kernel_rfl) ?_
  refine WL.pure (v := vI (l.length : Int)) 13 rfl (Nat.le_of_ble_eq_true rfl) rfl rfl (x_slen (l) rfl rfl rfl Tryd.underlying9) ?_
  by_cases hlen : (0 : Int) < (l.length : Int)
  ·
    refine WL.pure (v := .bool true) 14 rfl (Nat.le_of_ble_eq_true rfl) rfl rfl (x_gtr rfl rfl rfl (dT (hlen))) ?_
    refine WL.pure (v := .bool true) 15 rfl (Nat.le_of_ble_eq_true rfl) rfl rfl (by kernel_rfl) ?_
    refine WL.pure (v := .string (bS l)) 16 rfl (Nat.le_of_ble_eq_true rfl) rfl rfl (by kernel_rfl) ?_
    obtain ⟨c0, r0, rfl⟩ : ∃ c0 r0, l = c0 :: r0 := by
      cases l with
      | nil => simp at hlen
      | cons c0 r0 => exact ⟨c0, r0, rfl⟩
    refine WL.pure (v := .int .u8 (c0.toNat : Int)) 17 rfl (Nat.le_of_ble_eq_true rfl) rfl rfl (x_sidx (c0 :: r0) 0 c0 rfl rfl rfl Tryd.underlying9 rfl rfl) ?_
    by_cases hsg : (c0.toNat : Int) = 45
    ·
      have hc45 : c0 = 45 := UInt8.toNat_inj.1 (by simpa using (by omega : c0.toNat = 45))
      refine WL.pure (v := .bool true) 18 rfl (Nat.le_of_ble_eq_true rfl) rfl rfl (x_eql rfl rfl rfl (dT (hsg))) ?_
      refine WL.pure (v := .bool true) 19 rfl (Nat.le_of_ble_eq_true rfl) rfl rfl (by kernel_rfl) ?_
      refine WL.nil ?_
      refine WQ.then ?_
      refine hK9 _ _ _ ?_
      refine WC.sub (l' := [(0, .string (bS (c0 :: r0))), (2, vP b3 0), (3, vI 0), (4, .string (bS (c0 :: r0))), (5, vI 1), (19, .bool true)]) ⟨rfl, rfl, rfl, rfl, rfl, rfl, trivial⟩ ?_
      refine WC.yes rfl ?_
      refine WC.seq fun K10 hK10 => ?_
      refine WC.region ?_
      refine WL.pure (v := vI (-1)) 5 rfl (Nat.le_of_ble_eq_true rfl) rfl rfl (by kernel_rfl) ?_
      refine WL.nil ?_
      refine WQ.then ?_
      refine hK10 _ _ _ ?_
      refine WC.region ?_
      refine WL.pure (v := .string (bS (c0 :: r0))) 20 rfl (Nat.le_of_ble_eq_true rfl) rfl rfl (by kernel_rfl) ?_
      refine WL.pure (v := .string (bS ((c0 :: r0).drop 1))) 21 rfl (Nat.le_of_ble_eq_true rfl) rfl rfl (x_slo ((c0 :: r0)) (1) rfl rfl rfl Tryd.underlying9 (by omega) (by omega)) ?_
      refine WL.pure (v := .string (bS ((c0 :: r0).drop 1))) 4 rfl (Nat.le_of_ble_eq_true rfl) rfl rfl (by kernel_rfl) ?_
      refine WL.nil ?_
      refine WQ.then ?_
      refine hK8 _ _ _ ?_
      refine WC.seq fun K11 hK11 => ?_
      have hS : Sgn (c0 :: r0) r0 (-1) := .inl ⟨rfl, by rw [hc45]⟩
      have htl : r0.length ≤ 281474976710656 := by simp at hl; omega
      refine WC.region ?_
      refine WL.pure (v := .agg #[vI 0, vI 1]) 22 rfl (Nat.le_of_ble_eq_true rfl) rfl rfl (by kernel_rfl) ?_
      refine WL.alloc (c := #[vI 0, vI 0]) (T := 23) hH5 6 rfl (by decide) rfl rfl (fun b2 => vP b2 0) (by kernel_rfl) (fun b2 w12 hw12 => ?_)
      have hH13 : HP Tr w w12 [.cel b3 #[vI 0, vI 0] 23, .cel b2 #[vI 0, vI 0] 23] := hw12.2
      have nb2 := hw12.1
      clear hw12
      refine WL.storeS (H2 := [.cel b3 #[vI 0, vI 0] 23, .cel b2 #[vI 0, vI 1] 23]) 1 hH13 rfl rfl rfl rfl rfl rfl sz23 rfl (Nat.le_of_ble_eq_true rfl) rfl rfl ?_
      intro w14 hH15
      refine WL.nil ?_
      refine WQ.then ?_
      refine hK11 _ _ _ ?_
      refine WC.seq fun K16 hK16 => ?_
      refine WC.region ?_
      refine WL.pure (v := .string (bS r0)) 23 rfl (Nat.le_of_ble_eq_true rfl) rfl rfl (by kernel_rfl) ?_
      refine WL.pure (v := vI (r0.length : Int)) 24 rfl (Nat.le_of_ble_eq_true rfl) rfl rfl (x_slen (r0) rfl rfl rfl Tryd.underlying9) ?_
      refine WL.pure (v := vI (r0.length : Int)) 7 rfl (Nat.le_of_ble_eq_true rfl) rfl rfl (by kernel_rfl) ?_
      refine WL.nil ?_
      refine WQ.then ?_
      refine hK16 _ _ _ ?_
      refine WC.sub (l' := [(0, .string (bS (c0 :: r0))), (2, vP b3 0), (3, vI 0), (4, .string (bS r0)), (5, vI (-1)), (6, vP b2 0), (7, vI (r0.length : Int)), (19, .bool true)]) ⟨rfl, rfl, rfl, rfl, rfl, rfl, rfl, rfl, trivial⟩ ?_
      refine WC.seq fun K17 hK17 => ?_
      refine WC.seq fun K18 hK18 => ?_
      refine WC.region ?_
      refine WL.pure (v := vI 0) 8 rfl (Nat.le_of_ble_eq_true rfl) rfl rfl (by kernel_rfl) ?_
      refine WL.nil ?_
      refine WQ.then ?_
      refine hK18 _ _ _ ?_
      refine WC.block ?_
      refine WC.loop (fun kk0 ll0 ww0 => ∃ (i : Nat) (c : Nat), ll0 = [(0, .string (bS (c0 :: r0))), (2, vP b3 0), (4, .string (bS r0)), (5, vI (-1)), (6, vP b2 0), (7, vI (c : Int)), (8, vI (i : Int))] ∧ kk0 = r0.length - i ∧ (i ≤ r0.length) ∧ (At47 r0 i c) ∧ HP Tr w ww0 [.cel b3 #[vI 0, vI 0] 23, .cel b2 #[vI 0, vI 1] 23]) (r0.length) [(0, .string (bS (c0 :: r0))), (2, vP b3 0), (4, .string (bS r0)), (5, vI (-1)), (6, vP b2 0), (7, vI (r0.length : Int)), (8, vI 0)] ⟨rfl, rfl, rfl, rfl, rfl, rfl, rfl, trivial⟩ ⟨0, r0.length, rfl, rfl, Nat.zero_le _, .inl ⟨rfl, fun j hj => absurd hj (Nat.not_lt_zero j)⟩, hH15⟩ ?_
      rintro kk l w20 ⟨i, c, rfl, hkk, hi, hc, hH21⟩ K19 hK19
      refine WC.seq fun K22 hK22 => ?_
      refine WC.seq fun K23 hK23 => ?_
      refine WC.region ?_
      refine WL.pure (v := vI (i : Int)) 25 rfl (Nat.le_of_ble_eq_true rfl) rfl rfl (by kernel_rfl) ?_
      refine WL.pure (v := .string (bS r0)) 26 rfl (Nat.le_of_ble_eq_true rfl) rfl rfl (by kernel_rfl) ?_
      refine WL.pure (v := vI (r0.length : Int)) 27 rfl (Nat.le_of_ble_eq_true rfl) rfl rfl (x_slen (r0) rfl rfl rfl Tryd.underlying9) ?_
      by_cases hlt : (i : Int) < (r0.length : Int)
      ·
        refine WL.pure (v := .bool true) 28 rfl (Nat.le_of_ble_eq_true rfl) rfl rfl (x_lss rfl rfl rfl (dT (hlt))) ?_
        refine WL.nil ?_
        refine WQ.then ?_
        refine hK23 _ _ _ ?_
        refine WC.yes rfl ?_
        refine WC.skip ?_
        refine WQ.then ?_
        refine hK22 _ _ _ ?_
        refine WC.seq fun K24 hK24 => ?_
        refine WC.block ?_
        refine WC.seq fun K25 hK25 => ?_
        have hlt' : i < r0.length := by omega
        obtain ⟨b, hb2⟩ : ∃ b, r0[i]? = some b := ⟨r0[i], List.getElem?_eq_getElem hlt'⟩
        refine WC.region ?_
        refine WL.pure (v := .string (bS r0)) 31 rfl (Nat.le_of_ble_eq_true rfl) rfl rfl (by kernel_rfl) ?_
        refine WL.pure (v := vI (i : Int)) 32 rfl (Nat.le_of_ble_eq_true rfl) rfl rfl (by kernel_rfl) ?_
        refine WL.pure (v := .int .u8 (b.toNat : Int)) 33 rfl (Nat.le_of_ble_eq_true rfl) rfl rfl (x_sidx r0 i b rfl rfl rfl Tryd.underlying9 rfl hb2) ?_
        by_cases hy : (b.toNat : Int) = 47
        ·
          have hy' : b.toNat = 47 := by omega
          refine WL.pure (v := .bool true) 34 rfl (Nat.le_of_ble_eq_true rfl) rfl rfl (x_eql rfl rfl rfl (dT (hy))) ?_
          refine WL.pure (v := .bool true) 35 rfl (Nat.le_of_ble_eq_true rfl) rfl rfl (by kernel_rfl) ?_
          refine WL.pure (v := vI (c : Int)) 36 rfl (Nat.le_of_ble_eq_true rfl) rfl rfl (by kernel_rfl) ?_
          refine WL.pure (v := .string (bS r0)) 37 rfl (Nat.le_of_ble_eq_true rfl) rfl rfl (by kernel_rfl) ?_
          refine WL.pure (v := vI (r0.length : Int)) 38 rfl (Nat.le_of_ble_eq_true rfl) rfl rfl (x_slen (r0) rfl rfl rfl Tryd.underlying9) ?_
          by_cases hf : (c : Int) = (r0.length : Int)
          ·
            refine WL.pure (v := .bool true) 39 rfl (Nat.le_of_ble_eq_true rfl) rfl rfl (x_eql rfl rfl rfl (dT (hf))) ?_
            refine WL.pure (v := .bool true) 40 rfl (Nat.le_of_ble_eq_true rfl) rfl rfl (by kernel_rfl) ?_
            refine WL.nil ?_
            refine WQ.then ?_
            refine hK25 _ _ _ ?_
            refine WC.sub (l' := [(0, .string (bS (c0 :: r0))), (2, vP b3 0), (4, .string (bS r0)), (5, vI (-1)), (6, vP b2 0), (7, vI (c : Int)), (8, vI (i : Int)), (28, .bool true), (40, .bool true)]) ⟨rfl, rfl, rfl, rfl, rfl, rfl, rfl, rfl, rfl, trivial⟩ ?_
            refine WC.yes rfl ?_
            refine WC.region ?_
            refine WL.pure (v := vI (i : Int)) 41 rfl (Nat.le_of_ble_eq_true rfl) rfl rfl (by kernel_rfl) ?_
            refine WL.pure (v := vI (i : Int)) 7 rfl (Nat.le_of_ble_eq_true rfl) rfl rfl (by kernel_rfl) ?_
            refine WL.nil ?_
            refine WQ.inNormal ?_
            refine WQ.then ?_
            refine hK24 _ _ _ ?_
            refine WC.region ?_
            refine WL.pure (v := vI (i : Int)) 29 rfl (Nat.le_of_ble_eq_true rfl) rfl rfl (by kernel_rfl) ?_
            refine WL.pure (v := vI ((i + 1 : Nat) : Int)) 30 rfl (Nat.le_of_ble_eq_true rfl) rfl rfl (x_add (Z := ((i + 1 : Nat) : Int)) rfl rfl rfl (by omega) (by omega) (by omega)) ?_
            refine WL.pure (v := vI ((i + 1 : Nat) : Int)) 8 rfl (Nat.le_of_ble_eq_true rfl) rfl rfl (by kernel_rfl) ?_
            refine WL.nil ?_
            refine WQ.sub (l' := [(0, .string (bS (c0 :: r0))), (2, vP b3 0), (4, .string (bS r0)), (5, vI (-1)), (6, vP b2 0), (7, vI (i : Int)), (8, vI ((i + 1 : Nat) : Int))]) ⟨rfl, rfl, rfl, rfl, rfl, rfl, rfl, trivial⟩ ?_
            refine WQ.then (hK19 _ _ _ (by omega) ⟨i + 1, i, rfl, rfl, by omega, hc.step_y (by omega) (by rw [hb2]; exact congrArg some (UInt8.toNat_inj.1 (by simpa using hy'))), hH21⟩)
          ·
            refine WL.pure (v := .bool false) 39 rfl (Nat.le_of_ble_eq_true rfl) rfl rfl (x_eql rfl rfl rfl (dF (hf))) ?_
            refine WL.pure (v := .bool false) 40 rfl (Nat.le_of_ble_eq_true rfl) rfl rfl (by kernel_rfl) ?_
            refine WL.nil ?_
            refine WQ.then ?_
            refine hK25 _ _ _ ?_
            refine WC.sub (l' := [(0, .string (bS (c0 :: r0))), (2, vP b3 0), (4, .string (bS r0)), (5, vI (-1)), (6, vP b2 0), (7, vI (c : Int)), (8, vI (i : Int)), (28, .bool true), (40, .bool false)]) ⟨rfl, rfl, rfl, rfl, rfl, rfl, rfl, rfl, rfl, trivial⟩ ?_
            refine WC.no rfl ?_
            refine WC.skip ?_
            refine WQ.inNormal ?_
            refine WQ.then ?_
            refine hK24 _ _ _ ?_
            refine WC.region ?_
            refine WL.pure (v := vI (i : Int)) 29 rfl (Nat.le_of_ble_eq_true rfl) rfl rfl (by kernel_rfl) ?_
            refine WL.pure (v := vI ((i + 1 : Nat) : Int)) 30 rfl (Nat.le_of_ble_eq_true rfl) rfl rfl (x_add (Z := ((i + 1 : Nat) : Int)) rfl rfl rfl (by omega) (by omega) (by omega)) ?_
            refine WL.pure (v := vI ((i + 1 : Nat) : Int)) 8 rfl (Nat.le_of_ble_eq_true rfl) rfl rfl (by kernel_rfl) ?_
            refine WL.nil ?_
            refine WQ.sub (l' := [(0, .string (bS (c0 :: r0))), (2, vP b3 0), (4, .string (bS r0)), (5, vI (-1)), (6, vP b2 0), (7, vI (c : Int)), (8, vI ((i + 1 : Nat) : Int))]) ⟨rfl, rfl, rfl, rfl, rfl, rfl, rfl, trivial⟩ ?_
            refine WQ.then (hK19 _ _ _ (by omega) ⟨i + 1, c, rfl, rfl, by omega, hc.step_k (by omega), hH21⟩)
        ·
          refine WL.pure (v := .bool false) 34 rfl (Nat.le_of_ble_eq_true rfl) rfl rfl (x_eql rfl rfl rfl (dF (hy))) ?_
          refine WL.pure (v := .bool false) 35 rfl (Nat.le_of_ble_eq_true rfl) rfl rfl (by kernel_rfl) ?_
          refine WL.pass 36 rfl (Nat.le_of_ble_eq_true rfl) rfl ?_
          refine WL.pass 37 rfl (Nat.le_of_ble_eq_true rfl) rfl ?_
          refine WL.pass 38 rfl (Nat.le_of_ble_eq_true rfl) rfl ?_
          refine WL.pass 39 rfl (Nat.le_of_ble_eq_true rfl) rfl ?_
          refine WL.pure (v := .bool false) 40 rfl (Nat.le_of_ble_eq_true rfl) rfl rfl (by kernel_rfl) ?_
          refine WL.nil ?_
          refine WQ.then ?_
          refine hK25 _ _ _ ?_
          refine WC.sub (l' := [(0, .string (bS (c0 :: r0))), (2, vP b3 0), (4, .string (bS r0)), (5, vI (-1)), (6, vP b2 0), (7, vI (c : Int)), (8, vI (i : Int)), (28, .bool true), (40, .bool false)]) ⟨rfl, rfl, rfl, rfl, rfl, rfl, rfl, rfl, rfl, trivial⟩ ?_
          refine WC.no rfl ?_
          refine WC.skip ?_
          refine WQ.inNormal ?_
          refine WQ.then ?_
          refine hK24 _ _ _ ?_
          refine WC.region ?_
          refine WL.pure (v := vI (i : Int)) 29 rfl (Nat.le_of_ble_eq_true rfl) rfl rfl (by kernel_rfl) ?_
          refine WL.pure (v := vI ((i + 1 : Nat) : Int)) 30 rfl (Nat.le_of_ble_eq_true rfl) rfl rfl (x_add (Z := ((i + 1 : Nat) : Int)) rfl rfl rfl (by omega) (by omega) (by omega)) ?_
          refine WL.pure (v := vI ((i + 1 : Nat) : Int)) 8 rfl (Nat.le_of_ble_eq_true rfl) rfl rfl (by kernel_rfl) ?_
          refine WL.nil ?_
          refine WQ.sub (l' := [(0, .string (bS (c0 :: r0))), (2, vP b3 0), (4, .string (bS r0)), (5, vI (-1)), (6, vP b2 0), (7, vI (c : Int)), (8, vI ((i + 1 : Nat) : Int))]) ⟨rfl, rfl, rfl, rfl, rfl, rfl, rfl, trivial⟩ ?_
          refine WQ.then (hK19 _ _ _ (by omega) ⟨i + 1, c, rfl, rfl, by omega, hc.step_n (fun h => hy (by rw [hb2] at h; cases h; rfl)), hH21⟩)
      ·
        refine WL.pure (v := .bool false) 28 rfl (Nat.le_of_ble_eq_true rfl) rfl rfl (x_lss rfl rfl rfl (dF (hlt))) ?_
        refine WL.nil ?_
        refine WQ.then ?_
        refine hK23 _ _ _ ?_
        refine WC.no rfl ?_
        refine WC.exit ?_
        refine WQ.thenExit ?_
        refine WQ.thenExit ?_
        refine WQ.inExit ?_
        refine WQ.then ?_
        refine hK17 _ _ _ ?_
        refine WC.seq fun K26 hK26 => ?_
        have hie : i = r0.length := by omega
        rw [hie] at hc
        have hcl : c ≤ r0.length := by rcases hc with ⟨h, _⟩ | ⟨h, _⟩ <;> omega
        have hd1 := dgt_bd (r0.take c)
        have hd2 := dgt_bd (r0.drop (c + 1))
        refine WC.region ?_
        refine WL.pure (v := vI (-1)) 42 rfl (Nat.le_of_ble_eq_true rfl) rfl rfl (by kernel_rfl) ?_
        refine WL.pure (v := .string (bS r0)) 43 rfl (Nat.le_of_ble_eq_true rfl) rfl rfl (by kernel_rfl) ?_
        refine WL.pure (v := vI (c : Int)) 44 rfl (Nat.le_of_ble_eq_true rfl) rfl rfl (by kernel_rfl) ?_
        refine WL.pure (v := .string (bS (r0.take c))) 45 rfl (Nat.le_of_ble_eq_true rfl) rfl rfl (x_shi (r0) (c) rfl rfl rfl Tryd.underlying9 (by omega) (by omega)) ?_
        refine WL.call (f := 17) (args := #[.string (bS (r0.take c))]) 46 rfl (Nat.le_of_ble_eq_true rfl) rfl rfl (by kernel_rfl) ?_
        refine (digits_any (r0.take c) _).mono ?_
        rintro e w27 ⟨rfl, hb28⟩
        refine ⟨_, rfl, ?_⟩
        have hH29 : HP Tr w _ [.cel b3 #[vI 0, vI 0] 23, .cel b2 #[vI 0, vI 1] 23] := HP.call hH21 hb28
        refine WL.pure (v := vI ((-1) * dgt (r0.take c))) 47 rfl (Nat.le_of_ble_eq_true rfl) rfl rfl (x_mul (Z := (-1) * dgt (r0.take c)) rfl rfl rfl (rfl) (by omega) (by omega)) ?_
        refine WL.pure (v := vP b2 0) 48 rfl (Nat.le_of_ble_eq_true rfl) rfl rfl (by kernel_rfl) ?_
        refine WL.store (H2 := [.cel b3 #[vI 0, vI 0] 23, .cel b2 #[vI ((-1) * dgt (r0.take c)), vI 1] 23]) 1 hH29 rfl rfl rfl rfl rfl rfl sz3 rfl (Nat.le_of_ble_eq_true rfl) rfl rfl ?_
        intro w30 hH31
        refine WL.nil ?_
        refine WQ.then ?_
        refine hK26 _ _ _ ?_
        refine WC.sub (l' := [(0, .string (bS (c0 :: r0))), (2, vP b3 0), (4, .string (bS r0)), (5, vI (-1)), (6, vP b2 0), (7, vI (c : Int)), (8, vI (i : Int)), (28, .bool false)]) ⟨rfl, rfl, rfl, rfl, rfl, rfl, rfl, rfl, trivial⟩ ?_
        refine WC.seq fun K32 hK32 => ?_
        refine WC.seq fun K33 hK33 => ?_
        refine WC.region ?_
        refine WL.pure (v := .string (bS r0)) 49 rfl (Nat.le_of_ble_eq_true rfl) rfl rfl (by kernel_rfl) ?_
        refine WL.pure (v := vI (c : Int)) 50 rfl (Nat.le_of_ble_eq_true rfl) rfl rfl (by kernel_rfl) ?_
        refine WL.pure (v := .string (bS (r0.take c))) 51 rfl (Nat.le_of_ble_eq_true rfl) rfl rfl (x_shi (r0) (c) rfl rfl rfl Tryd.underlying9 (by omega) (by omega)) ?_
        refine WL.call (f := 17) (args := #[.string (bS (r0.take c))]) 52 rfl (Nat.le_of_ble_eq_true rfl) rfl rfl (by kernel_rfl) ?_
        refine (digits_any (r0.take c) _).mono ?_
        rintro e w34 ⟨rfl, hb35⟩
        refine ⟨_, rfl, ?_⟩
        have hH36 : HP Tr w _ [.cel b3 #[vI 0, vI 0] 23, .cel b2 #[vI ((-1) * dgt (r0.take c)), vI 1] 23] := HP.call hH31 hb35
        by_cases hneg : dgt (r0.take c) < 0
        ·
          refine WL.pure (v := .bool true) 53 rfl (Nat.le_of_ble_eq_true rfl) rfl rfl (x_lss rfl rfl rfl (dT (hneg))) ?_
          refine WL.nil ?_
          refine WQ.then ?_
          refine hK33 _ _ _ ?_
          refine WC.yes rfl ?_
          refine WC.seq fun K37 hK37 => ?_
          refine WC.region ?_
          refine WL.pure (v := .agg #[vI 0, vI 0]) 54 rfl (Nat.le_of_ble_eq_true rfl) rfl rfl (by kernel_rfl) ?_
          refine WL.storeS (H2 := [.cel b3 #[vI 0, vI 0] 23, .cel b2 #[vI ((-1) * dgt (r0.take c)), vI 1] 23]) 0 hH36 rfl rfl rfl rfl rfl rfl sz23 rfl (Nat.le_of_ble_eq_true rfl) rfl rfl ?_
          intro w38 hH39
          refine WL.pure (v := vI 4) 3 rfl (Nat.le_of_ble_eq_true rfl) rfl rfl (by kernel_rfl) ?_
          refine WL.nil ?_
          refine WQ.then ?_
          refine hK37 _ _ _ ?_
          refine WC.ret ?_
          refine WQ.thenRet ?_
          refine WQ.retC2 2 23 3 rfl rfl rfl (HP.loadRow hH39 0 rfl Tryd.underlying23 rfl sz23) ?_
          refine ⟨.inr ⟨fun a b hT => ?_, rfl⟩, HP.below hH39⟩
          obtain ⟨g1, g2, g3, g4, g5, g6⟩ := rparse_is hS hc hT
          omega
        ·
          refine WL.pure (v := .bool false) 53 rfl (Nat.le_of_ble_eq_true rfl) rfl rfl (x_lss rfl rfl rfl (dF (hneg))) ?_
          refine WL.nil ?_
          refine WQ.then ?_
          refine hK33 _ _ _ ?_
          refine WC.no rfl ?_
          refine WC.skip ?_
          refine WQ.then ?_
          refine hK32 _ _ _ ?_
          refine WC.seq fun K40 hK40 => ?_
          refine WC.seq fun K41 hK41 => ?_
          refine WC.region ?_
          refine WL.pure (v := vI (c : Int)) 55 rfl (Nat.le_of_ble_eq_true rfl) rfl rfl (by kernel_rfl) ?_
          refine WL.pure (v := .string (bS r0)) 56 rfl (Nat.le_of_ble_eq_true rfl) rfl rfl (by kernel_rfl) ?_
          refine WL.pure (v := vI (r0.length : Int)) 57 rfl (Nat.le_of_ble_eq_true rfl) rfl rfl (x_slen (r0) rfl rfl rfl Tryd.underlying9) ?_
          by_cases hcut : (c : Int) < (r0.length : Int)
          ·
            refine WL.pure (v := .bool true) 58 rfl (Nat.le_of_ble_eq_true rfl) rfl rfl (x_lss rfl rfl rfl (dT (hcut))) ?_
            refine WL.nil ?_
            refine WQ.then ?_
            refine hK41 _ _ _ ?_
            refine WC.sub (l' := [(0, .string (bS (c0 :: r0))), (2, vP b3 0), (4, .string (bS r0)), (5, vI (-1)), (6, vP b2 0), (7, vI (c : Int)), (8, vI (i : Int)), (28, .bool false), (53, .bool false), (58, .bool true)]) ⟨rfl, rfl, rfl, rfl, rfl, rfl, rfl, rfl, rfl, rfl, trivial⟩ ?_
            refine WC.yes rfl ?_
            refine WC.region ?_
            refine WL.pure (v := .string (bS r0)) 59 rfl (Nat.le_of_ble_eq_true rfl) rfl rfl (by kernel_rfl) ?_
            refine WL.pure (v := vI (c : Int)) 60 rfl (Nat.le_of_ble_eq_true rfl) rfl rfl (by kernel_rfl) ?_
            refine WL.pure (v := vI ((c + 1 : Nat) : Int)) 61 rfl (Nat.le_of_ble_eq_true rfl) rfl rfl (x_add (Z := ((c + 1 : Nat) : Int)) rfl rfl rfl (by omega) (by omega) (by omega)) ?_
            refine WL.pure (v := .string (bS (r0.drop (c + 1)))) 62 rfl (Nat.le_of_ble_eq_true rfl) rfl rfl (x_slo (r0) (c + 1) rfl rfl rfl Tryd.underlying9 (by omega) (by omega)) ?_
            refine WL.call (f := 17) (args := #[.string (bS (r0.drop (c + 1)))]) 63 rfl (Nat.le_of_ble_eq_true rfl) rfl rfl (by kernel_rfl) ?_
            refine (digits_any (r0.drop (c + 1)) _).mono ?_
            rintro e w42 ⟨rfl, hb43⟩
            refine ⟨_, rfl, ?_⟩
            have hH44 : HP Tr w _ [.cel b3 #[vI 0, vI 0] 23, .cel b2 #[vI ((-1) * dgt (r0.take c)), vI 1] 23] := HP.call hH36 hb43
            refine WL.pure (v := vP b2 1) 64 rfl (Nat.le_of_ble_eq_true rfl) rfl rfl (by kernel_rfl) ?_
            refine WL.store (H2 := [.cel b3 #[vI 0, vI 0] 23, .cel b2 #[vI ((-1) * dgt (r0.take c)), vI (dgt (r0.drop (c + 1)))] 23]) 1 hH44 rfl rfl rfl rfl rfl rfl sz3 rfl (Nat.le_of_ble_eq_true rfl) rfl rfl ?_
            intro w45 hH46
            refine WL.nil ?_
            refine WQ.then ?_
            refine hK40 _ _ _ ?_
            refine WC.sub (l' := [(0, .string (bS (c0 :: r0))), (2, vP b3 0), (4, .string (bS r0)), (5, vI (-1)), (6, vP b2 0), (7, vI (c : Int)), (8, vI (i : Int)), (28, .bool false), (53, .bool false), (58, .bool true)]) ⟨rfl, rfl, rfl, rfl, rfl, rfl, rfl, rfl, rfl, rfl, trivial⟩ ?_
            refine WC.seq fun K47 hK47 => ?_
            refine WC.region ?_
            refine WL.pure (v := .agg #[vI ((-1) * dgt (r0.take c)), vI (dgt (r0.drop (c + 1)))]) 66 rfl (Nat.le_of_ble_eq_true rfl) rfl rfl (x_loadS (cs := [vI ((-1) * dgt (r0.take c)), vI (dgt (r0.drop (c + 1)))]) rfl rfl Tryd.underlying23 rfl sz23 (HP.range hH46 1 rfl rfl)) ?_
            refine WL.call (f := 6) (args := #[.agg #[vI ((-1) * dgt (r0.take c)), vI (dgt (r0.drop (c + 1)))]]) 67 rfl (Nat.le_of_ble_eq_true rfl) rfl rfl (by kernel_rfl) ?_
            refine (rText_any ((-1) * dgt (r0.take c)) (dgt (r0.drop (c + 1))) _ (hE.below (HP.below hH46))).mono ?_
            rintro e w48 ⟨rfl, hb49⟩
            refine ⟨_, rfl, ?_⟩
            have hH50 : HP Tr w _ [.cel b3 #[vI 0, vI 0] 23, .cel b2 #[vI ((-1) * dgt (r0.take c)), vI (dgt (r0.drop (c + 1)))] 23] := HP.call hH46 hb49
            refine WL.pure (v := .tuple #[.string (bS (tx ((-1) * dgt (r0.take c)) (dgt (r0.drop (c + 1))))), vI (te ((-1) * dgt (r0.take c)) (dgt (r0.drop (c + 1))))]) 65 rfl (Nat.le_of_ble_eq_true rfl) rfl rfl (by kernel_rfl) ?_
            refine WL.pure (v := .string (bS (tx ((-1) * dgt (r0.take c)) (dgt (r0.drop (c + 1)))))) 68 rfl (Nat.le_of_ble_eq_true rfl) rfl rfl (by kernel_rfl) ?_
            refine WL.pure (v := vI (te ((-1) * dgt (r0.take c)) (dgt (r0.drop (c + 1))))) 69 rfl (Nat.le_of_ble_eq_true rfl) rfl rfl (by kernel_rfl) ?_
            refine WL.pure (v := .string (bS (tx ((-1) * dgt (r0.take c)) (dgt (r0.drop (c + 1)))))) 9 rfl (Nat.le_of_ble_eq_true rfl) rfl rfl (by kernel_rfl) ?_
            refine WL.pure (v := vI (te ((-1) * dgt (r0.take c)) (dgt (r0.drop (c + 1))))) 10 rfl (Nat.le_of_ble_eq_true rfl) rfl rfl (by kernel_rfl) ?_
            refine WL.nil ?_
            refine WQ.then ?_
            refine hK47 _ _ _ ?_
            refine WC.seq fun K51 hK51 => ?_
            refine WC.seq fun K52 hK52 => ?_
            refine WC.region ?_
            refine WL.pure (v := vI (te ((-1) * dgt (r0.take c)) (dgt (r0.drop (c + 1))))) 70 rfl (Nat.le_of_ble_eq_true rfl) rfl rfl (by kernel_rfl) ?_
            by_cases hte : te ((-1) * dgt (r0.take c)) (dgt (r0.drop (c + 1))) ≠ 0
            ·
              refine WL.pure (v := .bool true) 71 rfl (Nat.le_of_ble_eq_true rfl) rfl rfl (x_neq rfl rfl rfl (dT (hte))) ?_
              refine WL.pure (v := .bool true) 72 rfl (Nat.le_of_ble_eq_true rfl) rfl rfl (by kernel_rfl) ?_
              refine WL.pass 73 rfl (Nat.le_of_ble_eq_true rfl) rfl ?_
              refine WL.pass 74 rfl (Nat.le_of_ble_eq_true rfl) rfl ?_
              refine WL.pass 75 rfl (Nat.le_of_ble_eq_true rfl) rfl ?_
              refine WL.pure (v := .bool true) 76 rfl (Nat.le_of_ble_eq_true rfl) rfl rfl (by kernel_rfl) ?_
              refine WL.nil ?_
              refine WQ.then ?_
              refine hK52 _ _ _ ?_
              refine WC.sub (l' := [(0, .string (bS (c0 :: r0))), (2, vP b3 0), (4, .string (bS r0)), (5, vI (-1)), (6, vP b2 0), (7, vI (c : Int)), (8, vI (i : Int)), (9, .string (bS (tx ((-1) * dgt (r0.take c)) (dgt (r0.drop (c + 1)))))), (10, vI (te ((-1) * dgt (r0.take c)) (dgt (r0.drop (c + 1))))), (28, .bool false), (53, .bool false), (58, .bool true), (76, .bool true)]) ⟨rfl, rfl, rfl, rfl, rfl, rfl, rfl, rfl, rfl, rfl, rfl, rfl, rfl, trivial⟩ ?_
              refine WC.yes rfl ?_
              refine WC.seq fun K53 hK53 => ?_
              refine WC.region ?_
              refine WL.pure (v := .agg #[vI 0, vI 0]) 77 rfl (Nat.le_of_ble_eq_true rfl) rfl rfl (by kernel_rfl) ?_
              refine WL.storeS (H2 := [.cel b3 #[vI 0, vI 0] 23, .cel b2 #[vI ((-1) * dgt (r0.take c)), vI (dgt (r0.drop (c + 1)))] 23]) 0 hH50 rfl rfl rfl rfl rfl rfl sz23 rfl (Nat.le_of_ble_eq_true rfl) rfl rfl ?_
              intro w54 hH55
              refine WL.pure (v := vI 4) 3 rfl (Nat.le_of_ble_eq_true rfl) rfl rfl (by kernel_rfl) ?_
              refine WL.nil ?_
              refine WQ.then ?_
              refine hK53 _ _ _ ?_
              refine WC.ret ?_
              refine WQ.thenRet ?_
              refine WQ.retC2 2 23 3 rfl rfl rfl (HP.loadRow hH55 0 rfl Tryd.underlying23 rfl sz23) ?_
              refine ⟨.inr ⟨fun a b hT => ?_, rfl⟩, HP.below hH55⟩
              obtain ⟨g1, g2, g3, g4, g5, g6⟩ := rparse_is hS hc hT
              have g7 : dgt (r0.drop (c + 1)) = b := g3 (by omega)
              rw [g1, g7] at hte
              exact hte g5
            ·
              refine WL.pure (v := .bool false) 71 rfl (Nat.le_of_ble_eq_true rfl) rfl rfl (x_neq rfl rfl rfl (dF (hte))) ?_
              refine WL.pure (v := .bool false) 72 rfl (Nat.le_of_ble_eq_true rfl) rfl rfl (by kernel_rfl) ?_
              refine WL.pure (v := .string (bS (tx ((-1) * dgt (r0.take c)) (dgt (r0.drop (c + 1)))))) 73 rfl (Nat.le_of_ble_eq_true rfl) rfl rfl (by kernel_rfl) ?_
              refine WL.pure (v := .string (bS (c0 :: r0))) 74 rfl (Nat.le_of_ble_eq_true rfl) rfl rfl (by kernel_rfl) ?_
              by_cases htx : (tx ((-1) * dgt (r0.take c)) (dgt (r0.drop (c + 1)))) = (c0 :: r0)
              ·
                refine WL.pure (v := .bool false) 75 rfl (Nat.le_of_ble_eq_true rfl) rfl rfl (x_neqs rfl rfl rfl (dF (fun h => h (congrArg bS htx)))) ?_
                refine WL.pure (v := .bool false) 76 rfl (Nat.le_of_ble_eq_true rfl) rfl rfl (by kernel_rfl) ?_
                refine WL.nil ?_
                refine WQ.then ?_
                refine hK52 _ _ _ ?_
                refine WC.sub (l' := [(0, .string (bS (c0 :: r0))), (2, vP b3 0), (4, .string (bS r0)), (5, vI (-1)), (6, vP b2 0), (7, vI (c : Int)), (8, vI (i : Int)), (9, .string (bS (tx ((-1) * dgt (r0.take c)) (dgt (r0.drop (c + 1)))))), (10, vI (te ((-1) * dgt (r0.take c)) (dgt (r0.drop (c + 1))))), (28, .bool false), (53, .bool false), (58, .bool true), (76, .bool false)]) ⟨rfl, rfl, rfl, rfl, rfl, rfl, rfl, rfl, rfl, rfl, rfl, rfl, rfl, trivial⟩ ?_
                refine WC.no rfl ?_
                refine WC.skip ?_
                refine WQ.then ?_
                refine hK51 _ _ _ ?_
                refine WC.seq fun K56 hK56 => ?_
                refine WC.region ?_
                refine WL.pure (v := .agg #[vI ((-1) * dgt (r0.take c)), vI (dgt (r0.drop (c + 1)))]) 78 rfl (Nat.le_of_ble_eq_true rfl) rfl rfl (x_loadS (cs := [vI ((-1) * dgt (r0.take c)), vI (dgt (r0.drop (c + 1)))]) rfl rfl Tryd.underlying23 rfl sz23 (HP.range hH50 1 rfl rfl)) ?_
                refine WL.storeS (H2 := [.cel b3 #[vI ((-1) * dgt (r0.take c)), vI (dgt (r0.drop (c + 1)))] 23, .cel b2 #[vI ((-1) * dgt (r0.take c)), vI (dgt (r0.drop (c + 1)))] 23]) 0 hH50 rfl rfl rfl rfl rfl rfl sz23 rfl (Nat.le_of_ble_eq_true rfl) rfl rfl ?_
                intro w57 hH58
                refine WL.pure (v := vI 0) 3 rfl (Nat.le_of_ble_eq_true rfl) rfl rfl (by kernel_rfl) ?_
                refine WL.nil ?_
                refine WQ.then ?_
                refine hK56 _ _ _ ?_
                refine WC.ret ?_
                refine WQ.retC2 2 23 3 rfl rfl rfl (HP.loadRow hH58 0 rfl Tryd.underlying23 rfl sz23) ?_
                exact ⟨.inl ⟨_, _, ⟨(te0 (Decidable.not_not.1 hte)).1, (te0 (a := (-1) * dgt (r0.take c)) (b := dgt (r0.drop (c + 1))) (Decidable.not_not.1 hte)).2.symm.trans htx⟩, rfl⟩, HP.below hH58⟩
              ·
                refine WL.pure (v := .bool true) 75 rfl (Nat.le_of_ble_eq_true rfl) rfl rfl (x_neqs rfl rfl rfl (dT (fun h => htx (bS_inj h)))) ?_
                refine WL.pure (v := .bool true) 76 rfl (Nat.le_of_ble_eq_true rfl) rfl rfl (by kernel_rfl) ?_
                refine WL.nil ?_
                refine WQ.then ?_
                refine hK52 _ _ _ ?_
                refine WC.sub (l' := [(0, .string (bS (c0 :: r0))), (2, vP b3 0), (4, .string (bS r0)), (5, vI (-1)), (6, vP b2 0), (7, vI (c : Int)), (8, vI (i : Int)), (9, .string (bS (tx ((-1) * dgt (r0.take c)) (dgt (r0.drop (c + 1)))))), (10, vI (te ((-1) * dgt (r0.take c)) (dgt (r0.drop (c + 1))))), (28, .bool false), (53, .bool false), (58, .bool true), (76, .bool true)]) ⟨rfl, rfl, rfl, rfl, rfl, rfl, rfl, rfl, rfl, rfl, rfl, rfl, rfl, trivial⟩ ?_
                refine WC.yes rfl ?_
                refine WC.seq fun K59 hK59 => ?_
                refine WC.region ?_
                refine WL.pure (v := .agg #[vI 0, vI 0]) 77 rfl (Nat.le_of_ble_eq_true rfl) rfl rfl (by kernel_rfl) ?_
                refine WL.storeS (H2 := [.cel b3 #[vI 0, vI 0] 23, .cel b2 #[vI ((-1) * dgt (r0.take c)), vI (dgt (r0.drop (c + 1)))] 23]) 0 hH50 rfl rfl rfl rfl rfl rfl sz23 rfl (Nat.le_of_ble_eq_true rfl) rfl rfl ?_
                intro w60 hH61
                refine WL.pure (v := vI 4) 3 rfl (Nat.le_of_ble_eq_true rfl) rfl rfl (by kernel_rfl) ?_
                refine WL.nil ?_
                refine WQ.then ?_
                refine hK59 _ _ _ ?_
                refine WC.ret ?_
                refine WQ.thenRet ?_
                refine WQ.retC2 2 23 3 rfl rfl rfl (HP.loadRow hH61 0 rfl Tryd.underlying23 rfl sz23) ?_
                refine ⟨.inr ⟨fun a b hT => ?_, rfl⟩, HP.below hH61⟩
                obtain ⟨g1, g2, g3, g4, g5, g6⟩ := rparse_is hS hc hT
                have g7 : dgt (r0.drop (c + 1)) = b := g3 (by omega)
                rw [g1, g7] at htx
                exact htx g6
          ·
            refine WL.pure (v := .bool false) 58 rfl (Nat.le_of_ble_eq_true rfl) rfl rfl (x_lss rfl rfl rfl (dF (hcut))) ?_
            refine WL.nil ?_
            refine WQ.then ?_
            refine hK41 _ _ _ ?_
            refine WC.sub (l' := [(0, .string (bS (c0 :: r0))), (2, vP b3 0), (4, .string (bS r0)), (5, vI (-1)), (6, vP b2 0), (7, vI (c : Int)), (8, vI (i : Int)), (28, .bool false), (53, .bool false), (58, .bool false)]) ⟨rfl, rfl, rfl, rfl, rfl, rfl, rfl, rfl, rfl, rfl, trivial⟩ ?_
            refine WC.no rfl ?_
            refine WC.skip ?_
            refine WQ.then ?_
            refine hK40 _ _ _ ?_
            refine WC.seq fun K62 hK62 => ?_
            refine WC.region ?_
            refine WL.pure (v := .agg #[vI ((-1) * dgt (r0.take c)), vI 1]) 66 rfl (Nat.le_of_ble_eq_true rfl) rfl rfl (x_loadS (cs := [vI ((-1) * dgt (r0.take c)), vI 1]) rfl rfl Tryd.underlying23 rfl sz23 (HP.range hH36 1 rfl rfl)) ?_
            refine WL.call (f := 6) (args := #[.agg #[vI ((-1) * dgt (r0.take c)), vI 1]]) 67 rfl (Nat.le_of_ble_eq_true rfl) rfl rfl (by kernel_rfl) ?_
            refine (rText_any ((-1) * dgt (r0.take c)) (1) _ (hE.below (HP.below hH36))).mono ?_
            rintro e w63 ⟨rfl, hb64⟩
            refine ⟨_, rfl, ?_⟩
            have hH65 : HP Tr w _ [.cel b3 #[vI 0, vI 0] 23, .cel b2 #[vI ((-1) * dgt (r0.take c)), vI 1] 23] := HP.call hH36 hb64
            refine WL.pure (v := .tuple #[.string (bS (tx ((-1) * dgt (r0.take c)) (1))), vI (te ((-1) * dgt (r0.take c)) (1))]) 65 rfl (Nat.le_of_ble_eq_true rfl) rfl rfl (by kernel_rfl) ?_
            refine WL.pure (v := .string (bS (tx ((-1) * dgt (r0.take c)) (1)))) 68 rfl (Nat.le_of_ble_eq_true rfl) rfl rfl (by kernel_rfl) ?_
            refine WL.pure (v := vI (te ((-1) * dgt (r0.take c)) (1))) 69 rfl (Nat.le_of_ble_eq_true rfl) rfl rfl (by kernel_rfl) ?_
            refine WL.pure (v := .string (bS (tx ((-1) * dgt (r0.take c)) (1)))) 9 rfl (Nat.le_of_ble_eq_true rfl) rfl rfl (by kernel_rfl) ?_
            refine WL.pure (v := vI (te ((-1) * dgt (r0.take c)) (1))) 10 rfl (Nat.le_of_ble_eq_true rfl) rfl rfl (by kernel_rfl) ?_
            refine WL.nil ?_
            refine WQ.then ?_
            refine hK62 _ _ _ ?_
            refine WC.seq fun K66 hK66 => ?_
            refine WC.seq fun K67 hK67 => ?_
            refine WC.region ?_
            refine WL.pure (v := vI (te ((-1) * dgt (r0.take c)) (1))) 70 rfl (Nat.le_of_ble_eq_true rfl) rfl rfl (by kernel_rfl) ?_
            by_cases hte : te ((-1) * dgt (r0.take c)) (1) ≠ 0
            ·
              refine WL.pure (v := .bool true) 71 rfl (Nat.le_of_ble_eq_true rfl) rfl rfl (x_neq rfl rfl rfl (dT (hte))) ?_
              refine WL.pure (v := .bool true) 72 rfl (Nat.le_of_ble_eq_true rfl) rfl rfl (by kernel_rfl) ?_
              refine WL.pass 73 rfl (Nat.le_of_ble_eq_true rfl) rfl ?_
              refine WL.pass 74 rfl (Nat.le_of_ble_eq_true rfl) rfl ?_
              refine WL.pass 75 rfl (Nat.le_of_ble_eq_true rfl) rfl ?_
              refine WL.pure (v := .bool true) 76 rfl (Nat.le_of_ble_eq_true rfl) rfl rfl (by kernel_rfl) ?_
              refine WL.nil ?_
              refine WQ.then ?_
              refine hK67 _ _ _ ?_
              refine WC.sub (l' := [(0, .string (bS (c0 :: r0))), (2, vP b3 0), (4, .string (bS r0)), (5, vI (-1)), (6, vP b2 0), (7, vI (c : Int)), (8, vI (i : Int)), (9, .string (bS (tx ((-1) * dgt (r0.take c)) (1)))), (10, vI (te ((-1) * dgt (r0.take c)) (1))), (28, .bool false), (53, .bool false), (58, .bool false), (76, .bool true)]) ⟨rfl, rfl, rfl, rfl, rfl, rfl, rfl, rfl, rfl, rfl, rfl, rfl, rfl, trivial⟩ ?_
              refine WC.yes rfl ?_
              refine WC.seq fun K68 hK68 => ?_
              refine WC.region ?_
              refine WL.pure (v := .agg #[vI 0, vI 0]) 77 rfl (Nat.le_of_ble_eq_true rfl) rfl rfl (by kernel_rfl) ?_
              refine WL.storeS (H2 := [.cel b3 #[vI 0, vI 0] 23, .cel b2 #[vI ((-1) * dgt (r0.take c)), vI 1] 23]) 0 hH65 rfl rfl rfl rfl rfl rfl sz23 rfl (Nat.le_of_ble_eq_true rfl) rfl rfl ?_
              intro w69 hH70
              refine WL.pure (v := vI 4) 3 rfl (Nat.le_of_ble_eq_true rfl) rfl rfl (by kernel_rfl) ?_
              refine WL.nil ?_
              refine WQ.then ?_
              refine hK68 _ _ _ ?_
              refine WC.ret ?_
              refine WQ.thenRet ?_
              refine WQ.retC2 2 23 3 rfl rfl rfl (HP.loadRow hH70 0 rfl Tryd.underlying23 rfl sz23) ?_
              refine ⟨.inr ⟨fun a b hT => ?_, rfl⟩, HP.below hH70⟩
              obtain ⟨g1, g2, g3, g4, g5, g6⟩ := rparse_is hS hc hT
              have g7 : 1 = b := (g4 (by omega)).symm
              rw [g1, g7] at hte
              exact hte g5
            ·
              refine WL.pure (v := .bool false) 71 rfl (Nat.le_of_ble_eq_true rfl) rfl rfl (x_neq rfl rfl rfl (dF (hte))) ?_
              refine WL.pure (v := .bool false) 72 rfl (Nat.le_of_ble_eq_true rfl) rfl rfl (by kernel_rfl) ?_
              refine WL.pure (v := .string (bS (tx ((-1) * dgt (r0.take c)) (1)))) 73 rfl (Nat.le_of_ble_eq_true rfl) rfl rfl (by kernel_rfl) ?_
              refine WL.pure (v := .string (bS (c0 :: r0))) 74 rfl (Nat.le_of_ble_eq_true rfl) rfl rfl (by kernel_rfl) ?_
              by_cases htx : (tx ((-1) * dgt (r0.take c)) (1)) = (c0 :: r0)
              ·
                refine WL.pure (v := .bool false) 75 rfl (Nat.le_of_ble_eq_true rfl) rfl rfl (x_neqs rfl rfl rfl (dF (fun h => h (congrArg bS htx)))) ?_
                refine WL.pure (v := .bool false) 76 rfl (Nat.le_of_ble_eq_true rfl) rfl rfl (by kernel_rfl) ?_
                refine WL.nil ?_
                refine WQ.then ?_
                refine hK67 _ _ _ ?_
                refine WC.sub (l' := [(0, .string (bS (c0 :: r0))), (2, vP b3 0), (4, .string (bS r0)), (5, vI (-1)), (6, vP b2 0), (7, vI (c : Int)), (8, vI (i : Int)), (9, .string (bS (tx ((-1) * dgt (r0.take c)) (1)))), (10, vI (te ((-1) * dgt (r0.take c)) (1))), (28, .bool false), (53, .bool false), (58, .bool false), (76, .bool false)]) ⟨rfl, rfl, rfl, rfl, rfl, rfl, rfl, rfl, rfl, rfl, rfl, rfl, rfl, trivial⟩ ?_
                refine WC.no rfl ?_
                refine WC.skip ?_
                refine WQ.then ?_
                refine hK66 _ _ _ ?_
                refine WC.seq fun K71 hK71 => ?_
                refine WC.region ?_
                refine WL.pure (v := .agg #[vI ((-1) * dgt (r0.take c)), vI 1]) 78 rfl (Nat.le_of_ble_eq_true rfl) rfl rfl (x_loadS (cs := [vI ((-1) * dgt (r0.take c)), vI 1]) rfl rfl Tryd.underlying23 rfl sz23 (HP.range hH65 1 rfl rfl)) ?_
                refine WL.storeS (H2 := [.cel b3 #[vI ((-1) * dgt (r0.take c)), vI 1] 23, .cel b2 #[vI ((-1) * dgt (r0.take c)), vI 1] 23]) 0 hH65 rfl rfl rfl rfl rfl rfl sz23 rfl (Nat.le_of_ble_eq_true rfl) rfl rfl ?_
                intro w72 hH73
                refine WL.pure (v := vI 0) 3 rfl (Nat.le_of_ble_eq_true rfl) rfl rfl (by kernel_rfl) ?_
                refine WL.nil ?_
                refine WQ.then ?_
                refine hK71 _ _ _ ?_
                refine WC.ret ?_
                refine WQ.retC2 2 23 3 rfl rfl rfl (HP.loadRow hH73 0 rfl Tryd.underlying23 rfl sz23) ?_
                exact ⟨.inl ⟨_, _, ⟨(te0 (Decidable.not_not.1 hte)).1, (te0 (a := (-1) * dgt (r0.take c)) (b := 1) (Decidable.not_not.1 hte)).2.symm.trans htx⟩, rfl⟩, HP.below hH73⟩
              ·
                refine WL.pure (v := .bool true) 75 rfl (Nat.le_of_ble_eq_true rfl) rfl rfl (x_neqs rfl rfl rfl (dT (fun h => htx (bS_inj h)))) ?_
                refine WL.pure (v := .bool true) 76 rfl (Nat.le_of_ble_eq_true rfl) rfl rfl (by kernel_rfl) ?_
                refine WL.nil ?_
                refine WQ.then ?_
                refine hK67 _ _ _ ?_
                refine WC.sub (l' := [(0, .string (bS (c0 :: r0))), (2, vP b3 0), (4, .string (bS r0)), (5, vI (-1)), (6, vP b2 0), (7, vI (c : Int)), (8, vI (i : Int)), (9, .string (bS (tx ((-1) * dgt (r0.take c)) (1)))), (10, vI (te ((-1) * dgt (r0.take c)) (1))), (28, .bool false), (53, .bool false), (58, .bool false), (76, .bool true)]) ⟨rfl, rfl, rfl, rfl, rfl, rfl, rfl, rfl, rfl, rfl, rfl, rfl, rfl, trivial⟩ ?_
                refine WC.yes rfl ?_
                refine WC.seq fun K74 hK74 => ?_
                refine WC.region ?_
                refine WL.pure (v := .agg #[vI 0, vI 0]) 77 rfl (Nat.le_of_ble_eq_true rfl) rfl rfl (by kernel_rfl) ?_
                refine WL.storeS (H2 := [.cel b3 #[vI 0, vI 0] 23, .cel b2 #[vI ((-1) * dgt (r0.take c)), vI 1] 23]) 0 hH65 rfl rfl rfl rfl rfl rfl sz23 rfl (Nat.le_of_ble_eq_true rfl) rfl rfl ?_
                intro w75 hH76
                refine WL.pure (v := vI 4) 3 rfl (Nat.le_of_ble_eq_true rfl) rfl rfl (by kernel_rfl) ?_
                refine WL.nil ?_
                refine WQ.then ?_
                refine hK74 _ _ _ ?_
                refine WC.ret ?_
                refine WQ.thenRet ?_
                refine WQ.retC2 2 23 3 rfl rfl rfl (HP.loadRow hH76 0 rfl Tryd.underlying23 rfl sz23) ?_
                refine ⟨.inr ⟨fun a b hT => ?_, rfl⟩, HP.below hH76⟩
                obtain ⟨g1, g2, g3, g4, g5, g6⟩ := rparse_is hS hc hT
                have g7 : 1 = b := (g4 (by omega)).symm
                rw [g1, g7] at htx
                exact htx g6
    ·
      refine WL.pure (v := .bool false) 18 rfl (Nat.le_of_ble_eq_true rfl) rfl rfl (x_eql rfl rfl rfl (dF (hsg))) ?_
      refine WL.pure (v := .bool false) 19 rfl (Nat.le_of_ble_eq_true rfl) rfl rfl (by kernel_rfl) ?_
      refine WL.nil ?_
      refine WQ.then ?_
      refine hK9 _ _ _ ?_
      refine WC.sub (l' := [(0, .string (bS (c0 :: r0))), (2, vP b3 0), (3, vI 0), (4, .string (bS (c0 :: r0))), (5, vI 1), (19, .bool false)]) ⟨rfl, rfl, rfl, rfl, rfl, rfl, trivial⟩ ?_
      refine WC.no rfl ?_
      refine WC.skip ?_
      refine WQ.then ?_
      refine hK8 _ _ _ ?_
      refine WC.seq fun K77 hK77 => ?_
      have hS : Sgn (c0 :: r0) (c0 :: r0) 1 := .inr ⟨rfl, rfl, fun r hr => by simp at hr; apply hsg; rw [hr.1]; rfl⟩
      have htl : (c0 :: r0).length ≤ 281474976710656 := hl
      refine WC.region ?_
      refine WL.pure (v := .agg #[vI 0, vI 1]) 22 rfl (Nat.le_of_ble_eq_true rfl) rfl rfl (by kernel_rfl) ?_
      refine WL.alloc (c := #[vI 0, vI 0]) (T := 23) hH5 6 rfl (by decide) rfl rfl (fun b2 => vP b2 0) (by kernel_rfl) (fun b2 w78 hw78 => ?_)
      have hH79 : HP Tr w w78 [.cel b3 #[vI 0, vI 0] 23, .cel b2 #[vI 0, vI 0] 23] := hw78.2
      have nb2 := hw78.1
      clear hw78
      refine WL.storeS (H2 := [.cel b3 #[vI 0, vI 0] 23, .cel b2 #[vI 0, vI 1] 23]) 1 hH79 rfl rfl rfl rfl rfl rfl sz23 rfl (Nat.le_of_ble_eq_true rfl) rfl rfl ?_
      intro w80 hH81
      refine WL.nil ?_
      refine WQ.then ?_
      refine hK77 _ _ _ ?_
      refine WC.seq fun K82 hK82 => ?_
      refine WC.region ?_
      refine WL.pure (v := .string (bS (c0 :: r0))) 23 rfl (Nat.le_of_ble_eq_true rfl) rfl rfl (by kernel_rfl) ?_
      refine WL.pure (v := vI (((c0 :: r0).length : Nat) : Int)) 24 rfl (Nat.le_of_ble_eq_true rfl) rfl rfl (x_slen ((c0 :: r0)) rfl rfl rfl Tryd.underlying9) ?_
      refine WL.pure (v := vI (((c0 :: r0).length : Nat) : Int)) 7 rfl (Nat.le_of_ble_eq_true rfl) rfl rfl (by kernel_rfl) ?_
      refine WL.nil ?_
      refine WQ.then ?_
      refine hK82 _ _ _ ?_
      refine WC.seq fun K83 hK83 => ?_
      refine WC.seq fun K84 hK84 => ?_
      refine WC.region ?_
      refine WL.pure (v := vI 0) 8 rfl (Nat.le_of_ble_eq_true rfl) rfl rfl (by kernel_rfl) ?_
      refine WL.nil ?_
      refine WQ.then ?_
      refine hK84 _ _ _ ?_
      refine WC.block ?_
      refine WC.loop (fun kk0 ll0 ww0 => ∃ (i : Nat) (c : Nat), ll0 = [(0, .string (bS (c0 :: r0))), (2, vP b3 0), (4, .string (bS (c0 :: r0))), (5, vI 1), (6, vP b2 0), (7, vI (c : Int)), (8, vI (i : Int))] ∧ kk0 = (c0 :: r0).length - i ∧ (i ≤ (c0 :: r0).length) ∧ (At47 (c0 :: r0) i c) ∧ HP Tr w ww0 [.cel b3 #[vI 0, vI 0] 23, .cel b2 #[vI 0, vI 1] 23]) ((c0 :: r0).length) [(0, .string (bS (c0 :: r0))), (2, vP b3 0), (4, .string (bS (c0 :: r0))), (5, vI 1), (6, vP b2 0), (7, vI (((c0 :: r0).length : Nat) : Int)), (8, vI 0)] ⟨rfl, rfl, rfl, rfl, rfl, rfl, rfl, trivial⟩ ⟨0, (c0 :: r0).length, rfl, rfl, Nat.zero_le _, .inl ⟨rfl, fun j hj => absurd hj (Nat.not_lt_zero j)⟩, hH81⟩ ?_
      rintro kk l w86 ⟨i, c, rfl, hkk, hi, hc, hH87⟩ K85 hK85
      refine WC.seq fun K88 hK88 => ?_
      refine WC.seq fun K89 hK89 => ?_
      refine WC.region ?_
      refine WL.pure (v := vI (i : Int)) 25 rfl (Nat.le_of_ble_eq_true rfl) rfl rfl (by kernel_rfl) ?_
      refine WL.pure (v := .string (bS (c0 :: r0))) 26 rfl (Nat.le_of_ble_eq_true rfl) rfl rfl (by kernel_rfl) ?_
      refine WL.pure (v := vI (((c0 :: r0).length : Nat) : Int)) 27 rfl (Nat.le_of_ble_eq_true rfl) rfl rfl (x_slen ((c0 :: r0)) rfl rfl rfl Tryd.underlying9) ?_
      by_cases hlt : (i : Int) < (((c0 :: r0).length : Nat) : Int)
      ·
        refine WL.pure (v := .bool true) 28 rfl (Nat.le_of_ble_eq_true rfl) rfl rfl (x_lss rfl rfl rfl (dT (hlt))) ?_
        refine WL.nil ?_
        refine WQ.then ?_
        refine hK89 _ _ _ ?_
        refine WC.yes rfl ?_
        refine WC.skip ?_
        refine WQ.then ?_
        refine hK88 _ _ _ ?_
        refine WC.seq fun K90 hK90 => ?_
        refine WC.block ?_
        refine WC.seq fun K91 hK91 => ?_
        have hlt' : i < (c0 :: r0).length := by omega
        obtain ⟨b, hb2⟩ : ∃ b, (c0 :: r0)[i]? = some b := ⟨(c0 :: r0)[i], List.getElem?_eq_getElem hlt'⟩
        refine WC.region ?_
        refine WL.pure (v := .string (bS (c0 :: r0))) 31 rfl (Nat.le_of_ble_eq_true rfl) rfl rfl (by kernel_rfl) ?_
        refine WL.pure (v := vI (i : Int)) 32 rfl (Nat.le_of_ble_eq_true rfl) rfl rfl (by kernel_rfl) ?_
        refine WL.pure (v := .int .u8 (b.toNat : Int)) 33 rfl (Nat.le_of_ble_eq_true rfl) rfl rfl (x_sidx (c0 :: r0) i b rfl rfl rfl Tryd.underlying9 rfl hb2) ?_
        by_cases hy : (b.toNat : Int) = 47
        ·
          have hy' : b.toNat = 47 := by omega
          refine WL.pure (v := .bool true) 34 rfl (Nat.le_of_ble_eq_true rfl) rfl rfl (x_eql rfl rfl rfl (dT (hy))) ?_
          refine WL.pure (v := .bool true) 35 rfl (Nat.le_of_ble_eq_true rfl) rfl rfl (by kernel_rfl) ?_
          refine WL.pure (v := vI (c : Int)) 36 rfl (Nat.le_of_ble_eq_true rfl) rfl rfl (by kernel_rfl) ?_
          refine WL.pure (v := .string (bS (c0 :: r0))) 37 rfl (Nat.le_of_ble_eq_true rfl) rfl rfl (by kernel_rfl) ?_
          refine WL.pure (v := vI (((c0 :: r0).length : Nat) : Int)) 38 rfl (Nat.le_of_ble_eq_true rfl) rfl rfl (x_slen ((c0 :: r0)) rfl rfl rfl Tryd.underlying9) ?_
          by_cases hf : (c : Int) = (((c0 :: r0).length : Nat) : Int)
          ·
            refine WL.pure (v := .bool true) 39 rfl (Nat.le_of_ble_eq_true rfl) rfl rfl (x_eql rfl rfl rfl (dT (hf))) ?_
            refine WL.pure (v := .bool true) 40 rfl (Nat.le_of_ble_eq_true rfl) rfl rfl (by kernel_rfl) ?_
            refine WL.nil ?_
            refine WQ.then ?_
            refine hK91 _ _ _ ?_
            refine WC.sub (l' := [(0, .string (bS (c0 :: r0))), (2, vP b3 0), (4, .string (bS (c0 :: r0))), (5, vI 1), (6, vP b2 0), (7, vI (c : Int)), (8, vI (i : Int)), (28, .bool true), (40, .bool true)]) ⟨rfl, rfl, rfl, rfl, rfl, rfl, rfl, rfl, rfl, trivial⟩ ?_
            refine WC.yes rfl ?_
            refine WC.region ?_
            refine WL.pure (v := vI (i : Int)) 41 rfl (Nat.le_of_ble_eq_true rfl) rfl rfl (by kernel_rfl) ?_
            refine WL.pure (v := vI (i : Int)) 7 rfl (Nat.le_of_ble_eq_true rfl) rfl rfl (by kernel_rfl) ?_
            refine WL.nil ?_
            refine WQ.inNormal ?_
            refine WQ.then ?_
            refine hK90 _ _ _ ?_
            refine WC.region ?_
            refine WL.pure (v := vI (i : Int)) 29 rfl (Nat.le_of_ble_eq_true rfl) rfl rfl (by kernel_rfl) ?_
            refine WL.pure (v := vI ((i + 1 : Nat) : Int)) 30 rfl (Nat.le_of_ble_eq_true rfl) rfl rfl (x_add (Z := ((i + 1 : Nat) : Int)) rfl rfl rfl (by omega) (by omega) (by omega)) ?_
            refine WL.pure (v := vI ((i + 1 : Nat) : Int)) 8 rfl (Nat.le_of_ble_eq_true rfl) rfl rfl (by kernel_rfl) ?_
            refine WL.nil ?_
            refine WQ.sub (l' := [(0, .string (bS (c0 :: r0))), (2, vP b3 0), (4, .string (bS (c0 :: r0))), (5, vI 1), (6, vP b2 0), (7, vI (i : Int)), (8, vI ((i + 1 : Nat) : Int))]) ⟨rfl, rfl, rfl, rfl, rfl, rfl, rfl, trivial⟩ ?_
            refine WQ.then (hK85 _ _ _ (by omega) ⟨i + 1, i, rfl, rfl, by omega, hc.step_y (by omega) (by rw [hb2]; exact congrArg some (UInt8.toNat_inj.1 (by simpa using hy'))), hH87⟩)
          ·
            refine WL.pure (v := .bool false) 39 rfl (Nat.le_of_ble_eq_true rfl) rfl rfl (x_eql rfl rfl rfl (dF (hf))) ?_
            refine WL.pure (v := .bool false) 40 rfl (Nat.le_of_ble_eq_true rfl) rfl rfl (by kernel_rfl) ?_
            refine WL.nil ?_
            refine WQ.then ?_
            refine hK91 _ _ _ ?_
            refine WC.sub (l' := [(0, .string (bS (c0 :: r0))), (2, vP b3 0), (4, .string (bS (c0 :: r0))), (5, vI 1), (6, vP b2 0), (7, vI (c : Int)), (8, vI (i : Int)), (28, .bool true), (40, .bool false)]) ⟨rfl, rfl, rfl, rfl, rfl, rfl, rfl, rfl, rfl, trivial⟩ ?_
            refine WC.no rfl ?_
            refine WC.skip ?_
            refine WQ.inNormal ?_
            refine WQ.then ?_
            refine hK90 _ _ _ ?_
            refine WC.region ?_
            refine WL.pure (v := vI (i : Int)) 29 rfl (Nat.le_of_ble_eq_true rfl) rfl rfl (by kernel_rfl) ?_
            refine WL.pure (v := vI ((i + 1 : Nat) : Int)) 30 rfl (Nat.le_of_ble_eq_true rfl) rfl rfl (x_add (Z := ((i + 1 : Nat) : Int)) rfl rfl rfl (by omega) (by omega) (by omega)) ?_
            refine WL.pure (v := vI ((i + 1 : Nat) : Int)) 8 rfl (Nat.le_of_ble_eq_true rfl) rfl rfl (by kernel_rfl) ?_
            refine WL.nil ?_
            refine WQ.sub (l' := [(0, .string (bS (c0 :: r0))), (2, vP b3 0), (4, .string (bS (c0 :: r0))), (5, vI 1), (6, vP b2 0), (7, vI (c : Int)), (8, vI ((i + 1 : Nat) : Int))]) ⟨rfl, rfl, rfl, rfl, rfl, rfl, rfl, trivial⟩ ?_
            refine WQ.then (hK85 _ _ _ (by omega) ⟨i + 1, c, rfl, rfl, by omega, hc.step_k (by omega), hH87⟩)
        ·
          refine WL.pure (v := .bool false) 34 rfl (Nat.le_of_ble_eq_true rfl) rfl rfl (x_eql rfl rfl rfl (dF (hy))) ?_
          refine WL.pure (v := .bool false) 35 rfl (Nat.le_of_ble_eq_true rfl) rfl rfl (by kernel_rfl) ?_
          refine WL.pass 36 rfl (Nat.le_of_ble_eq_true rfl) rfl ?_
          refine WL.pass 37 rfl (Nat.le_of_ble_eq_true rfl) rfl ?_
          refine WL.pass 38 rfl (Nat.le_of_ble_eq_true rfl) rfl ?_
          refine WL.pass 39 rfl (Nat.le_of_ble_eq_true rfl) rfl ?_
          refine WL.pure (v := .bool false) 40 rfl (Nat.le_of_ble_eq_true rfl) rfl rfl (by kernel_rfl) ?_
          refine WL.nil ?_
          refine WQ.then ?_
          refine hK91 _ _ _ ?_
          refine WC.sub (l' := [(0, .string (bS (c0 :: r0))), (2, vP b3 0), (4, .string (bS (c0 :: r0))), (5, vI 1), (6, vP b2 0), (7, vI (c : Int)), (8, vI (i : Int)), (28, .bool true), (40, .bool false)]) ⟨rfl, rfl, rfl, rfl, rfl, rfl, rfl, rfl, rfl, trivial⟩ ?_
          refine WC.no rfl ?_
          refine WC.skip ?_
          refine WQ.inNormal ?_
          refine WQ.then ?_
          refine hK90 _ _ _ ?_
          refine WC.region ?_
          refine WL.pure (v := vI (i : Int)) 29 rfl (Nat.le_of_ble_eq_true rfl) rfl rfl (by kernel_rfl) ?_
          refine WL.pure (v := vI ((i + 1 : Nat) : Int)) 30 rfl (Nat.le_of_ble_eq_true rfl) rfl rfl (x_add (Z := ((i + 1 : Nat) : Int)) rfl rfl rfl (by omega) (by omega) (by omega)) ?_
          refine WL.pure (v := vI ((i + 1 : Nat) : Int)) 8 rfl (Nat.le_of_ble_eq_true rfl) rfl rfl (by kernel_rfl) ?_
          refine WL.nil ?_
          refine WQ.sub (l' := [(0, .string (bS (c0 :: r0))), (2, vP b3 0), (4, .string (bS (c0 :: r0))), (5, vI 1), (6, vP b2 0), (7, vI (c : Int)), (8, vI ((i + 1 : Nat) : Int))]) ⟨rfl, rfl, rfl, rfl, rfl, rfl, rfl, trivial⟩ ?_
          refine WQ.then (hK85 _ _ _ (by omega) ⟨i + 1, c, rfl, rfl, by omega, hc.step_n (fun h => hy (by rw [hb2] at h; cases h; rfl)), hH87⟩)
      ·
        refine WL.pure (v := .bool false) 28 rfl (Nat.le_of_ble_eq_true rfl) rfl rfl (x_lss rfl rfl rfl (dF (hlt))) ?_
        refine WL.nil ?_
        refine WQ.then ?_
        refine hK89 _ _ _ ?_
        refine WC.no rfl ?_
        refine WC.exit ?_
        refine WQ.thenExit ?_
        refine WQ.thenExit ?_
        refine WQ.inExit ?_
        refine WQ.then ?_
        refine hK83 _ _ _ ?_
        refine WC.seq fun K92 hK92 => ?_
        have hie : i = (c0 :: r0).length := by omega
        rw [hie] at hc
        have hcl : c ≤ (c0 :: r0).length := by rcases hc with ⟨h, _⟩ | ⟨h, _⟩ <;> omega
        have hd1 := dgt_bd ((c0 :: r0).take c)
        have hd2 := dgt_bd ((c0 :: r0).drop (c + 1))
        refine WC.region ?_
        refine WL.pure (v := vI 1) 42 rfl (Nat.le_of_ble_eq_true rfl) rfl rfl (by kernel_rfl) ?_
        refine WL.pure (v := .string (bS (c0 :: r0))) 43 rfl (Nat.le_of_ble_eq_true rfl) rfl rfl (by kernel_rfl) ?_
        refine WL.pure (v := vI (c : Int)) 44 rfl (Nat.le_of_ble_eq_true rfl) rfl rfl (by kernel_rfl) ?_
        refine WL.pure (v := .string (bS ((c0 :: r0).take c))) 45 rfl (Nat.le_of_ble_eq_true rfl) rfl rfl (x_shi ((c0 :: r0)) (c) rfl rfl rfl Tryd.underlying9 (by omega) (by omega)) ?_
        refine WL.call (f := 17) (args := #[.string (bS ((c0 :: r0).take c))]) 46 rfl (Nat.le_of_ble_eq_true rfl) rfl rfl (by kernel_rfl) ?_
        refine (digits_any ((c0 :: r0).take c) _).mono ?_
        rintro e w93 ⟨rfl, hb94⟩
        refine ⟨_, rfl, ?_⟩
        have hH95 : HP Tr w _ [.cel b3 #[vI 0, vI 0] 23, .cel b2 #[vI 0, vI 1] 23] := HP.call hH87 hb94
        refine WL.pure (v := vI (1 * dgt ((c0 :: r0).take c))) 47 rfl (Nat.le_of_ble_eq_true rfl) rfl rfl (x_mul (Z := 1 * dgt ((c0 :: r0).take c)) rfl rfl rfl (rfl) (by omega) (by omega)) ?_
        refine WL.pure (v := vP b2 0) 48 rfl (Nat.le_of_ble_eq_true rfl) rfl rfl (by kernel_rfl) ?_
        refine WL.store (H2 := [.cel b3 #[vI 0, vI 0] 23, .cel b2 #[vI (1 * dgt ((c0 :: r0).take c)), vI 1] 23]) 1 hH95 rfl rfl rfl rfl rfl rfl sz3 rfl (Nat.le_of_ble_eq_true rfl) rfl rfl ?_
        intro w96 hH97
        refine WL.nil ?_
        refine WQ.then ?_
        refine hK92 _ _ _ ?_
        refine WC.sub (l' := [(0, .string (bS (c0 :: r0))), (2, vP b3 0), (4, .string (bS (c0 :: r0))), (5, vI 1), (6, vP b2 0), (7, vI (c : Int)), (8, vI (i : Int)), (28, .bool false)]) ⟨rfl, rfl, rfl, rfl, rfl, rfl, rfl, rfl, trivial⟩ ?_
        refine WC.seq fun K98 hK98 => ?_
        refine WC.seq fun K99 hK99 => ?_
        refine WC.region ?_
        refine WL.pure (v := .string (bS (c0 :: r0))) 49 rfl (Nat.le_of_ble_eq_true rfl) rfl rfl (by kernel_rfl) ?_
        refine WL.pure (v := vI (c : Int)) 50 rfl (Nat.le_of_ble_eq_true rfl) rfl rfl (by kernel_rfl) ?_
        refine WL.pure (v := .string (bS ((c0 :: r0).take c))) 51 rfl (Nat.le_of_ble_eq_true rfl) rfl rfl (x_shi ((c0 :: r0)) (c) rfl rfl rfl Tryd.underlying9 (by omega) (by omega)) ?_
        refine WL.call (f := 17) (args := #[.string (bS ((c0 :: r0).take c))]) 52 rfl (Nat.le_of_ble_eq_true rfl) rfl rfl (by kernel_rfl) ?_
        refine (digits_any ((c0 :: r0).take c) _).mono ?_
        rintro e w100 ⟨rfl, hb101⟩
        refine ⟨_, rfl, ?_⟩
        have hH102 : HP Tr w _ [.cel b3 #[vI 0, vI 0] 23, .cel b2 #[vI (1 * dgt ((c0 :: r0).take c)), vI 1] 23] := HP.call hH97 hb101
        by_cases hneg : dgt ((c0 :: r0).take c) < 0
        ·
          refine WL.pure (v := .bool true) 53 rfl (Nat.le_of_ble_eq_true rfl) rfl rfl (x_lss rfl rfl rfl (dT (hneg))) ?_
          refine WL.nil ?_
          refine WQ.then ?_
          refine hK99 _ _ _ ?_
          refine WC.yes rfl ?_
          refine WC.seq fun K103 hK103 => ?_
          refine WC.region ?_
          refine WL.pure (v := .agg #[vI 0, vI 0]) 54 rfl (Nat.le_of_ble_eq_true rfl) rfl rfl (by kernel_rfl) ?_
          refine WL.storeS (H2 := [.cel b3 #[vI 0, vI 0] 23, .cel b2 #[vI (1 * dgt ((c0 :: r0).take c)), vI 1] 23]) 0 hH102 rfl rfl rfl rfl rfl rfl sz23 rfl (Nat.le_of_ble_eq_true rfl) rfl rfl ?_
          intro w104 hH105
          refine WL.pure (v := vI 4) 3 rfl (Nat.le_of_ble_eq_true rfl) rfl rfl (by kernel_rfl) ?_
          refine WL.nil ?_
          refine WQ.then ?_
          refine hK103 _ _ _ ?_
          refine WC.ret ?_
          refine WQ.thenRet ?_
          refine WQ.retC2 2 23 3 rfl rfl rfl (HP.loadRow hH105 0 rfl Tryd.underlying23 rfl sz23) ?_
          refine ⟨.inr ⟨fun a b hT => ?_, rfl⟩, HP.below hH105⟩
          obtain ⟨g1, g2, g3, g4, g5, g6⟩ := rparse_is hS hc hT
          omega
        ·
          refine WL.pure (v := .bool false) 53 rfl (Nat.le_of_ble_eq_true rfl) rfl rfl (x_lss rfl rfl rfl (dF (hneg))) ?_
          refine WL.nil ?_
          refine WQ.then ?_
          refine hK99 _ _ _ ?_
          refine WC.no rfl ?_
          refine WC.skip ?_
          refine WQ.then ?_
          refine hK98 _ _ _ ?_
          refine WC.seq fun K106 hK106 => ?_
          refine WC.seq fun K107 hK107 => ?_
          refine WC.region ?_
          refine WL.pure (v := vI (c : Int)) 55 rfl (Nat.le_of_ble_eq_true rfl) rfl rfl (by kernel_rfl) ?_
          refine WL.pure (v := .string (bS (c0 :: r0))) 56 rfl (Nat.le_of_ble_eq_true rfl) rfl rfl (by kernel_rfl) ?_
          refine WL.pure (v := vI (((c0 :: r0).length : Nat) : Int)) 57 rfl (Nat.le_of_ble_eq_true rfl) rfl rfl (x_slen ((c0 :: r0)) rfl rfl rfl Tryd.underlying9) ?_
          by_cases hcut : (c : Int) < (((c0 :: r0).length : Nat) : Int)
          ·
            refine WL.pure (v := .bool true) 58 rfl (Nat.le_of_ble_eq_true rfl) rfl rfl (x_lss rfl rfl rfl (dT (hcut))) ?_
            refine WL.nil ?_
            refine WQ.then ?_
            refine hK107 _ _ _ ?_
            refine WC.sub (l' := [(0, .string (bS (c0 :: r0))), (2, vP b3 0), (4, .string (bS (c0 :: r0))), (5, vI 1), (6, vP b2 0), (7, vI (c : Int)), (8, vI (i : Int)), (28, .bool false), (53, .bool false), (58, .bool true)]) ⟨rfl, rfl, rfl, rfl, rfl, rfl, rfl, rfl, rfl, rfl, trivial⟩ ?_
            refine WC.yes rfl ?_
            refine WC.region ?_
            refine WL.pure (v := .string (bS (c0 :: r0))) 59 rfl (Nat.le_of_ble_eq_true rfl) rfl rfl (by kernel_rfl) ?_
            refine WL.pure (v := vI (c : Int)) 60 rfl (Nat.le_of_ble_eq_true rfl) rfl rfl (by kernel_rfl) ?_
            refine WL.pure (v := vI ((c + 1 : Nat) : Int)) 61 rfl (Nat.le_of_ble_eq_true rfl) rfl rfl (x_add (Z := ((c + 1 : Nat) : Int)) rfl rfl rfl (by omega) (by omega) (by omega)) ?_
            refine WL.pure (v := .string (bS ((c0 :: r0).drop (c + 1)))) 62 rfl (Nat.le_of_ble_eq_true rfl) rfl rfl (x_slo ((c0 :: r0)) (c + 1) rfl rfl rfl Tryd.underlying9 (by omega) (by omega)) ?_
            refine WL.call (f := 17) (args := #[.string (bS ((c0 :: r0).drop (c + 1)))]) 63 rfl (Nat.le_of_ble_eq_true rfl) rfl rfl (by kernel_rfl) ?_
            refine (digits_any ((c0 :: r0).drop (c + 1)) _).mono ?_
            rintro e w108 ⟨rfl, hb109⟩
            refine ⟨_, rfl, ?_⟩
            have hH110 : HP Tr w _ [.cel b3 #[vI 0, vI 0] 23, .cel b2 #[vI (1 * dgt ((c0 :: r0).take c)), vI 1] 23] := HP.call hH102 hb109
            refine WL.pure (v := vP b2 1) 64 rfl (Nat.le_of_ble_eq_true rfl) rfl rfl (by kernel_rfl) ?_
            refine WL.store (H2 := [.cel b3 #[vI 0, vI 0] 23, .cel b2 #[vI (1 * dgt ((c0 :: r0).take c)), vI (dgt ((c0 :: r0).drop (c + 1)))] 23]) 1 hH110 rfl rfl rfl rfl rfl rfl sz3 rfl (Nat.le_of_ble_eq_true rfl) rfl rfl ?_
            intro w111 hH112
            refine WL.nil ?_
            refine WQ.then ?_
            refine hK106 _ _ _ ?_
            refine WC.sub (l' := [(0, .string (bS (c0 :: r0))), (2, vP b3 0), (4, .string (bS (c0 :: r0))), (5, vI 1), (6, vP b2 0), (7, vI (c : Int)), (8, vI (i : Int)), (28, .bool false), (53, .bool false), (58, .bool true)]) ⟨rfl, rfl, rfl, rfl, rfl, rfl, rfl, rfl, rfl, rfl, trivial⟩ ?_
            refine WC.seq fun K113 hK113 => ?_
            refine WC.region ?_
            refine WL.pure (v := .agg #[vI (1 * dgt ((c0 :: r0).take c)), vI (dgt ((c0 :: r0).drop (c + 1)))]) 66 rfl (Nat.le_of_ble_eq_true rfl) rfl rfl (x_loadS (cs := [vI (1 * dgt ((c0 :: r0).take c)), vI (dgt ((c0 :: r0).drop (c + 1)))]) rfl rfl Tryd.underlying23 rfl sz23 (HP.range hH112 1 rfl rfl)) ?_
            refine WL.call (f := 6) (args := #[.agg #[vI (1 * dgt ((c0 :: r0).take c)), vI (dgt ((c0 :: r0).drop (c + 1)))]]) 67 rfl (Nat.le_of_ble_eq_true rfl) rfl rfl (by kernel_rfl) ?_
            refine (rText_any (1 * dgt ((c0 :: r0).take c)) (dgt ((c0 :: r0).drop (c + 1))) _ (hE.below (HP.below hH112))).mono ?_
            rintro e w114 ⟨rfl, hb115⟩
            refine ⟨_, rfl, ?_⟩
            have hH116 : HP Tr w _ [.cel b3 #[vI 0, vI 0] 23, .cel b2 #[vI (1 * dgt ((c0 :: r0).take c)), vI (dgt ((c0 :: r0).drop (c + 1)))] 23] := HP.call hH112 hb115
            refine WL.pure (v := .tuple #[.string (bS (tx (1 * dgt ((c0 :: r0).take c)) (dgt ((c0 :: r0).drop (c + 1))))), vI (te (1 * dgt ((c0 :: r0).take c)) (dgt ((c0 :: r0).drop (c + 1))))]) 65 rfl (Nat.le_of_ble_eq_true rfl) rfl rfl (by kernel_rfl) ?_
            refine WL.pure (v := .string (bS (tx (1 * dgt ((c0 :: r0).take c)) (dgt ((c0 :: r0).drop (c + 1)))))) 68 rfl (Nat.le_of_ble_eq_true rfl) rfl rfl (by kernel_rfl) ?_
            refine WL.pure (v := vI (te (1 * dgt ((c0 :: r0).take c)) (dgt ((c0 :: r0).drop (c + 1))))) 69 rfl (Nat.le_of_ble_eq_true rfl) rfl rfl (by kernel_rfl) ?_
            refine WL.pure (v := .string (bS (tx (1 * dgt ((c0 :: r0).take c)) (dgt ((c0 :: r0).drop (c + 1)))))) 9 rfl (Nat.le_of_ble_eq_true rfl) rfl rfl (by kernel_rfl) ?_
            refine WL.pure (v := vI (te (1 * dgt ((c0 :: r0).take c)) (dgt ((c0 :: r0).drop (c + 1))))) 10 rfl (Nat.le_of_ble_eq_true rfl) rfl rfl (by kernel_rfl) ?_
            refine WL.nil ?_
            refine WQ.then ?_
            refine hK113 _ _ _ ?_
            refine WC.seq fun K117 hK117 => ?_
            refine WC.seq fun K118 hK118 => ?_
            refine WC.region ?_
            refine WL.pure (v := vI (te (1 * dgt ((c0 :: r0).take c)) (dgt ((c0 :: r0).drop (c + 1))))) 70 rfl (Nat.le_of_ble_eq_true rfl) rfl rfl (by kernel_rfl) ?_
            by_cases hte : te (1 * dgt ((c0 :: r0).take c)) (dgt ((c0 :: r0).drop (c + 1))) ≠ 0
            ·
              refine WL.pure (v := .bool true) 71 rfl (Nat.le_of_ble_eq_true rfl) rfl rfl (x_neq rfl rfl rfl (dT (hte))) ?_
              refine WL.pure (v := .bool true) 72 rfl (Nat.le_of_ble_eq_true rfl) rfl rfl (by kernel_rfl) ?_
              refine WL.pass 73 rfl (Nat.le_of_ble_eq_true rfl) rfl ?_
              refine WL.pass 74 rfl (Nat.le_of_ble_eq_true rfl) rfl ?_
              refine WL.pass 75 rfl (Nat.le_of_ble_eq_true rfl) rfl ?_
              refine WL.pure (v := .bool true) 76 rfl (Nat.le_of_ble_eq_true rfl) rfl rfl (by kernel_rfl) ?_
              refine WL.nil ?_
              refine WQ.then ?_
              refine hK118 _ _ _ ?_
              refine WC.sub (l' := [(0, .string (bS (c0 :: r0))), (2, vP b3 0), (4, .string (bS (c0 :: r0))), (5, vI 1), (6, vP b2 0), (7, vI (c : Int)), (8, vI (i : Int)), (9, .string (bS (tx (1 * dgt ((c0 :: r0).take c)) (dgt ((c0 :: r0).drop (c + 1)))))), (10, vI (te (1 * dgt ((c0 :: r0).take c)) (dgt ((c0 :: r0).drop (c + 1))))), (28, .bool false), (53, .bool false), (58, .bool true), (76, .bool true)]) ⟨rfl, rfl, rfl, rfl, rfl, rfl, rfl, rfl, rfl, rfl, rfl, rfl, rfl, trivial⟩ ?_
              refine WC.yes rfl ?_
              refine WC.seq fun K119 hK119 => ?_
              refine WC.region ?_
              refine WL.pure (v := .agg #[vI 0, vI 0]) 77 rfl (Nat.le_of_ble_eq_true rfl) rfl rfl (by kernel_rfl) ?_
              refine WL.storeS (H2 := [.cel b3 #[vI 0, vI 0] 23, .cel b2 #[vI (1 * dgt ((c0 :: r0).take c)), vI (dgt ((c0 :: r0).drop (c + 1)))] 23]) 0 hH116 rfl rfl rfl rfl rfl rfl sz23 rfl (Nat.le_of_ble_eq_true rfl) rfl rfl ?_
              intro w120 hH121
              refine WL.pure (v := vI 4) 3 rfl (Nat.le_of_ble_eq_true rfl) rfl rfl (by kernel_rfl) ?_
              refine WL.nil ?_
              refine WQ.then ?_
              refine hK119 _ _ _ ?_
              refine WC.ret ?_
              refine WQ.thenRet ?_
              refine WQ.retC2 2 23 3 rfl rfl rfl (HP.loadRow hH121 0 rfl Tryd.underlying23 rfl sz23) ?_
              refine ⟨.inr ⟨fun a b hT => ?_, rfl⟩, HP.below hH121⟩
              obtain ⟨g1, g2, g3, g4, g5, g6⟩ := rparse_is hS hc hT
              have g7 : dgt ((c0 :: r0).drop (c + 1)) = b := g3 (by omega)
              rw [g1, g7] at hte
              exact hte g5
            ·
              refine WL.pure (v := .bool false) 71 rfl (Nat.le_of_ble_eq_true rfl) rfl rfl (x_neq rfl rfl rfl (dF (hte))) ?_
              refine WL.pure (v := .bool false) 72 rfl (Nat.le_of_ble_eq_true rfl) rfl rfl (by kernel_rfl) ?_
              refine WL.pure (v := .string (bS (tx (1 * dgt ((c0 :: r0).take c)) (dgt ((c0 :: r0).drop (c + 1)))))) 73 rfl (Nat.le_of_ble_eq_true rfl) rfl rfl (by kernel_rfl) ?_
              refine WL.pure (v := .string (bS (c0 :: r0))) 74 rfl (Nat.le_of_ble_eq_true rfl) rfl rfl (by kernel_rfl) ?_
              by_cases htx : (tx (1 * dgt ((c0 :: r0).take c)) (dgt ((c0 :: r0).drop (c + 1)))) = (c0 :: r0)
              ·
                refine WL.pure (v := .bool false) 75 rfl (Nat.le_of_ble_eq_true rfl) rfl rfl (x_neqs rfl rfl rfl (dF (fun h => h (congrArg bS htx)))) ?_
                refine WL.pure (v := .bool false) 76 rfl (Nat.le_of_ble_eq_true rfl) rfl rfl (by kernel_rfl) ?_
                refine WL.nil ?_
                refine WQ.then ?_
                refine hK118 _ _ _ ?_
                refine WC.sub (l' := [(0, .string (bS (c0 :: r0))), (2, vP b3 0), (4, .string (bS (c0 :: r0))), (5, vI 1), (6, vP b2 0), (7, vI (c : Int)), (8, vI (i : Int)), (9, .string (bS (tx (1 * dgt ((c0 :: r0).take c)) (dgt ((c0 :: r0).drop (c + 1)))))), (10, vI (te (1 * dgt ((c0 :: r0).take c)) (dgt ((c0 :: r0).drop (c + 1))))), (28, .bool false), (53, .bool false), (58, .bool true), (76, .bool false)]) ⟨rfl, rfl, rfl, rfl, rfl, rfl, rfl, rfl, rfl, rfl, rfl, rfl, rfl, trivial⟩ ?_
                refine WC.no rfl ?_
                refine WC.skip ?_
                refine WQ.then ?_
                refine hK117 _ _ _ ?_
                refine WC.seq fun K122 hK122 => ?_
                refine WC.region ?_
                refine WL.pure (v := .agg #[vI (1 * dgt ((c0 :: r0).take c)), vI (dgt ((c0 :: r0).drop (c + 1)))]) 78 rfl (Nat.le_of_ble_eq_true rfl) rfl rfl (x_loadS (cs := [vI (1 * dgt ((c0 :: r0).take c)), vI (dgt ((c0 :: r0).drop (c + 1)))]) rfl rfl Tryd.underlying23 rfl sz23 (HP.range hH116 1 rfl rfl)) ?_
                refine WL.storeS (H2 := [.cel b3 #[vI (1 * dgt ((c0 :: r0).take c)), vI (dgt ((c0 :: r0).drop (c + 1)))] 23, .cel b2 #[vI (1 * dgt ((c0 :: r0).take c)), vI (dgt ((c0 :: r0).drop (c + 1)))] 23]) 0 hH116 rfl rfl rfl rfl rfl rfl sz23 rfl (Nat.le_of_ble_eq_true rfl) rfl rfl ?_
                intro w123 hH124
                refine WL.pure (v := vI 0) 3 rfl (Nat.le_of_ble_eq_true rfl) rfl rfl (by kernel_rfl) ?_
                refine WL.nil ?_
                refine WQ.then ?_
                refine hK122 _ _ _ ?_
                refine WC.ret ?_
                refine WQ.retC2 2 23 3 rfl rfl rfl (HP.loadRow hH124 0 rfl Tryd.underlying23 rfl sz23) ?_
                exact ⟨.inl ⟨_, _, ⟨(te0 (Decidable.not_not.1 hte)).1, (te0 (a := 1 * dgt ((c0 :: r0).take c)) (b := dgt ((c0 :: r0).drop (c + 1))) (Decidable.not_not.1 hte)).2.symm.trans htx⟩, rfl⟩, HP.below hH124⟩
              ·
                refine WL.pure (v := .bool true) 75 rfl (Nat.le_of_ble_eq_true rfl) rfl rfl (x_neqs rfl rfl rfl (dT (fun h => htx (bS_inj h)))) ?_
                refine WL.pure (v := .bool true) 76 rfl (Nat.le_of_ble_eq_true rfl) rfl rfl (by kernel_rfl) ?_
                refine WL.nil ?_
                refine WQ.then ?_
                refine hK118 _ _ _ ?_
                refine WC.sub (l' := [(0, .string (bS (c0 :: r0))), (2, vP b3 0), (4, .string (bS (c0 :: r0))), (5, vI 1), (6, vP b2 0), (7, vI (c : Int)), (8, vI (i : Int)), (9, .string (bS (tx (1 * dgt ((c0 :: r0).take c)) (dgt ((c0 :: r0).drop (c + 1)))))), (10, vI (te (1 * dgt ((c0 :: r0).take c)) (dgt ((c0 :: r0).drop (c + 1))))), (28, .bool false), (53, .bool false), (58, .bool true), (76, .bool true)]) ⟨rfl, rfl, rfl, rfl, rfl, rfl, rfl, rfl, rfl, rfl, rfl, rfl, rfl, trivial⟩ ?_
                refine WC.yes rfl ?_
                refine WC.seq fun K125 hK125 => ?_
                refine WC.region ?_
                refine WL.pure (v := .agg #[vI 0, vI 0]) 77 rfl (Nat.le_of_ble_eq_true rfl) rfl rfl (by kernel_rfl) ?_
                refine WL.storeS (H2 := [.cel b3 #[vI 0, vI 0] 23, .cel b2 #[vI (1 * dgt ((c0 :: r0).take c)), vI (dgt ((c0 :: r0).drop (c + 1)))] 23]) 0 hH116 rfl rfl rfl rfl rfl rfl sz23 rfl (Nat.le_of_ble_eq_true rfl) rfl rfl ?_
                intro w126 hH127
                refine WL.pure (v := vI 4) 3 rfl (Nat.le_of_ble_eq_true rfl) rfl rfl (by kernel_rfl) ?_
                refine WL.nil ?_
                refine WQ.then ?_
                refine hK125 _ _ _ ?_
                refine WC.ret ?_
                refine WQ.thenRet ?_
                refine WQ.retC2 2 23 3 rfl rfl rfl (HP.loadRow hH127 0 rfl Tryd.underlying23 rfl sz23) ?_
                refine ⟨.inr ⟨fun a b hT => ?_, rfl⟩, HP.below hH127⟩
                obtain ⟨g1, g2, g3, g4, g5, g6⟩ := rparse_is hS hc hT
                have g7 : dgt ((c0 :: r0).drop (c + 1)) = b := g3 (by omega)
                rw [g1, g7] at htx
                exact htx g6
          ·
            refine WL.pure (v := .bool false) 58 rfl (Nat.le_of_ble_eq_true rfl) rfl rfl (x_lss rfl rfl rfl (dF (hcut))) ?_
            refine WL.nil ?_
            refine WQ.then ?_
            refine hK107 _ _ _ ?_
            refine WC.sub (l' := [(0, .string (bS (c0 :: r0))), (2, vP b3 0), (4, .string (bS (c0 :: r0))), (5, vI 1), (6, vP b2 0), (7, vI (c : Int)), (8, vI (i : Int)), (28, .bool false), (53, .bool false), (58, .bool false)]) ⟨rfl, rfl, rfl, rfl, rfl, rfl, rfl, rfl, rfl, rfl, trivial⟩ ?_
            refine WC.no rfl ?_
            refine WC.skip ?_
            refine WQ.then ?_
            refine hK106 _ _ _ ?_
            refine WC.seq fun K128 hK128 => ?_
            refine WC.region ?_
            refine WL.pure (v := .agg #[vI (1 * dgt ((c0 :: r0).take c)), vI 1]) 66 rfl (Nat.le_of_ble_eq_true rfl) rfl rfl (x_loadS (cs := [vI (1 * dgt ((c0 :: r0).take c)), vI 1]) rfl rfl Tryd.underlying23 rfl sz23 (HP.range hH102 1 rfl rfl)) ?_
            refine WL.call (f := 6) (args := #[.agg #[vI (1 * dgt ((c0 :: r0).take c)), vI 1]]) 67 rfl (Nat.le_of_ble_eq_true rfl) rfl rfl (by kernel_rfl) ?_
            refine (rText_any (1 * dgt ((c0 :: r0).take c)) (1) _ (hE.below (HP.below hH102))).mono ?_
            rintro e w129 ⟨rfl, hb130⟩
            refine ⟨_, rfl, ?_⟩
            have hH131 : HP Tr w _ [.cel b3 #[vI 0, vI 0] 23, .cel b2 #[vI (1 * dgt ((c0 :: r0).take c)), vI 1] 23] := HP.call hH102 hb130
            refine WL.pure (v := .tuple #[.string (bS (tx (1 * dgt ((c0 :: r0).take c)) (1))), vI (te (1 * dgt ((c0 :: r0).take c)) (1))]) 65 rfl (Nat.le_of_ble_eq_true rfl) rfl rfl (by kernel_rfl) ?_
            refine WL.pure (v := .string (bS (tx (1 * dgt ((c0 :: r0).take c)) (1)))) 68 rfl (Nat.le_of_ble_eq_true rfl) rfl rfl (by kernel_rfl) ?_
            refine WL.pure (v := vI (te (1 * dgt ((c0 :: r0).take c)) (1))) 69 rfl (Nat.le_of_ble_eq_true rfl) rfl rfl (by kernel_rfl) ?_
            refine WL.pure (v := .string (bS (tx (1 * dgt ((c0 :: r0).take c)) (1)))) 9 rfl (Nat.le_of_ble_eq_true rfl) rfl rfl (by kernel_rfl) ?_
            refine WL.pure (v := vI (te (1 * dgt ((c0 :: r0).take c)) (1))) 10 rfl (Nat.le_of_ble_eq_true rfl) rfl rfl (by kernel_rfl) ?_
            refine WL.nil ?_
            refine WQ.then ?_
            refine hK128 _ _ _ ?_
            refine WC.seq fun K132 hK132 => ?_
            refine WC.seq fun K133 hK133 => ?_
            refine WC.region ?_
            refine WL.pure (v := vI (te (1 * dgt ((c0 :: r0).take c)) (1))) 70 rfl (Nat.le_of_ble_eq_true rfl) rfl rfl (by kernel_rfl) ?_
            by_cases hte : te (1 * dgt ((c0 :: r0).take c)) (1) ≠ 0
            ·
              refine WL.pure (v := .bool true) 71 rfl (Nat.le_of_ble_eq_true rfl) rfl rfl (x_neq rfl rfl rfl (dT (hte))) ?_
              refine WL.pure (v := .bool true) 72 rfl (Nat.le_of_ble_eq_true rfl) rfl rfl (by kernel_rfl) ?_
              refine WL.pass 73 rfl (Nat.le_of_ble_eq_true rfl) rfl ?_
              refine WL.pass 74 rfl (Nat.le_of_ble_eq_true rfl) rfl ?_
              refine WL.pass 75 rfl (Nat.le_of_ble_eq_true rfl) rfl ?_
              refine WL.pure (v := .bool true) 76 rfl (Nat.le_of_ble_eq_true rfl) rfl rfl (by kernel_rfl) ?_
              refine WL.nil ?_
              refine WQ.then ?_
              refine hK133 _ _ _ ?_
              refine WC.sub (l' := [(0, .string (bS (c0 :: r0))), (2, vP b3 0), (4, .string (bS (c0 :: r0))), (5, vI 1), (6, vP b2 0), (7, vI (c : Int)), (8, vI (i : Int)), (9, .string (bS (tx (1 * dgt ((c0 :: r0).take c)) (1)))), (10, vI (te (1 * dgt ((c0 :: r0).take c)) (1))), (28, .bool false), (53, .bool false), (58, .bool false), (76, .bool true)]) ⟨rfl, rfl, rfl, rfl, rfl, rfl, rfl, rfl, rfl, rfl, rfl, rfl, rfl, trivial⟩ ?_
              refine WC.yes rfl ?_
              refine WC.seq fun K134 hK134 => ?_
              refine WC.region ?_
              refine WL.pure (v := .agg #[vI 0, vI 0]) 77 rfl (Nat.le_of_ble_eq_true rfl) rfl rfl (by kernel_rfl) ?_
              refine WL.storeS (H2 := [.cel b3 #[vI 0, vI 0] 23, .cel b2 #[vI (1 * dgt ((c0 :: r0).take c)), vI 1] 23]) 0 hH131 rfl rfl rfl rfl rfl rfl sz23 rfl (Nat.le_of_ble_eq_true rfl) rfl rfl ?_
              intro w135 hH136
              refine WL.pure (v := vI 4) 3 rfl (Nat.le_of_ble_eq_true rfl) rfl rfl (by kernel_rfl) ?_
              refine WL.nil ?_
              refine WQ.then ?_
              refine hK134 _ _ _ ?_
              refine WC.ret ?_
              refine WQ.thenRet ?_
              refine WQ.retC2 2 23 3 rfl rfl rfl (HP.loadRow hH136 0 rfl Tryd.underlying23 rfl sz23) ?_
              refine ⟨.inr ⟨fun a b hT => ?_, rfl⟩, HP.below hH136⟩
              obtain ⟨g1, g2, g3, g4, g5, g6⟩ := rparse_is hS hc hT
              have g7 : 1 = b := (g4 (by omega)).symm
              rw [g1, g7] at hte
              exact hte g5
            ·
              refine WL.pure (v := .bool false) 71 rfl (Nat.le_of_ble_eq_true rfl) rfl rfl (x_neq rfl rfl rfl (dF (hte))) ?_
              refine WL.pure (v := .bool false) 72 rfl (Nat.le_of_ble_eq_true rfl) rfl rfl (by kernel_rfl) ?_
              refine WL.pure (v := .string (bS (tx (1 * dgt ((c0 :: r0).take c)) (1)))) 73 rfl (Nat.le_of_ble_eq_true rfl) rfl rfl (by kernel_rfl) ?_
              refine WL.pure (v := .string (bS (c0 :: r0))) 74 rfl (Nat.le_of_ble_eq_true rfl) rfl rfl (by kernel_rfl) ?_
              by_cases htx : (tx (1 * dgt ((c0 :: r0).take c)) (1)) = (c0 :: r0)
              ·
                refine WL.pure (v := .bool false) 75 rfl (Nat.le_of_ble_eq_true rfl) rfl rfl (x_neqs rfl rfl rfl (dF (fun h => h (congrArg bS htx)))) ?_
                refine WL.pure (v := .bool false) 76 rfl (Nat.le_of_ble_eq_true rfl) rfl rfl (by kernel_rfl) ?_
                refine WL.nil ?_
                refine WQ.then ?_
                refine hK133 _ _ _ ?_
                refine WC.sub (l' := [(0, .string (bS (c0 :: r0))), (2, vP b3 0), (4, .string (bS (c0 :: r0))), (5, vI 1), (6, vP b2 0), (7, vI (c : Int)), (8, vI (i : Int)), (9, .string (bS (tx (1 * dgt ((c0 :: r0).take c)) (1)))), (10, vI (te (1 * dgt ((c0 :: r0).take c)) (1))), (28, .bool false), (53, .bool false), (58, .bool false), (76, .bool false)]) ⟨rfl, rfl, rfl, rfl, rfl, rfl, rfl, rfl, rfl, rfl, rfl, rfl, rfl, trivial⟩ ?_
                refine WC.no rfl ?_
                refine WC.skip ?_
                refine WQ.then ?_
                refine hK132 _ _ _ ?_
                refine WC.seq fun K137 hK137 => ?_
                refine WC.region ?_
                refine WL.pure (v := .agg #[vI (1 * dgt ((c0 :: r0).take c)), vI 1]) 78 rfl (Nat.le_of_ble_eq_true rfl) rfl rfl (x_loadS (cs := [vI (1 * dgt ((c0 :: r0).take c)), vI 1]) rfl rfl Tryd.underlying23 rfl sz23 (HP.range hH131 1 rfl rfl)) ?_
                refine WL.storeS (H2 := [.cel b3 #[vI (1 * dgt ((c0 :: r0).take c)), vI 1] 23, .cel b2 #[vI (1 * dgt ((c0 :: r0).take c)), vI 1] 23]) 0 hH131 rfl rfl rfl rfl rfl rfl sz23 rfl (Nat.le_of_ble_eq_true rfl) rfl rfl ?_
                intro w138 hH139
                refine WL.pure (v := vI 0) 3 rfl (Nat.le_of_ble_eq_true rfl) rfl rfl (by kernel_rfl) ?_
                refine WL.nil ?_
                refine WQ.then ?_
                refine hK137 _ _ _ ?_
                refine WC.ret ?_
                refine WQ.retC2 2 23 3 rfl rfl rfl (HP.loadRow hH139 0 rfl Tryd.underlying23 rfl sz23) ?_
                exact ⟨.inl ⟨_, _, ⟨(te0 (Decidable.not_not.1 hte)).1, (te0 (a := 1 * dgt ((c0 :: r0).take c)) (b := 1) (Decidable.not_not.1 hte)).2.symm.trans htx⟩, rfl⟩, HP.below hH139⟩
              ·
                refine WL.pure (v := .bool true) 75 rfl (Nat.le_of_ble_eq_true rfl) rfl rfl (x_neqs rfl rfl rfl (dT (fun h => htx (bS_inj h)))) ?_
                refine WL.pure (v := .bool true) 76 rfl (Nat.le_of_ble_eq_true rfl) rfl rfl (by kernel_rfl) ?_
                refine WL.nil ?_
                refine WQ.then ?_
                refine hK133 _ _ _ ?_
                refine WC.sub (l' := [(0, .string (bS (c0 :: r0))), (2, vP b3 0), (4, .string (bS (c0 :: r0))), (5, vI 1), (6, vP b2 0), (7, vI (c : Int)), (8, vI (i : Int)), (9, .string (bS (tx (1 * dgt ((c0 :: r0).take c)) (1)))), (10, vI (te (1 * dgt ((c0 :: r0).take c)) (1))), (28, .bool false), (53, .bool false), (58, .bool false), (76, .bool true)]) ⟨rfl, rfl, rfl, rfl, rfl, rfl, rfl, rfl, rfl, rfl, rfl, rfl, rfl, trivial⟩ ?_
                refine WC.yes rfl ?_
                refine WC.seq fun K140 hK140 => ?_
                refine WC.region ?_
                refine WL.pure (v := .agg #[vI 0, vI 0]) 77 rfl (Nat.le_of_ble_eq_true rfl) rfl rfl (by kernel_rfl) ?_
                refine WL.storeS (H2 := [.cel b3 #[vI 0, vI 0] 23, .cel b2 #[vI (1 * dgt ((c0 :: r0).take c)), vI 1] 23]) 0 hH131 rfl rfl rfl rfl rfl rfl sz23 rfl (Nat.le_of_ble_eq_true rfl) rfl rfl ?_
                intro w141 hH142
                refine WL.pure (v := vI 4) 3 rfl (Nat.le_of_ble_eq_true rfl) rfl rfl (by kernel_rfl) ?_
                refine WL.nil ?_
                refine WQ.then ?_
                refine hK140 _ _ _ ?_
                refine WC.ret ?_
                refine WQ.thenRet ?_
                refine WQ.retC2 2 23 3 rfl rfl rfl (HP.loadRow hH142 0 rfl Tryd.underlying23 rfl sz23) ?_
                refine ⟨.inr ⟨fun a b hT => ?_, rfl⟩, HP.below hH142⟩
                obtain ⟨g1, g2, g3, g4, g5, g6⟩ := rparse_is hS hc hT
                have g7 : 1 = b := (g4 (by omega)).symm
                rw [g1, g7] at htx
                exact htx g6
  ·
    refine WL.pure (v := .bool false) 14 rfl (Nat.le_of_ble_eq_true rfl) rfl rfl (x_gtr rfl rfl rfl (dF (hlen))) ?_
    refine WL.pure (v := .bool false) 15 rfl (Nat.le_of_ble_eq_true rfl) rfl rfl (by kernel_rfl) ?_
    refine WL.pass 16 rfl (Nat.le_of_ble_eq_true rfl) rfl ?_
    refine WL.pass 17 rfl (Nat.le_of_ble_eq_true rfl) rfl ?_
    refine WL.pass 18 rfl (Nat.le_of_ble_eq_true rfl) rfl ?_
    refine WL.pure (v := .bool false) 19 rfl (Nat.le_of_ble_eq_true rfl) rfl rfl (by kernel_rfl) ?_
    refine WL.nil ?_
    refine WQ.then ?_
    refine hK9 _ _ _ ?_
    refine WC.sub (l' := [(0, .string (bS l)), (2, vP b3 0), (3, vI 0), (4, .string (bS l)), (5, vI 1), (19, .bool false)]) ⟨rfl, rfl, rfl, rfl, rfl, rfl, trivial⟩ ?_
    refine WC.no rfl ?_
    refine WC.skip ?_
    refine WQ.then ?_
    refine hK8 _ _ _ ?_
    refine WC.seq fun K143 hK143 => ?_
    have hnil : l = [] := List.length_eq_zero_iff.1 (by omega)
    have hS : Sgn l l 1 := .inr ⟨rfl, rfl, fun r hr => by rw [hnil] at hr; cases hr⟩
    have htl : l.length ≤ 281474976710656 := hl
    refine WC.region ?_
    refine WL.pure (v := .agg #[vI 0, vI 1]) 22 rfl (Nat.le_of_ble_eq_true rfl) rfl rfl (by kernel_rfl) ?_
    refine WL.alloc (c := #[vI 0, vI 0]) (T := 23) hH5 6 rfl (by decide) rfl rfl (fun b2 => vP b2 0) (by kernel_rfl) (fun b2 w144 hw144 => ?_)
    have hH145 : HP Tr w w144 [.cel b3 #[vI 0, vI 0] 23, .cel b2 #[vI 0, vI 0] 23] := hw144.2
    have nb2 := hw144.1
    clear hw144
    refine WL.storeS (H2 := [.cel b3 #[vI 0, vI 0] 23, .cel b2 #[vI 0, vI 1] 23]) 1 hH145 rfl rfl rfl rfl rfl rfl sz23 rfl (Nat.le_of_ble_eq_true rfl) rfl rfl ?_
    intro w146 hH147
    refine WL.nil ?_
    refine WQ.then ?_
    refine hK143 _ _ _ ?_
    refine WC.seq fun K148 hK148 => ?_
    refine WC.region ?_
    refine WL.pure (v := .string (bS l)) 23 rfl (Nat.le_of_ble_eq_true rfl) rfl rfl (by kernel_rfl) ?_
    refine WL.pure (v := vI (l.length : Int)) 24 rfl (Nat.le_of_ble_eq_true rfl) rfl rfl (x_slen (l) rfl rfl rfl Tryd.underlying9) ?_
    refine WL.pure (v := vI (l.length : Int)) 7 rfl (Nat.le_of_ble_eq_true rfl) rfl rfl (by kernel_rfl) ?_
    refine WL.nil ?_
    refine WQ.then ?_
    refine hK148 _ _ _ ?_
    refine WC.seq fun K149 hK149 => ?_
    refine WC.seq fun K150 hK150 => ?_
    refine WC.region ?_
    refine WL.pure (v := vI 0) 8 rfl (Nat.le_of_ble_eq_true rfl) rfl rfl (by kernel_rfl) ?_
    refine WL.nil ?_
    refine WQ.then ?_
    refine hK150 _ _ _ ?_
    refine WC.block ?_
    refine WC.loop (fun kk0 ll0 ww0 => ∃ (i : Nat) (c : Nat), ll0 = [(0, .string (bS l)), (2, vP b3 0), (4, .string (bS l)), (5, vI 1), (6, vP b2 0), (7, vI (c : Int)), (8, vI (i : Int))] ∧ kk0 = l.length - i ∧ (i ≤ l.length) ∧ (At47 l i c) ∧ HP Tr w ww0 [.cel b3 #[vI 0, vI 0] 23, .cel b2 #[vI 0, vI 1] 23]) (l.length) [(0, .string (bS l)), (2, vP b3 0), (4, .string (bS l)), (5, vI 1), (6, vP b2 0), (7, vI (l.length : Int)), (8, vI 0)] ⟨rfl, rfl, rfl, rfl, rfl, rfl, rfl, trivial⟩ ⟨0, l.length, rfl, rfl, Nat.zero_le _, .inl ⟨rfl, fun j hj => absurd hj (Nat.not_lt_zero j)⟩, hH147⟩ ?_
    rintro kk l w152 ⟨i, c, rfl, hkk, hi, hc, hH153⟩ K151 hK151
    refine WC.seq fun K154 hK154 => ?_
    refine WC.seq fun K155 hK155 => ?_
    refine WC.region ?_
    refine WL.pure (v := vI (i : Int)) 25 rfl (Nat.le_of_ble_eq_true rfl) rfl rfl (by kernel_rfl) ?_
    refine WL.pure (v := .string (bS l)) 26 rfl (Nat.le_of_ble_eq_true rfl) rfl rfl (by kernel_rfl) ?_
    refine WL.pure (v := vI (l.length : Int)) 27 rfl (Nat.le_of_ble_eq_true rfl) rfl rfl (x_slen (l) rfl rfl rfl Tryd.underlying9) ?_
    by_cases hlt : (i : Int) < (l.length : Int)
    ·
      refine WL.pure (v := .bool true) 28 rfl (Nat.le_of_ble_eq_true rfl) rfl rfl (x_lss rfl rfl rfl (dT (hlt))) ?_
      refine WL.nil ?_
      refine WQ.then ?_
      refine hK155 _ _ _ ?_
      refine WC.yes rfl ?_
      refine WC.skip ?_
      refine WQ.then ?_
      refine hK154 _ _ _ ?_
      refine WC.seq fun K156 hK156 => ?_
      refine WC.block ?_
      refine WC.seq fun K157 hK157 => ?_
      have hlt' : i < l.length := by omega
      obtain ⟨b, hb2⟩ : ∃ b, l[i]? = some b := ⟨l[i], List.getElem?_eq_getElem hlt'⟩
      refine WC.region ?_
      refine WL.pure (v := .string (bS l)) 31 rfl (Nat.le_of_ble_eq_true rfl) rfl rfl (by kernel_rfl) ?_
      refine WL.pure (v := vI (i : Int)) 32 rfl (Nat.le_of_ble_eq_true rfl) rfl rfl (by kernel_rfl) ?_
      refine WL.pure (v := .int .u8 (b.toNat : Int)) 33 rfl (Nat.le_of_ble_eq_true rfl) rfl rfl (x_sidx l i b rfl rfl rfl Tryd.underlying9 rfl hb2) ?_
      by_cases hy : (b.toNat : Int) = 47
      ·
        have hy' : b.toNat = 47 := by omega
        refine WL.pure (v := .bool true) 34 rfl (Nat.le_of_ble_eq_true rfl) rfl rfl (x_eql rfl rfl rfl (dT (hy))) ?_
        refine WL.pure (v := .bool true) 35 rfl (Nat.le_of_ble_eq_true rfl) rfl rfl (by kernel_rfl) ?_
        refine WL.pure (v := vI (c : Int)) 36 rfl (Nat.le_of_ble_eq_true rfl) rfl rfl (by kernel_rfl) ?_
        refine WL.pure (v := .string (bS l)) 37 rfl (Nat.le_of_ble_eq_true rfl) rfl rfl (by kernel_rfl) ?_
        refine WL.pure (v := vI (l.length : Int)) 38 rfl (Nat.le_of_ble_eq_true rfl) rfl rfl (x_slen (l) rfl rfl rfl Tryd.underlying9) ?_
        by_cases hf : (c : Int) = (l.length : Int)
        ·
          refine WL.pure (v := .bool true) 39 rfl (Nat.le_of_ble_eq_true rfl) rfl rfl (x_eql rfl rfl rfl (dT (hf))) ?_
          refine WL.pure (v := .bool true) 40 rfl (Nat.le_of_ble_eq_true rfl) rfl rfl (by kernel_rfl) ?_
          refine WL.nil ?_
          refine WQ.then ?_
          refine hK157 _ _ _ ?_
          refine WC.sub (l' := [(0, .string (bS l)), (2, vP b3 0), (4, .string (bS l)), (5, vI 1), (6, vP b2 0), (7, vI (c : Int)), (8, vI (i : Int)), (28, .bool true), (40, .bool true)]) ⟨rfl, rfl, rfl, rfl, rfl, rfl, rfl, rfl, rfl, trivial⟩ ?_
          refine WC.yes rfl ?_
          refine WC.region ?_
          refine WL.pure (v := vI (i : Int)) 41 rfl (Nat.le_of_ble_eq_true rfl) rfl rfl (by kernel_rfl) ?_
          refine WL.pure (v := vI (i : Int)) 7 rfl (Nat.le_of_ble_eq_true rfl) rfl rfl (by kernel_rfl) ?_
          refine WL.nil ?_
          refine WQ.inNormal ?_
          refine WQ.then ?_
          refine hK156 _ _ _ ?_
          refine WC.region ?_
          refine WL.pure (v := vI (i : Int)) 29 rfl (Nat.le_of_ble_eq_true rfl) rfl rfl (by kernel_rfl) ?_
          refine WL.pure (v := vI ((i + 1 : Nat) : Int)) 30 rfl (Nat.le_of_ble_eq_true rfl) rfl rfl (x_add (Z := ((i + 1 : Nat) : Int)) rfl rfl rfl (by omega) (by omega) (by omega)) ?_
          refine WL.pure (v := vI ((i + 1 : Nat) : Int)) 8 rfl (Nat.le_of_ble_eq_true rfl) rfl rfl (by kernel_rfl) ?_
          refine WL.nil ?_
          refine WQ.sub (l' := [(0, .string (bS l)), (2, vP b3 0), (4, .string (bS l)), (5, vI 1), (6, vP b2 0), (7, vI (i : Int)), (8, vI ((i + 1 : Nat) : Int))]) ⟨rfl, rfl, rfl, rfl, rfl, rfl, rfl, trivial⟩ ?_
          refine WQ.then (hK151 _ _ _ (by omega) ⟨i + 1, i, rfl, rfl, by omega, hc.step_y (by omega) (by rw [hb2]; exact congrArg some (UInt8.toNat_inj.1 (by simpa using hy'))), hH153⟩)
        ·
          refine WL.pure (v := .bool false) 39 rfl (Nat.le_of_ble_eq_true rfl) rfl rfl (x_eql rfl rfl rfl (dF (hf))) ?_
          refine WL.pure (v := .bool false) 40 rfl (Nat.le_of_ble_eq_true rfl) rfl rfl (by kernel_rfl) ?_
          refine WL.nil ?_
          refine WQ.then ?_
          refine hK157 _ _ _ ?_
          refine WC.sub (l' := [(0, .string (bS l)), (2, vP b3 0), (4, .string (bS l)), (5, vI 1), (6, vP b2 0), (7, vI (c : Int)), (8, vI (i : Int)), (28, .bool true), (40, .bool false)]) ⟨rfl, rfl, rfl, rfl, rfl, rfl, rfl, rfl, rfl, trivial⟩ ?_
          refine WC.no rfl ?_
          refine WC.skip ?_
          refine WQ.inNormal ?_
          refine WQ.then ?_
          refine hK156 _ _ _ ?_
          refine WC.region ?_
          refine WL.pure (v := vI (i : Int)) 29 rfl (Nat.le_of_ble_eq_true rfl) rfl rfl (by kernel_rfl) ?_
          refine WL.pure (v := vI ((i + 1 : Nat) : Int)) 30 rfl (Nat.le_of_ble_eq_true rfl) rfl rfl (x_add (Z := ((i + 1 : Nat) : Int)) rfl rfl rfl (by omega) (by omega) (by omega)) ?_
          refine WL.pure (v := vI ((i + 1 : Nat) : Int)) 8 rfl (Nat.le_of_ble_eq_true rfl) rfl rfl (by kernel_rfl) ?_
          refine WL.nil ?_
          refine WQ.sub (l' := [(0, .string (bS l)), (2, vP b3 0), (4, .string (bS l)), (5, vI 1), (6, vP b2 0), (7, vI (c : Int)), (8, vI ((i + 1 : Nat) : Int))]) ⟨rfl, rfl, rfl, rfl, rfl, rfl, rfl, trivial⟩ ?_
          refine WQ.then (hK151 _ _ _ (by omega) ⟨i + 1, c, rfl, rfl, by omega, hc.step_k (by omega), hH153⟩)
      ·
        refine WL.pure (v := .bool false) 34 rfl (Nat.le_of_ble_eq_true rfl) rfl rfl (x_eql rfl rfl rfl (dF (hy))) ?_
        refine WL.pure (v := .bool false) 35 rfl (Nat.le_of_ble_eq_true rfl) rfl rfl (by kernel_rfl) ?_
        refine WL.pass 36 rfl (Nat.le_of_ble_eq_true rfl) rfl ?_
        refine WL.pass 37 rfl (Nat.le_of_ble_eq_true rfl) rfl ?_
        refine WL.pass 38 rfl (Nat.le_of_ble_eq_true rfl) rfl ?_
        refine WL.pass 39 rfl (Nat.le_of_ble_eq_true rfl) rfl ?_
        refine WL.pure (v := .bool false) 40 rfl (Nat.le_of_ble_eq_true rfl) rfl rfl (by kernel_rfl) ?_
        refine WL.nil ?_
        refine WQ.then ?_
        refine hK157 _ _ _ ?_
        refine WC.sub (l' := [(0, .string (bS l)), (2, vP b3 0), (4, .string (bS l)), (5, vI 1), (6, vP b2 0), (7, vI (c : Int)), (8, vI (i : Int)), (28, .bool true), (40, .bool false)]) ⟨rfl, rfl, rfl, rfl, rfl, rfl, rfl, rfl, rfl, trivial⟩ ?_
        refine WC.no rfl ?_
        refine WC.skip ?_
        refine WQ.inNormal ?_
        refine WQ.then ?_
        refine hK156 _ _ _ ?_
        refine WC.region ?_
        refine WL.pure (v := vI (i : Int)) 29 rfl (Nat.le_of_ble_eq_true rfl) rfl rfl (by kernel_rfl) ?_
        refine WL.pure (v := vI ((i + 1 : Nat) : Int)) 30 rfl (Nat.le_of_ble_eq_true rfl) rfl rfl (x_add (Z := ((i + 1 : Nat) : Int)) rfl rfl rfl (by omega) (by omega) (by omega)) ?_
        refine WL.pure (v := vI ((i + 1 : Nat) : Int)) 8 rfl (Nat.le_of_ble_eq_true rfl) rfl rfl (by kernel_rfl) ?_
        refine WL.nil ?_
        refine WQ.sub (l' := [(0, .string (bS l)), (2, vP b3 0), (4, .string (bS l)), (5, vI 1), (6, vP b2 0), (7, vI (c : Int)), (8, vI ((i + 1 : Nat) : Int))]) ⟨rfl, rfl, rfl, rfl, rfl, rfl, rfl, trivial⟩ ?_
        refine WQ.then (hK151 _ _ _ (by omega) ⟨i + 1, c, rfl, rfl, by omega, hc.step_n (fun h => hy (by rw [hb2] at h; cases h; rfl)), hH153⟩)
    ·
      refine WL.pure (v := .bool false) 28 rfl (Nat.le_of_ble_eq_true rfl) rfl rfl (x_lss rfl rfl rfl (dF (hlt))) ?_
      refine WL.nil ?_
      refine WQ.then ?_
      refine hK155 _ _ _ ?_
      refine WC.no rfl ?_
      refine WC.exit ?_
      refine WQ.thenExit ?_
      refine WQ.thenExit ?_
      refine WQ.inExit ?_
      refine WQ.then ?_
      refine hK149 _ _ _ ?_
      refine WC.seq fun K158 hK158 => ?_
      have hie : i = l.length := by omega
      rw [hie] at hc
      have hcl : c ≤ l.length := by rcases hc with ⟨h, _⟩ | ⟨h, _⟩ <;> omega
      have hd1 := dgt_bd (l.take c)
      have hd2 := dgt_bd (l.drop (c + 1))
      refine WC.region ?_
      refine WL.pure (v := vI 1) 42 rfl (Nat.le_of_ble_eq_true rfl) rfl rfl (by kernel_rfl) ?_
      refine WL.pure (v := .string (bS l)) 43 rfl (Nat.le_of_ble_eq_true rfl) rfl rfl (by kernel_rfl) ?_
      refine WL.pure (v := vI (c : Int)) 44 rfl (Nat.le_of_ble_eq_true rfl) rfl rfl (by kernel_rfl) ?_
      refine WL.pure (v := .string (bS (l.take c))) 45 rfl (Nat.le_of_ble_eq_true rfl) rfl rfl (x_shi (l) (c) rfl rfl rfl Tryd.underlying9 (by omega) (by omega)) ?_
      refine WL.call (f := 17) (args := #[.string (bS (l.take c))]) 46 rfl (Nat.le_of_ble_eq_true rfl) rfl rfl (by kernel_rfl) ?_
      refine (digits_any (l.take c) _).mono ?_
      rintro e w159 ⟨rfl, hb160⟩
      refine ⟨_, rfl, ?_⟩
      have hH161 : HP Tr w _ [.cel b3 #[vI 0, vI 0] 23, .cel b2 #[vI 0, vI 1] 23] := HP.call hH153 hb160
      refine WL.pure (v := vI (1 * dgt (l.take c))) 47 rfl (Nat.le_of_ble_eq_true rfl) rfl rfl (x_mul (Z := 1 * dgt (l.take c)) rfl rfl rfl (rfl) (by omega) (by omega)) ?_
      refine WL.pure (v := vP b2 0) 48 rfl (Nat.le_of_ble_eq_true rfl) rfl rfl (by kernel_rfl) ?_
      refine WL.store (H2 := [.cel b3 #[vI 0, vI 0] 23, .cel b2 #[vI (1 * dgt (l.take c)), vI 1] 23]) 1 hH161 rfl rfl rfl rfl rfl rfl sz3 rfl (Nat.le_of_ble_eq_true rfl) rfl rfl ?_
      intro w162 hH163
      refine WL.nil ?_
      refine WQ.then ?_
      refine hK158 _ _ _ ?_
      refine WC.sub (l' := [(0, .string (bS l)), (2, vP b3 0), (4, .string (bS l)), (5, vI 1), (6, vP b2 0), (7, vI (c : Int)), (8, vI (i : Int)), (28, .bool false)]) ⟨rfl, rfl, rfl, rfl, rfl, rfl, rfl, rfl, trivial⟩ ?_
      refine WC.seq fun K164 hK164 => ?_
      refine WC.seq fun K165 hK165 => ?_
      refine WC.region ?_
      refine WL.pure (v := .string (bS l)) 49 rfl (Nat.le_of_ble_eq_true rfl) rfl rfl (by kernel_rfl) ?_
      refine WL.pure (v := vI (c : Int)) 50 rfl (Nat.le_of_ble_eq_true rfl) rfl rfl (by kernel_rfl) ?_
      refine WL.pure (v := .string (bS (l.take c))) 51 rfl (Nat.le_of_ble_eq_true rfl) rfl rfl (x_shi (l) (c) rfl rfl rfl Tryd.underlying9 (by omega) (by omega)) ?_
      refine WL.call (f := 17) (args := #[.string (bS (l.take c))]) 52 rfl (Nat.le_of_ble_eq_true rfl) rfl rfl (by kernel_rfl) ?_
      refine (digits_any (l.take c) _).mono ?_
      rintro e w166 ⟨rfl, hb167⟩
      refine ⟨_, rfl, ?_⟩
      have hH168 : HP Tr w _ [.cel b3 #[vI 0, vI 0] 23, .cel b2 #[vI (1 * dgt (l.take c)), vI 1] 23] := HP.call hH163 hb167
      by_cases hneg : dgt (l.take c) < 0
      ·
        refine WL.pure (v := .bool true) 53 rfl (Nat.le_of_ble_eq_true rfl) rfl rfl (x_lss rfl rfl rfl (dT (hneg))) ?_
        refine WL.nil ?_
        refine WQ.then ?_
        refine hK165 _ _ _ ?_
        refine WC.yes rfl ?_
        refine WC.seq fun K169 hK169 => ?_
        refine WC.region ?_
        refine WL.pure (v := .agg #[vI 0, vI 0]) 54 rfl (Nat.le_of_ble_eq_true rfl) rfl rfl (by kernel_rfl) ?_
        refine WL.storeS (H2 := [.cel b3 #[vI 0, vI 0] 23, .cel b2 #[vI (1 * dgt (l.take c)), vI 1] 23]) 0 hH168 rfl rfl rfl rfl rfl rfl sz23 rfl (Nat.le_of_ble_eq_true rfl) rfl rfl ?_
        intro w170 hH171
        refine WL.pure (v := vI 4) 3 rfl (Nat.le_of_ble_eq_true rfl) rfl rfl (by kernel_rfl) ?_
        refine WL.nil ?_
        refine WQ.then ?_
        refine hK169 _ _ _ ?_
        refine WC.ret ?_
        refine WQ.thenRet ?_
        refine WQ.retC2 2 23 3 rfl rfl rfl (HP.loadRow hH171 0 rfl Tryd.underlying23 rfl sz23) ?_
        refine ⟨.inr ⟨fun a b hT => ?_, rfl⟩, HP.below hH171⟩
        obtain ⟨g1, g2, g3, g4, g5, g6⟩ := rparse_is hS hc hT
        omega
      ·
        refine WL.pure (v := .bool false) 53 rfl (Nat.le_of_ble_eq_true rfl) rfl rfl (x_lss rfl rfl rfl (dF (hneg))) ?_
        refine WL.nil ?_
        refine WQ.then ?_
        refine hK165 _ _ _ ?_
        refine WC.no rfl ?_
        refine WC.skip ?_
        refine WQ.then ?_
        refine hK164 _ _ _ ?_
        refine WC.seq fun K172 hK172 => ?_
        refine WC.seq fun K173 hK173 => ?_
        refine WC.region ?_
        refine WL.pure (v := vI (c : Int)) 55 rfl (Nat.le_of_ble_eq_true rfl) rfl rfl (by kernel_rfl) ?_
        refine WL.pure (v := .string (bS l)) 56 rfl (Nat.le_of_ble_eq_true rfl) rfl rfl (by kernel_rfl) ?_
        refine WL.pure (v := vI (l.length : Int)) 57 rfl (Nat.le_of_ble_eq_true rfl) rfl rfl (x_slen (l) rfl rfl rfl Tryd.underlying9) ?_
        by_cases hcut : (c : Int) < (l.length : Int)
        ·
          refine WL.pure (v := .bool true) 58 rfl (Nat.le_of_ble_eq_true rfl) rfl rfl (x_lss rfl rfl rfl (dT (hcut))) ?_
          refine WL.nil ?_
          refine WQ.then ?_
          refine hK173 _ _ _ ?_
          refine WC.sub (l' := [(0, .string (bS l)), (2, vP b3 0), (4, .string (bS l)), (5, vI 1), (6, vP b2 0), (7, vI (c : Int)), (8, vI (i : Int)), (28, .bool false), (53, .bool false), (58, .bool true)]) ⟨rfl, rfl, rfl, rfl, rfl, rfl, rfl, rfl, rfl, rfl, trivial⟩ ?_
          refine WC.yes rfl ?_
          refine WC.region ?_
          refine WL.pure (v := .string (bS l)) 59 rfl (Nat.le_of_ble_eq_true rfl) rfl rfl (by kernel_rfl) ?_
          refine WL.pure (v := vI (c : Int)) 60 rfl (Nat.le_of_ble_eq_true rfl) rfl rfl (by kernel_rfl) ?_
          refine WL.pure (v := vI ((c + 1 : Nat) : Int)) 61 rfl (Nat.le_of_ble_eq_true rfl) rfl rfl (x_add (Z := ((c + 1 : Nat) : Int)) rfl rfl rfl (by omega) (by omega) (by omega)) ?_
          refine WL.pure (v := .string (bS (l.drop (c + 1)))) 62 rfl (Nat.le_of_ble_eq_true rfl) rfl rfl (x_slo (l) (c + 1) rfl rfl rfl Tryd.underlying9 (by omega) (by omega)) ?_
          refine WL.call (f := 17) (args := #[.string (bS (l.drop (c + 1)))]) 63 rfl (Nat.le_of_ble_eq_true rfl) rfl rfl (by kernel_rfl) ?_
          refine (digits_any (l.drop (c + 1)) _).mono ?_
          rintro e w174 ⟨rfl, hb175⟩
          refine ⟨_, rfl, ?_⟩
          have hH176 : HP Tr w _ [.cel b3 #[vI 0, vI 0] 23, .cel b2 #[vI (1 * dgt (l.take c)), vI 1] 23] := HP.call hH168 hb175
          refine WL.pure (v := vP b2 1) 64 rfl (Nat.le_of_ble_eq_true rfl) rfl rfl (by kernel_rfl) ?_
          refine WL.store (H2 := [.cel b3 #[vI 0, vI 0] 23, .cel b2 #[vI (1 * dgt (l.take c)), vI (dgt (l.drop (c + 1)))] 23]) 1 hH176 rfl rfl rfl rfl rfl rfl sz3 rfl (Nat.le_of_ble_eq_true rfl) rfl rfl ?_
          intro w177 hH178
          refine WL.nil ?_
          refine WQ.then ?_
          refine hK172 _ _ _ ?_
          refine WC.sub (l' := [(0, .string (bS l)), (2, vP b3 0), (4, .string (bS l)), (5, vI 1), (6, vP b2 0), (7, vI (c : Int)), (8, vI (i : Int)), (28, .bool false), (53, .bool false), (58, .bool true)]) ⟨rfl, rfl, rfl, rfl, rfl, rfl, rfl, rfl, rfl, rfl, trivial⟩ ?_
          refine WC.seq fun K179 hK179 => ?_
          refine WC.region ?_
          refine WL.pure (v := .agg #[vI (1 * dgt (l.take c)), vI (dgt (l.drop (c + 1)))]) 66 rfl (Nat.le_of_ble_eq_true rfl) rfl rfl (x_loadS (cs := [vI (1 * dgt (l.take c)), vI (dgt (l.drop (c + 1)))]) rfl rfl Tryd.underlying23 rfl sz23 (HP.range hH178 1 rfl rfl)) ?_
          refine WL.call (f := 6) (args := #[.agg #[vI (1 * dgt (l.take c)), vI (dgt (l.drop (c + 1)))]]) 67 rfl (Nat.le_of_ble_eq_true rfl) rfl rfl (by kernel_rfl) ?_
          refine (rText_any (1 * dgt (l.take c)) (dgt (l.drop (c + 1))) _ (hE.below (HP.below hH178))).mono ?_
          rintro e w180 ⟨rfl, hb181⟩
          refine ⟨_, rfl, ?_⟩
          have hH182 : HP Tr w _ [.cel b3 #[vI 0, vI 0] 23, .cel b2 #[vI (1 * dgt (l.take c)), vI (dgt (l.drop (c + 1)))] 23] := HP.call hH178 hb181
          refine WL.pure (v := .tuple #[.string (bS (tx (1 * dgt (l.take c)) (dgt (l.drop (c + 1))))), vI (te (1 * dgt (l.take c)) (dgt (l.drop (c + 1))))]) 65 rfl (Nat.le_of_ble_eq_true rfl) rfl rfl (by kernel_rfl) ?_
          refine WL.pure (v := .string (bS (tx (1 * dgt (l.take c)) (dgt (l.drop (c + 1)))))) 68 rfl (Nat.le_of_ble_eq_true rfl) rfl rfl (by kernel_rfl) ?_
          refine WL.pure (v := vI (te (1 * dgt (l.take c)) (dgt (l.drop (c + 1))))) 69 rfl (Nat.le_of_ble_eq_true rfl) rfl rfl (by kernel_rfl) ?_
          refine WL.pure (v := .string (bS (tx (1 * dgt (l.take c)) (dgt (l.drop (c + 1)))))) 9 rfl (Nat.le_of_ble_eq_true rfl) rfl rfl (by kernel_rfl) ?_
          refine WL.pure (v := vI (te (1 * dgt (l.take c)) (dgt (l.drop (c + 1))))) 10 rfl (Nat.le_of_ble_eq_true rfl) rfl rfl (by kernel_rfl) ?_
          refine WL.nil ?_
          refine WQ.then ?_
          refine hK179 _ _ _ ?_
          refine WC.seq fun K183 hK183 => ?_
          refine WC.seq fun K184 hK184 => ?_
          refine WC.region ?_
          refine WL.pure (v := vI (te (1 * dgt (l.take c)) (dgt (l.drop (c + 1))))) 70 rfl (Nat.le_of_ble_eq_true rfl) rfl rfl (by kernel_rfl) ?_
          by_cases hte : te (1 * dgt (l.take c)) (dgt (l.drop (c + 1))) ≠ 0
          ·
            refine WL.pure (v := .bool true) 71 rfl (Nat.le_of_ble_eq_true rfl) rfl rfl (x_neq rfl rfl rfl (dT (hte))) ?_
            refine WL.pure (v := .bool true) 72 rfl (Nat.le_of_ble_eq_true rfl) rfl rfl (by kernel_rfl) ?_
            refine WL.pass 73 rfl (Nat.le_of_ble_eq_true rfl) rfl ?_
            refine WL.pass 74 rfl (Nat.le_of_ble_eq_true rfl) rfl ?_
            refine WL.pass 75 rfl (Nat.le_of_ble_eq_true rfl) rfl ?_
            refine WL.pure (v := .bool true) 76 rfl (Nat.le_of_ble_eq_true rfl) rfl rfl (by kernel_rfl) ?_
            refine WL.nil ?_
            refine WQ.then ?_
            refine hK184 _ _ _ ?_
            refine WC.sub (l' := [(0, .string (bS l)), (2, vP b3 0), (4, .string (bS l)), (5, vI 1), (6, vP b2 0), (7, vI (c : Int)), (8, vI (i : Int)), (9, .string (bS (tx (1 * dgt (l.take c)) (dgt (l.drop (c + 1)))))), (10, vI (te (1 * dgt (l.take c)) (dgt (l.drop (c + 1))))), (28, .bool false), (53, .bool false), (58, .bool true), (76, .bool true)]) ⟨rfl, rfl, rfl, rfl, rfl, rfl, rfl, rfl, rfl, rfl, rfl, rfl, rfl, trivial⟩ ?_
            refine WC.yes rfl ?_
            refine WC.seq fun K185 hK185 => ?_
            refine WC.region ?_
            refine WL.pure (v := .agg #[vI 0, vI 0]) 77 rfl (Nat.le_of_ble_eq_true rfl) rfl rfl (by kernel_rfl) ?_
            refine WL.storeS (H2 := [.cel b3 #[vI 0, vI 0] 23, .cel b2 #[vI (1 * dgt (l.take c)), vI (dgt (l.drop (c + 1)))] 23]) 0 hH182 rfl rfl rfl rfl rfl rfl sz23 rfl (Nat.le_of_ble_eq_true rfl) rfl rfl ?_
            intro w186 hH187
            refine WL.pure (v := vI 4) 3 rfl (Nat.le_of_ble_eq_true rfl) rfl rfl (by kernel_rfl) ?_
            refine WL.nil ?_
            refine WQ.then ?_
            refine hK185 _ _ _ ?_
            refine WC.ret ?_
            refine WQ.thenRet ?_
            refine WQ.retC2 2 23 3 rfl rfl rfl (HP.loadRow hH187 0 rfl Tryd.underlying23 rfl sz23) ?_
            refine ⟨.inr ⟨fun a b hT => ?_, rfl⟩, HP.below hH187⟩
            obtain ⟨g1, g2, g3, g4, g5, g6⟩ := rparse_is hS hc hT
            have g7 : dgt (l.drop (c + 1)) = b := g3 (by omega)
            rw [g1, g7] at hte
            exact hte g5
          ·
            refine WL.pure (v := .bool false) 71 rfl (Nat.le_of_ble_eq_true rfl) rfl rfl (x_neq rfl rfl rfl (dF (hte))) ?_
            refine WL.pure (v := .bool false) 72 rfl (Nat.le_of_ble_eq_true rfl) rfl rfl (by kernel_rfl) ?_
            refine WL.pure (v := .string (bS (tx (1 * dgt (l.take c)) (dgt (l.drop (c + 1)))))) 73 rfl (Nat.le_of_ble_eq_true rfl) rfl rfl (by kernel_rfl) ?_
            refine WL.pure (v := .string (bS l)) 74 rfl (Nat.le_of_ble_eq_true rfl) rfl rfl (by kernel_rfl) ?_
            by_cases htx : (tx (1 * dgt (l.take c)) (dgt (l.drop (c + 1)))) = l
            ·
              refine WL.pure (v := .bool false) 75 rfl (Nat.le_of_ble_eq_true rfl) rfl rfl (x_neqs rfl rfl rfl (dF (fun h => h (congrArg bS htx)))) ?_
              refine WL.pure (v := .bool false) 76 rfl (Nat.le_of_ble_eq_true rfl) rfl rfl (by kernel_rfl) ?_
              refine WL.nil ?_
              refine WQ.then ?_
              refine hK184 _ _ _ ?_
              refine WC.sub (l' := [(0, .string (bS l)), (2, vP b3 0), (4, .string (bS l)), (5, vI 1), (6, vP b2 0), (7, vI (c : Int)), (8, vI (i : Int)), (9, .string (bS (tx (1 * dgt (l.take c)) (dgt (l.drop (c + 1)))))), (10, vI (te (1 * dgt (l.take c)) (dgt (l.drop (c + 1))))), (28, .bool false), (53, .bool false), (58, .bool true), (76, .bool false)]) ⟨rfl, rfl, rfl, rfl, rfl, rfl, rfl, rfl, rfl, rfl, rfl, rfl, rfl, trivial⟩ ?_
              refine WC.no rfl ?_
              refine WC.skip ?_
              refine WQ.then ?_
              refine hK183 _ _ _ ?_
              refine WC.seq fun K188 hK188 => ?_
              refine WC.region ?_
              refine WL.pure (v := .agg #[vI (1 * dgt (l.take c)), vI (dgt (l.drop (c + 1)))]) 78 rfl (Nat.le_of_ble_eq_true rfl) rfl rfl (x_loadS (cs := [vI (1 * dgt (l.take c)), vI (dgt (l.drop (c + 1)))]) rfl rfl Tryd.underlying23 rfl sz23 (HP.range hH182 1 rfl rfl)) ?_
              refine WL.storeS (H2 := [.cel b3 #[vI (1 * dgt (l.take c)), vI (dgt (l.drop (c + 1)))] 23, .cel b2 #[vI (1 * dgt (l.take c)), vI (dgt (l.drop (c + 1)))] 23]) 0 hH182 rfl rfl rfl rfl rfl rfl sz23 rfl (Nat.le_of_ble_eq_true rfl) rfl rfl ?_
              intro w189 hH190
              refine WL.pure (v := vI 0) 3 rfl (Nat.le_of_ble_eq_true rfl) rfl rfl (by kernel_rfl) ?_
              refine WL.nil ?_
              refine WQ.then ?_
              refine hK188 _ _ _ ?_
              refine WC.ret ?_
              refine WQ.retC2 2 23 3 rfl rfl rfl (HP.loadRow hH190 0 rfl Tryd.underlying23 rfl sz23) ?_
              exact ⟨.inl ⟨_, _, ⟨(te0 (Decidable.not_not.1 hte)).1, (te0 (a := 1 * dgt (l.take c)) (b := dgt (l.drop (c + 1))) (Decidable.not_not.1 hte)).2.symm.trans htx⟩, rfl⟩, HP.below hH190⟩
            ·
              refine WL.pure (v := .bool true) 75 rfl (Nat.le_of_ble_eq_true rfl) rfl rfl (x_neqs rfl rfl rfl (dT (fun h => htx (bS_inj h)))) ?_
              refine WL.pure (v := .bool true) 76 rfl (Nat.le_of_ble_eq_true rfl) rfl rfl (by kernel_rfl) ?_
              refine WL.nil ?_
              refine WQ.then ?_
              refine hK184 _ _ _ ?_
              refine WC.sub (l' := [(0, .string (bS l)), (2, vP b3 0), (4, .string (bS l)), (5, vI 1), (6, vP b2 0), (7, vI (c : Int)), (8, vI (i : Int)), (9, .string (bS (tx (1 * dgt (l.take c)) (dgt (l.drop (c + 1)))))), (10, vI (te (1 * dgt (l.take c)) (dgt (l.drop (c + 1))))), (28, .bool false), (53, .bool false), (58, .bool true), (76, .bool true)]) ⟨rfl, rfl, rfl, rfl, rfl, rfl, rfl, rfl, rfl, rfl, rfl, rfl, rfl, trivial⟩ ?_
              refine WC.yes rfl ?_
              refine WC.seq fun K191 hK191 => ?_
              refine WC.region ?_
              refine WL.pure (v := .agg #[vI 0, vI 0]) 77 rfl (Nat.le_of_ble_eq_true rfl) rfl rfl (by kernel_rfl) ?_
              refine WL.storeS (H2 := [.cel b3 #[vI 0, vI 0] 23, .cel b2 #[vI (1 * dgt (l.take c)), vI (dgt (l.drop (c + 1)))] 23]) 0 hH182 rfl rfl rfl rfl rfl rfl sz23 rfl (Nat.le_of_ble_eq_true rfl) rfl rfl ?_
              intro w192 hH193
              refine WL.pure (v := vI 4) 3 rfl (Nat.le_of_ble_eq_true rfl) rfl rfl (by kernel_rfl) ?_
              refine WL.nil ?_
              refine WQ.then ?_
              refine hK191 _ _ _ ?_
              refine WC.ret ?_
              refine WQ.thenRet ?_
              refine WQ.retC2 2 23 3 rfl rfl rfl (HP.loadRow hH193 0 rfl Tryd.underlying23 rfl sz23) ?_
              refine ⟨.inr ⟨fun a b hT => ?_, rfl⟩, HP.below hH193⟩
              obtain ⟨g1, g2, g3, g4, g5, g6⟩ := rparse_is hS hc hT
              have g7 : dgt (l.drop (c + 1)) = b := g3 (by omega)
              rw [g1, g7] at htx
              exact htx g6
        ·
          refine WL.pure (v := .bool false) 58 rfl (Nat.le_of_ble_eq_true rfl) rfl rfl (x_lss rfl rfl rfl (dF (hcut))) ?_
          refine WL.nil ?_
          refine WQ.then ?_
          refine hK173 _ _ _ ?_
          refine WC.sub (l' := [(0, .string (bS l)), (2, vP b3 0), (4, .string (bS l)), (5, vI 1), (6, vP b2 0), (7, vI (c : Int)), (8, vI (i : Int)), (28, .bool false), (53, .bool false), (58, .bool false)]) ⟨rfl, rfl, rfl, rfl, rfl, rfl, rfl, rfl, rfl, rfl, trivial⟩ ?_
          refine WC.no rfl ?_
          refine WC.skip ?_
          refine WQ.then ?_
          refine hK172 _ _ _ ?_
          refine WC.seq fun K194 hK194 => ?_
          refine WC.region ?_
          refine WL.pure (v := .agg #[vI (1 * dgt (l.take c)), vI 1]) 66 rfl (Nat.le_of_ble_eq_true rfl) rfl rfl (x_loadS (cs := [vI (1 * dgt (l.take c)), vI 1]) rfl rfl Tryd.underlying23 rfl sz23 (HP.range hH168 1 rfl rfl)) ?_
          refine WL.call (f := 6) (args := #[.agg #[vI (1 * dgt (l.take c)), vI 1]]) 67 rfl (Nat.le_of_ble_eq_true rfl) rfl rfl (by kernel_rfl) ?_
          refine (rText_any (1 * dgt (l.take c)) (1) _ (hE.below (HP.below hH168))).mono ?_
          rintro e w195 ⟨rfl, hb196⟩
          refine ⟨_, rfl, ?_⟩
          have hH197 : HP Tr w _ [.cel b3 #[vI 0, vI 0] 23, .cel b2 #[vI (1 * dgt (l.take c)), vI 1] 23] := HP.call hH168 hb196
          refine WL.pure (v := .tuple #[.string (bS (tx (1 * dgt (l.take c)) (1))), vI (te (1 * dgt (l.take c)) (1))]) 65 rfl (Nat.le_of_ble_eq_true rfl) rfl rfl (by kernel_rfl) ?_
          refine WL.pure (v := .string (bS (tx (1 * dgt (l.take c)) (1)))) 68 rfl (Nat.le_of_ble_eq_true rfl) rfl rfl (by kernel_rfl) ?_
          refine WL.pure (v := vI (te (1 * dgt (l.take c)) (1))) 69 rfl (Nat.le_of_ble_eq_true rfl) rfl rfl (by kernel_rfl) ?_
          refine WL.pure (v := .string (bS (tx (1 * dgt (l.take c)) (1)))) 9 rfl (Nat.le_of_ble_eq_true rfl) rfl rfl (by kernel_rfl) ?_
          refine WL.pure (v := vI (te (1 * dgt (l.take c)) (1))) 10 rfl (Nat.le_of_ble_eq_true rfl) rfl rfl (by kernel_rfl) ?_
          refine WL.nil ?_
          refine WQ.then ?_
          refine hK194 _ _ _ ?_
          refine WC.seq fun K198 hK198 => ?_
          refine WC.seq fun K199 hK199 => ?_
          refine WC.region ?_
          refine WL.pure (v := vI (te (1 * dgt (l.take c)) (1))) 70 rfl (Nat.le_of_ble_eq_true rfl) rfl rfl (by kernel_rfl) ?_
          by_cases hte : te (1 * dgt (l.take c)) (1) ≠ 0
          ·
            refine WL.pure (v := .bool true) 71 rfl (Nat.le_of_ble_eq_true rfl) rfl rfl (x_neq rfl rfl rfl (dT (hte))) ?_
            refine WL.pure (v := .bool true) 72 rfl (Nat.le_of_ble_eq_true rfl) rfl rfl (by kernel_rfl) ?_
            refine WL.pass 73 rfl (Nat.le_of_ble_eq_true rfl) rfl ?_
            refine WL.pass 74 rfl (Nat.le_of_ble_eq_true rfl) rfl ?_
            refine WL.pass 75 rfl (Nat.le_of_ble_eq_true rfl) rfl ?_
            refine WL.pure (v := .bool true) 76 rfl (Nat.le_of_ble_eq_true rfl) rfl rfl (by kernel_rfl) ?_
            refine WL.nil ?_
            refine WQ.then ?_
            refine hK199 _ _ _ ?_
            refine WC.sub (l' := [(0, .string (bS l)), (2, vP b3 0), (4, .string (bS l)), (5, vI 1), (6, vP b2 0), (7, vI (c : Int)), (8, vI (i : Int)), (9, .string (bS (tx (1 * dgt (l.take c)) (1)))), (10, vI (te (1 * dgt (l.take c)) (1))), (28, .bool false), (53, .bool false), (58, .bool false), (76, .bool true)]) ⟨rfl, rfl, rfl, rfl, rfl, rfl, rfl, rfl, rfl, rfl, rfl, rfl, rfl, trivial⟩ ?_
            refine WC.yes rfl ?_
            refine WC.seq fun K200 hK200 => ?_
            refine WC.region ?_
            refine WL.pure (v := .agg #[vI 0, vI 0]) 77 rfl (Nat.le_of_ble_eq_true rfl) rfl rfl (by kernel_rfl) ?_
            refine WL.storeS (H2 := [.cel b3 #[vI 0, vI 0] 23, .cel b2 #[vI (1 * dgt (l.take c)), vI 1] 23]) 0 hH197 rfl rfl rfl rfl rfl rfl sz23 rfl (Nat.le_of_ble_eq_true rfl) rfl rfl ?_
            intro w201 hH202
            refine WL.pure (v := vI 4) 3 rfl (Nat.le_of_ble_eq_true rfl) rfl rfl (by kernel_rfl) ?_
            refine WL.nil ?_
            refine WQ.then ?_
            refine hK200 _ _ _ ?_
            refine WC.ret ?_
            refine WQ.thenRet ?_
            refine WQ.retC2 2 23 3 rfl rfl rfl (HP.loadRow hH202 0 rfl Tryd.underlying23 rfl sz23) ?_
            refine ⟨.inr ⟨fun a b hT => ?_, rfl⟩, HP.below hH202⟩
            obtain ⟨g1, g2, g3, g4, g5, g6⟩ := rparse_is hS hc hT
            have g7 : 1 = b := (g4 (by omega)).symm
            rw [g1, g7] at hte
            exact hte g5
          ·
            refine WL.pure (v := .bool false) 71 rfl (Nat.le_of_ble_eq_true rfl) rfl rfl (x_neq rfl rfl rfl (dF (hte))) ?_
            refine WL.pure (v := .bool false) 72 rfl (Nat.le_of_ble_eq_true rfl) rfl rfl (by kernel_rfl) ?_
            refine WL.pure (v := .string (bS (tx (1 * dgt (l.take c)) (1)))) 73 rfl (Nat.le_of_ble_eq_true rfl) rfl rfl (by kernel_rfl) ?_
            refine WL.pure (v := .string (bS l)) 74 rfl (Nat.le_of_ble_eq_true rfl) rfl rfl (by kernel_rfl) ?_
            by_cases htx : (tx (1 * dgt (l.take c)) (1)) = l
            ·
              refine WL.pure (v := .bool false) 75 rfl (Nat.le_of_ble_eq_true rfl) rfl rfl (x_neqs rfl rfl rfl (dF (fun h => h (congrArg bS htx)))) ?_
              refine WL.pure (v := .bool false) 76 rfl (Nat.le_of_ble_eq_true rfl) rfl rfl (by kernel_rfl) ?_
              refine WL.nil ?_
              refine WQ.then ?_
              refine hK199 _ _ _ ?_
              refine WC.sub (l' := [(0, .string (bS l)), (2, vP b3 0), (4, .string (bS l)), (5, vI 1), (6, vP b2 0), (7, vI (c : Int)), (8, vI (i : Int)), (9, .string (bS (tx (1 * dgt (l.take c)) (1)))), (10, vI (te (1 * dgt (l.take c)) (1))), (28, .bool false), (53, .bool false), (58, .bool false), (76, .bool false)]) ⟨rfl, rfl, rfl, rfl, rfl, rfl, rfl, rfl, rfl, rfl, rfl, rfl, rfl, trivial⟩ ?_
              refine WC.no rfl ?_
              refine WC.skip ?_
              refine WQ.then ?_
              refine hK198 _ _ _ ?_
              refine WC.seq fun K203 hK203 => ?_
              refine WC.region ?_
              refine WL.pure (v := .agg #[vI (1 * dgt (l.take c)), vI 1]) 78 rfl (Nat.le_of_ble_eq_true rfl) rfl rfl (x_loadS (cs := [vI (1 * dgt (l.take c)), vI 1]) rfl rfl Tryd.underlying23 rfl sz23 (HP.range hH197 1 rfl rfl)) ?_
              refine WL.storeS (H2 := [.cel b3 #[vI (1 * dgt (l.take c)), vI 1] 23, .cel b2 #[vI (1 * dgt (l.take c)), vI 1] 23]) 0 hH197 rfl rfl rfl rfl rfl rfl sz23 rfl (Nat.le_of_ble_eq_true rfl) rfl rfl ?_
              intro w204 hH205
              refine WL.pure (v := vI 0) 3 rfl (Nat.le_of_ble_eq_true rfl) rfl rfl (by kernel_rfl) ?_
              refine WL.nil ?_
              refine WQ.then ?_
              refine hK203 _ _ _ ?_
              refine WC.ret ?_
              refine WQ.retC2 2 23 3 rfl rfl rfl (HP.loadRow hH205 0 rfl Tryd.underlying23 rfl sz23) ?_
              exact ⟨.inl ⟨_, _, ⟨(te0 (Decidable.not_not.1 hte)).1, (te0 (a := 1 * dgt (l.take c)) (b := 1) (Decidable.not_not.1 hte)).2.symm.trans htx⟩, rfl⟩, HP.below hH205⟩
            ·
              refine WL.pure (v := .bool true) 75 rfl (Nat.le_of_ble_eq_true rfl) rfl rfl (x_neqs rfl rfl rfl (dT (fun h => htx (bS_inj h)))) ?_
              refine WL.pure (v := .bool true) 76 rfl (Nat.le_of_ble_eq_true rfl) rfl rfl (by kernel_rfl) ?_
              refine WL.nil ?_
              refine WQ.then ?_
              refine hK199 _ _ _ ?_
              refine WC.sub (l' := [(0, .string (bS l)), (2, vP b3 0), (4, .string (bS l)), (5, vI 1), (6, vP b2 0), (7, vI (c : Int)), (8, vI (i : Int)), (9, .string (bS (tx (1 * dgt (l.take c)) (1)))), (10, vI (te (1 * dgt (l.take c)) (1))), (28, .bool false), (53, .bool false), (58, .bool false), (76, .bool true)]) ⟨rfl, rfl, rfl, rfl, rfl, rfl, rfl, rfl, rfl, rfl, rfl, rfl, rfl, trivial⟩ ?_
              refine WC.yes rfl ?_
              refine WC.seq fun K206 hK206 => ?_
              refine WC.region ?_
              refine WL.pure (v := .agg #[vI 0, vI 0]) 77 rfl (Nat.le_of_ble_eq_true rfl) rfl rfl (by kernel_rfl) ?_
              refine WL.storeS (H2 := [.cel b3 #[vI 0, vI 0] 23, .cel b2 #[vI (1 * dgt (l.take c)), vI 1] 23]) 0 hH197 rfl rfl rfl rfl rfl rfl sz23 rfl (Nat.le_of_ble_eq_true rfl) rfl rfl ?_
              intro w207 hH208
              refine WL.pure (v := vI 4) 3 rfl (Nat.le_of_ble_eq_true rfl) rfl rfl (by kernel_rfl) ?_
              refine WL.nil ?_
              refine WQ.then ?_
              refine hK206 _ _ _ ?_
              refine WC.ret ?_
              refine WQ.thenRet ?_
              refine WQ.retC2 2 23 3 rfl rfl rfl (HP.loadRow hH208 0 rfl Tryd.underlying23 rfl sz23) ?_
              refine ⟨.inr ⟨fun a b hT => ?_, rfl⟩, HP.below hH208⟩
              obtain ⟨g1, g2, g3, g4, g5, g6⟩ := rparse_is hS hc hT
              have g7 : 1 = b := (g4 (by omega)).symm
              rw [g1, g7] at htx
              exact htx g6
end Qb
end Go.Proofs.YtlcgfhliaalccaaDoor
