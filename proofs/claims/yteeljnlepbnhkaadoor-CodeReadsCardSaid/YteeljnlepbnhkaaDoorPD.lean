/- Words, lines, instructions of both. -/
import Derived.Test.YteeljnlepbnhkaaDoorPC
set_option linter.unusedVariables false
set_option linter.unusedSimpArgs false
namespace Go.Proofs.YteeljnlepbnhkaaDoor
open Go.RowKit Fw
namespace Cw
open Qa Go.Lib Ec
theorem drop_cons' {l : List UInt8} {i : Nat} {b : UInt8} (hb : l[i]? = some b) : l.drop i = b :: l.drop (i + 1) := by
  have hlt := (List.getElem?_eq_some_iff.1 hb).1
  rw [List.drop_eq_getElem_cons hlt, (List.getElem?_eq_some_iff.1 hb).2]
theorem win_snoc {l : List UInt8} {f i : Nat} {b : UInt8} (hf : f ≤ i) (hb : l[i]? = some b) : (l.take (i + 1)).drop f = (l.take i).drop f ++ [b] := by
  have hlt := (List.getElem?_eq_some_iff.1 hb).1
  rw [List.take_add_one, hb]
  rw [List.drop_append_of_le_length (by simp; omega)]
  rfl
theorem strAt {w : World} {b : Nat} {s : ByteArray} {T : Nat} (h : Ent.holds w (.cel b #[.string s] T)) : ∀ q u, [Value.string s][q]? = some u → w.cell? ((⟨b, 0, none⟩ : Addr).add q) = some u := fun q u hu => by
  have hb : w.heap[b]? = some (.cells #[.string s] T (0, 0)) := h
  have hadd : (⟨b, 0, none⟩ : Addr).add q = ⟨b, q, none⟩ := by unfold Addr.add; split <;> simp_all
  rw [hadd, cell_of_row w b q _ T (0, 0) hb]
  simpa using hu
theorem opI_lt {s : ByteArray} {k : Nat} (h : opI s = some k) : k < 36 := by
  unfold opI at h
  rw [List.find?_range_eq_some] at h
  simpa using h.2.1
theorem op_some {s : ByteArray} {k : Nat} (h : opI s = some k) : opV s = (k : Int) ∧ opFe s = 0 := by unfold opV opFe; rw [h]; exact ⟨rfl, rfl⟩
theorem op_none {s : ByteArray} (h : opI s = none) : opV s = 0 ∧ opFe s = 3 := by unfold opV opFe; rw [h]; exact ⟨rfl, rfl⟩
theorem opN_nat {k : Nat} (h : k < 36) : opN (k : Int) = opd k := by unfold opN; rw [if_pos (by omega), Int.toNat_natCast]
theorem ins_ok {w0 : List UInt8} {r : List (List UInt8)} {k : Nat} {x y : Int} (h1 : opI (bS w0) = some k) (h2 : (r.length : Int) = opd k) (hx : (0 < r.length → numV (r.getD 0 []) = some x) ∧ (r.length = 0 → x = 0)) (hy : (1 < r.length → numV (r.getD 1 []) = some y) ∧ (r.length ≤ 1 → y = 0)) : insV (w0 :: r) = some ((k : Int), x, y) := by
  have h3 := opd_le k
  simp only [insV, h1, if_pos h2]
  match r, h2, hx, hy with
  | [], _, hx, hy => simp [args, hx.2 rfl, hy.2 (by simp)]
  | [a], _, hx, hy =>
    have q := hx.1 (by simp)
    simp at q
    simp [args, q, hy.2 (by simp)]
  | [a, c], _, hx, hy =>
    have q := hx.1 (by simp)
    have q2 := hy.1 (by simp)
    simp at q q2
    simp [args, q, q2]
  | a :: c :: d :: r, h2, _, _ => simp at h2; omega
theorem ins_op {w0 : List UInt8} {r : List (List UInt8)} (h1 : opI (bS w0) = none) : insV (w0 :: r) = none := by simp only [insV, h1]
theorem ins_len {w0 : List UInt8} {r : List (List UInt8)} {k : Nat} (h1 : opI (bS w0) = some k) (h2 : ¬ (r.length : Int) = opd k) : insV (w0 :: r) = none := by simp only [insV, h1, if_neg h2]
theorem ins_num {w0 : List UInt8} {r : List (List UInt8)} {k j : Nat} (h1 : opI (bS w0) = some k) (hj : j < r.length) (hn : numV (r.getD j []) = none) : insV (w0 :: r) = none := by
  simp only [insV, h1]
  split
  · rename_i h2
    have h3 := opd_le k
    have : args r = none := by
      match r, h2, hj, hn with
      | [], _, hj, _ => simp at hj
      | [a], _, hj, hn =>
        have : j = 0 := by simp at hj; omega
        subst this
        simp at hn
        simp [args, hn]
      | [a, c], _, hj, hn =>
        have : j = 0 ∨ j = 1 := by simp at hj; omega
        rcases this with rfl | rfl
        · simp at hn; simp [args, hn]
        · simp at hn
          cases ha : numV a <;> simp [args, ha, hn]
      | a :: c :: d :: r, h2, _, _ => simp at h2; omega
    rw [this]; rfl
  · rfl
/-- what reading a line's words answers -/
def InsP (ws : List (List UInt8)) (w : World) (e : Ending) (w' : World) : Prop :=
  ((∃ i : I3, insV ws = some i ∧ e = .returned (.tuple #[.agg #[vI i.1, vI i.2.1, vI i.2.2], .bool true])) ∨ (insV ws = none ∧ ∃ a b c, e = .returned (.tuple #[.agg #[vI a, vI b, vI c], .bool false]))) ∧ Below w.heap.size w w'
theorem getD_mem {ws : List (List UInt8)} {j : Nat} (h : j < ws.length) : ws.getD j [] ∈ ws := by
  rw [List.getD_eq_getElem?_getD, List.getElem?_eq_getElem h]; exact List.getElem_mem h
theorem sz3 : (Tryd.prog.info? 3).map (·.size) = some 1 := by kernel_rfl
theorem sz9 : (Tryd.prog.info? 9).map (·.size) = some 1 := by kernel_rfl
theorem sz33 : (Tryd.prog.info? 33).map (·.size) = some 3 := by kernel_rfl
set_option maxRecDepth 20000 in
set_option maxHeartbeats 4000000 in
theorem Words_any (l : List UInt8) (w : World) (hl : l.length ≤ 1000000) :
    Calls Tryd.prog 28 #[.string (bS l)] w fun e w' => ∃ pv cp, e = .returned (.slice pv (wl [] l).length cp) ∧ HP Tr w w' [rowS pv (wl [] l).length cp (wl [] l)] := by
  refine calls_of Tryd.func28 rfl (m := 36) rfl [(0, .string (bS l))] (Fr_enter [.string (bS l)] 36 (Nat.le_of_ble_eq_true rfl)) ?_
  have hH1 : HP Tr w w [] := HP.refl w
  refine WC.seq fun K2 hK2 => ?_
  refine WC.region ?_
  refine WL.pure (v := .slice none 0 0) 2 rfl (Nat.le_of_ble_eq_true rfl) rfl rfl (by kernel_rfl) ?_
  refine WL.nil ?_
  refine WQ.then ?_
  refine hK2 _ _ _ ?_
  refine WC.seq fun K3 hK3 => ?_
  refine WC.region ?_
  refine WL.pure (v := .slice none 0 0) 3 rfl (Nat.le_of_ble_eq_true rfl) rfl rfl (by kernel_rfl) ?_
  refine WL.nil ?_
  refine WQ.then ?_
  refine hK3 _ _ _ ?_
  refine WC.seq fun K4 hK4 => ?_
  refine WC.region ?_
  refine WL.pure (v := .string (bS [])) 4 rfl (Nat.le_of_ble_eq_true rfl) rfl rfl (by kernel_rfl) ?_
  refine WL.nil ?_
  refine WQ.then ?_
  refine hK4 _ _ _ ?_
  refine WC.seq fun K5 hK5 => ?_
  refine WC.seq fun K6 hK6 => ?_
  refine WC.region ?_
  refine WL.pure (v := vI 0) 5 rfl (Nat.le_of_ble_eq_true rfl) rfl rfl (by kernel_rfl) ?_
  refine WL.nil ?_
  refine WQ.then ?_
  refine hK6 _ _ _ ?_
  refine WC.block ?_
  refine WC.loop (fun kk0 ll0 ww0 => ∃ (i : Nat) (cur : List UInt8) (acc : List (List UInt8)) (pv : Option Addr) (cp : Nat), ll0 = [(0, .string (bS l)), (3, .slice pv acc.length cp), (4, .string (bS cur)), (5, vI (i : Int))] ∧ kk0 = l.length + 1 - i ∧ ((i ≤ l.length ∧ wl [] l = acc ++ wl cur (l.drop i)) ∨ (i = l.length + 1 ∧ wl [] l = acc)) ∧ (cur.length ≤ i) ∧ (acc.length ≤ i) ∧ HP Tr w ww0 [.own (.slice pv acc.length cp) acc.length (sL acc) 9 1]) (l.length + 1) [(0, .string (bS l)), (3, .slice none 0 0), (4, .string (bS ([]))), (5, vI 0)] ⟨rfl, rfl, rfl, rfl, trivial⟩ ⟨0, [], [], none, 0, rfl, rfl, .inl ⟨Nat.zero_le _, rfl⟩, by simp, by simp, HP.ownNil hH1 9 1⟩ ?_
  rintro kk l w8 ⟨i, cur, acc, pv, cp, rfl, hkk, hw, hcl, hal, hH9⟩ K7 hK7
  refine WC.seq fun K10 hK10 => ?_
  refine WC.seq fun K11 hK11 => ?_
  refine WC.region ?_
  refine WL.pure (v := vI (i : Int)) 6 rfl (Nat.le_of_ble_eq_true rfl) rfl rfl (by kernel_rfl) ?_
  refine WL.pure (v := .string (bS l)) 7 rfl (Nat.le_of_ble_eq_true rfl) rfl rfl (by kernel_rfl) ?_
  refine WL.pure (v := vI (l.length : Int)) 8 rfl (Nat.le_of_ble_eq_true rfl) rfl rfl (x_slen (l) rfl rfl rfl Tryd.underlying9) ?_
  by_cases hle : (i : Int) ≤ (l.length : Int)
  ·
    refine WL.pure (v := .bool true) 9 rfl (Nat.le_of_ble_eq_true rfl) rfl rfl (x_leq rfl rfl rfl (dT (hle))) ?_
    refine WL.nil ?_
    refine WQ.then ?_
    refine hK11 _ _ _ ?_
    refine WC.yes rfl ?_
    refine WC.skip ?_
    refine WQ.then ?_
    refine hK10 _ _ _ ?_
    refine WC.seq fun K12 hK12 => ?_
    refine WC.block ?_
    refine WC.seq fun K13 hK13 => ?_
    refine WC.seq fun K14 hK14 => ?_
    refine WC.region ?_
    refine WL.pure (v := vI (i : Int)) 12 rfl (Nat.le_of_ble_eq_true rfl) rfl rfl (by kernel_rfl) ?_
    refine WL.pure (v := .string (bS l)) 13 rfl (Nat.le_of_ble_eq_true rfl) rfl rfl (by kernel_rfl) ?_
    refine WL.pure (v := vI (l.length : Int)) 14 rfl (Nat.le_of_ble_eq_true rfl) rfl rfl (x_slen (l) rfl rfl rfl Tryd.underlying9) ?_
    by_cases hlt : (i : Int) < (l.length : Int)
    ·
      refine WL.pure (v := .bool true) 15 rfl (Nat.le_of_ble_eq_true rfl) rfl rfl (x_lss rfl rfl rfl (dT (hlt))) ?_
      refine WL.pure (v := .bool true) 16 rfl (Nat.le_of_ble_eq_true rfl) rfl rfl (by kernel_rfl) ?_
      refine WL.pure (v := .string (bS l)) 17 rfl (Nat.le_of_ble_eq_true rfl) rfl rfl (by kernel_rfl) ?_
      refine WL.pure (v := vI (i : Int)) 18 rfl (Nat.le_of_ble_eq_true rfl) rfl rfl (by kernel_rfl) ?_
      have hlt' : i < l.length := by omega
      obtain ⟨b, hb⟩ : ∃ b, l[i]? = some b := ⟨l[i], List.getElem?_eq_getElem hlt'⟩
      have hdr := drop_cons' hb
      refine WL.pure (v := .int .u8 (b.toNat : Int)) 19 rfl (Nat.le_of_ble_eq_true rfl) rfl rfl (x_sidx l i b rfl rfl rfl Tryd.underlying9 rfl hb) ?_
      by_cases hne : (b.toNat : Int) ≠ 32
      ·
        have hb32 : b ≠ 32 := fun h => hne (by rw [h]; rfl)
        refine WL.pure (v := .bool true) 20 rfl (Nat.le_of_ble_eq_true rfl) rfl rfl (x_neq rfl rfl rfl (dT (hne))) ?_
        refine WL.pure (v := .bool true) 21 rfl (Nat.le_of_ble_eq_true rfl) rfl rfl (by kernel_rfl) ?_
        refine WL.nil ?_
        refine WQ.then ?_
        refine hK14 _ _ _ ?_
        refine WC.sub (l' := [(0, .string (bS l)), (3, .slice pv acc.length cp), (4, .string (bS cur)), (5, vI (i : Int)), (9, .bool true), (21, .bool true)]) ⟨rfl, rfl, rfl, rfl, rfl, rfl, trivial⟩ ?_
        refine WC.yes rfl ?_
        refine WC.seq fun K15 hK15 => ?_
        refine WC.region ?_
        refine WL.pure (v := .string (bS cur)) 22 rfl (Nat.le_of_ble_eq_true rfl) rfl rfl (by kernel_rfl) ?_
        refine WL.pure (v := .string (bS l)) 23 rfl (Nat.le_of_ble_eq_true rfl) rfl rfl (by kernel_rfl) ?_
        refine WL.pure (v := vI (i : Int)) 24 rfl (Nat.le_of_ble_eq_true rfl) rfl rfl (by kernel_rfl) ?_
        refine WL.pure (v := vI (i : Int)) 25 rfl (Nat.le_of_ble_eq_true rfl) rfl rfl (by kernel_rfl) ?_
        refine WL.pure (v := vI ((i + 1 : Nat) : Int)) 26 rfl (Nat.le_of_ble_eq_true rfl) rfl rfl (x_add (Z := ((i + 1 : Nat) : Int)) rfl rfl rfl (by omega) (by omega) (by omega)) ?_
        refine WL.pure (v := .string (bS ([b]))) 27 rfl (Nat.le_of_ble_eq_true rfl) rfl rfl (x_s2 l i (i + 1) rfl rfl rfl rfl Tryd.underlying9 rfl (by omega) (by omega) (by omega) (by have h9 := win_snoc (Nat.le_refl i) hb; rw [List.drop_eq_nil_of_le (List.length_take_le i l), List.nil_append] at h9; exact h9)) ?_
        refine WL.pure (v := .string (bS (cur ++ ([b])))) 28 rfl (Nat.le_of_ble_eq_true rfl) rfl rfl (x_sadd (cur) (([b])) rfl rfl rfl (by simp only [List.length_append, List.length_cons, List.length_nil]; omega)) ?_
        refine WL.pure (v := .string (bS (cur ++ ([b])))) 4 rfl (Nat.le_of_ble_eq_true rfl) rfl rfl (by kernel_rfl) ?_
        refine WL.nil ?_
        refine WQ.then ?_
        refine hK15 _ _ _ ?_
        refine WC.sub (l' := [(0, .string (bS l)), (3, .slice pv acc.length cp), (4, .string (bS (cur ++ ([b])))), (5, vI (i : Int)), (9, .bool true), (21, .bool true)]) ⟨rfl, rfl, rfl, rfl, rfl, rfl, trivial⟩ ?_
        refine WC.exit ?_
        refine WQ.thenExit ?_
        refine WQ.inExit ?_
        refine WQ.then ?_
        refine hK12 _ _ _ ?_
        refine WC.region ?_
        refine WL.pure (v := vI (i : Int)) 10 rfl (Nat.le_of_ble_eq_true rfl) rfl rfl (by kernel_rfl) ?_
        refine WL.pure (v := vI ((i + 1 : Nat) : Int)) 11 rfl (Nat.le_of_ble_eq_true rfl) rfl rfl (x_add (Z := ((i + 1 : Nat) : Int)) rfl rfl rfl (by omega) (by omega) (by omega)) ?_
        refine WL.pure (v := vI ((i + 1 : Nat) : Int)) 5 rfl (Nat.le_of_ble_eq_true rfl) rfl rfl (by kernel_rfl) ?_
        refine WL.nil ?_
        refine WQ.sub (l' := [(0, .string (bS l)), (3, .slice pv acc.length cp), (4, .string (bS (cur ++ [b]))), (5, vI ((i + 1 : Nat) : Int))]) ⟨rfl, rfl, rfl, rfl, trivial⟩ ?_
        refine WQ.then (hK7 _ _ _ (by omega) ⟨i + 1, (cur ++ [b]), acc, pv, cp, rfl, rfl, .inl ⟨by omega, by rcases hw with ⟨_, hw⟩ | ⟨hq, _⟩; rw [hw, hdr]; simp only [wl]; rw [if_neg hb32]; omega⟩, by simp; omega, by omega, hH9⟩)
      ·
        have hb32 : b = 32 := UInt8.toNat_inj.1 (by simpa using (by omega : b.toNat = 32))
        refine WL.pure (v := .bool false) 20 rfl (Nat.le_of_ble_eq_true rfl) rfl rfl (x_neq rfl rfl rfl (dF (hne))) ?_
        refine WL.pure (v := .bool false) 21 rfl (Nat.le_of_ble_eq_true rfl) rfl rfl (by kernel_rfl) ?_
        refine WL.nil ?_
        refine WQ.then ?_
        refine hK14 _ _ _ ?_
        refine WC.sub (l' := [(0, .string (bS l)), (3, .slice pv acc.length cp), (4, .string (bS cur)), (5, vI (i : Int)), (9, .bool true), (21, .bool false)]) ⟨rfl, rfl, rfl, rfl, rfl, rfl, trivial⟩ ?_
        refine WC.no rfl ?_
        refine WC.skip ?_
        refine WQ.then ?_
        refine hK13 _ _ _ ?_
        refine WC.seq fun K16 hK16 => ?_
        refine WC.seq fun K17 hK17 => ?_
        refine WC.region ?_
        refine WL.pure (v := .string (bS cur)) 29 rfl (Nat.le_of_ble_eq_true rfl) rfl rfl (by kernel_rfl) ?_
        by_cases hcur0 : cur = []
        ·
          have hcur := hcur0
          refine WL.pure (v := .bool false) 30 rfl (Nat.le_of_ble_eq_true rfl) rfl rfl (x_neqs rfl rfl rfl (dF (fun h => h (congrArg bS hcur0)))) ?_
          refine WL.nil ?_
          refine WQ.then ?_
          refine hK17 _ _ _ ?_
          refine WC.no rfl ?_
          refine WC.skip ?_
          refine WQ.then ?_
          refine hK16 _ _ _ ?_
          refine WC.region ?_
          refine WL.pure (v := .string (bS [])) 4 rfl (Nat.le_of_ble_eq_true rfl) rfl rfl (by kernel_rfl) ?_
          refine WL.nil ?_
          refine WQ.inNormal ?_
          refine WQ.then ?_
          refine hK12 _ _ _ ?_
          refine WC.region ?_
          refine WL.pure (v := vI (i : Int)) 10 rfl (Nat.le_of_ble_eq_true rfl) rfl rfl (by kernel_rfl) ?_
          refine WL.pure (v := vI ((i + 1 : Nat) : Int)) 11 rfl (Nat.le_of_ble_eq_true rfl) rfl rfl (x_add (Z := ((i + 1 : Nat) : Int)) rfl rfl rfl (by omega) (by omega) (by omega)) ?_
          refine WL.pure (v := vI ((i + 1 : Nat) : Int)) 5 rfl (Nat.le_of_ble_eq_true rfl) rfl rfl (by kernel_rfl) ?_
          refine WL.nil ?_
          refine WQ.sub (l' := [(0, .string (bS l)), (3, .slice pv acc.length cp), (4, .string (bS ([]))), (5, vI ((i + 1 : Nat) : Int))]) ⟨rfl, rfl, rfl, rfl, trivial⟩ ?_
          refine WQ.then (hK7 _ _ _ (by omega) ⟨i + 1, [], acc, pv, cp, rfl, rfl, .inl ⟨by omega, by rcases hw with ⟨_, hw⟩ | ⟨hq, _⟩; rw [hw, hdr, hb32]; simp only [wl, if_true]; rw [if_pos hcur]; omega⟩, by simp, by first | omega | (simp; omega), hH9⟩)
        ·
          have hcur := hcur0
          refine WL.pure (v := .bool true) 30 rfl (Nat.le_of_ble_eq_true rfl) rfl rfl (x_neqs rfl rfl rfl (dT (fun h => hcur0 (bS_inj h)))) ?_
          refine WL.nil ?_
          refine WQ.then ?_
          refine hK17 _ _ _ ?_
          refine WC.yes rfl ?_
          refine WC.region ?_
          refine WL.pure (v := .slice pv acc.length cp) 31 rfl (Nat.le_of_ble_eq_true rfl) rfl rfl (by kernel_rfl) ?_
          refine WL.pure (v := .string (bS cur)) 32 rfl (Nat.le_of_ble_eq_true rfl) rfl rfl (by kernel_rfl) ?_
          refine WL.alloc (c := #[.string (bS cur)]) (T := 9) hH9 33 rfl (by decide) rfl rfl (fun b18 => vS b18 1 1) (by kernel_rfl) (fun b18 w19 hw19 => ?_)
          have hH20 : HP Tr w w19 [.own (.slice pv acc.length cp) acc.length (sL acc) 9 1, .cel b18 #[.string (bS cur)] 9] := hw19.2
          have nb18 := hw19.1
          clear hw19
          obtain ⟨i0, hi0, hz0, hz1, hz2⟩ := infoS
          refine WL.appendSrc (k := acc.length) (m := 1) (sL [cur]) 0 hH20 34 rfl (by decide) rfl rfl rfl rfl Tryd.underlying60 hi0 hz0 hz1 hz2 rfl (by decide) rfl (.inl ⟨_, rfl, strAt (HP.get hH20 1 rfl)⟩) (by simp) (sL_one _) (by unfold maxLen; omega) (by omega) ?_
          rintro v9 w9 - hB9
          have e9 : acc.length + 1 = (acc ++ [cur]).length := by simp
          have hC9 : Ent.holds w9 (.own v9 (acc.length + 1) (sL acc ++ sL [cur]) 9 1) := HP.get hB9 0 rfl
          obtain ⟨pv9, cp9, rfl⟩ := own_rowG hC9
          rw [e9] at hB9 ⊢
          have hH21 : HP Tr w _ [.own (.slice pv9 (acc ++ [cur]).length cp9) (acc ++ [cur]).length (sL (acc ++ [cur])) 9 1, .cel b18 #[.string (bS cur)] 9] := HP.eq hB9 (by simp [sL])
          have hH22 : HP Tr w _ [.own (.slice pv9 (acc ++ [cur]).length cp9) (acc ++ [cur]).length (sL (acc ++ [cur])) 9 1] := (HP.drop hH21 1)
          refine WL.pure (v := .slice pv9 ((acc ++ [cur]).length) cp9) 3 rfl (Nat.le_of_ble_eq_true rfl) rfl rfl (by kernel_rfl) ?_
          refine WL.nil ?_
          refine WQ.then ?_
          refine hK16 _ _ _ ?_
          refine WC.sub (l' := [(0, .string (bS l)), (3, .slice pv9 ((acc ++ [cur]).length) cp9), (4, .string (bS cur)), (5, vI (i : Int)), (9, .bool true), (21, .bool false), (30, .bool true)]) ⟨rfl, rfl, rfl, rfl, rfl, rfl, rfl, trivial⟩ ?_
          refine WC.region ?_
          refine WL.pure (v := .string (bS [])) 4 rfl (Nat.le_of_ble_eq_true rfl) rfl rfl (by kernel_rfl) ?_
          refine WL.nil ?_
          refine WQ.inNormal ?_
          refine WQ.then ?_
          refine hK12 _ _ _ ?_
          refine WC.region ?_
          refine WL.pure (v := vI (i : Int)) 10 rfl (Nat.le_of_ble_eq_true rfl) rfl rfl (by kernel_rfl) ?_
          refine WL.pure (v := vI ((i + 1 : Nat) : Int)) 11 rfl (Nat.le_of_ble_eq_true rfl) rfl rfl (x_add (Z := ((i + 1 : Nat) : Int)) rfl rfl rfl (by omega) (by omega) (by omega)) ?_
          refine WL.pure (v := vI ((i + 1 : Nat) : Int)) 5 rfl (Nat.le_of_ble_eq_true rfl) rfl rfl (by kernel_rfl) ?_
          refine WL.nil ?_
          refine WQ.sub (l' := [(0, .string (bS l)), (3, .slice pv9 ((acc ++ [cur]).length) cp9), (4, .string (bS ([]))), (5, vI ((i + 1 : Nat) : Int))]) ⟨rfl, rfl, rfl, rfl, trivial⟩ ?_
          refine WQ.then (hK7 _ _ _ (by omega) ⟨i + 1, [], (acc ++ [cur]), pv9, cp9, rfl, rfl, .inl ⟨by omega, by rcases hw with ⟨_, hw⟩ | ⟨hq, _⟩; rw [hw, hdr, hb32]; simp only [wl, if_true]; rw [if_neg hcur]; simp; omega⟩, by simp, by first | omega | (simp; omega), hH22⟩)
    ·
      refine WL.pure (v := .bool false) 15 rfl (Nat.le_of_ble_eq_true rfl) rfl rfl (x_lss rfl rfl rfl (dF (hlt))) ?_
      refine WL.pure (v := .bool false) 16 rfl (Nat.le_of_ble_eq_true rfl) rfl rfl (by kernel_rfl) ?_
      refine WL.pass 17 rfl (Nat.le_of_ble_eq_true rfl) rfl ?_
      refine WL.pass 18 rfl (Nat.le_of_ble_eq_true rfl) rfl ?_
      refine WL.pass 19 rfl (Nat.le_of_ble_eq_true rfl) rfl ?_
      refine WL.pass 20 rfl (Nat.le_of_ble_eq_true rfl) rfl ?_
      refine WL.pure (v := .bool false) 21 rfl (Nat.le_of_ble_eq_true rfl) rfl rfl (by kernel_rfl) ?_
      refine WL.nil ?_
      refine WQ.then ?_
      refine hK14 _ _ _ ?_
      refine WC.sub (l' := [(0, .string (bS l)), (3, .slice pv acc.length cp), (4, .string (bS cur)), (5, vI (i : Int)), (9, .bool true), (21, .bool false)]) ⟨rfl, rfl, rfl, rfl, rfl, rfl, trivial⟩ ?_
      refine WC.no rfl ?_
      refine WC.skip ?_
      refine WQ.then ?_
      refine hK13 _ _ _ ?_
      refine WC.seq fun K23 hK23 => ?_
      refine WC.seq fun K24 hK24 => ?_
      refine WC.region ?_
      refine WL.pure (v := .string (bS cur)) 29 rfl (Nat.le_of_ble_eq_true rfl) rfl rfl (by kernel_rfl) ?_
      by_cases hcur0 : cur = []
      ·
        have hcur := hcur0
        refine WL.pure (v := .bool false) 30 rfl (Nat.le_of_ble_eq_true rfl) rfl rfl (x_neqs rfl rfl rfl (dF (fun h => h (congrArg bS hcur0)))) ?_
        refine WL.nil ?_
        refine WQ.then ?_
        refine hK24 _ _ _ ?_
        refine WC.no rfl ?_
        refine WC.skip ?_
        refine WQ.then ?_
        refine hK23 _ _ _ ?_
        refine WC.region ?_
        refine WL.pure (v := .string (bS [])) 4 rfl (Nat.le_of_ble_eq_true rfl) rfl rfl (by kernel_rfl) ?_
        refine WL.nil ?_
        refine WQ.inNormal ?_
        refine WQ.then ?_
        refine hK12 _ _ _ ?_
        refine WC.region ?_
        refine WL.pure (v := vI (i : Int)) 10 rfl (Nat.le_of_ble_eq_true rfl) rfl rfl (by kernel_rfl) ?_
        refine WL.pure (v := vI ((i + 1 : Nat) : Int)) 11 rfl (Nat.le_of_ble_eq_true rfl) rfl rfl (x_add (Z := ((i + 1 : Nat) : Int)) rfl rfl rfl (by omega) (by omega) (by omega)) ?_
        refine WL.pure (v := vI ((i + 1 : Nat) : Int)) 5 rfl (Nat.le_of_ble_eq_true rfl) rfl rfl (by kernel_rfl) ?_
        refine WL.nil ?_
        refine WQ.sub (l' := [(0, .string (bS l)), (3, .slice pv acc.length cp), (4, .string (bS ([]))), (5, vI ((i + 1 : Nat) : Int))]) ⟨rfl, rfl, rfl, rfl, trivial⟩ ?_
        refine WQ.then (hK7 _ _ _ (by omega) ⟨i + 1, [], acc, pv, cp, rfl, rfl, .inr ⟨by omega, by rcases hw with ⟨_, hw⟩ | ⟨hq, _⟩; rw [hw, show i = l.length by omega, List.drop_length]; simp only [wl]; rw [if_pos hcur, List.append_nil]; omega⟩, by simp, by first | omega | (simp; omega), hH9⟩)
      ·
        have hcur := hcur0
        refine WL.pure (v := .bool true) 30 rfl (Nat.le_of_ble_eq_true rfl) rfl rfl (x_neqs rfl rfl rfl (dT (fun h => hcur0 (bS_inj h)))) ?_
        refine WL.nil ?_
        refine WQ.then ?_
        refine hK24 _ _ _ ?_
        refine WC.yes rfl ?_
        refine WC.region ?_
        refine WL.pure (v := .slice pv acc.length cp) 31 rfl (Nat.le_of_ble_eq_true rfl) rfl rfl (by kernel_rfl) ?_
        refine WL.pure (v := .string (bS cur)) 32 rfl (Nat.le_of_ble_eq_true rfl) rfl rfl (by kernel_rfl) ?_
        refine WL.alloc (c := #[.string (bS cur)]) (T := 9) hH9 33 rfl (by decide) rfl rfl (fun b25 => vS b25 1 1) (by kernel_rfl) (fun b25 w26 hw26 => ?_)
        have hH27 : HP Tr w w26 [.own (.slice pv acc.length cp) acc.length (sL acc) 9 1, .cel b25 #[.string (bS cur)] 9] := hw26.2
        have nb25 := hw26.1
        clear hw26
        obtain ⟨i0, hi0, hz0, hz1, hz2⟩ := infoS
        refine WL.appendSrc (k := acc.length) (m := 1) (sL [cur]) 0 hH27 34 rfl (by decide) rfl rfl rfl rfl Tryd.underlying60 hi0 hz0 hz1 hz2 rfl (by decide) rfl (.inl ⟨_, rfl, strAt (HP.get hH27 1 rfl)⟩) (by simp) (sL_one _) (by unfold maxLen; omega) (by omega) ?_
        rintro v9 w9 - hB9
        have e9 : acc.length + 1 = (acc ++ [cur]).length := by simp
        have hC9 : Ent.holds w9 (.own v9 (acc.length + 1) (sL acc ++ sL [cur]) 9 1) := HP.get hB9 0 rfl
        obtain ⟨pv9, cp9, rfl⟩ := own_rowG hC9
        rw [e9] at hB9 ⊢
        have hH28 : HP Tr w _ [.own (.slice pv9 (acc ++ [cur]).length cp9) (acc ++ [cur]).length (sL (acc ++ [cur])) 9 1, .cel b25 #[.string (bS cur)] 9] := HP.eq hB9 (by simp [sL])
        have hH29 : HP Tr w _ [.own (.slice pv9 (acc ++ [cur]).length cp9) (acc ++ [cur]).length (sL (acc ++ [cur])) 9 1] := (HP.drop hH28 1)
        refine WL.pure (v := .slice pv9 ((acc ++ [cur]).length) cp9) 3 rfl (Nat.le_of_ble_eq_true rfl) rfl rfl (by kernel_rfl) ?_
        refine WL.nil ?_
        refine WQ.then ?_
        refine hK23 _ _ _ ?_
        refine WC.sub (l' := [(0, .string (bS l)), (3, .slice pv9 ((acc ++ [cur]).length) cp9), (4, .string (bS cur)), (5, vI (i : Int)), (9, .bool true), (21, .bool false), (30, .bool true)]) ⟨rfl, rfl, rfl, rfl, rfl, rfl, rfl, trivial⟩ ?_
        refine WC.region ?_
        refine WL.pure (v := .string (bS [])) 4 rfl (Nat.le_of_ble_eq_true rfl) rfl rfl (by kernel_rfl) ?_
        refine WL.nil ?_
        refine WQ.inNormal ?_
        refine WQ.then ?_
        refine hK12 _ _ _ ?_
        refine WC.region ?_
        refine WL.pure (v := vI (i : Int)) 10 rfl (Nat.le_of_ble_eq_true rfl) rfl rfl (by kernel_rfl) ?_
        refine WL.pure (v := vI ((i + 1 : Nat) : Int)) 11 rfl (Nat.le_of_ble_eq_true rfl) rfl rfl (x_add (Z := ((i + 1 : Nat) : Int)) rfl rfl rfl (by omega) (by omega) (by omega)) ?_
        refine WL.pure (v := vI ((i + 1 : Nat) : Int)) 5 rfl (Nat.le_of_ble_eq_true rfl) rfl rfl (by kernel_rfl) ?_
        refine WL.nil ?_
        refine WQ.sub (l' := [(0, .string (bS l)), (3, .slice pv9 ((acc ++ [cur]).length) cp9), (4, .string (bS ([]))), (5, vI ((i + 1 : Nat) : Int))]) ⟨rfl, rfl, rfl, rfl, trivial⟩ ?_
        refine WQ.then (hK7 _ _ _ (by omega) ⟨i + 1, [], (acc ++ [cur]), pv9, cp9, rfl, rfl, .inr ⟨by omega, by rcases hw with ⟨_, hw⟩ | ⟨hq, _⟩; rw [hw, show i = l.length by omega, List.drop_length]; simp only [wl]; rw [if_neg hcur]; omega⟩, by simp, by first | omega | (simp; omega), hH29⟩)
  ·
    refine WL.pure (v := .bool false) 9 rfl (Nat.le_of_ble_eq_true rfl) rfl rfl (x_leq rfl rfl rfl (dF (hle))) ?_
    refine WL.nil ?_
    refine WQ.then ?_
    refine hK11 _ _ _ ?_
    refine WC.no rfl ?_
    refine WC.exit ?_
    refine WQ.thenExit ?_
    refine WQ.thenExit ?_
    refine WQ.inExit ?_
    refine WQ.then ?_
    refine hK5 _ _ _ ?_
    refine WC.seq fun K30 hK30 => ?_
    refine WC.region ?_
    refine WL.pure (v := .slice pv acc.length cp) 35 rfl (Nat.le_of_ble_eq_true rfl) rfl rfl (by kernel_rfl) ?_
    refine WL.pure (v := .slice pv acc.length cp) 2 rfl (Nat.le_of_ble_eq_true rfl) rfl rfl (by kernel_rfl) ?_
    refine WL.nil ?_
    refine WQ.then ?_
    refine hK30 _ _ _ ?_
    refine WC.ret ?_
    refine WQ.ret1 2 rfl rfl ?_
    have hfin : wl [] l = acc := by rcases hw with ⟨hq, _⟩ | ⟨_, hw⟩; omega; exact hw
    exact ⟨pv, cp, by rw [hfin], by rw [hfin]; exact hH9⟩
set_option maxRecDepth 20000 in
set_option maxHeartbeats 4000000 in
theorem Lines_any (l : List UInt8) (w : World) (hl : l.length ≤ 1000000) :
    Calls Tryd.prog 27 #[.string (bS l)] w fun e w' => ∃ pv cp, e = .returned (.slice pv (ll [] l).length cp) ∧ HP Tr w w' [rowS pv (ll [] l).length cp (ll [] l)] := by
  refine calls_of Tryd.func27 rfl (m := 36) rfl [(0, .string (bS l))] (Fr_enter [.string (bS l)] 36 (Nat.le_of_ble_eq_true rfl)) ?_
  have hH1 : HP Tr w w [] := HP.refl w
  refine WC.seq fun K2 hK2 => ?_
  refine WC.region ?_
  refine WL.pure (v := .slice none 0 0) 2 rfl (Nat.le_of_ble_eq_true rfl) rfl rfl (by kernel_rfl) ?_
  refine WL.nil ?_
  refine WQ.then ?_
  refine hK2 _ _ _ ?_
  refine WC.seq fun K3 hK3 => ?_
  refine WC.region ?_
  refine WL.pure (v := .slice none 0 0) 3 rfl (Nat.le_of_ble_eq_true rfl) rfl rfl (by kernel_rfl) ?_
  refine WL.nil ?_
  refine WQ.then ?_
  refine hK3 _ _ _ ?_
  refine WC.seq fun K4 hK4 => ?_
  refine WC.region ?_
  refine WL.pure (v := vI 0) 4 rfl (Nat.le_of_ble_eq_true rfl) rfl rfl (by kernel_rfl) ?_
  refine WL.nil ?_
  refine WQ.then ?_
  refine hK4 _ _ _ ?_
  refine WC.seq fun K5 hK5 => ?_
  refine WC.seq fun K6 hK6 => ?_
  refine WC.region ?_
  refine WL.pure (v := vI 0) 5 rfl (Nat.le_of_ble_eq_true rfl) rfl rfl (by kernel_rfl) ?_
  refine WL.nil ?_
  refine WQ.then ?_
  refine hK6 _ _ _ ?_
  refine WC.block ?_
  refine WC.loop (fun kk0 ll0 ww0 => ∃ (i : Nat) (f : Nat) (acc : List (List UInt8)) (pv : Option Addr) (cp : Nat), ll0 = [(0, .string (bS l)), (3, .slice pv acc.length cp), (4, vI (f : Int)), (5, vI (i : Int))] ∧ kk0 = l.length - i ∧ (i ≤ l.length) ∧ (f ≤ i) ∧ (ll [] l = acc ++ ll ((l.take i).drop f) (l.drop i)) ∧ (acc.length ≤ i) ∧ HP Tr w ww0 [.own (.slice pv acc.length cp) acc.length (sL acc) 9 1]) (l.length) [(0, .string (bS l)), (3, .slice none 0 0), (4, vI 0), (5, vI 0)] ⟨rfl, rfl, rfl, rfl, trivial⟩ ⟨0, 0, [], none, 0, rfl, rfl, Nat.zero_le _, Nat.le_refl _, by simp, by simp, HP.ownNil hH1 9 1⟩ ?_
  rintro kk l w8 ⟨i, f, acc, pv, cp, rfl, hkk, hi, hf, hw, hal, hH9⟩ K7 hK7
  refine WC.seq fun K10 hK10 => ?_
  refine WC.seq fun K11 hK11 => ?_
  refine WC.region ?_
  refine WL.pure (v := vI (i : Int)) 6 rfl (Nat.le_of_ble_eq_true rfl) rfl rfl (by kernel_rfl) ?_
  refine WL.pure (v := .string (bS l)) 7 rfl (Nat.le_of_ble_eq_true rfl) rfl rfl (by kernel_rfl) ?_
  refine WL.pure (v := vI (l.length : Int)) 8 rfl (Nat.le_of_ble_eq_true rfl) rfl rfl (x_slen (l) rfl rfl rfl Tryd.underlying9) ?_
  by_cases hlt : (i : Int) < (l.length : Int)
  ·
    refine WL.pure (v := .bool true) 9 rfl (Nat.le_of_ble_eq_true rfl) rfl rfl (x_lss rfl rfl rfl (dT (hlt))) ?_
    refine WL.nil ?_
    refine WQ.then ?_
    refine hK11 _ _ _ ?_
    refine WC.yes rfl ?_
    refine WC.skip ?_
    refine WQ.then ?_
    refine hK10 _ _ _ ?_
    refine WC.seq fun K12 hK12 => ?_
    refine WC.block ?_
    refine WC.seq fun K13 hK13 => ?_
    refine WC.region ?_
    refine WL.pure (v := .string (bS l)) 12 rfl (Nat.le_of_ble_eq_true rfl) rfl rfl (by kernel_rfl) ?_
    refine WL.pure (v := vI (i : Int)) 13 rfl (Nat.le_of_ble_eq_true rfl) rfl rfl (by kernel_rfl) ?_
    have hlt' : i < l.length := by omega
    obtain ⟨b, hb⟩ : ∃ b, l[i]? = some b := ⟨l[i], List.getElem?_eq_getElem hlt'⟩
    have hdr := drop_cons' hb
    refine WL.pure (v := .int .u8 (b.toNat : Int)) 14 rfl (Nat.le_of_ble_eq_true rfl) rfl rfl (x_sidx l i b rfl rfl rfl Tryd.underlying9 rfl hb) ?_
    by_cases hnl : (b.toNat : Int) = 10
    ·
      have hb10 : b = 10 := UInt8.toNat_inj.1 (by simpa using (by omega : b.toNat = 10))
      refine WL.pure (v := .bool true) 15 rfl (Nat.le_of_ble_eq_true rfl) rfl rfl (x_eql rfl rfl rfl (dT (hnl))) ?_
      refine WL.nil ?_
      refine WQ.then ?_
      refine hK13 _ _ _ ?_
      refine WC.sub (l' := [(0, .string (bS l)), (3, .slice pv acc.length cp), (4, vI (f : Int)), (5, vI (i : Int)), (9, .bool true), (15, .bool true)]) ⟨rfl, rfl, rfl, rfl, rfl, rfl, trivial⟩ ?_
      refine WC.yes rfl ?_
      refine WC.seq fun K14 hK14 => ?_
      refine WC.region ?_
      refine WL.pure (v := .slice pv acc.length cp) 16 rfl (Nat.le_of_ble_eq_true rfl) rfl rfl (by kernel_rfl) ?_
      refine WL.pure (v := .string (bS l)) 17 rfl (Nat.le_of_ble_eq_true rfl) rfl rfl (by kernel_rfl) ?_
      refine WL.pure (v := vI (f : Int)) 18 rfl (Nat.le_of_ble_eq_true rfl) rfl rfl (by kernel_rfl) ?_
      refine WL.pure (v := vI (i : Int)) 19 rfl (Nat.le_of_ble_eq_true rfl) rfl rfl (by kernel_rfl) ?_
      refine WL.pure (v := .string (bS ((l.take i).drop f))) 20 rfl (Nat.le_of_ble_eq_true rfl) rfl rfl (x_s2 l f i rfl rfl rfl rfl Tryd.underlying9 rfl rfl (by omega) (by omega) rfl) ?_
      refine WL.alloc (c := #[.string (bS ((l.take i).drop f))]) (T := 9) hH9 21 rfl (by decide) rfl rfl (fun b15 => vS b15 1 1) (by kernel_rfl) (fun b15 w16 hw16 => ?_)
      have hH17 : HP Tr w w16 [.own (.slice pv acc.length cp) acc.length (sL acc) 9 1, .cel b15 #[.string (bS ((l.take i).drop f))] 9] := hw16.2
      have nb15 := hw16.1
      clear hw16
      obtain ⟨i0, hi0, hz0, hz1, hz2⟩ := infoS
      refine WL.appendSrc (k := acc.length) (m := 1) (sL [(l.take i).drop f]) 0 hH17 22 rfl (by decide) rfl rfl rfl rfl Tryd.underlying60 hi0 hz0 hz1 hz2 rfl (by decide) rfl (.inl ⟨_, rfl, strAt (HP.get hH17 1 rfl)⟩) (by simp) (sL_one _) (by unfold maxLen; omega) (by omega) ?_
      rintro v9 w9 - hB9
      have e9 : acc.length + 1 = (acc ++ [(l.take i).drop f]).length := by simp
      have hC9 : Ent.holds w9 (.own v9 (acc.length + 1) (sL acc ++ sL [(l.take i).drop f]) 9 1) := HP.get hB9 0 rfl
      obtain ⟨pv9, cp9, rfl⟩ := own_rowG hC9
      rw [e9] at hB9 ⊢
      have hH18 : HP Tr w _ [.own (.slice pv9 (acc ++ [(l.take i).drop f]).length cp9) (acc ++ [(l.take i).drop f]).length (sL (acc ++ [(l.take i).drop f])) 9 1, .cel b15 #[.string (bS ((l.take i).drop f))] 9] := HP.eq hB9 (by simp [sL])
      have hH19 : HP Tr w _ [.own (.slice pv9 (acc ++ [(l.take i).drop f]).length cp9) (acc ++ [(l.take i).drop f]).length (sL (acc ++ [(l.take i).drop f])) 9 1] := (HP.drop hH18 1)
      refine WL.pure (v := .slice pv9 ((acc ++ [(l.take i).drop f]).length) cp9) 3 rfl (Nat.le_of_ble_eq_true rfl) rfl rfl (by kernel_rfl) ?_
      refine WL.nil ?_
      refine WQ.then ?_
      refine hK14 _ _ _ ?_
      refine WC.sub (l' := [(0, .string (bS l)), (3, .slice pv9 ((acc ++ [(l.take i).drop f]).length) cp9), (4, vI (f : Int)), (5, vI (i : Int)), (9, .bool true), (15, .bool true)]) ⟨rfl, rfl, rfl, rfl, rfl, rfl, trivial⟩ ?_
      refine WC.region ?_
      refine WL.pure (v := vI (i : Int)) 23 rfl (Nat.le_of_ble_eq_true rfl) rfl rfl (by kernel_rfl) ?_
      refine WL.pure (v := vI ((i + 1 : Nat) : Int)) 24 rfl (Nat.le_of_ble_eq_true rfl) rfl rfl (x_add (Z := ((i + 1 : Nat) : Int)) rfl rfl rfl (by omega) (by omega) (by omega)) ?_
      refine WL.pure (v := vI ((i + 1 : Nat) : Int)) 4 rfl (Nat.le_of_ble_eq_true rfl) rfl rfl (by kernel_rfl) ?_
      refine WL.nil ?_
      refine WQ.inNormal ?_
      refine WQ.then ?_
      refine hK12 _ _ _ ?_
      refine WC.region ?_
      refine WL.pure (v := vI (i : Int)) 10 rfl (Nat.le_of_ble_eq_true rfl) rfl rfl (by kernel_rfl) ?_
      refine WL.pure (v := vI ((i + 1 : Nat) : Int)) 11 rfl (Nat.le_of_ble_eq_true rfl) rfl rfl (x_add (Z := ((i + 1 : Nat) : Int)) rfl rfl rfl (by omega) (by omega) (by omega)) ?_
      refine WL.pure (v := vI ((i + 1 : Nat) : Int)) 5 rfl (Nat.le_of_ble_eq_true rfl) rfl rfl (by kernel_rfl) ?_
      refine WL.nil ?_
      refine WQ.sub (l' := [(0, .string (bS l)), (3, .slice pv9 ((acc ++ [(l.take i).drop f]).length) cp9), (4, vI ((i + 1 : Nat) : Int)), (5, vI ((i + 1 : Nat) : Int))]) ⟨rfl, rfl, rfl, rfl, trivial⟩ ?_
      refine WQ.then (hK7 _ _ _ (by omega) ⟨i + 1, i + 1, (acc ++ [(l.take i).drop f]), pv9, cp9, rfl, rfl, by omega, by omega, by rw [hw, hdr, hb10]; simp only [ll, if_true]; rw [List.drop_eq_nil_of_le (show (l.take (i + 1)).length ≤ i + 1 by simp; omega)]; simp, by simp; omega, hH19⟩)
    ·
      have hb10 : b ≠ 10 := fun h => hnl (by rw [h]; rfl)
      refine WL.pure (v := .bool false) 15 rfl (Nat.le_of_ble_eq_true rfl) rfl rfl (x_eql rfl rfl rfl (dF (hnl))) ?_
      refine WL.nil ?_
      refine WQ.then ?_
      refine hK13 _ _ _ ?_
      refine WC.sub (l' := [(0, .string (bS l)), (3, .slice pv acc.length cp), (4, vI (f : Int)), (5, vI (i : Int)), (9, .bool true), (15, .bool false)]) ⟨rfl, rfl, rfl, rfl, rfl, rfl, trivial⟩ ?_
      refine WC.no rfl ?_
      refine WC.skip ?_
      refine WQ.inNormal ?_
      refine WQ.then ?_
      refine hK12 _ _ _ ?_
      refine WC.region ?_
      refine WL.pure (v := vI (i : Int)) 10 rfl (Nat.le_of_ble_eq_true rfl) rfl rfl (by kernel_rfl) ?_
      refine WL.pure (v := vI ((i + 1 : Nat) : Int)) 11 rfl (Nat.le_of_ble_eq_true rfl) rfl rfl (x_add (Z := ((i + 1 : Nat) : Int)) rfl rfl rfl (by omega) (by omega) (by omega)) ?_
      refine WL.pure (v := vI ((i + 1 : Nat) : Int)) 5 rfl (Nat.le_of_ble_eq_true rfl) rfl rfl (by kernel_rfl) ?_
      refine WL.nil ?_
      refine WQ.sub (l' := [(0, .string (bS l)), (3, .slice pv acc.length cp), (4, vI (f : Int)), (5, vI ((i + 1 : Nat) : Int))]) ⟨rfl, rfl, rfl, rfl, trivial⟩ ?_
      refine WQ.then (hK7 _ _ _ (by omega) ⟨i + 1, f, acc, pv, cp, rfl, rfl, by omega, by omega, by rw [hw, hdr]; simp only [ll]; rw [if_neg hb10, win_snoc hf hb], by omega, hH9⟩)
  ·
    refine WL.pure (v := .bool false) 9 rfl (Nat.le_of_ble_eq_true rfl) rfl rfl (x_lss rfl rfl rfl (dF (hlt))) ?_
    refine WL.nil ?_
    refine WQ.then ?_
    refine hK11 _ _ _ ?_
    refine WC.no rfl ?_
    refine WC.exit ?_
    refine WQ.thenExit ?_
    refine WQ.thenExit ?_
    refine WQ.inExit ?_
    refine WQ.then ?_
    refine hK5 _ _ _ ?_
    refine WC.seq fun K20 hK20 => ?_
    refine WC.seq fun K21 hK21 => ?_
    have hil : i = l.length := by omega
    subst hil
    rw [List.drop_length, List.take_length] at hw
    refine WC.region ?_
    refine WL.pure (v := vI (f : Int)) 25 rfl (Nat.le_of_ble_eq_true rfl) rfl rfl (by kernel_rfl) ?_
    refine WL.pure (v := .string (bS l)) 26 rfl (Nat.le_of_ble_eq_true rfl) rfl rfl (by kernel_rfl) ?_
    refine WL.pure (v := vI (l.length : Int)) 27 rfl (Nat.le_of_ble_eq_true rfl) rfl rfl (x_slen (l) rfl rfl rfl Tryd.underlying9) ?_
    by_cases hlast : (f : Int) < (l.length : Int)
    ·
      refine WL.pure (v := .bool true) 28 rfl (Nat.le_of_ble_eq_true rfl) rfl rfl (x_lss rfl rfl rfl (dT (hlast))) ?_
      refine WL.nil ?_
      refine WQ.then ?_
      refine hK21 _ _ _ ?_
      refine WC.sub (l' := [(0, .string (bS l)), (3, .slice pv acc.length cp), (4, vI (f : Int)), (5, vI (l.length : Int)), (9, .bool false), (28, .bool true)]) ⟨rfl, rfl, rfl, rfl, rfl, rfl, trivial⟩ ?_
      refine WC.yes rfl ?_
      refine WC.region ?_
      refine WL.pure (v := .slice pv acc.length cp) 29 rfl (Nat.le_of_ble_eq_true rfl) rfl rfl (by kernel_rfl) ?_
      refine WL.pure (v := .string (bS l)) 30 rfl (Nat.le_of_ble_eq_true rfl) rfl rfl (by kernel_rfl) ?_
      refine WL.pure (v := vI (f : Int)) 31 rfl (Nat.le_of_ble_eq_true rfl) rfl rfl (by kernel_rfl) ?_
      refine WL.pure (v := .string (bS (l.drop f))) 32 rfl (Nat.le_of_ble_eq_true rfl) rfl rfl (x_slo (l) (f) rfl rfl rfl Tryd.underlying9 (by omega) (by omega)) ?_
      refine WL.alloc (c := #[.string (bS (l.drop f))]) (T := 9) hH9 33 rfl (by decide) rfl rfl (fun b22 => vS b22 1 1) (by kernel_rfl) (fun b22 w23 hw23 => ?_)
      have hH24 : HP Tr w w23 [.own (.slice pv acc.length cp) acc.length (sL acc) 9 1, .cel b22 #[.string (bS (l.drop f))] 9] := hw23.2
      have nb22 := hw23.1
      clear hw23
      obtain ⟨i0, hi0, hz0, hz1, hz2⟩ := infoS
      refine WL.appendSrc (k := acc.length) (m := 1) (sL [l.drop f]) 0 hH24 34 rfl (by decide) rfl rfl rfl rfl Tryd.underlying60 hi0 hz0 hz1 hz2 rfl (by decide) rfl (.inl ⟨_, rfl, strAt (HP.get hH24 1 rfl)⟩) (by simp) (sL_one _) (by unfold maxLen; omega) (by omega) ?_
      rintro v9 w9 - hB9
      have e9 : acc.length + 1 = (acc ++ [l.drop f]).length := by simp
      have hC9 : Ent.holds w9 (.own v9 (acc.length + 1) (sL acc ++ sL [l.drop f]) 9 1) := HP.get hB9 0 rfl
      obtain ⟨pv9, cp9, rfl⟩ := own_rowG hC9
      rw [e9] at hB9 ⊢
      have hH25 : HP Tr w _ [.own (.slice pv9 (acc ++ [l.drop f]).length cp9) (acc ++ [l.drop f]).length (sL (acc ++ [l.drop f])) 9 1, .cel b22 #[.string (bS (l.drop f))] 9] := HP.eq hB9 (by simp [sL])
      have hH26 : HP Tr w _ [.own (.slice pv9 (acc ++ [l.drop f]).length cp9) (acc ++ [l.drop f]).length (sL (acc ++ [l.drop f])) 9 1] := (HP.drop hH25 1)
      refine WL.pure (v := .slice pv9 ((acc ++ [l.drop f]).length) cp9) 3 rfl (Nat.le_of_ble_eq_true rfl) rfl rfl (by kernel_rfl) ?_
      refine WL.nil ?_
      refine WQ.then ?_
      refine hK20 _ _ _ ?_
      refine WC.sub (l' := [(0, .string (bS l)), (3, .slice pv9 ((acc ++ [l.drop f]).length) cp9), (4, vI (f : Int)), (5, vI (l.length : Int)), (9, .bool false), (28, .bool true)]) ⟨rfl, rfl, rfl, rfl, rfl, rfl, trivial⟩ ?_
      refine WC.seq fun K27 hK27 => ?_
      refine WC.region ?_
      refine WL.pure (v := .slice pv9 ((acc ++ [l.drop f]).length) cp9) 35 rfl (Nat.le_of_ble_eq_true rfl) rfl rfl (by kernel_rfl) ?_
      refine WL.pure (v := .slice pv9 ((acc ++ [l.drop f]).length) cp9) 2 rfl (Nat.le_of_ble_eq_true rfl) rfl rfl (by kernel_rfl) ?_
      refine WL.nil ?_
      refine WQ.then ?_
      refine hK27 _ _ _ ?_
      refine WC.ret ?_
      refine WQ.ret1 2 rfl rfl ?_
      have hfin : ll [] l = acc ++ [l.drop f] := by rw [hw]; simp only [ll]; rw [if_neg (fun h => by have := congrArg List.length h; simp at this; omega)]
      exact ⟨pv9, cp9, by rw [hfin], by rw [hfin]; exact hH26⟩
    ·
      refine WL.pure (v := .bool false) 28 rfl (Nat.le_of_ble_eq_true rfl) rfl rfl (x_lss rfl rfl rfl (dF (hlast))) ?_
      refine WL.nil ?_
      refine WQ.then ?_
      refine hK21 _ _ _ ?_
      refine WC.sub (l' := [(0, .string (bS l)), (3, .slice pv acc.length cp), (4, vI (f : Int)), (5, vI (l.length : Int)), (9, .bool false), (28, .bool false)]) ⟨rfl, rfl, rfl, rfl, rfl, rfl, trivial⟩ ?_
      refine WC.no rfl ?_
      refine WC.skip ?_
      refine WQ.then ?_
      refine hK20 _ _ _ ?_
      refine WC.seq fun K28 hK28 => ?_
      refine WC.region ?_
      refine WL.pure (v := .slice pv acc.length cp) 35 rfl (Nat.le_of_ble_eq_true rfl) rfl rfl (by kernel_rfl) ?_
      refine WL.pure (v := .slice pv acc.length cp) 2 rfl (Nat.le_of_ble_eq_true rfl) rfl rfl (by kernel_rfl) ?_
      refine WL.nil ?_
      refine WQ.then ?_
      refine hK28 _ _ _ ?_
      refine WC.ret ?_
      refine WQ.ret1 2 rfl rfl ?_
      have hfin : ll [] l = acc := by rw [hw]; simp only [ll]; rw [if_pos (List.drop_eq_nil_of_le (by omega)), List.append_nil]
      exact ⟨pv, cp, by rw [hfin], by rw [hfin]; exact hH9⟩
set_option maxRecDepth 20000 in
set_option maxHeartbeats 4000000 in
theorem instr_any (p : Option Addr) (cp : Nat) (w0 : List UInt8) (r : List (List UInt8)) (w : World) (hIn : InS w p (w0 :: r)) (hc : (w0 :: r).length ≤ cp) (hn : (w0 :: r).length ≤ 1000000) (hs : ∀ x ∈ w0 :: r, x.length ≤ 1000000) (hE : Ev w) :
    Calls Tryd.prog 26 #[.slice p ((w0 :: r).length) cp] w (InsP (w0 :: r) w) := by
  refine calls_of Tryd.func26 rfl (m := 60) rfl [(0, .slice p ((w0 :: r).length) cp)] (Fr_enter [.slice p ((w0 :: r).length) cp] 60 (Nat.le_of_ble_eq_true rfl)) ?_
  have hH1 : HP Tr w w [] := HP.refl w
  refine WC.seq fun K2 hK2 => ?_
  refine WC.region ?_
  refine WL.alloc (c := #[vI 0, vI 0, vI 0]) (T := 33) hH1 2 rfl (by decide) rfl rfl (fun b2 => vP b2 0) (by kernel_rfl) (fun b2 w3 hw3 => ?_)
  have hH4 : HP Tr w w3 [.cel b2 #[vI 0, vI 0, vI 0] 33] := hw3.2
  have nb2 := hw3.1
  clear hw3
  refine WL.pure (v := .bool false) 3 rfl (Nat.le_of_ble_eq_true rfl) rfl rfl (by kernel_rfl) ?_
  refine WL.nil ?_
  refine WQ.then ?_
  refine hK2 _ _ _ ?_
  refine WC.seq fun K5 hK5 => ?_
  have hn1 : (w0 :: r).length = r.length + 1 := rfl
  obtain ⟨g, o, rfl, hrow⟩ := hIn (by simp)
  refine WC.region ?_
  refine WL.pure (v := .slice (some ⟨g, o, none⟩) ((w0 :: r).length) cp) 14 rfl (Nat.le_of_ble_eq_true rfl) rfl rfl (by kernel_rfl) ?_
  refine WL.pure (v := vP g o) 15 rfl (Nat.le_of_ble_eq_true rfl) rfl rfl (x_idx (0) (o) rfl rfl rfl Tryd.underlying60 sz9 (by omega) (by omega) (by omega)) ?_
  refine WL.pure (v := .string (bS w0)) 16 rfl (Nat.le_of_ble_eq_true rfl) rfl rfl (x_load rfl rfl Tryd.underlying9 rfl ((HP.oldRange hH4 trivial (hrow 0 (by simp <;> omega))) 0 _ rfl)) ?_
  cases hop : opI (bS w0) with
  | none =>
    refine WL.call (f := 46) (args := #[.string (bS w0)]) 17 rfl (Nat.le_of_ble_eq_true rfl) rfl rfl (by kernel_rfl) ?_
    refine (Op_any (bS w0) _).mono ?_
    rw [(op_none hop).1, (op_none hop).2]
    rintro e w2 ⟨rfl, hb⟩
    refine ⟨_, rfl, ?_⟩
    have hH6 : HP Tr w _ [.cel b2 #[vI 0, vI 0, vI 0] 33] := HP.call hH4 hb
    refine WL.pure (v := .tuple #[vI 0, vI 3]) 13 rfl (Nat.le_of_ble_eq_true rfl) rfl rfl (by kernel_rfl) ?_
    refine WL.pure (v := vI 0) 18 rfl (Nat.le_of_ble_eq_true rfl) rfl rfl (by kernel_rfl) ?_
    refine WL.pure (v := vI 3) 19 rfl (Nat.le_of_ble_eq_true rfl) rfl rfl (by kernel_rfl) ?_
    refine WL.pure (v := vI 0) 4 rfl (Nat.le_of_ble_eq_true rfl) rfl rfl (by kernel_rfl) ?_
    refine WL.pure (v := vI 3) 5 rfl (Nat.le_of_ble_eq_true rfl) rfl rfl (by kernel_rfl) ?_
    refine WL.nil ?_
    refine WQ.then ?_
    refine hK5 _ _ _ ?_
    refine WC.sub (l' := [(0, .slice (some ⟨g, o, none⟩) ((w0 :: r).length) cp), (2, vP b2 0), (3, .bool false), (4, vI 0), (5, vI 3)]) ⟨rfl, rfl, rfl, rfl, rfl, trivial⟩ ?_
    refine WC.seq fun K7 hK7 => ?_
    refine WC.seq fun K8 hK8 => ?_
    refine WC.region ?_
    refine WL.pure (v := vI 3) 20 rfl (Nat.le_of_ble_eq_true rfl) rfl rfl (by kernel_rfl) ?_
    refine WL.pure (v := .bool true) 21 rfl (Nat.le_of_ble_eq_true rfl) rfl rfl (x_neq rfl rfl rfl (by decide)) ?_
    refine WL.nil ?_
    refine WQ.then ?_
    refine hK8 _ _ _ ?_
    refine WC.yes rfl ?_
    refine WC.seq fun K9 hK9 => ?_
    refine WC.region ?_
    refine WL.pure (v := .agg #[vI 0, vI 0, vI 0]) 22 rfl (Nat.le_of_ble_eq_true rfl) rfl rfl (by kernel_rfl) ?_
    refine WL.storeS (H2 := [.cel b2 #[vI 0, vI 0, vI 0] 33]) 0 hH6 rfl rfl rfl rfl rfl rfl sz33 rfl (Nat.le_of_ble_eq_true rfl) rfl rfl ?_
    intro w10 hH11
    refine WL.pure (v := .bool false) 3 rfl (Nat.le_of_ble_eq_true rfl) rfl rfl (by kernel_rfl) ?_
    refine WL.nil ?_
    refine WQ.then ?_
    refine hK9 _ _ _ ?_
    refine WC.ret ?_
    refine WQ.thenRet ?_
    refine WQ.retC2 2 33 3 rfl rfl rfl (HP.loadRow hH11 0 rfl Tryd.underlying33 rfl sz33) ?_
    exact ⟨.inr ⟨ins_op hop, _, _, _, rfl⟩, HP.below hH11⟩
  | some k =>
    refine WL.call (f := 46) (args := #[.string (bS w0)]) 17 rfl (Nat.le_of_ble_eq_true rfl) rfl rfl (by kernel_rfl) ?_
    refine (Op_any (bS w0) _).mono ?_
    rw [(op_some hop).1, (op_some hop).2]
    rintro e w2 ⟨rfl, hb⟩
    refine ⟨_, rfl, ?_⟩
    have hH12 : HP Tr w _ [.cel b2 #[vI 0, vI 0, vI 0] 33] := HP.call hH4 hb
    have hk36 := opI_lt hop
    have hod := opd_le k
    refine WL.pure (v := .tuple #[vI (k : Int), vI 0]) 13 rfl (Nat.le_of_ble_eq_true rfl) rfl rfl (by kernel_rfl) ?_
    refine WL.pure (v := vI (k : Int)) 18 rfl (Nat.le_of_ble_eq_true rfl) rfl rfl (by kernel_rfl) ?_
    refine WL.pure (v := vI 0) 19 rfl (Nat.le_of_ble_eq_true rfl) rfl rfl (by kernel_rfl) ?_
    refine WL.pure (v := vI (k : Int)) 4 rfl (Nat.le_of_ble_eq_true rfl) rfl rfl (by kernel_rfl) ?_
    refine WL.pure (v := vI 0) 5 rfl (Nat.le_of_ble_eq_true rfl) rfl rfl (by kernel_rfl) ?_
    refine WL.nil ?_
    refine WQ.then ?_
    refine hK5 _ _ _ ?_
    refine WC.sub (l' := [(0, .slice (some ⟨g, o, none⟩) ((w0 :: r).length) cp), (2, vP b2 0), (3, .bool false), (4, vI (k : Int)), (5, vI 0)]) ⟨rfl, rfl, rfl, rfl, rfl, trivial⟩ ?_
    refine WC.seq fun K13 hK13 => ?_
    refine WC.seq fun K14 hK14 => ?_
    refine WC.region ?_
    refine WL.pure (v := vI 0) 20 rfl (Nat.le_of_ble_eq_true rfl) rfl rfl (by kernel_rfl) ?_
    refine WL.pure (v := .bool false) 21 rfl (Nat.le_of_ble_eq_true rfl) rfl rfl (x_neq rfl rfl rfl (by decide)) ?_
    refine WL.nil ?_
    refine WQ.then ?_
    refine hK14 _ _ _ ?_
    refine WC.no rfl ?_
    refine WC.skip ?_
    refine WQ.then ?_
    refine hK13 _ _ _ ?_
    refine WC.seq fun K15 hK15 => ?_
    refine WC.region ?_
    refine WL.pure (v := vI (k : Int)) 24 rfl (Nat.le_of_ble_eq_true rfl) rfl rfl (by kernel_rfl) ?_
    refine WL.call (f := 47) (args := #[vI (k : Int)]) 25 rfl (Nat.le_of_ble_eq_true rfl) rfl rfl (by kernel_rfl) ?_
    refine (Operands_any (k : Int) _).mono ?_
    rw [opN_nat hk36]
    rintro e w2 ⟨rfl, hb⟩
    refine ⟨_, rfl, ?_⟩
    have hH16 : HP Tr w _ [.cel b2 #[vI 0, vI 0, vI 0] 33] := HP.call hH12 hb
    refine WL.pure (v := .tuple #[vI (opd k), vI (opE (k : Int))]) 23 rfl (Nat.le_of_ble_eq_true rfl) rfl rfl (by kernel_rfl) ?_
    refine WL.pure (v := vI (opd k)) 26 rfl (Nat.le_of_ble_eq_true rfl) rfl rfl (by kernel_rfl) ?_
    refine WL.pure (v := vI (opE (k : Int))) 27 rfl (Nat.le_of_ble_eq_true rfl) rfl rfl (by kernel_rfl) ?_
    refine WL.pure (v := vI (opd k)) 6 rfl (Nat.le_of_ble_eq_true rfl) rfl rfl (by kernel_rfl) ?_
    refine WL.pure (v := vI (opE (k : Int))) 7 rfl (Nat.le_of_ble_eq_true rfl) rfl rfl (by kernel_rfl) ?_
    refine WL.nil ?_
    refine WQ.then ?_
    refine hK15 _ _ _ ?_
    refine WC.sub (l' := [(0, .slice (some ⟨g, o, none⟩) ((w0 :: r).length) cp), (2, vP b2 0), (3, .bool false), (4, vI (k : Int)), (5, vI 0), (6, vI (opd k)), (21, .bool false)]) ⟨rfl, rfl, rfl, rfl, rfl, rfl, rfl, trivial⟩ ?_
    refine WC.seq fun K17 hK17 => ?_
    refine WC.seq fun K18 hK18 => ?_
    refine WC.region ?_
    refine WL.pure (v := .slice (some ⟨g, o, none⟩) ((w0 :: r).length) cp) 28 rfl (Nat.le_of_ble_eq_true rfl) rfl rfl (by kernel_rfl) ?_
    refine WL.pure (v := vI (((w0 :: r).length : Nat) : Int)) 29 rfl (Nat.le_of_ble_eq_true rfl) rfl rfl (by kernel_rfl) ?_
    refine WL.pure (v := vI ((((w0 :: r).length : Nat) : Int) - 1)) 30 rfl (Nat.le_of_ble_eq_true rfl) rfl rfl (x_sub (Z := (((w0 :: r).length : Nat) : Int) - 1) rfl rfl rfl (by omega) (by omega) (by omega)) ?_
    refine WL.pure (v := vI (opd k)) 31 rfl (Nat.le_of_ble_eq_true rfl) rfl rfl (by kernel_rfl) ?_
    by_cases hlen0 : (((w0 :: r).length : Nat) : Int) - 1 ≠ opd k
    ·
      refine WL.pure (v := .bool true) 32 rfl (Nat.le_of_ble_eq_true rfl) rfl rfl (x_neq rfl rfl rfl (dT (hlen0))) ?_
      refine WL.nil ?_
      refine WQ.then ?_
      refine hK18 _ _ _ ?_
      refine WC.yes rfl ?_
      refine WC.seq fun K19 hK19 => ?_
      refine WC.region ?_
      refine WL.pure (v := .agg #[vI 0, vI 0, vI 0]) 33 rfl (Nat.le_of_ble_eq_true rfl) rfl rfl (by kernel_rfl) ?_
      refine WL.storeS (H2 := [.cel b2 #[vI 0, vI 0, vI 0] 33]) 0 hH16 rfl rfl rfl rfl rfl rfl sz33 rfl (Nat.le_of_ble_eq_true rfl) rfl rfl ?_
      intro w20 hH21
      refine WL.pure (v := .bool false) 3 rfl (Nat.le_of_ble_eq_true rfl) rfl rfl (by kernel_rfl) ?_
      refine WL.nil ?_
      refine WQ.then ?_
      refine hK19 _ _ _ ?_
      refine WC.sub (l' := [(0, .slice (some ⟨g, o, none⟩) ((w0 :: r).length) cp), (2, vP b2 0), (3, .bool false), (4, vI (k : Int)), (5, vI 0), (6, vI (opd k)), (21, .bool false), (32, .bool true)]) ⟨rfl, rfl, rfl, rfl, rfl, rfl, rfl, rfl, trivial⟩ ?_
      refine WC.ret ?_
      refine WQ.thenRet ?_
      refine WQ.retC2 2 33 3 rfl rfl rfl (HP.loadRow hH21 0 rfl Tryd.underlying33 rfl sz33) ?_
      exact ⟨.inr ⟨ins_len hop (by simp at hlen0; omega), _, _, _, rfl⟩, HP.below hH21⟩
    ·
      have hlen : (r.length : Int) = opd k := by simp at hlen0; omega
      refine WL.pure (v := .bool false) 32 rfl (Nat.le_of_ble_eq_true rfl) rfl rfl (x_neq rfl rfl rfl (dF (hlen0))) ?_
      refine WL.nil ?_
      refine WQ.then ?_
      refine hK18 _ _ _ ?_
      refine WC.no rfl ?_
      refine WC.skip ?_
      refine WQ.then ?_
      refine hK17 _ _ _ ?_
      refine WC.seq fun K22 hK22 => ?_
      refine WC.region ?_
      refine WL.alloc (c := #[vI 0, vI 0]) (T := 91) hH16 8 rfl (by decide) rfl rfl (fun b8 => vP b8 0) (by kernel_rfl) (fun b8 w23 hw23 => ?_)
      have hH24 : HP Tr w w23 [.cel b2 #[vI 0, vI 0, vI 0] 33, .cel b8 #[vI 0, vI 0] 91] := hw23.2
      have nb8 := hw23.1
      clear hw23
      refine WL.nil ?_
      refine WQ.then ?_
      refine hK22 _ _ _ ?_
      refine WC.seq fun K25 hK25 => ?_
      refine WC.seq fun K26 hK26 => ?_
      have hIn2 : InS w (rs g o cp) r := InS.drop1 hrow hc
      refine WC.region ?_
      refine WL.pure (v := .slice (some ⟨g, o, none⟩) ((w0 :: r).length) cp) 34 rfl (Nat.le_of_ble_eq_true rfl) rfl rfl (by kernel_rfl) ?_
      refine WL.pure (v := .slice (rs g o cp) r.length (cp - 1)) 35 rfl (Nat.le_of_ble_eq_true rfl) rfl rfl (x_reslice rfl rfl rfl Tryd.underlying60 (by simp) (by simp at hc ⊢; omega) sz9 (by simp)) ?_
      refine WL.pure (v := vI (r.length : Int)) 36 rfl (Nat.le_of_ble_eq_true rfl) rfl rfl (by kernel_rfl) ?_
      refine WL.pure (v := vI 0) 37 rfl (Nat.le_of_ble_eq_true rfl) rfl rfl (by kernel_rfl) ?_
      refine WL.nil ?_
      refine WQ.then ?_
      refine hK26 _ _ _ ?_
      refine WC.block ?_
      refine WC.loop (fun kk0 ll0 ww0 => ∃ (j : Nat) (x : Int) (y : Int), ll0 = [(2, vP b2 0), (4, vI (k : Int)), (8, vP b8 0), (35, .slice (rs g o cp) r.length (cp - 1)), (36, vI (r.length : Int)), (37, vI (j : Int))] ∧ kk0 = r.length - j ∧ (j ≤ r.length) ∧ ((0 < j → numV (r.getD 0 []) = some x) ∧ (j = 0 → x = 0)) ∧ ((1 < j → numV (r.getD 1 []) = some y) ∧ (j ≤ 1 → y = 0)) ∧ HP Tr w ww0 [.cel b2 #[vI 0, vI 0, vI 0] 33, .cel b8 #[vI x, vI y] 91]) (r.length) [(2, vP b2 0), (4, vI (k : Int)), (8, vP b8 0), (35, .slice (rs g o cp) r.length (cp - 1)), (36, vI (r.length : Int)), (37, vI 0)] ⟨rfl, rfl, rfl, rfl, rfl, rfl, trivial⟩ ⟨0, 0, 0, rfl, rfl, Nat.zero_le _, ⟨fun h => by omega, fun _ => rfl⟩, ⟨fun h => by omega, fun _ => rfl⟩, hH24⟩ ?_
      rintro kk l w28 ⟨j, x, y, rfl, hkk, hj, hx, hy, hH29⟩ K27 hK27
      refine WC.seq fun K30 hK30 => ?_
      refine WC.region ?_
      by_cases hlt : (j : Int) < (r.length : Int)
      ·
        refine WL.pure (v := .bool true) 38 rfl (Nat.le_of_ble_eq_true rfl) rfl rfl (x_lss rfl rfl rfl (dT (hlt))) ?_
        refine WL.nil ?_
        refine WQ.then ?_
        refine hK30 _ _ _ ?_
        refine WC.seq fun K31 hK31 => ?_
        refine WC.yes rfl ?_
        refine WC.skip ?_
        refine WQ.then ?_
        refine hK31 _ _ _ ?_
        refine WC.seq fun K32 hK32 => ?_
        refine WC.block ?_
        refine WC.seq fun K33 hK33 => ?_
        obtain ⟨g2, o2, hg2, hrow2⟩ := hIn2 (by omega)
        have hj2 : j < 2 := by omega
        rw [hg2]
        refine WC.region ?_
        refine WL.pure (v := vI (j : Int)) 39 rfl (Nat.le_of_ble_eq_true rfl) rfl rfl (by kernel_rfl) ?_
        refine WL.pure (v := vP g2 (o2 + j)) 40 rfl (Nat.le_of_ble_eq_true rfl) rfl rfl (x_idx (j) (o2 + j) rfl rfl rfl Tryd.underlying60 sz9 (by omega) (by omega) (by omega)) ?_
        refine WL.pure (v := .string (bS (r.getD j []))) 41 rfl (Nat.le_of_ble_eq_true rfl) rfl rfl (x_load rfl rfl Tryd.underlying9 rfl ((HP.oldRange hH29 trivial (hrow2 j (by omega))) 0 _ rfl)) ?_
        refine WL.pure (v := vI (j : Int)) 9 rfl (Nat.le_of_ble_eq_true rfl) rfl rfl (by kernel_rfl) ?_
        refine WL.pure (v := .string (bS (r.getD j []))) 10 rfl (Nat.le_of_ble_eq_true rfl) rfl rfl (by kernel_rfl) ?_
        refine WL.nil ?_
        refine WQ.then ?_
        refine hK33 _ _ _ ?_
        refine WC.seq fun K34 hK34 => ?_
        refine WC.region ?_
        refine WL.pure (v := .string (bS (r.getD j []))) 43 rfl (Nat.le_of_ble_eq_true rfl) rfl rfl (by kernel_rfl) ?_
        refine WL.call (f := 48) (args := #[.string (bS (r.getD j []))]) 44 rfl (Nat.le_of_ble_eq_true rfl) rfl rfl (by kernel_rfl) ?_
        refine (decimal_any (r.getD j []) _ (hs _ (List.mem_cons_of_mem _ (getD_mem (by omega)))) (hE.below (HP.below hH29))).mono ?_
        rintro e w2 ⟨⟨n, hn, rfl⟩ | ⟨hn, v, rfl⟩, hb⟩
        ·
          refine ⟨_, rfl, ?_⟩
          have hH35 : HP Tr w _ [.cel b2 #[vI 0, vI 0, vI 0] 33, .cel b8 #[vI x, vI y] 91] := HP.call hH29 hb
          refine WL.pure (v := .tuple #[vI n, .bool true]) 42 rfl (Nat.le_of_ble_eq_true rfl) rfl rfl (by kernel_rfl) ?_
          refine WL.pure (v := vI n) 45 rfl (Nat.le_of_ble_eq_true rfl) rfl rfl (by kernel_rfl) ?_
          refine WL.pure (v := .bool true) 46 rfl (Nat.le_of_ble_eq_true rfl) rfl rfl (by kernel_rfl) ?_
          refine WL.pure (v := vI n) 11 rfl (Nat.le_of_ble_eq_true rfl) rfl rfl (by kernel_rfl) ?_
          refine WL.pure (v := .bool true) 12 rfl (Nat.le_of_ble_eq_true rfl) rfl rfl (by kernel_rfl) ?_
          refine WL.nil ?_
          refine WQ.then ?_
          refine hK34 _ _ _ ?_
          refine WC.sub (l' := [(2, vP b2 0), (4, vI (k : Int)), (8, vP b8 0), (9, vI (j : Int)), (10, .string (bS (r.getD j []))), (11, vI n), (12, .bool true), (35, .slice (some ⟨g2, o2, none⟩) r.length (cp - 1)), (36, vI (r.length : Int)), (37, vI (j : Int)), (38, .bool true)]) ⟨rfl, rfl, rfl, rfl, rfl, rfl, rfl, rfl, rfl, rfl, rfl, trivial⟩ ?_
          refine WC.seq fun K36 hK36 => ?_
          refine WC.seq fun K37 hK37 => ?_
          refine WC.region ?_
          refine WL.pure (v := .bool true) 47 rfl (Nat.le_of_ble_eq_true rfl) rfl rfl (by kernel_rfl) ?_
          refine WL.pure (v := .bool false) 48 rfl (Nat.le_of_ble_eq_true rfl) rfl rfl (by kernel_rfl) ?_
          refine WL.nil ?_
          refine WQ.then ?_
          refine hK37 _ _ _ ?_
          refine WC.no rfl ?_
          refine WC.skip ?_
          refine WQ.then ?_
          refine hK36 _ _ _ ?_
          have hj01 : j = 0 ∨ j = 1 := by omega
          rcases hj01 with rfl | rfl
          ·
            refine WC.region ?_
            refine WL.pure (v := vI 0) 50 rfl (Nat.le_of_ble_eq_true rfl) rfl rfl (by kernel_rfl) ?_
            refine WL.pure (v := vI n) 51 rfl (Nat.le_of_ble_eq_true rfl) rfl rfl (by kernel_rfl) ?_
            refine WL.pure (v := vP b8 0) 52 rfl (Nat.le_of_ble_eq_true rfl) rfl rfl (x_idxArr (0) (0) rfl rfl rfl Tryd.underlying91 sz3 (by omega) (by omega) (by omega)) ?_
            refine WL.store (H2 := [.cel b2 #[vI 0, vI 0, vI 0] 33, .cel b8 #[vI n, vI y] 91]) 1 hH35 rfl rfl rfl rfl rfl rfl sz3 rfl (Nat.le_of_ble_eq_true rfl) rfl rfl ?_
            intro w38 hH39
            refine WL.nil ?_
            refine WQ.inNormal ?_
            refine WQ.then ?_
            refine hK32 _ _ _ ?_
            refine WC.region ?_
            refine WL.pure (v := vI 1) 53 rfl (Nat.le_of_ble_eq_true rfl) rfl rfl (x_add (Z := 1) rfl rfl rfl (by omega) (by omega) (by omega)) ?_
            refine WL.pure (v := vI 1) 37 rfl (Nat.le_of_ble_eq_true rfl) rfl rfl (by kernel_rfl) ?_
            refine WL.nil ?_
            rw [← hg2]
            refine WQ.sub (l' := [(2, vP b2 0), (4, vI (k : Int)), (8, vP b8 0), (35, .slice (rs g o cp) r.length (cp - 1)), (36, vI (r.length : Int)), (37, vI 1)]) ⟨rfl, rfl, rfl, rfl, rfl, rfl, trivial⟩ ?_
            refine WQ.then (hK27 _ _ _ (by omega) ⟨1, n, y, rfl, rfl, by omega, ⟨fun _ => hn, fun h => by omega⟩, ⟨fun h => by omega, fun _ => hy.2 (by omega)⟩, hH39⟩)
          ·
            refine WC.region ?_
            refine WL.pure (v := vI 1) 50 rfl (Nat.le_of_ble_eq_true rfl) rfl rfl (by kernel_rfl) ?_
            refine WL.pure (v := vI n) 51 rfl (Nat.le_of_ble_eq_true rfl) rfl rfl (by kernel_rfl) ?_
            refine WL.pure (v := vP b8 1) 52 rfl (Nat.le_of_ble_eq_true rfl) rfl rfl (x_idxArr (1) (1) rfl rfl rfl Tryd.underlying91 sz3 (by omega) (by omega) (by omega)) ?_
            refine WL.store (H2 := [.cel b2 #[vI 0, vI 0, vI 0] 33, .cel b8 #[vI x, vI n] 91]) 1 hH35 rfl rfl rfl rfl rfl rfl sz3 rfl (Nat.le_of_ble_eq_true rfl) rfl rfl ?_
            intro w40 hH41
            refine WL.nil ?_
            refine WQ.inNormal ?_
            refine WQ.then ?_
            refine hK32 _ _ _ ?_
            refine WC.region ?_
            refine WL.pure (v := vI 2) 53 rfl (Nat.le_of_ble_eq_true rfl) rfl rfl (x_add (Z := 2) rfl rfl rfl (by omega) (by omega) (by omega)) ?_
            refine WL.pure (v := vI 2) 37 rfl (Nat.le_of_ble_eq_true rfl) rfl rfl (by kernel_rfl) ?_
            refine WL.nil ?_
            rw [← hg2]
            refine WQ.sub (l' := [(2, vP b2 0), (4, vI (k : Int)), (8, vP b8 0), (35, .slice (rs g o cp) r.length (cp - 1)), (36, vI (r.length : Int)), (37, vI 2)]) ⟨rfl, rfl, rfl, rfl, rfl, rfl, trivial⟩ ?_
            refine WQ.then (hK27 _ _ _ (by omega) ⟨2, x, n, rfl, rfl, by omega, ⟨fun _ => hx.1 (by omega), fun h => by omega⟩, ⟨fun _ => hn, fun h => by omega⟩, hH41⟩)
        ·
          refine ⟨_, rfl, ?_⟩
          have hH42 : HP Tr w _ [.cel b2 #[vI 0, vI 0, vI 0] 33, .cel b8 #[vI x, vI y] 91] := HP.call hH29 hb
          refine WL.pure (v := .tuple #[vI v, .bool false]) 42 rfl (Nat.le_of_ble_eq_true rfl) rfl rfl (by kernel_rfl) ?_
          refine WL.pure (v := vI v) 45 rfl (Nat.le_of_ble_eq_true rfl) rfl rfl (by kernel_rfl) ?_
          refine WL.pure (v := .bool false) 46 rfl (Nat.le_of_ble_eq_true rfl) rfl rfl (by kernel_rfl) ?_
          refine WL.pure (v := vI v) 11 rfl (Nat.le_of_ble_eq_true rfl) rfl rfl (by kernel_rfl) ?_
          refine WL.pure (v := .bool false) 12 rfl (Nat.le_of_ble_eq_true rfl) rfl rfl (by kernel_rfl) ?_
          refine WL.nil ?_
          refine WQ.then ?_
          refine hK34 _ _ _ ?_
          refine WC.sub (l' := [(2, vP b2 0), (4, vI (k : Int)), (8, vP b8 0), (9, vI (j : Int)), (10, .string (bS (r.getD j []))), (11, vI v), (12, .bool false), (35, .slice (some ⟨g2, o2, none⟩) r.length (cp - 1)), (36, vI (r.length : Int)), (37, vI (j : Int)), (38, .bool true)]) ⟨rfl, rfl, rfl, rfl, rfl, rfl, rfl, rfl, rfl, rfl, rfl, trivial⟩ ?_
          refine WC.seq fun K43 hK43 => ?_
          refine WC.seq fun K44 hK44 => ?_
          refine WC.region ?_
          refine WL.pure (v := .bool false) 47 rfl (Nat.le_of_ble_eq_true rfl) rfl rfl (by kernel_rfl) ?_
          refine WL.pure (v := .bool true) 48 rfl (Nat.le_of_ble_eq_true rfl) rfl rfl (by kernel_rfl) ?_
          refine WL.nil ?_
          refine WQ.then ?_
          refine hK44 _ _ _ ?_
          refine WC.yes rfl ?_
          refine WC.seq fun K45 hK45 => ?_
          refine WC.region ?_
          refine WL.pure (v := .agg #[vI 0, vI 0, vI 0]) 49 rfl (Nat.le_of_ble_eq_true rfl) rfl rfl (by kernel_rfl) ?_
          refine WL.storeS (H2 := [.cel b2 #[vI 0, vI 0, vI 0] 33, .cel b8 #[vI x, vI y] 91]) 0 hH42 rfl rfl rfl rfl rfl rfl sz33 rfl (Nat.le_of_ble_eq_true rfl) rfl rfl ?_
          intro w46 hH47
          refine WL.pure (v := .bool false) 3 rfl (Nat.le_of_ble_eq_true rfl) rfl rfl (by kernel_rfl) ?_
          refine WL.nil ?_
          refine WQ.then ?_
          refine hK45 _ _ _ ?_
          refine WC.ret ?_
          refine WQ.thenRet ?_
          refine WQ.inRet ?_
          refine WQ.thenRet ?_
          refine WQ.thenRet ?_
          refine WQ.inRet ?_
          refine WQ.thenRet ?_
          refine WQ.retC2 2 33 3 rfl rfl rfl (HP.loadRow hH47 0 rfl Tryd.underlying33 rfl sz33) ?_
          exact ⟨.inr ⟨ins_num hop (by omega) hn, _, _, _, rfl⟩, HP.below hH47⟩
      ·
        refine WL.pure (v := .bool false) 38 rfl (Nat.le_of_ble_eq_true rfl) rfl rfl (x_lss rfl rfl rfl (dF (hlt))) ?_
        refine WL.nil ?_
        refine WQ.then ?_
        refine hK30 _ _ _ ?_
        refine WC.seq fun K48 hK48 => ?_
        refine WC.no rfl ?_
        refine WC.exit ?_
        refine WQ.thenExit ?_
        refine WQ.thenExit ?_
        refine WQ.inExit ?_
        refine WQ.then ?_
        refine hK25 _ _ _ ?_
        refine WC.seq fun K49 hK49 => ?_
        refine WC.region ?_
        refine WL.pure (v := vI (k : Int)) 54 rfl (Nat.le_of_ble_eq_true rfl) rfl rfl (by kernel_rfl) ?_
        refine WL.pure (v := vP b8 0) 55 rfl (Nat.le_of_ble_eq_true rfl) rfl rfl (x_idxArr (0) (0) rfl rfl rfl Tryd.underlying91 sz3 (by omega) (by omega) (by omega)) ?_
        refine WL.pure (v := vI x) 56 rfl (Nat.le_of_ble_eq_true rfl) rfl rfl (x_load rfl rfl Tryd.underlying3 rfl (HP.cell hH29 1 rfl rfl)) ?_
        refine WL.pure (v := vP b8 1) 57 rfl (Nat.le_of_ble_eq_true rfl) rfl rfl (x_idxArr (1) (1) rfl rfl rfl Tryd.underlying91 sz3 (by omega) (by omega) (by omega)) ?_
        refine WL.pure (v := vI y) 58 rfl (Nat.le_of_ble_eq_true rfl) rfl rfl (x_load rfl rfl Tryd.underlying3 rfl (HP.cell hH29 1 rfl rfl)) ?_
        refine WL.pure (v := .agg #[vI (k : Int), vI x, vI y]) 59 rfl (Nat.le_of_ble_eq_true rfl) rfl rfl (by kernel_rfl) ?_
        refine WL.storeS (H2 := [.cel b2 #[vI (k : Int), vI x, vI y] 33, .cel b8 #[vI x, vI y] 91]) 0 hH29 rfl rfl rfl rfl rfl rfl sz33 rfl (Nat.le_of_ble_eq_true rfl) rfl rfl ?_
        intro w50 hH51
        refine WL.pure (v := .bool true) 3 rfl (Nat.le_of_ble_eq_true rfl) rfl rfl (by kernel_rfl) ?_
        refine WL.nil ?_
        refine WQ.then ?_
        refine hK49 _ _ _ ?_
        refine WC.sub (l' := [(2, vP b2 0), (3, .bool true), (4, vI (k : Int)), (8, vP b8 0), (35, .slice (rs g o cp) r.length (cp - 1)), (36, vI (r.length : Int)), (37, vI (j : Int)), (38, .bool false)]) ⟨rfl, rfl, rfl, rfl, rfl, rfl, rfl, rfl, trivial⟩ ?_
        refine WC.ret ?_
        refine WQ.retC2 2 33 3 rfl rfl rfl (HP.loadRow hH51 0 rfl Tryd.underlying33 rfl sz33) ?_
        exact ⟨.inl ⟨((k : Int), x, y), ins_ok hop hlen ⟨fun h => hx.1 (by omega), fun h => hx.2 (by omega)⟩ ⟨fun h => hy.1 (by omega), fun h => hy.2 (by omega)⟩, rfl⟩, HP.below hH51⟩
set_option maxRecDepth 20000 in
set_option maxHeartbeats 4000000 in
theorem rinstr_any (p : Option Addr) (cp : Nat) (w0 : List UInt8) (r : List (List UInt8)) (w : World) (hIn : InS w p (w0 :: r)) (hc : (w0 :: r).length ≤ cp) (hn : (w0 :: r).length ≤ 1000000) (hs : ∀ x ∈ w0 :: r, x.length ≤ 1000000) (hE : Ev w) :
    Calls Tryd.prog 29 #[.slice p ((w0 :: r).length) cp] w (InsP (w0 :: r) w) := by
  refine calls_of Tryd.func29 rfl (m := 59) rfl [(0, .slice p ((w0 :: r).length) cp)] (Fr_enter [.slice p ((w0 :: r).length) cp] 59 (Nat.le_of_ble_eq_true rfl)) ?_
  have hH1 : HP Tr w w [] := HP.refl w
  refine WC.seq fun K2 hK2 => ?_
  refine WC.region ?_
  refine WL.alloc (c := #[vI 0, vI 0, vI 0]) (T := 33) hH1 2 rfl (by decide) rfl rfl (fun b2 => vP b2 0) (by kernel_rfl) (fun b2 w3 hw3 => ?_)
  have hH4 : HP Tr w w3 [.cel b2 #[vI 0, vI 0, vI 0] 33] := hw3.2
  have nb2 := hw3.1
  clear hw3
  refine WL.pure (v := .bool false) 3 rfl (Nat.le_of_ble_eq_true rfl) rfl rfl (by kernel_rfl) ?_
  refine WL.nil ?_
  refine WQ.then ?_
  refine hK2 _ _ _ ?_
  refine WC.seq fun K5 hK5 => ?_
  have hn1 : (w0 :: r).length = r.length + 1 := rfl
  obtain ⟨g, o, rfl, hrow⟩ := hIn (by simp)
  refine WC.region ?_
  refine WL.pure (v := .slice (some ⟨g, o, none⟩) ((w0 :: r).length) cp) 11 rfl (Nat.le_of_ble_eq_true rfl) rfl rfl (by kernel_rfl) ?_
  refine WL.pure (v := vP g o) 12 rfl (Nat.le_of_ble_eq_true rfl) rfl rfl (x_idx (0) (o) rfl rfl rfl Tryd.underlying60 sz9 (by omega) (by omega) (by omega)) ?_
  refine WL.pure (v := .string (bS w0)) 13 rfl (Nat.le_of_ble_eq_true rfl) rfl rfl (x_load rfl rfl Tryd.underlying9 rfl ((HP.oldRange hH4 trivial (hrow 0 (by simp <;> omega))) 0 _ rfl)) ?_
  cases hop : opI (bS w0) with
  | none =>
    refine WL.call (f := 49) (args := #[.string (bS w0)]) 14 rfl (Nat.le_of_ble_eq_true rfl) rfl rfl (by kernel_rfl) ?_
    refine (rOp_any (bS w0) _).mono ?_
    rw [(op_none hop).1, (op_none hop).2]
    rintro e w2 ⟨rfl, hb⟩
    refine ⟨_, rfl, ?_⟩
    have hH6 : HP Tr w _ [.cel b2 #[vI 0, vI 0, vI 0] 33] := HP.call hH4 hb
    refine WL.pure (v := .tuple #[vI 0, vI 3]) 10 rfl (Nat.le_of_ble_eq_true rfl) rfl rfl (by kernel_rfl) ?_
    refine WL.pure (v := vI 0) 15 rfl (Nat.le_of_ble_eq_true rfl) rfl rfl (by kernel_rfl) ?_
    refine WL.pure (v := vI 3) 16 rfl (Nat.le_of_ble_eq_true rfl) rfl rfl (by kernel_rfl) ?_
    refine WL.pure (v := vI 0) 4 rfl (Nat.le_of_ble_eq_true rfl) rfl rfl (by kernel_rfl) ?_
    refine WL.pure (v := vI 3) 5 rfl (Nat.le_of_ble_eq_true rfl) rfl rfl (by kernel_rfl) ?_
    refine WL.nil ?_
    refine WQ.then ?_
    refine hK5 _ _ _ ?_
    refine WC.sub (l' := [(0, .slice (some ⟨g, o, none⟩) ((w0 :: r).length) cp), (2, vP b2 0), (3, .bool false), (4, vI 0), (5, vI 3)]) ⟨rfl, rfl, rfl, rfl, rfl, trivial⟩ ?_
    refine WC.seq fun K7 hK7 => ?_
    refine WC.region ?_
    refine WL.pure (v := vI 0) 18 rfl (Nat.le_of_ble_eq_true rfl) rfl rfl (by kernel_rfl) ?_
    refine WL.call (f := 22) (args := #[vI 0]) 19 rfl (Nat.le_of_ble_eq_true rfl) rfl rfl (by kernel_rfl) ?_
    refine (rOperands_any 0 _).mono ?_
    rintro e w8 ⟨rfl, hb9⟩
    refine ⟨_, rfl, ?_⟩
    have hH10 : HP Tr w _ [.cel b2 #[vI 0, vI 0, vI 0] 33] := HP.call hH6 hb9
    refine WL.pure (v := .tuple #[vI (opN 0), vI (opE 0)]) 17 rfl (Nat.le_of_ble_eq_true rfl) rfl rfl (by kernel_rfl) ?_
    refine WL.pure (v := vI (opN 0)) 20 rfl (Nat.le_of_ble_eq_true rfl) rfl rfl (by kernel_rfl) ?_
    refine WL.pure (v := vI (opE 0)) 21 rfl (Nat.le_of_ble_eq_true rfl) rfl rfl (by kernel_rfl) ?_
    refine WL.pure (v := vI (opN 0)) 6 rfl (Nat.le_of_ble_eq_true rfl) rfl rfl (by kernel_rfl) ?_
    refine WL.pure (v := vI (opE 0)) 7 rfl (Nat.le_of_ble_eq_true rfl) rfl rfl (by kernel_rfl) ?_
    refine WL.nil ?_
    refine WQ.then ?_
    refine hK7 _ _ _ ?_
    refine WC.sub (l' := [(0, .slice (some ⟨g, o, none⟩) ((w0 :: r).length) cp), (2, vP b2 0), (3, .bool false), (4, vI 0), (5, vI 3), (6, vI (opN 0))]) ⟨rfl, rfl, rfl, rfl, rfl, rfl, trivial⟩ ?_
    refine WC.seq fun K11 hK11 => ?_
    refine WC.seq fun K12 hK12 => ?_
    refine WC.region ?_
    refine WL.pure (v := vI 3) 22 rfl (Nat.le_of_ble_eq_true rfl) rfl rfl (by kernel_rfl) ?_
    refine WL.pure (v := .bool true) 23 rfl (Nat.le_of_ble_eq_true rfl) rfl rfl (x_neq rfl rfl rfl (by decide)) ?_
    refine WL.pure (v := .bool true) 24 rfl (Nat.le_of_ble_eq_true rfl) rfl rfl (by kernel_rfl) ?_
    refine WL.pass 25 rfl (Nat.le_of_ble_eq_true rfl) rfl ?_
    refine WL.pass 26 rfl (Nat.le_of_ble_eq_true rfl) rfl ?_
    refine WL.pass 27 rfl (Nat.le_of_ble_eq_true rfl) rfl ?_
    refine WL.pass 28 rfl (Nat.le_of_ble_eq_true rfl) rfl ?_
    refine WL.pass 29 rfl (Nat.le_of_ble_eq_true rfl) rfl ?_
    refine WL.pure (v := .bool true) 30 rfl (Nat.le_of_ble_eq_true rfl) rfl rfl (by kernel_rfl) ?_
    refine WL.nil ?_
    refine WQ.then ?_
    refine hK12 _ _ _ ?_
    refine WC.sub (l' := [(0, .slice (some ⟨g, o, none⟩) ((w0 :: r).length) cp), (2, vP b2 0), (3, .bool false), (4, vI 0), (5, vI 3), (6, vI (opN 0)), (30, .bool true)]) ⟨rfl, rfl, rfl, rfl, rfl, rfl, rfl, trivial⟩ ?_
    refine WC.yes rfl ?_
    refine WC.seq fun K13 hK13 => ?_
    refine WC.region ?_
    refine WL.pure (v := .agg #[vI 0, vI 0, vI 0]) 31 rfl (Nat.le_of_ble_eq_true rfl) rfl rfl (by kernel_rfl) ?_
    refine WL.storeS (H2 := [.cel b2 #[vI 0, vI 0, vI 0] 33]) 0 hH10 rfl rfl rfl rfl rfl rfl sz33 rfl (Nat.le_of_ble_eq_true rfl) rfl rfl ?_
    intro w14 hH15
    refine WL.pure (v := .bool false) 3 rfl (Nat.le_of_ble_eq_true rfl) rfl rfl (by kernel_rfl) ?_
    refine WL.nil ?_
    refine WQ.then ?_
    refine hK13 _ _ _ ?_
    refine WC.ret ?_
    refine WQ.thenRet ?_
    refine WQ.retC2 2 33 3 rfl rfl rfl (HP.loadRow hH15 0 rfl Tryd.underlying33 rfl sz33) ?_
    exact ⟨.inr ⟨ins_op hop, _, _, _, rfl⟩, HP.below hH15⟩
  | some k =>
    refine WL.call (f := 49) (args := #[.string (bS w0)]) 14 rfl (Nat.le_of_ble_eq_true rfl) rfl rfl (by kernel_rfl) ?_
    refine (rOp_any (bS w0) _).mono ?_
    rw [(op_some hop).1, (op_some hop).2]
    rintro e w2 ⟨rfl, hb⟩
    refine ⟨_, rfl, ?_⟩
    have hH16 : HP Tr w _ [.cel b2 #[vI 0, vI 0, vI 0] 33] := HP.call hH4 hb
    have hk36 := opI_lt hop
    have hod := opd_le k
    refine WL.pure (v := .tuple #[vI (k : Int), vI 0]) 10 rfl (Nat.le_of_ble_eq_true rfl) rfl rfl (by kernel_rfl) ?_
    refine WL.pure (v := vI (k : Int)) 15 rfl (Nat.le_of_ble_eq_true rfl) rfl rfl (by kernel_rfl) ?_
    refine WL.pure (v := vI 0) 16 rfl (Nat.le_of_ble_eq_true rfl) rfl rfl (by kernel_rfl) ?_
    refine WL.pure (v := vI (k : Int)) 4 rfl (Nat.le_of_ble_eq_true rfl) rfl rfl (by kernel_rfl) ?_
    refine WL.pure (v := vI 0) 5 rfl (Nat.le_of_ble_eq_true rfl) rfl rfl (by kernel_rfl) ?_
    refine WL.nil ?_
    refine WQ.then ?_
    refine hK5 _ _ _ ?_
    refine WC.sub (l' := [(0, .slice (some ⟨g, o, none⟩) ((w0 :: r).length) cp), (2, vP b2 0), (3, .bool false), (4, vI (k : Int)), (5, vI 0)]) ⟨rfl, rfl, rfl, rfl, rfl, trivial⟩ ?_
    refine WC.seq fun K17 hK17 => ?_
    refine WC.region ?_
    refine WL.pure (v := vI (k : Int)) 18 rfl (Nat.le_of_ble_eq_true rfl) rfl rfl (by kernel_rfl) ?_
    refine WL.call (f := 22) (args := #[vI (k : Int)]) 19 rfl (Nat.le_of_ble_eq_true rfl) rfl rfl (by kernel_rfl) ?_
    refine (rOperands_any (k : Int) _).mono ?_
    rw [opN_nat hk36]
    rintro e w2 ⟨rfl, hb⟩
    refine ⟨_, rfl, ?_⟩
    have hH18 : HP Tr w _ [.cel b2 #[vI 0, vI 0, vI 0] 33] := HP.call hH16 hb
    refine WL.pure (v := .tuple #[vI (opd k), vI (opE (k : Int))]) 17 rfl (Nat.le_of_ble_eq_true rfl) rfl rfl (by kernel_rfl) ?_
    refine WL.pure (v := vI (opd k)) 20 rfl (Nat.le_of_ble_eq_true rfl) rfl rfl (by kernel_rfl) ?_
    refine WL.pure (v := vI (opE (k : Int))) 21 rfl (Nat.le_of_ble_eq_true rfl) rfl rfl (by kernel_rfl) ?_
    refine WL.pure (v := vI (opd k)) 6 rfl (Nat.le_of_ble_eq_true rfl) rfl rfl (by kernel_rfl) ?_
    refine WL.pure (v := vI (opE (k : Int))) 7 rfl (Nat.le_of_ble_eq_true rfl) rfl rfl (by kernel_rfl) ?_
    refine WL.nil ?_
    refine WQ.then ?_
    refine hK17 _ _ _ ?_
    refine WC.sub (l' := [(0, .slice (some ⟨g, o, none⟩) ((w0 :: r).length) cp), (2, vP b2 0), (3, .bool false), (4, vI (k : Int)), (5, vI 0), (6, vI (opd k))]) ⟨rfl, rfl, rfl, rfl, rfl, rfl, trivial⟩ ?_
    refine WC.seq fun K19 hK19 => ?_
    refine WC.seq fun K20 hK20 => ?_
    refine WC.region ?_
    refine WL.pure (v := vI 0) 22 rfl (Nat.le_of_ble_eq_true rfl) rfl rfl (by kernel_rfl) ?_
    refine WL.pure (v := .bool false) 23 rfl (Nat.le_of_ble_eq_true rfl) rfl rfl (x_neq rfl rfl rfl (by decide)) ?_
    refine WL.pure (v := .bool false) 24 rfl (Nat.le_of_ble_eq_true rfl) rfl rfl (by kernel_rfl) ?_
    refine WL.pure (v := .slice (some ⟨g, o, none⟩) ((w0 :: r).length) cp) 25 rfl (Nat.le_of_ble_eq_true rfl) rfl rfl (by kernel_rfl) ?_
    refine WL.pure (v := vI (((w0 :: r).length : Nat) : Int)) 26 rfl (Nat.le_of_ble_eq_true rfl) rfl rfl (by kernel_rfl) ?_
    refine WL.pure (v := vI (opd k)) 27 rfl (Nat.le_of_ble_eq_true rfl) rfl rfl (by kernel_rfl) ?_
    refine WL.pure (v := vI ((opd k) + 1)) 28 rfl (Nat.le_of_ble_eq_true rfl) rfl rfl (x_add (Z := (opd k) + 1) rfl rfl rfl (by omega) (by omega) (by omega)) ?_
    by_cases hlen0 : (((w0 :: r).length : Nat) : Int) ≠ (opd k) + 1
    ·
      refine WL.pure (v := .bool true) 29 rfl (Nat.le_of_ble_eq_true rfl) rfl rfl (x_neq rfl rfl rfl (dT (hlen0))) ?_
      refine WL.pure (v := .bool true) 30 rfl (Nat.le_of_ble_eq_true rfl) rfl rfl (by kernel_rfl) ?_
      refine WL.nil ?_
      refine WQ.then ?_
      refine hK20 _ _ _ ?_
      refine WC.sub (l' := [(0, .slice (some ⟨g, o, none⟩) ((w0 :: r).length) cp), (2, vP b2 0), (3, .bool false), (4, vI (k : Int)), (5, vI 0), (6, vI (opd k)), (30, .bool true)]) ⟨rfl, rfl, rfl, rfl, rfl, rfl, rfl, trivial⟩ ?_
      refine WC.yes rfl ?_
      refine WC.seq fun K21 hK21 => ?_
      refine WC.region ?_
      refine WL.pure (v := .agg #[vI 0, vI 0, vI 0]) 31 rfl (Nat.le_of_ble_eq_true rfl) rfl rfl (by kernel_rfl) ?_
      refine WL.storeS (H2 := [.cel b2 #[vI 0, vI 0, vI 0] 33]) 0 hH18 rfl rfl rfl rfl rfl rfl sz33 rfl (Nat.le_of_ble_eq_true rfl) rfl rfl ?_
      intro w22 hH23
      refine WL.pure (v := .bool false) 3 rfl (Nat.le_of_ble_eq_true rfl) rfl rfl (by kernel_rfl) ?_
      refine WL.nil ?_
      refine WQ.then ?_
      refine hK21 _ _ _ ?_
      refine WC.ret ?_
      refine WQ.thenRet ?_
      refine WQ.retC2 2 33 3 rfl rfl rfl (HP.loadRow hH23 0 rfl Tryd.underlying33 rfl sz33) ?_
      exact ⟨.inr ⟨ins_len hop (by simp at hlen0; omega), _, _, _, rfl⟩, HP.below hH23⟩
    ·
      have hlen : (r.length : Int) = opd k := by simp at hlen0; omega
      refine WL.pure (v := .bool false) 29 rfl (Nat.le_of_ble_eq_true rfl) rfl rfl (x_neq rfl rfl rfl (dF (hlen0))) ?_
      refine WL.pure (v := .bool false) 30 rfl (Nat.le_of_ble_eq_true rfl) rfl rfl (by kernel_rfl) ?_
      refine WL.nil ?_
      refine WQ.then ?_
      refine hK20 _ _ _ ?_
      refine WC.sub (l' := [(0, .slice (some ⟨g, o, none⟩) ((w0 :: r).length) cp), (2, vP b2 0), (3, .bool false), (4, vI (k : Int)), (5, vI 0), (6, vI (opd k)), (30, .bool false)]) ⟨rfl, rfl, rfl, rfl, rfl, rfl, rfl, trivial⟩ ?_
      refine WC.no rfl ?_
      refine WC.skip ?_
      refine WQ.then ?_
      refine hK19 _ _ _ ?_
      refine WC.seq fun K24 hK24 => ?_
      refine WC.region ?_
      refine WL.pure (v := vI (k : Int)) 32 rfl (Nat.le_of_ble_eq_true rfl) rfl rfl (by kernel_rfl) ?_
      refine WL.pure (v := .agg #[vI (k : Int), vI 0, vI 0]) 33 rfl (Nat.le_of_ble_eq_true rfl) rfl rfl (by kernel_rfl) ?_
      refine WL.alloc (c := #[vI 0, vI 0, vI 0]) (T := 33) hH18 8 rfl (by decide) rfl rfl (fun b8 => vP b8 0) (by kernel_rfl) (fun b8 w25 hw25 => ?_)
      have hH26 : HP Tr w w25 [.cel b2 #[vI 0, vI 0, vI 0] 33, .cel b8 #[vI 0, vI 0, vI 0] 33] := hw25.2
      have nb8 := hw25.1
      clear hw25
      refine WL.storeS (H2 := [.cel b2 #[vI 0, vI 0, vI 0] 33, .cel b8 #[vI (k : Int), vI 0, vI 0] 33]) 1 hH26 rfl rfl rfl rfl rfl rfl sz33 rfl (Nat.le_of_ble_eq_true rfl) rfl rfl ?_
      intro w27 hH28
      refine WL.nil ?_
      refine WQ.then ?_
      refine hK24 _ _ _ ?_
      refine WC.seq fun K29 hK29 => ?_
      refine WC.region ?_
      refine WL.pure (v := .bool true) 9 rfl (Nat.le_of_ble_eq_true rfl) rfl rfl (by kernel_rfl) ?_
      refine WL.nil ?_
      refine WQ.then ?_
      refine hK29 _ _ _ ?_
      refine WC.seq fun K30 hK30 => ?_
      refine WC.seq fun K31 hK31 => ?_
      refine WC.region ?_
      refine WL.pure (v := vI (opd k)) 34 rfl (Nat.le_of_ble_eq_true rfl) rfl rfl (by kernel_rfl) ?_
      by_cases hgt0 : (0 : Int) < opd k
      ·
        refine WL.pure (v := .bool true) 35 rfl (Nat.le_of_ble_eq_true rfl) rfl rfl (x_gtr rfl rfl rfl (dT (hgt0))) ?_
        refine WL.nil ?_
        refine WQ.then ?_
        refine hK31 _ _ _ ?_
        refine WC.yes rfl ?_
        refine WC.region ?_
        refine WL.pure (v := .slice (some ⟨g, o, none⟩) ((w0 :: r).length) cp) 37 rfl (Nat.le_of_ble_eq_true rfl) rfl rfl (by kernel_rfl) ?_
        refine WL.pure (v := vP g (o + 1)) 38 rfl (Nat.le_of_ble_eq_true rfl) rfl rfl (x_idx (1) (o + 1) rfl rfl rfl Tryd.underlying60 sz9 (by omega) (by omega) (by omega)) ?_
        refine WL.pure (v := .string (bS (r.getD 0 []))) 39 rfl (Nat.le_of_ble_eq_true rfl) rfl rfl (x_load rfl rfl Tryd.underlying9 rfl ((HP.oldRange hH28 trivial (hrow 1 (by simp <;> omega))) 0 _ rfl)) ?_
        refine WL.call (f := 50) (args := #[.string (bS (r.getD 0 []))]) 40 rfl (Nat.le_of_ble_eq_true rfl) rfl rfl (by kernel_rfl) ?_
        refine (Number_any (r.getD 0 []) _ (hs _ (List.mem_cons_of_mem _ (getD_mem (by omega))))).mono ?_
        rintro e w2 ⟨⟨n0, hn0, rfl⟩ | ⟨hn0, n0, rfl⟩, hb⟩
        ·
          refine ⟨_, rfl, ?_⟩
          have hH32 : HP Tr w _ [.cel b2 #[vI 0, vI 0, vI 0] 33, .cel b8 #[vI (k : Int), vI 0, vI 0] 33] := HP.call hH28 hb
          refine WL.pure (v := .tuple #[vI n0, .bool true]) 36 rfl (Nat.le_of_ble_eq_true rfl) rfl rfl (by kernel_rfl) ?_
          refine WL.pure (v := vI n0) 41 rfl (Nat.le_of_ble_eq_true rfl) rfl rfl (by kernel_rfl) ?_
          refine WL.pure (v := .bool true) 42 rfl (Nat.le_of_ble_eq_true rfl) rfl rfl (by kernel_rfl) ?_
          refine WL.pure (v := vP b8 1) 43 rfl (Nat.le_of_ble_eq_true rfl) rfl rfl (by kernel_rfl) ?_
          refine WL.store (H2 := [.cel b2 #[vI 0, vI 0, vI 0] 33, .cel b8 #[vI (k : Int), vI n0, vI 0] 33]) 1 hH32 rfl rfl rfl rfl rfl rfl sz3 rfl (Nat.le_of_ble_eq_true rfl) rfl rfl ?_
          intro w33 hH34
          refine WL.pure (v := .bool true) 9 rfl (Nat.le_of_ble_eq_true rfl) rfl rfl (by kernel_rfl) ?_
          refine WL.nil ?_
          refine WQ.then ?_
          refine hK30 _ _ _ ?_
          refine WC.sub (l' := [(0, .slice (some ⟨g, o, none⟩) ((w0 :: r).length) cp), (2, vP b2 0), (3, .bool false), (4, vI (k : Int)), (5, vI 0), (6, vI (opd k)), (8, vP b8 0), (9, .bool true), (30, .bool false), (35, .bool true)]) ⟨rfl, rfl, rfl, rfl, rfl, rfl, rfl, rfl, rfl, rfl, trivial⟩ ?_
          refine WC.seq fun K35 hK35 => ?_
          refine WC.seq fun K36 hK36 => ?_
          refine WC.region ?_
          refine WL.pure (v := vI (opd k)) 44 rfl (Nat.le_of_ble_eq_true rfl) rfl rfl (by kernel_rfl) ?_
          by_cases hgt1 : (1 : Int) < opd k
          ·
            refine WL.pure (v := .bool true) 45 rfl (Nat.le_of_ble_eq_true rfl) rfl rfl (x_gtr rfl rfl rfl (dT (hgt1))) ?_
            refine WL.pure (v := .bool true) 46 rfl (Nat.le_of_ble_eq_true rfl) rfl rfl (by kernel_rfl) ?_
            refine WL.pure (v := .bool true) 47 rfl (Nat.le_of_ble_eq_true rfl) rfl rfl (by kernel_rfl) ?_
            refine WL.pure (v := .bool true) 48 rfl (Nat.le_of_ble_eq_true rfl) rfl rfl (by kernel_rfl) ?_
            refine WL.nil ?_
            refine WQ.then ?_
            refine hK36 _ _ _ ?_
            refine WC.yes rfl ?_
            refine WC.region ?_
            refine WL.pure (v := .slice (some ⟨g, o, none⟩) ((w0 :: r).length) cp) 50 rfl (Nat.le_of_ble_eq_true rfl) rfl rfl (by kernel_rfl) ?_
            refine WL.pure (v := vP g (o + 2)) 51 rfl (Nat.le_of_ble_eq_true rfl) rfl rfl (x_idx (2) (o + 2) rfl rfl rfl Tryd.underlying60 sz9 (by omega) (by omega) (by omega)) ?_
            refine WL.pure (v := .string (bS (r.getD 1 []))) 52 rfl (Nat.le_of_ble_eq_true rfl) rfl rfl (x_load rfl rfl Tryd.underlying9 rfl ((HP.oldRange hH34 trivial (hrow 2 (by simp <;> omega))) 0 _ rfl)) ?_
            refine WL.call (f := 50) (args := #[.string (bS (r.getD 1 []))]) 53 rfl (Nat.le_of_ble_eq_true rfl) rfl rfl (by kernel_rfl) ?_
            refine (Number_any (r.getD 1 []) _ (hs _ (List.mem_cons_of_mem _ (getD_mem (by omega))))).mono ?_
            rintro e w2 ⟨⟨n1, hn1, rfl⟩ | ⟨hn1, n1, rfl⟩, hb⟩
            ·
              refine ⟨_, rfl, ?_⟩
              have hH37 : HP Tr w _ [.cel b2 #[vI 0, vI 0, vI 0] 33, .cel b8 #[vI (k : Int), vI n0, vI 0] 33] := HP.call hH34 hb
              refine WL.pure (v := .tuple #[vI n1, .bool true]) 49 rfl (Nat.le_of_ble_eq_true rfl) rfl rfl (by kernel_rfl) ?_
              refine WL.pure (v := vI n1) 54 rfl (Nat.le_of_ble_eq_true rfl) rfl rfl (by kernel_rfl) ?_
              refine WL.pure (v := .bool true) 55 rfl (Nat.le_of_ble_eq_true rfl) rfl rfl (by kernel_rfl) ?_
              refine WL.pure (v := vP b8 2) 56 rfl (Nat.le_of_ble_eq_true rfl) rfl rfl (by kernel_rfl) ?_
              refine WL.store (H2 := [.cel b2 #[vI 0, vI 0, vI 0] 33, .cel b8 #[vI (k : Int), vI n0, vI n1] 33]) 1 hH37 rfl rfl rfl rfl rfl rfl sz3 rfl (Nat.le_of_ble_eq_true rfl) rfl rfl ?_
              intro w38 hH39
              refine WL.pure (v := .bool true) 9 rfl (Nat.le_of_ble_eq_true rfl) rfl rfl (by kernel_rfl) ?_
              refine WL.nil ?_
              refine WQ.then ?_
              refine hK35 _ _ _ ?_
              refine WC.sub (l' := [(0, .slice (some ⟨g, o, none⟩) ((w0 :: r).length) cp), (2, vP b2 0), (3, .bool false), (4, vI (k : Int)), (5, vI 0), (6, vI (opd k)), (8, vP b8 0), (9, .bool true), (30, .bool false), (35, .bool true), (48, .bool true)]) ⟨rfl, rfl, rfl, rfl, rfl, rfl, rfl, rfl, rfl, rfl, rfl, trivial⟩ ?_
              refine WC.seq fun K40 hK40 => ?_
              refine WC.region ?_
              refine WL.pure (v := .agg #[vI (k : Int), vI n0, vI n1]) 57 rfl (Nat.le_of_ble_eq_true rfl) rfl rfl (x_loadS (cs := [vI (k : Int), vI n0, vI n1]) rfl rfl Tryd.underlying33 rfl sz33 (HP.range hH39 1 rfl rfl)) ?_
              refine WL.pure (v := .bool true) 58 rfl (Nat.le_of_ble_eq_true rfl) rfl rfl (by kernel_rfl) ?_
              refine WL.storeS (H2 := [.cel b2 #[vI (k : Int), vI n0, vI n1] 33, .cel b8 #[vI (k : Int), vI n0, vI n1] 33]) 0 hH39 rfl rfl rfl rfl rfl rfl sz33 rfl (Nat.le_of_ble_eq_true rfl) rfl rfl ?_
              intro w41 hH42
              refine WL.pure (v := .bool true) 3 rfl (Nat.le_of_ble_eq_true rfl) rfl rfl (by kernel_rfl) ?_
              refine WL.nil ?_
              refine WQ.then ?_
              refine hK40 _ _ _ ?_
              refine WC.ret ?_
              refine WQ.retC2 2 33 3 rfl rfl rfl (HP.loadRow hH42 0 rfl Tryd.underlying33 rfl sz33) ?_
              exact ⟨.inl ⟨((k : Int), n0, n1), ins_ok hop hlen ⟨fun _ => hn0, fun h => by omega⟩ ⟨fun _ => hn1, fun h => by omega⟩, rfl⟩, HP.below hH42⟩
            ·
              refine ⟨_, rfl, ?_⟩
              have hH43 : HP Tr w _ [.cel b2 #[vI 0, vI 0, vI 0] 33, .cel b8 #[vI (k : Int), vI n0, vI 0] 33] := HP.call hH34 hb
              refine WL.pure (v := .tuple #[vI n1, .bool false]) 49 rfl (Nat.le_of_ble_eq_true rfl) rfl rfl (by kernel_rfl) ?_
              refine WL.pure (v := vI n1) 54 rfl (Nat.le_of_ble_eq_true rfl) rfl rfl (by kernel_rfl) ?_
              refine WL.pure (v := .bool false) 55 rfl (Nat.le_of_ble_eq_true rfl) rfl rfl (by kernel_rfl) ?_
              refine WL.pure (v := vP b8 2) 56 rfl (Nat.le_of_ble_eq_true rfl) rfl rfl (by kernel_rfl) ?_
              refine WL.store (H2 := [.cel b2 #[vI 0, vI 0, vI 0] 33, .cel b8 #[vI (k : Int), vI n0, vI n1] 33]) 1 hH43 rfl rfl rfl rfl rfl rfl sz3 rfl (Nat.le_of_ble_eq_true rfl) rfl rfl ?_
              intro w44 hH45
              refine WL.pure (v := .bool false) 9 rfl (Nat.le_of_ble_eq_true rfl) rfl rfl (by kernel_rfl) ?_
              refine WL.nil ?_
              refine WQ.then ?_
              refine hK35 _ _ _ ?_
              refine WC.sub (l' := [(0, .slice (some ⟨g, o, none⟩) ((w0 :: r).length) cp), (2, vP b2 0), (3, .bool false), (4, vI (k : Int)), (5, vI 0), (6, vI (opd k)), (8, vP b8 0), (9, .bool false), (30, .bool false), (35, .bool true), (48, .bool true)]) ⟨rfl, rfl, rfl, rfl, rfl, rfl, rfl, rfl, rfl, rfl, rfl, trivial⟩ ?_
              refine WC.seq fun K46 hK46 => ?_
              refine WC.region ?_
              refine WL.pure (v := .agg #[vI (k : Int), vI n0, vI n1]) 57 rfl (Nat.le_of_ble_eq_true rfl) rfl rfl (x_loadS (cs := [vI (k : Int), vI n0, vI n1]) rfl rfl Tryd.underlying33 rfl sz33 (HP.range hH45 1 rfl rfl)) ?_
              refine WL.pure (v := .bool false) 58 rfl (Nat.le_of_ble_eq_true rfl) rfl rfl (by kernel_rfl) ?_
              refine WL.storeS (H2 := [.cel b2 #[vI (k : Int), vI n0, vI n1] 33, .cel b8 #[vI (k : Int), vI n0, vI n1] 33]) 0 hH45 rfl rfl rfl rfl rfl rfl sz33 rfl (Nat.le_of_ble_eq_true rfl) rfl rfl ?_
              intro w47 hH48
              refine WL.pure (v := .bool false) 3 rfl (Nat.le_of_ble_eq_true rfl) rfl rfl (by kernel_rfl) ?_
              refine WL.nil ?_
              refine WQ.then ?_
              refine hK46 _ _ _ ?_
              refine WC.ret ?_
              refine WQ.retC2 2 33 3 rfl rfl rfl (HP.loadRow hH48 0 rfl Tryd.underlying33 rfl sz33) ?_
              exact ⟨.inr ⟨ins_num (j := 1) hop (by omega) (by simpa using hn1), _, _, _, rfl⟩, HP.below hH48⟩
          ·
            refine WL.pure (v := .bool false) 45 rfl (Nat.le_of_ble_eq_true rfl) rfl rfl (x_gtr rfl rfl rfl (dF (hgt1))) ?_
            refine WL.pure (v := .bool false) 46 rfl (Nat.le_of_ble_eq_true rfl) rfl rfl (by kernel_rfl) ?_
            refine WL.pass 47 rfl (Nat.le_of_ble_eq_true rfl) rfl ?_
            refine WL.pure (v := .bool false) 48 rfl (Nat.le_of_ble_eq_true rfl) rfl rfl (by kernel_rfl) ?_
            refine WL.nil ?_
            refine WQ.then ?_
            refine hK36 _ _ _ ?_
            refine WC.no rfl ?_
            refine WC.skip ?_
            refine WQ.then ?_
            refine hK35 _ _ _ ?_
            refine WC.seq fun K49 hK49 => ?_
            refine WC.region ?_
            refine WL.pure (v := .agg #[vI (k : Int), vI n0, vI 0]) 57 rfl (Nat.le_of_ble_eq_true rfl) rfl rfl (x_loadS (cs := [vI (k : Int), vI n0, vI 0]) rfl rfl Tryd.underlying33 rfl sz33 (HP.range hH34 1 rfl rfl)) ?_
            refine WL.pure (v := .bool true) 58 rfl (Nat.le_of_ble_eq_true rfl) rfl rfl (by kernel_rfl) ?_
            refine WL.storeS (H2 := [.cel b2 #[vI (k : Int), vI n0, vI 0] 33, .cel b8 #[vI (k : Int), vI n0, vI 0] 33]) 0 hH34 rfl rfl rfl rfl rfl rfl sz33 rfl (Nat.le_of_ble_eq_true rfl) rfl rfl ?_
            intro w50 hH51
            refine WL.pure (v := .bool true) 3 rfl (Nat.le_of_ble_eq_true rfl) rfl rfl (by kernel_rfl) ?_
            refine WL.nil ?_
            refine WQ.then ?_
            refine hK49 _ _ _ ?_
            refine WC.sub (l' := [(0, .slice (some ⟨g, o, none⟩) ((w0 :: r).length) cp), (2, vP b2 0), (3, .bool true), (4, vI (k : Int)), (5, vI 0), (6, vI (opd k)), (8, vP b8 0), (9, .bool true), (30, .bool false), (35, .bool true), (48, .bool false)]) ⟨rfl, rfl, rfl, rfl, rfl, rfl, rfl, rfl, rfl, rfl, rfl, trivial⟩ ?_
            refine WC.ret ?_
            refine WQ.retC2 2 33 3 rfl rfl rfl (HP.loadRow hH51 0 rfl Tryd.underlying33 rfl sz33) ?_
            exact ⟨.inl ⟨((k : Int), n0, 0), ins_ok hop hlen ⟨fun _ => hn0, fun h => by omega⟩ ⟨fun h => by omega, fun _ => rfl⟩, rfl⟩, HP.below hH51⟩
        ·
          refine ⟨_, rfl, ?_⟩
          have hH52 : HP Tr w _ [.cel b2 #[vI 0, vI 0, vI 0] 33, .cel b8 #[vI (k : Int), vI 0, vI 0] 33] := HP.call hH28 hb
          refine WL.pure (v := .tuple #[vI n0, .bool false]) 36 rfl (Nat.le_of_ble_eq_true rfl) rfl rfl (by kernel_rfl) ?_
          refine WL.pure (v := vI n0) 41 rfl (Nat.le_of_ble_eq_true rfl) rfl rfl (by kernel_rfl) ?_
          refine WL.pure (v := .bool false) 42 rfl (Nat.le_of_ble_eq_true rfl) rfl rfl (by kernel_rfl) ?_
          refine WL.pure (v := vP b8 1) 43 rfl (Nat.le_of_ble_eq_true rfl) rfl rfl (by kernel_rfl) ?_
          refine WL.store (H2 := [.cel b2 #[vI 0, vI 0, vI 0] 33, .cel b8 #[vI (k : Int), vI n0, vI 0] 33]) 1 hH52 rfl rfl rfl rfl rfl rfl sz3 rfl (Nat.le_of_ble_eq_true rfl) rfl rfl ?_
          intro w53 hH54
          refine WL.pure (v := .bool false) 9 rfl (Nat.le_of_ble_eq_true rfl) rfl rfl (by kernel_rfl) ?_
          refine WL.nil ?_
          refine WQ.then ?_
          refine hK30 _ _ _ ?_
          refine WC.sub (l' := [(0, .slice (some ⟨g, o, none⟩) ((w0 :: r).length) cp), (2, vP b2 0), (3, .bool false), (4, vI (k : Int)), (5, vI 0), (6, vI (opd k)), (8, vP b8 0), (9, .bool false), (30, .bool false), (35, .bool true)]) ⟨rfl, rfl, rfl, rfl, rfl, rfl, rfl, rfl, rfl, rfl, trivial⟩ ?_
          refine WC.seq fun K55 hK55 => ?_
          refine WC.seq fun K56 hK56 => ?_
          refine WC.region ?_
          refine WL.pure (v := vI (opd k)) 44 rfl (Nat.le_of_ble_eq_true rfl) rfl rfl (by kernel_rfl) ?_
          by_cases hgt1 : (1 : Int) < opd k
          ·
            refine WL.pure (v := .bool true) 45 rfl (Nat.le_of_ble_eq_true rfl) rfl rfl (x_gtr rfl rfl rfl (dT (hgt1))) ?_
            refine WL.pure (v := .bool true) 46 rfl (Nat.le_of_ble_eq_true rfl) rfl rfl (by kernel_rfl) ?_
            refine WL.pure (v := .bool false) 47 rfl (Nat.le_of_ble_eq_true rfl) rfl rfl (by kernel_rfl) ?_
            refine WL.pure (v := .bool false) 48 rfl (Nat.le_of_ble_eq_true rfl) rfl rfl (by kernel_rfl) ?_
            refine WL.nil ?_
            refine WQ.then ?_
            refine hK56 _ _ _ ?_
            refine WC.no rfl ?_
            refine WC.skip ?_
            refine WQ.then ?_
            refine hK55 _ _ _ ?_
            refine WC.seq fun K57 hK57 => ?_
            refine WC.region ?_
            refine WL.pure (v := .agg #[vI (k : Int), vI n0, vI 0]) 57 rfl (Nat.le_of_ble_eq_true rfl) rfl rfl (x_loadS (cs := [vI (k : Int), vI n0, vI 0]) rfl rfl Tryd.underlying33 rfl sz33 (HP.range hH54 1 rfl rfl)) ?_
            refine WL.pure (v := .bool false) 58 rfl (Nat.le_of_ble_eq_true rfl) rfl rfl (by kernel_rfl) ?_
            refine WL.storeS (H2 := [.cel b2 #[vI (k : Int), vI n0, vI 0] 33, .cel b8 #[vI (k : Int), vI n0, vI 0] 33]) 0 hH54 rfl rfl rfl rfl rfl rfl sz33 rfl (Nat.le_of_ble_eq_true rfl) rfl rfl ?_
            intro w58 hH59
            refine WL.pure (v := .bool false) 3 rfl (Nat.le_of_ble_eq_true rfl) rfl rfl (by kernel_rfl) ?_
            refine WL.nil ?_
            refine WQ.then ?_
            refine hK57 _ _ _ ?_
            refine WC.sub (l' := [(0, .slice (some ⟨g, o, none⟩) ((w0 :: r).length) cp), (2, vP b2 0), (3, .bool false), (4, vI (k : Int)), (5, vI 0), (6, vI (opd k)), (8, vP b8 0), (9, .bool false), (30, .bool false), (35, .bool true), (48, .bool false)]) ⟨rfl, rfl, rfl, rfl, rfl, rfl, rfl, rfl, rfl, rfl, rfl, trivial⟩ ?_
            refine WC.ret ?_
            refine WQ.retC2 2 33 3 rfl rfl rfl (HP.loadRow hH59 0 rfl Tryd.underlying33 rfl sz33) ?_
            exact ⟨.inr ⟨ins_num (j := 0) hop (by omega) (by simpa using hn0), _, _, _, rfl⟩, HP.below hH59⟩
          ·
            refine WL.pure (v := .bool false) 45 rfl (Nat.le_of_ble_eq_true rfl) rfl rfl (x_gtr rfl rfl rfl (dF (hgt1))) ?_
            refine WL.pure (v := .bool false) 46 rfl (Nat.le_of_ble_eq_true rfl) rfl rfl (by kernel_rfl) ?_
            refine WL.pass 47 rfl (Nat.le_of_ble_eq_true rfl) rfl ?_
            refine WL.pure (v := .bool false) 48 rfl (Nat.le_of_ble_eq_true rfl) rfl rfl (by kernel_rfl) ?_
            refine WL.nil ?_
            refine WQ.then ?_
            refine hK56 _ _ _ ?_
            refine WC.no rfl ?_
            refine WC.skip ?_
            refine WQ.then ?_
            refine hK55 _ _ _ ?_
            refine WC.seq fun K60 hK60 => ?_
            refine WC.region ?_
            refine WL.pure (v := .agg #[vI (k : Int), vI n0, vI 0]) 57 rfl (Nat.le_of_ble_eq_true rfl) rfl rfl (x_loadS (cs := [vI (k : Int), vI n0, vI 0]) rfl rfl Tryd.underlying33 rfl sz33 (HP.range hH54 1 rfl rfl)) ?_
            refine WL.pure (v := .bool false) 58 rfl (Nat.le_of_ble_eq_true rfl) rfl rfl (by kernel_rfl) ?_
            refine WL.storeS (H2 := [.cel b2 #[vI (k : Int), vI n0, vI 0] 33, .cel b8 #[vI (k : Int), vI n0, vI 0] 33]) 0 hH54 rfl rfl rfl rfl rfl rfl sz33 rfl (Nat.le_of_ble_eq_true rfl) rfl rfl ?_
            intro w61 hH62
            refine WL.pure (v := .bool false) 3 rfl (Nat.le_of_ble_eq_true rfl) rfl rfl (by kernel_rfl) ?_
            refine WL.nil ?_
            refine WQ.then ?_
            refine hK60 _ _ _ ?_
            refine WC.sub (l' := [(0, .slice (some ⟨g, o, none⟩) ((w0 :: r).length) cp), (2, vP b2 0), (3, .bool false), (4, vI (k : Int)), (5, vI 0), (6, vI (opd k)), (8, vP b8 0), (9, .bool false), (30, .bool false), (35, .bool true), (48, .bool false)]) ⟨rfl, rfl, rfl, rfl, rfl, rfl, rfl, rfl, rfl, rfl, rfl, trivial⟩ ?_
            refine WC.ret ?_
            refine WQ.retC2 2 33 3 rfl rfl rfl (HP.loadRow hH62 0 rfl Tryd.underlying33 rfl sz33) ?_
            exact ⟨.inr ⟨ins_num (j := 0) hop (by omega) (by simpa using hn0), _, _, _, rfl⟩, HP.below hH62⟩
      ·
        refine WL.pure (v := .bool false) 35 rfl (Nat.le_of_ble_eq_true rfl) rfl rfl (x_gtr rfl rfl rfl (dF (hgt0))) ?_
        refine WL.nil ?_
        refine WQ.then ?_
        refine hK31 _ _ _ ?_
        refine WC.no rfl ?_
        refine WC.skip ?_
        refine WQ.then ?_
        refine hK30 _ _ _ ?_
        refine WC.seq fun K63 hK63 => ?_
        refine WC.seq fun K64 hK64 => ?_
        refine WC.region ?_
        refine WL.pure (v := vI (opd k)) 44 rfl (Nat.le_of_ble_eq_true rfl) rfl rfl (by kernel_rfl) ?_
        by_cases hgt1 : (1 : Int) < opd k
        ·
          refine WL.pure (v := .bool true) 45 rfl (Nat.le_of_ble_eq_true rfl) rfl rfl (x_gtr rfl rfl rfl (dT (hgt1))) ?_
          refine WL.pure (v := .bool true) 46 rfl (Nat.le_of_ble_eq_true rfl) rfl rfl (by kernel_rfl) ?_
          refine WL.pure (v := .bool true) 47 rfl (Nat.le_of_ble_eq_true rfl) rfl rfl (by kernel_rfl) ?_
          refine WL.pure (v := .bool true) 48 rfl (Nat.le_of_ble_eq_true rfl) rfl rfl (by kernel_rfl) ?_
          refine WL.nil ?_
          refine WQ.then ?_
          refine hK64 _ _ _ ?_
          refine WC.sub (l' := [(0, .slice (some ⟨g, o, none⟩) ((w0 :: r).length) cp), (2, vP b2 0), (3, .bool false), (4, vI (k : Int)), (5, vI 0), (6, vI (opd k)), (8, vP b8 0), (9, .bool true), (30, .bool false), (35, .bool false), (48, .bool true)]) ⟨rfl, rfl, rfl, rfl, rfl, rfl, rfl, rfl, rfl, rfl, rfl, trivial⟩ ?_
          refine WC.yes rfl ?_
          exfalso; omega
        ·
          refine WL.pure (v := .bool false) 45 rfl (Nat.le_of_ble_eq_true rfl) rfl rfl (x_gtr rfl rfl rfl (dF (hgt1))) ?_
          refine WL.pure (v := .bool false) 46 rfl (Nat.le_of_ble_eq_true rfl) rfl rfl (by kernel_rfl) ?_
          refine WL.pass 47 rfl (Nat.le_of_ble_eq_true rfl) rfl ?_
          refine WL.pure (v := .bool false) 48 rfl (Nat.le_of_ble_eq_true rfl) rfl rfl (by kernel_rfl) ?_
          refine WL.nil ?_
          refine WQ.then ?_
          refine hK64 _ _ _ ?_
          refine WC.sub (l' := [(0, .slice (some ⟨g, o, none⟩) ((w0 :: r).length) cp), (2, vP b2 0), (3, .bool false), (4, vI (k : Int)), (5, vI 0), (6, vI (opd k)), (8, vP b8 0), (9, .bool true), (30, .bool false), (35, .bool false), (48, .bool false)]) ⟨rfl, rfl, rfl, rfl, rfl, rfl, rfl, rfl, rfl, rfl, rfl, trivial⟩ ?_
          refine WC.no rfl ?_
          refine WC.skip ?_
          refine WQ.then ?_
          refine hK63 _ _ _ ?_
          refine WC.seq fun K65 hK65 => ?_
          refine WC.region ?_
          refine WL.pure (v := .agg #[vI (k : Int), vI 0, vI 0]) 57 rfl (Nat.le_of_ble_eq_true rfl) rfl rfl (x_loadS (cs := [vI (k : Int), vI 0, vI 0]) rfl rfl Tryd.underlying33 rfl sz33 (HP.range hH28 1 rfl rfl)) ?_
          refine WL.pure (v := .bool true) 58 rfl (Nat.le_of_ble_eq_true rfl) rfl rfl (by kernel_rfl) ?_
          refine WL.storeS (H2 := [.cel b2 #[vI (k : Int), vI 0, vI 0] 33, .cel b8 #[vI (k : Int), vI 0, vI 0] 33]) 0 hH28 rfl rfl rfl rfl rfl rfl sz33 rfl (Nat.le_of_ble_eq_true rfl) rfl rfl ?_
          intro w66 hH67
          refine WL.pure (v := .bool true) 3 rfl (Nat.le_of_ble_eq_true rfl) rfl rfl (by kernel_rfl) ?_
          refine WL.nil ?_
          refine WQ.then ?_
          refine hK65 _ _ _ ?_
          refine WC.ret ?_
          refine WQ.retC2 2 33 3 rfl rfl rfl (HP.loadRow hH67 0 rfl Tryd.underlying33 rfl sz33) ?_
          exact ⟨.inl ⟨((k : Int), 0, 0), ins_ok hop hlen ⟨fun h => by omega, fun _ => rfl⟩ ⟨fun h => by omega, fun _ => rfl⟩, rfl⟩, HP.below hH67⟩
end Cw
end Go.Proofs.YteeljnlepbnhkaaDoor
