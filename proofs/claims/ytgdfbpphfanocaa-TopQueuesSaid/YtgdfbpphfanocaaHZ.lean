/- fedB. -/
import Derived.Test.YtgdfbpphfanocaaHY
set_option linter.unusedVariables false
set_option linter.unusedSimpArgs false
namespace Go.Proofs.Ytgdfbpphfanocaa
open Go.RowKit Fw
namespace Qp
open Lc (wd isWord_wd)
open Lb (row infoI row_len row_cases row_src row_cap row_below own_row ad_add slp x_sliceLP PB psE psX ps_0 ppE ppV ppX pp_ok ppA del NewList_any Push_any Pop_any Items_any)
open Qg (LG Add_room Add_full Last_any Lost_any NewLog_any Ints_src lo_open)
theorem take_s {T : List Int} {i : Nat} (h : i < T.length) : T.take (i + 1) = T.take i ++ [T.getD i 0] := by
  rw [List.take_add_one]; simp [List.getD_eq_getElem?_getD, h]
theorem win_lt {T : List Int} {i k : Nat} (h : i < k) (hi : i < T.length) : (T.take (i + 1)).drop (i + 1 - k) = (T.take i).drop (i - k) ++ [T.getD i 0] := by
  rw [show i + 1 - k = 0 by omega, show i - k = 0 by omega, List.drop_zero, List.drop_zero, take_s hi]
theorem win_ge {T : List Int} {i k : Nat} (h : k ≤ i) (h1 : 1 ≤ k) (hi : i < T.length) : (T.take (i + 1)).drop (i + 1 - k) = ((T.take i).drop (i - k)).drop 1 ++ [T.getD i 0] := by
  rw [List.drop_drop, show i - k + 1 = i + 1 - k by omega, take_s hi, List.drop_append_of_le_length (by simp; omega)]
theorem win_len {T : List Int} {i k : Nat} (hi : i ≤ T.length) : ((T.take i).drop (i - k)).length = min i k := by simp; omega
theorem win_end {T : List Int} {i k : Nat} (hi : i = T.length) : (T.take i).drop (i - k) = T.drop (T.length - k) := by subst hi; simp
theorem del0 (xs : List Int) : del xs 0 = xs.drop 1 := by unfold del; simp
theorem sz3 : (Try.prog.info? 3).map (·.size) = some 1 := by kernel_rfl
set_option maxRecDepth 20000 in
set_option maxHeartbeats 4000000 in
theorem fedB_any (pt : Option Addr) (ct : Nat) (T : List Int) (w : World) (hh : Ent.holds w (row pt T.length ct T)) (hw : ∀ x ∈ T, wd x = true) (hn : T.length ≤ 40) :
    Calls Try.prog 48 #[.slice pt T.length ct] w fun e w' => e = .returned (.bool true) ∧ Below w.heap.size w w' := by
  refine calls_of Try.func48 rfl (m := 82) rfl [(0, .slice pt T.length ct)] (Fr_enter [.slice pt T.length ct] 82 (Nat.le_of_ble_eq_true rfl)) ?_
  have hH1 : HP Tr w w [] := HP.refl w
  refine WC.seq fun K2 hK2 => ?_
  refine WC.region ?_
  refine WL.pure (v := .bool false) 2 rfl (Nat.le_of_ble_eq_true rfl) rfl rfl (by kernel_rfl) ?_
  refine WL.nil ?_
  refine WQ.then ?_
  refine hK2 _ _ _ ?_
  refine WC.seq fun K3 hK3 => ?_
  refine WC.region ?_
  refine WL.call (f := 24) (args := #[vI 32]) 12 rfl (Nat.le_of_ble_eq_true rfl) rfl rfl (by kernel_rfl) ?_
  refine (NewList_any 32 _).mono ?_
  rintro e w1 (⟨hrm, -⟩ | ⟨-, l, rfl, hb⟩)
  · exact absurd hrm (by decide)
  refine ⟨_, rfl, ?_⟩
  have hH4 : HP Tr w _ [.cel l #[vI 32, .slice none ([] : List Int).length 0] 91, .own (.slice none ([] : List Int).length 0) ([] : List Int).length (iL ([] : List Int)) 3 1] := HP.trans hH1 hb
  refine WL.pure (v := .tuple #[vP l 0, vI 0]) 11 rfl (Nat.le_of_ble_eq_true rfl) rfl rfl (by kernel_rfl) ?_
  refine WL.pure (v := vP l 0) 13 rfl (Nat.le_of_ble_eq_true rfl) rfl rfl (by kernel_rfl) ?_
  refine WL.pure (v := vI 0) 14 rfl (Nat.le_of_ble_eq_true rfl) rfl rfl (by kernel_rfl) ?_
  refine WL.pure (v := vP l 0) 3 rfl (Nat.le_of_ble_eq_true rfl) rfl rfl (by kernel_rfl) ?_
  refine WL.pure (v := vI 0) 4 rfl (Nat.le_of_ble_eq_true rfl) rfl rfl (by kernel_rfl) ?_
  refine WL.nil ?_
  refine WQ.then ?_
  refine hK3 _ _ _ ?_
  refine WC.seq fun K5 hK5 => ?_
  refine WC.region ?_
  refine WL.call (f := 82) (args := #[vI 8]) 16 rfl (Nat.le_of_ble_eq_true rfl) rfl rfl (by kernel_rfl) ?_
  refine (NewLog_any _).mono ?_
  rintro e w1 ⟨g, rfl, hb⟩
  refine ⟨_, rfl, ?_⟩
  have hH6 : HP Tr w _ [.cel l #[vI 32, .slice none ([] : List Int).length 0] 91, .own (.slice none ([] : List Int).length 0) ([] : List Int).length (iL ([] : List Int)) 3 1, .cel g #[.slice none ([] : List Int).length 0, vI 8, vI 0] 134, .own (.slice none ([] : List Int).length 0) ([] : List Int).length (iL ([] : List Int)) 3 1] := HP.trans hH4 hb
  refine WL.pure (v := .tuple #[vP g 0, vI 0]) 15 rfl (Nat.le_of_ble_eq_true rfl) rfl rfl (by kernel_rfl) ?_
  refine WL.pure (v := vP g 0) 17 rfl (Nat.le_of_ble_eq_true rfl) rfl rfl (by kernel_rfl) ?_
  refine WL.pure (v := vI 0) 18 rfl (Nat.le_of_ble_eq_true rfl) rfl rfl (by kernel_rfl) ?_
  refine WL.pure (v := vP g 0) 5 rfl (Nat.le_of_ble_eq_true rfl) rfl rfl (by kernel_rfl) ?_
  refine WL.pure (v := vI 0) 6 rfl (Nat.le_of_ble_eq_true rfl) rfl rfl (by kernel_rfl) ?_
  refine WL.nil ?_
  refine WQ.then ?_
  refine hK5 _ _ _ ?_
  refine WC.sub (l' := [(0, .slice pt T.length ct), (2, .bool false), (3, vP l 0), (4, vI 0), (5, vP g 0), (6, vI 0)]) ⟨rfl, rfl, rfl, rfl, rfl, rfl, trivial⟩ ?_
  refine WC.seq fun K7 hK7 => ?_
  refine WC.seq fun K8 hK8 => ?_
  refine WC.region ?_
  refine WL.pure (v := vI 0) 19 rfl (Nat.le_of_ble_eq_true rfl) rfl rfl (by kernel_rfl) ?_
  refine WL.pure (v := .bool false) 20 rfl (Nat.le_of_ble_eq_true rfl) rfl rfl (x_neq rfl rfl rfl (by decide)) ?_
  refine WL.pure (v := .bool false) 21 rfl (Nat.le_of_ble_eq_true rfl) rfl rfl (by kernel_rfl) ?_
  refine WL.pure (v := vI 0) 22 rfl (Nat.le_of_ble_eq_true rfl) rfl rfl (by kernel_rfl) ?_
  refine WL.pure (v := .bool false) 23 rfl (Nat.le_of_ble_eq_true rfl) rfl rfl (x_neq rfl rfl rfl (by decide)) ?_
  refine WL.pure (v := .bool false) 24 rfl (Nat.le_of_ble_eq_true rfl) rfl rfl (by kernel_rfl) ?_
  refine WL.nil ?_
  refine WQ.then ?_
  refine hK8 _ _ _ ?_
  refine WC.no rfl ?_
  refine WC.skip ?_
  refine WQ.then ?_
  refine hK7 _ _ _ ?_
  refine WC.seq fun K9 hK9 => ?_
  refine WC.seq fun K10 hK10 => ?_
  refine WC.region ?_
  refine WL.pure (v := vI 0) 7 rfl (Nat.le_of_ble_eq_true rfl) rfl rfl (by kernel_rfl) ?_
  refine WL.nil ?_
  refine WQ.then ?_
  refine hK10 _ _ _ ?_
  refine WC.block ?_
  refine WC.loop (fun kk0 ll0 ww0 => ∃ (i : Nat) (xs : List Int) (ys : List Int) (lo : Int) (pv : Option Addr) (cp : Nat) (qv : Option Addr) (cq : Nat), ll0 = [(0, .slice pt T.length ct), (3, vP l 0), (5, vP g 0), (7, vI (i : Int))] ∧ kk0 = T.length - i ∧ (i ≤ T.length) ∧ (xs = (T.take i).drop (i - 32)) ∧ (ys = (T.take i).drop (i - 8)) ∧ (lo = ((i - 8 : Nat) : Int)) ∧ HP Tr w ww0 [.cel l #[vI 32, .slice pv xs.length cp] 91, .own (.slice pv xs.length cp) xs.length (iL xs) 3 1, .cel g #[.slice qv ys.length cq, vI 8, vI lo] 134, .own (.slice qv ys.length cq) ys.length (iL ys) 3 1]) (T.length) [(0, .slice pt T.length ct), (3, vP l 0), (5, vP g 0), (7, vI 0)] ⟨rfl, rfl, rfl, rfl, trivial⟩ ⟨0, [], [], 0, none, 0, none, 0, rfl, rfl, Nat.zero_le _, by simp, by simp, rfl, hH6⟩ ?_
  rintro kk l w12 ⟨i, xs, ys, lo, pv, cp, qv, cq, rfl, hkk, hi, hx, hy, hlo, hH13⟩ K11 hK11
  refine WC.seq fun K14 hK14 => ?_
  refine WC.seq fun K15 hK15 => ?_
  refine WC.region ?_
  refine WL.pure (v := vI (i : Int)) 25 rfl (Nat.le_of_ble_eq_true rfl) rfl rfl (by kernel_rfl) ?_
  refine WL.pure (v := .slice pt T.length ct) 26 rfl (Nat.le_of_ble_eq_true rfl) rfl rfl (by kernel_rfl) ?_
  refine WL.pure (v := vI (T.length : Int)) 27 rfl (Nat.le_of_ble_eq_true rfl) rfl rfl (by kernel_rfl) ?_
  by_cases hlt : (i : Int) < (T.length : Int)
  ·
    refine WL.pure (v := .bool true) 28 rfl (Nat.le_of_ble_eq_true rfl) rfl rfl (x_lss rfl rfl rfl (dT (hlt))) ?_
    refine WL.nil ?_
    refine WQ.then ?_
    refine hK15 _ _ _ ?_
    refine WC.yes rfl ?_
    refine WC.skip ?_
    refine WQ.then ?_
    refine hK14 _ _ _ ?_
    refine WC.seq fun K16 hK16 => ?_
    refine WC.block ?_
    refine WC.seq fun K17 hK17 => ?_
    refine WC.seq fun K18 hK18 => ?_
    have hlt' : i < T.length := by omega
    obtain ⟨gt, hgt, hrow'⟩ := Lb.row_open hh (show 0 < T.length by omega)
    subst hgt
    have hrow : ∀ j, j < T.length → w.rangeAt gt j [vI (T.getD j 0)] := fun j hj k v hv => by
      match k, hv with
      | 0, hv => simp at hv; subst hv; simpa using hrow' j hj
      | k + 1, hv => simp at hv
    have hwx : wd (T.getD i 0) = true := wd_get hw hlt'
    have hxl : xs.length = min i 32 := by rw [hx]; exact win_len hi
    have hyl : ys.length = min i 8 := by rw [hy]; exact win_len hi
    refine WC.region ?_
    refine WL.pure (v := vP g 0) 31 rfl (Nat.le_of_ble_eq_true rfl) rfl rfl (by kernel_rfl) ?_
    refine WL.pure (v := vS gt T.length ct) 32 rfl (Nat.le_of_ble_eq_true rfl) rfl rfl (by kernel_rfl) ?_
    refine WL.pure (v := vI (i : Int)) 33 rfl (Nat.le_of_ble_eq_true rfl) rfl rfl (by kernel_rfl) ?_
    refine WL.pure (v := vP gt i) 34 rfl (Nat.le_of_ble_eq_true rfl) rfl rfl (x_idx (i) (i) rfl rfl rfl Try.underlying58 sz3 (by omega) (by omega) (by omega)) ?_
    refine WL.pure (v := vI (T.getD i 0)) 35 rfl (Nat.le_of_ble_eq_true rfl) rfl rfl (x_load rfl rfl Try.underlying3 rfl ((HP.oldRange hH13 trivial (hrow i (by omega))) 0 _ rfl)) ?_
    by_cases h8 : i < 8
    ·
      refine WL.call (f := 83) (args := #[vP g 0, vI (T.getD i 0)]) 36 rfl (Nat.le_of_ble_eq_true rfl) rfl rfl (by kernel_rfl) ?_
      refine (Add_room g qv cq ys lo (T.getD i 0) _ (HP.ownB (A := [Ent.cel l #[vI 32, .slice pv xs.length cp] 91, Ent.own (.slice pv xs.length cp) xs.length (iL xs) 3 1]) hH13) hwx (by omega)).mono ?_
      rintro e w5 ⟨qv5, cq5, rfl, hb5⟩
      refine ⟨_, rfl, ?_⟩
      have hH19 : HP Tr w _ [.cel l #[vI 32, .slice pv xs.length cp] 91, .own (.slice pv xs.length cp) xs.length (iL xs) 3 1, .cel g #[.slice qv5 (ys ++ [T.getD i 0]).length cq5, vI 8, vI lo] 134, .own (.slice qv5 (ys ++ [T.getD i 0]).length cq5) (ys ++ [T.getD i 0]).length (iL (ys ++ [T.getD i 0])) 3 1] := HP.exch (A := [Ent.cel l #[vI 32, .slice pv xs.length cp] 91, Ent.own (.slice pv xs.length cp) xs.length (iL xs) 3 1]) hH13 hb5
      refine WL.pure (v := .bool false) 37 rfl (Nat.le_of_ble_eq_true rfl) rfl rfl (x_neq rfl rfl rfl (by decide)) ?_
      refine WL.nil ?_
      refine WQ.then ?_
      refine hK18 _ _ _ ?_
      refine WC.sub (l' := [(0, vS gt T.length ct), (3, vP l 0), (5, vP g 0), (7, vI (i : Int)), (28, .bool true), (37, .bool false)]) ⟨rfl, rfl, rfl, rfl, rfl, rfl, trivial⟩ ?_
      refine WC.no rfl ?_
      refine WC.skip ?_
      refine WQ.then ?_
      refine hK17 _ _ _ ?_
      refine WC.seq fun K20 hK20 => ?_
      refine WC.seq fun K21 hK21 => ?_
      refine WC.region ?_
      refine WL.pure (v := vI (i : Int)) 38 rfl (Nat.le_of_ble_eq_true rfl) rfl rfl (by kernel_rfl) ?_
      by_cases h32 : (32 : Int) ≤ (i : Int)
      ·
        refine WL.pure (v := .bool true) 39 rfl (Nat.le_of_ble_eq_true rfl) rfl rfl (x_geq rfl rfl rfl (dT (h32))) ?_
        refine WL.nil ?_
        refine WQ.then ?_
        refine hK21 _ _ _ ?_
        refine WC.yes rfl ?_
        refine WC.seq fun K22 hK22 => ?_
        refine WC.region ?_
        refine WL.pure (v := vP l 0) 41 rfl (Nat.le_of_ble_eq_true rfl) rfl rfl (by kernel_rfl) ?_
        refine WL.call (f := 28) (args := #[vP l 0, .bool true]) 42 rfl (Nat.le_of_ble_eq_true rfl) rfl rfl (by kernel_rfl) ?_
        obtain ⟨hpv, hpe, hpx⟩ := pp_ok (xs := xs) (fr := true) (a := 0) (by omega) rfl
        rw [del0] at hpx
        refine (Pop_any l 32 pv cp xs true _ (HP.ownF (A := [Ent.cel l #[vI 32, .slice pv xs.length cp] 91, Ent.own (.slice pv xs.length cp) xs.length (iL xs) 3 1]) (B := [Ent.cel g #[.slice qv5 (ys ++ [T.getD i 0]).length cq5, vI 8, vI lo] 134, Ent.own (.slice qv5 (ys ++ [T.getD i 0]).length cq5) (ys ++ [T.getD i 0]).length (iL (ys ++ [T.getD i 0])) 3 1]) hH19) (by omega) (by omega)).mono ?_
        rintro e w6 ⟨pv6, cp6, rfl, hb6⟩
        rw [hpx] at hb6
        refine ⟨_, rfl, ?_⟩
        have hH23 : HP Tr w _ [.cel l #[vI 32, .slice pv6 (xs.drop 1).length cp6] 91, .own (.slice pv6 (xs.drop 1).length cp6) (xs.drop 1).length (iL (xs.drop 1)) 3 1, .cel g #[.slice qv5 (ys ++ [T.getD i 0]).length cq5, vI 8, vI lo] 134, .own (.slice qv5 (ys ++ [T.getD i 0]).length cq5) (ys ++ [T.getD i 0]).length (iL (ys ++ [T.getD i 0])) 3 1] := HP.exchF (A := [Ent.cel l #[vI 32, .slice pv xs.length cp] 91, Ent.own (.slice pv xs.length cp) xs.length (iL xs) 3 1]) (B := [Ent.cel g #[.slice qv5 (ys ++ [T.getD i 0]).length cq5, vI 8, vI lo] 134, Ent.own (.slice qv5 (ys ++ [T.getD i 0]).length cq5) (ys ++ [T.getD i 0]).length (iL (ys ++ [T.getD i 0])) 3 1]) hH19 hb6
        refine WL.pure (v := .tuple #[vI (ppV xs true), vI (ppE xs)]) 40 rfl (Nat.le_of_ble_eq_true rfl) rfl rfl (by kernel_rfl) ?_
        refine WL.pure (v := vI (ppV xs true)) 43 rfl (Nat.le_of_ble_eq_true rfl) rfl rfl (by kernel_rfl) ?_
        refine WL.pure (v := vI (ppE xs)) 44 rfl (Nat.le_of_ble_eq_true rfl) rfl rfl (by kernel_rfl) ?_
        refine WL.pure (v := vI (ppV xs true)) 8 rfl (Nat.le_of_ble_eq_true rfl) rfl rfl (by kernel_rfl) ?_
        refine WL.pure (v := vI (ppE xs)) 9 rfl (Nat.le_of_ble_eq_true rfl) rfl rfl (by kernel_rfl) ?_
        refine WL.nil ?_
        refine WQ.then ?_
        refine hK22 _ _ _ ?_
        refine WC.sub (l' := [(0, vS gt T.length ct), (3, vP l 0), (5, vP g 0), (7, vI (i : Int)), (9, vI (ppE xs)), (28, .bool true), (37, .bool false), (39, .bool true)]) ⟨rfl, rfl, rfl, rfl, rfl, rfl, rfl, rfl, trivial⟩ ?_
        refine WC.seq fun K24 hK24 => ?_
        refine WC.region ?_
        refine WL.pure (v := vI (ppE xs)) 45 rfl (Nat.le_of_ble_eq_true rfl) rfl rfl (by kernel_rfl) ?_
        refine WL.pure (v := .bool false) 46 rfl (Nat.le_of_ble_eq_true rfl) rfl rfl (x_neq rfl rfl rfl (dF (by omega))) ?_
        refine WL.nil ?_
        refine WQ.then ?_
        refine hK24 _ _ _ ?_
        refine WC.no rfl ?_
        refine WC.skip ?_
        refine WQ.then ?_
        refine hK20 _ _ _ ?_
        refine WC.seq fun K25 hK25 => ?_
        refine WC.region ?_
        refine WL.pure (v := vP l 0) 47 rfl (Nat.le_of_ble_eq_true rfl) rfl rfl (by kernel_rfl) ?_
        refine WL.pure (v := vS gt T.length ct) 48 rfl (Nat.le_of_ble_eq_true rfl) rfl rfl (by kernel_rfl) ?_
        refine WL.pure (v := vI (i : Int)) 49 rfl (Nat.le_of_ble_eq_true rfl) rfl rfl (by kernel_rfl) ?_
        refine WL.pure (v := vP gt i) 50 rfl (Nat.le_of_ble_eq_true rfl) rfl rfl (x_idx (i) (i) rfl rfl rfl Try.underlying58 sz3 (by omega) (by omega) (by omega)) ?_
        refine WL.pure (v := vI (T.getD i 0)) 51 rfl (Nat.le_of_ble_eq_true rfl) rfl rfl (x_load rfl rfl Try.underlying3 rfl ((HP.oldRange hH23 trivial (hrow i (by omega))) 0 _ rfl)) ?_
        refine WL.call (f := 26) (args := #[vP l 0, vI (T.getD i 0), .bool false]) 52 rfl (Nat.le_of_ble_eq_true rfl) rfl rfl (by kernel_rfl) ?_
        have hxl6 : (xs.drop 1).length < 32 := by first | omega | (rw [List.length_drop]; omega)
        obtain ⟨hpe6, hpx6⟩ := ps_0 (R := 32) (xs := (xs.drop 1)) (x := T.getD i 0) (fr := false) hwx (by omega)
        rw [if_neg Bool.false_ne_true] at hpx6
        refine (Push_any l 32 pv6 cp6 (xs.drop 1) (T.getD i 0) false _ (HP.ownF (A := [Ent.cel l #[vI 32, .slice pv6 (xs.drop 1).length cp6] 91, Ent.own (.slice pv6 (xs.drop 1).length cp6) (xs.drop 1).length (iL (xs.drop 1)) 3 1]) (B := [Ent.cel g #[.slice qv5 (ys ++ [T.getD i 0]).length cq5, vI 8, vI lo] 134, Ent.own (.slice qv5 (ys ++ [T.getD i 0]).length cq5) (ys ++ [T.getD i 0]).length (iL (ys ++ [T.getD i 0])) 3 1]) hH23) (by omega) (by omega)).mono ?_
        rintro e w7 ⟨pv7, cp7, rfl, hb7⟩
        rw [hpx6] at hb7
        rw [hpe6]
        refine ⟨_, rfl, ?_⟩
        have hH26 : HP Tr w _ [.cel l #[vI 32, .slice pv7 ((xs.drop 1) ++ [T.getD i 0]).length cp7] 91, .own (.slice pv7 ((xs.drop 1) ++ [T.getD i 0]).length cp7) ((xs.drop 1) ++ [T.getD i 0]).length (iL ((xs.drop 1) ++ [T.getD i 0])) 3 1, .cel g #[.slice qv5 (ys ++ [T.getD i 0]).length cq5, vI 8, vI lo] 134, .own (.slice qv5 (ys ++ [T.getD i 0]).length cq5) (ys ++ [T.getD i 0]).length (iL (ys ++ [T.getD i 0])) 3 1] := HP.exchF (A := [Ent.cel l #[vI 32, .slice pv6 (xs.drop 1).length cp6] 91, Ent.own (.slice pv6 (xs.drop 1).length cp6) (xs.drop 1).length (iL (xs.drop 1)) 3 1]) (B := [Ent.cel g #[.slice qv5 (ys ++ [T.getD i 0]).length cq5, vI 8, vI lo] 134, Ent.own (.slice qv5 (ys ++ [T.getD i 0]).length cq5) (ys ++ [T.getD i 0]).length (iL (ys ++ [T.getD i 0])) 3 1]) hH23 hb7
        refine WL.pure (v := .bool false) 53 rfl (Nat.le_of_ble_eq_true rfl) rfl rfl (x_neq rfl rfl rfl (by decide)) ?_
        refine WL.nil ?_
        refine WQ.then ?_
        refine hK25 _ _ _ ?_
        refine WC.sub (l' := [(0, vS gt T.length ct), (3, vP l 0), (5, vP g 0), (7, vI (i : Int)), (9, vI (ppE xs)), (28, .bool true), (37, .bool false), (39, .bool true), (46, .bool false), (53, .bool false)]) ⟨rfl, rfl, rfl, rfl, rfl, rfl, rfl, rfl, rfl, rfl, trivial⟩ ?_
        refine WC.no rfl ?_
        refine WC.skip ?_
        refine WQ.inNormal ?_
        refine WQ.then ?_
        refine hK16 _ _ _ ?_
        refine WC.region ?_
        refine WL.pure (v := vI (i : Int)) 29 rfl (Nat.le_of_ble_eq_true rfl) rfl rfl (by kernel_rfl) ?_
        refine WL.pure (v := vI ((i + 1 : Nat) : Int)) 30 rfl (Nat.le_of_ble_eq_true rfl) rfl rfl (x_add (Z := ((i + 1 : Nat) : Int)) rfl rfl rfl (by omega) (by omega) (by omega)) ?_
        refine WL.pure (v := vI ((i + 1 : Nat) : Int)) 7 rfl (Nat.le_of_ble_eq_true rfl) rfl rfl (by kernel_rfl) ?_
        refine WL.nil ?_
        refine WQ.sub (l' := [(0, vS gt T.length ct), (3, vP l 0), (5, vP g 0), (7, vI ((i + 1 : Nat) : Int))]) ⟨rfl, rfl, rfl, rfl, trivial⟩ ?_
        refine WQ.then (hK11 _ _ _ (by omega) ⟨i + 1, ((xs.drop 1) ++ [T.getD i 0]), (ys ++ [T.getD i 0]), lo, pv7, cp7, qv5, cq5, rfl, rfl, by omega, by rw [hx, win_ge (by omega) (by omega) hlt'], by rw [hy, win_lt h8 hlt'], by rw [hlo]; omega, hH26⟩)
      ·
        refine WL.pure (v := .bool false) 39 rfl (Nat.le_of_ble_eq_true rfl) rfl rfl (x_geq rfl rfl rfl (dF (h32))) ?_
        refine WL.nil ?_
        refine WQ.then ?_
        refine hK21 _ _ _ ?_
        refine WC.no rfl ?_
        refine WC.skip ?_
        refine WQ.then ?_
        refine hK20 _ _ _ ?_
        refine WC.seq fun K27 hK27 => ?_
        refine WC.region ?_
        refine WL.pure (v := vP l 0) 47 rfl (Nat.le_of_ble_eq_true rfl) rfl rfl (by kernel_rfl) ?_
        refine WL.pure (v := vS gt T.length ct) 48 rfl (Nat.le_of_ble_eq_true rfl) rfl rfl (by kernel_rfl) ?_
        refine WL.pure (v := vI (i : Int)) 49 rfl (Nat.le_of_ble_eq_true rfl) rfl rfl (by kernel_rfl) ?_
        refine WL.pure (v := vP gt i) 50 rfl (Nat.le_of_ble_eq_true rfl) rfl rfl (x_idx (i) (i) rfl rfl rfl Try.underlying58 sz3 (by omega) (by omega) (by omega)) ?_
        refine WL.pure (v := vI (T.getD i 0)) 51 rfl (Nat.le_of_ble_eq_true rfl) rfl rfl (x_load rfl rfl Try.underlying3 rfl ((HP.oldRange hH19 trivial (hrow i (by omega))) 0 _ rfl)) ?_
        refine WL.call (f := 26) (args := #[vP l 0, vI (T.getD i 0), .bool false]) 52 rfl (Nat.le_of_ble_eq_true rfl) rfl rfl (by kernel_rfl) ?_
        have hxl6 : xs.length < 32 := by first | omega | (rw [List.length_drop]; omega)
        obtain ⟨hpe6, hpx6⟩ := ps_0 (R := 32) (xs := xs) (x := T.getD i 0) (fr := false) hwx (by omega)
        rw [if_neg Bool.false_ne_true] at hpx6
        refine (Push_any l 32 pv cp xs (T.getD i 0) false _ (HP.ownF (A := [Ent.cel l #[vI 32, .slice pv xs.length cp] 91, Ent.own (.slice pv xs.length cp) xs.length (iL xs) 3 1]) (B := [Ent.cel g #[.slice qv5 (ys ++ [T.getD i 0]).length cq5, vI 8, vI lo] 134, Ent.own (.slice qv5 (ys ++ [T.getD i 0]).length cq5) (ys ++ [T.getD i 0]).length (iL (ys ++ [T.getD i 0])) 3 1]) hH19) (by omega) (by omega)).mono ?_
        rintro e w7 ⟨pv7, cp7, rfl, hb7⟩
        rw [hpx6] at hb7
        rw [hpe6]
        refine ⟨_, rfl, ?_⟩
        have hH28 : HP Tr w _ [.cel l #[vI 32, .slice pv7 (xs ++ [T.getD i 0]).length cp7] 91, .own (.slice pv7 (xs ++ [T.getD i 0]).length cp7) (xs ++ [T.getD i 0]).length (iL (xs ++ [T.getD i 0])) 3 1, .cel g #[.slice qv5 (ys ++ [T.getD i 0]).length cq5, vI 8, vI lo] 134, .own (.slice qv5 (ys ++ [T.getD i 0]).length cq5) (ys ++ [T.getD i 0]).length (iL (ys ++ [T.getD i 0])) 3 1] := HP.exchF (A := [Ent.cel l #[vI 32, .slice pv xs.length cp] 91, Ent.own (.slice pv xs.length cp) xs.length (iL xs) 3 1]) (B := [Ent.cel g #[.slice qv5 (ys ++ [T.getD i 0]).length cq5, vI 8, vI lo] 134, Ent.own (.slice qv5 (ys ++ [T.getD i 0]).length cq5) (ys ++ [T.getD i 0]).length (iL (ys ++ [T.getD i 0])) 3 1]) hH19 hb7
        refine WL.pure (v := .bool false) 53 rfl (Nat.le_of_ble_eq_true rfl) rfl rfl (x_neq rfl rfl rfl (by decide)) ?_
        refine WL.nil ?_
        refine WQ.then ?_
        refine hK27 _ _ _ ?_
        refine WC.sub (l' := [(0, vS gt T.length ct), (3, vP l 0), (5, vP g 0), (7, vI (i : Int)), (28, .bool true), (37, .bool false), (39, .bool false), (53, .bool false)]) ⟨rfl, rfl, rfl, rfl, rfl, rfl, rfl, rfl, trivial⟩ ?_
        refine WC.no rfl ?_
        refine WC.skip ?_
        refine WQ.inNormal ?_
        refine WQ.then ?_
        refine hK16 _ _ _ ?_
        refine WC.region ?_
        refine WL.pure (v := vI (i : Int)) 29 rfl (Nat.le_of_ble_eq_true rfl) rfl rfl (by kernel_rfl) ?_
        refine WL.pure (v := vI ((i + 1 : Nat) : Int)) 30 rfl (Nat.le_of_ble_eq_true rfl) rfl rfl (x_add (Z := ((i + 1 : Nat) : Int)) rfl rfl rfl (by omega) (by omega) (by omega)) ?_
        refine WL.pure (v := vI ((i + 1 : Nat) : Int)) 7 rfl (Nat.le_of_ble_eq_true rfl) rfl rfl (by kernel_rfl) ?_
        refine WL.nil ?_
        refine WQ.sub (l' := [(0, vS gt T.length ct), (3, vP l 0), (5, vP g 0), (7, vI ((i + 1 : Nat) : Int))]) ⟨rfl, rfl, rfl, rfl, trivial⟩ ?_
        refine WQ.then (hK11 _ _ _ (by omega) ⟨i + 1, (xs ++ [T.getD i 0]), (ys ++ [T.getD i 0]), lo, pv7, cp7, qv5, cq5, rfl, rfl, by omega, by rw [hx, win_lt (by omega) hlt'], by rw [hy, win_lt h8 hlt'], by rw [hlo]; omega, hH28⟩)
    ·
      refine WL.call (f := 83) (args := #[vP g 0, vI (T.getD i 0)]) 36 rfl (Nat.le_of_ble_eq_true rfl) rfl rfl (by kernel_rfl) ?_
      refine (Add_full g qv cq ys lo (T.getD i 0) _ (HP.ownB (A := [Ent.cel l #[vI 32, .slice pv xs.length cp] 91, Ent.own (.slice pv xs.length cp) xs.length (iL xs) 3 1]) hH13) hwx (by omega) (by omega)).mono ?_
      rintro e w5 ⟨qv5, cq5, rfl, hb5⟩
      refine ⟨_, rfl, ?_⟩
      have hH29 : HP Tr w _ [.cel l #[vI 32, .slice pv xs.length cp] 91, .own (.slice pv xs.length cp) xs.length (iL xs) 3 1, .cel g #[.slice qv5 (ys.drop 1 ++ [T.getD i 0]).length cq5, vI 8, vI (lo + 1)] 134, .own (.slice qv5 (ys.drop 1 ++ [T.getD i 0]).length cq5) (ys.drop 1 ++ [T.getD i 0]).length (iL (ys.drop 1 ++ [T.getD i 0])) 3 1] := HP.exch (A := [Ent.cel l #[vI 32, .slice pv xs.length cp] 91, Ent.own (.slice pv xs.length cp) xs.length (iL xs) 3 1]) hH13 hb5
      refine WL.pure (v := .bool false) 37 rfl (Nat.le_of_ble_eq_true rfl) rfl rfl (x_neq rfl rfl rfl (by decide)) ?_
      refine WL.nil ?_
      refine WQ.then ?_
      refine hK18 _ _ _ ?_
      refine WC.sub (l' := [(0, vS gt T.length ct), (3, vP l 0), (5, vP g 0), (7, vI (i : Int)), (28, .bool true), (37, .bool false)]) ⟨rfl, rfl, rfl, rfl, rfl, rfl, trivial⟩ ?_
      refine WC.no rfl ?_
      refine WC.skip ?_
      refine WQ.then ?_
      refine hK17 _ _ _ ?_
      refine WC.seq fun K30 hK30 => ?_
      refine WC.seq fun K31 hK31 => ?_
      refine WC.region ?_
      refine WL.pure (v := vI (i : Int)) 38 rfl (Nat.le_of_ble_eq_true rfl) rfl rfl (by kernel_rfl) ?_
      by_cases h32 : (32 : Int) ≤ (i : Int)
      ·
        refine WL.pure (v := .bool true) 39 rfl (Nat.le_of_ble_eq_true rfl) rfl rfl (x_geq rfl rfl rfl (dT (h32))) ?_
        refine WL.nil ?_
        refine WQ.then ?_
        refine hK31 _ _ _ ?_
        refine WC.yes rfl ?_
        refine WC.seq fun K32 hK32 => ?_
        refine WC.region ?_
        refine WL.pure (v := vP l 0) 41 rfl (Nat.le_of_ble_eq_true rfl) rfl rfl (by kernel_rfl) ?_
        refine WL.call (f := 28) (args := #[vP l 0, .bool true]) 42 rfl (Nat.le_of_ble_eq_true rfl) rfl rfl (by kernel_rfl) ?_
        obtain ⟨hpv, hpe, hpx⟩ := pp_ok (xs := xs) (fr := true) (a := 0) (by omega) rfl
        rw [del0] at hpx
        refine (Pop_any l 32 pv cp xs true _ (HP.ownF (A := [Ent.cel l #[vI 32, .slice pv xs.length cp] 91, Ent.own (.slice pv xs.length cp) xs.length (iL xs) 3 1]) (B := [Ent.cel g #[.slice qv5 (ys.drop 1 ++ [T.getD i 0]).length cq5, vI 8, vI (lo + 1)] 134, Ent.own (.slice qv5 (ys.drop 1 ++ [T.getD i 0]).length cq5) (ys.drop 1 ++ [T.getD i 0]).length (iL (ys.drop 1 ++ [T.getD i 0])) 3 1]) hH29) (by omega) (by omega)).mono ?_
        rintro e w6 ⟨pv6, cp6, rfl, hb6⟩
        rw [hpx] at hb6
        refine ⟨_, rfl, ?_⟩
        have hH33 : HP Tr w _ [.cel l #[vI 32, .slice pv6 (xs.drop 1).length cp6] 91, .own (.slice pv6 (xs.drop 1).length cp6) (xs.drop 1).length (iL (xs.drop 1)) 3 1, .cel g #[.slice qv5 (ys.drop 1 ++ [T.getD i 0]).length cq5, vI 8, vI (lo + 1)] 134, .own (.slice qv5 (ys.drop 1 ++ [T.getD i 0]).length cq5) (ys.drop 1 ++ [T.getD i 0]).length (iL (ys.drop 1 ++ [T.getD i 0])) 3 1] := HP.exchF (A := [Ent.cel l #[vI 32, .slice pv xs.length cp] 91, Ent.own (.slice pv xs.length cp) xs.length (iL xs) 3 1]) (B := [Ent.cel g #[.slice qv5 (ys.drop 1 ++ [T.getD i 0]).length cq5, vI 8, vI (lo + 1)] 134, Ent.own (.slice qv5 (ys.drop 1 ++ [T.getD i 0]).length cq5) (ys.drop 1 ++ [T.getD i 0]).length (iL (ys.drop 1 ++ [T.getD i 0])) 3 1]) hH29 hb6
        refine WL.pure (v := .tuple #[vI (ppV xs true), vI (ppE xs)]) 40 rfl (Nat.le_of_ble_eq_true rfl) rfl rfl (by kernel_rfl) ?_
        refine WL.pure (v := vI (ppV xs true)) 43 rfl (Nat.le_of_ble_eq_true rfl) rfl rfl (by kernel_rfl) ?_
        refine WL.pure (v := vI (ppE xs)) 44 rfl (Nat.le_of_ble_eq_true rfl) rfl rfl (by kernel_rfl) ?_
        refine WL.pure (v := vI (ppV xs true)) 8 rfl (Nat.le_of_ble_eq_true rfl) rfl rfl (by kernel_rfl) ?_
        refine WL.pure (v := vI (ppE xs)) 9 rfl (Nat.le_of_ble_eq_true rfl) rfl rfl (by kernel_rfl) ?_
        refine WL.nil ?_
        refine WQ.then ?_
        refine hK32 _ _ _ ?_
        refine WC.sub (l' := [(0, vS gt T.length ct), (3, vP l 0), (5, vP g 0), (7, vI (i : Int)), (9, vI (ppE xs)), (28, .bool true), (37, .bool false), (39, .bool true)]) ⟨rfl, rfl, rfl, rfl, rfl, rfl, rfl, rfl, trivial⟩ ?_
        refine WC.seq fun K34 hK34 => ?_
        refine WC.region ?_
        refine WL.pure (v := vI (ppE xs)) 45 rfl (Nat.le_of_ble_eq_true rfl) rfl rfl (by kernel_rfl) ?_
        refine WL.pure (v := .bool false) 46 rfl (Nat.le_of_ble_eq_true rfl) rfl rfl (x_neq rfl rfl rfl (dF (by omega))) ?_
        refine WL.nil ?_
        refine WQ.then ?_
        refine hK34 _ _ _ ?_
        refine WC.no rfl ?_
        refine WC.skip ?_
        refine WQ.then ?_
        refine hK30 _ _ _ ?_
        refine WC.seq fun K35 hK35 => ?_
        refine WC.region ?_
        refine WL.pure (v := vP l 0) 47 rfl (Nat.le_of_ble_eq_true rfl) rfl rfl (by kernel_rfl) ?_
        refine WL.pure (v := vS gt T.length ct) 48 rfl (Nat.le_of_ble_eq_true rfl) rfl rfl (by kernel_rfl) ?_
        refine WL.pure (v := vI (i : Int)) 49 rfl (Nat.le_of_ble_eq_true rfl) rfl rfl (by kernel_rfl) ?_
        refine WL.pure (v := vP gt i) 50 rfl (Nat.le_of_ble_eq_true rfl) rfl rfl (x_idx (i) (i) rfl rfl rfl Try.underlying58 sz3 (by omega) (by omega) (by omega)) ?_
        refine WL.pure (v := vI (T.getD i 0)) 51 rfl (Nat.le_of_ble_eq_true rfl) rfl rfl (x_load rfl rfl Try.underlying3 rfl ((HP.oldRange hH33 trivial (hrow i (by omega))) 0 _ rfl)) ?_
        refine WL.call (f := 26) (args := #[vP l 0, vI (T.getD i 0), .bool false]) 52 rfl (Nat.le_of_ble_eq_true rfl) rfl rfl (by kernel_rfl) ?_
        have hxl6 : (xs.drop 1).length < 32 := by first | omega | (rw [List.length_drop]; omega)
        obtain ⟨hpe6, hpx6⟩ := ps_0 (R := 32) (xs := (xs.drop 1)) (x := T.getD i 0) (fr := false) hwx (by omega)
        rw [if_neg Bool.false_ne_true] at hpx6
        refine (Push_any l 32 pv6 cp6 (xs.drop 1) (T.getD i 0) false _ (HP.ownF (A := [Ent.cel l #[vI 32, .slice pv6 (xs.drop 1).length cp6] 91, Ent.own (.slice pv6 (xs.drop 1).length cp6) (xs.drop 1).length (iL (xs.drop 1)) 3 1]) (B := [Ent.cel g #[.slice qv5 (ys.drop 1 ++ [T.getD i 0]).length cq5, vI 8, vI (lo + 1)] 134, Ent.own (.slice qv5 (ys.drop 1 ++ [T.getD i 0]).length cq5) (ys.drop 1 ++ [T.getD i 0]).length (iL (ys.drop 1 ++ [T.getD i 0])) 3 1]) hH33) (by omega) (by omega)).mono ?_
        rintro e w7 ⟨pv7, cp7, rfl, hb7⟩
        rw [hpx6] at hb7
        rw [hpe6]
        refine ⟨_, rfl, ?_⟩
        have hH36 : HP Tr w _ [.cel l #[vI 32, .slice pv7 ((xs.drop 1) ++ [T.getD i 0]).length cp7] 91, .own (.slice pv7 ((xs.drop 1) ++ [T.getD i 0]).length cp7) ((xs.drop 1) ++ [T.getD i 0]).length (iL ((xs.drop 1) ++ [T.getD i 0])) 3 1, .cel g #[.slice qv5 (ys.drop 1 ++ [T.getD i 0]).length cq5, vI 8, vI (lo + 1)] 134, .own (.slice qv5 (ys.drop 1 ++ [T.getD i 0]).length cq5) (ys.drop 1 ++ [T.getD i 0]).length (iL (ys.drop 1 ++ [T.getD i 0])) 3 1] := HP.exchF (A := [Ent.cel l #[vI 32, .slice pv6 (xs.drop 1).length cp6] 91, Ent.own (.slice pv6 (xs.drop 1).length cp6) (xs.drop 1).length (iL (xs.drop 1)) 3 1]) (B := [Ent.cel g #[.slice qv5 (ys.drop 1 ++ [T.getD i 0]).length cq5, vI 8, vI (lo + 1)] 134, Ent.own (.slice qv5 (ys.drop 1 ++ [T.getD i 0]).length cq5) (ys.drop 1 ++ [T.getD i 0]).length (iL (ys.drop 1 ++ [T.getD i 0])) 3 1]) hH33 hb7
        refine WL.pure (v := .bool false) 53 rfl (Nat.le_of_ble_eq_true rfl) rfl rfl (x_neq rfl rfl rfl (by decide)) ?_
        refine WL.nil ?_
        refine WQ.then ?_
        refine hK35 _ _ _ ?_
        refine WC.sub (l' := [(0, vS gt T.length ct), (3, vP l 0), (5, vP g 0), (7, vI (i : Int)), (9, vI (ppE xs)), (28, .bool true), (37, .bool false), (39, .bool true), (46, .bool false), (53, .bool false)]) ⟨rfl, rfl, rfl, rfl, rfl, rfl, rfl, rfl, rfl, rfl, trivial⟩ ?_
        refine WC.no rfl ?_
        refine WC.skip ?_
        refine WQ.inNormal ?_
        refine WQ.then ?_
        refine hK16 _ _ _ ?_
        refine WC.region ?_
        refine WL.pure (v := vI (i : Int)) 29 rfl (Nat.le_of_ble_eq_true rfl) rfl rfl (by kernel_rfl) ?_
        refine WL.pure (v := vI ((i + 1 : Nat) : Int)) 30 rfl (Nat.le_of_ble_eq_true rfl) rfl rfl (x_add (Z := ((i + 1 : Nat) : Int)) rfl rfl rfl (by omega) (by omega) (by omega)) ?_
        refine WL.pure (v := vI ((i + 1 : Nat) : Int)) 7 rfl (Nat.le_of_ble_eq_true rfl) rfl rfl (by kernel_rfl) ?_
        refine WL.nil ?_
        refine WQ.sub (l' := [(0, vS gt T.length ct), (3, vP l 0), (5, vP g 0), (7, vI ((i + 1 : Nat) : Int))]) ⟨rfl, rfl, rfl, rfl, trivial⟩ ?_
        refine WQ.then (hK11 _ _ _ (by omega) ⟨i + 1, ((xs.drop 1) ++ [T.getD i 0]), (ys.drop 1 ++ [T.getD i 0]), (lo + 1), pv7, cp7, qv5, cq5, rfl, rfl, by omega, by rw [hx, win_ge (by omega) (by omega) hlt'], by rw [hy, win_ge (by omega) (by omega) hlt'], by rw [hlo]; omega, hH36⟩)
      ·
        refine WL.pure (v := .bool false) 39 rfl (Nat.le_of_ble_eq_true rfl) rfl rfl (x_geq rfl rfl rfl (dF (h32))) ?_
        refine WL.nil ?_
        refine WQ.then ?_
        refine hK31 _ _ _ ?_
        refine WC.no rfl ?_
        refine WC.skip ?_
        refine WQ.then ?_
        refine hK30 _ _ _ ?_
        refine WC.seq fun K37 hK37 => ?_
        refine WC.region ?_
        refine WL.pure (v := vP l 0) 47 rfl (Nat.le_of_ble_eq_true rfl) rfl rfl (by kernel_rfl) ?_
        refine WL.pure (v := vS gt T.length ct) 48 rfl (Nat.le_of_ble_eq_true rfl) rfl rfl (by kernel_rfl) ?_
        refine WL.pure (v := vI (i : Int)) 49 rfl (Nat.le_of_ble_eq_true rfl) rfl rfl (by kernel_rfl) ?_
        refine WL.pure (v := vP gt i) 50 rfl (Nat.le_of_ble_eq_true rfl) rfl rfl (x_idx (i) (i) rfl rfl rfl Try.underlying58 sz3 (by omega) (by omega) (by omega)) ?_
        refine WL.pure (v := vI (T.getD i 0)) 51 rfl (Nat.le_of_ble_eq_true rfl) rfl rfl (x_load rfl rfl Try.underlying3 rfl ((HP.oldRange hH29 trivial (hrow i (by omega))) 0 _ rfl)) ?_
        refine WL.call (f := 26) (args := #[vP l 0, vI (T.getD i 0), .bool false]) 52 rfl (Nat.le_of_ble_eq_true rfl) rfl rfl (by kernel_rfl) ?_
        have hxl6 : xs.length < 32 := by first | omega | (rw [List.length_drop]; omega)
        obtain ⟨hpe6, hpx6⟩ := ps_0 (R := 32) (xs := xs) (x := T.getD i 0) (fr := false) hwx (by omega)
        rw [if_neg Bool.false_ne_true] at hpx6
        refine (Push_any l 32 pv cp xs (T.getD i 0) false _ (HP.ownF (A := [Ent.cel l #[vI 32, .slice pv xs.length cp] 91, Ent.own (.slice pv xs.length cp) xs.length (iL xs) 3 1]) (B := [Ent.cel g #[.slice qv5 (ys.drop 1 ++ [T.getD i 0]).length cq5, vI 8, vI (lo + 1)] 134, Ent.own (.slice qv5 (ys.drop 1 ++ [T.getD i 0]).length cq5) (ys.drop 1 ++ [T.getD i 0]).length (iL (ys.drop 1 ++ [T.getD i 0])) 3 1]) hH29) (by omega) (by omega)).mono ?_
        rintro e w7 ⟨pv7, cp7, rfl, hb7⟩
        rw [hpx6] at hb7
        rw [hpe6]
        refine ⟨_, rfl, ?_⟩
        have hH38 : HP Tr w _ [.cel l #[vI 32, .slice pv7 (xs ++ [T.getD i 0]).length cp7] 91, .own (.slice pv7 (xs ++ [T.getD i 0]).length cp7) (xs ++ [T.getD i 0]).length (iL (xs ++ [T.getD i 0])) 3 1, .cel g #[.slice qv5 (ys.drop 1 ++ [T.getD i 0]).length cq5, vI 8, vI (lo + 1)] 134, .own (.slice qv5 (ys.drop 1 ++ [T.getD i 0]).length cq5) (ys.drop 1 ++ [T.getD i 0]).length (iL (ys.drop 1 ++ [T.getD i 0])) 3 1] := HP.exchF (A := [Ent.cel l #[vI 32, .slice pv xs.length cp] 91, Ent.own (.slice pv xs.length cp) xs.length (iL xs) 3 1]) (B := [Ent.cel g #[.slice qv5 (ys.drop 1 ++ [T.getD i 0]).length cq5, vI 8, vI (lo + 1)] 134, Ent.own (.slice qv5 (ys.drop 1 ++ [T.getD i 0]).length cq5) (ys.drop 1 ++ [T.getD i 0]).length (iL (ys.drop 1 ++ [T.getD i 0])) 3 1]) hH29 hb7
        refine WL.pure (v := .bool false) 53 rfl (Nat.le_of_ble_eq_true rfl) rfl rfl (x_neq rfl rfl rfl (by decide)) ?_
        refine WL.nil ?_
        refine WQ.then ?_
        refine hK37 _ _ _ ?_
        refine WC.sub (l' := [(0, vS gt T.length ct), (3, vP l 0), (5, vP g 0), (7, vI (i : Int)), (28, .bool true), (37, .bool false), (39, .bool false), (53, .bool false)]) ⟨rfl, rfl, rfl, rfl, rfl, rfl, rfl, rfl, trivial⟩ ?_
        refine WC.no rfl ?_
        refine WC.skip ?_
        refine WQ.inNormal ?_
        refine WQ.then ?_
        refine hK16 _ _ _ ?_
        refine WC.region ?_
        refine WL.pure (v := vI (i : Int)) 29 rfl (Nat.le_of_ble_eq_true rfl) rfl rfl (by kernel_rfl) ?_
        refine WL.pure (v := vI ((i + 1 : Nat) : Int)) 30 rfl (Nat.le_of_ble_eq_true rfl) rfl rfl (x_add (Z := ((i + 1 : Nat) : Int)) rfl rfl rfl (by omega) (by omega) (by omega)) ?_
        refine WL.pure (v := vI ((i + 1 : Nat) : Int)) 7 rfl (Nat.le_of_ble_eq_true rfl) rfl rfl (by kernel_rfl) ?_
        refine WL.nil ?_
        refine WQ.sub (l' := [(0, vS gt T.length ct), (3, vP l 0), (5, vP g 0), (7, vI ((i + 1 : Nat) : Int))]) ⟨rfl, rfl, rfl, rfl, trivial⟩ ?_
        refine WQ.then (hK11 _ _ _ (by omega) ⟨i + 1, (xs ++ [T.getD i 0]), (ys.drop 1 ++ [T.getD i 0]), (lo + 1), pv7, cp7, qv5, cq5, rfl, rfl, by omega, by rw [hx, win_lt (by omega) hlt'], by rw [hy, win_ge (by omega) (by omega) hlt'], by rw [hlo]; omega, hH38⟩)
  ·
    refine WL.pure (v := .bool false) 28 rfl (Nat.le_of_ble_eq_true rfl) rfl rfl (x_lss rfl rfl rfl (dF (hlt))) ?_
    refine WL.nil ?_
    refine WQ.then ?_
    refine hK15 _ _ _ ?_
    refine WC.no rfl ?_
    refine WC.exit ?_
    refine WQ.thenExit ?_
    refine WQ.thenExit ?_
    refine WQ.inExit ?_
    refine WQ.then ?_
    refine hK9 _ _ _ ?_
    refine WC.seq fun K39 hK39 => ?_
    have hiT : i = T.length := by omega
    have hx9 : xs = (T.drop (T.length - 32)) := by rw [hx]; exact win_end hiT
    have hy9 : ys = (T.drop (T.length - 8)) := by rw [hy]; exact win_end hiT
    have hlo9 : lo = ((T.length - 8 : Nat) : Int) := by rw [hlo, hiT]
    subst hx9 hy9 hlo9
    have hl32 : (T.drop (T.length - 32)).length ≤ 32 := by rw [List.length_drop]; omega
    have hl8 : (T.drop (T.length - 8)).length ≤ 8 := by rw [List.length_drop]; omega
    have hH40 : HP Tr w _ [.cel l #[vI 32, .slice pv (T.drop (T.length - 32)).length cp] 91, .own (.slice pv (T.drop (T.length - 32)).length cp) (T.drop (T.length - 32)).length (iL (T.drop (T.length - 32))) 3 1, .cel g #[.slice qv (T.drop (T.length - 8)).length cq, vI 8, vI ((T.length - 8 : Nat) : Int)] 134, .own (.slice qv (T.drop (T.length - 8)).length cq) (T.drop (T.length - 8)).length (iL (T.drop (T.length - 8))) 3 1] := hH13
    refine WC.region ?_
    refine WL.pure (v := .slice pt T.length ct) 54 rfl (Nat.le_of_ble_eq_true rfl) rfl rfl (by kernel_rfl) ?_
    refine WL.pure (v := vI (T.length : Int)) 55 rfl (Nat.le_of_ble_eq_true rfl) rfl rfl (by kernel_rfl) ?_
    refine WL.pure (v := vI (T.length : Int)) 10 rfl (Nat.le_of_ble_eq_true rfl) rfl rfl (by kernel_rfl) ?_
    refine WL.nil ?_
    refine WQ.then ?_
    refine hK39 _ _ _ ?_
    refine WC.seq fun K41 hK41 => ?_
    refine WC.confG (γ := Option Addr × Nat × Option Addr × Nat × Unit) [(10, vI (T.length : Int)), (55, vI (T.length : Int)), (54, .slice pt T.length ct), (28, .bool false), (27, vI (T.length : Int)), (26, .slice pt T.length ct), (25, vI (i : Int)), (0, .slice pt T.length ct), (3, vP l 0), (5, vP g 0), (7, vI (i : Int))] (fun gy => [vP l 0, .slice gy.1 ((T.drop (T.length - 32)).length) gy.2.1, .slice pt T.length ct, vI (T.length : Int), vI ((T.length : Int) - 32), vI ((T.length - 32 : Nat) : Int), .slice (slp pt (T.length - 32) ct) ((T.drop (T.length - 32)).length) (ct - (T.length - 32)), .bool true, .bool true, vP g 0, .slice gy.2.2.1 ((T.drop (T.length - 8)).length) gy.2.2.2.1, .slice pt T.length ct, vI (T.length : Int), vI ((T.length : Int) - 8), vI ((T.length - 8 : Nat) : Int), .slice (slp pt (T.length - 8) ct) ((T.drop (T.length - 8)).length) (ct - (T.length - 8)), .bool true, .bool true, .bool true, vP g 0, vI ((T.length - 8 : Nat) : Int), vI (T.length : Int), vI ((T.length : Int) - 8), vI ((T.length - 8 : Nat) : Int), .bool true, .bool true, .bool true]) (fun gy D wz => HP Tr w wz ([.cel l #[vI 32, .slice pv (T.drop (T.length - 32)).length cp] 91, .own (.slice pv (T.drop (T.length - 32)).length cp) (T.drop (T.length - 32)).length (iL (T.drop (T.length - 32))) 3 1, .cel g #[.slice qv (T.drop (T.length - 8)).length cq, vI 8, vI ((T.length - 8 : Nat) : Int)] 134, .own (.slice qv (T.drop (T.length - 8)).length cq) (T.drop (T.length - 8)).length (iL (T.drop (T.length - 8))) 3 1] ++ ((bif D 1 then [Ent.own (.slice gy.1 (T.drop (T.length - 32)).length gy.2.1) (T.drop (T.length - 32)).length (iL (T.drop (T.length - 32))) 3 1] else []) ++ ((bif D 10 then [Ent.own (.slice gy.2.2.1 (T.drop (T.length - 8)).length gy.2.2.2.1) (T.drop (T.length - 8)).length (iL (T.drop (T.length - 8))) 3 1] else []) ++ [])))) (none, 0, none, 0, ()) (by kernel_rfl) ⟨rfl, rfl, rfl, rfl, rfl, rfl, rfl, rfl, rfl, rfl, rfl, trivial⟩ (by kernel_rfl) (by kernel_rfl) (by kernel_rfl) (fun _ => rfl) (by kernel_rfl) (HP.drew hH40) ?_ ?_
    · refine AllOk.cons ?o0 (AllOk.cons ?o1 (AllOk.cons ?o2 (AllOk.cons ?o3 (AllOk.cons ?o4 (AllOk.cons ?o5 (AllOk.cons ?o6 (AllOk.cons ?o7 (AllOk.cons ?o8 (AllOk.cons ?o9 (AllOk.cons ?o10 (AllOk.cons ?o11 (AllOk.cons ?o12 (AllOk.cons ?o13 (AllOk.cons ?o14 (AllOk.cons ?o15 (AllOk.cons ?o16 (AllOk.cons ?o17 (AllOk.cons ?o18 (AllOk.cons ?o19 (AllOk.cons ?o20 (AllOk.cons ?o21 (AllOk.cons ?o22 (AllOk.cons ?o23 (AllOk.cons ?o24 (AllOk.cons ?o25 (AllOk.cons ?o26 (AllOk.nil _)))))))))))))))))))))))))))
      case o0 =>
        intro gy D wz hDi hdep hclo hW
        exact .inl ⟨rfl, rfl, .inl ⟨gy, wz, fun _ _ => rfl, by kernel_rfl, hW⟩⟩
      case o1 =>
        intro gy D wz hDi hdep hclo hW
        have d7 : D 7 = false := by
          cases h : D 7 with
          | false => rfl
          | true => exact absurd (hclo 7 _ rfl h ⟨1, .data⟩ (by simp) rfl) (by rw [hDi]; exact Bool.false_ne_true)
        have d8 : D 8 = false := by
          cases h : D 8 with
          | false => rfl
          | true => exact absurd (hclo 8 _ rfl h ⟨7, .data⟩ (by simp) rfl) (by rw [d7]; exact Bool.false_ne_true)
        have d10 : D 10 = false := by
          cases h : D 10 with
          | false => rfl
          | true => exact absurd (hclo 10 _ rfl h ⟨8, .chain⟩ (by simp) rfl) (by rw [d8]; exact Bool.false_ne_true)
        have hW2 := hW
        simp only [d10, hDi, cond_true, cond_false, List.append_nil, List.nil_append, List.cons_append] at hW2
        refine .inl ⟨rfl, rfl, .inr (.inr ⟨33, #[vP l 0], by kernel_rfl, (Items_any l 32 pv cp (T.drop (T.length - 32)) _ (HP.ownF (A := [Ent.cel l #[vI 32, .slice pv (T.drop (T.length - 32)).length cp] 91, Ent.own (.slice pv (T.drop (T.length - 32)).length cp) (T.drop (T.length - 32)).length (iL (T.drop (T.length - 32))) 3 1]) hW2) (by omega) (by omega)).mono ?_⟩)⟩
        rintro e w3 ⟨ia9, ca9, rfl, hb⟩
        refine ⟨⟨ia9, ca9, gy.2.2.1, gy.2.2.2.1, ()⟩, fun j hj => ?_, rfl, ?_⟩
        · match j, hj with
          | 0, hj => rfl
          | 1, hj => rw [hDi] at hj; cases hj
          | 2, hj => rfl
          | 3, hj => rfl
          | 4, hj => rfl
          | 5, hj => rfl
          | 6, hj => rfl
          | 7, hj => rfl
          | 8, hj => rfl
          | 9, hj => rfl
          | 10, hj => rfl
          | 11, hj => rfl
          | 12, hj => rfl
          | 13, hj => rfl
          | 14, hj => rfl
          | 15, hj => rfl
          | 16, hj => rfl
          | 17, hj => rfl
          | 18, hj => rfl
          | 19, hj => rfl
          | 20, hj => rfl
          | 21, hj => rfl
          | 22, hj => rfl
          | 23, hj => rfl
          | 24, hj => rfl
          | 25, hj => rfl
          | 26, hj => rfl
          | j + 27, _ => rfl
        · show HP Tr w w3 ([.cel l #[vI 32, .slice pv (T.drop (T.length - 32)).length cp] 91, .own (.slice pv (T.drop (T.length - 32)).length cp) (T.drop (T.length - 32)).length (iL (T.drop (T.length - 32))) 3 1, .cel g #[.slice qv (T.drop (T.length - 8)).length cq, vI 8, vI ((T.length - 8 : Nat) : Int)] 134, .own (.slice qv (T.drop (T.length - 8)).length cq) (T.drop (T.length - 8)).length (iL (T.drop (T.length - 8))) 3 1] ++ ([Ent.own (.slice ia9 (T.drop (T.length - 32)).length ca9) (T.drop (T.length - 32)).length (iL (T.drop (T.length - 32))) 3 1] ++ ((bif D 10 then [Ent.own (.slice gy.2.2.1 (T.drop (T.length - 8)).length gy.2.2.2.1) (T.drop (T.length - 8)).length (iL (T.drop (T.length - 8))) 3 1] else []) ++ [])))
          simp only [d10, cond_true, cond_false, List.append_nil, List.nil_append, List.cons_append]
          exact HP.trans hW2 hb
      case o2 =>
        intro gy D wz hDi hdep hclo hW
        exact .inl ⟨rfl, rfl, .inl ⟨gy, wz, fun _ _ => rfl, by kernel_rfl, hW⟩⟩
      case o3 =>
        intro gy D wz hDi hdep hclo hW
        exact .inl ⟨rfl, rfl, .inl ⟨gy, wz, fun _ _ => rfl, by kernel_rfl, hW⟩⟩
      case o4 =>
        intro gy D wz hDi hdep hclo hW
        exact .inl ⟨rfl, rfl, .inl ⟨gy, wz, fun _ _ => rfl, x_sub (Z := (T.length : Int) - 32) rfl rfl rfl (by omega) (by omega) (by omega), hW⟩⟩
      case o5 =>
        intro gy D wz hDi hdep hclo hW
        exact .inl ⟨rfl, rfl, .inl ⟨gy, wz, fun _ _ => rfl, x_max (Z := ((T.length - 32 : Nat) : Int)) (t := 0) rfl rfl rfl (by split <;> omega), hW⟩⟩
      case o6 =>
        intro gy D wz hDi hdep hclo hW
        exact .inl ⟨rfl, rfl, .inl ⟨gy, wz, fun _ _ => rfl, by rw [show (T.drop (T.length - 32)).length = T.length - (T.length - 32) from List.length_drop ..]; exact x_sliceLP (T.length - 32) rfl rfl rfl Try.underlying58 rfl (by omega) (row_cap hh).1 sz3, hW⟩⟩
      case o7 =>
        intro gy D wz hDi hdep hclo hW
        have d1 : D 1 = true := hdep ⟨1, .data⟩ (by simp) rfl
        have d8 : D 8 = false := by
          cases h : D 8 with
          | false => rfl
          | true => exact absurd (hclo 8 _ rfl h ⟨7, .data⟩ (by simp) rfl) (by rw [hDi]; exact Bool.false_ne_true)
        have d10 : D 10 = false := by
          cases h : D 10 with
          | false => rfl
          | true => exact absurd (hclo 10 _ rfl h ⟨8, .chain⟩ (by simp) rfl) (by rw [d8]; exact Bool.false_ne_true)
        have hW2 := hW
        simp only [d1, d10, cond_true, cond_false, List.append_nil, List.nil_append, List.cons_append] at hW2
        exact .inl ⟨rfl, rfl, .inr (.inr ⟨32, #[.slice gy.1 ((T.drop (T.length - 32)).length) gy.2.1, .slice (slp pt (T.length - 32) ct) ((T.drop (T.length - 32)).length) (ct - (T.length - 32))], by kernel_rfl, (Ints_src _ _ _ _ (T.drop (T.length - 32)) _ (HP.get hW2 4 rfl) (fun h0 => lo_open (row_below (HP.below hW2) hh) (by omega) h0) (by omega)).mono fun e w2 h => ⟨gy, fun _ _ => rfl, h.1, HP.call hW h.2⟩⟩)⟩
      case o8 =>
        intro gy D wz hDi hdep hclo hW
        exact .inl ⟨rfl, rfl, .inl ⟨gy, wz, fun _ _ => rfl, by kernel_rfl, hW⟩⟩
      case o9 =>
        intro gy D wz hDi hdep hclo hW
        exact .inl ⟨rfl, rfl, .inl ⟨gy, wz, fun _ _ => rfl, by kernel_rfl, hW⟩⟩
      case o10 =>
        intro gy D wz hDi hdep hclo hW
        have d8 : D 8 = true := hdep ⟨8, .chain⟩ (by simp) rfl
        have d7 : D 7 = true := hclo 8 _ rfl d8 ⟨7, .data⟩ (by simp) rfl
        have d1 : D 1 = true := hclo 7 _ rfl d7 ⟨1, .data⟩ (by simp) rfl
        have hW2 := hW
        simp only [d1, hDi, cond_true, cond_false, List.append_nil, List.nil_append, List.cons_append] at hW2
        refine .inl ⟨rfl, rfl, .inr (.inr ⟨84, #[vP g 0], by kernel_rfl, (Last_any g qv cq (T.drop (T.length - 8)) _ _ (HP.ownM (A := [Ent.cel l #[vI 32, .slice pv (T.drop (T.length - 32)).length cp] 91, Ent.own (.slice pv (T.drop (T.length - 32)).length cp) (T.drop (T.length - 32)).length (iL (T.drop (T.length - 32))) 3 1]) (R := [Ent.cel g #[.slice qv (T.drop (T.length - 8)).length cq, vI 8, vI ((T.length - 8 : Nat) : Int)] 134, Ent.own (.slice qv (T.drop (T.length - 8)).length cq) (T.drop (T.length - 8)).length (iL (T.drop (T.length - 8))) 3 1]) hW2) hl8).mono ?_⟩)⟩
        rintro e w3 ⟨ib9, cb9, rfl, hb⟩
        refine ⟨⟨gy.1, gy.2.1, ib9, cb9, ()⟩, fun j hj => ?_, rfl, ?_⟩
        · match j, hj with
          | 0, hj => rfl
          | 1, hj => rfl
          | 2, hj => rfl
          | 3, hj => rfl
          | 4, hj => rfl
          | 5, hj => rfl
          | 6, hj => rfl
          | 7, hj => rfl
          | 8, hj => rfl
          | 9, hj => rfl
          | 10, hj => rw [hDi] at hj; cases hj
          | 11, hj => rfl
          | 12, hj => rfl
          | 13, hj => rfl
          | 14, hj => rfl
          | 15, hj => rfl
          | 16, hj => rfl
          | 17, hj => rfl
          | 18, hj => rfl
          | 19, hj => rfl
          | 20, hj => rfl
          | 21, hj => rfl
          | 22, hj => rfl
          | 23, hj => rfl
          | 24, hj => rfl
          | 25, hj => rfl
          | 26, hj => rfl
          | j + 27, _ => rfl
        · show HP Tr w w3 ([.cel l #[vI 32, .slice pv (T.drop (T.length - 32)).length cp] 91, .own (.slice pv (T.drop (T.length - 32)).length cp) (T.drop (T.length - 32)).length (iL (T.drop (T.length - 32))) 3 1, .cel g #[.slice qv (T.drop (T.length - 8)).length cq, vI 8, vI ((T.length - 8 : Nat) : Int)] 134, .own (.slice qv (T.drop (T.length - 8)).length cq) (T.drop (T.length - 8)).length (iL (T.drop (T.length - 8))) 3 1] ++ ((bif D 1 then [Ent.own (.slice gy.1 (T.drop (T.length - 32)).length gy.2.1) (T.drop (T.length - 32)).length (iL (T.drop (T.length - 32))) 3 1] else []) ++ ([Ent.own (.slice ib9 (T.drop (T.length - 8)).length cb9) (T.drop (T.length - 8)).length (iL (T.drop (T.length - 8))) 3 1] ++ [])))
          simp only [d1, cond_true, cond_false, List.append_nil, List.nil_append, List.cons_append]
          exact HP.trans hW2 hb
      case o11 =>
        intro gy D wz hDi hdep hclo hW
        exact .inl ⟨rfl, rfl, .inl ⟨gy, wz, fun _ _ => rfl, by kernel_rfl, hW⟩⟩
      case o12 =>
        intro gy D wz hDi hdep hclo hW
        exact .inl ⟨rfl, rfl, .inl ⟨gy, wz, fun _ _ => rfl, by kernel_rfl, hW⟩⟩
      case o13 =>
        intro gy D wz hDi hdep hclo hW
        exact .inl ⟨rfl, rfl, .inl ⟨gy, wz, fun _ _ => rfl, x_sub (Z := (T.length : Int) - 8) rfl rfl rfl (by omega) (by omega) (by omega), hW⟩⟩
      case o14 =>
        intro gy D wz hDi hdep hclo hW
        exact .inl ⟨rfl, rfl, .inl ⟨gy, wz, fun _ _ => rfl, x_max (Z := ((T.length - 8 : Nat) : Int)) (t := 0) rfl rfl rfl (by split <;> omega), hW⟩⟩
      case o15 =>
        intro gy D wz hDi hdep hclo hW
        exact .inl ⟨rfl, rfl, .inl ⟨gy, wz, fun _ _ => rfl, by rw [show (T.drop (T.length - 8)).length = T.length - (T.length - 8) from List.length_drop ..]; exact x_sliceLP (T.length - 8) rfl rfl rfl Try.underlying58 rfl (by omega) (row_cap hh).1 sz3, hW⟩⟩
      case o16 =>
        intro gy D wz hDi hdep hclo hW
        have d8 : D 8 = true := hdep ⟨8, .guard⟩ (by simp) rfl
        have d7 : D 7 = true := hclo 8 _ rfl d8 ⟨7, .data⟩ (by simp) rfl
        have d1 : D 1 = true := hclo 7 _ rfl d7 ⟨1, .data⟩ (by simp) rfl
        have d10 : D 10 = true := hdep ⟨10, .data⟩ (by simp) rfl
        have hW2 := hW
        simp only [d1, d10, cond_true, cond_false, List.append_nil, List.nil_append, List.cons_append] at hW2
        exact .inl ⟨rfl, rfl, .inr (.inr ⟨32, #[.slice gy.2.2.1 ((T.drop (T.length - 8)).length) gy.2.2.2.1, .slice (slp pt (T.length - 8) ct) ((T.drop (T.length - 8)).length) (ct - (T.length - 8))], by kernel_rfl, (Ints_src _ _ _ _ (T.drop (T.length - 8)) _ (HP.get hW2 5 rfl) (fun h0 => lo_open (row_below (HP.below hW2) hh) (by omega) h0) (by omega)).mono fun e w2 h => ⟨gy, fun _ _ => rfl, h.1, HP.call hW h.2⟩⟩)⟩
      case o17 =>
        intro gy D wz hDi hdep hclo hW
        exact .inl ⟨rfl, rfl, .inl ⟨gy, wz, fun _ _ => rfl, by kernel_rfl, hW⟩⟩
      case o18 =>
        intro gy D wz hDi hdep hclo hW
        exact .inl ⟨rfl, rfl, .inl ⟨gy, wz, fun _ _ => rfl, by kernel_rfl, hW⟩⟩
      case o19 =>
        intro gy D wz hDi hdep hclo hW
        exact .inl ⟨rfl, rfl, .inl ⟨gy, wz, fun _ _ => rfl, by kernel_rfl, hW⟩⟩
      case o20 =>
        intro gy D wz hDi hdep hclo hW
        have d18 : D 18 = true := hdep ⟨18, .chain⟩ (by simp) rfl
        have d17 : D 17 = true := hclo 18 _ rfl d18 ⟨17, .data⟩ (by simp) rfl
        have d8 : D 8 = true := hclo 17 _ rfl d17 ⟨8, .data⟩ (by simp) rfl
        have d7 : D 7 = true := hclo 8 _ rfl d8 ⟨7, .data⟩ (by simp) rfl
        have d1 : D 1 = true := hclo 7 _ rfl d7 ⟨1, .data⟩ (by simp) rfl
        have d16 : D 16 = true := hclo 18 _ rfl d18 ⟨16, .chain⟩ (by simp) rfl
        have d10 : D 10 = true := hclo 16 _ rfl d16 ⟨10, .data⟩ (by simp) rfl
        have hW2 := hW
        simp only [d1, d10, cond_true, cond_false, List.append_nil, List.nil_append, List.cons_append] at hW2
        exact .inl ⟨rfl, rfl, .inr (.inr ⟨85, #[vP g 0], by kernel_rfl, (Lost_any g qv cq (T.drop (T.length - 8)) _ _ (HP.ownM (A := [Ent.cel l #[vI 32, .slice pv (T.drop (T.length - 32)).length cp] 91, Ent.own (.slice pv (T.drop (T.length - 32)).length cp) (T.drop (T.length - 32)).length (iL (T.drop (T.length - 32))) 3 1]) (R := [Ent.cel g #[.slice qv (T.drop (T.length - 8)).length cq, vI 8, vI ((T.length - 8 : Nat) : Int)] 134, Ent.own (.slice qv (T.drop (T.length - 8)).length cq) (T.drop (T.length - 8)).length (iL (T.drop (T.length - 8))) 3 1]) hW2) hl8).mono fun e w2 h => ⟨gy, fun _ _ => rfl, h.1, HP.call hW h.2⟩⟩)⟩
      case o21 =>
        intro gy D wz hDi hdep hclo hW
        exact .inl ⟨rfl, rfl, .inl ⟨gy, wz, fun _ _ => rfl, by kernel_rfl, hW⟩⟩
      case o22 =>
        intro gy D wz hDi hdep hclo hW
        exact .inl ⟨rfl, rfl, .inl ⟨gy, wz, fun _ _ => rfl, x_sub (Z := (T.length : Int) - 8) rfl rfl rfl (by omega) (by omega) (by omega), hW⟩⟩
      case o23 =>
        intro gy D wz hDi hdep hclo hW
        exact .inl ⟨rfl, rfl, .inl ⟨gy, wz, fun _ _ => rfl, x_max (Z := ((T.length - 8 : Nat) : Int)) (t := 0) rfl rfl rfl (by split <;> omega), hW⟩⟩
      case o24 =>
        intro gy D wz hDi hdep hclo hW
        exact .inl ⟨rfl, rfl, .inl ⟨gy, wz, fun _ _ => rfl, x_eql rfl rfl rfl (dT (rfl)), hW⟩⟩
      case o25 =>
        intro gy D wz hDi hdep hclo hW
        exact .inl ⟨rfl, rfl, .inl ⟨gy, wz, fun _ _ => rfl, by kernel_rfl, hW⟩⟩
      case o26 =>
        intro gy D wz hDi hdep hclo hW
        exact .inl ⟨rfl, rfl, .inl ⟨gy, wz, fun _ _ => rfl, by kernel_rfl, hW⟩⟩
    rintro ⟨ia9, ca9, ib9, cb9, gu⟩ D w42 hall hH43
    simp only [hall 1 (by kernel_rfl), hall 10 (by kernel_rfl), cond_true, List.append_nil, List.nil_append, List.cons_append] at hH43
    clear hall
    refine WQ.sub (l' := [(0, .slice pt T.length ct), (2, .bool true), (3, vP l 0), (5, vP g 0), (7, vI (i : Int)), (10, vI (T.length : Int)), (28, .bool false)]) ⟨rfl, rfl, rfl, rfl, rfl, rfl, rfl, trivial⟩ ?_
    refine WQ.then ?_
    refine hK41 _ _ _ ?_
    refine WC.ret ?_
    refine WQ.ret1 2 rfl rfl ?_
    exact ⟨rfl, HP.below hH43⟩
end Qp
end Go.Proofs.Ytgdfbpphfanocaa
