/- Parse of both. -/
import Derived.Test.YteeljnlepbnhkaaDoorPD
import Derived.Test.YteeljnlepbnhkaaDoorEX
set_option linter.unusedVariables false
set_option linter.unusedSimpArgs false
namespace Go.Proofs.YteeljnlepbnhkaaDoor
open Go.RowKit Fw
namespace Cw
open Qa Go.Lib Ec
set_option maxRecDepth 20000 in
set_option maxHeartbeats 4000000 in
theorem Check_big (p : Option Addr) (n cap : Nat) (c A B : Nat → Int) (pl : Bool) (w : World) (hn : 120 < n) :
    Calls Tryd.prog 13 #[.slice p n cap, .bool pl] w fun e w' => e = .returned (.int .i64 (chk c A B pl n)) ∧ Below w.heap.size w w' := by
  refine calls_of Tryd.func13 rfl (m := 18) rfl [(0, .slice p n cap), (1, .bool pl)] (Fr_enter [.slice p n cap, .bool pl] 18 (Nat.le_of_ble_eq_true rfl)) ?_
  have hH1 : HP Tr w w [] := HP.refl w
  refine WC.seq fun K2 hK2 => ?_
  refine WC.region ?_
  refine WL.alloc (c := #[.bool pl]) (T := 4) hH1 3 rfl (by decide) rfl rfl (fun b1 => vP b1 0) (by kernel_rfl) (fun b1 w3 hw3 => ?_)
  have hH4 : HP Tr w w3 [.cel b1 #[.bool pl] 4] := hw3.2
  have nb1 := hw3.1
  clear hw3
  refine WL.pure (v := vI 0) 4 rfl (Nat.le_of_ble_eq_true rfl) rfl rfl (by kernel_rfl) ?_
  refine WL.nil ?_
  refine WQ.then ?_
  refine hK2 _ _ _ ?_
  refine WC.seq fun K5 hK5 => ?_
  refine WC.block ?_
  refine WC.seq fun K6 hK6 => ?_
  refine WC.region ?_
  refine WL.pure (v := .slice p n cap) 6 rfl (Nat.le_of_ble_eq_true rfl) rfl rfl (by kernel_rfl) ?_
  refine WL.pure (v := vI (n : Int)) 7 rfl (Nat.le_of_ble_eq_true rfl) rfl rfl (by kernel_rfl) ?_
  refine WL.pure (v := .bool true) 8 rfl (Nat.le_of_ble_eq_true rfl) rfl rfl (x_gtr rfl rfl rfl (dT (by omega))) ?_
  refine WL.pure (v := .bool true) 5 rfl (Nat.le_of_ble_eq_true rfl) rfl rfl (by kernel_rfl) ?_
  refine WL.nil ?_
  refine WQ.then ?_
  refine hK6 _ _ _ ?_
  refine WC.yes rfl ?_
  refine WC.seq fun K7 hK7 => ?_
  refine WC.region ?_
  refine WL.pure (v := vI 2) 4 rfl (Nat.le_of_ble_eq_true rfl) rfl rfl (by kernel_rfl) ?_
  refine WL.nil ?_
  refine WQ.then ?_
  refine hK7 _ _ _ ?_
  refine WC.ret ?_
  refine WQ.inRet ?_
  refine WQ.thenRet ?_
  refine WQ.ret1 4 rfl rfl ?_
  exact ⟨by rw [show chk c A B pl n = 2 by unfold chk; rw [if_pos (by omega)]], HP.below hH4⟩
set_option maxRecDepth 20000 in
set_option maxHeartbeats 4000000 in
theorem rCheck_big (p : Option Addr) (n cap : Nat) (c A B : Nat → Int) (pl : Bool) (w : World) (hn : 120 < n) :
    Calls Tryd.prog 30 #[.slice p n cap, .bool pl] w fun e w' => e = .returned (.int .i64 (chk c A B pl n)) ∧ Below w.heap.size w w' := by
  refine calls_of Tryd.func30 rfl (m := 41) rfl [(0, .slice p n cap), (1, .bool pl)] (Fr_enter [.slice p n cap, .bool pl] 41 (Nat.le_of_ble_eq_true rfl)) ?_
  have hH1 : HP Tr w w [] := HP.refl w
  refine WC.seq fun K2 hK2 => ?_
  refine WC.region ?_
  refine WL.pure (v := vI 0) 4 rfl (Nat.le_of_ble_eq_true rfl) rfl rfl (by kernel_rfl) ?_
  refine WL.nil ?_
  refine WQ.then ?_
  refine hK2 _ _ _ ?_
  refine WC.seq fun K3 hK3 => ?_
  refine WC.seq fun K4 hK4 => ?_
  refine WC.region ?_
  refine WL.pure (v := .slice p n cap) 8 rfl (Nat.le_of_ble_eq_true rfl) rfl rfl (by kernel_rfl) ?_
  refine WL.pure (v := vI (n : Int)) 9 rfl (Nat.le_of_ble_eq_true rfl) rfl rfl (by kernel_rfl) ?_
  refine WL.pure (v := .bool true) 10 rfl (Nat.le_of_ble_eq_true rfl) rfl rfl (x_gtr rfl rfl rfl (dT (by omega))) ?_
  refine WL.nil ?_
  refine WQ.then ?_
  refine hK4 _ _ _ ?_
  refine WC.yes rfl ?_
  refine WC.seq fun K5 hK5 => ?_
  refine WC.region ?_
  refine WL.pure (v := vI 2) 4 rfl (Nat.le_of_ble_eq_true rfl) rfl rfl (by kernel_rfl) ?_
  refine WL.nil ?_
  refine WQ.then ?_
  refine hK5 _ _ _ ?_
  refine WC.ret ?_
  refine WQ.thenRet ?_
  refine WQ.ret1 4 rfl rfl ?_
  exact ⟨by rw [show chk c A B pl n = 2 by unfold chk; rw [if_pos (by omega)]], HP.below hH1⟩
theorem Check2_any (p : Option Addr) (n cap : Nat) (c A B : Nat → Int) (pl : Bool) (w : World) (hIn : InC w p n c A B) : Calls Tryd.prog 13 #[.slice p n cap, .bool pl] w fun e w' => e = .returned (.int .i64 (chk c A B pl n)) ∧ Below w.heap.size w w' := by
  by_cases h : n ≤ 400
  · exact Check_any p n cap c A B pl w hIn h
  · exact Check_big p n cap c A B pl w (by omega)
theorem rCheck2_any (p : Option Addr) (n cap : Nat) (c A B : Nat → Int) (pl : Bool) (w : World) (hIn : InC w p n c A B) : Calls Tryd.prog 30 #[.slice p n cap, .bool pl] w fun e w' => e = .returned (.int .i64 (chk c A B pl n)) ∧ Below w.heap.size w w' := by
  by_cases h : n ≤ 400
  · exact rCheck_any p n cap c A B pl w hIn h
  · exact rCheck_big p n cap c A B pl w (by omega)
theorem wl_bd : ∀ (l cur : List UInt8), (∀ x ∈ wl cur l, x.length ≤ cur.length + l.length) ∧ (wl cur l).length ≤ l.length + 1
  | [], cur => by
    simp only [wl]
    split <;> simp
  | b :: r, cur => by
    simp only [wl]
    split
    · split
      · obtain ⟨h1, h2⟩ := wl_bd r []
        exact ⟨fun x hx => by have := h1 x hx; simp at this ⊢; omega, by simp; omega⟩
      · obtain ⟨h1, h2⟩ := wl_bd r []
        refine ⟨fun x hx => ?_, by simp; omega⟩
        rcases List.mem_cons.1 hx with rfl | hx
        · omega
        · have := h1 x hx; simp at this ⊢; omega
    · obtain ⟨h1, h2⟩ := wl_bd r (cur ++ [b])
      exact ⟨fun x hx => by have := h1 x hx; simp at this ⊢; omega, by simp; omega⟩
theorem ll_bd : ∀ (l cur : List UInt8), (∀ x ∈ ll cur l, x.length ≤ cur.length + l.length) ∧ (ll cur l).length ≤ l.length + 1
  | [], cur => by
    simp only [ll]
    split <;> simp
  | b :: r, cur => by
    simp only [ll]
    split
    · obtain ⟨h1, h2⟩ := ll_bd r []
      refine ⟨fun x hx => ?_, by simp; omega⟩
      rcases List.mem_cons.1 hx with rfl | hx
      · omega
      · have := h1 x hx; simp at this ⊢; omega
    · obtain ⟨h1, h2⟩ := ll_bd r (cur ++ [b])
      exact ⟨fun x hx => by have := h1 x hx; simp at this ⊢; omega, by simp; omega⟩
/-- one line off -/
theorem cut2_any (l : List UInt8) (w : World) (hl : l.length ≤ 1000000) (hne : l ≠ []) :
    Calls Tryd.prog 23 #[.string (bS l), .string (bS ([10]))] w fun e w' => ∃ x y bb, e = .returned (.tuple #[.string (bS x), .string (bS y), .bool bb]) ∧ (ll [] l = x :: ll [] y ∧ y.length + 1 ≤ l.length ∧ x.length ≤ l.length) ∧ Below w.heap.size w w' := by
  refine (cut_any l w hl).mono ?_
  rintro e w' ⟨⟨h, rfl⟩ | ⟨l1, l2, rfl, h, rfl⟩, hb⟩
  · exact ⟨l, [], false, rfl, ⟨by rw [ll_last h hne]; rfl, by have := List.length_pos_iff.2 hne; simp; omega, Nat.le_refl _⟩, hb⟩
  · exact ⟨l1, l2, true, rfl, ⟨ll_cut h, by simp <;> omega, by simp⟩, hb⟩
theorem fields2_any (l : List UInt8) (w : World) (hl : l.length ≤ 1000000) :
    Calls Tryd.prog 24 #[.string (bS l), .func (.func 25) #[] #[]] w fun e w' => ∃ ws pv cp, e = .returned (.slice pv ws.length cp) ∧ wl [] l = ws ∧ HP Tr w w' [rowS pv ws.length cp ws] :=
  (fields_any l w (by omega)).mono fun e w' ⟨pv, cp, he, hb⟩ => ⟨_, pv, cp, he, rfl, hb⟩
theorem words2_any (l : List UInt8) (w : World) (hl : l.length ≤ 1000000) :
    Calls Tryd.prog 28 #[.string (bS l)] w fun e w' => ∃ ws pv cp, e = .returned (.slice pv ws.length cp) ∧ wl [] l = ws ∧ HP Tr w w' [rowS pv ws.length cp ws] :=
  (Words_any l w hl).mono fun e w' ⟨pv, cp, he, hb⟩ => ⟨_, pv, cp, he, rfl, hb⟩
theorem lines2_any (l : List UInt8) (w : World) (hl : l.length ≤ 1000000) :
    Calls Tryd.prog 27 #[.string (bS l)] w fun e w' => ∃ ws pv cp, e = .returned (.slice pv ws.length cp) ∧ ll [] l = ws ∧ HP Tr w w' [rowS pv ws.length cp ws] :=
  (Lines_any l w hl).mono fun e w' ⟨pv, cp, he, hb⟩ => ⟨_, pv, cp, he, rfl, hb⟩
theorem T_push (T : List I3) (i : I3) : insL (cT T) (aT T) (bT T) T.length ++ [vI i.1, vI i.2.1, vI i.2.2] = insL (cT (T ++ [i])) (aT (T ++ [i])) (bT (T ++ [i])) (T ++ [i]).length := by
  rw [List.length_append, List.length_singleton]
  refine insL_push _ _ _ _ _ _ _ _ _ _ (fun k hk => ?_) ?_
  · refine ⟨?_, ?_, ?_⟩ <;> simp [cT, aT, bT, List.getElem?_append_left hk]
  · simp [cT, aT, bT, List.getD_eq_getElem?_getD]
theorem par_nil {x : List UInt8} {r : List (List UInt8)} {T : List I3} {k : Nat} (h : wl [] x = []) : parV (x :: r) T k = parV r T (k + 1) := by simp only [parV, h]
theorem par_bad {x w0 : List UInt8} {r ws : List (List UInt8)} {T : List I3} {k : Nat} (h : wl [] x = w0 :: ws) (h2 : insV (w0 :: ws) = none) : parV (x :: r) T k = .inl (k + 1) := by simp only [parV, h, h2]
theorem par_ok {x w0 : List UInt8} {r ws : List (List UInt8)} {T : List I3} {k : Nat} {i : I3} (h : wl [] x = w0 :: ws) (h2 : insV (w0 :: ws) = some i) : parV (x :: r) T k = parV r (T ++ [i]) (k + 1) := by simp only [parV, h, h2]
/-- what Parse answers -/
def ParP (X : Nat ⊕ List I3) (w : World) (e : Ending) (w' : World) : Prop :=
  (∃ ln, X = .inl ln ∧ e = .returned (.tuple #[.slice none 0 0, vI (ln : Int), vI 4]) ∧ Below w.heap.size w w') ∨ (∃ T, X = .inr T ∧ chkT T ≠ 0 ∧ e = .returned (.tuple #[.slice none 0 0, vI 0, vI (chkT T)]) ∧ Below w.heap.size w w') ∨ (∃ T pv cp, X = .inr T ∧ chkT T = 0 ∧ e = .returned (.tuple #[.slice pv T.length cp, vI 0, vI 0]) ∧ HP Tr w w' [ownI pv T.length cp (cT T) (aT T) (bT T)])
set_option maxRecDepth 20000 in
set_option maxHeartbeats 4000000 in
theorem Parse_any (l : List UInt8) (w : World) (hl : l.length ≤ 100000) (hE : Ev w) :
    Calls Tryd.prog 8 #[.string (bS l)] w (ParP (parV (ll [] l) [] 0) w) := by
  refine calls_of Tryd.func8 rfl (m := 48) rfl [(0, .string (bS l))] (Fr_enter [.string (bS l)] 48 (Nat.le_of_ble_eq_true rfl)) ?_
  have hH1 : HP Tr w w [] := HP.refl w
  refine WC.seq fun K2 hK2 => ?_
  refine WC.region ?_
  refine WL.pure (v := .slice none 0 0) 2 rfl (Nat.le_of_ble_eq_true rfl) rfl rfl (by kernel_rfl) ?_
  refine WL.pure (v := vI 0) 3 rfl (Nat.le_of_ble_eq_true rfl) rfl rfl (by kernel_rfl) ?_
  refine WL.pure (v := vI 0) 4 rfl (Nat.le_of_ble_eq_true rfl) rfl rfl (by kernel_rfl) ?_
  refine WL.nil ?_
  refine WQ.then ?_
  refine hK2 _ _ _ ?_
  refine WC.seq fun K3 hK3 => ?_
  refine WC.region ?_
  refine WL.pure (v := .slice none 0 0) 5 rfl (Nat.le_of_ble_eq_true rfl) rfl rfl (by kernel_rfl) ?_
  refine WL.nil ?_
  refine WQ.then ?_
  refine hK3 _ _ _ ?_
  refine WC.seq fun K4 hK4 => ?_
  refine WC.region ?_
  refine WL.pure (v := vI 0) 6 rfl (Nat.le_of_ble_eq_true rfl) rfl rfl (by kernel_rfl) ?_
  refine WL.nil ?_
  refine WQ.then ?_
  refine hK4 _ _ _ ?_
  refine WC.seq fun K5 hK5 => ?_
  refine WC.block ?_
  refine WC.loop (fun kk0 ll0 ww0 => ∃ (rest : List UInt8) (line : Nat) (T : List I3) (pv : Option Addr) (cp : Nat), ll0 = [(0, .string (bS rest)), (5, .slice pv T.length cp), (6, vI (line : Int))] ∧ kk0 = rest.length ∧ (parV (ll [] l) [] 0 = parV (ll [] rest) T line) ∧ (rest.length + line ≤ l.length) ∧ (T.length ≤ line) ∧ HP Tr w ww0 [ownI pv T.length cp (cT T) (aT T) (bT T)]) (l.length) [(0, .string (bS l)), (5, .slice none 0 0), (6, vI 0)] ⟨rfl, rfl, rfl, trivial⟩ ⟨l, 0, [], none, 0, rfl, rfl, rfl, by omega, by simp, HP.ownNil hH1 33 3⟩ ?_
  rintro kk l w7 ⟨rest, line, T, pv, cp, rfl, hkk, hp, hrl, hTl, hH8⟩ K6 hK6
  refine WC.seq fun K9 hK9 => ?_
  refine WC.seq fun K10 hK10 => ?_
  refine WC.region ?_
  refine WL.pure (v := .string (bS rest)) 14 rfl (Nat.le_of_ble_eq_true rfl) rfl rfl (by kernel_rfl) ?_
  by_cases hne : rest = []
  ·
    refine WL.pure (v := .bool false) 15 rfl (Nat.le_of_ble_eq_true rfl) rfl rfl (x_neqs rfl rfl rfl (dF (fun h => h (congrArg bS hne)))) ?_
    refine WL.nil ?_
    refine WQ.then ?_
    refine hK10 _ _ _ ?_
    refine WC.no rfl ?_
    refine WC.exit ?_
    refine WQ.thenExit ?_
    refine WQ.thenExit ?_
    refine WQ.inExit ?_
    refine WQ.then ?_
    refine hK5 _ _ _ ?_
    refine WC.seq fun K11 hK11 => ?_
    refine WC.seq fun K12 hK12 => ?_
    have hfin : parV (ll [] l) [] 0 = .inr T := by rw [hp, show rest = [] from by simpa using hne]; rfl
    refine WC.region ?_
    refine WL.pure (v := .slice pv T.length cp) 42 rfl (Nat.le_of_ble_eq_true rfl) rfl rfl (by kernel_rfl) ?_
    refine WL.call (f := 13) (args := #[.slice pv T.length cp, .bool false]) 43 rfl (Nat.le_of_ble_eq_true rfl) rfl rfl (by kernel_rfl) ?_
    refine (Check2_any _ _ _ (cT T) (aT T) (bT T) false _ (own_rowIn (HP.get hH8 0 rfl)).inC).mono ?_
    rintro e w13 ⟨rfl, hb14⟩
    refine ⟨_, rfl, ?_⟩
    have hH15 : HP Tr w _ [ownI pv T.length cp (cT T) (aT T) (bT T)] := HP.call hH8 hb14
    refine WL.pure (v := vI (chkT T)) 13 rfl (Nat.le_of_ble_eq_true rfl) rfl rfl (by kernel_rfl) ?_
    refine WL.nil ?_
    refine WQ.then ?_
    refine hK12 _ _ _ ?_
    refine WC.seq fun K16 hK16 => ?_
    refine WC.region ?_
    refine WL.pure (v := vI (chkT T)) 44 rfl (Nat.le_of_ble_eq_true rfl) rfl rfl (by kernel_rfl) ?_
    by_cases hc : chkT T ≠ 0
    ·
      refine WL.pure (v := .bool true) 45 rfl (Nat.le_of_ble_eq_true rfl) rfl rfl (x_neq rfl rfl rfl (dT (hc))) ?_
      refine WL.nil ?_
      refine WQ.then ?_
      refine hK16 _ _ _ ?_
      refine WC.yes rfl ?_
      refine WC.seq fun K17 hK17 => ?_
      refine WC.region ?_
      refine WL.pure (v := vI (chkT T)) 46 rfl (Nat.le_of_ble_eq_true rfl) rfl rfl (by kernel_rfl) ?_
      refine WL.pure (v := .slice none 0 0) 2 rfl (Nat.le_of_ble_eq_true rfl) rfl rfl (by kernel_rfl) ?_
      refine WL.pure (v := vI 0) 3 rfl (Nat.le_of_ble_eq_true rfl) rfl rfl (by kernel_rfl) ?_
      refine WL.pure (v := vI (chkT T)) 4 rfl (Nat.le_of_ble_eq_true rfl) rfl rfl (by kernel_rfl) ?_
      refine WL.nil ?_
      refine WQ.then ?_
      refine hK17 _ _ _ ?_
      refine WC.ret ?_
      refine WQ.thenRet ?_
      refine WQ.ret3 2 3 4 rfl rfl rfl rfl ?_
      exact .inr (.inl ⟨T, hfin, hc, rfl, HP.below hH15⟩)
    ·
      refine WL.pure (v := .bool false) 45 rfl (Nat.le_of_ble_eq_true rfl) rfl rfl (x_neq rfl rfl rfl (dF (hc))) ?_
      refine WL.nil ?_
      refine WQ.then ?_
      refine hK16 _ _ _ ?_
      refine WC.no rfl ?_
      refine WC.skip ?_
      refine WQ.then ?_
      refine hK11 _ _ _ ?_
      refine WC.seq fun K18 hK18 => ?_
      refine WC.region ?_
      refine WL.pure (v := .slice pv T.length cp) 47 rfl (Nat.le_of_ble_eq_true rfl) rfl rfl (by kernel_rfl) ?_
      refine WL.pure (v := .slice pv T.length cp) 2 rfl (Nat.le_of_ble_eq_true rfl) rfl rfl (by kernel_rfl) ?_
      refine WL.pure (v := vI 0) 3 rfl (Nat.le_of_ble_eq_true rfl) rfl rfl (by kernel_rfl) ?_
      refine WL.pure (v := vI 0) 4 rfl (Nat.le_of_ble_eq_true rfl) rfl rfl (by kernel_rfl) ?_
      refine WL.nil ?_
      refine WQ.then ?_
      refine hK18 _ _ _ ?_
      refine WC.ret ?_
      refine WQ.ret3 2 3 4 rfl rfl rfl rfl ?_
      exact .inr (.inr ⟨T, pv, cp, hfin, Classical.not_not.1 hc, rfl, hH15⟩)
  ·
    refine WL.pure (v := .bool true) 15 rfl (Nat.le_of_ble_eq_true rfl) rfl rfl (x_neqs rfl rfl rfl (dT (fun h => hne (bS_inj h)))) ?_
    refine WL.nil ?_
    refine WQ.then ?_
    refine hK10 _ _ _ ?_
    refine WC.yes rfl ?_
    refine WC.skip ?_
    refine WQ.then ?_
    refine hK9 _ _ _ ?_
    refine WC.block ?_
    refine WC.seq fun K19 hK19 => ?_
    refine WC.region ?_
    refine WL.pure (v := .string (bS rest)) 17 rfl (Nat.le_of_ble_eq_true rfl) rfl rfl (by kernel_rfl) ?_
    refine WL.call (f := 23) (args := #[.string (bS rest), .string (bS [10])]) 18 rfl (Nat.le_of_ble_eq_true rfl) rfl rfl (by kernel_rfl) ?_
    refine (cut2_any rest _ (by omega) hne).mono ?_
    rintro e w3 ⟨x, y, bb, rfl, ⟨hll, hyl, hxl⟩, hb3⟩
    refine ⟨_, rfl, ?_⟩
    have hH20 : HP Tr w _ [ownI pv T.length cp (cT T) (aT T) (bT T)] := HP.call hH8 hb3
    refine WL.pure (v := .tuple #[.string (bS x), .string (bS y), .bool bb]) 16 rfl (Nat.le_of_ble_eq_true rfl) rfl rfl (by kernel_rfl) ?_
    refine WL.pure (v := .string (bS x)) 19 rfl (Nat.le_of_ble_eq_true rfl) rfl rfl (by kernel_rfl) ?_
    refine WL.pure (v := .string (bS y)) 20 rfl (Nat.le_of_ble_eq_true rfl) rfl rfl (by kernel_rfl) ?_
    refine WL.pure (v := .bool bb) 21 rfl (Nat.le_of_ble_eq_true rfl) rfl rfl (by kernel_rfl) ?_
    refine WL.pure (v := .string (bS x)) 7 rfl (Nat.le_of_ble_eq_true rfl) rfl rfl (by kernel_rfl) ?_
    refine WL.pure (v := .string (bS y)) 8 rfl (Nat.le_of_ble_eq_true rfl) rfl rfl (by kernel_rfl) ?_
    refine WL.pure (v := .bool bb) 9 rfl (Nat.le_of_ble_eq_true rfl) rfl rfl (by kernel_rfl) ?_
    refine WL.nil ?_
    refine WQ.then ?_
    refine hK19 _ _ _ ?_
    refine WC.sub (l' := [(0, .string (bS rest)), (5, .slice pv T.length cp), (6, vI (line : Int)), (7, .string (bS x)), (8, .string (bS y)), (15, .bool true)]) ⟨rfl, rfl, rfl, rfl, rfl, rfl, trivial⟩ ?_
    refine WC.seq fun K21 hK21 => ?_
    refine WC.region ?_
    refine WL.pure (v := .string (bS y)) 22 rfl (Nat.le_of_ble_eq_true rfl) rfl rfl (by kernel_rfl) ?_
    refine WL.pure (v := .string (bS y)) 0 rfl (Nat.le_of_ble_eq_true rfl) rfl rfl (by kernel_rfl) ?_
    refine WL.nil ?_
    refine WQ.then ?_
    refine hK21 _ _ _ ?_
    refine WC.seq fun K22 hK22 => ?_
    refine WC.region ?_
    refine WL.pure (v := vI (line : Int)) 23 rfl (Nat.le_of_ble_eq_true rfl) rfl rfl (by kernel_rfl) ?_
    refine WL.pure (v := vI ((line + 1 : Nat) : Int)) 24 rfl (Nat.le_of_ble_eq_true rfl) rfl rfl (x_add (Z := ((line + 1 : Nat) : Int)) rfl rfl rfl (by omega) (by omega) (by omega)) ?_
    refine WL.pure (v := vI ((line + 1 : Nat) : Int)) 6 rfl (Nat.le_of_ble_eq_true rfl) rfl rfl (by kernel_rfl) ?_
    refine WL.nil ?_
    refine WQ.then ?_
    refine hK22 _ _ _ ?_
    refine WC.seq fun K23 hK23 => ?_
    refine WC.region ?_
    refine WL.pure (v := .string (bS x)) 25 rfl (Nat.le_of_ble_eq_true rfl) rfl rfl (by kernel_rfl) ?_
    refine WL.call (f := 24) (args := #[.string (bS x), .func (.func 25) #[] #[]]) 26 rfl (Nat.le_of_ble_eq_true rfl) rfl rfl (by kernel_rfl) ?_
    refine (fields2_any x _ (by omega)).mono ?_
    rintro e w4 ⟨ws, pw, cw, rfl, hws, hb4⟩
    refine ⟨_, rfl, ?_⟩
    rcases ws with _ | ⟨w0, r⟩
    ·
      have hH24 : HP Tr w _ [ownI pv T.length cp (cT T) (aT T) (bT T), rowS pw ([] : List (List UInt8)).length cw ([] : List (List UInt8))] := HP.trans hH20 hb4
      refine WL.pure (v := .slice pw (([] : List (List UInt8)).length) cw) 10 rfl (Nat.le_of_ble_eq_true rfl) rfl rfl (by kernel_rfl) ?_
      refine WL.nil ?_
      refine WQ.then ?_
      refine hK23 _ _ _ ?_
      refine WC.sub (l' := [(0, .string (bS y)), (5, .slice pv T.length cp), (6, vI ((line + 1 : Nat) : Int)), (7, .string (bS x)), (8, .string (bS y)), (10, .slice pw (([] : List (List UInt8)).length) cw), (15, .bool true)]) ⟨rfl, rfl, rfl, rfl, rfl, rfl, rfl, trivial⟩ ?_
      refine WC.seq fun K25 hK25 => ?_
      refine WC.seq fun K26 hK26 => ?_
      refine WC.region ?_
      refine WL.pure (v := .slice pw (([] : List (List UInt8)).length) cw) 27 rfl (Nat.le_of_ble_eq_true rfl) rfl rfl (by kernel_rfl) ?_
      refine WL.pure (v := vI ((([] : List (List UInt8)).length : Nat) : Int)) 28 rfl (Nat.le_of_ble_eq_true rfl) rfl rfl (by kernel_rfl) ?_
      refine WL.pure (v := .bool true) 29 rfl (Nat.le_of_ble_eq_true rfl) rfl rfl (x_eql rfl rfl rfl (dT rfl)) ?_
      refine WL.nil ?_
      refine WQ.then ?_
      refine hK26 _ _ _ ?_
      refine WC.yes rfl ?_
      refine WC.exit ?_
      refine WQ.thenExit ?_
      refine WQ.inExit ?_
      refine WQ.sub (l' := [(0, .string (bS y)), (5, .slice pv T.length cp), (6, vI ((line + 1 : Nat) : Int))]) ⟨rfl, rfl, rfl, trivial⟩ ?_
      refine WQ.then (hK6 _ _ _ (by omega) ⟨y, line + 1, T, pv, cp, rfl, rfl, by rw [hp, hll, par_nil hws], by omega, by omega, (HP.drop hH24 1)⟩)
    ·
      have hH27 : HP Tr w _ [ownI pv T.length cp (cT T) (aT T) (bT T), rowS pw (w0 :: r).length cw (w0 :: r)] := HP.trans hH20 hb4
      refine WL.pure (v := .slice pw ((w0 :: r).length) cw) 10 rfl (Nat.le_of_ble_eq_true rfl) rfl rfl (by kernel_rfl) ?_
      refine WL.nil ?_
      refine WQ.then ?_
      refine hK23 _ _ _ ?_
      refine WC.sub (l' := [(0, .string (bS y)), (5, .slice pv T.length cp), (6, vI ((line + 1 : Nat) : Int)), (7, .string (bS x)), (8, .string (bS y)), (10, .slice pw ((w0 :: r).length) cw), (15, .bool true)]) ⟨rfl, rfl, rfl, rfl, rfl, rfl, rfl, trivial⟩ ?_
      refine WC.seq fun K28 hK28 => ?_
      refine WC.seq fun K29 hK29 => ?_
      refine WC.region ?_
      refine WL.pure (v := .slice pw ((w0 :: r).length) cw) 27 rfl (Nat.le_of_ble_eq_true rfl) rfl rfl (by kernel_rfl) ?_
      refine WL.pure (v := vI (((w0 :: r).length : Nat) : Int)) 28 rfl (Nat.le_of_ble_eq_true rfl) rfl rfl (by kernel_rfl) ?_
      refine WL.pure (v := .bool false) 29 rfl (Nat.le_of_ble_eq_true rfl) rfl rfl (x_eql rfl rfl rfl (dF (by rw [List.length_cons]; omega))) ?_
      refine WL.nil ?_
      refine WQ.then ?_
      refine hK29 _ _ _ ?_
      refine WC.no rfl ?_
      refine WC.skip ?_
      refine WQ.then ?_
      refine hK28 _ _ _ ?_
      refine WC.seq fun K30 hK30 => ?_
      refine WC.region ?_
      refine WL.pure (v := .slice pw ((w0 :: r).length) cw) 31 rfl (Nat.le_of_ble_eq_true rfl) rfl rfl (by kernel_rfl) ?_
      obtain ⟨hwb1, hwb2⟩ := wl_bd x []
      rw [hws] at hwb1 hwb2
      refine WL.call (f := 26) (args := #[.slice pw ((w0 :: r).length) cw]) 32 rfl (Nat.le_of_ble_eq_true rfl) rfl rfl (by kernel_rfl) ?_
      refine (instr_any pw cw w0 r _ (InS.own (HP.get hH27 1 rfl)) (own_cap (HP.get hH27 1 rfl)).1 (by omega) (fun q hq => by have := hwb1 q hq; simp at this; omega) (hE.below (HP.below hH27))).mono ?_
      rintro e w5 ⟨⟨i, hi5, rfl⟩ | ⟨hi5, a5, b5, c5, rfl⟩, hb5⟩
      ·
        refine ⟨_, rfl, ?_⟩
        have hH31 : HP Tr w _ [ownI pv T.length cp (cT T) (aT T) (bT T), rowS pw (w0 :: r).length cw (w0 :: r)] := HP.call hH27 hb5
        refine WL.pure (v := .tuple #[.agg #[vI i.1, vI i.2.1, vI i.2.2], .bool true]) 30 rfl (Nat.le_of_ble_eq_true rfl) rfl rfl (by kernel_rfl) ?_
        refine WL.pure (v := .agg #[vI i.1, vI i.2.1, vI i.2.2]) 33 rfl (Nat.le_of_ble_eq_true rfl) rfl rfl (by kernel_rfl) ?_
        refine WL.pure (v := .bool true) 34 rfl (Nat.le_of_ble_eq_true rfl) rfl rfl (by kernel_rfl) ?_
        refine WL.alloc (c := #[vI 0, vI 0, vI 0]) (T := 33) hH31 11 rfl (by decide) rfl rfl (fun b11 => vP b11 0) (by kernel_rfl) (fun b11 w32 hw32 => ?_)
        have hH33 : HP Tr w w32 [ownI pv T.length cp (cT T) (aT T) (bT T), rowS pw (w0 :: r).length cw (w0 :: r), .cel b11 #[vI 0, vI 0, vI 0] 33] := hw32.2
        have nb11 := hw32.1
        clear hw32
        refine WL.storeS (H2 := [ownI pv T.length cp (cT T) (aT T) (bT T), rowS pw (w0 :: r).length cw (w0 :: r), .cel b11 #[vI i.1, vI i.2.1, vI i.2.2] 33]) 2 hH33 rfl rfl rfl rfl rfl rfl sz33 rfl (Nat.le_of_ble_eq_true rfl) rfl rfl ?_
        intro w34 hH35
        refine WL.pure (v := .bool true) 12 rfl (Nat.le_of_ble_eq_true rfl) rfl rfl (by kernel_rfl) ?_
        refine WL.nil ?_
        refine WQ.then ?_
        refine hK30 _ _ _ ?_
        refine WC.sub (l' := [(0, .string (bS y)), (5, .slice pv T.length cp), (6, vI ((line + 1 : Nat) : Int)), (7, .string (bS x)), (8, .string (bS y)), (10, .slice pw ((w0 :: r).length) cw), (11, vP b11 0), (12, .bool true), (15, .bool true), (29, .bool false)]) ⟨rfl, rfl, rfl, rfl, rfl, rfl, rfl, rfl, rfl, rfl, trivial⟩ ?_
        refine WC.seq fun K36 hK36 => ?_
        refine WC.seq fun K37 hK37 => ?_
        refine WC.region ?_
        refine WL.pure (v := .bool true) 35 rfl (Nat.le_of_ble_eq_true rfl) rfl rfl (by kernel_rfl) ?_
        refine WL.pure (v := .bool false) 36 rfl (Nat.le_of_ble_eq_true rfl) rfl rfl (by kernel_rfl) ?_
        refine WL.nil ?_
        refine WQ.then ?_
        refine hK37 _ _ _ ?_
        refine WC.no rfl ?_
        refine WC.skip ?_
        refine WQ.then ?_
        refine hK36 _ _ _ ?_
        refine WC.region ?_
        refine WL.pure (v := .slice pv T.length cp) 38 rfl (Nat.le_of_ble_eq_true rfl) rfl rfl (by kernel_rfl) ?_
        refine WL.pure (v := .agg #[vI i.1, vI i.2.1, vI i.2.2]) 39 rfl (Nat.le_of_ble_eq_true rfl) rfl rfl (x_loadS (cs := [vI i.1, vI i.2.1, vI i.2.2]) rfl rfl Tryd.underlying33 rfl sz33 (HP.range hH35 2 rfl rfl)) ?_
        refine WL.alloc (c := #[vI i.1, vI i.2.1, vI i.2.2]) (T := 33) hH35 40 rfl (by decide) rfl rfl (fun b40 => vS b40 1 1) (by kernel_rfl) (fun b40 w38 hw38 => ?_)
        have hH39 : HP Tr w w38 [ownI pv T.length cp (cT T) (aT T) (bT T), rowS pw (w0 :: r).length cw (w0 :: r), .cel b11 #[vI i.1, vI i.2.1, vI i.2.2] 33, .cel b40 #[vI i.1, vI i.2.1, vI i.2.2] 33] := hw38.2
        have nb40 := hw38.1
        clear hw38
        obtain ⟨i0, hi0, hz0, hz1, hz2⟩ := infoR'
        refine WL.append (news := [vI i.1, vI i.2.1, vI i.2.2]) 0 3 hH39 41 rfl (by decide) rfl rfl rfl rfl Tryd.underlying22 hi0 hz0 hz1 hz2 rfl (by decide) rfl rfl rfl rfl (by simp [Value.oneCell']) (by unfold maxLen; omega) (by omega) ?_
        rintro v7 w7 - hA7
        obtain ⟨pv7, cp7, rfl⟩ := own_rowG (HP.get hA7 0 rfl)
        have e7 : T.length + 1 = (T ++ [i]).length := by simp
        rw [T_push, e7] at hA7
        rw [e7]
        have hH40 : HP Tr w _ [ownI pv7 (T ++ [i]).length cp7 (cT (T ++ [i])) (aT (T ++ [i])) (bT (T ++ [i])), rowS pw (w0 :: r).length cw (w0 :: r), .cel b11 #[vI i.1, vI i.2.1, vI i.2.2] 33, .cel b40 #[vI i.1, vI i.2.1, vI i.2.2] 33] := hA7
        refine WL.pure (v := .slice pv7 ((T ++ [i]).length) cp7) 5 rfl (Nat.le_of_ble_eq_true rfl) rfl rfl (by kernel_rfl) ?_
        refine WL.nil ?_
        refine WQ.inNormal ?_
        refine WQ.sub (l' := [(0, .string (bS y)), (5, .slice pv7 ((T ++ [i]).length) cp7), (6, vI ((line + 1 : Nat) : Int))]) ⟨rfl, rfl, rfl, trivial⟩ ?_
        refine WQ.then (hK6 _ _ _ (by omega) ⟨y, line + 1, (T ++ [i]), pv7, cp7, rfl, rfl, by rw [hp, hll, par_ok hws hi5], by omega, by simp; omega, (HP.drop (HP.drop (HP.drop hH40 3) 2) 1)⟩)
      ·
        refine ⟨_, rfl, ?_⟩
        have hH41 : HP Tr w _ [ownI pv T.length cp (cT T) (aT T) (bT T), rowS pw (w0 :: r).length cw (w0 :: r)] := HP.call hH27 hb5
        refine WL.pure (v := .tuple #[.agg #[vI a5, vI b5, vI c5], .bool false]) 30 rfl (Nat.le_of_ble_eq_true rfl) rfl rfl (by kernel_rfl) ?_
        refine WL.pure (v := .agg #[vI a5, vI b5, vI c5]) 33 rfl (Nat.le_of_ble_eq_true rfl) rfl rfl (by kernel_rfl) ?_
        refine WL.pure (v := .bool false) 34 rfl (Nat.le_of_ble_eq_true rfl) rfl rfl (by kernel_rfl) ?_
        refine WL.alloc (c := #[vI 0, vI 0, vI 0]) (T := 33) hH41 11 rfl (by decide) rfl rfl (fun b11 => vP b11 0) (by kernel_rfl) (fun b11 w42 hw42 => ?_)
        have hH43 : HP Tr w w42 [ownI pv T.length cp (cT T) (aT T) (bT T), rowS pw (w0 :: r).length cw (w0 :: r), .cel b11 #[vI 0, vI 0, vI 0] 33] := hw42.2
        have nb11 := hw42.1
        clear hw42
        refine WL.storeS (H2 := [ownI pv T.length cp (cT T) (aT T) (bT T), rowS pw (w0 :: r).length cw (w0 :: r), .cel b11 #[vI a5, vI b5, vI c5] 33]) 2 hH43 rfl rfl rfl rfl rfl rfl sz33 rfl (Nat.le_of_ble_eq_true rfl) rfl rfl ?_
        intro w44 hH45
        refine WL.pure (v := .bool false) 12 rfl (Nat.le_of_ble_eq_true rfl) rfl rfl (by kernel_rfl) ?_
        refine WL.nil ?_
        refine WQ.then ?_
        refine hK30 _ _ _ ?_
        refine WC.sub (l' := [(0, .string (bS y)), (5, .slice pv T.length cp), (6, vI ((line + 1 : Nat) : Int)), (7, .string (bS x)), (8, .string (bS y)), (10, .slice pw ((w0 :: r).length) cw), (11, vP b11 0), (12, .bool false), (15, .bool true), (29, .bool false)]) ⟨rfl, rfl, rfl, rfl, rfl, rfl, rfl, rfl, rfl, rfl, trivial⟩ ?_
        refine WC.seq fun K46 hK46 => ?_
        refine WC.seq fun K47 hK47 => ?_
        refine WC.region ?_
        refine WL.pure (v := .bool false) 35 rfl (Nat.le_of_ble_eq_true rfl) rfl rfl (by kernel_rfl) ?_
        refine WL.pure (v := .bool true) 36 rfl (Nat.le_of_ble_eq_true rfl) rfl rfl (by kernel_rfl) ?_
        refine WL.nil ?_
        refine WQ.then ?_
        refine hK47 _ _ _ ?_
        refine WC.yes rfl ?_
        refine WC.seq fun K48 hK48 => ?_
        refine WC.region ?_
        refine WL.pure (v := vI ((line + 1 : Nat) : Int)) 37 rfl (Nat.le_of_ble_eq_true rfl) rfl rfl (by kernel_rfl) ?_
        refine WL.pure (v := .slice none 0 0) 2 rfl (Nat.le_of_ble_eq_true rfl) rfl rfl (by kernel_rfl) ?_
        refine WL.pure (v := vI ((line + 1 : Nat) : Int)) 3 rfl (Nat.le_of_ble_eq_true rfl) rfl rfl (by kernel_rfl) ?_
        refine WL.pure (v := vI 4) 4 rfl (Nat.le_of_ble_eq_true rfl) rfl rfl (by kernel_rfl) ?_
        refine WL.nil ?_
        refine WQ.then ?_
        refine hK48 _ _ _ ?_
        refine WC.ret ?_
        refine WQ.thenRet ?_
        refine WQ.inRet ?_
        refine WQ.thenRet ?_
        refine WQ.inRet ?_
        refine WQ.thenRet ?_
        refine WQ.ret3 2 3 4 rfl rfl rfl rfl ?_
        exact .inl ⟨line + 1, by rw [hp, hll]; exact par_bad hws hi5, rfl, HP.below hH45⟩
set_option maxRecDepth 20000 in
set_option maxHeartbeats 4000000 in
theorem rParse_any (l : List UInt8) (w : World) (hl : l.length ≤ 100000) (hE : Ev w) :
    Calls Tryd.prog 10 #[.string (bS l)] w (ParP (parV (ll [] l) [] 0) w) := by
  refine calls_of Tryd.func10 rfl (m := 47) rfl [(0, .string (bS l))] (Fr_enter [.string (bS l)] 47 (Nat.le_of_ble_eq_true rfl)) ?_
  have hH1 : HP Tr w w [] := HP.refl w
  refine WC.seq fun K2 hK2 => ?_
  refine WC.region ?_
  refine WL.pure (v := .slice none 0 0) 2 rfl (Nat.le_of_ble_eq_true rfl) rfl rfl (by kernel_rfl) ?_
  refine WL.pure (v := vI 0) 3 rfl (Nat.le_of_ble_eq_true rfl) rfl rfl (by kernel_rfl) ?_
  refine WL.pure (v := vI 0) 4 rfl (Nat.le_of_ble_eq_true rfl) rfl rfl (by kernel_rfl) ?_
  refine WL.nil ?_
  refine WQ.then ?_
  refine hK2 _ _ _ ?_
  refine WC.seq fun K3 hK3 => ?_
  refine WC.region ?_
  refine WL.pure (v := .slice none 0 0) 5 rfl (Nat.le_of_ble_eq_true rfl) rfl rfl (by kernel_rfl) ?_
  refine WL.nil ?_
  refine WQ.then ?_
  refine hK3 _ _ _ ?_
  refine WC.seq fun K4 hK4 => ?_
  refine WC.region ?_
  refine WL.pure (v := .string (bS l)) 12 rfl (Nat.le_of_ble_eq_true rfl) rfl rfl (by kernel_rfl) ?_
  refine WL.call (f := 27) (args := #[.string (bS l)]) 13 rfl (Nat.le_of_ble_eq_true rfl) rfl rfl (by kernel_rfl) ?_
  refine (lines2_any l _ (by omega)).mono ?_
  rintro e w3 ⟨L, pl, cl, rfl, hL, hb3⟩
  refine ⟨_, rfl, ?_⟩
  have hH5 : HP Tr w _ [rowS pl L.length cl L] := HP.trans hH1 hb3
  obtain ⟨hlb1, hlb2⟩ := ll_bd l []
  rw [hL] at hlb1 hlb2
  refine WL.pure (v := .slice pl L.length cl) 6 rfl (Nat.le_of_ble_eq_true rfl) rfl rfl (by kernel_rfl) ?_
  refine WL.nil ?_
  refine WQ.then ?_
  refine hK4 _ _ _ ?_
  refine WC.seq fun K6 hK6 => ?_
  refine WC.seq fun K7 hK7 => ?_
  refine WC.region ?_
  refine WL.pure (v := vI 0) 7 rfl (Nat.le_of_ble_eq_true rfl) rfl rfl (by kernel_rfl) ?_
  refine WL.nil ?_
  refine WQ.then ?_
  refine hK7 _ _ _ ?_
  refine WC.block ?_
  refine WC.loop (fun kk0 ll0 ww0 => ∃ (k : Nat) (T : List I3) (pv : Option Addr) (cp : Nat), ll0 = [(0, .string (bS l)), (5, .slice pv T.length cp), (6, .slice pl L.length cl), (7, vI (k : Int))] ∧ kk0 = L.length - k ∧ (parV (ll [] l) [] 0 = parV (L.drop k) T k) ∧ (k ≤ L.length) ∧ (T.length ≤ k) ∧ HP Tr w ww0 [rowS pl L.length cl L, ownI pv T.length cp (cT T) (aT T) (bT T)]) (L.length) [(0, .string (bS l)), (5, .slice none 0 0), (6, .slice pl L.length cl), (7, vI 0)] ⟨rfl, rfl, rfl, rfl, trivial⟩ ⟨0, [], none, 0, rfl, rfl, by rw [hL, List.drop_zero], Nat.zero_le _, by simp, HP.ownNil hH5 33 3⟩ ?_
  rintro kk l w9 ⟨k, T, pv, cp, rfl, hkk, hp, hk, hTl, hH10⟩ K8 hK8
  refine WC.seq fun K11 hK11 => ?_
  refine WC.seq fun K12 hK12 => ?_
  refine WC.region ?_
  refine WL.pure (v := vI (k : Int)) 14 rfl (Nat.le_of_ble_eq_true rfl) rfl rfl (by kernel_rfl) ?_
  refine WL.pure (v := .slice pl L.length cl) 15 rfl (Nat.le_of_ble_eq_true rfl) rfl rfl (by kernel_rfl) ?_
  refine WL.pure (v := vI (L.length : Int)) 16 rfl (Nat.le_of_ble_eq_true rfl) rfl rfl (by kernel_rfl) ?_
  by_cases hlt : (k : Int) < (L.length : Int)
  ·
    refine WL.pure (v := .bool true) 17 rfl (Nat.le_of_ble_eq_true rfl) rfl rfl (x_lss rfl rfl rfl (dT (hlt))) ?_
    refine WL.nil ?_
    refine WQ.then ?_
    refine hK12 _ _ _ ?_
    refine WC.yes rfl ?_
    refine WC.skip ?_
    refine WQ.then ?_
    refine hK11 _ _ _ ?_
    refine WC.seq fun K13 hK13 => ?_
    refine WC.block ?_
    refine WC.seq fun K14 hK14 => ?_
    refine WC.region ?_
    refine WL.pure (v := .slice pl L.length cl) 20 rfl (Nat.le_of_ble_eq_true rfl) rfl rfl (by kernel_rfl) ?_
    refine WL.pure (v := vI (k : Int)) 21 rfl (Nat.le_of_ble_eq_true rfl) rfl rfl (by kernel_rfl) ?_
    obtain ⟨g, o, hpl, hrow⟩ := InS.own (HP.get hH10 0 rfl) (by omega)
    subst hpl
    obtain ⟨x, hx⟩ : ∃ x, L.getD k [] = x := ⟨_, rfl⟩
    have hxm : x ∈ L := hx ▸ getD_mem (by omega)
    have hxl : x.length ≤ 100000 := by have := hlb1 x hxm; simp at this; omega
    have hdr : L.drop k = x :: L.drop (k + 1) := by rw [List.drop_eq_getElem_cons (show k < L.length by omega), ← hx, List.getD_eq_getElem?_getD, List.getElem?_eq_getElem (show k < L.length by omega)]; rfl
    refine WL.pure (v := vP g (o + k)) 22 rfl (Nat.le_of_ble_eq_true rfl) rfl rfl (x_idx k (o + k) rfl rfl rfl Tryd.underlying60 sz9 (by omega) (by omega) (by omega)) ?_
    refine WL.pure (v := .string (bS x)) 23 rfl (Nat.le_of_ble_eq_true rfl) rfl rfl (x_load rfl rfl Tryd.underlying9 rfl (by have q := hrow k (by omega) 0 _ rfl; rw [hx] at q; exact q)) ?_
    refine WL.call (f := 28) (args := #[.string (bS x)]) 24 rfl (Nat.le_of_ble_eq_true rfl) rfl rfl (by kernel_rfl) ?_
    refine (words2_any x _ (by omega)).mono ?_
    rintro e w4 ⟨ws, pw, cw, rfl, hws, hb4⟩
    refine ⟨_, rfl, ?_⟩
    rcases ws with _ | ⟨w0, r⟩
    ·
      have hH15 : HP Tr w _ [rowS (some ⟨g, o, none⟩) L.length cl L, ownI pv T.length cp (cT T) (aT T) (bT T), rowS pw ([] : List (List UInt8)).length cw ([] : List (List UInt8))] := HP.trans hH10 hb4
      refine WL.pure (v := .slice pw (([] : List (List UInt8)).length) cw) 8 rfl (Nat.le_of_ble_eq_true rfl) rfl rfl (by kernel_rfl) ?_
      refine WL.nil ?_
      refine WQ.then ?_
      refine hK14 _ _ _ ?_
      refine WC.sub (l' := [(0, .string (bS l)), (5, .slice pv T.length cp), (6, .slice (some ⟨g, o, none⟩) L.length cl), (7, vI (k : Int)), (8, .slice pw (([] : List (List UInt8)).length) cw), (17, .bool true)]) ⟨rfl, rfl, rfl, rfl, rfl, rfl, trivial⟩ ?_
      refine WC.seq fun K16 hK16 => ?_
      refine WC.seq fun K17 hK17 => ?_
      refine WC.region ?_
      refine WL.pure (v := .slice pw (([] : List (List UInt8)).length) cw) 25 rfl (Nat.le_of_ble_eq_true rfl) rfl rfl (by kernel_rfl) ?_
      refine WL.pure (v := vI ((([] : List (List UInt8)).length : Nat) : Int)) 26 rfl (Nat.le_of_ble_eq_true rfl) rfl rfl (by kernel_rfl) ?_
      refine WL.pure (v := .bool true) 27 rfl (Nat.le_of_ble_eq_true rfl) rfl rfl (x_eql rfl rfl rfl (dT rfl)) ?_
      refine WL.nil ?_
      refine WQ.then ?_
      refine hK17 _ _ _ ?_
      refine WC.yes rfl ?_
      refine WC.exit ?_
      refine WQ.thenExit ?_
      refine WQ.inExit ?_
      refine WQ.then ?_
      refine hK13 _ _ _ ?_
      refine WC.region ?_
      refine WL.pure (v := vI (k : Int)) 18 rfl (Nat.le_of_ble_eq_true rfl) rfl rfl (by kernel_rfl) ?_
      refine WL.pure (v := vI ((k + 1 : Nat) : Int)) 19 rfl (Nat.le_of_ble_eq_true rfl) rfl rfl (x_add (Z := ((k + 1 : Nat) : Int)) rfl rfl rfl (by omega) (by omega) (by omega)) ?_
      refine WL.pure (v := vI ((k + 1 : Nat) : Int)) 7 rfl (Nat.le_of_ble_eq_true rfl) rfl rfl (by kernel_rfl) ?_
      refine WL.nil ?_
      refine WQ.sub (l' := [(0, .string (bS l)), (5, .slice pv T.length cp), (6, .slice (some ⟨g, o, none⟩) L.length cl), (7, vI ((k + 1 : Nat) : Int))]) ⟨rfl, rfl, rfl, rfl, trivial⟩ ?_
      refine WQ.then (hK8 _ _ _ (by omega) ⟨k + 1, T, pv, cp, rfl, rfl, by rw [hp, hdr, par_nil hws], by omega, by omega, (HP.drop hH15 2)⟩)
    ·
      have hH18 : HP Tr w _ [rowS (some ⟨g, o, none⟩) L.length cl L, ownI pv T.length cp (cT T) (aT T) (bT T), rowS pw (w0 :: r).length cw (w0 :: r)] := HP.trans hH10 hb4
      refine WL.pure (v := .slice pw ((w0 :: r).length) cw) 8 rfl (Nat.le_of_ble_eq_true rfl) rfl rfl (by kernel_rfl) ?_
      refine WL.nil ?_
      refine WQ.then ?_
      refine hK14 _ _ _ ?_
      refine WC.sub (l' := [(0, .string (bS l)), (5, .slice pv T.length cp), (6, .slice (some ⟨g, o, none⟩) L.length cl), (7, vI (k : Int)), (8, .slice pw ((w0 :: r).length) cw), (17, .bool true)]) ⟨rfl, rfl, rfl, rfl, rfl, rfl, trivial⟩ ?_
      refine WC.seq fun K19 hK19 => ?_
      refine WC.seq fun K20 hK20 => ?_
      refine WC.region ?_
      refine WL.pure (v := .slice pw ((w0 :: r).length) cw) 25 rfl (Nat.le_of_ble_eq_true rfl) rfl rfl (by kernel_rfl) ?_
      refine WL.pure (v := vI (((w0 :: r).length : Nat) : Int)) 26 rfl (Nat.le_of_ble_eq_true rfl) rfl rfl (by kernel_rfl) ?_
      refine WL.pure (v := .bool false) 27 rfl (Nat.le_of_ble_eq_true rfl) rfl rfl (x_eql rfl rfl rfl (dF (by rw [List.length_cons]; omega))) ?_
      refine WL.nil ?_
      refine WQ.then ?_
      refine hK20 _ _ _ ?_
      refine WC.no rfl ?_
      refine WC.skip ?_
      refine WQ.then ?_
      refine hK19 _ _ _ ?_
      refine WC.seq fun K21 hK21 => ?_
      refine WC.region ?_
      refine WL.pure (v := .slice pw ((w0 :: r).length) cw) 29 rfl (Nat.le_of_ble_eq_true rfl) rfl rfl (by kernel_rfl) ?_
      obtain ⟨hwb1, hwb2⟩ := wl_bd x []
      rw [hws] at hwb1 hwb2
      refine WL.call (f := 29) (args := #[.slice pw ((w0 :: r).length) cw]) 30 rfl (Nat.le_of_ble_eq_true rfl) rfl rfl (by kernel_rfl) ?_
      refine (rinstr_any pw cw w0 r _ (InS.own (HP.get hH18 2 rfl)) (own_cap (HP.get hH18 2 rfl)).1 (by omega) (fun q hq => by have := hwb1 q hq; simp at this; omega) (hE.below (HP.below hH18))).mono ?_
      rintro e w5 ⟨⟨i, hi5, rfl⟩ | ⟨hi5, a5, b5, c5, rfl⟩, hb5⟩
      ·
        refine ⟨_, rfl, ?_⟩
        have hH22 : HP Tr w _ [rowS (some ⟨g, o, none⟩) L.length cl L, ownI pv T.length cp (cT T) (aT T) (bT T), rowS pw (w0 :: r).length cw (w0 :: r)] := HP.call hH18 hb5
        refine WL.pure (v := .tuple #[.agg #[vI i.1, vI i.2.1, vI i.2.2], .bool true]) 28 rfl (Nat.le_of_ble_eq_true rfl) rfl rfl (by kernel_rfl) ?_
        refine WL.pure (v := .agg #[vI i.1, vI i.2.1, vI i.2.2]) 31 rfl (Nat.le_of_ble_eq_true rfl) rfl rfl (by kernel_rfl) ?_
        refine WL.pure (v := .bool true) 32 rfl (Nat.le_of_ble_eq_true rfl) rfl rfl (by kernel_rfl) ?_
        refine WL.alloc (c := #[vI 0, vI 0, vI 0]) (T := 33) hH22 9 rfl (by decide) rfl rfl (fun b9 => vP b9 0) (by kernel_rfl) (fun b9 w23 hw23 => ?_)
        have hH24 : HP Tr w w23 [rowS (some ⟨g, o, none⟩) L.length cl L, ownI pv T.length cp (cT T) (aT T) (bT T), rowS pw (w0 :: r).length cw (w0 :: r), .cel b9 #[vI 0, vI 0, vI 0] 33] := hw23.2
        have nb9 := hw23.1
        clear hw23
        refine WL.storeS (H2 := [rowS (some ⟨g, o, none⟩) L.length cl L, ownI pv T.length cp (cT T) (aT T) (bT T), rowS pw (w0 :: r).length cw (w0 :: r), .cel b9 #[vI i.1, vI i.2.1, vI i.2.2] 33]) 3 hH24 rfl rfl rfl rfl rfl rfl sz33 rfl (Nat.le_of_ble_eq_true rfl) rfl rfl ?_
        intro w25 hH26
        refine WL.pure (v := .bool true) 10 rfl (Nat.le_of_ble_eq_true rfl) rfl rfl (by kernel_rfl) ?_
        refine WL.nil ?_
        refine WQ.then ?_
        refine hK21 _ _ _ ?_
        refine WC.sub (l' := [(0, .string (bS l)), (5, .slice pv T.length cp), (6, .slice (some ⟨g, o, none⟩) L.length cl), (7, vI (k : Int)), (8, .slice pw ((w0 :: r).length) cw), (9, vP b9 0), (10, .bool true), (17, .bool true), (27, .bool false)]) ⟨rfl, rfl, rfl, rfl, rfl, rfl, rfl, rfl, rfl, trivial⟩ ?_
        refine WC.seq fun K27 hK27 => ?_
        refine WC.seq fun K28 hK28 => ?_
        refine WC.region ?_
        refine WL.pure (v := .bool true) 33 rfl (Nat.le_of_ble_eq_true rfl) rfl rfl (by kernel_rfl) ?_
        refine WL.pure (v := .bool false) 34 rfl (Nat.le_of_ble_eq_true rfl) rfl rfl (by kernel_rfl) ?_
        refine WL.nil ?_
        refine WQ.then ?_
        refine hK28 _ _ _ ?_
        refine WC.no rfl ?_
        refine WC.skip ?_
        refine WQ.then ?_
        refine hK27 _ _ _ ?_
        refine WC.region ?_
        refine WL.pure (v := .slice pv T.length cp) 37 rfl (Nat.le_of_ble_eq_true rfl) rfl rfl (by kernel_rfl) ?_
        refine WL.pure (v := .agg #[vI i.1, vI i.2.1, vI i.2.2]) 38 rfl (Nat.le_of_ble_eq_true rfl) rfl rfl (x_loadS (cs := [vI i.1, vI i.2.1, vI i.2.2]) rfl rfl Tryd.underlying33 rfl sz33 (HP.range hH26 3 rfl rfl)) ?_
        refine WL.alloc (c := #[vI i.1, vI i.2.1, vI i.2.2]) (T := 33) hH26 39 rfl (by decide) rfl rfl (fun b39 => vS b39 1 1) (by kernel_rfl) (fun b39 w29 hw29 => ?_)
        have hH30 : HP Tr w w29 [rowS (some ⟨g, o, none⟩) L.length cl L, ownI pv T.length cp (cT T) (aT T) (bT T), rowS pw (w0 :: r).length cw (w0 :: r), .cel b9 #[vI i.1, vI i.2.1, vI i.2.2] 33, .cel b39 #[vI i.1, vI i.2.1, vI i.2.2] 33] := hw29.2
        have nb39 := hw29.1
        clear hw29
        obtain ⟨i0, hi0, hz0, hz1, hz2⟩ := infoR'
        refine WL.append (news := [vI i.1, vI i.2.1, vI i.2.2]) 1 4 hH30 40 rfl (by decide) rfl rfl rfl rfl Tryd.underlying22 hi0 hz0 hz1 hz2 rfl (by decide) rfl rfl rfl rfl (by simp [Value.oneCell']) (by unfold maxLen; omega) (by omega) ?_
        rintro v7 w7 - hA7
        obtain ⟨pv7, cp7, rfl⟩ := own_rowG (HP.get hA7 1 rfl)
        have e7 : T.length + 1 = (T ++ [i]).length := by simp
        rw [T_push, e7] at hA7
        rw [e7]
        have hH31 : HP Tr w _ [rowS (some ⟨g, o, none⟩) L.length cl L, ownI pv7 (T ++ [i]).length cp7 (cT (T ++ [i])) (aT (T ++ [i])) (bT (T ++ [i])), rowS pw (w0 :: r).length cw (w0 :: r), .cel b9 #[vI i.1, vI i.2.1, vI i.2.2] 33, .cel b39 #[vI i.1, vI i.2.1, vI i.2.2] 33] := hA7
        refine WL.pure (v := .slice pv7 ((T ++ [i]).length) cp7) 5 rfl (Nat.le_of_ble_eq_true rfl) rfl rfl (by kernel_rfl) ?_
        refine WL.nil ?_
        refine WQ.inNormal ?_
        refine WQ.then ?_
        refine hK13 _ _ _ ?_
        refine WC.sub (l' := [(0, .string (bS l)), (5, .slice pv7 ((T ++ [i]).length) cp7), (6, .slice (some ⟨g, o, none⟩) L.length cl), (7, vI (k : Int)), (8, .slice pw ((w0 :: r).length) cw), (9, vP b9 0), (10, .bool true), (17, .bool true), (27, .bool false), (34, .bool false)]) ⟨rfl, rfl, rfl, rfl, rfl, rfl, rfl, rfl, rfl, rfl, trivial⟩ ?_
        refine WC.region ?_
        refine WL.pure (v := vI (k : Int)) 18 rfl (Nat.le_of_ble_eq_true rfl) rfl rfl (by kernel_rfl) ?_
        refine WL.pure (v := vI ((k + 1 : Nat) : Int)) 19 rfl (Nat.le_of_ble_eq_true rfl) rfl rfl (x_add (Z := ((k + 1 : Nat) : Int)) rfl rfl rfl (by omega) (by omega) (by omega)) ?_
        refine WL.pure (v := vI ((k + 1 : Nat) : Int)) 7 rfl (Nat.le_of_ble_eq_true rfl) rfl rfl (by kernel_rfl) ?_
        refine WL.nil ?_
        refine WQ.sub (l' := [(0, .string (bS l)), (5, .slice pv7 ((T ++ [i]).length) cp7), (6, .slice (some ⟨g, o, none⟩) L.length cl), (7, vI ((k + 1 : Nat) : Int))]) ⟨rfl, rfl, rfl, rfl, trivial⟩ ?_
        refine WQ.then (hK8 _ _ _ (by omega) ⟨k + 1, (T ++ [i]), pv7, cp7, rfl, rfl, by rw [hp, hdr, par_ok hws hi5], by omega, by simp; omega, (HP.drop (HP.drop (HP.drop hH31 4) 3) 2)⟩)
      ·
        refine ⟨_, rfl, ?_⟩
        have hH32 : HP Tr w _ [rowS (some ⟨g, o, none⟩) L.length cl L, ownI pv T.length cp (cT T) (aT T) (bT T), rowS pw (w0 :: r).length cw (w0 :: r)] := HP.call hH18 hb5
        refine WL.pure (v := .tuple #[.agg #[vI a5, vI b5, vI c5], .bool false]) 28 rfl (Nat.le_of_ble_eq_true rfl) rfl rfl (by kernel_rfl) ?_
        refine WL.pure (v := .agg #[vI a5, vI b5, vI c5]) 31 rfl (Nat.le_of_ble_eq_true rfl) rfl rfl (by kernel_rfl) ?_
        refine WL.pure (v := .bool false) 32 rfl (Nat.le_of_ble_eq_true rfl) rfl rfl (by kernel_rfl) ?_
        refine WL.alloc (c := #[vI 0, vI 0, vI 0]) (T := 33) hH32 9 rfl (by decide) rfl rfl (fun b9 => vP b9 0) (by kernel_rfl) (fun b9 w33 hw33 => ?_)
        have hH34 : HP Tr w w33 [rowS (some ⟨g, o, none⟩) L.length cl L, ownI pv T.length cp (cT T) (aT T) (bT T), rowS pw (w0 :: r).length cw (w0 :: r), .cel b9 #[vI 0, vI 0, vI 0] 33] := hw33.2
        have nb9 := hw33.1
        clear hw33
        refine WL.storeS (H2 := [rowS (some ⟨g, o, none⟩) L.length cl L, ownI pv T.length cp (cT T) (aT T) (bT T), rowS pw (w0 :: r).length cw (w0 :: r), .cel b9 #[vI a5, vI b5, vI c5] 33]) 3 hH34 rfl rfl rfl rfl rfl rfl sz33 rfl (Nat.le_of_ble_eq_true rfl) rfl rfl ?_
        intro w35 hH36
        refine WL.pure (v := .bool false) 10 rfl (Nat.le_of_ble_eq_true rfl) rfl rfl (by kernel_rfl) ?_
        refine WL.nil ?_
        refine WQ.then ?_
        refine hK21 _ _ _ ?_
        refine WC.sub (l' := [(0, .string (bS l)), (5, .slice pv T.length cp), (6, .slice (some ⟨g, o, none⟩) L.length cl), (7, vI (k : Int)), (8, .slice pw ((w0 :: r).length) cw), (9, vP b9 0), (10, .bool false), (17, .bool true), (27, .bool false)]) ⟨rfl, rfl, rfl, rfl, rfl, rfl, rfl, rfl, rfl, trivial⟩ ?_
        refine WC.seq fun K37 hK37 => ?_
        refine WC.seq fun K38 hK38 => ?_
        refine WC.region ?_
        refine WL.pure (v := .bool false) 33 rfl (Nat.le_of_ble_eq_true rfl) rfl rfl (by kernel_rfl) ?_
        refine WL.pure (v := .bool true) 34 rfl (Nat.le_of_ble_eq_true rfl) rfl rfl (by kernel_rfl) ?_
        refine WL.nil ?_
        refine WQ.then ?_
        refine hK38 _ _ _ ?_
        refine WC.yes rfl ?_
        refine WC.seq fun K39 hK39 => ?_
        refine WC.region ?_
        refine WL.pure (v := vI (k : Int)) 35 rfl (Nat.le_of_ble_eq_true rfl) rfl rfl (by kernel_rfl) ?_
        refine WL.pure (v := vI ((k + 1 : Nat) : Int)) 36 rfl (Nat.le_of_ble_eq_true rfl) rfl rfl (x_add (Z := ((k + 1 : Nat) : Int)) rfl rfl rfl (by omega) (by omega) (by omega)) ?_
        refine WL.pure (v := .slice none 0 0) 2 rfl (Nat.le_of_ble_eq_true rfl) rfl rfl (by kernel_rfl) ?_
        refine WL.pure (v := vI ((k + 1 : Nat) : Int)) 3 rfl (Nat.le_of_ble_eq_true rfl) rfl rfl (by kernel_rfl) ?_
        refine WL.pure (v := vI 4) 4 rfl (Nat.le_of_ble_eq_true rfl) rfl rfl (by kernel_rfl) ?_
        refine WL.nil ?_
        refine WQ.then ?_
        refine hK39 _ _ _ ?_
        refine WC.ret ?_
        refine WQ.thenRet ?_
        refine WQ.inRet ?_
        refine WQ.thenRet ?_
        refine WQ.thenRet ?_
        refine WQ.inRet ?_
        refine WQ.thenRet ?_
        refine WQ.ret3 2 3 4 rfl rfl rfl rfl ?_
        exact .inl ⟨k + 1, by rw [hp, hdr]; exact par_bad hws hi5, rfl, HP.below hH36⟩
  ·
    refine WL.pure (v := .bool false) 17 rfl (Nat.le_of_ble_eq_true rfl) rfl rfl (x_lss rfl rfl rfl (dF (hlt))) ?_
    refine WL.nil ?_
    refine WQ.then ?_
    refine hK12 _ _ _ ?_
    refine WC.no rfl ?_
    refine WC.exit ?_
    refine WQ.thenExit ?_
    refine WQ.thenExit ?_
    refine WQ.inExit ?_
    refine WQ.then ?_
    refine hK6 _ _ _ ?_
    refine WC.seq fun K40 hK40 => ?_
    have hfin : parV (ll [] l) [] 0 = .inr T := by rw [hp, List.drop_eq_nil_of_le (by omega)]; rfl
    refine WC.region ?_
    refine WL.pure (v := .slice pv T.length cp) 41 rfl (Nat.le_of_ble_eq_true rfl) rfl rfl (by kernel_rfl) ?_
    refine WL.call (f := 30) (args := #[.slice pv T.length cp, .bool false]) 42 rfl (Nat.le_of_ble_eq_true rfl) rfl rfl (by kernel_rfl) ?_
    refine (rCheck2_any _ _ _ (cT T) (aT T) (bT T) false _ (own_rowIn (HP.get hH10 1 rfl)).inC).mono ?_
    rintro e w41 ⟨rfl, hb42⟩
    refine ⟨_, rfl, ?_⟩
    have hH43 : HP Tr w _ [rowS pl L.length cl L, ownI pv T.length cp (cT T) (aT T) (bT T)] := HP.call hH10 hb42
    refine WL.pure (v := vI (chkT T)) 11 rfl (Nat.le_of_ble_eq_true rfl) rfl rfl (by kernel_rfl) ?_
    refine WL.nil ?_
    refine WQ.then ?_
    refine hK40 _ _ _ ?_
    refine WC.seq fun K44 hK44 => ?_
    refine WC.seq fun K45 hK45 => ?_
    refine WC.region ?_
    refine WL.pure (v := vI (chkT T)) 43 rfl (Nat.le_of_ble_eq_true rfl) rfl rfl (by kernel_rfl) ?_
    by_cases hc : chkT T ≠ 0
    ·
      refine WL.pure (v := .bool true) 44 rfl (Nat.le_of_ble_eq_true rfl) rfl rfl (x_neq rfl rfl rfl (dT (hc))) ?_
      refine WL.nil ?_
      refine WQ.then ?_
      refine hK45 _ _ _ ?_
      refine WC.sub (l' := [(0, .string (bS l)), (5, .slice pv T.length cp), (6, .slice pl L.length cl), (7, vI (k : Int)), (11, vI (chkT T)), (17, .bool false), (44, .bool true)]) ⟨rfl, rfl, rfl, rfl, rfl, rfl, rfl, trivial⟩ ?_
      refine WC.yes rfl ?_
      refine WC.seq fun K46 hK46 => ?_
      refine WC.region ?_
      refine WL.pure (v := vI (chkT T)) 45 rfl (Nat.le_of_ble_eq_true rfl) rfl rfl (by kernel_rfl) ?_
      refine WL.pure (v := .slice none 0 0) 2 rfl (Nat.le_of_ble_eq_true rfl) rfl rfl (by kernel_rfl) ?_
      refine WL.pure (v := vI 0) 3 rfl (Nat.le_of_ble_eq_true rfl) rfl rfl (by kernel_rfl) ?_
      refine WL.pure (v := vI (chkT T)) 4 rfl (Nat.le_of_ble_eq_true rfl) rfl rfl (by kernel_rfl) ?_
      refine WL.nil ?_
      refine WQ.then ?_
      refine hK46 _ _ _ ?_
      refine WC.ret ?_
      refine WQ.thenRet ?_
      refine WQ.ret3 2 3 4 rfl rfl rfl rfl ?_
      exact .inr (.inl ⟨T, hfin, hc, rfl, HP.below hH43⟩)
    ·
      refine WL.pure (v := .bool false) 44 rfl (Nat.le_of_ble_eq_true rfl) rfl rfl (x_neq rfl rfl rfl (dF (hc))) ?_
      refine WL.nil ?_
      refine WQ.then ?_
      refine hK45 _ _ _ ?_
      refine WC.sub (l' := [(0, .string (bS l)), (5, .slice pv T.length cp), (6, .slice pl L.length cl), (7, vI (k : Int)), (11, vI (chkT T)), (17, .bool false), (44, .bool false)]) ⟨rfl, rfl, rfl, rfl, rfl, rfl, rfl, trivial⟩ ?_
      refine WC.no rfl ?_
      refine WC.skip ?_
      refine WQ.then ?_
      refine hK44 _ _ _ ?_
      refine WC.seq fun K47 hK47 => ?_
      refine WC.region ?_
      refine WL.pure (v := .slice pv T.length cp) 46 rfl (Nat.le_of_ble_eq_true rfl) rfl rfl (by kernel_rfl) ?_
      refine WL.pure (v := .slice pv T.length cp) 2 rfl (Nat.le_of_ble_eq_true rfl) rfl rfl (by kernel_rfl) ?_
      refine WL.pure (v := vI 0) 3 rfl (Nat.le_of_ble_eq_true rfl) rfl rfl (by kernel_rfl) ?_
      refine WL.pure (v := vI 0) 4 rfl (Nat.le_of_ble_eq_true rfl) rfl rfl (by kernel_rfl) ?_
      refine WL.nil ?_
      refine WQ.then ?_
      refine hK47 _ _ _ ?_
      refine WC.ret ?_
      refine WQ.ret3 2 3 4 rfl rfl rfl rfl ?_
      exact .inr (.inr ⟨T, pv, cp, hfin, Classical.not_not.1 hc, rfl, (HP.drop hH43 0)⟩)
end Cw
end Go.Proofs.YteeljnlepbnhkaaDoor
