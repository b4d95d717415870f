/- The list of two ends, of the program and of the reference. -/
import Derived.Test.YtgdfbpphfanocaaHA
import Derived.Test.YtgdfbpphfanocaaDB
set_option linter.unusedVariables false
set_option linter.unusedSimpArgs false
namespace Go.Proofs.Ytgdfbpphfanocaa
open Go.RowKit Fw
namespace Lb
open Lc (wd isWord_wd rword_any)
abbrev PB (l : Nat) (R : Int) (pv : Option Addr) (cp : Nat) (xs : List Int) : List Ent := [.cel l #[vI R, .slice pv xs.length cp] 91, row pv xs.length cp xs]
abbrev RB (l : Nat) (R : Int) (pv : Option Addr) (cp : Nat) (xs : List Int) : List Ent := [.cel l #[.slice pv xs.length cp, vI R] 93, row pv xs.length cp xs]
end Lb
namespace Fw
open Lb
open Lc (wd isWord_wd rword_any)
theorem HP.changed2 {S : Nat → Prop} {w0 w w' : World} {H : List Ent} (h : HP S w0 w H) (i : Nat) {e e' : Ent} (hi : H[i]? = some e) (h2 : HP (fun b => e.blk ≠ some b) w w' [e']) : HP S w0 w' (H.set i e') :=
  h.changed i hi h2 fun b hb => by
    by_cases hlt : b < w.heap.size
    · exact .inl (Classical.byContradiction fun hn => h2.fresh e' (by simp) b hb hlt hn)
    · exact .inr (by omega)
end Fw
namespace Lb
open Lc (wd isWord_wd rword_any)
theorem row_src {w : World} {pv : Option Addr} {n cp : Nat} {xs : List Int} (h : Ent.holds w (row pv n cp xs)) : (∃ a, pv = some a ∧ ∀ q u, (iL xs)[q]? = some u → w.cell? (a.add q) = some u) ∨ (pv = none ∧ n = 0 ∧ cp = 0) := by
  rcases row_cases h with h0 | ⟨g, cur, rfl, hg, hnc, hm, hs, hx⟩
  · exact .inr h0
  · refine .inl ⟨_, rfl, fun q u hu => ?_⟩
    rw [show (⟨g, 0, none⟩ : Addr).add q = ⟨g, q, none⟩ by unfold Addr.add; split <;> simp_all]
    exact cel_cell hg (by have := take_get hx hu; simpa using this)
theorem row_open {w : World} {pv : Option Addr} {n cp : Nat} {xs : List Int} (h : Ent.holds w (row pv n cp xs)) (h0 : 0 < n) : ∃ g, pv = some ⟨g, 0, none⟩ ∧ ∀ i, i < n → w.cell? ⟨g, i, none⟩ = some (vI (xs.getD i 0)) := by
  have hl := row_len h
  rcases row_cases h with ⟨_, h1, _⟩ | ⟨g, cur, rfl, hg, hnc, hm, hs, hx⟩
  · omega
  · refine ⟨g, rfl, fun i hi => cel_cell hg ?_⟩
    have := take_get (j := i) (v := vI (xs.getD i 0)) hx (by simp [iL, List.getD, show i < xs.length by omega])
    simpa using this
theorem row_cap {w : World} {pv : Option Addr} {n cp : Nat} {xs : List Int} (h : Ent.holds w (row pv n cp xs)) : n ≤ cp ∧ cp ≤ 9223372036854775807 := by
  rcases row_cases h with ⟨_, h1, h2⟩ | ⟨g, cur, rfl, hg, hnc, hm, hs, hx⟩
  · omega
  · exact ⟨hnc, hm⟩
theorem lit0 {w : World} {b : Nat} (h : Ent.holds w (.cel b #[] 3)) : Ent.holds w (row (some ⟨b, 0, none⟩) 0 0 []) := ⟨rfl, .inr ⟨b, 0, #[], rfl, Nat.zero_le _, h, Nat.le_refl _, by unfold maxLen; omega, rfl, rfl⟩⟩
theorem lit1 {w : World} {b : Nat} {x : Int} (h : Ent.holds w (.cel b #[vI x] 3)) : Ent.holds w (row (some ⟨b, 0, none⟩) 1 1 [x]) := ⟨rfl, .inr ⟨b, 1, #[vI x], rfl, Nat.zero_le _, h, Nat.le_refl _, by unfold maxLen; omega, rfl, rfl⟩⟩
theorem own_row {w : World} {v : Value} {n : Nat} {xs : List Int} {ys : List Value} (h : Ent.holds w (.own v n ys 3 1)) (e : ys = iL xs) : ∃ pv cp, v = .slice pv n cp ∧ Ent.own v n ys 3 1 = row pv n cp xs := by
  subst e
  have h2 : w.ownsRow 0 3 1 v n (iL xs) := h
  rcases h2.2 with ⟨h0, h1⟩ | ⟨g, cap, cur, hv, _⟩
  · exact ⟨none, 0, by rw [h0, h1], by rw [h0, h1]⟩
  · exact ⟨_, cap, hv, by rw [hv]⟩
theorem infoI : ∃ i, Try.prog.info? 3 = some i ∧ i.zero = some (.int .i64 0) ∧ i.size = 1 ∧ i.bytes = 8 := by
  obtain ⟨i, hi, h⟩ := Option.map_eq_some_iff.1 (show (Try.prog.info? 3).map (fun i => (i.zero, i.size, i.bytes)) = some (some (.int .i64 0), 1, 8) by kernel_rfl)
  simp only [Prod.mk.injEq] at h
  exact ⟨i, hi, h.1, h.2.1, h.2.2⟩
/-! What the calls answer. -/
def psE (R : Int) (xs : List Int) (x : Int) : Int := if wd x = false then 1 else if R ≤ xs.length then 14 else 0
def psX (R : Int) (xs : List Int) (x : Int) (fr : Bool) : List Int := if psE R xs x = 0 then (if fr = true then x :: xs else xs ++ [x]) else xs
theorem ps_1 {R : Int} {xs : List Int} {x : Int} {fr : Bool} (h : wd x = false) : psE R xs x = 1 ∧ psX R xs x fr = xs := by
  have e : psE R xs x = 1 := by unfold psE; rw [if_pos h]
  exact ⟨e, by unfold psX; rw [e]; rfl⟩
theorem ps_14 {R : Int} {xs : List Int} {x : Int} {fr : Bool} (h : wd x = true) (h2 : R ≤ xs.length) : psE R xs x = 14 ∧ psX R xs x fr = xs := by
  have e : psE R xs x = 14 := by unfold psE; rw [if_neg (by rw [h]; simp), if_pos h2]
  exact ⟨e, by unfold psX; rw [e]; rfl⟩
theorem ps_0 {R : Int} {xs : List Int} {x : Int} {fr : Bool} (h : wd x = true) (h2 : ¬ R ≤ xs.length) : psE R xs x = 0 ∧ psX R xs x fr = if fr = true then x :: xs else xs ++ [x] := by
  have e : psE R xs x = 0 := by unfold psE; rw [if_neg (by rw [h]; simp), if_neg h2]
  exact ⟨e, by unfold psX; rw [if_pos e]⟩
def ppA (xs : List Int) (fr : Bool) : Nat := if fr = true then 0 else xs.length - 1
def ppE (xs : List Int) : Int := if xs.length = 0 then 3 else 0
def ppV (xs : List Int) (fr : Bool) : Int := if xs.length = 0 then 0 else xs.getD (ppA xs fr) 0
def ppX (xs : List Int) (fr : Bool) : List Int := if xs.length = 0 then xs else del xs (ppA xs fr)
def atE (xs : List Int) (i : Int) : Int := if i < 0 ∨ (xs.length : Int) ≤ i then 3 else 0
def atV (xs : List Int) (i : Int) : Int := if i < 0 ∨ (xs.length : Int) ≤ i then 0 else xs.getD i.toNat 0
theorem len_ps {R : Int} {xs : List Int} {x : Int} {fr : Bool} (h : (xs.length : Int) ≤ R) : ((psX R xs x fr).length : Int) ≤ R := by
  by_cases h1 : wd x = true
  · by_cases h2 : R ≤ xs.length
    · rw [(ps_14 h1 h2).2]; exact h
    · rw [(ps_0 h1 h2).2]; split <;> simp <;> omega
  · rw [(ps_1 (by simpa using h1)).2]; exact h
theorem len_del {xs : List Int} {i : Nat} (h : i < xs.length) : (del xs i).length = xs.length - 1 := by simp [del]; omega
theorem len_pp {R : Int} {xs : List Int} {fr : Bool} (h : (xs.length : Int) ≤ R) : ((ppX xs fr).length : Int) ≤ R := by
  unfold ppX
  split
  · exact h
  · rw [len_del (by unfold ppA; split <;> omega)]; omega
theorem sz58 : (Try.prog.info? 58).map (·.size) = some 1 := by kernel_rfl
set_option maxRecDepth 20000 in
set_option maxHeartbeats 4000000 in
theorem wnone_any (l : Nat) (R : Int) (w : World) (hc : w.cell? ⟨l, 0, none⟩ = some (vI R)) (hR : 1 ≤ R) :
    Calls Try.prog 91 #[vP l 0] w fun e w' => e = .returned (.bool false) ∧ Below w.heap.size w w' := by
  refine calls_of Try.func91 rfl (m := 12) rfl [(0, vP l 0)] (Fr_enter [vP l 0] 12 (Nat.le_of_ble_eq_true rfl)) ?_
  have hH1 : HP Tr w w [] := HP.refl w
  refine WC.seq fun K2 hK2 => ?_
  refine WC.region ?_
  refine WL.pure (v := .bool false) 2 rfl (Nat.le_of_ble_eq_true rfl) rfl rfl (by kernel_rfl) ?_
  refine WL.nil ?_
  refine WQ.then ?_
  refine hK2 _ _ _ ?_
  refine WC.seq fun K3 hK3 => ?_
  refine WC.region ?_
  refine WL.pure (v := vP l 0) 3 rfl (Nat.le_of_ble_eq_true rfl) rfl rfl (by kernel_rfl) ?_
  refine WL.pure (v := .bool false) 4 rfl (Nat.le_of_ble_eq_true rfl) rfl rfl (by kernel_rfl) ?_
  refine WL.pure (v := .bool false) 5 rfl (Nat.le_of_ble_eq_true rfl) rfl rfl (by kernel_rfl) ?_
  refine WL.pure (v := vP l 0) 6 rfl (Nat.le_of_ble_eq_true rfl) rfl rfl (by kernel_rfl) ?_
  refine WL.pure (v := vP l 0) 7 rfl (Nat.le_of_ble_eq_true rfl) rfl rfl (by kernel_rfl) ?_
  refine WL.pure (v := vP l 0) 8 rfl (Nat.le_of_ble_eq_true rfl) rfl rfl (by kernel_rfl) ?_
  refine WL.pure (v := vI R) 9 rfl (Nat.le_of_ble_eq_true rfl) rfl rfl (x_load rfl rfl Try.underlying3 rfl (HP.old hH1 trivial hc)) ?_
  refine WL.pure (v := .bool false) 10 rfl (Nat.le_of_ble_eq_true rfl) rfl rfl (x_eql rfl rfl rfl (dF (by omega))) ?_
  refine WL.pure (v := .bool false) 11 rfl (Nat.le_of_ble_eq_true rfl) rfl rfl (by kernel_rfl) ?_
  refine WL.pure (v := .bool false) 2 rfl (Nat.le_of_ble_eq_true rfl) rfl rfl (by kernel_rfl) ?_
  refine WL.nil ?_
  refine WQ.then ?_
  refine hK3 _ _ _ ?_
  refine WC.sub (l' := [(0, vP l 0), (2, .bool false)]) ⟨rfl, rfl, trivial⟩ ?_
  refine WC.ret ?_
  refine WQ.ret1 2 rfl rfl ?_
  exact ⟨rfl, HP.below hH1⟩
set_option maxRecDepth 20000 in
set_option maxHeartbeats 4000000 in
theorem lnone_any (l : Nat) (R : Int) (w : World) (hc : w.cell? ⟨l, 0, none⟩ = some (vI R)) (hR : 1 ≤ R) :
    Calls Try.prog 59 #[vP l 0] w fun e w' => e = .returned (.bool false) ∧ Below w.heap.size w w' := by
  refine calls_of Try.func59 rfl (m := 11) rfl [(0, vP l 0)] (Fr_enter [vP l 0] 11 (Nat.le_of_ble_eq_true rfl)) ?_
  have hH1 : HP Tr w w [] := HP.refl w
  refine WC.seq fun K2 hK2 => ?_
  refine WC.region ?_
  refine WL.pure (v := .bool false) 2 rfl (Nat.le_of_ble_eq_true rfl) rfl rfl (by kernel_rfl) ?_
  refine WL.nil ?_
  refine WQ.then ?_
  refine hK2 _ _ _ ?_
  refine WC.seq fun K3 hK3 => ?_
  refine WC.region ?_
  refine WL.pure (v := vP l 0) 3 rfl (Nat.le_of_ble_eq_true rfl) rfl rfl (by kernel_rfl) ?_
  refine WL.pure (v := .bool false) 4 rfl (Nat.le_of_ble_eq_true rfl) rfl rfl (by kernel_rfl) ?_
  refine WL.pure (v := .bool false) 5 rfl (Nat.le_of_ble_eq_true rfl) rfl rfl (by kernel_rfl) ?_
  refine WL.pure (v := vP l 0) 6 rfl (Nat.le_of_ble_eq_true rfl) rfl rfl (by kernel_rfl) ?_
  refine WL.pure (v := vP l 0) 7 rfl (Nat.le_of_ble_eq_true rfl) rfl rfl (by kernel_rfl) ?_
  refine WL.pure (v := vP l 0) 8 rfl (Nat.le_of_ble_eq_true rfl) rfl rfl (by kernel_rfl) ?_
  refine WL.call (f := 91) (args := #[vP l 0]) 9 rfl (Nat.le_of_ble_eq_true rfl) rfl rfl (by kernel_rfl) ?_
  refine (wnone_any l R _ (HP.old hH1 trivial hc) hR).mono ?_
  rintro e w4 ⟨rfl, hb5⟩
  refine ⟨_, rfl, ?_⟩
  have hH6 : HP Tr w _ [] := HP.call hH1 hb5
  refine WL.pure (v := .bool false) 10 rfl (Nat.le_of_ble_eq_true rfl) rfl rfl (by kernel_rfl) ?_
  refine WL.pure (v := .bool false) 2 rfl (Nat.le_of_ble_eq_true rfl) rfl rfl (by kernel_rfl) ?_
  refine WL.nil ?_
  refine WQ.then ?_
  refine hK3 _ _ _ ?_
  refine WC.sub (l' := [(0, vP l 0), (2, .bool false)]) ⟨rfl, rfl, trivial⟩ ?_
  refine WC.ret ?_
  refine WQ.ret1 2 rfl rfl ?_
  exact ⟨rfl, HP.below hH6⟩
set_option maxRecDepth 20000 in
set_option maxHeartbeats 4000000 in
theorem full_any (l n cp : Nat) (R : Int) (pv : Option Addr) (w : World) (hc : w.cell? ⟨l, 0, none⟩ = some (vI R)) (hc1 : w.cell? ⟨l, 1, none⟩ = some (.slice pv n cp)) :
    Calls Try.prog 60 #[vP l 0] w fun e w' => e = .returned (.bool (decide (R ≤ (n : Int)))) ∧ Below w.heap.size w w' := by
  refine calls_of Try.func60 rfl (m := 13) rfl [(0, vP l 0)] (Fr_enter [vP l 0] 13 (Nat.le_of_ble_eq_true rfl)) ?_
  have hH1 : HP Tr w w [] := HP.refl w
  refine WC.seq fun K2 hK2 => ?_
  refine WC.region ?_
  refine WL.pure (v := .bool false) 2 rfl (Nat.le_of_ble_eq_true rfl) rfl rfl (by kernel_rfl) ?_
  refine WL.nil ?_
  refine WQ.then ?_
  refine hK2 _ _ _ ?_
  refine WC.seq fun K3 hK3 => ?_
  refine WC.still (by kernel_rfl) (by kernel_rfl) ?_
  have hH4 : HP Tr w _ [] := HP.drew hH1
  refine WS.val (v := vP l 0) 3 rfl (Nat.le_of_ble_eq_true rfl) rfl rfl (by kernel_rfl) ?_
  refine WS.val (v := vP l 0) 4 rfl (Nat.le_of_ble_eq_true rfl) rfl rfl (by kernel_rfl) ?_
  refine WS.val (v := vP l 1) 5 rfl (Nat.le_of_ble_eq_true rfl) rfl rfl (by kernel_rfl) ?_
  refine WS.val (v := .slice pv n cp) 6 rfl (Nat.le_of_ble_eq_true rfl) rfl rfl (x_load rfl rfl Try.underlying58 rfl (HP.old hH4 trivial hc1)) ?_
  refine WS.val (v := vI (n : Int)) 7 rfl (Nat.le_of_ble_eq_true rfl) rfl rfl (by kernel_rfl) ?_
  refine WS.val (v := vP l 0) 8 rfl (Nat.le_of_ble_eq_true rfl) rfl rfl (by kernel_rfl) ?_
  refine WS.val (v := vP l 0) 9 rfl (Nat.le_of_ble_eq_true rfl) rfl rfl (by kernel_rfl) ?_
  refine WS.val (v := vP l 0) 10 rfl (Nat.le_of_ble_eq_true rfl) rfl rfl (by kernel_rfl) ?_
  refine WS.val (v := vI R) 11 rfl (Nat.le_of_ble_eq_true rfl) rfl rfl (x_load rfl rfl Try.underlying3 rfl (HP.old hH4 trivial hc)) ?_
  by_cases hf : R ≤ (n : Int)
  ·
    refine WS.val (v := .bool true) 12 rfl (Nat.le_of_ble_eq_true rfl) rfl rfl (x_geq rfl rfl rfl (dT (hf))) ?_
    refine WS.val (v := .bool true) 2 rfl (Nat.le_of_ble_eq_true rfl) rfl rfl (by kernel_rfl) ?_
    refine WS.nilQ ?_
    refine WQ.then ?_
    refine hK3 _ _ _ ?_
    refine WC.sub (l' := [(0, vP l 0), (2, .bool true)]) ⟨rfl, rfl, trivial⟩ ?_
    refine WC.ret ?_
    refine WQ.ret1 2 rfl rfl ?_
    exact ⟨by rw [dT hf], HP.below hH4⟩
  ·
    refine WS.val (v := .bool false) 12 rfl (Nat.le_of_ble_eq_true rfl) rfl rfl (x_geq rfl rfl rfl (dF (hf))) ?_
    refine WS.val (v := .bool false) 2 rfl (Nat.le_of_ble_eq_true rfl) rfl rfl (by kernel_rfl) ?_
    refine WS.nilQ ?_
    refine WQ.then ?_
    refine hK3 _ _ _ ?_
    refine WC.sub (l' := [(0, vP l 0), (2, .bool false)]) ⟨rfl, rfl, trivial⟩ ?_
    refine WC.ret ?_
    refine WQ.ret1 2 rfl rfl ?_
    exact ⟨by rw [dF hf], HP.below hH4⟩
set_option maxRecDepth 20000 in
set_option maxHeartbeats 4000000 in
theorem Push_any (l : Nat) (R : Int) (pv : Option Addr) (cp : Nat) (xs : List Int) (x : Int) (fr : Bool) (w : World) (hB : OwnB w (PB l R pv cp xs)) (hR : 1 ≤ R) (hn : xs.length ≤ 32) :
    Calls Try.prog 26 #[vP l 0, vI x, .bool fr] w fun e w' => ∃ pv' cp', e = .returned (vI (psE R xs x)) ∧ HP (Out (PB l R pv cp xs)) w w' (PB l R pv' cp' (psX R xs x fr)) := by
  refine calls_of Try.func26 rfl (m := 46) rfl [(0, vP l 0), (1, vI x), (2, .bool fr)] (Fr_enter [vP l 0, vI x, .bool fr] 46 (Nat.le_of_ble_eq_true rfl)) ?_
  refine WC.seq fun K1 hK1 => ?_
  refine WC.region ?_
  refine WL.pure (v := vI 0) 6 rfl (Nat.le_of_ble_eq_true rfl) rfl rfl (by kernel_rfl) ?_
  refine WL.nil ?_
  refine WQ.then ?_
  refine hK1 _ _ _ ?_
  refine WC.seq fun K2 hK2 => ?_
  refine WC.block ?_
  refine WC.seq fun K3 hK3 => ?_
  refine WC.region ?_
  refine WL.pure (v := vP l 0) 20 rfl (Nat.le_of_ble_eq_true rfl) rfl rfl (by kernel_rfl) ?_
  refine WL.call (f := 59) (args := #[vP l 0]) 21 rfl (Nat.le_of_ble_eq_true rfl) rfl rfl (by kernel_rfl) ?_
  refine (lnone_any l R _ (HP.cell (HP.startB hB) 0 rfl rfl) hR).mono ?_
  rintro e w4 ⟨rfl, hb5⟩
  refine ⟨_, rfl, ?_⟩
  have hH6 : HP (Out (PB l R pv cp xs)) w _ [.cel l #[vI R, .slice pv xs.length cp] 91, .own (.slice pv xs.length cp) xs.length (iL xs) 3 1] := HP.call (HP.startB hB) hb5
  refine WL.pure (v := .bool false) 22 rfl (Nat.le_of_ble_eq_true rfl) rfl rfl (by kernel_rfl) ?_
  refine WL.pure (v := vI x) 23 rfl (Nat.le_of_ble_eq_true rfl) rfl rfl (by kernel_rfl) ?_
  refine WL.call (f := 51) (args := #[vI x]) 24 rfl (Nat.le_of_ble_eq_true rfl) rfl rfl (by kernel_rfl) ?_
  refine (isWord_wd _ _).mono ?_
  rintro e w7 ⟨rfl, rfl⟩
  refine ⟨_, rfl, ?_⟩
  refine WL.pure (v := .bool (!(wd x))) 25 rfl (Nat.le_of_ble_eq_true rfl) rfl rfl (by kernel_rfl) ?_
  refine WL.pure (v := .bool (!(wd x))) 26 rfl (Nat.le_of_ble_eq_true rfl) rfl rfl (by kernel_rfl) ?_
  refine WL.pure (v := .bool (!(wd x))) 19 rfl (Nat.le_of_ble_eq_true rfl) rfl rfl (by kernel_rfl) ?_
  refine WL.nil ?_
  refine WQ.then ?_
  refine hK3 _ _ _ ?_
  refine WC.sub (l' := [(0, vP l 0), (1, vI x), (2, .bool fr), (6, vI 0), (19, .bool (!(wd x)))]) ⟨rfl, rfl, rfl, rfl, rfl, trivial⟩ ?_
  rcases Bool.eq_false_or_eq_true (wd x) with hwd | hwd
  ·
    refine WC.no (congrArg (fun b => some (Value.bool (!b))) hwd) ?_
    refine WC.seq fun K8 hK8 => ?_
    refine WC.region ?_
    refine WL.pure (v := vP l 0) 28 rfl (Nat.le_of_ble_eq_true rfl) rfl rfl (by kernel_rfl) ?_
    refine WL.pure (v := vP l 0) 29 rfl (Nat.le_of_ble_eq_true rfl) rfl rfl (by kernel_rfl) ?_
    refine WL.pure (v := vP l 0) 30 rfl (Nat.le_of_ble_eq_true rfl) rfl rfl (by kernel_rfl) ?_
    refine WL.call (f := 60) (args := #[vP l 0]) 31 rfl (Nat.le_of_ble_eq_true rfl) rfl rfl (by kernel_rfl) ?_
    refine (full_any l xs.length cp R pv _ (HP.cell hH6 0 rfl rfl) (HP.cell hH6 0 rfl rfl)).mono ?_
    rintro e w9 ⟨rfl, hb10⟩
    refine ⟨_, rfl, ?_⟩
    have hH11 : HP (Out (PB l R pv cp xs)) w _ [.cel l #[vI R, .slice pv xs.length cp] 91, .own (.slice pv xs.length cp) xs.length (iL xs) 3 1] := HP.call hH6 hb10
    refine WL.pure (v := .bool (decide (R ≤ (xs.length : Int)))) 27 rfl (Nat.le_of_ble_eq_true rfl) rfl rfl (by kernel_rfl) ?_
    refine WL.nil ?_
    refine WQ.then ?_
    refine hK8 _ _ _ ?_
    rcases Bool.eq_false_or_eq_true (decide (R ≤ (xs.length : Int))) with hfull | hfull
    ·
      refine WC.yes (congrArg (fun b => some (Value.bool b)) hfull) ?_
      refine WC.seq fun K12 hK12 => ?_
      refine WC.region ?_
      refine WL.pure (v := vI 14) 6 rfl (Nat.le_of_ble_eq_true rfl) rfl rfl (by kernel_rfl) ?_
      refine WL.nil ?_
      refine WQ.then ?_
      refine hK12 _ _ _ ?_
      refine WC.ret ?_
      refine WQ.inRet ?_
      refine WQ.thenRet ?_
      refine WQ.ret1 6 rfl rfl ?_
      exact ⟨pv, cp, by rw [(ps_14 (fr := fr) hwd (of_decide_eq_true hfull)).1], by rw [(ps_14 hwd (of_decide_eq_true hfull)).2]; exact hH11⟩
    ·
      refine WC.no (congrArg (fun b => some (Value.bool b)) hfull) ?_
      refine WC.seq fun K13 hK13 => ?_
      refine WC.region ?_
      refine WL.pure (v := .bool fr) 33 rfl (Nat.le_of_ble_eq_true rfl) rfl rfl (by kernel_rfl) ?_
      refine WL.pure (v := .bool fr) 32 rfl (Nat.le_of_ble_eq_true rfl) rfl rfl (by kernel_rfl) ?_
      refine WL.nil ?_
      refine WQ.then ?_
      refine hK13 _ _ _ ?_
      rcases Bool.eq_false_or_eq_true (fr) with hfr | hfr
      ·
        refine WC.yes (congrArg (fun b => some (Value.bool b)) hfr) ?_
        refine WC.region ?_
        refine WL.pure (v := vP l 0) 34 rfl (Nat.le_of_ble_eq_true rfl) rfl rfl (by kernel_rfl) ?_
        refine WL.pure (v := vP l 0) 35 rfl (Nat.le_of_ble_eq_true rfl) rfl rfl (by kernel_rfl) ?_
        refine WL.pure (v := vP l 0) 36 rfl (Nat.le_of_ble_eq_true rfl) rfl rfl (by kernel_rfl) ?_
        refine WL.pure (v := vP l 0) 37 rfl (Nat.le_of_ble_eq_true rfl) rfl rfl (by kernel_rfl) ?_
        refine WL.pure (v := vP l 1) 38 rfl (Nat.le_of_ble_eq_true rfl) rfl rfl (by kernel_rfl) ?_
        refine WL.pure (v := .slice pv xs.length cp) 39 rfl (Nat.le_of_ble_eq_true rfl) rfl rfl (x_load rfl rfl Try.underlying58 rfl (HP.cell hH11 0 rfl rfl)) ?_
        refine WL.pure (v := vI x) 40 rfl (Nat.le_of_ble_eq_true rfl) rfl rfl (by kernel_rfl) ?_
        refine WL.alloc (c := #[vI x]) (T := 3) hH11 41 rfl (by decide) rfl rfl (fun b14 => vS b14 1 1) (by kernel_rfl) (fun b14 w15 hw15 => ?_)
        have hH16 : HP (Out (PB l R pv cp xs)) w w15 [.cel l #[vI R, .slice pv xs.length cp] 91, .own (.slice pv xs.length cp) xs.length (iL xs) 3 1, .cel b14 #[vI x] 3] := hw15.2
        have nb14 := hw15.1
        clear hw15
        refine WL.call (f := 61) (args := #[.slice pv xs.length cp, vI 0, vS b14 1 1]) 42 rfl (Nat.le_of_ble_eq_true rfl) rfl rfl (by kernel_rfl) ?_
        refine (Insert_any pv xs.length cp b14 0 xs x _ (HP.ownB (A := [.cel l #[vI R, .slice pv xs.length cp] 91]) (B := [.own (.slice pv xs.length cp) xs.length (iL xs) 3 1, .cel b14 #[vI x] 3]) hH16) (Nat.zero_le _) (by omega)).mono ?_
        rintro e w8 ⟨pv2, cp2, rfl, hI⟩
        refine ⟨_, rfl, ?_⟩
        have hC := HP.changed2 hH16 1 rfl hI
        have hH17 : HP (Out (PB l R pv cp xs)) w _ [.cel l #[vI R, .slice pv xs.length cp] 91, .own (.slice pv2 (xs.length + 1) cp2) (xs.length + 1) (iL (ins xs 0 x)) 3 1, .cel b14 #[vI x] 3] := hC
        refine WL.pure (v := vP l 0) 43 rfl (Nat.le_of_ble_eq_true rfl) rfl rfl (by kernel_rfl) ?_
        refine WL.pure (v := vP l 0) 44 rfl (Nat.le_of_ble_eq_true rfl) rfl rfl (by kernel_rfl) ?_
        refine WL.pure (v := vP l 1) 45 rfl (Nat.le_of_ble_eq_true rfl) rfl rfl (by kernel_rfl) ?_
        refine WL.store (H2 := [.cel l #[vI R, .slice pv2 (xs.length + 1) cp2] 91, .own (.slice pv2 (xs.length + 1) cp2) (xs.length + 1) (iL (ins xs 0 x)) 3 1, .cel b14 #[vI x] 3]) 0 hH17 rfl rfl rfl rfl rfl rfl sz58 rfl (Nat.le_of_ble_eq_true rfl) rfl rfl ?_
        intro w18 hH19
        refine WL.nil ?_
        refine WQ.inNormal ?_
        refine WQ.then ?_
        refine hK2 _ _ _ ?_
        refine WC.sub (l' := [(0, vP l 0), (1, vI x), (2, .bool fr), (6, vI 0), (19, .bool (!(wd x))), (27, .bool (decide (R ≤ (xs.length : Int)))), (32, .bool fr)]) ⟨rfl, rfl, rfl, rfl, rfl, rfl, rfl, trivial⟩ ?_
        refine WC.seq fun K20 hK20 => ?_
        refine WC.region ?_
        refine WL.pure (v := vI 0) 6 rfl (Nat.le_of_ble_eq_true rfl) rfl rfl (by kernel_rfl) ?_
        refine WL.nil ?_
        refine WQ.then ?_
        refine hK20 _ _ _ ?_
        refine WC.ret ?_
        refine WQ.ret1 6 rfl rfl ?_
        have q := ps_0 (R := R) (xs := xs) (x := x) (fr := fr) hwd (of_decide_eq_false hfull)
        have qx : psX R xs x fr = ins xs 0 x := by rw [q.2, hfr]; rfl
        have ql : (ins xs 0 x).length = xs.length + 1 := by simp [ins]
        refine ⟨pv2, cp2, by rw [q.1], ?_⟩
        rw [qx]
        exact HP.eq (HP.drop hH19 2) (by unfold PB; rw [ql]; rfl)
      ·
        refine WC.no (congrArg (fun b => some (Value.bool b)) hfr) ?_
        refine WC.region ?_
        refine WL.pure (v := vP l 0) 7 rfl (Nat.le_of_ble_eq_true rfl) rfl rfl (by kernel_rfl) ?_
        refine WL.pure (v := vP l 0) 8 rfl (Nat.le_of_ble_eq_true rfl) rfl rfl (by kernel_rfl) ?_
        refine WL.pure (v := vP l 0) 9 rfl (Nat.le_of_ble_eq_true rfl) rfl rfl (by kernel_rfl) ?_
        refine WL.pure (v := vP l 0) 10 rfl (Nat.le_of_ble_eq_true rfl) rfl rfl (by kernel_rfl) ?_
        refine WL.pure (v := vP l 1) 11 rfl (Nat.le_of_ble_eq_true rfl) rfl rfl (by kernel_rfl) ?_
        refine WL.pure (v := .slice pv xs.length cp) 12 rfl (Nat.le_of_ble_eq_true rfl) rfl rfl (x_load rfl rfl Try.underlying58 rfl (HP.cell hH11 0 rfl rfl)) ?_
        refine WL.pure (v := vI x) 13 rfl (Nat.le_of_ble_eq_true rfl) rfl rfl (by kernel_rfl) ?_
        refine WL.alloc (c := #[vI x]) (T := 3) hH11 14 rfl (by decide) rfl rfl (fun b21 => vS b21 1 1) (by kernel_rfl) (fun b21 w22 hw22 => ?_)
        have hH23 : HP (Out (PB l R pv cp xs)) w w22 [.cel l #[vI R, .slice pv xs.length cp] 91, .own (.slice pv xs.length cp) xs.length (iL xs) 3 1, .cel b21 #[vI x] 3] := hw22.2
        have nb21 := hw22.1
        clear hw22
        obtain ⟨i0, hi0, hz0, hz1, hz2⟩ := infoI
        refine WL.append (news := [vI x]) 1 2 hH23 15 rfl (by decide) rfl rfl rfl rfl Try.underlying58 hi0 hz0 hz1 hz2 rfl (by decide) rfl rfl rfl rfl (by simp [Value.oneCell']) (by unfold maxLen; omega) (by omega) ?_
        rintro v9 w9 - hA9
        obtain ⟨pv2, cp2, rfl, he9⟩ := own_row (xs := xs ++ [x]) (HP.get hA9 1 rfl) (by simp [iL])
        have hH24 : HP (Out (PB l R pv cp xs)) w _ [.cel l #[vI R, .slice pv xs.length cp] 91, .own (.slice pv2 (xs.length + 1) cp2) (xs.length + 1) (iL (xs ++ [x])) 3 1, .cel b21 #[vI x] 3] := HP.eq hA9 (by rw [show (iL xs ++ [vI x]) = iL (xs ++ [x]) by simp [iL]]; rfl)
        refine WL.pure (v := vP l 0) 16 rfl (Nat.le_of_ble_eq_true rfl) rfl rfl (by kernel_rfl) ?_
        refine WL.pure (v := vP l 0) 17 rfl (Nat.le_of_ble_eq_true rfl) rfl rfl (by kernel_rfl) ?_
        refine WL.pure (v := vP l 1) 18 rfl (Nat.le_of_ble_eq_true rfl) rfl rfl (by kernel_rfl) ?_
        refine WL.store (H2 := [.cel l #[vI R, .slice pv2 (xs.length + 1) cp2] 91, .own (.slice pv2 (xs.length + 1) cp2) (xs.length + 1) (iL (xs ++ [x])) 3 1, .cel b21 #[vI x] 3]) 0 hH24 rfl rfl rfl rfl rfl rfl sz58 rfl (Nat.le_of_ble_eq_true rfl) rfl rfl ?_
        intro w25 hH26
        refine WL.nil ?_
        refine WQ.inNormal ?_
        refine WQ.then ?_
        refine hK2 _ _ _ ?_
        refine WC.sub (l' := [(0, vP l 0), (1, vI x), (2, .bool fr), (6, vI 0), (19, .bool (!(wd x))), (27, .bool (decide (R ≤ (xs.length : Int)))), (32, .bool fr)]) ⟨rfl, rfl, rfl, rfl, rfl, rfl, rfl, trivial⟩ ?_
        refine WC.seq fun K27 hK27 => ?_
        refine WC.region ?_
        refine WL.pure (v := vI 0) 6 rfl (Nat.le_of_ble_eq_true rfl) rfl rfl (by kernel_rfl) ?_
        refine WL.nil ?_
        refine WQ.then ?_
        refine hK27 _ _ _ ?_
        refine WC.ret ?_
        refine WQ.ret1 6 rfl rfl ?_
        have q := ps_0 (R := R) (xs := xs) (x := x) (fr := fr) hwd (of_decide_eq_false hfull)
        have qx : psX R xs x fr = xs ++ [x] := by rw [q.2, hfr]; rfl
        have ql : (xs ++ [x]).length = xs.length + 1 := by simp [ins]
        refine ⟨pv2, cp2, by rw [q.1], ?_⟩
        rw [qx]
        exact HP.eq (HP.drop hH26 2) (by unfold PB; rw [ql]; rfl)
  ·
    refine WC.yes (congrArg (fun b => some (Value.bool (!b))) hwd) ?_
    refine WC.seq fun K28 hK28 => ?_
    refine WC.region ?_
    refine WL.pure (v := vI 1) 6 rfl (Nat.le_of_ble_eq_true rfl) rfl rfl (by kernel_rfl) ?_
    refine WL.nil ?_
    refine WQ.then ?_
    refine hK28 _ _ _ ?_
    refine WC.ret ?_
    refine WQ.inRet ?_
    refine WQ.thenRet ?_
    refine WQ.ret1 6 rfl rfl ?_
    exact ⟨pv, cp, by rw [(ps_1 (R := R) (xs := xs) (fr := fr) hwd).1], by rw [(ps_1 hwd).2]; exact hH6⟩
set_option maxRecDepth 20000 in
set_option maxHeartbeats 4000000 in
theorem rPush_any (l : Nat) (R : Int) (pv : Option Addr) (cp : Nat) (xs : List Int) (x : Int) (fr : Bool) (w : World) (hB : OwnB w (RB l R pv cp xs)) (hR : 1 ≤ R) (hn : xs.length ≤ 32) :
    Calls Try.prog 27 #[vP l 0, vI x, .bool fr] w fun e w' => ∃ pv' cp', e = .returned (vI (psE R xs x)) ∧ HP (Out (RB l R pv cp xs)) w w' (RB l R pv' cp' (psX R xs x fr)) := by
  refine calls_of Try.func27 rfl (m := 54) rfl [(0, vP l 0), (1, vI x), (2, .bool fr)] (Fr_enter [vP l 0, vI x, .bool fr] 54 (Nat.le_of_ble_eq_true rfl)) ?_
  refine WC.seq fun K1 hK1 => ?_
  refine WC.region ?_
  refine WL.pure (v := vI 0) 6 rfl (Nat.le_of_ble_eq_true rfl) rfl rfl (by kernel_rfl) ?_
  refine WL.nil ?_
  refine WQ.then ?_
  refine hK1 _ _ _ ?_
  refine WC.seq fun K2 hK2 => ?_
  refine WC.seq fun K3 hK3 => ?_
  refine WC.region ?_
  refine WL.pure (v := vP l 0) 7 rfl (Nat.le_of_ble_eq_true rfl) rfl rfl (by kernel_rfl) ?_
  refine WL.pure (v := .bool false) 8 rfl (Nat.le_of_ble_eq_true rfl) rfl rfl (by kernel_rfl) ?_
  refine WL.pure (v := .bool false) 9 rfl (Nat.le_of_ble_eq_true rfl) rfl rfl (by kernel_rfl) ?_
  refine WL.pure (v := vP l 0) 10 rfl (Nat.le_of_ble_eq_true rfl) rfl rfl (by kernel_rfl) ?_
  refine WL.pure (v := vP l 0) 11 rfl (Nat.le_of_ble_eq_true rfl) rfl rfl (by kernel_rfl) ?_
  refine WL.pure (v := vP l 1) 12 rfl (Nat.le_of_ble_eq_true rfl) rfl rfl (by kernel_rfl) ?_
  refine WL.pure (v := vI R) 13 rfl (Nat.le_of_ble_eq_true rfl) rfl rfl (x_load rfl rfl Try.underlying3 rfl (HP.cell (HP.startB hB) 0 rfl rfl)) ?_
  refine WL.pure (v := .bool false) 14 rfl (Nat.le_of_ble_eq_true rfl) rfl rfl (x_eql rfl rfl rfl (dF (by omega))) ?_
  refine WL.pure (v := .bool false) 15 rfl (Nat.le_of_ble_eq_true rfl) rfl rfl (by kernel_rfl) ?_
  refine WL.pure (v := .bool false) 16 rfl (Nat.le_of_ble_eq_true rfl) rfl rfl (by kernel_rfl) ?_
  refine WL.pure (v := vI x) 17 rfl (Nat.le_of_ble_eq_true rfl) rfl rfl (by kernel_rfl) ?_
  refine WL.call (f := 62) (args := #[vI x]) 18 rfl (Nat.le_of_ble_eq_true rfl) rfl rfl (by kernel_rfl) ?_
  refine (rword_any _ _).mono ?_
  rintro e w4 ⟨rfl, rfl⟩
  refine ⟨_, rfl, ?_⟩
  refine WL.pure (v := .bool (!(wd x))) 19 rfl (Nat.le_of_ble_eq_true rfl) rfl rfl (by kernel_rfl) ?_
  refine WL.pure (v := .bool (!(wd x))) 20 rfl (Nat.le_of_ble_eq_true rfl) rfl rfl (by kernel_rfl) ?_
  refine WL.nil ?_
  refine WQ.then ?_
  refine hK3 _ _ _ ?_
  refine WC.sub (l' := [(0, vP l 0), (1, vI x), (2, .bool fr), (6, vI 0), (20, .bool (!(wd x)))]) ⟨rfl, rfl, rfl, rfl, rfl, trivial⟩ ?_
  rcases Bool.eq_false_or_eq_true (wd x) with hwd | hwd
  ·
    refine WC.no (congrArg (fun b => some (Value.bool (!b))) hwd) ?_
    refine WC.skip ?_
    refine WQ.then ?_
    refine hK2 _ _ _ ?_
    refine WC.seq fun K5 hK5 => ?_
    refine WC.seq fun K6 hK6 => ?_
    refine WC.still (by kernel_rfl) (by kernel_rfl) ?_
    have hH7 : HP (Out (RB l R pv cp xs)) w _ [.cel l #[.slice pv xs.length cp, vI R] 93, .own (.slice pv xs.length cp) xs.length (iL xs) 3 1] := HP.drew (HP.startB hB)
    refine WS.val (v := vP l 0) 21 rfl (Nat.le_of_ble_eq_true rfl) rfl rfl (by kernel_rfl) ?_
    refine WS.val (v := vP l 0) 22 rfl (Nat.le_of_ble_eq_true rfl) rfl rfl (by kernel_rfl) ?_
    refine WS.val (v := vP l 0) 23 rfl (Nat.le_of_ble_eq_true rfl) rfl rfl (by kernel_rfl) ?_
    refine WS.val (v := .slice pv xs.length cp) 24 rfl (Nat.le_of_ble_eq_true rfl) rfl rfl (x_load rfl rfl Try.underlying58 rfl (HP.cell hH7 0 rfl rfl)) ?_
    refine WS.val (v := vI (xs.length : Int)) 25 rfl (Nat.le_of_ble_eq_true rfl) rfl rfl (by kernel_rfl) ?_
    refine WS.val (v := vP l 0) 26 rfl (Nat.le_of_ble_eq_true rfl) rfl rfl (by kernel_rfl) ?_
    refine WS.val (v := vP l 0) 27 rfl (Nat.le_of_ble_eq_true rfl) rfl rfl (by kernel_rfl) ?_
    refine WS.val (v := vP l 1) 28 rfl (Nat.le_of_ble_eq_true rfl) rfl rfl (by kernel_rfl) ?_
    refine WS.val (v := vI R) 29 rfl (Nat.le_of_ble_eq_true rfl) rfl rfl (x_load rfl rfl Try.underlying3 rfl (HP.cell hH7 0 rfl rfl)) ?_
    rcases Bool.eq_false_or_eq_true (decide (R ≤ (xs.length : Int))) with hfull | hfull
    ·
      refine WS.val (v := .bool true) 30 rfl (Nat.le_of_ble_eq_true rfl) rfl rfl (x_geq rfl rfl rfl hfull) ?_
      refine WS.nilQ ?_
      refine WQ.then ?_
      refine hK6 _ _ _ ?_
      refine WC.sub (l' := [(0, vP l 0), (1, vI x), (2, .bool fr), (6, vI 0), (20, .bool (!(wd x))), (30, .bool true)]) ⟨rfl, rfl, rfl, rfl, rfl, rfl, trivial⟩ ?_
      refine WC.yes rfl ?_
      refine WC.seq fun K8 hK8 => ?_
      refine WC.region ?_
      refine WL.pure (v := vI 14) 6 rfl (Nat.le_of_ble_eq_true rfl) rfl rfl (by kernel_rfl) ?_
      refine WL.nil ?_
      refine WQ.then ?_
      refine hK8 _ _ _ ?_
      refine WC.ret ?_
      refine WQ.thenRet ?_
      refine WQ.ret1 6 rfl rfl ?_
      exact ⟨pv, cp, by rw [(ps_14 (fr := fr) hwd (of_decide_eq_true hfull)).1], by rw [(ps_14 hwd (of_decide_eq_true hfull)).2]; exact hH7⟩
    ·
      refine WS.val (v := .bool false) 30 rfl (Nat.le_of_ble_eq_true rfl) rfl rfl (x_geq rfl rfl rfl hfull) ?_
      refine WS.nilQ ?_
      refine WQ.then ?_
      refine hK6 _ _ _ ?_
      refine WC.sub (l' := [(0, vP l 0), (1, vI x), (2, .bool fr), (6, vI 0), (20, .bool (!(wd x))), (30, .bool false)]) ⟨rfl, rfl, rfl, rfl, rfl, rfl, trivial⟩ ?_
      refine WC.no rfl ?_
      refine WC.skip ?_
      refine WQ.then ?_
      refine hK5 _ _ _ ?_
      refine WC.seq fun K9 hK9 => ?_
      refine WC.seq fun K10 hK10 => ?_
      refine WC.region ?_
      refine WL.pure (v := .bool fr) 31 rfl (Nat.le_of_ble_eq_true rfl) rfl rfl (by kernel_rfl) ?_
      refine WL.nil ?_
      refine WQ.then ?_
      refine hK10 _ _ _ ?_
      rcases Bool.eq_false_or_eq_true (fr) with hfr | hfr
      ·
        refine WC.yes (congrArg (fun b => some (Value.bool b)) hfr) ?_
        refine WC.region ?_
        refine WL.pure (v := vP l 0) 32 rfl (Nat.le_of_ble_eq_true rfl) rfl rfl (by kernel_rfl) ?_
        refine WL.pure (v := vI x) 33 rfl (Nat.le_of_ble_eq_true rfl) rfl rfl (by kernel_rfl) ?_
        refine WL.alloc (c := #[vI x]) (T := 3) hH7 34 rfl (by decide) rfl rfl (fun b11 => vS b11 1 1) (by kernel_rfl) (fun b11 w12 hw12 => ?_)
        have hH13 : HP (Out (RB l R pv cp xs)) w w12 [.cel l #[.slice pv xs.length cp, vI R] 93, .own (.slice pv xs.length cp) xs.length (iL xs) 3 1, .cel b11 #[vI x] 3] := hw12.2
        have nb11 := hw12.1
        clear hw12
        refine WL.pure (v := vP l 0) 35 rfl (Nat.le_of_ble_eq_true rfl) rfl rfl (by kernel_rfl) ?_
        refine WL.pure (v := vP l 0) 36 rfl (Nat.le_of_ble_eq_true rfl) rfl rfl (by kernel_rfl) ?_
        refine WL.pure (v := vP l 0) 37 rfl (Nat.le_of_ble_eq_true rfl) rfl rfl (by kernel_rfl) ?_
        refine WL.pure (v := .slice pv xs.length cp) 38 rfl (Nat.le_of_ble_eq_true rfl) rfl rfl (x_load rfl rfl Try.underlying58 rfl (HP.cell hH13 0 rfl rfl)) ?_
        have hO := HP.setSame hH13 2 (e' := row (some ⟨b11, 0, none⟩) 1 1 [x]) rfl (lit1 (HP.get hH13 2 rfl)) rfl
        have hH14 : HP (Out (RB l R pv cp xs)) w _ [.cel l #[.slice pv xs.length cp, vI R] 93, .own (.slice pv xs.length cp) xs.length (iL xs) 3 1, .own (.slice (some ⟨b11, 0, none⟩) 1 1) 1 (iL [x]) 3 1] := hO
        obtain ⟨i0, hi0, hz0, hz1, hz2⟩ := infoI
        refine WL.appendSrc (iL xs) 2 hH14 39 rfl (by decide) rfl rfl rfl rfl Try.underlying58 hi0 hz0 hz1 hz2 rfl (by decide) rfl (row_src (HP.get hH14 1 rfl)) (by simp [iL]) (iL_one xs) (by unfold maxLen; omega) (by omega) ?_
        rintro v9 w9 - hA9
        obtain ⟨pv2, cp2, rfl, he9⟩ := own_row (xs := x :: xs) (HP.get hA9 2 rfl) (by simp [iL])
        have hH15 : HP (Out (RB l R pv cp xs)) w _ [.cel l #[.slice pv xs.length cp, vI R] 93, .own (.slice pv xs.length cp) xs.length (iL xs) 3 1, .own (.slice pv2 (1 + xs.length) cp2) (1 + xs.length) (iL (x :: xs)) 3 1] := hA9
        refine WL.pure (v := vP l 0) 40 rfl (Nat.le_of_ble_eq_true rfl) rfl rfl (by kernel_rfl) ?_
        refine WL.pure (v := vP l 0) 41 rfl (Nat.le_of_ble_eq_true rfl) rfl rfl (by kernel_rfl) ?_
        refine WL.store (H2 := [.cel l #[.slice pv2 (1 + xs.length) cp2, vI R] 93, .own (.slice pv xs.length cp) xs.length (iL xs) 3 1, .own (.slice pv2 (1 + xs.length) cp2) (1 + xs.length) (iL (x :: xs)) 3 1]) 0 hH15 rfl rfl rfl rfl rfl rfl sz58 rfl (Nat.le_of_ble_eq_true rfl) rfl rfl ?_
        intro w16 hH17
        refine WL.nil ?_
        refine WQ.then ?_
        refine hK9 _ _ _ ?_
        refine WC.sub (l' := [(0, vP l 0), (1, vI x), (2, .bool fr), (6, vI 0), (20, .bool (!(wd x))), (30, .bool false), (31, .bool fr)]) ⟨rfl, rfl, rfl, rfl, rfl, rfl, rfl, trivial⟩ ?_
        refine WC.seq fun K18 hK18 => ?_
        refine WC.region ?_
        refine WL.pure (v := vI 0) 6 rfl (Nat.le_of_ble_eq_true rfl) rfl rfl (by kernel_rfl) ?_
        refine WL.nil ?_
        refine WQ.then ?_
        refine hK18 _ _ _ ?_
        refine WC.ret ?_
        refine WQ.ret1 6 rfl rfl ?_
        have q := ps_0 (R := R) (xs := xs) (x := x) (fr := fr) hwd (of_decide_eq_false hfull)
        have qx : psX R xs x fr = x :: xs := by rw [q.2, hfr]; rfl
        have ql : (x :: xs).length = 1 + xs.length := by simp <;> omega
        refine ⟨pv2, cp2, by rw [q.1], ?_⟩
        rw [qx]
        exact HP.eq (HP.drop hH17 1) (by unfold RB; rw [ql]; rfl)
      ·
        refine WC.no (congrArg (fun b => some (Value.bool b)) hfr) ?_
        refine WC.region ?_
        refine WL.pure (v := vP l 0) 42 rfl (Nat.le_of_ble_eq_true rfl) rfl rfl (by kernel_rfl) ?_
        refine WL.alloc (c := #[]) (T := 3) hH7 43 rfl (by decide) rfl rfl (fun b19 => vS b19 0 0) (by kernel_rfl) (fun b19 w20 hw20 => ?_)
        have hH21 : HP (Out (RB l R pv cp xs)) w w20 [.cel l #[.slice pv xs.length cp, vI R] 93, .own (.slice pv xs.length cp) xs.length (iL xs) 3 1, .cel b19 #[] 3] := hw20.2
        have nb19 := hw20.1
        clear hw20
        refine WL.pure (v := vP l 0) 44 rfl (Nat.le_of_ble_eq_true rfl) rfl rfl (by kernel_rfl) ?_
        refine WL.pure (v := vP l 0) 45 rfl (Nat.le_of_ble_eq_true rfl) rfl rfl (by kernel_rfl) ?_
        refine WL.pure (v := vP l 0) 46 rfl (Nat.le_of_ble_eq_true rfl) rfl rfl (by kernel_rfl) ?_
        refine WL.pure (v := .slice pv xs.length cp) 47 rfl (Nat.le_of_ble_eq_true rfl) rfl rfl (x_load rfl rfl Try.underlying58 rfl (HP.cell hH21 0 rfl rfl)) ?_
        have hO := HP.setSame hH21 2 (e' := row (some ⟨b19, 0, none⟩) 0 0 []) rfl (lit0 (HP.get hH21 2 rfl)) rfl
        have hH22 : HP (Out (RB l R pv cp xs)) w _ [.cel l #[.slice pv xs.length cp, vI R] 93, .own (.slice pv xs.length cp) xs.length (iL xs) 3 1, .own (.slice (some ⟨b19, 0, none⟩) 0 0) 0 (iL []) 3 1] := hO
        obtain ⟨i0, hi0, hz0, hz1, hz2⟩ := infoI
        refine WL.appendSrc (iL xs) 2 hH22 48 rfl (by decide) rfl rfl rfl rfl Try.underlying58 hi0 hz0 hz1 hz2 rfl (by decide) rfl (row_src (HP.get hH22 1 rfl)) (by simp [iL]) (iL_one xs) (by unfold maxLen; omega) (by omega) ?_
        rintro v8 w8 - hA8
        have hA7 := HP.eq (H' := [.cel l #[.slice pv xs.length cp, vI R] 93, .own (.slice pv xs.length cp) xs.length (iL xs) 3 1, .own v8 xs.length (iL xs) 3 1]) hA8 (by rw [Nat.zero_add]; rfl)
        obtain ⟨pv8, cp8, rfl, -⟩ := own_row (xs := xs) (HP.get hA7 2 rfl) rfl
        have hH23 : HP (Out (RB l R pv cp xs)) w _ [.cel l #[.slice pv xs.length cp, vI R] 93, .own (.slice pv xs.length cp) xs.length (iL xs) 3 1, .own (.slice pv8 xs.length cp8) xs.length (iL xs) 3 1] := hA7
        refine WL.pure (v := vI x) 49 rfl (Nat.le_of_ble_eq_true rfl) rfl rfl (by kernel_rfl) ?_
        refine WL.alloc (c := #[vI x]) (T := 3) hH23 50 rfl (by decide) rfl rfl (fun b24 => vS b24 1 1) (by kernel_rfl) (fun b24 w25 hw25 => ?_)
        have hH26 : HP (Out (RB l R pv cp xs)) w w25 [.cel l #[.slice pv xs.length cp, vI R] 93, .own (.slice pv xs.length cp) xs.length (iL xs) 3 1, .own (.slice pv8 xs.length cp8) xs.length (iL xs) 3 1, .cel b24 #[vI x] 3] := hw25.2
        have nb24 := hw25.1
        clear hw25
        obtain ⟨i0, hi0, hz0, hz1, hz2⟩ := infoI
        refine WL.append (news := [vI x]) 2 3 hH26 51 rfl (by decide) rfl rfl rfl rfl Try.underlying58 hi0 hz0 hz1 hz2 rfl (by decide) rfl rfl rfl rfl (by simp [Value.oneCell']) (by unfold maxLen; omega) (by omega) ?_
        rintro v9 w9 - hA9
        obtain ⟨pv2, cp2, rfl, he9⟩ := own_row (xs := xs ++ [x]) (HP.get hA9 2 rfl) (by simp [iL])
        have hH27 : HP (Out (RB l R pv cp xs)) w _ [.cel l #[.slice pv xs.length cp, vI R] 93, .own (.slice pv xs.length cp) xs.length (iL xs) 3 1, .own (.slice pv2 (xs.length + 1) cp2) (xs.length + 1) (iL (xs ++ [x])) 3 1, .cel b24 #[vI x] 3] := HP.eq hA9 (by rw [show (iL xs ++ [vI x]) = iL (xs ++ [x]) by simp [iL]]; rfl)
        refine WL.pure (v := vP l 0) 52 rfl (Nat.le_of_ble_eq_true rfl) rfl rfl (by kernel_rfl) ?_
        refine WL.pure (v := vP l 0) 53 rfl (Nat.le_of_ble_eq_true rfl) rfl rfl (by kernel_rfl) ?_
        refine WL.store (H2 := [.cel l #[.slice pv2 (xs.length + 1) cp2, vI R] 93, .own (.slice pv xs.length cp) xs.length (iL xs) 3 1, .own (.slice pv2 (xs.length + 1) cp2) (xs.length + 1) (iL (xs ++ [x])) 3 1, .cel b24 #[vI x] 3]) 0 hH27 rfl rfl rfl rfl rfl rfl sz58 rfl (Nat.le_of_ble_eq_true rfl) rfl rfl ?_
        intro w28 hH29
        refine WL.nil ?_
        refine WQ.then ?_
        refine hK9 _ _ _ ?_
        refine WC.sub (l' := [(0, vP l 0), (1, vI x), (2, .bool fr), (6, vI 0), (20, .bool (!(wd x))), (30, .bool false), (31, .bool fr)]) ⟨rfl, rfl, rfl, rfl, rfl, rfl, rfl, trivial⟩ ?_
        refine WC.seq fun K30 hK30 => ?_
        refine WC.region ?_
        refine WL.pure (v := vI 0) 6 rfl (Nat.le_of_ble_eq_true rfl) rfl rfl (by kernel_rfl) ?_
        refine WL.nil ?_
        refine WQ.then ?_
        refine hK30 _ _ _ ?_
        refine WC.ret ?_
        refine WQ.ret1 6 rfl rfl ?_
        have q := ps_0 (R := R) (xs := xs) (x := x) (fr := fr) hwd (of_decide_eq_false hfull)
        have qx : psX R xs x fr = xs ++ [x] := by rw [q.2, hfr]; rfl
        have ql : (xs ++ [x]).length = xs.length + 1 := by simp
        refine ⟨pv2, cp2, by rw [q.1], ?_⟩
        rw [qx]
        exact HP.eq (HP.drop (HP.drop hH29 3) 1) (by unfold RB; rw [ql]; rfl)
  ·
    refine WC.yes (congrArg (fun b => some (Value.bool (!b))) hwd) ?_
    refine WC.seq fun K31 hK31 => ?_
    refine WC.region ?_
    refine WL.pure (v := vI 1) 6 rfl (Nat.le_of_ble_eq_true rfl) rfl rfl (by kernel_rfl) ?_
    refine WL.nil ?_
    refine WQ.then ?_
    refine hK31 _ _ _ ?_
    refine WC.ret ?_
    refine WQ.thenRet ?_
    refine WQ.ret1 6 rfl rfl ?_
    exact ⟨pv, cp, by rw [(ps_1 (R := R) (xs := xs) (fr := fr) hwd).1], by rw [(ps_1 hwd).2]; exact (HP.startB hB)⟩
end Lb
end Go.Proofs.Ytgdfbpphfanocaa
