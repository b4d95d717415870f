/- The buffer, of the program and of the reference. -/
import Derived.Test.YtgdfbpphfanocaaDoorFS
import Derived.Test.YtgdfbpphfanocaaDoorHN
set_option linter.unusedVariables false
set_option linter.unusedSimpArgs false
namespace Go.Proofs.YtgdfbpphfanocaaDoor
open Go.RowKit Fw
namespace Lw
open Ln (itoa_any)
open Lc (isRoom_any rroom_any rm rm_t)
abbrev bS (bs : List UInt8) : ByteArray := ⟨bs.toArray⟩
abbrev WB (b : Nat) (R : Int) (pv : Option Addr) (cp : Nat) (bs : List UInt8) : List Ent := [.cel b #[vI R, .slice pv bs.length cp] 62, .own (.slice pv bs.length cp) bs.length (bC bs) 5 1]
abbrev WR (b : Nat) (R : Int) (bs : List UInt8) : List Ent := [.cel b #[.string (bS bs), vI R] 66]
def wE (R : Int) (bs : List UInt8) (s : ByteArray) : Int := if R - bs.length < (s.size : Int) then 14 else 0
def wX (R : Int) (bs : List UInt8) (s : ByteArray) : List UInt8 := if R - bs.length < (s.size : Int) then bs else bs ++ s.data.toList
theorem w_full {R : Int} {bs : List UInt8} {s : ByteArray} (h : R - bs.length < (s.size : Int)) : wE R bs s = 14 ∧ wX R bs s = bs := by unfold wE wX; rw [if_pos h, if_pos h]; exact ⟨rfl, rfl⟩
theorem w_room {R : Int} {bs : List UInt8} {s : ByteArray} (h : ¬ R - bs.length < (s.size : Int)) : wE R bs s = 0 ∧ wX R bs s = bs ++ s.data.toList := by unfold wE wX; rw [if_neg h, if_neg h]; exact ⟨rfl, rfl⟩
theorem len_w {R : Int} {bs : List UInt8} {s : ByteArray} (h : (bs.length : Int) ≤ R) : ((wX R bs s).length : Int) ≤ R := by
  unfold wX
  split
  · exact h
  · rename_i h2
    have : (bs ++ s.data.toList).length = bs.length + s.size := by rw [List.length_append]; rfl
    omega
theorem infoB : ∃ i, Tryd.prog.info? 5 = some i ∧ i.zero = some (.int .u8 0) ∧ i.size = 1 ∧ i.bytes = 1 := by
  obtain ⟨i, hi, h⟩ := Option.map_eq_some_iff.1 (show (Tryd.prog.info? 5).map (fun i => (i.zero, i.size, i.bytes)) = some (some (.int .u8 0), 1, 1) by kernel_rfl)
  simp only [Prod.mk.injEq] at h
  exact ⟨i, hi, h.1, h.2.1, h.2.2⟩
theorem row_cap {w : World} {pv : Option Addr} {n cp : Nat} {l : List Value} (h : Ent.holds w (.own (.slice pv n cp) n l 5 1)) : n ≤ cp ∧ cp ≤ 9223372036854775807 := by
  have h2 : w.ownsRow 0 5 1 (.slice pv n cp) n l := h
  rcases h2.2 with ⟨h0, h1⟩ | ⟨g, cap, cur, hv, hbg, hg, hnc, hcm, hcs, htake⟩
  · simp at h0; omega
  · simp at hv; obtain ⟨rfl, rfl⟩ := hv; exact ⟨hnc, hcm⟩
theorem own_row {w : World} {v : Value} {n : Nat} {xs : List Value} (h : Ent.holds w (.own v n xs 5 1)) : ∃ pv cp, v = .slice pv n cp := by
  have h2 : w.ownsRow 0 5 1 v n xs := h
  rcases h2.2 with ⟨h0, h1⟩ | ⟨g, cap, cur, hv, _⟩
  · exact ⟨none, 0, by rw [h0, h1]⟩
  · exact ⟨_, cap, hv⟩
theorem sz9 : (Tryd.prog.info? 9).map (·.size) = some 1 := by kernel_rfl
theorem sz60 : (Tryd.prog.info? 60).map (·.size) = some 1 := by kernel_rfl
set_option maxRecDepth 20000 in
set_option maxHeartbeats 4000000 in
theorem bn_any (b : Nat) (R : Int) (w : World) (hc : w.cell? ⟨b, 0, none⟩ = some (vI R)) (hR : 1 ≤ R) :
    Calls Tryd.prog 29 #[vP b 0] w fun e w' => e = .returned (.bool false) ∧ Below w.heap.size w w' := by
  refine calls_of Tryd.func29 rfl (m := 12) rfl [(0, vP b 0)] (Fr_enter [vP b 0] 12 (Nat.le_of_ble_eq_true rfl)) ?_
  have hH1 : HP Tr w w [] := HP.refl w
  refine WC.seq fun K2 hK2 => ?_
  refine WC.region ?_
  refine WL.pure (v := .bool false) 2 rfl (Nat.le_of_ble_eq_true rfl) rfl rfl (by kernel_rfl) ?_
  refine WL.nil ?_
  refine WQ.then ?_
  refine hK2 _ _ _ ?_
  refine WC.seq fun K3 hK3 => ?_
  refine WC.region ?_
  refine WL.pure (v := vP b 0) 3 rfl (Nat.le_of_ble_eq_true rfl) rfl rfl (by kernel_rfl) ?_
  refine WL.pure (v := .bool false) 4 rfl (Nat.le_of_ble_eq_true rfl) rfl rfl (by kernel_rfl) ?_
  refine WL.pure (v := .bool false) 5 rfl (Nat.le_of_ble_eq_true rfl) rfl rfl (by kernel_rfl) ?_
  refine WL.pure (v := vP b 0) 6 rfl (Nat.le_of_ble_eq_true rfl) rfl rfl (by kernel_rfl) ?_
  refine WL.pure (v := vP b 0) 7 rfl (Nat.le_of_ble_eq_true rfl) rfl rfl (by kernel_rfl) ?_
  refine WL.pure (v := vP b 0) 8 rfl (Nat.le_of_ble_eq_true rfl) rfl rfl (by kernel_rfl) ?_
  refine WL.pure (v := vI R) 9 rfl (Nat.le_of_ble_eq_true rfl) rfl rfl (x_load rfl rfl Tryd.underlying3 rfl (HP.old hH1 trivial hc)) ?_
  refine WL.pure (v := .bool false) 10 rfl (Nat.le_of_ble_eq_true rfl) rfl rfl (x_eql rfl rfl rfl (dF (by omega))) ?_
  refine WL.pure (v := .bool false) 11 rfl (Nat.le_of_ble_eq_true rfl) rfl rfl (by kernel_rfl) ?_
  refine WL.pure (v := .bool false) 2 rfl (Nat.le_of_ble_eq_true rfl) rfl rfl (by kernel_rfl) ?_
  refine WL.nil ?_
  refine WQ.then ?_
  refine hK3 _ _ _ ?_
  refine WC.sub (l' := [(0, vP b 0), (2, .bool false)]) ⟨rfl, rfl, trivial⟩ ?_
  refine WC.ret ?_
  refine WQ.ret1 2 rfl rfl ?_
  exact ⟨rfl, HP.below hH1⟩
set_option maxRecDepth 20000 in
set_option maxHeartbeats 4000000 in
theorem Write_any (b : Nat) (R : Int) (pv : Option Addr) (cp : Nat) (bs : List UInt8) (s : ByteArray) (w : World) (hB : OwnB w (WB b R pv cp bs)) (hR : 1 ≤ R ∧ R ≤ 32) (hn : (bs.length : Int) ≤ R) :
    Calls Tryd.prog 7 #[vP b 0, .string s] w fun e w' => ∃ pv' cp', e = .returned (vI (wE R bs s)) ∧ HP (Out (WB b R pv cp bs)) w w' (WB b R pv' cp' (wX R bs s)) := by
  refine calls_of Tryd.func7 rfl (m := 31) rfl [(0, vP b 0), (1, .string s)] (Fr_enter [vP b 0, .string s] 31 (Nat.le_of_ble_eq_true rfl)) ?_
  refine WC.seq fun K1 hK1 => ?_
  refine WC.region ?_
  refine WL.pure (v := vI 0) 4 rfl (Nat.le_of_ble_eq_true rfl) rfl rfl (by kernel_rfl) ?_
  refine WL.nil ?_
  refine WQ.then ?_
  refine hK1 _ _ _ ?_
  refine WC.seq fun K2 hK2 => ?_
  refine WC.block ?_
  refine WC.seq fun K3 hK3 => ?_
  refine WC.region ?_
  refine WL.pure (v := vP b 0) 6 rfl (Nat.le_of_ble_eq_true rfl) rfl rfl (by kernel_rfl) ?_
  refine WL.call (f := 29) (args := #[vP b 0]) 7 rfl (Nat.le_of_ble_eq_true rfl) rfl rfl (by kernel_rfl) ?_
  refine (bn_any b R _ (HP.cell (HP.startB hB) 0 rfl rfl) hR.1).mono ?_
  rintro e w4 ⟨rfl, hb5⟩
  refine ⟨_, rfl, ?_⟩
  have hH6 : HP (Out (WB b R pv cp bs)) w _ [.cel b #[vI R, .slice pv bs.length cp] 62, .own (.slice pv bs.length cp) bs.length (bC bs) 5 1] := HP.call (HP.startB hB) hb5
  refine WL.pure (v := .bool false) 5 rfl (Nat.le_of_ble_eq_true rfl) rfl rfl (by kernel_rfl) ?_
  refine WL.nil ?_
  refine WQ.then ?_
  refine hK3 _ _ _ ?_
  refine WC.no rfl ?_
  refine WC.seq fun K7 hK7 => ?_
  refine WC.still (by kernel_rfl) (by kernel_rfl) ?_
  have hH8 : HP (Out (WB b R pv cp bs)) w _ [.cel b #[vI R, .slice pv bs.length cp] 62, .own (.slice pv bs.length cp) bs.length (bC bs) 5 1] := HP.drew hH6
  refine WS.val (v := .string s) 9 rfl (Nat.le_of_ble_eq_true rfl) rfl rfl (by kernel_rfl) ?_
  refine WS.val (v := vI (s.size : Int)) 10 rfl (Nat.le_of_ble_eq_true rfl) rfl rfl (by kernel_rfl) ?_
  refine WS.val (v := vP b 0) 11 rfl (Nat.le_of_ble_eq_true rfl) rfl rfl (by kernel_rfl) ?_
  refine WS.val (v := vP b 0) 12 rfl (Nat.le_of_ble_eq_true rfl) rfl rfl (by kernel_rfl) ?_
  refine WS.val (v := vP b 0) 13 rfl (Nat.le_of_ble_eq_true rfl) rfl rfl (by kernel_rfl) ?_
  refine WS.val (v := vI R) 14 rfl (Nat.le_of_ble_eq_true rfl) rfl rfl (x_load rfl rfl Tryd.underlying3 rfl (HP.cell hH8 0 rfl rfl)) ?_
  refine WS.val (v := vP b 0) 15 rfl (Nat.le_of_ble_eq_true rfl) rfl rfl (by kernel_rfl) ?_
  refine WS.val (v := vP b 0) 16 rfl (Nat.le_of_ble_eq_true rfl) rfl rfl (by kernel_rfl) ?_
  refine WS.val (v := vP b 1) 17 rfl (Nat.le_of_ble_eq_true rfl) rfl rfl (by kernel_rfl) ?_
  refine WS.val (v := .slice pv bs.length cp) 18 rfl (Nat.le_of_ble_eq_true rfl) rfl rfl (x_load rfl rfl Tryd.underlying60 rfl (HP.cell hH8 0 rfl rfl)) ?_
  refine WS.val (v := vI (bs.length : Int)) 19 rfl (Nat.le_of_ble_eq_true rfl) rfl rfl (by kernel_rfl) ?_
  refine WS.val (v := vI (R - bs.length)) 20 rfl (Nat.le_of_ble_eq_true rfl) rfl rfl (x_sub (Z := R - bs.length) rfl rfl rfl (by omega) (by omega) (by omega)) ?_
  by_cases hfull : R - bs.length < (s.size : Int)
  ·
    refine WS.val (v := .bool true) 21 rfl (Nat.le_of_ble_eq_true rfl) rfl rfl (x_gtr rfl rfl rfl (dT (hfull))) ?_
    refine WS.val (v := .bool true) 8 rfl (Nat.le_of_ble_eq_true rfl) rfl rfl (by kernel_rfl) ?_
    refine WS.nilQ ?_
    refine WQ.then ?_
    refine hK7 _ _ _ ?_
    refine WC.sub (l' := [(0, vP b 0), (1, .string s), (4, vI 0), (5, .bool false), (8, .bool true)]) ⟨rfl, rfl, rfl, rfl, rfl, trivial⟩ ?_
    refine WC.yes rfl ?_
    refine WC.seq fun K9 hK9 => ?_
    refine WC.region ?_
    refine WL.pure (v := vI 14) 4 rfl (Nat.le_of_ble_eq_true rfl) rfl rfl (by kernel_rfl) ?_
    refine WL.nil ?_
    refine WQ.then ?_
    refine hK9 _ _ _ ?_
    refine WC.ret ?_
    refine WQ.inRet ?_
    refine WQ.thenRet ?_
    refine WQ.ret1 4 rfl rfl ?_
    have q := w_full hfull
    exact ⟨pv, cp, by rw [q.1], by rw [q.2]; exact hH8⟩
  ·
    refine WS.val (v := .bool false) 21 rfl (Nat.le_of_ble_eq_true rfl) rfl rfl (x_gtr rfl rfl rfl (dF (hfull))) ?_
    refine WS.val (v := .bool false) 8 rfl (Nat.le_of_ble_eq_true rfl) rfl rfl (by kernel_rfl) ?_
    refine WS.nilQ ?_
    refine WQ.then ?_
    refine hK7 _ _ _ ?_
    refine WC.sub (l' := [(0, vP b 0), (1, .string s), (4, vI 0), (5, .bool false), (8, .bool false)]) ⟨rfl, rfl, rfl, rfl, rfl, trivial⟩ ?_
    refine WC.no rfl ?_
    refine WC.skip ?_
    refine WQ.inNormal ?_
    refine WQ.then ?_
    refine hK2 _ _ _ ?_
    refine WC.seq fun K10 hK10 => ?_
    refine WC.region ?_
    refine WL.pure (v := vP b 0) 22 rfl (Nat.le_of_ble_eq_true rfl) rfl rfl (by kernel_rfl) ?_
    refine WL.pure (v := vP b 0) 23 rfl (Nat.le_of_ble_eq_true rfl) rfl rfl (by kernel_rfl) ?_
    refine WL.pure (v := vP b 0) 24 rfl (Nat.le_of_ble_eq_true rfl) rfl rfl (by kernel_rfl) ?_
    refine WL.pure (v := vP b 1) 25 rfl (Nat.le_of_ble_eq_true rfl) rfl rfl (by kernel_rfl) ?_
    refine WL.pure (v := .slice pv bs.length cp) 26 rfl (Nat.le_of_ble_eq_true rfl) rfl rfl (x_load rfl rfl Tryd.underlying60 rfl (HP.cell hH8 0 rfl rfl)) ?_
    refine WL.pure (v := .string s) 27 rfl (Nat.le_of_ble_eq_true rfl) rfl rfl (by kernel_rfl) ?_
    obtain ⟨i0, hi0, hz0, hz1, hz2⟩ := infoB
    refine WL.appendStr 1 hH8 28 rfl (by decide) rfl rfl rfl rfl Tryd.underlying60 Tryd.underlying9 hi0 hz0 hz1 hz2 rfl (by omega) ?_
    rintro v7 w7 hA
    obtain ⟨pv7, cp7, rfl⟩ := own_row (HP.get hA 1 rfl)
    have hl7 : (bs ++ s.data.toList).length = bs.length + s.size := by rw [List.length_append]; rfl
    have hH11 : HP (Out (WB b R pv cp bs)) w _ [.cel b #[vI R, .slice pv bs.length cp] 62, .own (.slice pv7 (bs.length + s.size) cp7) (bs.length + s.size) (bC (bs ++ s.data.toList)) 5 1] := HP.eq hA (by rw [bC_str, bC_app]; rfl)
    refine WL.pure (v := vP b 0) 29 rfl (Nat.le_of_ble_eq_true rfl) rfl rfl (by kernel_rfl) ?_
    refine WL.pure (v := vP b 1) 30 rfl (Nat.le_of_ble_eq_true rfl) rfl rfl (by kernel_rfl) ?_
    refine WL.store (H2 := [.cel b #[vI R, .slice pv7 (bs.length + s.size) cp7] 62, .own (.slice pv7 (bs.length + s.size) cp7) (bs.length + s.size) (bC (bs ++ s.data.toList)) 5 1]) 0 hH11 rfl rfl rfl rfl rfl rfl sz60 rfl (Nat.le_of_ble_eq_true rfl) rfl rfl ?_
    intro w12 hH13
    refine WL.nil ?_
    refine WQ.then ?_
    refine hK10 _ _ _ ?_
    refine WC.sub (l' := [(0, vP b 0), (1, .string s), (4, vI 0), (5, .bool false), (8, .bool false)]) ⟨rfl, rfl, rfl, rfl, rfl, trivial⟩ ?_
    refine WC.seq fun K14 hK14 => ?_
    refine WC.region ?_
    refine WL.pure (v := vI 0) 4 rfl (Nat.le_of_ble_eq_true rfl) rfl rfl (by kernel_rfl) ?_
    refine WL.nil ?_
    refine WQ.then ?_
    refine hK14 _ _ _ ?_
    refine WC.ret ?_
    refine WQ.ret1 4 rfl rfl ?_
    have q := w_room hfull
    refine ⟨pv7, cp7, by rw [q.1], ?_⟩
    rw [q.2]
    exact HP.eq hH13 (by unfold WB; rw [hl7])
set_option maxRecDepth 20000 in
set_option maxHeartbeats 4000000 in
theorem rWrite_any (b : Nat) (R : Int) (bs : List UInt8) (s : ByteArray) (w : World) (hB : OwnB w (WR b R bs)) (hR : 1 ≤ R ∧ R ≤ 32) (hn : (bs.length : Int) ≤ R) :
    Calls Tryd.prog 8 #[vP b 0, .string s] w fun e w' => e = .returned (vI (wE R bs s)) ∧ HP (Out (WR b R bs)) w w' (WR b R (wX R bs s)) := by
  refine calls_of Tryd.func8 rfl (m := 36) rfl [(0, vP b 0), (1, .string s)] (Fr_enter [vP b 0, .string s] 36 (Nat.le_of_ble_eq_true rfl)) ?_
  refine WC.seq fun K1 hK1 => ?_
  refine WC.region ?_
  refine WL.pure (v := vI 0) 4 rfl (Nat.le_of_ble_eq_true rfl) rfl rfl (by kernel_rfl) ?_
  refine WL.nil ?_
  refine WQ.then ?_
  refine hK1 _ _ _ ?_
  refine WC.seq fun K2 hK2 => ?_
  refine WC.seq fun K3 hK3 => ?_
  refine WC.region ?_
  refine WL.pure (v := vP b 0) 5 rfl (Nat.le_of_ble_eq_true rfl) rfl rfl (by kernel_rfl) ?_
  refine WL.pure (v := .bool false) 6 rfl (Nat.le_of_ble_eq_true rfl) rfl rfl (by kernel_rfl) ?_
  refine WL.pure (v := .bool false) 7 rfl (Nat.le_of_ble_eq_true rfl) rfl rfl (by kernel_rfl) ?_
  refine WL.pure (v := vP b 0) 8 rfl (Nat.le_of_ble_eq_true rfl) rfl rfl (by kernel_rfl) ?_
  refine WL.pure (v := vP b 0) 9 rfl (Nat.le_of_ble_eq_true rfl) rfl rfl (by kernel_rfl) ?_
  refine WL.pure (v := vP b 1) 10 rfl (Nat.le_of_ble_eq_true rfl) rfl rfl (by kernel_rfl) ?_
  refine WL.pure (v := vI R) 11 rfl (Nat.le_of_ble_eq_true rfl) rfl rfl (x_load rfl rfl Tryd.underlying3 rfl (HP.cell (HP.startB hB) 0 rfl rfl)) ?_
  refine WL.pure (v := .bool false) 12 rfl (Nat.le_of_ble_eq_true rfl) rfl rfl (x_eql rfl rfl rfl (dF (by omega))) ?_
  refine WL.pure (v := .bool false) 13 rfl (Nat.le_of_ble_eq_true rfl) rfl rfl (by kernel_rfl) ?_
  refine WL.nil ?_
  refine WQ.then ?_
  refine hK3 _ _ _ ?_
  refine WC.sub (l' := [(0, vP b 0), (1, .string s), (4, vI 0), (13, .bool false)]) ⟨rfl, rfl, rfl, rfl, trivial⟩ ?_
  refine WC.no rfl ?_
  refine WC.skip ?_
  refine WQ.then ?_
  refine hK2 _ _ _ ?_
  refine WC.seq fun K4 hK4 => ?_
  refine WC.seq fun K5 hK5 => ?_
  refine WC.still (by kernel_rfl) (by kernel_rfl) ?_
  have hH6 : HP (Out (WR b R bs)) w _ [.cel b #[.string (bS bs), vI R] 66] := HP.drew (HP.startB hB)
  refine WS.val (v := .string s) 14 rfl (Nat.le_of_ble_eq_true rfl) rfl rfl (by kernel_rfl) ?_
  refine WS.val (v := vI (s.size : Int)) 15 rfl (Nat.le_of_ble_eq_true rfl) rfl rfl (by kernel_rfl) ?_
  refine WS.val (v := vP b 0) 16 rfl (Nat.le_of_ble_eq_true rfl) rfl rfl (by kernel_rfl) ?_
  refine WS.val (v := vP b 0) 17 rfl (Nat.le_of_ble_eq_true rfl) rfl rfl (by kernel_rfl) ?_
  refine WS.val (v := vP b 1) 18 rfl (Nat.le_of_ble_eq_true rfl) rfl rfl (by kernel_rfl) ?_
  refine WS.val (v := vI R) 19 rfl (Nat.le_of_ble_eq_true rfl) rfl rfl (x_load rfl rfl Tryd.underlying3 rfl (HP.cell hH6 0 rfl rfl)) ?_
  refine WS.val (v := vP b 0) 20 rfl (Nat.le_of_ble_eq_true rfl) rfl rfl (by kernel_rfl) ?_
  refine WS.val (v := vP b 0) 21 rfl (Nat.le_of_ble_eq_true rfl) rfl rfl (by kernel_rfl) ?_
  refine WS.val (v := vP b 0) 22 rfl (Nat.le_of_ble_eq_true rfl) rfl rfl (by kernel_rfl) ?_
  refine WS.val (v := .string (bS bs)) 23 rfl (Nat.le_of_ble_eq_true rfl) rfl rfl (x_load rfl rfl Tryd.underlying9 rfl (HP.cell hH6 0 rfl rfl)) ?_
  refine WS.val (v := vI (bs.length : Int)) 24 rfl (Nat.le_of_ble_eq_true rfl) rfl rfl (by kernel_rfl) ?_
  refine WS.val (v := vI (R - bs.length)) 25 rfl (Nat.le_of_ble_eq_true rfl) rfl rfl (x_sub (Z := R - bs.length) rfl rfl rfl (by omega) (by omega) (by omega)) ?_
  by_cases hfull : R - bs.length < (s.size : Int)
  ·
    refine WS.val (v := .bool true) 26 rfl (Nat.le_of_ble_eq_true rfl) rfl rfl (x_gtr rfl rfl rfl (dT (hfull))) ?_
    refine WS.nilQ ?_
    refine WQ.then ?_
    refine hK5 _ _ _ ?_
    refine WC.sub (l' := [(0, vP b 0), (1, .string s), (4, vI 0), (13, .bool false), (26, .bool true)]) ⟨rfl, rfl, rfl, rfl, rfl, trivial⟩ ?_
    refine WC.yes rfl ?_
    refine WC.seq fun K7 hK7 => ?_
    refine WC.region ?_
    refine WL.pure (v := vI 14) 4 rfl (Nat.le_of_ble_eq_true rfl) rfl rfl (by kernel_rfl) ?_
    refine WL.nil ?_
    refine WQ.then ?_
    refine hK7 _ _ _ ?_
    refine WC.ret ?_
    refine WQ.thenRet ?_
    refine WQ.ret1 4 rfl rfl ?_
    have q := w_full hfull
    exact ⟨by rw [q.1], by rw [q.2]; exact hH6⟩
  ·
    refine WS.val (v := .bool false) 26 rfl (Nat.le_of_ble_eq_true rfl) rfl rfl (x_gtr rfl rfl rfl (dF (hfull))) ?_
    refine WS.nilQ ?_
    refine WQ.then ?_
    refine hK5 _ _ _ ?_
    refine WC.sub (l' := [(0, vP b 0), (1, .string s), (4, vI 0), (13, .bool false), (26, .bool false)]) ⟨rfl, rfl, rfl, rfl, rfl, trivial⟩ ?_
    refine WC.no rfl ?_
    refine WC.skip ?_
    refine WQ.then ?_
    refine hK4 _ _ _ ?_
    refine WC.seq fun K8 hK8 => ?_
    refine WC.region ?_
    refine WL.pure (v := vP b 0) 27 rfl (Nat.le_of_ble_eq_true rfl) rfl rfl (by kernel_rfl) ?_
    refine WL.pure (v := vP b 0) 28 rfl (Nat.le_of_ble_eq_true rfl) rfl rfl (by kernel_rfl) ?_
    refine WL.pure (v := vP b 0) 29 rfl (Nat.le_of_ble_eq_true rfl) rfl rfl (by kernel_rfl) ?_
    refine WL.pure (v := vP b 0) 30 rfl (Nat.le_of_ble_eq_true rfl) rfl rfl (by kernel_rfl) ?_
    refine WL.pure (v := .string (bS bs)) 31 rfl (Nat.le_of_ble_eq_true rfl) rfl rfl (x_load rfl rfl Tryd.underlying9 rfl (HP.cell hH6 0 rfl rfl)) ?_
    refine WL.pure (v := .string s) 32 rfl (Nat.le_of_ble_eq_true rfl) rfl rfl (by kernel_rfl) ?_
    refine WL.pure (v := .string (bS bs ++ s)) 33 rfl (Nat.le_of_ble_eq_true rfl) rfl rfl (x_adds rfl rfl rfl (by have : (bS bs).size = bs.length := rfl; omega)) ?_
    refine WL.pure (v := vP b 0) 34 rfl (Nat.le_of_ble_eq_true rfl) rfl rfl (by kernel_rfl) ?_
    refine WL.pure (v := vP b 0) 35 rfl (Nat.le_of_ble_eq_true rfl) rfl rfl (by kernel_rfl) ?_
    refine WL.store (H2 := [.cel b #[.string (bS bs ++ s), vI R] 66]) 0 hH6 rfl rfl rfl rfl rfl rfl sz9 rfl (Nat.le_of_ble_eq_true rfl) rfl rfl ?_
    intro w9 hH10
    refine WL.nil ?_
    refine WQ.then ?_
    refine hK8 _ _ _ ?_
    refine WC.sub (l' := [(0, vP b 0), (1, .string s), (4, vI 0), (13, .bool false), (26, .bool false)]) ⟨rfl, rfl, rfl, rfl, rfl, trivial⟩ ?_
    refine WC.seq fun K11 hK11 => ?_
    refine WC.region ?_
    refine WL.pure (v := vI 0) 4 rfl (Nat.le_of_ble_eq_true rfl) rfl rfl (by kernel_rfl) ?_
    refine WL.nil ?_
    refine WQ.then ?_
    refine hK11 _ _ _ ?_
    refine WC.ret ?_
    refine WQ.ret1 4 rfl rfl ?_
    have q := w_room hfull
    refine ⟨by rw [q.1], ?_⟩
    rw [q.2]
    have qs : bS bs ++ s = bS (bs ++ s.data.toList) := by apply ByteArray.ext; simp [ByteArray.data_append]
    exact HP.eq hH10 (by unfold WR; rw [← qs])
set_option maxRecDepth 20000 in
set_option maxHeartbeats 4000000 in
theorem WriteInt_any (b : Nat) (R : Int) (pv : Option Addr) (cp : Nat) (bs : List UInt8) (a : Int) (w : World) (hB : OwnB w (WB b R pv cp bs)) (hR : 1 ≤ R ∧ R ≤ 32) (hn : (bs.length : Int) ≤ R) (ha : -9223372036854775808 ≤ a ∧ a ≤ 9223372036854775807) (htab : Lib.TabIs Tryd.prog w "internal/strconv.uint64pow10" .u64 Lib.pow10Tab) :
    Calls Tryd.prog 9 #[vP b 0, vI a] w fun e w' => ∃ pv' cp', e = .returned (vI (wE R bs (bS (Lib.itoa a)))) ∧ HP (Out (WB b R pv cp bs)) w w' (WB b R pv' cp' (wX R bs (bS (Lib.itoa a)))) := by
  refine calls_of Tryd.func9 rfl (m := 9) rfl [(0, vP b 0), (1, vI a)] (Fr_enter [vP b 0, vI a] 9 (Nat.le_of_ble_eq_true rfl)) ?_
  refine WC.seq fun K1 hK1 => ?_
  refine WC.region ?_
  refine WL.pure (v := vI 0) 4 rfl (Nat.le_of_ble_eq_true rfl) rfl rfl (by kernel_rfl) ?_
  refine WL.nil ?_
  refine WQ.then ?_
  refine hK1 _ _ _ ?_
  refine WC.seq fun K2 hK2 => ?_
  refine WC.region ?_
  refine WL.pure (v := vP b 0) 5 rfl (Nat.le_of_ble_eq_true rfl) rfl rfl (by kernel_rfl) ?_
  refine WL.pure (v := vI a) 6 rfl (Nat.le_of_ble_eq_true rfl) rfl rfl (by kernel_rfl) ?_
  refine WL.call (f := 30) (args := #[vI a]) 7 rfl (Nat.le_of_ble_eq_true rfl) rfl rfl (by kernel_rfl) ?_
  refine (itoa_any a _ ha htab).mono ?_
  rintro e w3 ⟨rfl, hb4⟩
  refine ⟨_, rfl, ?_⟩
  have hH5 : HP (Out (WB b R pv cp bs)) w _ [.cel b #[vI R, .slice pv bs.length cp] 62, .own (.slice pv bs.length cp) bs.length (bC bs) 5 1] := HP.call (HP.startB hB) hb4
  refine WL.call (f := 7) (args := #[vP b 0, .string (bS (Lib.itoa a))]) 8 rfl (Nat.le_of_ble_eq_true rfl) rfl rfl (by kernel_rfl) ?_
  refine (Write_any b R pv cp bs (bS (Lib.itoa a)) _ (HP.ownB (A := []) hH5) hR hn).mono ?_
  rintro e w4 ⟨pv4, cp4, rfl, hb4⟩
  refine ⟨_, rfl, ?_⟩
  have hF := HP.exch (A := []) hH5 hb4
  have hH6 : HP (Out (WB b R pv cp bs)) w _ [.cel b #[vI R, .slice pv4 (wX R bs (bS (Lib.itoa a))).length cp4] 62, .own (.slice pv4 (wX R bs (bS (Lib.itoa a))).length cp4) (wX R bs (bS (Lib.itoa a))).length (bC (wX R bs (bS (Lib.itoa a)))) 5 1] := hF
  refine WL.pure (v := vI (wE R bs (bS (Lib.itoa a)))) 4 rfl (Nat.le_of_ble_eq_true rfl) rfl rfl (by kernel_rfl) ?_
  refine WL.nil ?_
  refine WQ.then ?_
  refine hK2 _ _ _ ?_
  refine WC.ret ?_
  refine WQ.ret1 4 rfl rfl ?_
  exact ⟨pv4, cp4, rfl, hH6⟩
set_option maxRecDepth 20000 in
set_option maxHeartbeats 4000000 in
theorem rWriteInt_any (b : Nat) (R : Int) (bs : List UInt8) (a : Int) (w : World) (hB : OwnB w (WR b R bs)) (hR : 1 ≤ R ∧ R ≤ 32) (hn : (bs.length : Int) ≤ R) (ha : -9223372036854775808 ≤ a ∧ a ≤ 9223372036854775807) (htab : Lib.TabIs Tryd.prog w "internal/strconv.uint64pow10" .u64 Lib.pow10Tab) :
    Calls Tryd.prog 10 #[vP b 0, vI a] w fun e w' => e = .returned (vI (wE R bs (bS (Lib.itoa a)))) ∧ HP (Out (WR b R bs)) w w' (WR b R (wX R bs (bS (Lib.itoa a)))) := by
  refine calls_of Tryd.func10 rfl (m := 9) rfl [(0, vP b 0), (1, vI a)] (Fr_enter [vP b 0, vI a] 9 (Nat.le_of_ble_eq_true rfl)) ?_
  refine WC.seq fun K1 hK1 => ?_
  refine WC.region ?_
  refine WL.pure (v := vI 0) 4 rfl (Nat.le_of_ble_eq_true rfl) rfl rfl (by kernel_rfl) ?_
  refine WL.nil ?_
  refine WQ.then ?_
  refine hK1 _ _ _ ?_
  refine WC.seq fun K2 hK2 => ?_
  refine WC.region ?_
  refine WL.pure (v := vP b 0) 5 rfl (Nat.le_of_ble_eq_true rfl) rfl rfl (by kernel_rfl) ?_
  refine WL.pure (v := vI a) 6 rfl (Nat.le_of_ble_eq_true rfl) rfl rfl (by kernel_rfl) ?_
  refine WL.call (f := 30) (args := #[vI a]) 7 rfl (Nat.le_of_ble_eq_true rfl) rfl rfl (by kernel_rfl) ?_
  refine (itoa_any a _ ha htab).mono ?_
  rintro e w3 ⟨rfl, hb4⟩
  refine ⟨_, rfl, ?_⟩
  have hH5 : HP (Out (WR b R bs)) w _ [.cel b #[.string (bS bs), vI R] 66] := HP.call (HP.startB hB) hb4
  refine WL.call (f := 8) (args := #[vP b 0, .string (bS (Lib.itoa a))]) 8 rfl (Nat.le_of_ble_eq_true rfl) rfl rfl (by kernel_rfl) ?_
  refine (rWrite_any b R bs (bS (Lib.itoa a)) _ (HP.ownB (A := []) hH5) hR hn).mono ?_
  rintro e w4 ⟨rfl, hb4⟩
  refine ⟨_, rfl, ?_⟩
  have hF := HP.exch (A := []) hH5 hb4
  have hH6 : HP (Out (WR b R bs)) w _ [.cel b #[.string (bS (wX R bs (bS (Lib.itoa a)))), vI R] 66] := hF
  refine WL.pure (v := vI (wE R bs (bS (Lib.itoa a)))) 4 rfl (Nat.le_of_ble_eq_true rfl) rfl rfl (by kernel_rfl) ?_
  refine WL.nil ?_
  refine WQ.then ?_
  refine hK2 _ _ _ ?_
  refine WC.ret ?_
  refine WQ.ret1 4 rfl rfl ?_
  exact ⟨rfl, hH6⟩
set_option maxRecDepth 20000 in
set_option maxHeartbeats 4000000 in
theorem Text_any (b : Nat) (R : Int) (pv : Option Addr) (cp : Nat) (bs : List UInt8) (w : World) (hB : OwnB w (WB b R pv cp bs)) (hR : 1 ≤ R ∧ R ≤ 32) (hn : (bs.length : Int) ≤ R) :
    Calls Tryd.prog 11 #[vP b 0] w fun e w' => e = .returned (.string (bS bs)) ∧ Below w.heap.size w w' := by
  have hc : w.cell? ⟨b, 0, none⟩ = some (vI R) := HP.cell (HP.startB hB) 0 rfl rfl
  have hs : w.cell? ⟨b, 1, none⟩ = some (.slice pv bs.length cp) := HP.cell (HP.startB hB) 0 rfl rfl
  have hh : Ent.holds w (.own (.slice pv bs.length cp) bs.length (bC bs) 5 1) := HP.get (HP.startB hB) 1 rfl
  refine calls_of Tryd.func11 rfl (m := 10) rfl [(0, vP b 0)] (Fr_enter [vP b 0] 10 (Nat.le_of_ble_eq_true rfl)) ?_
  have hH1 : HP Tr w w [] := HP.refl w
  refine WC.seq fun K2 hK2 => ?_
  refine WC.region ?_
  refine WL.pure (v := .string (⟨#[]⟩)) 2 rfl (Nat.le_of_ble_eq_true rfl) rfl rfl (by kernel_rfl) ?_
  refine WL.nil ?_
  refine WQ.then ?_
  refine hK2 _ _ _ ?_
  refine WC.seq fun K3 hK3 => ?_
  refine WC.seq fun K4 hK4 => ?_
  refine WC.region ?_
  refine WL.pure (v := vP b 0) 3 rfl (Nat.le_of_ble_eq_true rfl) rfl rfl (by kernel_rfl) ?_
  refine WL.call (f := 29) (args := #[vP b 0]) 4 rfl (Nat.le_of_ble_eq_true rfl) rfl rfl (by kernel_rfl) ?_
  refine (bn_any b R _ (HP.old hH1 trivial hc) hR.1).mono ?_
  rintro e w5 ⟨rfl, hb6⟩
  refine ⟨_, rfl, ?_⟩
  have hH7 : HP Tr w _ [] := HP.call hH1 hb6
  refine WL.nil ?_
  refine WQ.then ?_
  refine hK4 _ _ _ ?_
  refine WC.no rfl ?_
  refine WC.skip ?_
  refine WQ.then ?_
  refine hK3 _ _ _ ?_
  refine WC.seq fun K8 hK8 => ?_
  refine WC.region ?_
  refine WL.pure (v := vP b 0) 5 rfl (Nat.le_of_ble_eq_true rfl) rfl rfl (by kernel_rfl) ?_
  refine WL.pure (v := vP b 0) 6 rfl (Nat.le_of_ble_eq_true rfl) rfl rfl (by kernel_rfl) ?_
  refine WL.pure (v := vP b 1) 7 rfl (Nat.le_of_ble_eq_true rfl) rfl rfl (by kernel_rfl) ?_
  refine WL.pure (v := .slice pv bs.length cp) 8 rfl (Nat.le_of_ble_eq_true rfl) rfl rfl (x_load rfl rfl Tryd.underlying60 rfl (HP.old hH7 trivial hs)) ?_
  refine WL.pure (v := .string (bS bs)) 9 rfl (Nat.le_of_ble_eq_true rfl) rfl rfl (x_conv rfl rfl (conv_bytes (Ent.keep hh fun b hb => (HP.below hH7).block b (Ent.lt hh hb)) Tryd.underlying60 Tryd.underlying5 Tryd.underlying9)) ?_
  refine WL.pure (v := .string (bS bs)) 2 rfl (Nat.le_of_ble_eq_true rfl) rfl rfl (by kernel_rfl) ?_
  refine WL.nil ?_
  refine WQ.then ?_
  refine hK8 _ _ _ ?_
  refine WC.sub (l' := [(0, vP b 0), (2, .string (bS bs)), (4, .bool false)]) ⟨rfl, rfl, rfl, trivial⟩ ?_
  refine WC.ret ?_
  refine WQ.ret1 2 rfl rfl ?_
  exact ⟨rfl, HP.below hH7⟩
set_option maxRecDepth 20000 in
set_option maxHeartbeats 4000000 in
theorem rText_any (b : Nat) (R : Int) (bs : List UInt8) (w : World) (hB : OwnB w (WR b R bs)) (hR : 1 ≤ R ∧ R ≤ 32) (hn : (bs.length : Int) ≤ R) :
    Calls Tryd.prog 12 #[vP b 0] w fun e w' => e = .returned (.string (bS bs)) ∧ Below w.heap.size w w' := by
  have hs : w.cell? ⟨b, 0, none⟩ = some (.string (bS bs)) := HP.cell (HP.startB hB) 0 rfl rfl
  refine calls_of Tryd.func12 rfl (m := 9) rfl [(0, vP b 0)] (Fr_enter [vP b 0] 9 (Nat.le_of_ble_eq_true rfl)) ?_
  have hH1 : HP Tr w w [] := HP.refl w
  refine WC.seq fun K2 hK2 => ?_
  refine WC.region ?_
  refine WL.pure (v := .string (⟨#[]⟩)) 2 rfl (Nat.le_of_ble_eq_true rfl) rfl rfl (by kernel_rfl) ?_
  refine WL.nil ?_
  refine WQ.then ?_
  refine hK2 _ _ _ ?_
  refine WC.seq fun K3 hK3 => ?_
  refine WC.seq fun K4 hK4 => ?_
  refine WC.region ?_
  refine WL.pure (v := vP b 0) 3 rfl (Nat.le_of_ble_eq_true rfl) rfl rfl (by kernel_rfl) ?_
  refine WL.pure (v := .bool false) 4 rfl (Nat.le_of_ble_eq_true rfl) rfl rfl (by kernel_rfl) ?_
  refine WL.nil ?_
  refine WQ.then ?_
  refine hK4 _ _ _ ?_
  refine WC.no rfl ?_
  refine WC.skip ?_
  refine WQ.then ?_
  refine hK3 _ _ _ ?_
  refine WC.seq fun K5 hK5 => ?_
  refine WC.region ?_
  refine WL.pure (v := vP b 0) 5 rfl (Nat.le_of_ble_eq_true rfl) rfl rfl (by kernel_rfl) ?_
  refine WL.pure (v := vP b 0) 6 rfl (Nat.le_of_ble_eq_true rfl) rfl rfl (by kernel_rfl) ?_
  refine WL.pure (v := vP b 0) 7 rfl (Nat.le_of_ble_eq_true rfl) rfl rfl (by kernel_rfl) ?_
  refine WL.pure (v := .string (bS bs)) 8 rfl (Nat.le_of_ble_eq_true rfl) rfl rfl (x_load rfl rfl Tryd.underlying9 rfl (HP.old hH1 trivial hs)) ?_
  refine WL.pure (v := .string (bS bs)) 2 rfl (Nat.le_of_ble_eq_true rfl) rfl rfl (by kernel_rfl) ?_
  refine WL.nil ?_
  refine WQ.then ?_
  refine hK5 _ _ _ ?_
  refine WC.sub (l' := [(0, vP b 0), (2, .string (bS bs)), (4, .bool false)]) ⟨rfl, rfl, rfl, trivial⟩ ?_
  refine WC.ret ?_
  refine WQ.ret1 2 rfl rfl ?_
  exact ⟨rfl, HP.below hH1⟩
set_option maxRecDepth 20000 in
set_option maxHeartbeats 4000000 in
theorem rText_nil (w : World) :
    Calls Tryd.prog 12 #[.pointer none] w fun e w' => e = .returned (.string ⟨#[]⟩) ∧ Below w.heap.size w w' := by
  refine calls_of Tryd.func12 rfl (m := 9) rfl [(0, .pointer none)] (Fr_enter [.pointer none] 9 (Nat.le_of_ble_eq_true rfl)) ?_
  have hH1 : HP Tr w w [] := HP.refl w
  refine WC.seq fun K2 hK2 => ?_
  refine WC.region ?_
  refine WL.pure (v := .string (⟨#[]⟩)) 2 rfl (Nat.le_of_ble_eq_true rfl) rfl rfl (by kernel_rfl) ?_
  refine WL.nil ?_
  refine WQ.then ?_
  refine hK2 _ _ _ ?_
  refine WC.seq fun K3 hK3 => ?_
  refine WC.seq fun K4 hK4 => ?_
  refine WC.region ?_
  refine WL.pure (v := .pointer none) 3 rfl (Nat.le_of_ble_eq_true rfl) rfl rfl (by kernel_rfl) ?_
  refine WL.pure (v := .bool true) 4 rfl (Nat.le_of_ble_eq_true rfl) rfl rfl (by kernel_rfl) ?_
  refine WL.nil ?_
  refine WQ.then ?_
  refine hK4 _ _ _ ?_
  refine WC.yes rfl ?_
  refine WC.seq fun K5 hK5 => ?_
  refine WC.region ?_
  refine WL.pure (v := .string (⟨#[]⟩)) 2 rfl (Nat.le_of_ble_eq_true rfl) rfl rfl (by kernel_rfl) ?_
  refine WL.nil ?_
  refine WQ.then ?_
  refine hK5 _ _ _ ?_
  refine WC.ret ?_
  refine WQ.thenRet ?_
  refine WQ.ret1 2 rfl rfl ?_
  exact ⟨rfl, HP.below hH1⟩
set_option maxRecDepth 20000 in
set_option maxHeartbeats 4000000 in
theorem NewBuffer_any (n : Int) (w : World) :
    Calls Tryd.prog 5 #[vI n] w fun e w' => (rm n = false ∧ e = .returned (.tuple #[.pointer none, vI 1]) ∧ Below w.heap.size w w') ∨ (rm n = true ∧ ∃ b, e = .returned (.tuple #[vP b 0, vI 0]) ∧ HP Tr w w' (WB b n none 0 [])) := by
  refine calls_of Tryd.func5 rfl (m := 10) rfl [(0, vI n)] (Fr_enter [vI n] 10 (Nat.le_of_ble_eq_true rfl)) ?_
  have hH1 : HP Tr w w [] := HP.refl w
  refine WC.seq fun K2 hK2 => ?_
  refine WC.region ?_
  refine WL.pure (v := .pointer none) 2 rfl (Nat.le_of_ble_eq_true rfl) rfl rfl (by kernel_rfl) ?_
  refine WL.pure (v := vI 0) 3 rfl (Nat.le_of_ble_eq_true rfl) rfl rfl (by kernel_rfl) ?_
  refine WL.nil ?_
  refine WQ.then ?_
  refine hK2 _ _ _ ?_
  refine WC.seq fun K3 hK3 => ?_
  refine WC.seq fun K4 hK4 => ?_
  refine WC.region ?_
  refine WL.pure (v := vI n) 4 rfl (Nat.le_of_ble_eq_true rfl) rfl rfl (by kernel_rfl) ?_
  rcases Bool.eq_false_or_eq_true (rm n) with hr | hr
  ·
    have q := isRoom_any n
    rw [hr] at q
    refine WL.call (f := 27) (args := #[vI n]) 5 rfl (Nat.le_of_ble_eq_true rfl) rfl rfl (by kernel_rfl) ?_
    refine (q _).mono ?_
    rintro e w5 ⟨rfl, rfl⟩
    refine ⟨_, rfl, ?_⟩
    refine WL.pure (v := .bool false) 6 rfl (Nat.le_of_ble_eq_true rfl) rfl rfl (by kernel_rfl) ?_
    refine WL.nil ?_
    refine WQ.then ?_
    refine hK4 _ _ _ ?_
    refine WC.no rfl ?_
    refine WC.skip ?_
    refine WQ.then ?_
    refine hK3 _ _ _ ?_
    refine WC.seq fun K6 hK6 => ?_
    refine WC.region ?_
    refine WL.pure (v := vI n) 7 rfl (Nat.le_of_ble_eq_true rfl) rfl rfl (by kernel_rfl) ?_
    refine WL.pure (v := .agg #[vI n, .slice none 0 0]) 8 rfl (Nat.le_of_ble_eq_true rfl) rfl rfl (by kernel_rfl) ?_
    refine WL.alloc (c := #[vI n, .slice none 0 0]) (T := 62) hH1 9 rfl (by decide) rfl rfl (fun bl => vP bl 0) (by kernel_rfl) (fun bl w7 hw7 => ?_)
    have hH8 : HP Tr w w7 [.cel bl #[vI n, .slice none 0 0] 62] := hw7.2
    have nbl := hw7.1
    clear hw7
    refine WL.pure (v := vP bl 0) 2 rfl (Nat.le_of_ble_eq_true rfl) rfl rfl (by kernel_rfl) ?_
    refine WL.pure (v := vI 0) 3 rfl (Nat.le_of_ble_eq_true rfl) rfl rfl (by kernel_rfl) ?_
    refine WL.nil ?_
    refine WQ.then ?_
    refine hK6 _ _ _ ?_
    refine WC.sub (l' := [(0, vI n), (2, vP bl 0), (3, vI 0), (6, .bool false)]) ⟨rfl, rfl, rfl, rfl, trivial⟩ ?_
    refine WC.ret ?_
    refine WQ.ret2 2 3 rfl rfl rfl ?_
    exact .inr ⟨hr, bl, rfl, HP.ownNil hH8 5 1⟩
  ·
    have q := isRoom_any n
    rw [hr] at q
    refine WL.call (f := 27) (args := #[vI n]) 5 rfl (Nat.le_of_ble_eq_true rfl) rfl rfl (by kernel_rfl) ?_
    refine (q _).mono ?_
    rintro e w9 ⟨rfl, rfl⟩
    refine ⟨_, rfl, ?_⟩
    refine WL.pure (v := .bool true) 6 rfl (Nat.le_of_ble_eq_true rfl) rfl rfl (by kernel_rfl) ?_
    refine WL.nil ?_
    refine WQ.then ?_
    refine hK4 _ _ _ ?_
    refine WC.yes rfl ?_
    refine WC.seq fun K10 hK10 => ?_
    refine WC.region ?_
    refine WL.pure (v := .pointer none) 2 rfl (Nat.le_of_ble_eq_true rfl) rfl rfl (by kernel_rfl) ?_
    refine WL.pure (v := vI 1) 3 rfl (Nat.le_of_ble_eq_true rfl) rfl rfl (by kernel_rfl) ?_
    refine WL.nil ?_
    refine WQ.then ?_
    refine hK10 _ _ _ ?_
    refine WC.ret ?_
    refine WQ.thenRet ?_
    refine WQ.ret2 2 3 rfl rfl rfl ?_
    exact .inl ⟨hr, rfl, HP.below hH1⟩
set_option maxRecDepth 20000 in
set_option maxHeartbeats 4000000 in
theorem rNewBuffer_any (n : Int) (w : World) :
    Calls Tryd.prog 6 #[vI n] w fun e w' => (rm n = false ∧ e = .returned (.tuple #[.pointer none, vI 1]) ∧ Below w.heap.size w w') ∨ (rm n = true ∧ ∃ b, e = .returned (.tuple #[vP b 0, vI 0]) ∧ HP Tr w w' (WR b n [])) := by
  refine calls_of Tryd.func6 rfl (m := 10) rfl [(0, vI n)] (Fr_enter [vI n] 10 (Nat.le_of_ble_eq_true rfl)) ?_
  have hH1 : HP Tr w w [] := HP.refl w
  refine WC.seq fun K2 hK2 => ?_
  refine WC.region ?_
  refine WL.pure (v := .pointer none) 2 rfl (Nat.le_of_ble_eq_true rfl) rfl rfl (by kernel_rfl) ?_
  refine WL.pure (v := vI 0) 3 rfl (Nat.le_of_ble_eq_true rfl) rfl rfl (by kernel_rfl) ?_
  refine WL.nil ?_
  refine WQ.then ?_
  refine hK2 _ _ _ ?_
  refine WC.seq fun K3 hK3 => ?_
  refine WC.seq fun K4 hK4 => ?_
  refine WC.region ?_
  refine WL.pure (v := vI n) 4 rfl (Nat.le_of_ble_eq_true rfl) rfl rfl (by kernel_rfl) ?_
  rcases Bool.eq_false_or_eq_true (rm n) with hr | hr
  ·
    have q := rroom_any n
    rw [hr] at q
    refine WL.call (f := 28) (args := #[vI n]) 5 rfl (Nat.le_of_ble_eq_true rfl) rfl rfl (by kernel_rfl) ?_
    refine (q _).mono ?_
    rintro e w5 ⟨rfl, rfl⟩
    refine ⟨_, rfl, ?_⟩
    refine WL.pure (v := .bool false) 6 rfl (Nat.le_of_ble_eq_true rfl) rfl rfl (by kernel_rfl) ?_
    refine WL.nil ?_
    refine WQ.then ?_
    refine hK4 _ _ _ ?_
    refine WC.no rfl ?_
    refine WC.skip ?_
    refine WQ.then ?_
    refine hK3 _ _ _ ?_
    refine WC.seq fun K6 hK6 => ?_
    refine WC.region ?_
    refine WL.pure (v := vI n) 7 rfl (Nat.le_of_ble_eq_true rfl) rfl rfl (by kernel_rfl) ?_
    refine WL.pure (v := .agg #[.string (⟨#[]⟩), vI n]) 8 rfl (Nat.le_of_ble_eq_true rfl) rfl rfl (by kernel_rfl) ?_
    refine WL.alloc (c := #[.string (⟨#[]⟩), vI n]) (T := 66) hH1 9 rfl (by decide) rfl rfl (fun bl => vP bl 0) (by kernel_rfl) (fun bl w7 hw7 => ?_)
    have hH8 : HP Tr w w7 [.cel bl #[.string (⟨#[]⟩), vI n] 66] := hw7.2
    have nbl := hw7.1
    clear hw7
    refine WL.pure (v := vP bl 0) 2 rfl (Nat.le_of_ble_eq_true rfl) rfl rfl (by kernel_rfl) ?_
    refine WL.pure (v := vI 0) 3 rfl (Nat.le_of_ble_eq_true rfl) rfl rfl (by kernel_rfl) ?_
    refine WL.nil ?_
    refine WQ.then ?_
    refine hK6 _ _ _ ?_
    refine WC.sub (l' := [(0, vI n), (2, vP bl 0), (3, vI 0), (6, .bool false)]) ⟨rfl, rfl, rfl, rfl, trivial⟩ ?_
    refine WC.ret ?_
    refine WQ.ret2 2 3 rfl rfl rfl ?_
    exact .inr ⟨hr, bl, rfl, hH8⟩
  ·
    have q := rroom_any n
    rw [hr] at q
    refine WL.call (f := 28) (args := #[vI n]) 5 rfl (Nat.le_of_ble_eq_true rfl) rfl rfl (by kernel_rfl) ?_
    refine (q _).mono ?_
    rintro e w9 ⟨rfl, rfl⟩
    refine ⟨_, rfl, ?_⟩
    refine WL.pure (v := .bool true) 6 rfl (Nat.le_of_ble_eq_true rfl) rfl rfl (by kernel_rfl) ?_
    refine WL.nil ?_
    refine WQ.then ?_
    refine hK4 _ _ _ ?_
    refine WC.yes rfl ?_
    refine WC.seq fun K10 hK10 => ?_
    refine WC.region ?_
    refine WL.pure (v := .pointer none) 2 rfl (Nat.le_of_ble_eq_true rfl) rfl rfl (by kernel_rfl) ?_
    refine WL.pure (v := vI 1) 3 rfl (Nat.le_of_ble_eq_true rfl) rfl rfl (by kernel_rfl) ?_
    refine WL.nil ?_
    refine WQ.then ?_
    refine hK10 _ _ _ ?_
    refine WC.ret ?_
    refine WQ.thenRet ?_
    refine WQ.ret2 2 3 rfl rfl rfl ?_
    exact .inl ⟨hr, rfl, HP.below hH1⟩
end Lw
end Go.Proofs.YtgdfbpphfanocaaDoor
