/- The list of two ends: Pop, At, Items, NewList of both; Ints. -/
import Derived.Test.YtgdfbpphfanocaaHB
set_option linter.unusedVariables false
set_option linter.unusedSimpArgs false
namespace Go.Proofs.Ytgdfbpphfanocaa
open Go.RowKit Fw
namespace Lb
open Lc (wd rm rm_t isRoom_any rroom_any)
def sl (g i cap : Nat) : Addr := if cap = i then ⟨g, 0, none⟩ else ⟨g, i, none⟩
theorem ad_add (g i q : Nat) : (⟨g, i, none⟩ : Addr).add q = ⟨g, i + q, none⟩ := by unfold Addr.add; split <;> simp_all
theorem sl_add {g i cap q : Nat} (h : ¬ cap = i) : (sl g i cap).add q = ⟨g, i + q, none⟩ := by unfold sl; rw [if_neg h]; exact ad_add g i q
theorem x_sliceLA {P : Program} {ρ : Operand → Value} {o : Oper} {w : World} {t e b n cap m k : Nat} {x lo : Operand} {I : Int} (i : Nat) (ho : o.op = .slice t x (some lo) none none) (hx : ρ x = .slice (some ⟨b, 0, none⟩) n cap) (hy : ρ lo = .int .i64 I) (hu : P.underlying t = some (.slice e)) (hI : I = (i : Int)) (hle : i ≤ n) (hnc : n ≤ cap) (hs : (P.info? e).map (·.size) = some 1) (hm : n - i = m) (hk : cap - i = k) :
    (execOp ρ o).run P w = .ok (.value (.slice (some (sl b i cap)) m k)) w := by
  unfold execOp; rw [ho]
  subst hI
  obtain ⟨inf, hi, h1⟩ := Option.map_eq_some_iff.1 hs
  have hz : (sizeOf e).run P w = .ok 1 w := by simp [sizeOf, typeInfo, hi, h1]
  have hadd : (⟨b, 0, none⟩ : Addr).add i = ⟨b, i, none⟩ := by unfold Addr.add; split <;> simp_all
  unfold sl
  by_cases hc : cap = i
  · subst hc
    have : n = cap := by omega
    subst this
    simp [hx, hy, Instr.sliceAt, Instr.slice, run_underlying hu, Instr.sliceBounds, Instr.sliceBound, asIntOf, hz, ← hm, ← hk]
  · simp [hx, hy, Instr.sliceAt, Instr.slice, run_underlying hu, Instr.sliceBounds, Instr.sliceBound, asIntOf, hle, hz, hadd, hnc, hm, hk, hc]
theorem PB_cells {w : World} {l : Nat} {R : Int} {pv : Option Addr} {cp : Nat} {xs : List Int} (h : OwnB w (PB l R pv cp xs)) : w.cell? ⟨l, 0, none⟩ = some (vI R) ∧ w.cell? ⟨l, 1, none⟩ = some (.slice pv xs.length cp) ∧ Ent.holds w (row pv xs.length cp xs) := by
  have q : w.heap[l]? = some (.cells #[vI R, .slice pv xs.length cp] 91 (0, 0)) := h.1 (.cel l #[vI R, .slice pv xs.length cp] 91) (by simp)
  exact ⟨by rw [cell_of_row w l 0 _ 91 (0, 0) q]; rfl, by rw [cell_of_row w l 1 _ 91 (0, 0) q]; rfl, h.1 _ (by simp)⟩
theorem RB_cells {w : World} {l : Nat} {R : Int} {pv : Option Addr} {cp : Nat} {xs : List Int} (h : OwnB w (RB l R pv cp xs)) : w.cell? ⟨l, 1, none⟩ = some (vI R) ∧ w.cell? ⟨l, 0, none⟩ = some (.slice pv xs.length cp) ∧ Ent.holds w (row pv xs.length cp xs) := by
  have q : w.heap[l]? = some (.cells #[.slice pv xs.length cp, vI R] 93 (0, 0)) := h.1 (.cel l #[.slice pv xs.length cp, vI R] 93) (by simp)
  exact ⟨by rw [cell_of_row w l 1 _ 93 (0, 0) q]; rfl, by rw [cell_of_row w l 0 _ 93 (0, 0) q]; rfl, h.1 _ (by simp)⟩
theorem pp_nil {xs : List Int} {fr : Bool} (h : (xs.length : Int) = 0) : ppV xs fr = 0 ∧ ppE xs = 3 ∧ ppX xs fr = xs := by
  have h' : xs.length = 0 := by omega
  unfold ppV ppE ppX; rw [if_pos h', if_pos h', if_pos h']; exact ⟨rfl, rfl, rfl⟩
theorem pp_ok {xs : List Int} {fr : Bool} {a : Nat} (h : ¬ (xs.length : Int) = 0) (ha : ppA xs fr = a) : ppV xs fr = xs.getD a 0 ∧ ppE xs = 0 ∧ ppX xs fr = del xs a := by
  have h' : ¬ xs.length = 0 := by omega
  unfold ppV ppE ppX; rw [if_neg h', if_neg h', if_neg h', ha]; exact ⟨rfl, rfl, rfl⟩
theorem at_out {xs : List Int} {i : Int} (h : i < 0 ∨ (xs.length : Int) ≤ i) : atV xs i = 0 ∧ atE xs i = 3 := by unfold atV atE; rw [if_pos h, if_pos h]; exact ⟨rfl, rfl⟩
theorem at_in {xs : List Int} {k : Nat} (h : k < xs.length) : atV xs (k : Int) = xs.getD k 0 ∧ atE xs (k : Int) = 0 := by unfold atV atE; rw [if_neg (by omega), if_neg (by omega)]; exact ⟨rfl, rfl⟩
theorem row_cell {w : World} {g n cp q : Nat} {xs : List Int} {u : Value} (h : Ent.holds w (row (some ⟨g, 0, none⟩) n cp xs)) (hq : (iL xs)[q]? = some u) : w.cell? ⟨g, q, none⟩ = some u := by
  rcases row_cases h with ⟨h0, _⟩ | ⟨g', cur, he, hg, hnc, hm, hs, hx⟩
  · cases h0
  · cases he; exact cel_cell hg (by have := take_get hx hq; simpa using this)
/-- what came of appending some -/
theorem appI {S : Nat → Prop} {w0 w : World} {H : List Ent} (hH : HP S w0 w H) (i : Nat) {pv : Option Addr} {k cp m cm : Nat} {xs ys : List Int} (a : Addr) (ty : TypeId)
    (hi : H[i]? = some (row pv k cp xs)) (hl : ys.length = m) (hc : ∀ q u, (iL ys)[q]? = some u → w.cell? (a.add q) = some u) (hk : k + m ≤ 1000) :
    ∃ pv' cp' w2, (Builtin.append_ #[58, 58] ty #[.slice pv k cp, .slice (some a) m cm]).run Try.prog w = .ok (.slice pv' (k + m) cp') w2 ∧ HP S w0 w2 (H.set i (row pv' (k + m) cp' (xs ++ ys))) := by
  obtain ⟨i0, hi0, hz0, hz1, hz2⟩ := infoI
  obtain ⟨v', w2, hr, g1, g2, g3, g4⟩ := append_ent (P := Try.prog) w 58 ty 3 i0 _ 1 8 Try.underlying58 hi0 hz0 hz1 hz2 rfl (by decide) (.slice pv k cp) k (iL xs) (hH.get i hi) a m cm (iL ys) (by simp [hl]) hc (iL_one ys) (by unfold maxLen; omega) (by omega)
  obtain ⟨pv', cp', rfl, -⟩ := own_row (xs := xs ++ ys) (show Ent.holds w2 (.own v' (k + m) (iL xs ++ iL ys) 3 1) from ⟨g1.1, g1.2⟩) (by simp [iL])
  have e : iL xs ++ iL ys = iL (xs ++ ys) := by simp [iL]
  refine ⟨pv', cp', w2, hr, ?_⟩
  exact hH.change i hi g2.os g2.tape g2.output g2.size (fun q hq hne => g2.block q hq fun e => hne e.symm) (by rw [e] at g1; exact ⟨g1.1, g1.2⟩) g4
theorem row_below {w w' : World} {pv : Option Addr} {n cp : Nat} {xs : List Int} (hb : Below w.heap.size w w') (h : Ent.holds w (row pv n cp xs)) : Ent.holds w' (row pv n cp xs) := Ent.keep h fun b hb' => hb.block b (Ent.lt h hb')
def ItR (w : World) (xs : List Int) (e : Ending) (w' : World) : Prop := ∃ pv cp, e = .returned (.slice pv xs.length cp) ∧ HP Tr w w' [row pv xs.length cp xs]
theorem own_nil (w : World) : Ent.holds w (row none 0 0 []) := World.ownsRow_nil _ _ _ _
end Lb
namespace Fw
open Lb
open Lc (wd rm rm_t isRoom_any rroom_any)
theorem HP.exchF {S : Nat → Prop} {w0 w w' : World} {A A' B : List Ent} (h : HP S w0 w (A ++ B)) (h2 : HP (Out A) w w' A') : HP S w0 w' (A' ++ B) := (h.flip.exch h2).flip
end Fw
namespace Lb
open Lc (wd rm rm_t isRoom_any rroom_any)
end Lb
namespace Fw
open Lb
open Lc (wd rm rm_t isRoom_any rroom_any)
theorem HP.exchM {S : Nat → Prop} {w0 w w' : World} {A R R' C : List Ent} (h : HP S w0 w (A ++ (R ++ C))) (h2 : HP (Out R) w w' R') : HP S w0 w' (A ++ (R' ++ C)) := by
  have h3 : HP S w0 w (R ++ (C ++ A)) := by have q := h.flip; rwa [List.append_assoc] at q
  have h4 := h3.exchF h2
  rw [← List.append_assoc] at h4
  exact h4.flip
end Fw
namespace Lb
open Lc (wd rm rm_t isRoom_any rroom_any)
end Lb
namespace Fw
open Lb
open Lc (wd rm rm_t isRoom_any rroom_any)
theorem HP.ownF {S : Nat → Prop} {w0 w : World} {A B : List Ent} (h : HP S w0 w (A ++ B)) : OwnB w A := HP.ownB h.flip
end Fw
namespace Lb
open Lc (wd rm rm_t isRoom_any rroom_any)
end Lb
namespace Fw
open Lb
open Lc (wd rm rm_t isRoom_any rroom_any)
theorem HP.ownM {S : Nat → Prop} {w0 w : World} {A R C : List Ent} (h : HP S w0 w (A ++ (R ++ C))) : OwnB w R := by
  have h3 : HP S w0 w (R ++ (C ++ A)) := by have q := h.flip; rwa [List.append_assoc] at q
  exact h3.ownF
end Fw
namespace Lb
open Lc (wd rm rm_t isRoom_any rroom_any)
theorem sz3 : (Try.prog.info? 3).map (·.size) = some 1 := by kernel_rfl
set_option maxRecDepth 20000 in
set_option maxHeartbeats 4000000 in
theorem Pop_any (l : Nat) (R : Int) (pv : Option Addr) (cp : Nat) (xs : List Int) (fr : Bool) (w : World) (hB : OwnB w (PB l R pv cp xs)) (hR : 1 ≤ R) (hn : xs.length ≤ 32) :
    Calls Try.prog 28 #[vP l 0, .bool fr] w fun e w' => ∃ pv' cp', e = .returned (.tuple #[vI (ppV xs fr), vI (ppE xs)]) ∧ HP (Out (PB l R pv cp xs)) w w' (PB l R pv' cp' (ppX xs fr)) := by
  refine calls_of Try.func28 rfl (m := 49) rfl [(0, vP l 0), (1, .bool fr)] (Fr_enter [vP l 0, .bool fr] 49 (Nat.le_of_ble_eq_true rfl)) ?_
  refine WC.seq fun K1 hK1 => ?_
  refine WC.region ?_
  refine WL.pure (v := vI 0) 4 rfl (Nat.le_of_ble_eq_true rfl) rfl rfl (by kernel_rfl) ?_
  refine WL.pure (v := vI 0) 5 rfl (Nat.le_of_ble_eq_true rfl) rfl rfl (by kernel_rfl) ?_
  refine WL.nil ?_
  refine WQ.then ?_
  refine hK1 _ _ _ ?_
  refine WC.seq fun K2 hK2 => ?_
  refine WC.block ?_
  refine WC.seq fun K3 hK3 => ?_
  refine WC.region ?_
  refine WL.pure (v := vP l 0) 9 rfl (Nat.le_of_ble_eq_true rfl) rfl rfl (by kernel_rfl) ?_
  refine WL.call (f := 59) (args := #[vP l 0]) 10 rfl (Nat.le_of_ble_eq_true rfl) rfl rfl (by kernel_rfl) ?_
  refine (lnone_any l R _ (HP.cell (HP.startB hB) 0 rfl rfl) hR).mono ?_
  rintro e w4 ⟨rfl, hb5⟩
  refine ⟨_, rfl, ?_⟩
  have hH6 : HP (Out (PB l R pv cp xs)) w _ [.cel l #[vI R, .slice pv xs.length cp] 91, .own (.slice pv xs.length cp) xs.length (iL xs) 3 1] := HP.call (HP.startB hB) hb5
  refine WL.pure (v := .bool false) 8 rfl (Nat.le_of_ble_eq_true rfl) rfl rfl (by kernel_rfl) ?_
  refine WL.nil ?_
  refine WQ.then ?_
  refine hK3 _ _ _ ?_
  refine WC.no rfl ?_
  refine WC.seq fun K7 hK7 => ?_
  refine WC.region ?_
  refine WL.pure (v := vP l 0) 12 rfl (Nat.le_of_ble_eq_true rfl) rfl rfl (by kernel_rfl) ?_
  refine WL.pure (v := vP l 0) 13 rfl (Nat.le_of_ble_eq_true rfl) rfl rfl (by kernel_rfl) ?_
  refine WL.pure (v := vP l 0) 14 rfl (Nat.le_of_ble_eq_true rfl) rfl rfl (by kernel_rfl) ?_
  refine WL.pure (v := vP l 1) 15 rfl (Nat.le_of_ble_eq_true rfl) rfl rfl (by kernel_rfl) ?_
  refine WL.pure (v := .slice pv xs.length cp) 16 rfl (Nat.le_of_ble_eq_true rfl) rfl rfl (x_load rfl rfl Try.underlying58 rfl (HP.cell hH6 0 rfl rfl)) ?_
  refine WL.pure (v := vI (xs.length : Int)) 17 rfl (Nat.le_of_ble_eq_true rfl) rfl rfl (by kernel_rfl) ?_
  by_cases hz : (xs.length : Int) = 0
  ·
    refine WL.pure (v := .bool true) 18 rfl (Nat.le_of_ble_eq_true rfl) rfl rfl (x_eql rfl rfl rfl (dT (hz))) ?_
    refine WL.pure (v := .bool true) 11 rfl (Nat.le_of_ble_eq_true rfl) rfl rfl (by kernel_rfl) ?_
    refine WL.nil ?_
    refine WQ.then ?_
    refine hK7 _ _ _ ?_
    refine WC.sub (l' := [(0, vP l 0), (1, .bool fr), (4, vI 0), (5, vI 0), (8, .bool false), (11, .bool true)]) ⟨rfl, rfl, rfl, rfl, rfl, rfl, trivial⟩ ?_
    refine WC.yes rfl ?_
    refine WC.seq fun K8 hK8 => ?_
    refine WC.region ?_
    refine WL.pure (v := vI 0) 4 rfl (Nat.le_of_ble_eq_true rfl) rfl rfl (by kernel_rfl) ?_
    refine WL.pure (v := vI 3) 5 rfl (Nat.le_of_ble_eq_true rfl) rfl rfl (by kernel_rfl) ?_
    refine WL.nil ?_
    refine WQ.then ?_
    refine hK8 _ _ _ ?_
    refine WC.ret ?_
    refine WQ.inRet ?_
    refine WQ.thenRet ?_
    refine WQ.ret2 4 5 rfl rfl rfl ?_
    have q := pp_nil (fr := fr) hz
    exact ⟨pv, cp, by rw [q.1, q.2.1], by rw [q.2.2]; exact hH6⟩
  ·
    refine WL.pure (v := .bool false) 18 rfl (Nat.le_of_ble_eq_true rfl) rfl rfl (x_eql rfl rfl rfl (dF (hz))) ?_
    refine WL.pure (v := .bool false) 11 rfl (Nat.le_of_ble_eq_true rfl) rfl rfl (by kernel_rfl) ?_
    refine WL.nil ?_
    refine WQ.then ?_
    refine hK7 _ _ _ ?_
    refine WC.sub (l' := [(0, vP l 0), (1, .bool fr), (4, vI 0), (5, vI 0), (8, .bool false), (11, .bool false)]) ⟨rfl, rfl, rfl, rfl, rfl, rfl, trivial⟩ ?_
    refine WC.no rfl ?_
    refine WC.skip ?_
    refine WQ.inNormal ?_
    refine WQ.then ?_
    refine hK2 _ _ _ ?_
    refine WC.seq fun K9 hK9 => ?_
    refine WC.region ?_
    refine WL.pure (v := vP l 0) 19 rfl (Nat.le_of_ble_eq_true rfl) rfl rfl (by kernel_rfl) ?_
    refine WL.pure (v := vP l 0) 20 rfl (Nat.le_of_ble_eq_true rfl) rfl rfl (by kernel_rfl) ?_
    refine WL.pure (v := vP l 0) 21 rfl (Nat.le_of_ble_eq_true rfl) rfl rfl (by kernel_rfl) ?_
    refine WL.pure (v := vP l 1) 22 rfl (Nat.le_of_ble_eq_true rfl) rfl rfl (by kernel_rfl) ?_
    refine WL.pure (v := .slice pv xs.length cp) 23 rfl (Nat.le_of_ble_eq_true rfl) rfl rfl (x_load rfl rfl Try.underlying58 rfl (HP.cell hH6 0 rfl rfl)) ?_
    refine WL.pure (v := vI (xs.length : Int)) 24 rfl (Nat.le_of_ble_eq_true rfl) rfl rfl (by kernel_rfl) ?_
    refine WL.pure (v := vI ((xs.length - 1 : Nat) : Int)) 25 rfl (Nat.le_of_ble_eq_true rfl) rfl rfl (x_sub (Z := ((xs.length - 1 : Nat) : Int)) rfl rfl rfl (by omega) (by omega) (by omega)) ?_
    refine WL.pure (v := vI ((xs.length - 1 : Nat) : Int)) 6 rfl (Nat.le_of_ble_eq_true rfl) rfl rfl (by kernel_rfl) ?_
    refine WL.nil ?_
    refine WQ.then ?_
    refine hK9 _ _ _ ?_
    refine WC.sub (l' := [(0, vP l 0), (1, .bool fr), (4, vI 0), (5, vI 0), (6, vI ((xs.length - 1 : Nat) : Int)), (8, .bool false), (11, .bool false)]) ⟨rfl, rfl, rfl, rfl, rfl, rfl, rfl, trivial⟩ ?_
    refine WC.seq fun K10 hK10 => ?_
    refine WC.seq fun K11 hK11 => ?_
    refine WC.region ?_
    refine WL.pure (v := .bool fr) 26 rfl (Nat.le_of_ble_eq_true rfl) rfl rfl (by kernel_rfl) ?_
    refine WL.nil ?_
    refine WQ.then ?_
    refine hK11 _ _ _ ?_
    rcases Bool.eq_false_or_eq_true (fr) with hfr | hfr
    ·
      refine WC.yes (congrArg (fun b => some (Value.bool b)) hfr) ?_
      refine WC.region ?_
      refine WL.pure (v := vI 0) 6 rfl (Nat.le_of_ble_eq_true rfl) rfl rfl (by kernel_rfl) ?_
      refine WL.nil ?_
      refine WQ.then ?_
      refine hK10 _ _ _ ?_
      refine WC.seq fun K12 hK12 => ?_
      obtain ⟨g, hg, hrow⟩ := row_open (HP.get hH6 1 rfl) (show 0 < xs.length by omega)
      subst hg
      refine WC.region ?_
      refine WL.pure (v := vP l 0) 27 rfl (Nat.le_of_ble_eq_true rfl) rfl rfl (by kernel_rfl) ?_
      refine WL.pure (v := vP l 0) 28 rfl (Nat.le_of_ble_eq_true rfl) rfl rfl (by kernel_rfl) ?_
      refine WL.pure (v := vP l 0) 29 rfl (Nat.le_of_ble_eq_true rfl) rfl rfl (by kernel_rfl) ?_
      refine WL.pure (v := vP l 1) 30 rfl (Nat.le_of_ble_eq_true rfl) rfl rfl (by kernel_rfl) ?_
      refine WL.pure (v := vS g xs.length cp) 31 rfl (Nat.le_of_ble_eq_true rfl) rfl rfl (x_load rfl rfl Try.underlying58 rfl (HP.cell hH6 0 rfl rfl)) ?_
      refine WL.pure (v := vI 0) 32 rfl (Nat.le_of_ble_eq_true rfl) rfl rfl (by kernel_rfl) ?_
      refine WL.pure (v := vP g 0) 33 rfl (Nat.le_of_ble_eq_true rfl) rfl rfl (x_idx (0) (0) rfl rfl rfl Try.underlying58 sz3 (by omega) (by omega) (by omega)) ?_
      refine WL.pure (v := vI (xs.getD (0) 0)) 34 rfl (Nat.le_of_ble_eq_true rfl) rfl rfl (x_load rfl rfl Try.underlying3 rfl (hrow (0) (by omega))) ?_
      refine WL.pure (v := vI (xs.getD (0) 0)) 7 rfl (Nat.le_of_ble_eq_true rfl) rfl rfl (by kernel_rfl) ?_
      refine WL.nil ?_
      refine WQ.then ?_
      refine hK12 _ _ _ ?_
      refine WC.sub (l' := [(0, vP l 0), (1, .bool fr), (4, vI 0), (5, vI 0), (6, vI 0), (7, vI (xs.getD (0) 0)), (8, .bool false), (11, .bool false), (26, .bool fr)]) ⟨rfl, rfl, rfl, rfl, rfl, rfl, rfl, rfl, rfl, trivial⟩ ?_
      refine WC.seq fun K13 hK13 => ?_
      refine WC.region ?_
      refine WL.pure (v := vP l 0) 35 rfl (Nat.le_of_ble_eq_true rfl) rfl rfl (by kernel_rfl) ?_
      refine WL.pure (v := vP l 0) 36 rfl (Nat.le_of_ble_eq_true rfl) rfl rfl (by kernel_rfl) ?_
      refine WL.pure (v := vP l 0) 37 rfl (Nat.le_of_ble_eq_true rfl) rfl rfl (by kernel_rfl) ?_
      refine WL.pure (v := vP l 0) 38 rfl (Nat.le_of_ble_eq_true rfl) rfl rfl (by kernel_rfl) ?_
      refine WL.pure (v := vP l 1) 39 rfl (Nat.le_of_ble_eq_true rfl) rfl rfl (by kernel_rfl) ?_
      refine WL.pure (v := vS g xs.length cp) 40 rfl (Nat.le_of_ble_eq_true rfl) rfl rfl (x_load rfl rfl Try.underlying58 rfl (HP.cell hH6 0 rfl rfl)) ?_
      refine WL.pure (v := vI 0) 41 rfl (Nat.le_of_ble_eq_true rfl) rfl rfl (by kernel_rfl) ?_
      refine WL.pure (v := vI 0) 42 rfl (Nat.le_of_ble_eq_true rfl) rfl rfl (by kernel_rfl) ?_
      refine WL.pure (v := vI ((0 + 1 : Nat) : Int)) 43 rfl (Nat.le_of_ble_eq_true rfl) rfl rfl (x_add (Z := ((0 + 1 : Nat) : Int)) rfl rfl rfl (by omega) (by omega) (by omega)) ?_
      refine WL.call (f := 63) (args := #[vS g xs.length cp, vI 0, vI ((0 + 1 : Nat) : Int)]) 44 rfl (Nat.le_of_ble_eq_true rfl) rfl rfl (by kernel_rfl) ?_
      refine (Delete_any (some ⟨g, 0, none⟩) xs.length cp (0) xs _ (HP.get hH6 1 rfl) (by omega) (by omega)).mono ?_
      rintro e w8 ⟨rfl, hI⟩
      refine ⟨_, rfl, ?_⟩
      have hC := HP.changed2 hH6 1 rfl hI
      have hH14 : HP (Out (PB l R (some ⟨g, 0, none⟩) cp xs)) w _ [.cel l #[vI R, .slice (some ⟨g, 0, none⟩) xs.length cp] 91, .own (.slice (some ⟨g, 0, none⟩) (xs.length - 1) cp) (xs.length - 1) (iL (del xs (0))) 3 1] := hC
      refine WL.pure (v := vP l 0) 45 rfl (Nat.le_of_ble_eq_true rfl) rfl rfl (by kernel_rfl) ?_
      refine WL.pure (v := vP l 0) 46 rfl (Nat.le_of_ble_eq_true rfl) rfl rfl (by kernel_rfl) ?_
      refine WL.pure (v := vP l 1) 47 rfl (Nat.le_of_ble_eq_true rfl) rfl rfl (by kernel_rfl) ?_
      refine WL.store (H2 := [.cel l #[vI R, vS g (xs.length - 1) cp] 91, .own (.slice (some ⟨g, 0, none⟩) (xs.length - 1) cp) (xs.length - 1) (iL (del xs (0))) 3 1]) 0 hH14 rfl rfl rfl rfl rfl rfl sz58 rfl (Nat.le_of_ble_eq_true rfl) rfl rfl ?_
      intro w15 hH16
      refine WL.nil ?_
      refine WQ.then ?_
      refine hK13 _ _ _ ?_
      refine WC.sub (l' := [(0, vP l 0), (1, .bool fr), (4, vI 0), (5, vI 0), (6, vI 0), (7, vI (xs.getD (0) 0)), (8, .bool false), (11, .bool false), (26, .bool fr)]) ⟨rfl, rfl, rfl, rfl, rfl, rfl, rfl, rfl, rfl, trivial⟩ ?_
      refine WC.seq fun K17 hK17 => ?_
      refine WC.region ?_
      refine WL.pure (v := vI (xs.getD (0) 0)) 48 rfl (Nat.le_of_ble_eq_true rfl) rfl rfl (by kernel_rfl) ?_
      refine WL.pure (v := vI (xs.getD (0) 0)) 4 rfl (Nat.le_of_ble_eq_true rfl) rfl rfl (by kernel_rfl) ?_
      refine WL.pure (v := vI 0) 5 rfl (Nat.le_of_ble_eq_true rfl) rfl rfl (by kernel_rfl) ?_
      refine WL.nil ?_
      refine WQ.then ?_
      refine hK17 _ _ _ ?_
      refine WC.ret ?_
      refine WQ.ret2 4 5 rfl rfl rfl ?_
      have q := pp_ok (a := 0) hz (show ppA xs fr = 0 by unfold ppA; rw [hfr]; rfl)
      have ql := len_del (xs := xs) (i := 0) (by omega)
      refine ⟨some ⟨g, 0, none⟩, cp, by rw [q.1, q.2.1], ?_⟩
      rw [q.2.2]
      exact HP.eq hH16 (by unfold PB; rw [ql] <;> rfl)
    ·
      refine WC.no (congrArg (fun b => some (Value.bool b)) hfr) ?_
      refine WC.skip ?_
      refine WQ.then ?_
      refine hK10 _ _ _ ?_
      refine WC.seq fun K18 hK18 => ?_
      obtain ⟨g, hg, hrow⟩ := row_open (HP.get hH6 1 rfl) (show 0 < xs.length by omega)
      subst hg
      refine WC.region ?_
      refine WL.pure (v := vP l 0) 27 rfl (Nat.le_of_ble_eq_true rfl) rfl rfl (by kernel_rfl) ?_
      refine WL.pure (v := vP l 0) 28 rfl (Nat.le_of_ble_eq_true rfl) rfl rfl (by kernel_rfl) ?_
      refine WL.pure (v := vP l 0) 29 rfl (Nat.le_of_ble_eq_true rfl) rfl rfl (by kernel_rfl) ?_
      refine WL.pure (v := vP l 1) 30 rfl (Nat.le_of_ble_eq_true rfl) rfl rfl (by kernel_rfl) ?_
      refine WL.pure (v := vS g xs.length cp) 31 rfl (Nat.le_of_ble_eq_true rfl) rfl rfl (x_load rfl rfl Try.underlying58 rfl (HP.cell hH6 0 rfl rfl)) ?_
      refine WL.pure (v := vI ((xs.length - 1 : Nat) : Int)) 32 rfl (Nat.le_of_ble_eq_true rfl) rfl rfl (by kernel_rfl) ?_
      refine WL.pure (v := vP g (xs.length - 1)) 33 rfl (Nat.le_of_ble_eq_true rfl) rfl rfl (x_idx (xs.length - 1) (xs.length - 1) rfl rfl rfl Try.underlying58 sz3 (by omega) (by omega) (by omega)) ?_
      refine WL.pure (v := vI (xs.getD (xs.length - 1) 0)) 34 rfl (Nat.le_of_ble_eq_true rfl) rfl rfl (x_load rfl rfl Try.underlying3 rfl (hrow (xs.length - 1) (by omega))) ?_
      refine WL.pure (v := vI (xs.getD (xs.length - 1) 0)) 7 rfl (Nat.le_of_ble_eq_true rfl) rfl rfl (by kernel_rfl) ?_
      refine WL.nil ?_
      refine WQ.then ?_
      refine hK18 _ _ _ ?_
      refine WC.sub (l' := [(0, vP l 0), (1, .bool fr), (4, vI 0), (5, vI 0), (6, vI ((xs.length - 1 : Nat) : Int)), (7, vI (xs.getD (xs.length - 1) 0)), (8, .bool false), (11, .bool false), (26, .bool fr)]) ⟨rfl, rfl, rfl, rfl, rfl, rfl, rfl, rfl, rfl, trivial⟩ ?_
      refine WC.seq fun K19 hK19 => ?_
      refine WC.region ?_
      refine WL.pure (v := vP l 0) 35 rfl (Nat.le_of_ble_eq_true rfl) rfl rfl (by kernel_rfl) ?_
      refine WL.pure (v := vP l 0) 36 rfl (Nat.le_of_ble_eq_true rfl) rfl rfl (by kernel_rfl) ?_
      refine WL.pure (v := vP l 0) 37 rfl (Nat.le_of_ble_eq_true rfl) rfl rfl (by kernel_rfl) ?_
      refine WL.pure (v := vP l 0) 38 rfl (Nat.le_of_ble_eq_true rfl) rfl rfl (by kernel_rfl) ?_
      refine WL.pure (v := vP l 1) 39 rfl (Nat.le_of_ble_eq_true rfl) rfl rfl (by kernel_rfl) ?_
      refine WL.pure (v := vS g xs.length cp) 40 rfl (Nat.le_of_ble_eq_true rfl) rfl rfl (x_load rfl rfl Try.underlying58 rfl (HP.cell hH6 0 rfl rfl)) ?_
      refine WL.pure (v := vI ((xs.length - 1 : Nat) : Int)) 41 rfl (Nat.le_of_ble_eq_true rfl) rfl rfl (by kernel_rfl) ?_
      refine WL.pure (v := vI ((xs.length - 1 : Nat) : Int)) 42 rfl (Nat.le_of_ble_eq_true rfl) rfl rfl (by kernel_rfl) ?_
      refine WL.pure (v := vI ((xs.length - 1 + 1 : Nat) : Int)) 43 rfl (Nat.le_of_ble_eq_true rfl) rfl rfl (x_add (Z := ((xs.length - 1 + 1 : Nat) : Int)) rfl rfl rfl (by omega) (by omega) (by omega)) ?_
      refine WL.call (f := 63) (args := #[vS g xs.length cp, vI ((xs.length - 1 : Nat) : Int), vI ((xs.length - 1 + 1 : Nat) : Int)]) 44 rfl (Nat.le_of_ble_eq_true rfl) rfl rfl (by kernel_rfl) ?_
      refine (Delete_any (some ⟨g, 0, none⟩) xs.length cp (xs.length - 1) xs _ (HP.get hH6 1 rfl) (by omega) (by omega)).mono ?_
      rintro e w8 ⟨rfl, hI⟩
      refine ⟨_, rfl, ?_⟩
      have hC := HP.changed2 hH6 1 rfl hI
      have hH20 : HP (Out (PB l R (some ⟨g, 0, none⟩) cp xs)) w _ [.cel l #[vI R, .slice (some ⟨g, 0, none⟩) xs.length cp] 91, .own (.slice (some ⟨g, 0, none⟩) (xs.length - 1) cp) (xs.length - 1) (iL (del xs (xs.length - 1))) 3 1] := hC
      refine WL.pure (v := vP l 0) 45 rfl (Nat.le_of_ble_eq_true rfl) rfl rfl (by kernel_rfl) ?_
      refine WL.pure (v := vP l 0) 46 rfl (Nat.le_of_ble_eq_true rfl) rfl rfl (by kernel_rfl) ?_
      refine WL.pure (v := vP l 1) 47 rfl (Nat.le_of_ble_eq_true rfl) rfl rfl (by kernel_rfl) ?_
      refine WL.store (H2 := [.cel l #[vI R, vS g (xs.length - 1) cp] 91, .own (.slice (some ⟨g, 0, none⟩) (xs.length - 1) cp) (xs.length - 1) (iL (del xs (xs.length - 1))) 3 1]) 0 hH20 rfl rfl rfl rfl rfl rfl sz58 rfl (Nat.le_of_ble_eq_true rfl) rfl rfl ?_
      intro w21 hH22
      refine WL.nil ?_
      refine WQ.then ?_
      refine hK19 _ _ _ ?_
      refine WC.sub (l' := [(0, vP l 0), (1, .bool fr), (4, vI 0), (5, vI 0), (6, vI ((xs.length - 1 : Nat) : Int)), (7, vI (xs.getD (xs.length - 1) 0)), (8, .bool false), (11, .bool false), (26, .bool fr)]) ⟨rfl, rfl, rfl, rfl, rfl, rfl, rfl, rfl, rfl, trivial⟩ ?_
      refine WC.seq fun K23 hK23 => ?_
      refine WC.region ?_
      refine WL.pure (v := vI (xs.getD (xs.length - 1) 0)) 48 rfl (Nat.le_of_ble_eq_true rfl) rfl rfl (by kernel_rfl) ?_
      refine WL.pure (v := vI (xs.getD (xs.length - 1) 0)) 4 rfl (Nat.le_of_ble_eq_true rfl) rfl rfl (by kernel_rfl) ?_
      refine WL.pure (v := vI 0) 5 rfl (Nat.le_of_ble_eq_true rfl) rfl rfl (by kernel_rfl) ?_
      refine WL.nil ?_
      refine WQ.then ?_
      refine hK23 _ _ _ ?_
      refine WC.ret ?_
      refine WQ.ret2 4 5 rfl rfl rfl ?_
      have q := pp_ok (a := xs.length - 1) hz (show ppA xs fr = xs.length - 1 by unfold ppA; rw [hfr]; rfl)
      have ql := len_del (xs := xs) (i := xs.length - 1) (by omega)
      refine ⟨some ⟨g, 0, none⟩, cp, by rw [q.1, q.2.1], ?_⟩
      rw [q.2.2]
      exact HP.eq hH22 (by unfold PB; rw [ql] <;> rfl)
set_option maxRecDepth 20000 in
set_option maxHeartbeats 4000000 in
theorem rPop_any (l : Nat) (R : Int) (pv : Option Addr) (cp : Nat) (xs : List Int) (fr : Bool) (w : World) (hB : OwnB w (RB l R pv cp xs)) (hR : 1 ≤ R) (hn : xs.length ≤ 32) :
    Calls Try.prog 29 #[vP l 0, .bool fr] w fun e w' => ∃ pv' cp', e = .returned (.tuple #[vI (ppV xs fr), vI (ppE xs)]) ∧ HP (Out (RB l R pv cp xs)) w w' (RB l R pv' cp' (ppX xs fr)) := by
  refine calls_of Try.func29 rfl (m := 57) rfl [(0, vP l 0), (1, .bool fr)] (Fr_enter [vP l 0, .bool fr] 57 (Nat.le_of_ble_eq_true rfl)) ?_
  refine WC.seq fun K1 hK1 => ?_
  refine WC.region ?_
  refine WL.pure (v := vI 0) 4 rfl (Nat.le_of_ble_eq_true rfl) rfl rfl (by kernel_rfl) ?_
  refine WL.pure (v := vI 0) 5 rfl (Nat.le_of_ble_eq_true rfl) rfl rfl (by kernel_rfl) ?_
  refine WL.nil ?_
  refine WQ.then ?_
  refine hK1 _ _ _ ?_
  refine WC.seq fun K2 hK2 => ?_
  refine WC.seq fun K3 hK3 => ?_
  refine WC.region ?_
  refine WL.pure (v := vP l 0) 8 rfl (Nat.le_of_ble_eq_true rfl) rfl rfl (by kernel_rfl) ?_
  refine WL.pure (v := .bool false) 9 rfl (Nat.le_of_ble_eq_true rfl) rfl rfl (by kernel_rfl) ?_
  refine WL.pure (v := .bool false) 10 rfl (Nat.le_of_ble_eq_true rfl) rfl rfl (by kernel_rfl) ?_
  refine WL.pure (v := vP l 0) 11 rfl (Nat.le_of_ble_eq_true rfl) rfl rfl (by kernel_rfl) ?_
  refine WL.pure (v := vP l 0) 12 rfl (Nat.le_of_ble_eq_true rfl) rfl rfl (by kernel_rfl) ?_
  refine WL.pure (v := vP l 1) 13 rfl (Nat.le_of_ble_eq_true rfl) rfl rfl (by kernel_rfl) ?_
  refine WL.pure (v := vI R) 14 rfl (Nat.le_of_ble_eq_true rfl) rfl rfl (x_load rfl rfl Try.underlying3 rfl (HP.cell (HP.startB hB) 0 rfl rfl)) ?_
  refine WL.pure (v := .bool false) 15 rfl (Nat.le_of_ble_eq_true rfl) rfl rfl (x_eql rfl rfl rfl (dF (by omega))) ?_
  refine WL.pure (v := .bool false) 16 rfl (Nat.le_of_ble_eq_true rfl) rfl rfl (by kernel_rfl) ?_
  refine WL.nil ?_
  refine WQ.then ?_
  refine hK3 _ _ _ ?_
  refine WC.sub (l' := [(0, vP l 0), (1, .bool fr), (4, vI 0), (5, vI 0), (16, .bool false)]) ⟨rfl, rfl, rfl, rfl, rfl, trivial⟩ ?_
  refine WC.no rfl ?_
  refine WC.skip ?_
  refine WQ.then ?_
  refine hK2 _ _ _ ?_
  refine WC.seq fun K4 hK4 => ?_
  refine WC.seq fun K5 hK5 => ?_
  refine WC.region ?_
  refine WL.pure (v := vP l 0) 17 rfl (Nat.le_of_ble_eq_true rfl) rfl rfl (by kernel_rfl) ?_
  refine WL.pure (v := vP l 0) 18 rfl (Nat.le_of_ble_eq_true rfl) rfl rfl (by kernel_rfl) ?_
  refine WL.pure (v := vP l 0) 19 rfl (Nat.le_of_ble_eq_true rfl) rfl rfl (by kernel_rfl) ?_
  refine WL.pure (v := .slice pv xs.length cp) 20 rfl (Nat.le_of_ble_eq_true rfl) rfl rfl (x_load rfl rfl Try.underlying58 rfl (HP.cell (HP.startB hB) 0 rfl rfl)) ?_
  refine WL.pure (v := vI (xs.length : Int)) 21 rfl (Nat.le_of_ble_eq_true rfl) rfl rfl (by kernel_rfl) ?_
  by_cases hz : (xs.length : Int) = 0
  ·
    refine WL.pure (v := .bool true) 22 rfl (Nat.le_of_ble_eq_true rfl) rfl rfl (x_eql rfl rfl rfl (dT (hz))) ?_
    refine WL.nil ?_
    refine WQ.then ?_
    refine hK5 _ _ _ ?_
    refine WC.yes rfl ?_
    refine WC.seq fun K6 hK6 => ?_
    refine WC.region ?_
    refine WL.pure (v := vI 0) 4 rfl (Nat.le_of_ble_eq_true rfl) rfl rfl (by kernel_rfl) ?_
    refine WL.pure (v := vI 3) 5 rfl (Nat.le_of_ble_eq_true rfl) rfl rfl (by kernel_rfl) ?_
    refine WL.nil ?_
    refine WQ.then ?_
    refine hK6 _ _ _ ?_
    refine WC.sub (l' := [(0, vP l 0), (1, .bool fr), (4, vI 0), (5, vI 3), (16, .bool false), (22, .bool true)]) ⟨rfl, rfl, rfl, rfl, rfl, rfl, trivial⟩ ?_
    refine WC.ret ?_
    refine WQ.thenRet ?_
    refine WQ.ret2 4 5 rfl rfl rfl ?_
    have q := pp_nil (fr := fr) hz
    exact ⟨pv, cp, by rw [q.1, q.2.1], by rw [q.2.2]; exact (HP.startB hB)⟩
  ·
    refine WL.pure (v := .bool false) 22 rfl (Nat.le_of_ble_eq_true rfl) rfl rfl (x_eql rfl rfl rfl (dF (hz))) ?_
    refine WL.nil ?_
    refine WQ.then ?_
    refine hK5 _ _ _ ?_
    refine WC.no rfl ?_
    refine WC.skip ?_
    refine WQ.then ?_
    refine hK4 _ _ _ ?_
    refine WC.seq fun K7 hK7 => ?_
    refine WC.region ?_
    refine WL.pure (v := vP l 0) 23 rfl (Nat.le_of_ble_eq_true rfl) rfl rfl (by kernel_rfl) ?_
    refine WL.pure (v := vP l 0) 24 rfl (Nat.le_of_ble_eq_true rfl) rfl rfl (by kernel_rfl) ?_
    refine WL.pure (v := vP l 0) 25 rfl (Nat.le_of_ble_eq_true rfl) rfl rfl (by kernel_rfl) ?_
    refine WL.pure (v := .slice pv xs.length cp) 26 rfl (Nat.le_of_ble_eq_true rfl) rfl rfl (x_load rfl rfl Try.underlying58 rfl (HP.cell (HP.startB hB) 0 rfl rfl)) ?_
    refine WL.pure (v := vI (xs.length : Int)) 27 rfl (Nat.le_of_ble_eq_true rfl) rfl rfl (by kernel_rfl) ?_
    refine WL.pure (v := vI ((xs.length - 1 : Nat) : Int)) 28 rfl (Nat.le_of_ble_eq_true rfl) rfl rfl (x_sub (Z := ((xs.length - 1 : Nat) : Int)) rfl rfl rfl (by omega) (by omega) (by omega)) ?_
    refine WL.pure (v := vI ((xs.length - 1 : Nat) : Int)) 6 rfl (Nat.le_of_ble_eq_true rfl) rfl rfl (by kernel_rfl) ?_
    refine WL.nil ?_
    refine WQ.then ?_
    refine hK7 _ _ _ ?_
    refine WC.sub (l' := [(0, vP l 0), (1, .bool fr), (4, vI 0), (5, vI 0), (6, vI ((xs.length - 1 : Nat) : Int)), (16, .bool false), (22, .bool false)]) ⟨rfl, rfl, rfl, rfl, rfl, rfl, rfl, trivial⟩ ?_
    refine WC.seq fun K8 hK8 => ?_
    refine WC.seq fun K9 hK9 => ?_
    refine WC.region ?_
    refine WL.pure (v := .bool fr) 29 rfl (Nat.le_of_ble_eq_true rfl) rfl rfl (by kernel_rfl) ?_
    refine WL.nil ?_
    refine WQ.then ?_
    refine hK9 _ _ _ ?_
    rcases Bool.eq_false_or_eq_true (fr) with hfr | hfr
    ·
      refine WC.yes (congrArg (fun b => some (Value.bool b)) hfr) ?_
      refine WC.region ?_
      refine WL.pure (v := vI 0) 6 rfl (Nat.le_of_ble_eq_true rfl) rfl rfl (by kernel_rfl) ?_
      refine WL.nil ?_
      refine WQ.then ?_
      refine hK8 _ _ _ ?_
      refine WC.seq fun K10 hK10 => ?_
      obtain ⟨g, hg, hrow⟩ := row_open (HP.get (HP.startB hB) 1 rfl) (show 0 < xs.length by omega)
      subst hg
      refine WC.region ?_
      refine WL.pure (v := vP l 0) 30 rfl (Nat.le_of_ble_eq_true rfl) rfl rfl (by kernel_rfl) ?_
      refine WL.pure (v := vP l 0) 31 rfl (Nat.le_of_ble_eq_true rfl) rfl rfl (by kernel_rfl) ?_
      refine WL.pure (v := vP l 0) 32 rfl (Nat.le_of_ble_eq_true rfl) rfl rfl (by kernel_rfl) ?_
      refine WL.pure (v := vS g xs.length cp) 33 rfl (Nat.le_of_ble_eq_true rfl) rfl rfl (x_load rfl rfl Try.underlying58 rfl (HP.cell (HP.startB hB) 0 rfl rfl)) ?_
      refine WL.pure (v := vI 0) 34 rfl (Nat.le_of_ble_eq_true rfl) rfl rfl (by kernel_rfl) ?_
      refine WL.pure (v := vP g 0) 35 rfl (Nat.le_of_ble_eq_true rfl) rfl rfl (x_idx (0) (0) rfl rfl rfl Try.underlying58 sz3 (by omega) (by omega) (by omega)) ?_
      refine WL.pure (v := vI (xs.getD (0) 0)) 36 rfl (Nat.le_of_ble_eq_true rfl) rfl rfl (x_load rfl rfl Try.underlying3 rfl (hrow (0) (by omega))) ?_
      refine WL.pure (v := vI (xs.getD (0) 0)) 7 rfl (Nat.le_of_ble_eq_true rfl) rfl rfl (by kernel_rfl) ?_
      refine WL.nil ?_
      refine WQ.then ?_
      refine hK10 _ _ _ ?_
      refine WC.sub (l' := [(0, vP l 0), (1, .bool fr), (4, vI 0), (5, vI 0), (6, vI 0), (7, vI (xs.getD (0) 0)), (16, .bool false), (22, .bool false), (29, .bool fr)]) ⟨rfl, rfl, rfl, rfl, rfl, rfl, rfl, rfl, rfl, trivial⟩ ?_
      refine WC.seq fun K11 hK11 => ?_
      refine WC.confG (γ := Nat × ((Option Addr × Nat) × (Option Addr × Nat))) [(0, vP l 0), (1, .bool fr), (4, vI 0), (5, vI 0), (6, vI 0), (7, vI (xs.getD (0) 0)), (16, .bool false), (22, .bool false), (29, .bool fr)] (fun y => [vP l 0, vS y.1 0 0, vP l 0, vP l 0, vP l 0, (.slice (some ⟨g, 0, none⟩) xs.length cp), vI 0, (.slice (some ⟨g, 0, none⟩) (0) cp), (.slice y.2.1.1 (0) y.2.1.2), vP l 0, vP l 0, vP l 0, (.slice (some ⟨g, 0, none⟩) xs.length cp), vI 0, vI ((0 + 1 : Nat) : Int), (.slice (some (sl g (0 + 1) cp)) (xs.length - (0 + 1)) (cp - (0 + 1))), (.slice y.2.2.1 (xs.length - 1) y.2.2.2), vP l 0, vP l 0, undef]) (fun y D wz => HP (Out (RB l R (some ⟨g, 0, none⟩) cp xs)) w wz ([(bif D 19 then Ent.cel l #[(.slice y.2.2.1 (xs.length - 1) y.2.2.2), vI R] 93 else Ent.cel l #[.slice (some ⟨g, 0, none⟩) xs.length cp, vI R] 93), .own (.slice (some ⟨g, 0, none⟩) xs.length cp) xs.length (iL xs) 3 1] ++ (bif D 1 then [(bif D 16 then Ent.own (.slice y.2.2.1 (xs.length - 1) y.2.2.2) (xs.length - 1) (iL (del xs (0))) 3 1 else (bif D 8 then Ent.own (.slice y.2.1.1 (0) y.2.1.2) (0) (iL (xs.take (0))) 3 1 else Ent.own (.slice (some ⟨y.1, 0, none⟩) 0 0) 0 (iL []) 3 1))] else []))) (0, (none, 0), (none, 0)) (by kernel_rfl) ⟨rfl, rfl, rfl, rfl, rfl, rfl, rfl, rfl, rfl, trivial⟩ (by kernel_rfl) (by kernel_rfl) (by kernel_rfl) (fun _ => rfl) (by kernel_rfl) (HP.drew (HP.startB hB)) ?_ ?_
      · refine AllOk.cons ?o0 (AllOk.cons ?o1 (AllOk.cons ?o2 (AllOk.cons ?o3 (AllOk.cons ?o4 (AllOk.cons ?o5 (AllOk.cons ?o6 (AllOk.cons ?o7 (AllOk.cons ?o8 (AllOk.cons ?o9 (AllOk.cons ?o10 (AllOk.cons ?o11 (AllOk.cons ?o12 (AllOk.cons ?o13 (AllOk.cons ?o14 (AllOk.cons ?o15 (AllOk.cons ?o16 (AllOk.cons ?o17 (AllOk.cons ?o18 (AllOk.cons ?o19 (AllOk.nil _))))))))))))))))))))
        case o0 =>
          intro y D wz hDi hdep hclo hW
          exact .inl ⟨rfl, rfl, .inl ⟨y, wz, fun _ _ => rfl, by kernel_rfl, hW⟩⟩
        case o1 =>
          intro y D wz hDi hdep hclo hW
          have d8 : D 8 = false := by
            cases h : D 8 with
            | false => rfl
            | true => exact absurd (hclo 8 _ rfl h ⟨1, .data⟩ (by simp) rfl) (by rw [hDi]; exact Bool.false_ne_true)
          have d16 : D 16 = false := by
            cases h : D 16 with
            | false => rfl
            | true => exact absurd (hclo 16 _ rfl h ⟨8, .data⟩ (by simp) rfl) (by rw [d8]; exact Bool.false_ne_true)
          have d19 : D 19 = false := by
            cases h : D 19 with
            | false => rfl
            | true => exact absurd (hclo 19 _ rfl h ⟨16, .data⟩ (by simp) rfl) (by rw [d16]; exact Bool.false_ne_true)
          simp only [hDi, d8, d16, d19, cond_false] at hW
          refine .inl ⟨rfl, rfl, .inl ⟨(wz.heap.size, y.2), wz.alloc (.cells #[] 3), fun j hj => ?_, by kernel_rfl, ?_⟩⟩
          · match j, hj with
            | 0, hj => rfl
            | 1, hj => rw [hDi] at hj; cases hj
            | 2, hj => rfl
            | 3, hj => rfl
            | 4, hj => rfl
            | 5, hj => rfl
            | 6, hj => rfl
            | 7, hj => rfl
            | 8, hj => rfl
            | 9, hj => rfl
            | 10, hj => rfl
            | 11, hj => rfl
            | 12, hj => rfl
            | 13, hj => rfl
            | 14, hj => rfl
            | 15, hj => rfl
            | 16, hj => rfl
            | 17, hj => rfl
            | 18, hj => rfl
            | 19, hj => rfl
            | j + 20, _ => rfl
          · have h4 := HP.alloc hW #[] 3
            have h5 := HP.setSame h4 2 (e' := row (some ⟨wz.heap.size, 0, none⟩) 0 0 []) rfl (lit0 (HP.get h4 2 rfl)) rfl
            show HP (Out (RB l R (some ⟨g, 0, none⟩) cp xs)) w _ ([(bif D 19 then Ent.cel l #[(.slice y.2.2.1 (xs.length - 1) y.2.2.2), vI R] 93 else Ent.cel l #[.slice (some ⟨g, 0, none⟩) xs.length cp, vI R] 93), .own (.slice (some ⟨g, 0, none⟩) xs.length cp) xs.length (iL xs) 3 1] ++ [(bif D 16 then Ent.own (.slice y.2.2.1 (xs.length - 1) y.2.2.2) (xs.length - 1) (iL (del xs (0))) 3 1 else (bif D 8 then Ent.own (.slice y.2.1.1 (0) y.2.1.2) (0) (iL (xs.take (0))) 3 1 else Ent.own (.slice (some ⟨wz.heap.size, 0, none⟩) 0 0) 0 (iL []) 3 1))])
            simp only [d8, d16, d19, cond_false]
            exact h5
        case o2 =>
          intro y D wz hDi hdep hclo hW
          exact .inl ⟨rfl, rfl, .inl ⟨y, wz, fun _ _ => rfl, by kernel_rfl, hW⟩⟩
        case o3 =>
          intro y D wz hDi hdep hclo hW
          exact .inl ⟨rfl, rfl, .inl ⟨y, wz, fun _ _ => rfl, by kernel_rfl, hW⟩⟩
        case o4 =>
          intro y D wz hDi hdep hclo hW
          exact .inl ⟨rfl, rfl, .inl ⟨y, wz, fun _ _ => rfl, by kernel_rfl, hW⟩⟩
        case o5 =>
          intro y D wz hDi hdep hclo hW
          have d19 : D 19 = false := by
            cases h : D 19 with
            | false => rfl
            | true => exact absurd (hclo 19 _ rfl h ⟨5, .phase⟩ (by simp) rfl) (by rw [hDi]; exact Bool.false_ne_true)
          have hW2 := hW
          simp only [d19, cond_false] at hW2
          exact .inl ⟨rfl, rfl, .inl ⟨y, wz, fun _ _ => rfl, x_load rfl rfl Try.underlying58 rfl (HP.cell hW2 0 rfl rfl), hW⟩⟩
        case o6 =>
          intro y D wz hDi hdep hclo hW
          exact .inl ⟨rfl, rfl, .inl ⟨y, wz, fun _ _ => rfl, by kernel_rfl, hW⟩⟩
        case o7 =>
          intro y D wz hDi hdep hclo hW
          exact .inl ⟨rfl, rfl, .inl ⟨y, wz, fun _ _ => rfl, x_sliceH (0) rfl rfl rfl Try.underlying58 rfl (by have := (row_cap (HP.get hW 1 rfl)).1; omega) sz3, hW⟩⟩
        case o8 =>
          intro y D wz hDi hdep hclo hW
          have d1 : D 1 = true := hdep ⟨1, .data⟩ (by simp) rfl
          have d16 : D 16 = false := by
            cases h : D 16 with
            | false => rfl
            | true => exact absurd (hclo 16 _ rfl h ⟨8, .data⟩ (by simp) rfl) (by rw [hDi]; exact Bool.false_ne_true)
          have d19 : D 19 = false := by
            cases h : D 19 with
            | false => rfl
            | true => exact absurd (hclo 19 _ rfl h ⟨16, .data⟩ (by simp) rfl) (by rw [d16]; exact Bool.false_ne_true)
          simp only [hDi, d1, d16, d19, cond_true, cond_false] at hW
          have hsrc : ∀ q u, (iL (xs.take (0)))[q]? = some u → wz.cell? ((⟨g, 0, none⟩ : Addr).add q) = some u := fun q u hu => by
            have hq : (iL xs)[q]? = some u := by rw [iL, List.map_take] at hu; exact take_get rfl hu
            rw [show (⟨g, 0, none⟩ : Addr).add q = ⟨g, q, none⟩ by unfold Addr.add; split <;> simp_all]
            exact row_cell (HP.get hW 1 rfl) hq
          have hyl : (xs.take (0)).length = 0 := by simp
          obtain ⟨pv1, cp1, w2, hr2, hH2⟩ := appI hW 2 (ys := xs.take (0)) (m := 0) (cm := cp) ⟨g, 0, none⟩ 58 rfl hyl hsrc (by omega)
          rw [List.nil_append, Nat.zero_add] at hH2
          rw [Nat.zero_add] at hr2
          refine .inl ⟨rfl, rfl, .inl ⟨(y.1, (pv1, cp1), y.2.2), w2, fun j hj => ?_, x_append rfl rfl rfl hr2, ?_⟩⟩
          · match j, hj with
            | 0, hj => rfl
            | 1, hj => rfl
            | 2, hj => rfl
            | 3, hj => rfl
            | 4, hj => rfl
            | 5, hj => rfl
            | 6, hj => rfl
            | 7, hj => rfl
            | 8, hj => rw [hDi] at hj; cases hj
            | 9, hj => rfl
            | 10, hj => rfl
            | 11, hj => rfl
            | 12, hj => rfl
            | 13, hj => rfl
            | 14, hj => rfl
            | 15, hj => rfl
            | 16, hj => rfl
            | 17, hj => rfl
            | 18, hj => rfl
            | 19, hj => rfl
            | j + 20, _ => rfl
          · show HP (Out (RB l R (some ⟨g, 0, none⟩) cp xs)) w _ ([(bif D 19 then Ent.cel l #[(.slice y.2.2.1 (xs.length - 1) y.2.2.2), vI R] 93 else Ent.cel l #[.slice (some ⟨g, 0, none⟩) xs.length cp, vI R] 93), .own (.slice (some ⟨g, 0, none⟩) xs.length cp) xs.length (iL xs) 3 1] ++ (bif D 1 then [(bif D 16 then Ent.own (.slice y.2.2.1 (xs.length - 1) y.2.2.2) (xs.length - 1) (iL (del xs (0))) 3 1 else Ent.own (.slice pv1 (0) cp1) (0) (iL (xs.take (0))) 3 1)] else []))
            simp only [d1, d16, d19, cond_true, cond_false]
            exact hH2
        case o9 =>
          intro y D wz hDi hdep hclo hW
          exact .inl ⟨rfl, rfl, .inl ⟨y, wz, fun _ _ => rfl, by kernel_rfl, hW⟩⟩
        case o10 =>
          intro y D wz hDi hdep hclo hW
          exact .inl ⟨rfl, rfl, .inl ⟨y, wz, fun _ _ => rfl, by kernel_rfl, hW⟩⟩
        case o11 =>
          intro y D wz hDi hdep hclo hW
          exact .inl ⟨rfl, rfl, .inl ⟨y, wz, fun _ _ => rfl, by kernel_rfl, hW⟩⟩
        case o12 =>
          intro y D wz hDi hdep hclo hW
          have d19 : D 19 = false := by
            cases h : D 19 with
            | false => rfl
            | true => exact absurd (hclo 19 _ rfl h ⟨12, .phase⟩ (by simp) rfl) (by rw [hDi]; exact Bool.false_ne_true)
          have hW2 := hW
          simp only [d19, cond_false] at hW2
          exact .inl ⟨rfl, rfl, .inl ⟨y, wz, fun _ _ => rfl, x_load rfl rfl Try.underlying58 rfl (HP.cell hW2 0 rfl rfl), hW⟩⟩
        case o13 =>
          intro y D wz hDi hdep hclo hW
          exact .inl ⟨rfl, rfl, .inl ⟨y, wz, fun _ _ => rfl, by kernel_rfl, hW⟩⟩
        case o14 =>
          intro y D wz hDi hdep hclo hW
          exact .inl ⟨rfl, rfl, .inl ⟨y, wz, fun _ _ => rfl, x_add (Z := ((0 + 1 : Nat) : Int)) rfl rfl rfl (by omega) (by omega) (by omega), hW⟩⟩
        case o15 =>
          intro y D wz hDi hdep hclo hW
          exact .inl ⟨rfl, rfl, .inl ⟨y, wz, fun _ _ => rfl, x_sliceLA (0 + 1) rfl rfl rfl Try.underlying58 rfl (by omega) (row_cap (HP.get hW 1 rfl)).1 sz3 rfl rfl, hW⟩⟩
        case o16 =>
          intro y D wz hDi hdep hclo hW
          have d8 : D 8 = true := hdep ⟨8, .data⟩ (by simp) rfl
          have d1 : D 1 = true := hclo 8 _ rfl d8 ⟨1, .data⟩ (by simp) rfl
          have d19 : D 19 = false := by
            cases h : D 19 with
            | false => rfl
            | true => exact absurd (hclo 19 _ rfl h ⟨16, .data⟩ (by simp) rfl) (by rw [hDi]; exact Bool.false_ne_true)
          simp only [hDi, d1, d8, d19, cond_true, cond_false] at hW
          have hsrc : ∀ q u, (iL (xs.drop (0 + 1)))[q]? = some u → wz.cell? ((sl g (0 + 1) cp).add q) = some u := fun q u hu => by
            have hq : (iL xs)[0 + 1 + q]? = some u := by rw [iL, List.map_drop, List.getElem?_drop] at hu; exact hu
            have hql : 0 + 1 + q < xs.length := by have := (List.getElem?_eq_some_iff.1 hq).1; simpa [iL] using this
            have hcp := (row_cap (HP.get hW 1 rfl)).1
            rw [sl_add (show ¬ cp = 0 + 1 by omega)]
            exact row_cell (HP.get hW 1 rfl) hq
          obtain ⟨pv1, cp1, w2, hr2, hH2⟩ := appI hW 2 (ys := xs.drop (0 + 1)) (m := xs.length - (0 + 1)) (cm := cp - (0 + 1)) (sl g (0 + 1) cp) 58 rfl (by simp) hsrc (by omega)
          have hll : 0 + (xs.length - (0 + 1)) = xs.length - 1 := by omega
          rw [hll] at hr2 hH2
          refine .inl ⟨rfl, rfl, .inl ⟨(y.1, y.2.1, (pv1, cp1)), w2, fun j hj => ?_, x_append rfl rfl rfl hr2, ?_⟩⟩
          · match j, hj with
            | 0, hj => rfl
            | 1, hj => rfl
            | 2, hj => rfl
            | 3, hj => rfl
            | 4, hj => rfl
            | 5, hj => rfl
            | 6, hj => rfl
            | 7, hj => rfl
            | 8, hj => rfl
            | 9, hj => rfl
            | 10, hj => rfl
            | 11, hj => rfl
            | 12, hj => rfl
            | 13, hj => rfl
            | 14, hj => rfl
            | 15, hj => rfl
            | 16, hj => rw [hDi] at hj; cases hj
            | 17, hj => rfl
            | 18, hj => rfl
            | 19, hj => rfl
            | j + 20, _ => rfl
          · show HP (Out (RB l R (some ⟨g, 0, none⟩) cp xs)) w _ ([(bif D 19 then Ent.cel l #[(.slice pv1 (xs.length - 1) cp1), vI R] 93 else Ent.cel l #[.slice (some ⟨g, 0, none⟩) xs.length cp, vI R] 93), .own (.slice (some ⟨g, 0, none⟩) xs.length cp) xs.length (iL xs) 3 1] ++ (bif D 1 then [Ent.own (.slice pv1 (xs.length - 1) cp1) (xs.length - 1) (iL (del xs (0))) 3 1] else []))
            simp only [d1, d19, cond_true, cond_false]
            exact hH2
        case o17 =>
          intro y D wz hDi hdep hclo hW
          exact .inl ⟨rfl, rfl, .inl ⟨y, wz, fun _ _ => rfl, by kernel_rfl, hW⟩⟩
        case o18 =>
          intro y D wz hDi hdep hclo hW
          exact .inl ⟨rfl, rfl, .inl ⟨y, wz, fun _ _ => rfl, by kernel_rfl, hW⟩⟩
        case o19 =>
          intro y D wz hDi hdep hclo hW
          have d16 : D 16 = true := hdep ⟨16, .data⟩ (by simp) rfl
          have d8 : D 8 = true := hclo 16 _ rfl d16 ⟨8, .data⟩ (by simp) rfl
          have d1 : D 1 = true := hclo 8 _ rfl d8 ⟨1, .data⟩ (by simp) rfl
          simp only [hDi, d1, d16, cond_true, cond_false] at hW
          have h4 := HP.set (off := 0) (v := (.slice y.2.2.1 (xs.length - 1) y.2.2.2)) hW 0 rfl
          refine .inl ⟨rfl, rfl, .inr (.inl ⟨_, x_store rfl rfl rfl sz58 rfl (HP.cell hW 0 rfl rfl) (HP.free hW 0 rfl), rfl, ?_⟩)⟩
          show HP (Out (RB l R (some ⟨g, 0, none⟩) cp xs)) w _ ([Ent.cel l #[(.slice y.2.2.1 (xs.length - 1) y.2.2.2), vI R] 93, .own (.slice (some ⟨g, 0, none⟩) xs.length cp) xs.length (iL xs) 3 1] ++ (bif D 1 then [(bif D 16 then Ent.own (.slice y.2.2.1 (xs.length - 1) y.2.2.2) (xs.length - 1) (iL (del xs (0))) 3 1 else (bif D 8 then Ent.own (.slice y.2.1.1 (0) y.2.1.2) (0) (iL (xs.take (0))) 3 1 else Ent.own (.slice (some ⟨y.1, 0, none⟩) 0 0) 0 (iL []) 3 1))] else []))
          simp only [d1, d16, cond_true]
          exact h4
      rintro ⟨nb, ⟨pv1, cp1⟩, pv2, cp2⟩ D w9 hall hW
      simp only [hall 1 (by kernel_rfl), hall 16 (by kernel_rfl), hall 19 (by kernel_rfl), cond_true] at hW
      clear hall
      refine WQ.sub (l' := [(0, vP l 0), (1, .bool fr), (4, vI 0), (5, vI 0), (6, vI 0), (7, vI (xs.getD (0) 0)), (16, .bool false), (22, .bool false), (29, .bool fr)]) ⟨rfl, rfl, rfl, rfl, rfl, rfl, rfl, rfl, rfl, trivial⟩ ?_
      have hH12 : HP (Out (RB l R (some ⟨g, 0, none⟩) cp xs)) w _ [.cel l #[(.slice pv2 (xs.length - 1) cp2), vI R] 93, .own (.slice (some ⟨g, 0, none⟩) xs.length cp) xs.length (iL xs) 3 1, .own (.slice pv2 (xs.length - 1) cp2) (xs.length - 1) (iL (del xs (0))) 3 1] := hW
      refine WQ.then ?_
      refine hK11 _ _ _ ?_
      refine WC.seq fun K13 hK13 => ?_
      refine WC.region ?_
      refine WL.pure (v := vI (xs.getD (0) 0)) 56 rfl (Nat.le_of_ble_eq_true rfl) rfl rfl (by kernel_rfl) ?_
      refine WL.pure (v := vI (xs.getD (0) 0)) 4 rfl (Nat.le_of_ble_eq_true rfl) rfl rfl (by kernel_rfl) ?_
      refine WL.pure (v := vI 0) 5 rfl (Nat.le_of_ble_eq_true rfl) rfl rfl (by kernel_rfl) ?_
      refine WL.nil ?_
      refine WQ.then ?_
      refine hK13 _ _ _ ?_
      refine WC.ret ?_
      refine WQ.ret2 4 5 rfl rfl rfl ?_
      have q := pp_ok (a := 0) hz (show ppA xs fr = 0 by unfold ppA; rw [hfr]; rfl)
      have ql := len_del (xs := xs) (i := 0) (by omega)
      refine ⟨pv2, cp2, by rw [q.1, q.2.1], ?_⟩
      rw [q.2.2]
      exact HP.eq (HP.drop hH12 1) (by unfold RB; rw [ql] <;> rfl)
    ·
      refine WC.no (congrArg (fun b => some (Value.bool b)) hfr) ?_
      refine WC.skip ?_
      refine WQ.then ?_
      refine hK8 _ _ _ ?_
      refine WC.seq fun K14 hK14 => ?_
      obtain ⟨g, hg, hrow⟩ := row_open (HP.get (HP.startB hB) 1 rfl) (show 0 < xs.length by omega)
      subst hg
      refine WC.region ?_
      refine WL.pure (v := vP l 0) 30 rfl (Nat.le_of_ble_eq_true rfl) rfl rfl (by kernel_rfl) ?_
      refine WL.pure (v := vP l 0) 31 rfl (Nat.le_of_ble_eq_true rfl) rfl rfl (by kernel_rfl) ?_
      refine WL.pure (v := vP l 0) 32 rfl (Nat.le_of_ble_eq_true rfl) rfl rfl (by kernel_rfl) ?_
      refine WL.pure (v := vS g xs.length cp) 33 rfl (Nat.le_of_ble_eq_true rfl) rfl rfl (x_load rfl rfl Try.underlying58 rfl (HP.cell (HP.startB hB) 0 rfl rfl)) ?_
      refine WL.pure (v := vI ((xs.length - 1 : Nat) : Int)) 34 rfl (Nat.le_of_ble_eq_true rfl) rfl rfl (by kernel_rfl) ?_
      refine WL.pure (v := vP g (xs.length - 1)) 35 rfl (Nat.le_of_ble_eq_true rfl) rfl rfl (x_idx (xs.length - 1) (xs.length - 1) rfl rfl rfl Try.underlying58 sz3 (by omega) (by omega) (by omega)) ?_
      refine WL.pure (v := vI (xs.getD (xs.length - 1) 0)) 36 rfl (Nat.le_of_ble_eq_true rfl) rfl rfl (x_load rfl rfl Try.underlying3 rfl (hrow (xs.length - 1) (by omega))) ?_
      refine WL.pure (v := vI (xs.getD (xs.length - 1) 0)) 7 rfl (Nat.le_of_ble_eq_true rfl) rfl rfl (by kernel_rfl) ?_
      refine WL.nil ?_
      refine WQ.then ?_
      refine hK14 _ _ _ ?_
      refine WC.sub (l' := [(0, vP l 0), (1, .bool fr), (4, vI 0), (5, vI 0), (6, vI ((xs.length - 1 : Nat) : Int)), (7, vI (xs.getD (xs.length - 1) 0)), (16, .bool false), (22, .bool false), (29, .bool fr)]) ⟨rfl, rfl, rfl, rfl, rfl, rfl, rfl, rfl, rfl, trivial⟩ ?_
      refine WC.seq fun K15 hK15 => ?_
      refine WC.confG (γ := Nat × ((Option Addr × Nat) × (Option Addr × Nat))) [(0, vP l 0), (1, .bool fr), (4, vI 0), (5, vI 0), (6, vI ((xs.length - 1 : Nat) : Int)), (7, vI (xs.getD (xs.length - 1) 0)), (16, .bool false), (22, .bool false), (29, .bool fr)] (fun y => [vP l 0, vS y.1 0 0, vP l 0, vP l 0, vP l 0, (.slice (some ⟨g, 0, none⟩) xs.length cp), vI ((xs.length - 1 : Nat) : Int), (.slice (some ⟨g, 0, none⟩) (xs.length - 1) cp), (.slice y.2.1.1 (xs.length - 1) y.2.1.2), vP l 0, vP l 0, vP l 0, (.slice (some ⟨g, 0, none⟩) xs.length cp), vI ((xs.length - 1 : Nat) : Int), vI (((xs.length - 1) + 1 : Nat) : Int), (.slice (some (sl g ((xs.length - 1) + 1) cp)) (xs.length - ((xs.length - 1) + 1)) (cp - ((xs.length - 1) + 1))), (.slice y.2.2.1 (xs.length - 1) y.2.2.2), vP l 0, vP l 0, undef]) (fun y D wz => HP (Out (RB l R (some ⟨g, 0, none⟩) cp xs)) w wz ([(bif D 19 then Ent.cel l #[(.slice y.2.2.1 (xs.length - 1) y.2.2.2), vI R] 93 else Ent.cel l #[.slice (some ⟨g, 0, none⟩) xs.length cp, vI R] 93), .own (.slice (some ⟨g, 0, none⟩) xs.length cp) xs.length (iL xs) 3 1] ++ (bif D 1 then [(bif D 16 then Ent.own (.slice y.2.2.1 (xs.length - 1) y.2.2.2) (xs.length - 1) (iL (del xs (xs.length - 1))) 3 1 else (bif D 8 then Ent.own (.slice y.2.1.1 (xs.length - 1) y.2.1.2) (xs.length - 1) (iL (xs.take (xs.length - 1))) 3 1 else Ent.own (.slice (some ⟨y.1, 0, none⟩) 0 0) 0 (iL []) 3 1))] else []))) (0, (none, 0), (none, 0)) (by kernel_rfl) ⟨rfl, rfl, rfl, rfl, rfl, rfl, rfl, rfl, rfl, trivial⟩ (by kernel_rfl) (by kernel_rfl) (by kernel_rfl) (fun _ => rfl) (by kernel_rfl) (HP.drew (HP.startB hB)) ?_ ?_
      · refine AllOk.cons ?o0 (AllOk.cons ?o1 (AllOk.cons ?o2 (AllOk.cons ?o3 (AllOk.cons ?o4 (AllOk.cons ?o5 (AllOk.cons ?o6 (AllOk.cons ?o7 (AllOk.cons ?o8 (AllOk.cons ?o9 (AllOk.cons ?o10 (AllOk.cons ?o11 (AllOk.cons ?o12 (AllOk.cons ?o13 (AllOk.cons ?o14 (AllOk.cons ?o15 (AllOk.cons ?o16 (AllOk.cons ?o17 (AllOk.cons ?o18 (AllOk.cons ?o19 (AllOk.nil _))))))))))))))))))))
        case o0 =>
          intro y D wz hDi hdep hclo hW
          exact .inl ⟨rfl, rfl, .inl ⟨y, wz, fun _ _ => rfl, by kernel_rfl, hW⟩⟩
        case o1 =>
          intro y D wz hDi hdep hclo hW
          have d8 : D 8 = false := by
            cases h : D 8 with
            | false => rfl
            | true => exact absurd (hclo 8 _ rfl h ⟨1, .data⟩ (by simp) rfl) (by rw [hDi]; exact Bool.false_ne_true)
          have d16 : D 16 = false := by
            cases h : D 16 with
            | false => rfl
            | true => exact absurd (hclo 16 _ rfl h ⟨8, .data⟩ (by simp) rfl) (by rw [d8]; exact Bool.false_ne_true)
          have d19 : D 19 = false := by
            cases h : D 19 with
            | false => rfl
            | true => exact absurd (hclo 19 _ rfl h ⟨16, .data⟩ (by simp) rfl) (by rw [d16]; exact Bool.false_ne_true)
          simp only [hDi, d8, d16, d19, cond_false] at hW
          refine .inl ⟨rfl, rfl, .inl ⟨(wz.heap.size, y.2), wz.alloc (.cells #[] 3), fun j hj => ?_, by kernel_rfl, ?_⟩⟩
          · match j, hj with
            | 0, hj => rfl
            | 1, hj => rw [hDi] at hj; cases hj
            | 2, hj => rfl
            | 3, hj => rfl
            | 4, hj => rfl
            | 5, hj => rfl
            | 6, hj => rfl
            | 7, hj => rfl
            | 8, hj => rfl
            | 9, hj => rfl
            | 10, hj => rfl
            | 11, hj => rfl
            | 12, hj => rfl
            | 13, hj => rfl
            | 14, hj => rfl
            | 15, hj => rfl
            | 16, hj => rfl
            | 17, hj => rfl
            | 18, hj => rfl
            | 19, hj => rfl
            | j + 20, _ => rfl
          · have h4 := HP.alloc hW #[] 3
            have h5 := HP.setSame h4 2 (e' := row (some ⟨wz.heap.size, 0, none⟩) 0 0 []) rfl (lit0 (HP.get h4 2 rfl)) rfl
            show HP (Out (RB l R (some ⟨g, 0, none⟩) cp xs)) w _ ([(bif D 19 then Ent.cel l #[(.slice y.2.2.1 (xs.length - 1) y.2.2.2), vI R] 93 else Ent.cel l #[.slice (some ⟨g, 0, none⟩) xs.length cp, vI R] 93), .own (.slice (some ⟨g, 0, none⟩) xs.length cp) xs.length (iL xs) 3 1] ++ [(bif D 16 then Ent.own (.slice y.2.2.1 (xs.length - 1) y.2.2.2) (xs.length - 1) (iL (del xs (xs.length - 1))) 3 1 else (bif D 8 then Ent.own (.slice y.2.1.1 (xs.length - 1) y.2.1.2) (xs.length - 1) (iL (xs.take (xs.length - 1))) 3 1 else Ent.own (.slice (some ⟨wz.heap.size, 0, none⟩) 0 0) 0 (iL []) 3 1))])
            simp only [d8, d16, d19, cond_false]
            exact h5
        case o2 =>
          intro y D wz hDi hdep hclo hW
          exact .inl ⟨rfl, rfl, .inl ⟨y, wz, fun _ _ => rfl, by kernel_rfl, hW⟩⟩
        case o3 =>
          intro y D wz hDi hdep hclo hW
          exact .inl ⟨rfl, rfl, .inl ⟨y, wz, fun _ _ => rfl, by kernel_rfl, hW⟩⟩
        case o4 =>
          intro y D wz hDi hdep hclo hW
          exact .inl ⟨rfl, rfl, .inl ⟨y, wz, fun _ _ => rfl, by kernel_rfl, hW⟩⟩
        case o5 =>
          intro y D wz hDi hdep hclo hW
          have d19 : D 19 = false := by
            cases h : D 19 with
            | false => rfl
            | true => exact absurd (hclo 19 _ rfl h ⟨5, .phase⟩ (by simp) rfl) (by rw [hDi]; exact Bool.false_ne_true)
          have hW2 := hW
          simp only [d19, cond_false] at hW2
          exact .inl ⟨rfl, rfl, .inl ⟨y, wz, fun _ _ => rfl, x_load rfl rfl Try.underlying58 rfl (HP.cell hW2 0 rfl rfl), hW⟩⟩
        case o6 =>
          intro y D wz hDi hdep hclo hW
          exact .inl ⟨rfl, rfl, .inl ⟨y, wz, fun _ _ => rfl, by kernel_rfl, hW⟩⟩
        case o7 =>
          intro y D wz hDi hdep hclo hW
          exact .inl ⟨rfl, rfl, .inl ⟨y, wz, fun _ _ => rfl, x_sliceH (xs.length - 1) rfl rfl rfl Try.underlying58 rfl (by have := (row_cap (HP.get hW 1 rfl)).1; omega) sz3, hW⟩⟩
        case o8 =>
          intro y D wz hDi hdep hclo hW
          have d1 : D 1 = true := hdep ⟨1, .data⟩ (by simp) rfl
          have d16 : D 16 = false := by
            cases h : D 16 with
            | false => rfl
            | true => exact absurd (hclo 16 _ rfl h ⟨8, .data⟩ (by simp) rfl) (by rw [hDi]; exact Bool.false_ne_true)
          have d19 : D 19 = false := by
            cases h : D 19 with
            | false => rfl
            | true => exact absurd (hclo 19 _ rfl h ⟨16, .data⟩ (by simp) rfl) (by rw [d16]; exact Bool.false_ne_true)
          simp only [hDi, d1, d16, d19, cond_true, cond_false] at hW
          have hsrc : ∀ q u, (iL (xs.take (xs.length - 1)))[q]? = some u → wz.cell? ((⟨g, 0, none⟩ : Addr).add q) = some u := fun q u hu => by
            have hq : (iL xs)[q]? = some u := by rw [iL, List.map_take] at hu; exact take_get rfl hu
            rw [show (⟨g, 0, none⟩ : Addr).add q = ⟨g, q, none⟩ by unfold Addr.add; split <;> simp_all]
            exact row_cell (HP.get hW 1 rfl) hq
          have hyl : (xs.take (xs.length - 1)).length = xs.length - 1 := by simp
          obtain ⟨pv1, cp1, w2, hr2, hH2⟩ := appI hW 2 (ys := xs.take (xs.length - 1)) (m := xs.length - 1) (cm := cp) ⟨g, 0, none⟩ 58 rfl hyl hsrc (by omega)
          rw [List.nil_append, Nat.zero_add] at hH2
          rw [Nat.zero_add] at hr2
          refine .inl ⟨rfl, rfl, .inl ⟨(y.1, (pv1, cp1), y.2.2), w2, fun j hj => ?_, x_append rfl rfl rfl hr2, ?_⟩⟩
          · match j, hj with
            | 0, hj => rfl
            | 1, hj => rfl
            | 2, hj => rfl
            | 3, hj => rfl
            | 4, hj => rfl
            | 5, hj => rfl
            | 6, hj => rfl
            | 7, hj => rfl
            | 8, hj => rw [hDi] at hj; cases hj
            | 9, hj => rfl
            | 10, hj => rfl
            | 11, hj => rfl
            | 12, hj => rfl
            | 13, hj => rfl
            | 14, hj => rfl
            | 15, hj => rfl
            | 16, hj => rfl
            | 17, hj => rfl
            | 18, hj => rfl
            | 19, hj => rfl
            | j + 20, _ => rfl
          · show HP (Out (RB l R (some ⟨g, 0, none⟩) cp xs)) w _ ([(bif D 19 then Ent.cel l #[(.slice y.2.2.1 (xs.length - 1) y.2.2.2), vI R] 93 else Ent.cel l #[.slice (some ⟨g, 0, none⟩) xs.length cp, vI R] 93), .own (.slice (some ⟨g, 0, none⟩) xs.length cp) xs.length (iL xs) 3 1] ++ (bif D 1 then [(bif D 16 then Ent.own (.slice y.2.2.1 (xs.length - 1) y.2.2.2) (xs.length - 1) (iL (del xs (xs.length - 1))) 3 1 else Ent.own (.slice pv1 (xs.length - 1) cp1) (xs.length - 1) (iL (xs.take (xs.length - 1))) 3 1)] else []))
            simp only [d1, d16, d19, cond_true, cond_false]
            exact hH2
        case o9 =>
          intro y D wz hDi hdep hclo hW
          exact .inl ⟨rfl, rfl, .inl ⟨y, wz, fun _ _ => rfl, by kernel_rfl, hW⟩⟩
        case o10 =>
          intro y D wz hDi hdep hclo hW
          exact .inl ⟨rfl, rfl, .inl ⟨y, wz, fun _ _ => rfl, by kernel_rfl, hW⟩⟩
        case o11 =>
          intro y D wz hDi hdep hclo hW
          exact .inl ⟨rfl, rfl, .inl ⟨y, wz, fun _ _ => rfl, by kernel_rfl, hW⟩⟩
        case o12 =>
          intro y D wz hDi hdep hclo hW
          have d19 : D 19 = false := by
            cases h : D 19 with
            | false => rfl
            | true => exact absurd (hclo 19 _ rfl h ⟨12, .phase⟩ (by simp) rfl) (by rw [hDi]; exact Bool.false_ne_true)
          have hW2 := hW
          simp only [d19, cond_false] at hW2
          exact .inl ⟨rfl, rfl, .inl ⟨y, wz, fun _ _ => rfl, x_load rfl rfl Try.underlying58 rfl (HP.cell hW2 0 rfl rfl), hW⟩⟩
        case o13 =>
          intro y D wz hDi hdep hclo hW
          exact .inl ⟨rfl, rfl, .inl ⟨y, wz, fun _ _ => rfl, by kernel_rfl, hW⟩⟩
        case o14 =>
          intro y D wz hDi hdep hclo hW
          exact .inl ⟨rfl, rfl, .inl ⟨y, wz, fun _ _ => rfl, x_add (Z := (((xs.length - 1) + 1 : Nat) : Int)) rfl rfl rfl (by omega) (by omega) (by omega), hW⟩⟩
        case o15 =>
          intro y D wz hDi hdep hclo hW
          exact .inl ⟨rfl, rfl, .inl ⟨y, wz, fun _ _ => rfl, x_sliceLA ((xs.length - 1) + 1) rfl rfl rfl Try.underlying58 rfl (by omega) (row_cap (HP.get hW 1 rfl)).1 sz3 rfl rfl, hW⟩⟩
        case o16 =>
          intro y D wz hDi hdep hclo hW
          have d8 : D 8 = true := hdep ⟨8, .data⟩ (by simp) rfl
          have d1 : D 1 = true := hclo 8 _ rfl d8 ⟨1, .data⟩ (by simp) rfl
          have d19 : D 19 = false := by
            cases h : D 19 with
            | false => rfl
            | true => exact absurd (hclo 19 _ rfl h ⟨16, .data⟩ (by simp) rfl) (by rw [hDi]; exact Bool.false_ne_true)
          simp only [hDi, d1, d8, d19, cond_true, cond_false] at hW
          have hsrc : ∀ q u, (iL (xs.drop ((xs.length - 1) + 1)))[q]? = some u → wz.cell? ((sl g ((xs.length - 1) + 1) cp).add q) = some u := fun q u hu => by
            have hq : (iL xs)[(xs.length - 1) + 1 + q]? = some u := by rw [iL, List.map_drop, List.getElem?_drop] at hu; exact hu
            have hql : (xs.length - 1) + 1 + q < xs.length := by have := (List.getElem?_eq_some_iff.1 hq).1; simpa [iL] using this
            have hcp := (row_cap (HP.get hW 1 rfl)).1
            rw [sl_add (show ¬ cp = (xs.length - 1) + 1 by omega)]
            exact row_cell (HP.get hW 1 rfl) hq
          obtain ⟨pv1, cp1, w2, hr2, hH2⟩ := appI hW 2 (ys := xs.drop ((xs.length - 1) + 1)) (m := xs.length - ((xs.length - 1) + 1)) (cm := cp - ((xs.length - 1) + 1)) (sl g ((xs.length - 1) + 1) cp) 58 rfl (by simp) hsrc (by omega)
          have hll : (xs.length - 1) + (xs.length - ((xs.length - 1) + 1)) = xs.length - 1 := by omega
          rw [hll] at hr2 hH2
          refine .inl ⟨rfl, rfl, .inl ⟨(y.1, y.2.1, (pv1, cp1)), w2, fun j hj => ?_, x_append rfl rfl rfl hr2, ?_⟩⟩
          · match j, hj with
            | 0, hj => rfl
            | 1, hj => rfl
            | 2, hj => rfl
            | 3, hj => rfl
            | 4, hj => rfl
            | 5, hj => rfl
            | 6, hj => rfl
            | 7, hj => rfl
            | 8, hj => rfl
            | 9, hj => rfl
            | 10, hj => rfl
            | 11, hj => rfl
            | 12, hj => rfl
            | 13, hj => rfl
            | 14, hj => rfl
            | 15, hj => rfl
            | 16, hj => rw [hDi] at hj; cases hj
            | 17, hj => rfl
            | 18, hj => rfl
            | 19, hj => rfl
            | j + 20, _ => rfl
          · show HP (Out (RB l R (some ⟨g, 0, none⟩) cp xs)) w _ ([(bif D 19 then Ent.cel l #[(.slice pv1 (xs.length - 1) cp1), vI R] 93 else Ent.cel l #[.slice (some ⟨g, 0, none⟩) xs.length cp, vI R] 93), .own (.slice (some ⟨g, 0, none⟩) xs.length cp) xs.length (iL xs) 3 1] ++ (bif D 1 then [Ent.own (.slice pv1 (xs.length - 1) cp1) (xs.length - 1) (iL (del xs (xs.length - 1))) 3 1] else []))
            simp only [d1, d19, cond_true, cond_false]
            exact hH2
        case o17 =>
          intro y D wz hDi hdep hclo hW
          exact .inl ⟨rfl, rfl, .inl ⟨y, wz, fun _ _ => rfl, by kernel_rfl, hW⟩⟩
        case o18 =>
          intro y D wz hDi hdep hclo hW
          exact .inl ⟨rfl, rfl, .inl ⟨y, wz, fun _ _ => rfl, by kernel_rfl, hW⟩⟩
        case o19 =>
          intro y D wz hDi hdep hclo hW
          have d16 : D 16 = true := hdep ⟨16, .data⟩ (by simp) rfl
          have d8 : D 8 = true := hclo 16 _ rfl d16 ⟨8, .data⟩ (by simp) rfl
          have d1 : D 1 = true := hclo 8 _ rfl d8 ⟨1, .data⟩ (by simp) rfl
          simp only [hDi, d1, d16, cond_true, cond_false] at hW
          have h4 := HP.set (off := 0) (v := (.slice y.2.2.1 (xs.length - 1) y.2.2.2)) hW 0 rfl
          refine .inl ⟨rfl, rfl, .inr (.inl ⟨_, x_store rfl rfl rfl sz58 rfl (HP.cell hW 0 rfl rfl) (HP.free hW 0 rfl), rfl, ?_⟩)⟩
          show HP (Out (RB l R (some ⟨g, 0, none⟩) cp xs)) w _ ([Ent.cel l #[(.slice y.2.2.1 (xs.length - 1) y.2.2.2), vI R] 93, .own (.slice (some ⟨g, 0, none⟩) xs.length cp) xs.length (iL xs) 3 1] ++ (bif D 1 then [(bif D 16 then Ent.own (.slice y.2.2.1 (xs.length - 1) y.2.2.2) (xs.length - 1) (iL (del xs (xs.length - 1))) 3 1 else (bif D 8 then Ent.own (.slice y.2.1.1 (xs.length - 1) y.2.1.2) (xs.length - 1) (iL (xs.take (xs.length - 1))) 3 1 else Ent.own (.slice (some ⟨y.1, 0, none⟩) 0 0) 0 (iL []) 3 1))] else []))
          simp only [d1, d16, cond_true]
          exact h4
      rintro ⟨nb, ⟨pv1, cp1⟩, pv2, cp2⟩ D w9 hall hW
      simp only [hall 1 (by kernel_rfl), hall 16 (by kernel_rfl), hall 19 (by kernel_rfl), cond_true] at hW
      clear hall
      refine WQ.sub (l' := [(0, vP l 0), (1, .bool fr), (4, vI 0), (5, vI 0), (6, vI ((xs.length - 1 : Nat) : Int)), (7, vI (xs.getD (xs.length - 1) 0)), (16, .bool false), (22, .bool false), (29, .bool fr)]) ⟨rfl, rfl, rfl, rfl, rfl, rfl, rfl, rfl, rfl, trivial⟩ ?_
      have hH16 : HP (Out (RB l R (some ⟨g, 0, none⟩) cp xs)) w _ [.cel l #[(.slice pv2 (xs.length - 1) cp2), vI R] 93, .own (.slice (some ⟨g, 0, none⟩) xs.length cp) xs.length (iL xs) 3 1, .own (.slice pv2 (xs.length - 1) cp2) (xs.length - 1) (iL (del xs (xs.length - 1))) 3 1] := hW
      refine WQ.then ?_
      refine hK15 _ _ _ ?_
      refine WC.seq fun K17 hK17 => ?_
      refine WC.region ?_
      refine WL.pure (v := vI (xs.getD (xs.length - 1) 0)) 56 rfl (Nat.le_of_ble_eq_true rfl) rfl rfl (by kernel_rfl) ?_
      refine WL.pure (v := vI (xs.getD (xs.length - 1) 0)) 4 rfl (Nat.le_of_ble_eq_true rfl) rfl rfl (by kernel_rfl) ?_
      refine WL.pure (v := vI 0) 5 rfl (Nat.le_of_ble_eq_true rfl) rfl rfl (by kernel_rfl) ?_
      refine WL.nil ?_
      refine WQ.then ?_
      refine hK17 _ _ _ ?_
      refine WC.ret ?_
      refine WQ.ret2 4 5 rfl rfl rfl ?_
      have q := pp_ok (a := xs.length - 1) hz (show ppA xs fr = xs.length - 1 by unfold ppA; rw [hfr]; rfl)
      have ql := len_del (xs := xs) (i := xs.length - 1) (by omega)
      refine ⟨pv2, cp2, by rw [q.1, q.2.1], ?_⟩
      rw [q.2.2]
      exact HP.eq (HP.drop hH16 1) (by unfold RB; rw [ql] <;> rfl)
set_option maxRecDepth 20000 in
set_option maxHeartbeats 4000000 in
theorem At_any (l : Nat) (R : Int) (pv : Option Addr) (cp : Nat) (xs : List Int) (i : Int) (w : World) (hB : OwnB w (PB l R pv cp xs)) (hR : 1 ≤ R) (hn : xs.length ≤ 32) :
    Calls Try.prog 30 #[vP l 0, vI i] w fun e w' => e = .returned (.tuple #[vI (atV xs i), vI (atE xs i)]) ∧ Below w.heap.size w w' := by
  obtain ⟨hc, hs, hh⟩ := PB_cells hB
  refine calls_of Try.func30 rfl (m := 30) rfl [(0, vP l 0), (1, vI i)] (Fr_enter [vP l 0, vI i] 30 (Nat.le_of_ble_eq_true rfl)) ?_
  have hH1 : HP Tr w w [] := HP.refl w
  refine WC.seq fun K2 hK2 => ?_
  refine WC.region ?_
  refine WL.pure (v := vI 0) 4 rfl (Nat.le_of_ble_eq_true rfl) rfl rfl (by kernel_rfl) ?_
  refine WL.pure (v := vI 0) 5 rfl (Nat.le_of_ble_eq_true rfl) rfl rfl (by kernel_rfl) ?_
  refine WL.nil ?_
  refine WQ.then ?_
  refine hK2 _ _ _ ?_
  refine WC.seq fun K3 hK3 => ?_
  refine WC.block ?_
  refine WC.seq fun K4 hK4 => ?_
  refine WC.region ?_
  refine WL.pure (v := vP l 0) 7 rfl (Nat.le_of_ble_eq_true rfl) rfl rfl (by kernel_rfl) ?_
  refine WL.call (f := 59) (args := #[vP l 0]) 8 rfl (Nat.le_of_ble_eq_true rfl) rfl rfl (by kernel_rfl) ?_
  refine (lnone_any l R _ (HP.old hH1 trivial hc) hR).mono ?_
  rintro e w5 ⟨rfl, hb6⟩
  refine ⟨_, rfl, ?_⟩
  have hH7 : HP Tr w _ [] := HP.call hH1 hb6
  refine WL.pure (v := .bool false) 6 rfl (Nat.le_of_ble_eq_true rfl) rfl rfl (by kernel_rfl) ?_
  refine WL.nil ?_
  refine WQ.then ?_
  refine hK4 _ _ _ ?_
  refine WC.no rfl ?_
  refine WC.seq fun K8 hK8 => ?_
  refine WC.region ?_
  refine WL.pure (v := vI i) 10 rfl (Nat.le_of_ble_eq_true rfl) rfl rfl (by kernel_rfl) ?_
  by_cases h0 : i < 0
  ·
    refine WL.pure (v := .bool true) 11 rfl (Nat.le_of_ble_eq_true rfl) rfl rfl (x_lss rfl rfl rfl (dT (h0))) ?_
    refine WL.pure (v := .bool true) 12 rfl (Nat.le_of_ble_eq_true rfl) rfl rfl (by kernel_rfl) ?_
    refine WL.pass 13 rfl (Nat.le_of_ble_eq_true rfl) rfl ?_
    refine WL.pass 14 rfl (Nat.le_of_ble_eq_true rfl) rfl ?_
    refine WL.pass 15 rfl (Nat.le_of_ble_eq_true rfl) rfl ?_
    refine WL.pass 16 rfl (Nat.le_of_ble_eq_true rfl) rfl ?_
    refine WL.pass 17 rfl (Nat.le_of_ble_eq_true rfl) rfl ?_
    refine WL.pass 18 rfl (Nat.le_of_ble_eq_true rfl) rfl ?_
    refine WL.pass 19 rfl (Nat.le_of_ble_eq_true rfl) rfl ?_
    refine WL.pass 20 rfl (Nat.le_of_ble_eq_true rfl) rfl ?_
    refine WL.pure (v := .bool true) 21 rfl (Nat.le_of_ble_eq_true rfl) rfl rfl (by kernel_rfl) ?_
    refine WL.pure (v := .bool true) 9 rfl (Nat.le_of_ble_eq_true rfl) rfl rfl (by kernel_rfl) ?_
    refine WL.nil ?_
    refine WQ.then ?_
    refine hK8 _ _ _ ?_
    refine WC.sub (l' := [(0, vP l 0), (1, vI i), (4, vI 0), (5, vI 0), (6, .bool false), (9, .bool true)]) ⟨rfl, rfl, rfl, rfl, rfl, rfl, trivial⟩ ?_
    refine WC.yes rfl ?_
    refine WC.seq fun K9 hK9 => ?_
    refine WC.region ?_
    refine WL.pure (v := vI 0) 4 rfl (Nat.le_of_ble_eq_true rfl) rfl rfl (by kernel_rfl) ?_
    refine WL.pure (v := vI 3) 5 rfl (Nat.le_of_ble_eq_true rfl) rfl rfl (by kernel_rfl) ?_
    refine WL.nil ?_
    refine WQ.then ?_
    refine hK9 _ _ _ ?_
    refine WC.ret ?_
    refine WQ.inRet ?_
    refine WQ.thenRet ?_
    refine WQ.ret2 4 5 rfl rfl rfl ?_
    have q := at_out (xs := xs) (i := i) (by omega)
    exact ⟨by rw [q.1, q.2], HP.below hH7⟩
  ·
    refine WL.pure (v := .bool false) 11 rfl (Nat.le_of_ble_eq_true rfl) rfl rfl (x_lss rfl rfl rfl (dF (h0))) ?_
    refine WL.pure (v := .bool false) 12 rfl (Nat.le_of_ble_eq_true rfl) rfl rfl (by kernel_rfl) ?_
    refine WL.pure (v := vI i) 13 rfl (Nat.le_of_ble_eq_true rfl) rfl rfl (by kernel_rfl) ?_
    refine WL.pure (v := vP l 0) 14 rfl (Nat.le_of_ble_eq_true rfl) rfl rfl (by kernel_rfl) ?_
    refine WL.pure (v := vP l 0) 15 rfl (Nat.le_of_ble_eq_true rfl) rfl rfl (by kernel_rfl) ?_
    refine WL.pure (v := vP l 0) 16 rfl (Nat.le_of_ble_eq_true rfl) rfl rfl (by kernel_rfl) ?_
    refine WL.pure (v := vP l 1) 17 rfl (Nat.le_of_ble_eq_true rfl) rfl rfl (by kernel_rfl) ?_
    refine WL.pure (v := .slice pv xs.length cp) 18 rfl (Nat.le_of_ble_eq_true rfl) rfl rfl (x_load rfl rfl Try.underlying58 rfl (HP.old hH7 trivial hs)) ?_
    refine WL.pure (v := vI (xs.length : Int)) 19 rfl (Nat.le_of_ble_eq_true rfl) rfl rfl (by kernel_rfl) ?_
    by_cases h1 : (xs.length : Int) ≤ i
    ·
      refine WL.pure (v := .bool true) 20 rfl (Nat.le_of_ble_eq_true rfl) rfl rfl (x_geq rfl rfl rfl (dT (h1))) ?_
      refine WL.pure (v := .bool true) 21 rfl (Nat.le_of_ble_eq_true rfl) rfl rfl (by kernel_rfl) ?_
      refine WL.pure (v := .bool true) 9 rfl (Nat.le_of_ble_eq_true rfl) rfl rfl (by kernel_rfl) ?_
      refine WL.nil ?_
      refine WQ.then ?_
      refine hK8 _ _ _ ?_
      refine WC.sub (l' := [(0, vP l 0), (1, vI i), (4, vI 0), (5, vI 0), (6, .bool false), (9, .bool true)]) ⟨rfl, rfl, rfl, rfl, rfl, rfl, trivial⟩ ?_
      refine WC.yes rfl ?_
      refine WC.seq fun K10 hK10 => ?_
      refine WC.region ?_
      refine WL.pure (v := vI 0) 4 rfl (Nat.le_of_ble_eq_true rfl) rfl rfl (by kernel_rfl) ?_
      refine WL.pure (v := vI 3) 5 rfl (Nat.le_of_ble_eq_true rfl) rfl rfl (by kernel_rfl) ?_
      refine WL.nil ?_
      refine WQ.then ?_
      refine hK10 _ _ _ ?_
      refine WC.ret ?_
      refine WQ.inRet ?_
      refine WQ.thenRet ?_
      refine WQ.ret2 4 5 rfl rfl rfl ?_
      have q := at_out (xs := xs) (i := i) (by omega)
      exact ⟨by rw [q.1, q.2], HP.below hH7⟩
    ·
      refine WL.pure (v := .bool false) 20 rfl (Nat.le_of_ble_eq_true rfl) rfl rfl (x_geq rfl rfl rfl (dF (h1))) ?_
      refine WL.pure (v := .bool false) 21 rfl (Nat.le_of_ble_eq_true rfl) rfl rfl (by kernel_rfl) ?_
      refine WL.pure (v := .bool false) 9 rfl (Nat.le_of_ble_eq_true rfl) rfl rfl (by kernel_rfl) ?_
      refine WL.nil ?_
      refine WQ.then ?_
      refine hK8 _ _ _ ?_
      refine WC.sub (l' := [(0, vP l 0), (1, vI i), (4, vI 0), (5, vI 0), (6, .bool false), (9, .bool false)]) ⟨rfl, rfl, rfl, rfl, rfl, rfl, trivial⟩ ?_
      refine WC.no rfl ?_
      refine WC.skip ?_
      refine WQ.inNormal ?_
      refine WQ.then ?_
      refine hK3 _ _ _ ?_
      refine WC.seq fun K11 hK11 => ?_
      obtain ⟨k, rfl⟩ : ∃ k : Nat, i = (k : Int) := ⟨i.toNat, by omega⟩
      obtain ⟨g, hg, hrow⟩ := row_open hh (show 0 < xs.length by omega)
      subst hg
      refine WC.region ?_
      refine WL.pure (v := vP l 0) 22 rfl (Nat.le_of_ble_eq_true rfl) rfl rfl (by kernel_rfl) ?_
      refine WL.pure (v := vP l 0) 23 rfl (Nat.le_of_ble_eq_true rfl) rfl rfl (by kernel_rfl) ?_
      refine WL.pure (v := vP l 0) 24 rfl (Nat.le_of_ble_eq_true rfl) rfl rfl (by kernel_rfl) ?_
      refine WL.pure (v := vP l 1) 25 rfl (Nat.le_of_ble_eq_true rfl) rfl rfl (by kernel_rfl) ?_
      refine WL.pure (v := vS g xs.length cp) 26 rfl (Nat.le_of_ble_eq_true rfl) rfl rfl (x_load rfl rfl Try.underlying58 rfl (HP.old hH7 trivial hs)) ?_
      refine WL.pure (v := vI (k : Int)) 27 rfl (Nat.le_of_ble_eq_true rfl) rfl rfl (by kernel_rfl) ?_
      refine WL.pure (v := vP g k) 28 rfl (Nat.le_of_ble_eq_true rfl) rfl rfl (x_idx (k) (k) rfl rfl rfl Try.underlying58 sz3 (by omega) (by omega) (by omega)) ?_
      refine WL.pure (v := vI (xs.getD k 0)) 29 rfl (Nat.le_of_ble_eq_true rfl) rfl rfl (x_load rfl rfl Try.underlying3 rfl (HP.old hH7 trivial (hrow k (by omega)))) ?_
      refine WL.pure (v := vI (xs.getD k 0)) 4 rfl (Nat.le_of_ble_eq_true rfl) rfl rfl (by kernel_rfl) ?_
      refine WL.pure (v := vI 0) 5 rfl (Nat.le_of_ble_eq_true rfl) rfl rfl (by kernel_rfl) ?_
      refine WL.nil ?_
      refine WQ.then ?_
      refine hK11 _ _ _ ?_
      refine WC.sub (l' := [(0, vP l 0), (1, vI (k : Int)), (4, vI (xs.getD k 0)), (5, vI 0), (6, .bool false), (9, .bool false)]) ⟨rfl, rfl, rfl, rfl, rfl, rfl, trivial⟩ ?_
      refine WC.ret ?_
      refine WQ.ret2 4 5 rfl rfl rfl ?_
      have q := at_in (xs := xs) (k := k) (by omega)
      exact ⟨by rw [q.1, q.2], HP.below hH7⟩
set_option maxRecDepth 20000 in
set_option maxHeartbeats 4000000 in
theorem rAt_any (l : Nat) (R : Int) (pv : Option Addr) (cp : Nat) (xs : List Int) (i : Int) (w : World) (hB : OwnB w (RB l R pv cp xs)) (hR : 1 ≤ R) (hn : xs.length ≤ 32) :
    Calls Try.prog 31 #[vP l 0, vI i] w fun e w' => e = .returned (.tuple #[vI (atV xs i), vI (atE xs i)]) ∧ Below w.heap.size w w' := by
  obtain ⟨hc, hs, hh⟩ := RB_cells hB
  refine calls_of Try.func31 rfl (m := 33) rfl [(0, vP l 0), (1, vI i)] (Fr_enter [vP l 0, vI i] 33 (Nat.le_of_ble_eq_true rfl)) ?_
  have hH1 : HP Tr w w [] := HP.refl w
  refine WC.seq fun K2 hK2 => ?_
  refine WC.region ?_
  refine WL.pure (v := vI 0) 4 rfl (Nat.le_of_ble_eq_true rfl) rfl rfl (by kernel_rfl) ?_
  refine WL.pure (v := vI 0) 5 rfl (Nat.le_of_ble_eq_true rfl) rfl rfl (by kernel_rfl) ?_
  refine WL.nil ?_
  refine WQ.then ?_
  refine hK2 _ _ _ ?_
  refine WC.seq fun K3 hK3 => ?_
  refine WC.seq fun K4 hK4 => ?_
  refine WC.region ?_
  refine WL.pure (v := vP l 0) 6 rfl (Nat.le_of_ble_eq_true rfl) rfl rfl (by kernel_rfl) ?_
  refine WL.pure (v := .bool false) 7 rfl (Nat.le_of_ble_eq_true rfl) rfl rfl (by kernel_rfl) ?_
  refine WL.pure (v := .bool false) 8 rfl (Nat.le_of_ble_eq_true rfl) rfl rfl (by kernel_rfl) ?_
  refine WL.pure (v := vP l 0) 9 rfl (Nat.le_of_ble_eq_true rfl) rfl rfl (by kernel_rfl) ?_
  refine WL.pure (v := vP l 0) 10 rfl (Nat.le_of_ble_eq_true rfl) rfl rfl (by kernel_rfl) ?_
  refine WL.pure (v := vP l 1) 11 rfl (Nat.le_of_ble_eq_true rfl) rfl rfl (by kernel_rfl) ?_
  refine WL.pure (v := vI R) 12 rfl (Nat.le_of_ble_eq_true rfl) rfl rfl (x_load rfl rfl Try.underlying3 rfl (HP.old hH1 trivial hc)) ?_
  refine WL.pure (v := .bool false) 13 rfl (Nat.le_of_ble_eq_true rfl) rfl rfl (x_eql rfl rfl rfl (dF (by omega))) ?_
  refine WL.pure (v := .bool false) 14 rfl (Nat.le_of_ble_eq_true rfl) rfl rfl (by kernel_rfl) ?_
  refine WL.nil ?_
  refine WQ.then ?_
  refine hK4 _ _ _ ?_
  refine WC.sub (l' := [(0, vP l 0), (1, vI i), (4, vI 0), (5, vI 0), (14, .bool false)]) ⟨rfl, rfl, rfl, rfl, rfl, trivial⟩ ?_
  refine WC.no rfl ?_
  refine WC.skip ?_
  refine WQ.then ?_
  refine hK3 _ _ _ ?_
  refine WC.seq fun K5 hK5 => ?_
  refine WC.seq fun K6 hK6 => ?_
  refine WC.region ?_
  refine WL.pure (v := vI i) 15 rfl (Nat.le_of_ble_eq_true rfl) rfl rfl (by kernel_rfl) ?_
  by_cases h0 : i < 0
  ·
    refine WL.pure (v := .bool true) 16 rfl (Nat.le_of_ble_eq_true rfl) rfl rfl (x_lss rfl rfl rfl (dT (h0))) ?_
    refine WL.pure (v := .bool true) 17 rfl (Nat.le_of_ble_eq_true rfl) rfl rfl (by kernel_rfl) ?_
    refine WL.pass 18 rfl (Nat.le_of_ble_eq_true rfl) rfl ?_
    refine WL.pass 19 rfl (Nat.le_of_ble_eq_true rfl) rfl ?_
    refine WL.pass 20 rfl (Nat.le_of_ble_eq_true rfl) rfl ?_
    refine WL.pass 21 rfl (Nat.le_of_ble_eq_true rfl) rfl ?_
    refine WL.pass 22 rfl (Nat.le_of_ble_eq_true rfl) rfl ?_
    refine WL.pass 23 rfl (Nat.le_of_ble_eq_true rfl) rfl ?_
    refine WL.pass 24 rfl (Nat.le_of_ble_eq_true rfl) rfl ?_
    refine WL.pure (v := .bool true) 25 rfl (Nat.le_of_ble_eq_true rfl) rfl rfl (by kernel_rfl) ?_
    refine WL.nil ?_
    refine WQ.then ?_
    refine hK6 _ _ _ ?_
    refine WC.sub (l' := [(0, vP l 0), (1, vI i), (4, vI 0), (5, vI 0), (14, .bool false), (25, .bool true)]) ⟨rfl, rfl, rfl, rfl, rfl, rfl, trivial⟩ ?_
    refine WC.yes rfl ?_
    refine WC.seq fun K7 hK7 => ?_
    refine WC.region ?_
    refine WL.pure (v := vI 0) 4 rfl (Nat.le_of_ble_eq_true rfl) rfl rfl (by kernel_rfl) ?_
    refine WL.pure (v := vI 3) 5 rfl (Nat.le_of_ble_eq_true rfl) rfl rfl (by kernel_rfl) ?_
    refine WL.nil ?_
    refine WQ.then ?_
    refine hK7 _ _ _ ?_
    refine WC.ret ?_
    refine WQ.thenRet ?_
    refine WQ.ret2 4 5 rfl rfl rfl ?_
    have q := at_out (xs := xs) (i := i) (by omega)
    exact ⟨by rw [q.1, q.2], HP.below hH1⟩
  ·
    refine WL.pure (v := .bool false) 16 rfl (Nat.le_of_ble_eq_true rfl) rfl rfl (x_lss rfl rfl rfl (dF (h0))) ?_
    refine WL.pure (v := .bool false) 17 rfl (Nat.le_of_ble_eq_true rfl) rfl rfl (by kernel_rfl) ?_
    refine WL.pure (v := vI i) 18 rfl (Nat.le_of_ble_eq_true rfl) rfl rfl (by kernel_rfl) ?_
    refine WL.pure (v := vP l 0) 19 rfl (Nat.le_of_ble_eq_true rfl) rfl rfl (by kernel_rfl) ?_
    refine WL.pure (v := vP l 0) 20 rfl (Nat.le_of_ble_eq_true rfl) rfl rfl (by kernel_rfl) ?_
    refine WL.pure (v := vP l 0) 21 rfl (Nat.le_of_ble_eq_true rfl) rfl rfl (by kernel_rfl) ?_
    refine WL.pure (v := .slice pv xs.length cp) 22 rfl (Nat.le_of_ble_eq_true rfl) rfl rfl (x_load rfl rfl Try.underlying58 rfl (HP.old hH1 trivial hs)) ?_
    refine WL.pure (v := vI (xs.length : Int)) 23 rfl (Nat.le_of_ble_eq_true rfl) rfl rfl (by kernel_rfl) ?_
    by_cases h1 : (xs.length : Int) ≤ i
    ·
      refine WL.pure (v := .bool true) 24 rfl (Nat.le_of_ble_eq_true rfl) rfl rfl (x_geq rfl rfl rfl (dT (h1))) ?_
      refine WL.pure (v := .bool true) 25 rfl (Nat.le_of_ble_eq_true rfl) rfl rfl (by kernel_rfl) ?_
      refine WL.nil ?_
      refine WQ.then ?_
      refine hK6 _ _ _ ?_
      refine WC.sub (l' := [(0, vP l 0), (1, vI i), (4, vI 0), (5, vI 0), (14, .bool false), (25, .bool true)]) ⟨rfl, rfl, rfl, rfl, rfl, rfl, trivial⟩ ?_
      refine WC.yes rfl ?_
      refine WC.seq fun K8 hK8 => ?_
      refine WC.region ?_
      refine WL.pure (v := vI 0) 4 rfl (Nat.le_of_ble_eq_true rfl) rfl rfl (by kernel_rfl) ?_
      refine WL.pure (v := vI 3) 5 rfl (Nat.le_of_ble_eq_true rfl) rfl rfl (by kernel_rfl) ?_
      refine WL.nil ?_
      refine WQ.then ?_
      refine hK8 _ _ _ ?_
      refine WC.ret ?_
      refine WQ.thenRet ?_
      refine WQ.ret2 4 5 rfl rfl rfl ?_
      have q := at_out (xs := xs) (i := i) (by omega)
      exact ⟨by rw [q.1, q.2], HP.below hH1⟩
    ·
      refine WL.pure (v := .bool false) 24 rfl (Nat.le_of_ble_eq_true rfl) rfl rfl (x_geq rfl rfl rfl (dF (h1))) ?_
      refine WL.pure (v := .bool false) 25 rfl (Nat.le_of_ble_eq_true rfl) rfl rfl (by kernel_rfl) ?_
      refine WL.nil ?_
      refine WQ.then ?_
      refine hK6 _ _ _ ?_
      refine WC.sub (l' := [(0, vP l 0), (1, vI i), (4, vI 0), (5, vI 0), (14, .bool false), (25, .bool false)]) ⟨rfl, rfl, rfl, rfl, rfl, rfl, trivial⟩ ?_
      refine WC.no rfl ?_
      refine WC.skip ?_
      refine WQ.then ?_
      refine hK5 _ _ _ ?_
      refine WC.seq fun K9 hK9 => ?_
      obtain ⟨k, rfl⟩ : ∃ k : Nat, i = (k : Int) := ⟨i.toNat, by omega⟩
      obtain ⟨g, hg, hrow⟩ := row_open hh (show 0 < xs.length by omega)
      subst hg
      refine WC.region ?_
      refine WL.pure (v := vP l 0) 26 rfl (Nat.le_of_ble_eq_true rfl) rfl rfl (by kernel_rfl) ?_
      refine WL.pure (v := vP l 0) 27 rfl (Nat.le_of_ble_eq_true rfl) rfl rfl (by kernel_rfl) ?_
      refine WL.pure (v := vP l 0) 28 rfl (Nat.le_of_ble_eq_true rfl) rfl rfl (by kernel_rfl) ?_
      refine WL.pure (v := vS g xs.length cp) 29 rfl (Nat.le_of_ble_eq_true rfl) rfl rfl (x_load rfl rfl Try.underlying58 rfl (HP.old hH1 trivial hs)) ?_
      refine WL.pure (v := vI (k : Int)) 30 rfl (Nat.le_of_ble_eq_true rfl) rfl rfl (by kernel_rfl) ?_
      refine WL.pure (v := vP g k) 31 rfl (Nat.le_of_ble_eq_true rfl) rfl rfl (x_idx (k) (k) rfl rfl rfl Try.underlying58 sz3 (by omega) (by omega) (by omega)) ?_
      refine WL.pure (v := vI (xs.getD k 0)) 32 rfl (Nat.le_of_ble_eq_true rfl) rfl rfl (x_load rfl rfl Try.underlying3 rfl (HP.old hH1 trivial (hrow k (by omega)))) ?_
      refine WL.pure (v := vI (xs.getD k 0)) 4 rfl (Nat.le_of_ble_eq_true rfl) rfl rfl (by kernel_rfl) ?_
      refine WL.pure (v := vI 0) 5 rfl (Nat.le_of_ble_eq_true rfl) rfl rfl (by kernel_rfl) ?_
      refine WL.nil ?_
      refine WQ.then ?_
      refine hK9 _ _ _ ?_
      refine WC.sub (l' := [(0, vP l 0), (1, vI (k : Int)), (4, vI (xs.getD k 0)), (5, vI 0), (14, .bool false), (25, .bool false)]) ⟨rfl, rfl, rfl, rfl, rfl, rfl, trivial⟩ ?_
      refine WC.ret ?_
      refine WQ.ret2 4 5 rfl rfl rfl ?_
      have q := at_in (xs := xs) (k := k) (by omega)
      exact ⟨by rw [q.1, q.2], HP.below hH1⟩
set_option maxRecDepth 20000 in
set_option maxHeartbeats 4000000 in
theorem Clone_any (pv : Option Addr) (cp : Nat) (xs : List Int) (w : World) (hh : Ent.holds w (row pv xs.length cp xs)) (hn : xs.length ≤ 32) :
    Calls Try.prog 94 #[.slice pv xs.length cp] w (ItR w xs) := by
  refine calls_of Try.func94 rfl (m := 8) rfl [(0, .slice pv xs.length cp)] (Fr_enter [.slice pv xs.length cp] 8 (Nat.le_of_ble_eq_true rfl)) ?_
  have hH1 : HP Tr w w [] := HP.refl w
  refine WC.seq fun K2 hK2 => ?_
  refine WC.region ?_
  refine WL.pure (v := .slice none 0 0) 2 rfl (Nat.le_of_ble_eq_true rfl) rfl rfl (by kernel_rfl) ?_
  refine WL.nil ?_
  refine WQ.then ?_
  refine hK2 _ _ _ ?_
  refine WC.seq fun K3 hK3 => ?_
  refine WC.seq fun K4 hK4 => ?_
  refine WC.region ?_
  refine WL.pure (v := .slice pv xs.length cp) 3 rfl (Nat.le_of_ble_eq_true rfl) rfl rfl (by kernel_rfl) ?_
  cases hp : pv with
  | none =>
    subst hp
    refine WL.pure (v := .bool true) 4 rfl (Nat.le_of_ble_eq_true rfl) rfl rfl (x_eqlNil rfl rfl rfl Try.underlying58 (by kernel_rfl) rfl) ?_
    refine WL.nil ?_
    refine WQ.then ?_
    refine hK4 _ _ _ ?_
    refine WC.yes rfl ?_
    refine WC.seq fun K5 hK5 => ?_
    refine WC.region ?_
    refine WL.pure (v := .slice none 0 0) 2 rfl (Nat.le_of_ble_eq_true rfl) rfl rfl (by kernel_rfl) ?_
    refine WL.nil ?_
    refine WQ.then ?_
    refine hK5 _ _ _ ?_
    refine WC.ret ?_
    refine WQ.thenRet ?_
    refine WQ.ret1 2 rfl rfl ?_
    have h0 : xs.length = 0 := by
      rcases row_cases hh with ⟨_, q, _⟩ | ⟨g, cur, q, _⟩
      · exact q
      · cases q
    obtain rfl : xs = [] := List.length_eq_zero_iff.1 h0
    exact ⟨none, 0, rfl, HP.ownNil hH1 3 1⟩
  | some a =>
    subst hp
    refine WL.pure (v := .bool false) 4 rfl (Nat.le_of_ble_eq_true rfl) rfl rfl (x_eqlNil rfl rfl rfl Try.underlying58 (by kernel_rfl) rfl) ?_
    refine WL.nil ?_
    refine WQ.then ?_
    refine hK4 _ _ _ ?_
    refine WC.no rfl ?_
    refine WC.skip ?_
    refine WQ.then ?_
    refine hK3 _ _ _ ?_
    refine WC.seq fun K6 hK6 => ?_
    refine WC.region ?_
    refine WL.alloc (c := #[]) (T := 3) hH1 5 rfl (by decide) rfl rfl (fun b7 => vS b7 0 0) (by kernel_rfl) (fun b7 w8 hw8 => ?_)
    have hH9 : HP Tr w w8 [.cel b7 #[] 3] := hw8.2
    have nb7 := hw8.1
    clear hw8
    refine WL.pure (v := .slice (some a) xs.length cp) 6 rfl (Nat.le_of_ble_eq_true rfl) rfl rfl (by kernel_rfl) ?_
    have hO := HP.setSame hH9 0 (e' := row (some ⟨b7, 0, none⟩) 0 0 []) rfl (lit0 (HP.get hH9 0 rfl)) rfl
    have hH10 : HP Tr w _ [.own (.slice (some ⟨b7, 0, none⟩) 0 0) 0 (iL []) 3 1] := hO
    obtain ⟨i0, hi0, hz0, hz1, hz2⟩ := infoI
    refine WL.appendSrc (iL xs) 0 hH10 7 rfl (by decide) rfl rfl rfl rfl Try.underlying58 hi0 hz0 hz1 hz2 rfl (by decide) rfl (row_src (row_below (HP.below hH10) hh)) (by simp [iL]) (iL_one xs) (by unfold maxLen; omega) (by omega) ?_
    rintro v8 w8 - hA8
    have hA7 := HP.eq (H' := [.own v8 xs.length (iL xs) 3 1]) hA8 (by rw [Nat.zero_add]; rfl)
    obtain ⟨pv8, cp8, rfl, -⟩ := own_row (xs := xs) (HP.get hA7 0 rfl) rfl
    have hH11 : HP Tr w _ [.own (.slice pv8 xs.length cp8) xs.length (iL xs) 3 1] := hA7
    refine WL.pure (v := .slice pv8 xs.length cp8) 2 rfl (Nat.le_of_ble_eq_true rfl) rfl rfl (by kernel_rfl) ?_
    refine WL.nil ?_
    refine WQ.then ?_
    refine hK6 _ _ _ ?_
    refine WC.ret ?_
    refine WQ.ret1 2 rfl rfl ?_
    exact ⟨pv8, cp8, rfl, hA7⟩
set_option maxRecDepth 20000 in
set_option maxHeartbeats 4000000 in
theorem all_any (l : Nat) (R : Int) (pv : Option Addr) (cp : Nat) (xs : List Int) (w : World) (hc : w.cell? ⟨l, 0, none⟩ = some (vI R)) (hs : w.cell? ⟨l, 1, none⟩ = some (.slice pv xs.length cp)) (hh : Ent.holds w (row pv xs.length cp xs)) (hR : 1 ≤ R) (hn : xs.length ≤ 32) :
    Calls Try.prog 64 #[vP l 0] w (ItR w xs) := by
  refine calls_of Try.func64 rfl (m := 10) rfl [(0, vP l 0)] (Fr_enter [vP l 0] 10 (Nat.le_of_ble_eq_true rfl)) ?_
  have hH1 : HP Tr w w [] := HP.refl w
  refine WC.seq fun K2 hK2 => ?_
  refine WC.region ?_
  refine WL.pure (v := .slice none 0 0) 2 rfl (Nat.le_of_ble_eq_true rfl) rfl rfl (by kernel_rfl) ?_
  refine WL.nil ?_
  refine WQ.then ?_
  refine hK2 _ _ _ ?_
  refine WC.seq fun K3 hK3 => ?_
  refine WC.seq fun K4 hK4 => ?_
  refine WC.region ?_
  refine WL.pure (v := vP l 0) 3 rfl (Nat.le_of_ble_eq_true rfl) rfl rfl (by kernel_rfl) ?_
  refine WL.call (f := 91) (args := #[vP l 0]) 4 rfl (Nat.le_of_ble_eq_true rfl) rfl rfl (by kernel_rfl) ?_
  refine (wnone_any l R _ (HP.old hH1 trivial hc) hR).mono ?_
  rintro e w5 ⟨rfl, hb6⟩
  refine ⟨_, rfl, ?_⟩
  have hH7 : HP Tr w _ [] := HP.call hH1 hb6
  refine WL.nil ?_
  refine WQ.then ?_
  refine hK4 _ _ _ ?_
  refine WC.no rfl ?_
  refine WC.skip ?_
  refine WQ.then ?_
  refine hK3 _ _ _ ?_
  refine WC.seq fun K8 hK8 => ?_
  refine WC.region ?_
  refine WL.pure (v := vP l 0) 5 rfl (Nat.le_of_ble_eq_true rfl) rfl rfl (by kernel_rfl) ?_
  refine WL.pure (v := vP l 0) 6 rfl (Nat.le_of_ble_eq_true rfl) rfl rfl (by kernel_rfl) ?_
  refine WL.pure (v := vP l 1) 7 rfl (Nat.le_of_ble_eq_true rfl) rfl rfl (by kernel_rfl) ?_
  refine WL.pure (v := .slice pv xs.length cp) 8 rfl (Nat.le_of_ble_eq_true rfl) rfl rfl (x_load rfl rfl Try.underlying58 rfl (HP.old hH7 trivial hs)) ?_
  refine WL.call (f := 94) (args := #[.slice pv xs.length cp]) 9 rfl (Nat.le_of_ble_eq_true rfl) rfl rfl (by kernel_rfl) ?_
  refine (Clone_any pv cp xs _ (row_below (HP.below hH7) hh) hn).mono ?_
  rintro e w9 ⟨pv8, cp8, rfl, hb10⟩
  refine ⟨_, rfl, ?_⟩
  have hH11 : HP Tr w _ [.own (.slice pv8 xs.length cp8) xs.length (iL xs) 3 1] := HP.trans hH7 hb10
  refine WL.pure (v := .slice pv8 xs.length cp8) 2 rfl (Nat.le_of_ble_eq_true rfl) rfl rfl (by kernel_rfl) ?_
  refine WL.nil ?_
  refine WQ.then ?_
  refine hK8 _ _ _ ?_
  refine WC.sub (l' := [(0, vP l 0), (2, .slice pv8 xs.length cp8), (4, .bool false)]) ⟨rfl, rfl, rfl, trivial⟩ ?_
  refine WC.ret ?_
  refine WQ.ret1 2 rfl rfl ?_
  exact ⟨pv8, cp8, rfl, hH11⟩
set_option maxRecDepth 20000 in
set_option maxHeartbeats 4000000 in
theorem Items_any (l : Nat) (R : Int) (pv : Option Addr) (cp : Nat) (xs : List Int) (w : World) (hB : OwnB w (PB l R pv cp xs)) (hR : 1 ≤ R) (hn : xs.length ≤ 32) :
    Calls Try.prog 33 #[vP l 0] w (ItR w xs) := by
  obtain ⟨hc, hs, hh⟩ := PB_cells hB
  refine calls_of Try.func33 rfl (m := 9) rfl [(0, vP l 0)] (Fr_enter [vP l 0] 9 (Nat.le_of_ble_eq_true rfl)) ?_
  have hH1 : HP Tr w w [] := HP.refl w
  refine WC.seq fun K2 hK2 => ?_
  refine WC.region ?_
  refine WL.pure (v := .slice none 0 0) 2 rfl (Nat.le_of_ble_eq_true rfl) rfl rfl (by kernel_rfl) ?_
  refine WL.nil ?_
  refine WQ.then ?_
  refine hK2 _ _ _ ?_
  refine WC.seq fun K3 hK3 => ?_
  refine WC.seq fun K4 hK4 => ?_
  refine WC.region ?_
  refine WL.pure (v := vP l 0) 3 rfl (Nat.le_of_ble_eq_true rfl) rfl rfl (by kernel_rfl) ?_
  refine WL.call (f := 59) (args := #[vP l 0]) 4 rfl (Nat.le_of_ble_eq_true rfl) rfl rfl (by kernel_rfl) ?_
  refine (lnone_any l R _ (HP.old hH1 trivial hc) hR).mono ?_
  rintro e w5 ⟨rfl, hb6⟩
  refine ⟨_, rfl, ?_⟩
  have hH7 : HP Tr w _ [] := HP.call hH1 hb6
  refine WL.nil ?_
  refine WQ.then ?_
  refine hK4 _ _ _ ?_
  refine WC.no rfl ?_
  refine WC.skip ?_
  refine WQ.then ?_
  refine hK3 _ _ _ ?_
  refine WC.seq fun K8 hK8 => ?_
  refine WC.region ?_
  refine WL.pure (v := vP l 0) 5 rfl (Nat.le_of_ble_eq_true rfl) rfl rfl (by kernel_rfl) ?_
  refine WL.pure (v := vP l 0) 6 rfl (Nat.le_of_ble_eq_true rfl) rfl rfl (by kernel_rfl) ?_
  refine WL.pure (v := vP l 0) 7 rfl (Nat.le_of_ble_eq_true rfl) rfl rfl (by kernel_rfl) ?_
  refine WL.call (f := 64) (args := #[vP l 0]) 8 rfl (Nat.le_of_ble_eq_true rfl) rfl rfl (by kernel_rfl) ?_
  refine (all_any l R pv cp xs _ (HP.old hH7 trivial hc) (HP.old hH7 trivial hs) (row_below (HP.below hH7) hh) hR hn).mono ?_
  rintro e w9 ⟨pv8, cp8, rfl, hb10⟩
  refine ⟨_, rfl, ?_⟩
  have hH11 : HP Tr w _ [.own (.slice pv8 xs.length cp8) xs.length (iL xs) 3 1] := HP.trans hH7 hb10
  refine WL.pure (v := .slice pv8 xs.length cp8) 2 rfl (Nat.le_of_ble_eq_true rfl) rfl rfl (by kernel_rfl) ?_
  refine WL.nil ?_
  refine WQ.then ?_
  refine hK8 _ _ _ ?_
  refine WC.sub (l' := [(0, vP l 0), (2, .slice pv8 xs.length cp8), (4, .bool false)]) ⟨rfl, rfl, rfl, trivial⟩ ?_
  refine WC.ret ?_
  refine WQ.ret1 2 rfl rfl ?_
  exact ⟨pv8, cp8, rfl, hH11⟩
set_option maxRecDepth 20000 in
set_option maxHeartbeats 4000000 in
theorem rItems_any (l : Nat) (R : Int) (pv : Option Addr) (cp : Nat) (xs : List Int) (w : World) (hB : OwnB w (RB l R pv cp xs)) (hR : 1 ≤ R) (hn : xs.length ≤ 32) :
    Calls Try.prog 34 #[vP l 0] w (ItR w xs) := by
  obtain ⟨hc, hs, hh⟩ := RB_cells hB
  refine calls_of Try.func34 rfl (m := 11) rfl [(0, vP l 0)] (Fr_enter [vP l 0] 11 (Nat.le_of_ble_eq_true rfl)) ?_
  have hH1 : HP Tr w w [] := HP.refl w
  refine WC.seq fun K2 hK2 => ?_
  refine WC.region ?_
  refine WL.pure (v := .slice none 0 0) 2 rfl (Nat.le_of_ble_eq_true rfl) rfl rfl (by kernel_rfl) ?_
  refine WL.nil ?_
  refine WQ.then ?_
  refine hK2 _ _ _ ?_
  refine WC.seq fun K3 hK3 => ?_
  refine WC.seq fun K4 hK4 => ?_
  refine WC.region ?_
  refine WL.pure (v := vP l 0) 3 rfl (Nat.le_of_ble_eq_true rfl) rfl rfl (by kernel_rfl) ?_
  refine WL.pure (v := .bool false) 4 rfl (Nat.le_of_ble_eq_true rfl) rfl rfl (by kernel_rfl) ?_
  refine WL.nil ?_
  refine WQ.then ?_
  refine hK4 _ _ _ ?_
  refine WC.no rfl ?_
  refine WC.skip ?_
  refine WQ.then ?_
  refine hK3 _ _ _ ?_
  refine WC.seq fun K5 hK5 => ?_
  refine WC.region ?_
  refine WL.alloc (c := #[]) (T := 3) hH1 5 rfl (by decide) rfl rfl (fun b6 => vS b6 0 0) (by kernel_rfl) (fun b6 w7 hw7 => ?_)
  have hH8 : HP Tr w w7 [.cel b6 #[] 3] := hw7.2
  have nb6 := hw7.1
  clear hw7
  refine WL.pure (v := vP l 0) 6 rfl (Nat.le_of_ble_eq_true rfl) rfl rfl (by kernel_rfl) ?_
  refine WL.pure (v := vP l 0) 7 rfl (Nat.le_of_ble_eq_true rfl) rfl rfl (by kernel_rfl) ?_
  refine WL.pure (v := vP l 0) 8 rfl (Nat.le_of_ble_eq_true rfl) rfl rfl (by kernel_rfl) ?_
  refine WL.pure (v := .slice pv xs.length cp) 9 rfl (Nat.le_of_ble_eq_true rfl) rfl rfl (x_load rfl rfl Try.underlying58 rfl (HP.old hH8 trivial hs)) ?_
  have hO := HP.setSame hH8 0 (e' := row (some ⟨b6, 0, none⟩) 0 0 []) rfl (lit0 (HP.get hH8 0 rfl)) rfl
  have hH9 : HP Tr w _ [.own (.slice (some ⟨b6, 0, none⟩) 0 0) 0 (iL []) 3 1] := hO
  obtain ⟨i0, hi0, hz0, hz1, hz2⟩ := infoI
  refine WL.appendSrc (iL xs) 0 hH9 10 rfl (by decide) rfl rfl rfl rfl Try.underlying58 hi0 hz0 hz1 hz2 rfl (by decide) rfl (row_src (row_below (HP.below hH9) hh)) (by simp [iL]) (iL_one xs) (by unfold maxLen; omega) (by omega) ?_
  rintro v8 w8 - hA8
  have hA7 := HP.eq (H' := [.own v8 xs.length (iL xs) 3 1]) hA8 (by rw [Nat.zero_add]; rfl)
  obtain ⟨pv8, cp8, rfl, -⟩ := own_row (xs := xs) (HP.get hA7 0 rfl) rfl
  have hH10 : HP Tr w _ [.own (.slice pv8 xs.length cp8) xs.length (iL xs) 3 1] := hA7
  refine WL.pure (v := .slice pv8 xs.length cp8) 2 rfl (Nat.le_of_ble_eq_true rfl) rfl rfl (by kernel_rfl) ?_
  refine WL.nil ?_
  refine WQ.then ?_
  refine hK5 _ _ _ ?_
  refine WC.sub (l' := [(0, vP l 0), (2, .slice pv8 xs.length cp8), (4, .bool false)]) ⟨rfl, rfl, rfl, trivial⟩ ?_
  refine WC.ret ?_
  refine WQ.ret1 2 rfl rfl ?_
  exact ⟨pv8, cp8, rfl, hA7⟩
set_option maxRecDepth 20000 in
set_option maxHeartbeats 4000000 in
theorem NewList_any (n : Int) (w : World) :
    Calls Try.prog 24 #[vI n] w fun e w' => (rm n = false ∧ e = .returned (.tuple #[.pointer none, vI 1]) ∧ Below w.heap.size w w') ∨ (rm n = true ∧ ∃ l, e = .returned (.tuple #[vP l 0, vI 0]) ∧ HP Tr w w' (PB l n none 0 [])) := by
  refine calls_of Try.func24 rfl (m := 11) rfl [(0, vI n)] (Fr_enter [vI n] 11 (Nat.le_of_ble_eq_true rfl)) ?_
  have hH1 : HP Tr w w [] := HP.refl w
  refine WC.seq fun K2 hK2 => ?_
  refine WC.region ?_
  refine WL.pure (v := .pointer none) 2 rfl (Nat.le_of_ble_eq_true rfl) rfl rfl (by kernel_rfl) ?_
  refine WL.pure (v := vI 0) 3 rfl (Nat.le_of_ble_eq_true rfl) rfl rfl (by kernel_rfl) ?_
  refine WL.nil ?_
  refine WQ.then ?_
  refine hK2 _ _ _ ?_
  refine WC.seq fun K3 hK3 => ?_
  refine WC.seq fun K4 hK4 => ?_
  refine WC.region ?_
  refine WL.pure (v := vI n) 4 rfl (Nat.le_of_ble_eq_true rfl) rfl rfl (by kernel_rfl) ?_
  rcases Bool.eq_false_or_eq_true (rm n) with hr | hr
  ·
    have q := isRoom_any n
    rw [hr] at q
    refine WL.call (f := 49) (args := #[vI n]) 5 rfl (Nat.le_of_ble_eq_true rfl) rfl rfl (by kernel_rfl) ?_
    refine (q _).mono ?_
    rintro e w5 ⟨rfl, rfl⟩
    refine ⟨_, rfl, ?_⟩
    refine WL.pure (v := .bool false) 6 rfl (Nat.le_of_ble_eq_true rfl) rfl rfl (by kernel_rfl) ?_
    refine WL.nil ?_
    refine WQ.then ?_
    refine hK4 _ _ _ ?_
    refine WC.no rfl ?_
    refine WC.skip ?_
    refine WQ.then ?_
    refine hK3 _ _ _ ?_
    refine WC.seq fun K6 hK6 => ?_
    refine WC.region ?_
    refine WL.pure (v := vI n) 7 rfl (Nat.le_of_ble_eq_true rfl) rfl rfl (by kernel_rfl) ?_
    refine WL.pure (v := .agg #[vI n, .slice none 0 0]) 8 rfl (Nat.le_of_ble_eq_true rfl) rfl rfl (by kernel_rfl) ?_
    refine WL.pure (v := .agg #[vI n, .slice none 0 0]) 9 rfl (Nat.le_of_ble_eq_true rfl) rfl rfl (by kernel_rfl) ?_
    refine WL.alloc (c := #[vI n, .slice none 0 0]) (T := 91) hH1 10 rfl (by decide) rfl rfl (fun bl => vP bl 0) (by kernel_rfl) (fun bl w7 hw7 => ?_)
    have hH8 : HP Tr w w7 [.cel bl #[vI n, .slice none 0 0] 91] := hw7.2
    have nbl := hw7.1
    clear hw7
    refine WL.pure (v := vP bl 0) 2 rfl (Nat.le_of_ble_eq_true rfl) rfl rfl (by kernel_rfl) ?_
    refine WL.pure (v := vI 0) 3 rfl (Nat.le_of_ble_eq_true rfl) rfl rfl (by kernel_rfl) ?_
    refine WL.nil ?_
    refine WQ.then ?_
    refine hK6 _ _ _ ?_
    refine WC.sub (l' := [(0, vI n), (2, vP bl 0), (3, vI 0), (6, .bool false)]) ⟨rfl, rfl, rfl, rfl, trivial⟩ ?_
    refine WC.ret ?_
    refine WQ.ret2 2 3 rfl rfl rfl ?_
    exact .inr ⟨hr, bl, rfl, HP.ownNil hH8 3 1⟩
  ·
    have q := isRoom_any n
    rw [hr] at q
    refine WL.call (f := 49) (args := #[vI n]) 5 rfl (Nat.le_of_ble_eq_true rfl) rfl rfl (by kernel_rfl) ?_
    refine (q _).mono ?_
    rintro e w9 ⟨rfl, rfl⟩
    refine ⟨_, rfl, ?_⟩
    refine WL.pure (v := .bool true) 6 rfl (Nat.le_of_ble_eq_true rfl) rfl rfl (by kernel_rfl) ?_
    refine WL.nil ?_
    refine WQ.then ?_
    refine hK4 _ _ _ ?_
    refine WC.yes rfl ?_
    refine WC.seq fun K10 hK10 => ?_
    refine WC.region ?_
    refine WL.pure (v := .pointer none) 2 rfl (Nat.le_of_ble_eq_true rfl) rfl rfl (by kernel_rfl) ?_
    refine WL.pure (v := vI 1) 3 rfl (Nat.le_of_ble_eq_true rfl) rfl rfl (by kernel_rfl) ?_
    refine WL.nil ?_
    refine WQ.then ?_
    refine hK10 _ _ _ ?_
    refine WC.ret ?_
    refine WQ.thenRet ?_
    refine WQ.ret2 2 3 rfl rfl rfl ?_
    exact .inl ⟨hr, rfl, HP.below hH1⟩
set_option maxRecDepth 20000 in
set_option maxHeartbeats 4000000 in
theorem rNewList_any (n : Int) (w : World) :
    Calls Try.prog 25 #[vI n] w fun e w' => (rm n = false ∧ e = .returned (.tuple #[.pointer none, vI 1]) ∧ Below w.heap.size w w') ∨ (rm n = true ∧ ∃ l, e = .returned (.tuple #[vP l 0, vI 0]) ∧ HP Tr w w' (RB l n none 0 [])) := by
  refine calls_of Try.func25 rfl (m := 10) rfl [(0, vI n)] (Fr_enter [vI n] 10 (Nat.le_of_ble_eq_true rfl)) ?_
  have hH1 : HP Tr w w [] := HP.refl w
  refine WC.seq fun K2 hK2 => ?_
  refine WC.region ?_
  refine WL.pure (v := .pointer none) 2 rfl (Nat.le_of_ble_eq_true rfl) rfl rfl (by kernel_rfl) ?_
  refine WL.pure (v := vI 0) 3 rfl (Nat.le_of_ble_eq_true rfl) rfl rfl (by kernel_rfl) ?_
  refine WL.nil ?_
  refine WQ.then ?_
  refine hK2 _ _ _ ?_
  refine WC.seq fun K3 hK3 => ?_
  refine WC.seq fun K4 hK4 => ?_
  refine WC.region ?_
  refine WL.pure (v := vI n) 4 rfl (Nat.le_of_ble_eq_true rfl) rfl rfl (by kernel_rfl) ?_
  rcases Bool.eq_false_or_eq_true (rm n) with hr | hr
  ·
    have q := rroom_any n
    rw [hr] at q
    refine WL.call (f := 55) (args := #[vI n]) 5 rfl (Nat.le_of_ble_eq_true rfl) rfl rfl (by kernel_rfl) ?_
    refine (q _).mono ?_
    rintro e w5 ⟨rfl, rfl⟩
    refine ⟨_, rfl, ?_⟩
    refine WL.pure (v := .bool false) 6 rfl (Nat.le_of_ble_eq_true rfl) rfl rfl (by kernel_rfl) ?_
    refine WL.nil ?_
    refine WQ.then ?_
    refine hK4 _ _ _ ?_
    refine WC.no rfl ?_
    refine WC.skip ?_
    refine WQ.then ?_
    refine hK3 _ _ _ ?_
    refine WC.seq fun K6 hK6 => ?_
    refine WC.region ?_
    refine WL.pure (v := vI n) 7 rfl (Nat.le_of_ble_eq_true rfl) rfl rfl (by kernel_rfl) ?_
    refine WL.pure (v := .agg #[.slice none 0 0, vI n]) 8 rfl (Nat.le_of_ble_eq_true rfl) rfl rfl (by kernel_rfl) ?_
    refine WL.alloc (c := #[.slice none 0 0, vI n]) (T := 93) hH1 9 rfl (by decide) rfl rfl (fun bl => vP bl 0) (by kernel_rfl) (fun bl w7 hw7 => ?_)
    have hH8 : HP Tr w w7 [.cel bl #[.slice none 0 0, vI n] 93] := hw7.2
    have nbl := hw7.1
    clear hw7
    refine WL.pure (v := vP bl 0) 2 rfl (Nat.le_of_ble_eq_true rfl) rfl rfl (by kernel_rfl) ?_
    refine WL.pure (v := vI 0) 3 rfl (Nat.le_of_ble_eq_true rfl) rfl rfl (by kernel_rfl) ?_
    refine WL.nil ?_
    refine WQ.then ?_
    refine hK6 _ _ _ ?_
    refine WC.sub (l' := [(0, vI n), (2, vP bl 0), (3, vI 0), (6, .bool false)]) ⟨rfl, rfl, rfl, rfl, trivial⟩ ?_
    refine WC.ret ?_
    refine WQ.ret2 2 3 rfl rfl rfl ?_
    exact .inr ⟨hr, bl, rfl, HP.ownNil hH8 3 1⟩
  ·
    have q := rroom_any n
    rw [hr] at q
    refine WL.call (f := 55) (args := #[vI n]) 5 rfl (Nat.le_of_ble_eq_true rfl) rfl rfl (by kernel_rfl) ?_
    refine (q _).mono ?_
    rintro e w9 ⟨rfl, rfl⟩
    refine ⟨_, rfl, ?_⟩
    refine WL.pure (v := .bool true) 6 rfl (Nat.le_of_ble_eq_true rfl) rfl rfl (by kernel_rfl) ?_
    refine WL.nil ?_
    refine WQ.then ?_
    refine hK4 _ _ _ ?_
    refine WC.yes rfl ?_
    refine WC.seq fun K10 hK10 => ?_
    refine WC.region ?_
    refine WL.pure (v := .pointer none) 2 rfl (Nat.le_of_ble_eq_true rfl) rfl rfl (by kernel_rfl) ?_
    refine WL.pure (v := vI 1) 3 rfl (Nat.le_of_ble_eq_true rfl) rfl rfl (by kernel_rfl) ?_
    refine WL.nil ?_
    refine WQ.then ?_
    refine hK10 _ _ _ ?_
    refine WC.ret ?_
    refine WQ.thenRet ?_
    refine WQ.ret2 2 3 rfl rfl rfl ?_
    exact .inl ⟨hr, rfl, HP.below hH1⟩
set_option maxRecDepth 20000 in
set_option maxHeartbeats 4000000 in
theorem Ints_any (p1 p2 : Option Addr) (c1 c2 : Nat) (xs : List Int) (w : World) (h1 : Ent.holds w (row p1 xs.length c1 xs)) (h2 : Ent.holds w (row p2 xs.length c2 xs)) (hn : xs.length ≤ 32) :
    Calls Try.prog 32 #[.slice p1 xs.length c1, .slice p2 xs.length c2] w fun e w' => e = .returned (.bool true) ∧ Below w.heap.size w w' := by
  refine calls_of Try.func32 rfl (m := 26) rfl [(0, .slice p1 xs.length c1), (1, .slice p2 xs.length c2)] (Fr_enter [.slice p1 xs.length c1, .slice p2 xs.length c2] 26 (Nat.le_of_ble_eq_true rfl)) ?_
  have hH1 : HP Tr w w [] := HP.refl w
  refine WC.seq fun K2 hK2 => ?_
  refine WC.region ?_
  refine WL.pure (v := .bool false) 4 rfl (Nat.le_of_ble_eq_true rfl) rfl rfl (by kernel_rfl) ?_
  refine WL.nil ?_
  refine WQ.then ?_
  refine hK2 _ _ _ ?_
  refine WC.seq fun K3 hK3 => ?_
  refine WC.seq fun K4 hK4 => ?_
  refine WC.region ?_
  refine WL.pure (v := .slice p1 xs.length c1) 6 rfl (Nat.le_of_ble_eq_true rfl) rfl rfl (by kernel_rfl) ?_
  refine WL.pure (v := vI (xs.length : Int)) 7 rfl (Nat.le_of_ble_eq_true rfl) rfl rfl (by kernel_rfl) ?_
  refine WL.pure (v := .slice p2 xs.length c2) 8 rfl (Nat.le_of_ble_eq_true rfl) rfl rfl (by kernel_rfl) ?_
  refine WL.pure (v := vI (xs.length : Int)) 9 rfl (Nat.le_of_ble_eq_true rfl) rfl rfl (by kernel_rfl) ?_
  refine WL.pure (v := .bool false) 10 rfl (Nat.le_of_ble_eq_true rfl) rfl rfl (x_neq rfl rfl rfl (dF (fun h => h rfl))) ?_
  refine WL.nil ?_
  refine WQ.then ?_
  refine hK4 _ _ _ ?_
  refine WC.no rfl ?_
  refine WC.skip ?_
  refine WQ.then ?_
  refine hK3 _ _ _ ?_
  refine WC.seq fun K5 hK5 => ?_
  refine WC.seq fun K6 hK6 => ?_
  refine WC.region ?_
  refine WL.pure (v := vI 0) 5 rfl (Nat.le_of_ble_eq_true rfl) rfl rfl (by kernel_rfl) ?_
  refine WL.nil ?_
  refine WQ.then ?_
  refine hK6 _ _ _ ?_
  refine WC.block ?_
  refine WC.loop (fun kk0 ll0 ww0 => ∃ (k : Nat), ll0 = [(0, .slice p1 xs.length c1), (1, .slice p2 xs.length c2), (5, vI (k : Int))] ∧ kk0 = xs.length - k ∧ (k ≤ xs.length) ∧ HP Tr w ww0 []) (xs.length) [(0, .slice p1 xs.length c1), (1, .slice p2 xs.length c2), (5, vI 0)] ⟨rfl, rfl, rfl, trivial⟩ ⟨0, rfl, rfl, Nat.zero_le _, hH1⟩ ?_
  rintro kk l w8 ⟨k, rfl, hkk, hk, hH9⟩ K7 hK7
  refine WC.seq fun K10 hK10 => ?_
  refine WC.seq fun K11 hK11 => ?_
  refine WC.region ?_
  refine WL.pure (v := vI (k : Int)) 11 rfl (Nat.le_of_ble_eq_true rfl) rfl rfl (by kernel_rfl) ?_
  refine WL.pure (v := .slice p1 xs.length c1) 12 rfl (Nat.le_of_ble_eq_true rfl) rfl rfl (by kernel_rfl) ?_
  refine WL.pure (v := vI (xs.length : Int)) 13 rfl (Nat.le_of_ble_eq_true rfl) rfl rfl (by kernel_rfl) ?_
  by_cases hlt : (k : Int) < (xs.length : Int)
  ·
    refine WL.pure (v := .bool true) 14 rfl (Nat.le_of_ble_eq_true rfl) rfl rfl (x_lss rfl rfl rfl (dT (hlt))) ?_
    refine WL.nil ?_
    refine WQ.then ?_
    refine hK11 _ _ _ ?_
    refine WC.yes rfl ?_
    refine WC.skip ?_
    refine WQ.then ?_
    refine hK10 _ _ _ ?_
    refine WC.seq fun K12 hK12 => ?_
    refine WC.block ?_
    refine WC.seq fun K13 hK13 => ?_
    obtain ⟨g, hg, hrow⟩ := row_open h1 (show 0 < xs.length by omega)
    subst hg
    obtain ⟨g2, hg2, hrow2⟩ := row_open h2 (show 0 < xs.length by omega)
    subst hg2
    refine WC.still (by kernel_rfl) (by kernel_rfl) ?_
    have hH14 : HP Tr w _ [] := HP.drew hH9
    refine WS.val (v := vS g xs.length c1) 17 rfl (Nat.le_of_ble_eq_true rfl) rfl rfl (by kernel_rfl) ?_
    refine WS.val (v := vI (k : Int)) 18 rfl (Nat.le_of_ble_eq_true rfl) rfl rfl (by kernel_rfl) ?_
    refine WS.val (v := vP g k) 19 rfl (Nat.le_of_ble_eq_true rfl) rfl rfl (x_idx (k) (k) rfl rfl rfl Try.underlying58 sz3 (by omega) (by omega) (by omega)) ?_
    refine WS.val (v := vI (xs.getD k 0)) 20 rfl (Nat.le_of_ble_eq_true rfl) rfl rfl (x_load rfl rfl Try.underlying3 rfl (HP.old hH14 trivial (hrow k (by omega)))) ?_
    refine WS.val (v := vS g2 xs.length c2) 21 rfl (Nat.le_of_ble_eq_true rfl) rfl rfl (by kernel_rfl) ?_
    refine WS.val (v := vI (k : Int)) 22 rfl (Nat.le_of_ble_eq_true rfl) rfl rfl (by kernel_rfl) ?_
    refine WS.val (v := vP g2 k) 23 rfl (Nat.le_of_ble_eq_true rfl) rfl rfl (x_idx (k) (k) rfl rfl rfl Try.underlying58 sz3 (by omega) (by omega) (by omega)) ?_
    refine WS.val (v := vI (xs.getD k 0)) 24 rfl (Nat.le_of_ble_eq_true rfl) rfl rfl (x_load rfl rfl Try.underlying3 rfl (HP.old hH14 trivial (hrow2 k (by omega)))) ?_
    refine WS.val (v := .bool false) 25 rfl (Nat.le_of_ble_eq_true rfl) rfl rfl (x_neq rfl rfl rfl (dF (fun h => h rfl))) ?_
    refine WS.nilQ ?_
    refine WQ.then ?_
    refine hK13 _ _ _ ?_
    refine WC.sub (l' := [(0, vS g xs.length c1), (1, vS g2 xs.length c2), (5, vI (k : Int)), (14, .bool true), (25, .bool false)]) ⟨rfl, rfl, rfl, rfl, rfl, trivial⟩ ?_
    refine WC.no rfl ?_
    refine WC.skip ?_
    refine WQ.inNormal ?_
    refine WQ.then ?_
    refine hK12 _ _ _ ?_
    refine WC.region ?_
    refine WL.pure (v := vI (k : Int)) 15 rfl (Nat.le_of_ble_eq_true rfl) rfl rfl (by kernel_rfl) ?_
    refine WL.pure (v := vI ((k + 1 : Nat) : Int)) 16 rfl (Nat.le_of_ble_eq_true rfl) rfl rfl (x_add (Z := ((k + 1 : Nat) : Int)) rfl rfl rfl (by omega) (by omega) (by omega)) ?_
    refine WL.pure (v := vI ((k + 1 : Nat) : Int)) 5 rfl (Nat.le_of_ble_eq_true rfl) rfl rfl (by kernel_rfl) ?_
    refine WL.nil ?_
    refine WQ.sub (l' := [(0, vS g xs.length c1), (1, vS g2 xs.length c2), (5, vI ((k + 1 : Nat) : Int))]) ⟨rfl, rfl, rfl, trivial⟩ ?_
    refine WQ.then (hK7 _ _ _ (by omega) ⟨k + 1, rfl, rfl, by omega, hH14⟩)
  ·
    refine WL.pure (v := .bool false) 14 rfl (Nat.le_of_ble_eq_true rfl) rfl rfl (x_lss rfl rfl rfl (dF (hlt))) ?_
    refine WL.nil ?_
    refine WQ.then ?_
    refine hK11 _ _ _ ?_
    refine WC.no rfl ?_
    refine WC.exit ?_
    refine WQ.thenExit ?_
    refine WQ.thenExit ?_
    refine WQ.inExit ?_
    refine WQ.then ?_
    refine hK5 _ _ _ ?_
    refine WC.seq fun K15 hK15 => ?_
    refine WC.region ?_
    refine WL.pure (v := .bool true) 4 rfl (Nat.le_of_ble_eq_true rfl) rfl rfl (by kernel_rfl) ?_
    refine WL.nil ?_
    refine WQ.then ?_
    refine hK15 _ _ _ ?_
    refine WC.ret ?_
    refine WQ.ret1 4 rfl rfl ?_
    exact ⟨rfl, HP.below hH9⟩
set_option maxRecDepth 20000 in
set_option maxHeartbeats 4000000 in
theorem lnone_nil (w : World) :
    Calls Try.prog 59 #[.pointer none] w fun e w' => e = .returned (.bool true) ∧ Below w.heap.size w w' := by
  refine calls_of Try.func59 rfl (m := 11) rfl [(0, .pointer none)] (Fr_enter [.pointer none] 11 (Nat.le_of_ble_eq_true rfl)) ?_
  have hH1 : HP Tr w w [] := HP.refl w
  refine WC.seq fun K2 hK2 => ?_
  refine WC.region ?_
  refine WL.pure (v := .bool false) 2 rfl (Nat.le_of_ble_eq_true rfl) rfl rfl (by kernel_rfl) ?_
  refine WL.nil ?_
  refine WQ.then ?_
  refine hK2 _ _ _ ?_
  refine WC.seq fun K3 hK3 => ?_
  refine WC.region ?_
  refine WL.pure (v := .pointer none) 3 rfl (Nat.le_of_ble_eq_true rfl) rfl rfl (by kernel_rfl) ?_
  refine WL.pure (v := .bool true) 4 rfl (Nat.le_of_ble_eq_true rfl) rfl rfl (by kernel_rfl) ?_
  refine WL.pure (v := .bool true) 5 rfl (Nat.le_of_ble_eq_true rfl) rfl rfl (by kernel_rfl) ?_
  refine WL.pass 6 rfl (Nat.le_of_ble_eq_true rfl) rfl ?_
  refine WL.pass 7 rfl (Nat.le_of_ble_eq_true rfl) rfl ?_
  refine WL.pass 8 rfl (Nat.le_of_ble_eq_true rfl) rfl ?_
  refine WL.pass 9 rfl (Nat.le_of_ble_eq_true rfl) rfl ?_
  refine WL.pure (v := .bool true) 10 rfl (Nat.le_of_ble_eq_true rfl) rfl rfl (by kernel_rfl) ?_
  refine WL.pure (v := .bool true) 2 rfl (Nat.le_of_ble_eq_true rfl) rfl rfl (by kernel_rfl) ?_
  refine WL.nil ?_
  refine WQ.then ?_
  refine hK3 _ _ _ ?_
  refine WC.sub (l' := [(0, .pointer none), (2, .bool true)]) ⟨rfl, rfl, trivial⟩ ?_
  refine WC.ret ?_
  refine WQ.ret1 2 rfl rfl ?_
  exact ⟨rfl, HP.below hH1⟩
set_option maxRecDepth 20000 in
set_option maxHeartbeats 4000000 in
theorem Items_nil (w : World) :
    Calls Try.prog 33 #[.pointer none] w fun e w' => e = .returned (.slice none 0 0) ∧ Below w.heap.size w w' := by
  refine calls_of Try.func33 rfl (m := 9) rfl [(0, .pointer none)] (Fr_enter [.pointer none] 9 (Nat.le_of_ble_eq_true rfl)) ?_
  have hH1 : HP Tr w w [] := HP.refl w
  refine WC.seq fun K2 hK2 => ?_
  refine WC.region ?_
  refine WL.pure (v := .slice none 0 0) 2 rfl (Nat.le_of_ble_eq_true rfl) rfl rfl (by kernel_rfl) ?_
  refine WL.nil ?_
  refine WQ.then ?_
  refine hK2 _ _ _ ?_
  refine WC.seq fun K3 hK3 => ?_
  refine WC.seq fun K4 hK4 => ?_
  refine WC.region ?_
  refine WL.pure (v := .pointer none) 3 rfl (Nat.le_of_ble_eq_true rfl) rfl rfl (by kernel_rfl) ?_
  refine WL.call (f := 59) (args := #[.pointer none]) 4 rfl (Nat.le_of_ble_eq_true rfl) rfl rfl (by kernel_rfl) ?_
  refine (lnone_nil _).mono ?_
  rintro e w5 ⟨rfl, hb6⟩
  refine ⟨_, rfl, ?_⟩
  have hH7 : HP Tr w _ [] := HP.call hH1 hb6
  refine WL.nil ?_
  refine WQ.then ?_
  refine hK4 _ _ _ ?_
  refine WC.yes rfl ?_
  refine WC.seq fun K8 hK8 => ?_
  refine WC.region ?_
  refine WL.pure (v := .slice none 0 0) 2 rfl (Nat.le_of_ble_eq_true rfl) rfl rfl (by kernel_rfl) ?_
  refine WL.nil ?_
  refine WQ.then ?_
  refine hK8 _ _ _ ?_
  refine WC.ret ?_
  refine WQ.thenRet ?_
  refine WQ.ret1 2 rfl rfl ?_
  exact ⟨rfl, HP.below hH7⟩
set_option maxRecDepth 20000 in
set_option maxHeartbeats 4000000 in
theorem rItems_nil (w : World) :
    Calls Try.prog 34 #[.pointer none] w fun e w' => e = .returned (.slice none 0 0) ∧ Below w.heap.size w w' := by
  refine calls_of Try.func34 rfl (m := 11) rfl [(0, .pointer none)] (Fr_enter [.pointer none] 11 (Nat.le_of_ble_eq_true rfl)) ?_
  have hH1 : HP Tr w w [] := HP.refl w
  refine WC.seq fun K2 hK2 => ?_
  refine WC.region ?_
  refine WL.pure (v := .slice none 0 0) 2 rfl (Nat.le_of_ble_eq_true rfl) rfl rfl (by kernel_rfl) ?_
  refine WL.nil ?_
  refine WQ.then ?_
  refine hK2 _ _ _ ?_
  refine WC.seq fun K3 hK3 => ?_
  refine WC.seq fun K4 hK4 => ?_
  refine WC.region ?_
  refine WL.pure (v := .pointer none) 3 rfl (Nat.le_of_ble_eq_true rfl) rfl rfl (by kernel_rfl) ?_
  refine WL.pure (v := .bool true) 4 rfl (Nat.le_of_ble_eq_true rfl) rfl rfl (by kernel_rfl) ?_
  refine WL.nil ?_
  refine WQ.then ?_
  refine hK4 _ _ _ ?_
  refine WC.yes rfl ?_
  refine WC.seq fun K5 hK5 => ?_
  refine WC.region ?_
  refine WL.pure (v := .slice none 0 0) 2 rfl (Nat.le_of_ble_eq_true rfl) rfl rfl (by kernel_rfl) ?_
  refine WL.nil ?_
  refine WQ.then ?_
  refine hK5 _ _ _ ?_
  refine WC.ret ?_
  refine WQ.thenRet ?_
  refine WQ.ret1 2 rfl rfl ?_
  exact ⟨rfl, HP.below hH1⟩
end Lb
end Go.Proofs.Ytgdfbpphfanocaa
