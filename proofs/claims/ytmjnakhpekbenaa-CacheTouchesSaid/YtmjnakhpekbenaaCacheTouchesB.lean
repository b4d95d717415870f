/- What the proof of CacheTouches stands on, part 2 of 5. -/
import Derived.CallsIn
import Derived.ChangeArms
import Derived.ChangeKeysEq
import Derived.ChangeSlices
import Derived.Deep.LoopGhost
import Derived.Deep.Matrix
import Derived.Deep.MidRow
import Derived.Deep.Slices
import Derived.Great.BuildSlice
import Derived.Ground.Names2Prog
import Derived.Ground.SlgnProg
import Derived.Ground.SlsfProg
import Derived.Handy
import Derived.KernelRfl
import Derived.Laws.AppendOwn
import Derived.Laws.AppendOwnNone
import Derived.Laws.CopyRow
import Derived.Laws.MakeOwn
import Derived.Laws.Rows
import Derived.Laws.StructEq
import Derived.Lib.QuietBelow
import Derived.Lib.SliceRun
import Derived.OpenShut
import Derived.Orders
import Derived.OrdersIn
import Derived.RangeFuncFrom
import Derived.RangeFuncLeaves
import Derived.RangeFuncWrites
import Derived.Shelf.SlSortCmp.HeapSortK
import Derived.Shelf.SlSortCmp.InsertionK
import Derived.Shelf.SlSortCmp.MedianK
import Derived.Shelf.SlSortCmp.NoneTotal
import Derived.Shelf.SlSortCmp.PartialInsertionK
import Derived.Shelf.SlSortCmp.PartitionEqualK
import Derived.Shelf.SlSortCmp.PartitionK
import Derived.Shelf.SlSortCmp.PdqK
import Derived.Shelf.SlSortCmp.PivotK
import Derived.Shelf.SlSortCmp.ReverseRangeK
import Derived.Shelf.SlSortCmp.SiftDownK
import Derived.Shelf.Slices.Cells
import Derived.Shelf.Slices.Clone
import Derived.Shelf.Slices.Delete
import Derived.Shelf.Slices.Empties
import Derived.Shelf.Slices.SearchI
import Derived.Shelf.Slices.Turned
import Derived.Shelf.SlicesE.Clone
import Derived.Shelf.SlicesE.Delete
import Derived.Shelf.SlicesQ.Reverse
import Derived.Shelf.Small.Bits
import Derived.Shelf.Small.Wraps
import Derived.Shelf.Strconv.Itoa0
import Derived.SizedLaws
import Derived.Sort.AssemblyPlain
import Derived.Still
import Derived.StillTail
import Derived.TacticsIn
import Derived.Test.YtmjnakhpekbenaaProg
import Derived.WalkKit
import Derived.WalkLawsBesides
import Derived.Test.YtmjnakhpekbenaaCacheTouchesA
set_option linter.unusedVariables false
set_option linter.unusedSimpArgs false
namespace Go.Proofs.Ytmjnakhpekbenaa
open Go.RowKit Fw
namespace Ca
theorem delete_any (pv : Option Addr) (cp : Nat) (xs : List Int) (k : Nat) (w : World) (hB : OwnB w [rowI' pv cp xs]) (hk : k < xs.length) :
    Calls Try.prog 73 #[.slice pv xs.length cp, vI (k : Int), vI ((k + 1 : Nat) : Int)] w fun e w' => e = .returned (.slice pv (xs.eraseIdx k).length cp) ∧ HP (Out [rowI' pv cp xs]) w w' [rowI' pv cp (xs.eraseIdx k)] := by
  have hO := hB.1 _ (List.mem_singleton.2 rfl)
  have h2 : w.ownsRow 0 3 1 (.slice pv xs.length cp) xs.length (iR xs) := hO
  have hc := @World.ownsRow.cells _ _ _ _ _ _ _ h2
  rcases h2.2 with ⟨h0', h1⟩ | ⟨g, cap, cur, hv, hb, hg, hnc, hm, hs, hx⟩
  · omega
  · cases hv
    have hlt := (Array.getElem?_eq_some_iff.1 hg).1
    have hH : Go.Sort.Holds (Value.int .i64) w g 0 xs.toArray := fun j hj => by
      have hj' : j < xs.length := by simpa using hj
      refine ⟨?_, by simp [World.frozen?, hg]⟩
      have := hc (g := g) rfl j (vI (xs.getD j 0)) (by simp [iR, List.getD_eq_getElem?_getD, hj'])
      rw [hadd] at this
      rw [this]
      simp [List.getD_eq_getElem?_getD, hj']
    have hle : (xs.eraseIdx k).length = xs.length - 1 := List.length_eraseIdx_of_lt hk
    refine (Try.slices_Delete_int g 0 cp k (k + 1) xs w hH hnc hm (by omega) (by omega)).mono ?_
    rintro e w' ⟨rfl, q, rfl⟩
    refine ⟨by rw [hle, show k + 1 - k = 1 by omega], ?_⟩
    have hheap : (Go.Sort.putRow (Value.int .i64) (Go.Sort.ahead w q) g 0 (xs.take k ++ xs.drop (k + 1) ++ List.replicate (k + 1 - k) 0).toArray).heap = w.heap.modify g (Go.Sort.onCells (Go.Sort.putCells (Value.int .i64) 0 (xs.take k ++ xs.drop (k + 1) ++ List.replicate (k + 1 - k) 0).toArray)) := rfl
    refine ⟨rfl, rfl, rfl, by rw [hheap]; simp, fun j hj hO => ?_, fun e he => ?_, fun e he b hb' hlt' hO => ?_, by simp⟩
    · have hne : g ≠ j := fun e => hO _ (List.mem_singleton.2 rfl) (by rw [← e]; rfl)
      rw [hheap, Array.getElem?_modify, if_neg hne]
    · obtain rfl := List.mem_singleton.1 he
      refine ⟨by simp [iR], .inr ⟨g, cp, Go.Sort.putCells (Value.int .i64) 0 (xs.take k ++ xs.drop (k + 1) ++ List.replicate (k + 1 - k) 0).toArray cur, rfl, Nat.zero_le _, ?_, by omega, hm, by simp [Go.Sort.putCells, hs], ?_⟩⟩
      · rw [hheap, Array.getElem?_modify, if_pos rfl, hg]; rfl
      · refine List.ext_getElem? fun j => ?_
        rw [List.getElem?_take, Nat.mul_one]
        have hE : xs.eraseIdx k = xs.take k ++ xs.drop (k + 1) := List.eraseIdx_eq_take_drop_succ _ _
        by_cases hj : j < (xs.eraseIdx k).length
        · rw [if_pos hj, Array.getElem?_toList]
          have hcur : j < cur.size := by omega
          have hl : j < (xs.take k ++ xs.drop (k + 1) ++ List.replicate (k + 1 - k) 0).toArray.size := by rw [hE] at hj; simp at hj ⊢; omega
          simp only [Go.Sort.putCells, Array.getElem?_mapIdx, Array.getElem?_eq_getElem hcur, Option.map_some, Nat.zero_le, true_and, Nat.zero_add, hl, if_true, Nat.sub_zero]
          have e1 : (xs.take k ++ xs.drop (k + 1) ++ List.replicate (k + 1 - k) 0).toArray[j]! = (xs.eraseIdx k)[j] := by
            have e0 : ∀ D : List Int, j < D.length → D.toArray[j]! = D.getD j 0 := fun D h => by simp [List.getD_eq_getElem?_getD, h]
            rw [e0 _ (by simpa using hl), ← hE, List.getD_eq_getElem?_getD, List.getElem?_append_left hj, List.getElem?_eq_getElem hj]
            rfl
          rw [e1]
          simp [iR, hj]
        · rw [if_neg hj, List.getElem?_eq_none (by simp [iR]; omega)]
    · obtain rfl := List.mem_singleton.1 he
      exact hO _ (List.mem_singleton.2 rfl) hb'
end Ca
end Go.Proofs.Ytmjnakhpekbenaa
namespace Go.Proofs.Ytmjnakhpekbenaa
open Go.RowKit Fw
namespace Ca
/-- the outer row's cells -/
def sA (S : List SlI) : Array Value := (S.map fun r => slV r).toArray
theorem sA_at {S : List SlI} {k : Nat} {r : SlI} (h : S[k]? = some r) : (sA S)[k]? = some (slV r) := by simp [sA, h]
theorem sA_set {S : List SlI} {k : Nat} {r : SlI} : (sA S).setIfInBounds k (slV r) = sA (S.set k r) := by
  apply Array.ext'
  simp [sA, List.map_set]
theorem sA_size (S : List SlI) : (sA S).size = S.length := by simp [sA]
/-- a row of numbers does not lie in the outer row's block -/
theorem not_outer {w : World} {g : Nat} {S : List SlI} {q : Option Addr} {xs : List Int} (hO : w.heap[g]? = some (.cells (sA S) 33 (0, 0))) {b o : Nat} (hq : q = some ⟨b, o, none⟩) (h0 : 0 < xs.length) (hr : ∀ i, i < xs.length → w.rangeAt b (o + i) [vI (xs.getD i 0)]) : b ≠ g := fun e => by
  subst e
  have := hr 0 h0 0 _ rfl
  rw [cell_of_row w b _ _ 33 (0, 0) hO] at this
  simp only [sA, List.getElem?_toArray, List.getElem?_map] at this
  cases hx : S[o + 0 + 0]? with
  | none => rw [hx] at this; simp at this
  | some r => rw [hx] at this; simp at this
theorem InI.keep {w w' : World} {g : Nat} {S : List SlI} {H : List Ent} {q : Option Addr} {xs : List Int} (h : InI w q xs) (hO : w.heap[g]? = some (.cells (sA S) 33 (0, 0))) (hp : HP (Out [.cel g (sA S) 33]) w w' H) : InI w' q xs := fun h0 => by
  obtain ⟨b, o, hq, hr⟩ := h h0
  have hne := not_outer hO hq h0 hr
  refine ⟨b, o, hq, fun i hi => HP.oldRange hp (fun e he => ?_) (hr i hi)⟩
  obtain rfl := List.mem_singleton.1 he
  exact fun q => hne (Option.some.inj q).symm
theorem InR.keep {w w' : World} {g : Nat} {S : List SlI} {H : List Ent} {r : SlI} (h : InR w r) (hO : w.heap[g]? = some (.cells (sA S) 33 (0, 0))) (hp : HP (Out [.cel g (sA S) 33]) w w' H) : InR w' r := ⟨InI.keep h.row hO hp, h.hc, h.hm, h.hw⟩
theorem index_any (r : SlI) (x : Int) (w : World) (hR : InR w r) (hn : r.xs.length ≤ 1000000) :
    Calls Try.prog 67 #[slV r, vI x] w fun e w' => e = .returned (.int .i64 (Lib.idxOf r.xs x)) ∧ w = w' := by
  obtain ⟨q, xs, c⟩ := r
  have hI : InI w q xs := hR.row
  simp only [slV] at hn ⊢
  by_cases h0 : xs.length = 0
  · have hx : xs = [] := List.length_eq_zero_iff.1 h0
    subst hx
    exact (Try.slices_Index_int_empty q c x w).mono fun e w' h => ⟨h.1, h.2.symm⟩
  · obtain ⟨g, o, rfl, hr⟩ := hI (by omega)
    refine (Try.slices_Index_int g o xs.length c xs x w (Nat.le_refl _) (by omega) (cells_of hr)).mono fun e w' h => ⟨?_, h.2.symm⟩
    rw [h.1, List.take_length]
end Ca
end Go.Proofs.Ytmjnakhpekbenaa
namespace Go.Proofs.Ytmjnakhpekbenaa
open Go.RowKit Fw
namespace Ca
/-- an inner row touched -/
def tcX (y x : Int) (xs : List Int) : List Int := x :: (if 0 ≤ Lib.idxOf xs x then xs.eraseIdx (Lib.idxOf xs x).toNat else if (xs.length : Int) = y then xs.take (xs.length - 1) else xs)
theorem infoI : ∃ i, Try.prog.info? 3 = some i ∧ i.zero = some (.int .i64 0) ∧ i.size = 1 ∧ i.bytes = 8 := by
  obtain ⟨i, hi, h⟩ := Option.map_eq_some_iff.1 (show (Try.prog.info? 3).map (fun i => (i.zero, i.size, i.bytes)) = some (some (.int .i64 0), 1, 8) by kernel_rfl)
  simp only [Prod.mk.injEq] at h
  exact ⟨i, hi, h.1, h.2.1, h.2.2⟩
theorem plc_spec (x : Int) : ∀ xs : List Int, (plc x xs = none ∧ ∀ i, i < xs.length → xs.getD i 0 ≠ x) ∨ (∃ k, plc x xs = some k ∧ k < xs.length ∧ xs.getD k 0 = x ∧ ∀ j, j < k → xs.getD j 0 ≠ x)
  | [] => .inl ⟨rfl, fun i hi => by simp at hi⟩
  | a :: r => by
    by_cases h : a = x
    · exact .inr ⟨0, by simp only [plc]; rw [if_pos h], by simp, by simpa using h, fun j hj => by omega⟩
    · rcases plc_spec x r with ⟨h1, h2⟩ | ⟨k, h1, h2, h3, h4⟩
      · refine .inl ⟨by simp only [plc]; rw [if_neg h, h1]; rfl, fun i hi => ?_⟩
        match i, hi with
        | 0, _ => simpa using h
        | i + 1, hi => have := h2 i (by simpa using hi); simpa using this
      · refine .inr ⟨k + 1, by simp only [plc]; rw [if_neg h, h1]; rfl, by simpa using h2, by simpa using h3, fun j hj => ?_⟩
        match j, hj with
        | 0, _ => simpa using h
        | j + 1, hj => have := h4 j (by omega); simpa using this
theorem idx_plc (x : Int) (xs : List Int) : Lib.idxOf xs x = plcV x xs := by
  unfold plcV
  rcases plc_spec x xs with ⟨h1, h2⟩ | ⟨k, h1, h2, h3, h4⟩
  · rw [h1]; have := Lib.idxOf_miss xs xs.length x h2; rwa [List.take_length] at this
  · rw [h1]; have := Lib.idxOf_hit xs xs.length k x h2 (Nat.le_refl _) h3 h4; rwa [List.take_length] at this
theorem idx_lt {x : Int} {xs : List Int} (h : 0 ≤ Lib.idxOf xs x) : (Lib.idxOf xs x).toNat < xs.length := by
  rw [idx_plc] at h ⊢
  unfold plcV at h ⊢
  rcases plc_spec x xs with ⟨h1, h2⟩ | ⟨k, h1, h2, h3, h4⟩
  · rw [h1] at h; simp at h
  · rw [h1]; simpa using h2
theorem src_of {w : World} {p : Option Addr} {xs ys : List Int} {c : Nat} (h : InI w p xs) (hy : ys = xs.take ys.length) (hc : p = none → c = 0) : (∃ a, p = some a ∧ ∀ q u, (iR ys)[q]? = some u → w.cell? (a.add q) = some u) ∨ (p = none ∧ ys.length = 0 ∧ c = 0) := by
  have hle : ys.length ≤ xs.length := by have := congrArg List.length hy; rw [List.length_take] at this; omega
  by_cases h0 : xs.length = 0
  · cases p with
    | none => exact .inr ⟨rfl, by omega, hc rfl⟩
    | some a =>
      refine .inl ⟨a, rfl, fun q u hu => ?_⟩
      have := (List.getElem?_eq_some_iff.1 hu).1
      simp at this; omega
  · obtain ⟨g, o, rfl, hr⟩ := h (by omega)
    refine .inl ⟨_, rfl, fun q u hu => ?_⟩
    have hq : q < ys.length := by have := (List.getElem?_eq_some_iff.1 hu).1; simpa using this
    have := hr q (by omega) 0 _ rfl
    rw [hadd]
    have e : u = vI (xs.getD q 0) := by
      rw [hy] at hu
      have h9 : q < xs.length := by omega
      simp [iR, List.getElem?_take, hq, h9] at hu
      rw [← hu]; simp [List.getD_eq_getElem?_getD, h9]
    rw [e]; simpa using this
theorem own_nil {w : World} {cp n e s : Nat} {xs : List Value} (h : Ent.holds w (.own (.slice none n cp) n xs e s)) : cp = 0 := by
  have h2 : w.ownsRow 0 e s (.slice none n cp) n xs := h
  rcases h2.2 with ⟨h0, _⟩ | ⟨g, cap, cur, hv, _⟩
  · cases h0; rfl
  · cases hv
set_option maxRecDepth 20000 in
set_option maxHeartbeats 4000000 in
theorem touch_any (g n0 cp0 : Nat) (S : List SlI) (s y l m a : Int) (k : Nat) (q : Option Addr) (xs : List Int) (c : Nat) (w : World) (hB : OwnB w [.cel g (sA S) 33]) (hs : 1 ≤ s ∧ s ≤ 8) (hl : 1 ≤ l ∧ l ≤ 8) (ha : 0 ≤ a ∧ a ≤ 999) (hy : 1 ≤ y ∧ y ≤ 4) (hk : (a / l).tmod s = (k : Int)) (hkS : S[k]? = some ⟨q, xs, c⟩) (hR : InR w ⟨q, xs, c⟩) (hq0 : q = none → c = 0) (hn : xs.length ≤ 1000000) (hSn : S.length = n0) :
    Calls Try.prog 50 #[.agg #[vI s, vI y, vI l, vI m], vS g n0 cp0, vI a] w fun e w' => ∃ pv cp, e = .returned (.bool (decide (0 ≤ Lib.idxOf xs (a / l)))) ∧ HP (Out [.cel g (sA S) 33]) w w' [.cel g (sA (S.set k ⟨pv, tcX y (a / l) xs, cp⟩)) 33, rowI' pv cp (tcX y (a / l) xs)] := by
  have hO : w.heap[g]? = some (.cells (sA S) 33 (0, 0)) := hB.1 _ (List.mem_singleton.2 rfl)
  have hkl : k < n0 := by rw [← hSn]; exact (List.getElem?_eq_some_iff.1 hkS).1
  refine calls_of Try.func50 rfl (m := 58) rfl [(0, .agg #[vI s, vI y, vI l, vI m]), (1, vS g n0 cp0), (2, vI a)] (Fr_enter [.agg #[vI s, vI y, vI l, vI m], vS g n0 cp0, vI a] 58 (Nat.le_of_ble_eq_true rfl)) ?_
  refine WC.seq fun K1 hK1 => ?_
  refine WC.region ?_
  refine WL.alloc (c := #[vI s, vI y, vI l, vI m]) (T := 23) (HP.startB hB) 3 rfl (by decide) rfl rfl (fun b3 => vP b3 0) (by kernel_rfl) (fun b3 w2 hw2 => ?_)
  have hH3 : HP (Out [.cel g (sA S) 33]) w w2 [.cel g (sA S) 33, .cel b3 #[vI s, vI y, vI l, vI m] 23] := hw2.2
  have nb3 := hw2.1
  clear hw2
  refine WL.pure (v := .bool false) 6 rfl (Nat.le_of_ble_eq_true rfl) rfl rfl (by kernel_rfl) ?_
  refine WL.nil ?_
  refine WQ.then ?_
  refine hK1 _ _ _ ?_
  refine WC.seq fun K4 hK4 => ?_
  refine WC.region ?_
  refine WL.pure (v := vI a) 11 rfl (Nat.le_of_ble_eq_true rfl) rfl rfl (by kernel_rfl) ?_
  refine WL.pure (v := vP b3 2) 12 rfl (Nat.le_of_ble_eq_true rfl) rfl rfl (by kernel_rfl) ?_
  refine WL.pure (v := vI l) 13 rfl (Nat.le_of_ble_eq_true rfl) rfl rfl (x_load rfl rfl Try.underlying3 rfl (HP.cell hH3 1 rfl rfl)) ?_
  refine WL.pure (v := vI (a / l)) 14 rfl (Nat.le_of_ble_eq_true rfl) rfl rfl (x_quo rfl rfl rfl (by omega) (tdiv_pos (by omega) (by omega)) (by have := Int.ediv_nonneg (show 0 ≤ a by omega) (show 0 ≤ l by omega); omega) (by have := Int.ediv_le_self l (show 0 ≤ a by omega); omega)) ?_
  refine WL.pure (v := vI (a / l)) 7 rfl (Nat.le_of_ble_eq_true rfl) rfl rfl (by kernel_rfl) ?_
  refine WL.nil ?_
  refine WQ.then ?_
  refine hK4 _ _ _ ?_
  refine WC.seq fun K5 hK5 => ?_
  refine WC.region ?_
  refine WL.pure (v := vI (a / l)) 15 rfl (Nat.le_of_ble_eq_true rfl) rfl rfl (by kernel_rfl) ?_
  refine WL.pure (v := vP b3 0) 16 rfl (Nat.le_of_ble_eq_true rfl) rfl rfl (by kernel_rfl) ?_
  refine WL.pure (v := vI s) 17 rfl (Nat.le_of_ble_eq_true rfl) rfl rfl (x_load rfl rfl Try.underlying3 rfl (HP.cell hH3 1 rfl rfl)) ?_
  refine WL.pure (v := vI (k : Int)) 18 rfl (Nat.le_of_ble_eq_true rfl) rfl rfl (x_rem rfl rfl rfl (by omega) hk) ?_
  refine WL.pure (v := vI (k : Int)) 8 rfl (Nat.le_of_ble_eq_true rfl) rfl rfl (by kernel_rfl) ?_
  refine WL.nil ?_
  refine WQ.then ?_
  refine hK5 _ _ _ ?_
  refine WC.sub (l' := [(0, .agg #[vI s, vI y, vI l, vI m]), (1, vS g n0 cp0), (2, vI a), (3, vP b3 0), (6, .bool false), (7, vI (a / l)), (8, vI (k : Int))]) ⟨rfl, rfl, rfl, rfl, rfl, rfl, rfl, trivial⟩ ?_
  refine WC.seq fun K6 hK6 => ?_
  refine WC.region ?_
  refine WL.pure (v := vS g n0 cp0) 19 rfl (Nat.le_of_ble_eq_true rfl) rfl rfl (by kernel_rfl) ?_
  refine WL.pure (v := vI (k : Int)) 20 rfl (Nat.le_of_ble_eq_true rfl) rfl rfl (by kernel_rfl) ?_
  refine WL.pure (v := vP g k) 21 rfl (Nat.le_of_ble_eq_true rfl) rfl rfl (x_idx (k) (k) rfl rfl rfl Try.underlying24 sz33 (by omega) (by omega) (by omega)) ?_
  refine WL.pure (v := .slice q xs.length c) 22 rfl (Nat.le_of_ble_eq_true rfl) rfl rfl (x_load rfl rfl Try.underlying33 rfl (HP.cell hH3 0 rfl (sA_at hkS))) ?_
  refine WL.pure (v := vI (a / l)) 23 rfl (Nat.le_of_ble_eq_true rfl) rfl rfl (by kernel_rfl) ?_
  refine WL.call (f := 67) (args := #[.slice q xs.length c, vI (a / l)]) 24 rfl (Nat.le_of_ble_eq_true rfl) rfl rfl (by kernel_rfl) ?_
  refine (index_any ⟨q, xs, c⟩ (a / l) _ (hR.keep hO hH3) hn).mono ?_
  rintro e w7 ⟨rfl, rfl⟩
  refine ⟨_, rfl, ?_⟩
  refine WL.pure (v := vI (Lib.idxOf xs (a / l))) 9 rfl (Nat.le_of_ble_eq_true rfl) rfl rfl (by kernel_rfl) ?_
  refine WL.nil ?_
  refine WQ.then ?_
  refine hK6 _ _ _ ?_
  refine WC.sub (l' := [(0, .agg #[vI s, vI y, vI l, vI m]), (1, vS g n0 cp0), (2, vI a), (3, vP b3 0), (6, .bool false), (7, vI (a / l)), (8, vI (k : Int)), (9, vI (Lib.idxOf xs (a / l)))]) ⟨rfl, rfl, rfl, rfl, rfl, rfl, rfl, rfl, trivial⟩ ?_
  refine WC.seq fun K8 hK8 => ?_
  refine WC.region ?_
  refine WL.pure (v := vS g n0 cp0) 25 rfl (Nat.le_of_ble_eq_true rfl) rfl rfl (by kernel_rfl) ?_
  refine WL.pure (v := vI (k : Int)) 26 rfl (Nat.le_of_ble_eq_true rfl) rfl rfl (by kernel_rfl) ?_
  refine WL.pure (v := vP g k) 27 rfl (Nat.le_of_ble_eq_true rfl) rfl rfl (x_idx (k) (k) rfl rfl rfl Try.underlying24 sz33 (by omega) (by omega) (by omega)) ?_
  refine WL.pure (v := .slice q xs.length c) 28 rfl (Nat.le_of_ble_eq_true rfl) rfl rfl (x_load rfl rfl Try.underlying33 rfl (HP.cell hH3 0 rfl (sA_at hkS))) ?_
  refine WL.pure (v := .slice q xs.length c) 10 rfl (Nat.le_of_ble_eq_true rfl) rfl rfl (by kernel_rfl) ?_
  refine WL.nil ?_
  refine WQ.then ?_
  refine hK8 _ _ _ ?_
  refine WC.seq fun K9 hK9 => ?_
  refine WC.block ?_
  refine WC.seq fun K10 hK10 => ?_
  refine WC.region ?_
  refine WL.pure (v := vI (Lib.idxOf xs (a / l))) 30 rfl (Nat.le_of_ble_eq_true rfl) rfl rfl (by kernel_rfl) ?_
  by_cases h0 : (0 : Int) ≤ Lib.idxOf xs (a / l)
  ·
    obtain ⟨k9, hk9⟩ : ∃ k9 : Nat, Lib.idxOf xs (a / l) = (k9 : Int) := ⟨_, (Int.toNat_of_nonneg h0).symm⟩
    have hk9l : k9 < xs.length := by have := idx_lt h0; omega
    rw [hk9] at h0
    rw [hk9]
    refine WL.pure (v := .bool true) 31 rfl (Nat.le_of_ble_eq_true rfl) rfl rfl (x_geq rfl rfl rfl (dT (h0))) ?_
    refine WL.pure (v := .bool true) 29 rfl (Nat.le_of_ble_eq_true rfl) rfl rfl (by kernel_rfl) ?_
    refine WL.nil ?_
    refine WQ.then ?_
    refine hK10 _ _ _ ?_
    refine WC.sub (l' := [(0, .agg #[vI s, vI y, vI l, vI m]), (1, vS g n0 cp0), (2, vI a), (3, vP b3 0), (6, .bool false), (7, vI (a / l)), (8, vI (k : Int)), (9, vI (k9 : Int)), (10, .slice q xs.length c), (29, .bool true)]) ⟨rfl, rfl, rfl, rfl, rfl, rfl, rfl, rfl, rfl, rfl, trivial⟩ ?_
    refine WC.yes rfl ?_
    refine WC.region ?_
    refine WL.pure (v := .slice q xs.length c) 32 rfl (Nat.le_of_ble_eq_true rfl) rfl rfl (by kernel_rfl) ?_
    refine WL.call (f := 72) (args := #[.slice q xs.length c]) 33 rfl (Nat.le_of_ble_eq_true rfl) rfl rfl (by kernel_rfl) ?_
    refine (clone_any ⟨q, xs, c⟩ _ (hR.keep hO hH3) hn).mono ?_
    rintro e w11 ⟨pv, cp, rfl, hb12⟩
    refine ⟨_, rfl, ?_⟩
    have hH13 : HP (Out [.cel g (sA S) 33]) w _ [.cel g (sA S) 33, .cel b3 #[vI s, vI y, vI l, vI m] 23, rowI' pv cp xs] := HP.trans hH3 hb12
    refine WL.pure (v := vI (k9 : Int)) 34 rfl (Nat.le_of_ble_eq_true rfl) rfl rfl (by kernel_rfl) ?_
    refine WL.pure (v := vI (k9 : Int)) 35 rfl (Nat.le_of_ble_eq_true rfl) rfl rfl (by kernel_rfl) ?_
    refine WL.pure (v := vI ((k9 + 1 : Nat) : Int)) 36 rfl (Nat.le_of_ble_eq_true rfl) rfl rfl (x_add (Z := ((k9 + 1 : Nat) : Int)) rfl rfl rfl (by omega) (by omega) (by omega)) ?_
    refine WL.call (f := 73) (args := #[.slice pv xs.length cp, vI (k9 : Int), vI ((k9 + 1 : Nat) : Int)]) 37 rfl (Nat.le_of_ble_eq_true rfl) rfl rfl (by kernel_rfl) ?_
    refine (delete_any pv cp xs k9 _ (HP.ownB (A := [Go.Proofs.Ytmjnakhpekbenaa.Fw.Ent.cel g (sA S) 33, Go.Proofs.Ytmjnakhpekbenaa.Fw.Ent.cel b3 #[vI s, vI y, vI l, vI m] 23]) hH13) hk9l).mono ?_
    rintro e w6 ⟨rfl, hb6⟩
    refine ⟨_, rfl, ?_⟩
    have hH14 : HP (Out [.cel g (sA S) 33]) w _ [.cel g (sA S) 33, .cel b3 #[vI s, vI y, vI l, vI m] 23, rowI' pv cp (xs.eraseIdx k9)] := HP.exch (A := [Go.Proofs.Ytmjnakhpekbenaa.Fw.Ent.cel g (sA S) 33, Go.Proofs.Ytmjnakhpekbenaa.Fw.Ent.cel b3 #[vI s, vI y, vI l, vI m] 23]) hH13 hb6
    refine WL.pure (v := .slice pv ((xs.eraseIdx k9).length) cp) 10 rfl (Nat.le_of_ble_eq_true rfl) rfl rfl (by kernel_rfl) ?_
    refine WL.nil ?_
    refine WQ.inNormal ?_
    refine WQ.then ?_
    refine hK9 _ _ _ ?_
    refine WC.sub (l' := [(0, .agg #[vI s, vI y, vI l, vI m]), (1, vS g n0 cp0), (2, vI a), (3, vP b3 0), (6, .bool false), (7, vI (a / l)), (8, vI (k : Int)), (9, vI (k9 : Int)), (10, .slice pv ((xs.eraseIdx k9).length) cp), (29, .bool true)]) ⟨rfl, rfl, rfl, rfl, rfl, rfl, rfl, rfl, rfl, rfl, trivial⟩ ?_
    refine WC.seq fun K15 hK15 => ?_
    refine WC.region ?_
    refine WL.pure (v := vS g n0 cp0) 49 rfl (Nat.le_of_ble_eq_true rfl) rfl rfl (by kernel_rfl) ?_
    refine WL.pure (v := vI (k : Int)) 50 rfl (Nat.le_of_ble_eq_true rfl) rfl rfl (by kernel_rfl) ?_
    refine WL.pure (v := vI (a / l)) 51 rfl (Nat.le_of_ble_eq_true rfl) rfl rfl (by kernel_rfl) ?_
    refine WL.alloc (c := #[vI (a / l)]) (T := 3) hH14 52 rfl (by decide) rfl rfl (fun b52 => vS b52 1 1) (by kernel_rfl) (fun b52 w16 hw16 => ?_)
    have hH17 : HP (Out [.cel g (sA S) 33]) w w16 [.cel g (sA S) 33, .cel b3 #[vI s, vI y, vI l, vI m] 23, rowI' pv cp (xs.eraseIdx k9), .cel b52 #[vI (a / l)] 3] := hw16.2
    have nb52 := hw16.1
    clear hw16
    refine WL.pure (v := .slice pv ((xs.eraseIdx k9).length) cp) 53 rfl (Nat.le_of_ble_eq_true rfl) rfl rfl (by kernel_rfl) ?_
    have hO9 := HP.celToOwn hH17 3 (k := 1) (cap := 1) (s := 1) rfl (Nat.le_refl _) (by decide) rfl
    have hH18 : HP (Out [.cel g (sA S) 33]) w _ [.cel g (sA S) 33, .cel b3 #[vI s, vI y, vI l, vI m] 23, rowI' pv cp (xs.eraseIdx k9), .own (.slice (some ⟨b52, 0, none⟩) 1 1) 1 [vI (a / l)] 3 1] := HP.eq hO9 rfl
    obtain ⟨i0, hi0, hz0, hz1, hz2⟩ := infoI
    have hyl : (xs.eraseIdx k9).length ≤ xs.length := by first | exact Nat.le_refl _ | (rw [List.length_eraseIdx_of_lt hk9l]; omega) | (rw [List.length_take]; omega)
    refine WL.appendSrc (iR (xs.eraseIdx k9)) 3 hH18 54 rfl (by decide) rfl rfl rfl rfl Try.underlying33 hi0 hz0 hz1 hz2 rfl (by decide) rfl (src_of (row_in (HP.get hH18 2 rfl)) (by rw [List.take_length]) (fun h => by subst h; exact own_nil (HP.get hH18 2 rfl))) (by simp) (fun u hu => by obtain ⟨x9, _, rfl⟩ := List.mem_map.1 hu; rfl) (by unfold maxLen; omega) (by omega) ?_
    rintro v7 w7 - hA7
    obtain ⟨pv7, cp7, rfl⟩ := own_row (HP.get hA7 3 rfl)
    have e7 : 1 + (xs.eraseIdx k9).length = (a / l :: (xs.eraseIdx k9)).length := by simp; omega
    rw [e7] at hA7 ⊢
    have hH19 : HP (Out [.cel g (sA S) 33]) w _ [.cel g (sA S) 33, .cel b3 #[vI s, vI y, vI l, vI m] 23, rowI' pv cp (xs.eraseIdx k9), rowI' pv7 cp7 (a / l :: (xs.eraseIdx k9))] := HP.eq hA7 rfl
    refine WL.pure (v := vP g k) 55 rfl (Nat.le_of_ble_eq_true rfl) rfl rfl (x_idx (k) (k) rfl rfl rfl Try.underlying24 sz33 (by omega) (by omega) (by omega)) ?_
    refine WL.store (c' := sA (S.set k ⟨pv7, (a / l :: (xs.eraseIdx k9)), cp7⟩)) (H2 := _) 0 hH19 rfl rfl rfl rfl rfl rfl sz33 rfl (by rw [sA_size]; exact (List.getElem?_eq_some_iff.1 hkS).1) (sA_set (r := ⟨pv7, (a / l :: (xs.eraseIdx k9)), cp7⟩)) rfl ?_
    intro w8 hB8
    have hH20 : HP (Out [.cel g (sA S) 33]) w _ [.cel g (sA (S.set k ⟨pv7, (a / l :: (xs.eraseIdx k9)), cp7⟩)) 33, .cel b3 #[vI s, vI y, vI l, vI m] 23, rowI' pv cp (xs.eraseIdx k9), rowI' pv7 cp7 (a / l :: (xs.eraseIdx k9))] := hB8
    refine WL.nil ?_
    refine WQ.then ?_
    refine hK15 _ _ _ ?_
    refine WC.sub (l' := [(0, .agg #[vI s, vI y, vI l, vI m]), (1, vS g n0 cp0), (2, vI a), (3, vP b3 0), (6, .bool false), (7, vI (a / l)), (8, vI (k : Int)), (9, vI (k9 : Int)), (10, .slice pv ((xs.eraseIdx k9).length) cp), (29, .bool true)]) ⟨rfl, rfl, rfl, rfl, rfl, rfl, rfl, rfl, rfl, rfl, trivial⟩ ?_
    refine WC.seq fun K21 hK21 => ?_
    refine WC.region ?_
    refine WL.pure (v := vI (k9 : Int)) 56 rfl (Nat.le_of_ble_eq_true rfl) rfl rfl (by kernel_rfl) ?_
    refine WL.pure (v := .bool true) 57 rfl (Nat.le_of_ble_eq_true rfl) rfl rfl (x_geq rfl rfl rfl (dT (by omega))) ?_
    refine WL.pure (v := .bool true) 6 rfl (Nat.le_of_ble_eq_true rfl) rfl rfl (by kernel_rfl) ?_
    refine WL.nil ?_
    refine WQ.then ?_
    refine hK21 _ _ _ ?_
    refine WC.ret ?_
    refine WQ.ret1 6 rfl rfl ?_
    have e9 : tcX y (a / l) xs = (a / l :: (xs.eraseIdx k9)) := by unfold tcX; rw [hk9, if_pos (by omega), Int.toNat_natCast]
    exact ⟨pv7, cp7, by rw [hk9, decide_eq_true (by omega)], by rw [e9]; exact (HP.drop (HP.drop hH20 2) 1)⟩
  ·
    refine WL.pure (v := .bool false) 31 rfl (Nat.le_of_ble_eq_true rfl) rfl rfl (x_geq rfl rfl rfl (dF (h0))) ?_
    refine WL.pure (v := .bool false) 29 rfl (Nat.le_of_ble_eq_true rfl) rfl rfl (by kernel_rfl) ?_
    refine WL.nil ?_
    refine WQ.then ?_
    refine hK10 _ _ _ ?_
    refine WC.sub (l' := [(0, .agg #[vI s, vI y, vI l, vI m]), (1, vS g n0 cp0), (2, vI a), (3, vP b3 0), (6, .bool false), (7, vI (a / l)), (8, vI (k : Int)), (9, vI (Lib.idxOf xs (a / l))), (10, .slice q xs.length c), (29, .bool false)]) ⟨rfl, rfl, rfl, rfl, rfl, rfl, rfl, rfl, rfl, rfl, trivial⟩ ?_
    refine WC.no rfl ?_
    refine WC.seq fun K22 hK22 => ?_
    refine WC.region ?_
    refine WL.pure (v := .slice q xs.length c) 39 rfl (Nat.le_of_ble_eq_true rfl) rfl rfl (by kernel_rfl) ?_
    refine WL.pure (v := vI (xs.length : Int)) 40 rfl (Nat.le_of_ble_eq_true rfl) rfl rfl (by kernel_rfl) ?_
    refine WL.pure (v := vP b3 1) 41 rfl (Nat.le_of_ble_eq_true rfl) rfl rfl (by kernel_rfl) ?_
    refine WL.pure (v := vI y) 42 rfl (Nat.le_of_ble_eq_true rfl) rfl rfl (x_load rfl rfl Try.underlying3 rfl (HP.cell hH3 1 rfl rfl)) ?_
    by_cases hfull : (xs.length : Int) = y
    ·
      refine WL.pure (v := .bool true) 43 rfl (Nat.le_of_ble_eq_true rfl) rfl rfl (x_eql rfl rfl rfl (dT (hfull))) ?_
      refine WL.pure (v := .bool true) 38 rfl (Nat.le_of_ble_eq_true rfl) rfl rfl (by kernel_rfl) ?_
      refine WL.nil ?_
      refine WQ.then ?_
      refine hK22 _ _ _ ?_
      refine WC.yes rfl ?_
      refine WC.region ?_
      refine WL.pure (v := .slice q xs.length c) 44 rfl (Nat.le_of_ble_eq_true rfl) rfl rfl (by kernel_rfl) ?_
      refine WL.pure (v := .slice q xs.length c) 45 rfl (Nat.le_of_ble_eq_true rfl) rfl rfl (by kernel_rfl) ?_
      refine WL.pure (v := vI (xs.length : Int)) 46 rfl (Nat.le_of_ble_eq_true rfl) rfl rfl (by kernel_rfl) ?_
      refine WL.pure (v := vI ((xs.length - 1 : Nat) : Int)) 47 rfl (Nat.le_of_ble_eq_true rfl) rfl rfl (x_sub (Z := ((xs.length - 1 : Nat) : Int)) rfl rfl rfl (by omega) (by omega) (by omega)) ?_
      refine WL.pure (v := .slice q ((xs.take (xs.length - 1)).length) c) 48 rfl (Nat.le_of_ble_eq_true rfl) rfl rfl (by rw [List.length_take_of_le (Nat.sub_le _ _)]; exact x_sliceH (xs.length - 1) rfl rfl rfl Try.underlying33 (by omega) (by have := hR.hc; simp only [] at this; omega) sz3) ?_
      refine WL.pure (v := .slice q ((xs.take (xs.length - 1)).length) c) 10 rfl (Nat.le_of_ble_eq_true rfl) rfl rfl (by kernel_rfl) ?_
      refine WL.nil ?_
      refine WQ.inNormal ?_
      refine WQ.then ?_
      refine hK9 _ _ _ ?_
      refine WC.sub (l' := [(0, .agg #[vI s, vI y, vI l, vI m]), (1, vS g n0 cp0), (2, vI a), (3, vP b3 0), (6, .bool false), (7, vI (a / l)), (8, vI (k : Int)), (9, vI (Lib.idxOf xs (a / l))), (10, .slice q ((xs.take (xs.length - 1)).length) c), (29, .bool false), (38, .bool true)]) ⟨rfl, rfl, rfl, rfl, rfl, rfl, rfl, rfl, rfl, rfl, rfl, trivial⟩ ?_
      refine WC.seq fun K23 hK23 => ?_
      refine WC.region ?_
      refine WL.pure (v := vS g n0 cp0) 49 rfl (Nat.le_of_ble_eq_true rfl) rfl rfl (by kernel_rfl) ?_
      refine WL.pure (v := vI (k : Int)) 50 rfl (Nat.le_of_ble_eq_true rfl) rfl rfl (by kernel_rfl) ?_
      refine WL.pure (v := vI (a / l)) 51 rfl (Nat.le_of_ble_eq_true rfl) rfl rfl (by kernel_rfl) ?_
      refine WL.alloc (c := #[vI (a / l)]) (T := 3) hH3 52 rfl (by decide) rfl rfl (fun b52 => vS b52 1 1) (by kernel_rfl) (fun b52 w24 hw24 => ?_)
      have hH25 : HP (Out [.cel g (sA S) 33]) w w24 [.cel g (sA S) 33, .cel b3 #[vI s, vI y, vI l, vI m] 23, .cel b52 #[vI (a / l)] 3] := hw24.2
      have nb52 := hw24.1
      clear hw24
      refine WL.pure (v := .slice q ((xs.take (xs.length - 1)).length) c) 53 rfl (Nat.le_of_ble_eq_true rfl) rfl rfl (by kernel_rfl) ?_
      have hO9 := HP.celToOwn hH25 2 (k := 1) (cap := 1) (s := 1) rfl (Nat.le_refl _) (by decide) rfl
      have hH26 : HP (Out [.cel g (sA S) 33]) w _ [.cel g (sA S) 33, .cel b3 #[vI s, vI y, vI l, vI m] 23, .own (.slice (some ⟨b52, 0, none⟩) 1 1) 1 [vI (a / l)] 3 1] := HP.eq hO9 rfl
      obtain ⟨i0, hi0, hz0, hz1, hz2⟩ := infoI
      have hyl : (xs.take (xs.length - 1)).length ≤ xs.length := by first | exact Nat.le_refl _ | (rw [List.length_eraseIdx_of_lt hk9l]; omega) | (rw [List.length_take]; omega)
      refine WL.appendSrc (iR (xs.take (xs.length - 1))) 2 hH26 54 rfl (by decide) rfl rfl rfl rfl Try.underlying33 hi0 hz0 hz1 hz2 rfl (by decide) rfl (src_of (InI.keep hR.row hO hH26) (by rw [List.length_take_of_le (Nat.sub_le _ _)]) hq0) (by simp) (fun u hu => by obtain ⟨x9, _, rfl⟩ := List.mem_map.1 hu; rfl) (by unfold maxLen; omega) (by omega) ?_
      rintro v7 w7 - hA7
      obtain ⟨pv7, cp7, rfl⟩ := own_row (HP.get hA7 2 rfl)
      have e7 : 1 + (xs.take (xs.length - 1)).length = (a / l :: (xs.take (xs.length - 1))).length := by simp; omega
      rw [e7] at hA7 ⊢
      have hH27 : HP (Out [.cel g (sA S) 33]) w _ [.cel g (sA S) 33, .cel b3 #[vI s, vI y, vI l, vI m] 23, rowI' pv7 cp7 (a / l :: (xs.take (xs.length - 1)))] := HP.eq hA7 rfl
      refine WL.pure (v := vP g k) 55 rfl (Nat.le_of_ble_eq_true rfl) rfl rfl (x_idx (k) (k) rfl rfl rfl Try.underlying24 sz33 (by omega) (by omega) (by omega)) ?_
      refine WL.store (c' := sA (S.set k ⟨pv7, (a / l :: (xs.take (xs.length - 1))), cp7⟩)) (H2 := _) 0 hH27 rfl rfl rfl rfl rfl rfl sz33 rfl (by rw [sA_size]; exact (List.getElem?_eq_some_iff.1 hkS).1) (sA_set (r := ⟨pv7, (a / l :: (xs.take (xs.length - 1))), cp7⟩)) rfl ?_
      intro w8 hB8
      have hH28 : HP (Out [.cel g (sA S) 33]) w _ [.cel g (sA (S.set k ⟨pv7, (a / l :: (xs.take (xs.length - 1))), cp7⟩)) 33, .cel b3 #[vI s, vI y, vI l, vI m] 23, rowI' pv7 cp7 (a / l :: (xs.take (xs.length - 1)))] := hB8
      refine WL.nil ?_
      refine WQ.then ?_
      refine hK23 _ _ _ ?_
      refine WC.sub (l' := [(0, .agg #[vI s, vI y, vI l, vI m]), (1, vS g n0 cp0), (2, vI a), (3, vP b3 0), (6, .bool false), (7, vI (a / l)), (8, vI (k : Int)), (9, vI (Lib.idxOf xs (a / l))), (10, .slice q ((xs.take (xs.length - 1)).length) c), (29, .bool false), (38, .bool true)]) ⟨rfl, rfl, rfl, rfl, rfl, rfl, rfl, rfl, rfl, rfl, rfl, trivial⟩ ?_
      refine WC.seq fun K29 hK29 => ?_
      refine WC.region ?_
      refine WL.pure (v := vI (Lib.idxOf xs (a / l))) 56 rfl (Nat.le_of_ble_eq_true rfl) rfl rfl (by kernel_rfl) ?_
      refine WL.pure (v := .bool false) 57 rfl (Nat.le_of_ble_eq_true rfl) rfl rfl (x_geq rfl rfl rfl (dF (h0))) ?_
      refine WL.pure (v := .bool false) 6 rfl (Nat.le_of_ble_eq_true rfl) rfl rfl (by kernel_rfl) ?_
      refine WL.nil ?_
      refine WQ.then ?_
      refine hK29 _ _ _ ?_
      refine WC.ret ?_
      refine WQ.ret1 6 rfl rfl ?_
      have e9 : tcX y (a / l) xs = (a / l :: (xs.take (xs.length - 1))) := by unfold tcX; rw [if_neg h0, if_pos (by omega)]
      exact ⟨pv7, cp7, by rw [decide_eq_false h0], by rw [e9]; exact (HP.drop hH28 1)⟩
    ·
      refine WL.pure (v := .bool false) 43 rfl (Nat.le_of_ble_eq_true rfl) rfl rfl (x_eql rfl rfl rfl (dF (hfull))) ?_
      refine WL.pure (v := .bool false) 38 rfl (Nat.le_of_ble_eq_true rfl) rfl rfl (by kernel_rfl) ?_
      refine WL.nil ?_
      refine WQ.then ?_
      refine hK22 _ _ _ ?_
      refine WC.no rfl ?_
      refine WC.skip ?_
      refine WQ.inNormal ?_
      refine WQ.then ?_
      refine hK9 _ _ _ ?_
      refine WC.seq fun K30 hK30 => ?_
      refine WC.region ?_
      refine WL.pure (v := vS g n0 cp0) 49 rfl (Nat.le_of_ble_eq_true rfl) rfl rfl (by kernel_rfl) ?_
      refine WL.pure (v := vI (k : Int)) 50 rfl (Nat.le_of_ble_eq_true rfl) rfl rfl (by kernel_rfl) ?_
      refine WL.pure (v := vI (a / l)) 51 rfl (Nat.le_of_ble_eq_true rfl) rfl rfl (by kernel_rfl) ?_
      refine WL.alloc (c := #[vI (a / l)]) (T := 3) hH3 52 rfl (by decide) rfl rfl (fun b52 => vS b52 1 1) (by kernel_rfl) (fun b52 w31 hw31 => ?_)
      have hH32 : HP (Out [.cel g (sA S) 33]) w w31 [.cel g (sA S) 33, .cel b3 #[vI s, vI y, vI l, vI m] 23, .cel b52 #[vI (a / l)] 3] := hw31.2
      have nb52 := hw31.1
      clear hw31
      refine WL.pure (v := .slice q xs.length c) 53 rfl (Nat.le_of_ble_eq_true rfl) rfl rfl (by kernel_rfl) ?_
      have hO9 := HP.celToOwn hH32 2 (k := 1) (cap := 1) (s := 1) rfl (Nat.le_refl _) (by decide) rfl
      have hH33 : HP (Out [.cel g (sA S) 33]) w _ [.cel g (sA S) 33, .cel b3 #[vI s, vI y, vI l, vI m] 23, .own (.slice (some ⟨b52, 0, none⟩) 1 1) 1 [vI (a / l)] 3 1] := HP.eq hO9 rfl
      obtain ⟨i0, hi0, hz0, hz1, hz2⟩ := infoI
      have hyl : xs.length ≤ xs.length := by first | exact Nat.le_refl _ | (rw [List.length_eraseIdx_of_lt hk9l]; omega) | (rw [List.length_take]; omega)
      refine WL.appendSrc (iR xs) 2 hH33 54 rfl (by decide) rfl rfl rfl rfl Try.underlying33 hi0 hz0 hz1 hz2 rfl (by decide) rfl (src_of (InI.keep hR.row hO hH33) (by rw [List.take_length]) hq0) (by simp) (fun u hu => by obtain ⟨x9, _, rfl⟩ := List.mem_map.1 hu; rfl) (by unfold maxLen; omega) (by omega) ?_
      rintro v7 w7 - hA7
      obtain ⟨pv7, cp7, rfl⟩ := own_row (HP.get hA7 2 rfl)
      have e7 : 1 + xs.length = (a / l :: xs).length := by simp; omega
      rw [e7] at hA7 ⊢
      have hH34 : HP (Out [.cel g (sA S) 33]) w _ [.cel g (sA S) 33, .cel b3 #[vI s, vI y, vI l, vI m] 23, rowI' pv7 cp7 (a / l :: xs)] := HP.eq hA7 rfl
      refine WL.pure (v := vP g k) 55 rfl (Nat.le_of_ble_eq_true rfl) rfl rfl (x_idx (k) (k) rfl rfl rfl Try.underlying24 sz33 (by omega) (by omega) (by omega)) ?_
      refine WL.store (c' := sA (S.set k ⟨pv7, (a / l :: xs), cp7⟩)) (H2 := _) 0 hH34 rfl rfl rfl rfl rfl rfl sz33 rfl (by rw [sA_size]; exact (List.getElem?_eq_some_iff.1 hkS).1) (sA_set (r := ⟨pv7, (a / l :: xs), cp7⟩)) rfl ?_
      intro w8 hB8
      have hH35 : HP (Out [.cel g (sA S) 33]) w _ [.cel g (sA (S.set k ⟨pv7, (a / l :: xs), cp7⟩)) 33, .cel b3 #[vI s, vI y, vI l, vI m] 23, rowI' pv7 cp7 (a / l :: xs)] := hB8
      refine WL.nil ?_
      refine WQ.then ?_
      refine hK30 _ _ _ ?_
      refine WC.sub (l' := [(0, .agg #[vI s, vI y, vI l, vI m]), (1, vS g n0 cp0), (2, vI a), (3, vP b3 0), (6, .bool false), (7, vI (a / l)), (8, vI (k : Int)), (9, vI (Lib.idxOf xs (a / l))), (10, .slice q xs.length c), (29, .bool false), (38, .bool false)]) ⟨rfl, rfl, rfl, rfl, rfl, rfl, rfl, rfl, rfl, rfl, rfl, trivial⟩ ?_
      refine WC.seq fun K36 hK36 => ?_
      refine WC.region ?_
      refine WL.pure (v := vI (Lib.idxOf xs (a / l))) 56 rfl (Nat.le_of_ble_eq_true rfl) rfl rfl (by kernel_rfl) ?_
      refine WL.pure (v := .bool false) 57 rfl (Nat.le_of_ble_eq_true rfl) rfl rfl (x_geq rfl rfl rfl (dF (h0))) ?_
      refine WL.pure (v := .bool false) 6 rfl (Nat.le_of_ble_eq_true rfl) rfl rfl (by kernel_rfl) ?_
      refine WL.nil ?_
      refine WQ.then ?_
      refine hK36 _ _ _ ?_
      refine WC.ret ?_
      refine WQ.ret1 6 rfl rfl ?_
      have e9 : tcX y (a / l) xs = (a / l :: xs) := by unfold tcX; rw [if_neg h0, if_neg (by omega)]
      exact ⟨pv7, cp7, by rw [decide_eq_false h0], by rw [e9]; exact (HP.drop hH35 1)⟩
end Ca
end Go.Proofs.Ytmjnakhpekbenaa
namespace Go.Proofs.Ytmjnakhpekbenaa
open Go.RowKit Fw
namespace Ca
/-- rows that can be read, of a state of one's own -/
def Rows (w : World) (S : List SlI) : Prop := ∀ r ∈ S, InR w r ∧ (r.q = none → r.c = 0)
theorem Rows.keep {w w' : World} {g : Nat} {S : List SlI} {H : List Ent} (h : Rows w S) (hO : w.heap[g]? = some (.cells (sA S) 33 (0, 0))) (hp : HP (Out [.cel g (sA S) 33]) w w' H) : Rows w' S := fun r hr => ⟨(h r hr).1.keep hO hp, (h r hr).2⟩
theorem Rows.set {w : World} {S : List SlI} {r : SlI} {k : Nat} (h : Rows w S) (hr : InR w r ∧ (r.q = none → r.c = 0)) : Rows w (S.set k r) := fun x hx => by
  rcases List.mem_or_eq_of_mem_set hx with h1 | rfl
  · exact h x h1
  · exact hr
theorem row_InR {w : World} {pv : Option Addr} {cp : Nat} {xs : List Int} (h : Ent.holds w (rowI' pv cp xs)) (hw : ∀ x ∈ xs, Wi x) : InR w ⟨pv, xs, cp⟩ ∧ (pv = none → cp = 0) := by
  refine ⟨⟨row_in h, ?_, ?_, hw⟩, fun e => by subst e; exact own_nil h⟩
  all_goals
    have h2 : w.ownsRow 0 3 1 (.slice pv xs.length cp) xs.length (iR xs) := h
    rcases h2.2 with ⟨h0, h1⟩ | ⟨g, cap, cur, hv, _, _, hnc, hm, _⟩
  · obtain ⟨-, hl0, hc0⟩ : pv = none ∧ xs.length = 0 ∧ cp = 0 := by simpa using h0
    show xs.length ≤ cp; omega
  · cases hv; exact hnc
  · obtain ⟨-, hl0, hc0⟩ : pv = none ∧ xs.length = 0 ∧ cp = 0 := by simpa using h0
    show cp ≤ maxLen; rw [hc0]; exact Nat.zero_le _
  · cases hv; exact hm
theorem nil_sA (n : Nat) : nilR n = sA (nilS n) := by
  apply Array.ext
  · simp [nilR, madeCells, sA]
  · intro i h1 h2
    have hi : i < n := by simpa [nilR, madeCells] using h1
    have e := nilR_at hi
    rw [Array.getElem?_eq_getElem h1, Option.some.injEq] at e
    rw [e]; simp [sA]
/-- the first i copied -/
def cpd (S S1 : List SlI) (i : Nat) : Prop := S1.length = S.length ∧ ∀ j, j < i → (S1.getD j ⟨none, [], 0⟩).xs = (S.getD j ⟨none, [], 0⟩).xs
theorem cpd_step {S S1 : List SlI} {i : Nat} {r : SlI} (h : cpd S S1 i) (hi : i < S.length) (hr : r.xs = (S.getD i ⟨none, [], 0⟩).xs) : cpd S (S1.set i r) (i + 1) := by
  refine ⟨by simp [h.1], fun j hj => ?_⟩
  by_cases e : j = i
  · subst e; rw [← hr]; simp [List.getD_eq_getElem?_getD, h.1, hi]
  · rw [← h.2 j (by omega)]; simp [List.getD_eq_getElem?_getD, List.getElem?_set_ne (Ne.symm e)]
theorem cpd_end {S S1 : List SlI} (h : cpd S S1 S.length) : stX S1 = stX S := by
  refine List.ext_getElem (by simp [stX, h.1]) fun i h1 h2 => ?_
  have hi : i < S.length := by simpa [stX] using h2
  have := h.2 i hi
  simpa [stX, List.getD_eq_getElem?_getD, hi, h.1] using this
set_option maxRecDepth 20000 in
set_option maxHeartbeats 4000000 in
theorem copied_any (p : Option Addr) (S : List SlI) (cp : Nat) (w : World) (hS : InS2 w p S) (hn : S.length ≤ 1000) (hx : ∀ r ∈ S, r.xs.length ≤ 1000000) :
    Calls Try.prog 49 #[.slice p S.length cp] w fun e w' => ∃ g S', e = .returned (.slice (some ⟨g, 0, none⟩) S.length S.length) ∧ stX S' = stX S ∧ HP Tr w w' [.cel g (sA S') 33] ∧ Rows w' S' := by
  refine calls_of Try.func49 rfl (m := 23) rfl [(0, .slice p S.length cp)] (Fr_enter [.slice p S.length cp] 23 (Nat.le_of_ble_eq_true rfl)) ?_
  have hH1 : HP Tr w w [] := HP.refl w
  refine WC.seq fun K2 hK2 => ?_
  refine WC.region ?_
  refine WL.pure (v := .slice none 0 0) 2 rfl (Nat.le_of_ble_eq_true rfl) rfl rfl (by kernel_rfl) ?_
  refine WL.nil ?_
  refine WQ.then ?_
  refine hK2 _ _ _ ?_
  refine WC.seq fun K3 hK3 => ?_
  refine WC.region ?_
  refine WL.pure (v := .slice p S.length cp) 5 rfl (Nat.le_of_ble_eq_true rfl) rfl rfl (by kernel_rfl) ?_
  refine WL.pure (v := vI (S.length : Int)) 6 rfl (Nat.le_of_ble_eq_true rfl) rfl rfl (by kernel_rfl) ?_
  refine WL.alloc (c := nilR S.length) (T := 33) hH1 7 rfl (by decide) rfl rfl (fun g => vS g S.length S.length) (x_makeR rfl rfl rfl (makeS2 S.length (by omega) _)) (fun g w9 hw9 => ?_)
  have hH9 : HP Tr w w9 [.cel g (sA (nilS S.length)) 33] := HP.eq hw9.2 (by rw [nil_sA]; rfl)
  refine WL.pure (v := vS g S.length S.length) 3 rfl (Nat.le_of_ble_eq_true rfl) rfl rfl (by kernel_rfl) ?_
  refine WL.nil ?_
  refine WQ.then ?_
  refine hK3 _ _ _ ?_
  refine WC.seq fun K4 hK4 => ?_
  refine WC.seq fun K5 hK5 => ?_
  refine WC.region ?_
  refine WL.pure (v := .slice p S.length cp) 8 rfl (Nat.le_of_ble_eq_true rfl) rfl rfl (by kernel_rfl) ?_
  refine WL.pure (v := vI (S.length : Int)) 9 rfl (Nat.le_of_ble_eq_true rfl) rfl rfl (by kernel_rfl) ?_
  refine WL.pure (v := vI 0) 10 rfl (Nat.le_of_ble_eq_true rfl) rfl rfl (by kernel_rfl) ?_
  refine WL.nil ?_
  refine WQ.then ?_
  refine hK5 _ _ _ ?_
  refine WC.block ?_
  refine WC.loop (fun kk0 ll0 ww0 => ∃ (i : Nat) (S1 : List SlI), ll0 = [(0, .slice p S.length cp), (3, vS g S.length S.length), (9, vI (S.length : Int)), (10, vI (i : Int))] ∧ kk0 = S.length - i ∧ (i ≤ S.length) ∧ (cpd S S1 i) ∧ (Rows ww0 S1) ∧ HP Tr w ww0 [.cel g (sA S1) 33]) (S.length) [(0, .slice p S.length cp), (3, vS g S.length S.length), (9, vI (S.length : Int)), (10, vI 0)] ⟨rfl, rfl, rfl, rfl, trivial⟩ ⟨0, nilS S.length, rfl, rfl, Nat.zero_le _, ⟨by simp, fun j hj => by omega⟩, fun r hr => by rw [List.eq_of_mem_replicate hr]; exact ⟨⟨fun h => absurd h (by simp), Nat.le_refl _, by decide, fun x hx => by cases hx⟩, fun _ => rfl⟩, hH9⟩ ?_
  rintro kk l w7 ⟨i, S1, rfl, hkk, hi, hcp, hrows, hH8⟩ K6 hK6
  have hInv := hH8
  have hO : (_ : World).heap[g]? = some (.cells (sA S1) 33 (0, 0)) := HP.get hInv 0 rfl
  have hR0 := HP.ownB (A := []) hInv
  have hH9 : HP (Out [.cel g (sA S1) 33]) w7 w7 [.cel g (sA S1) 33] := HP.startB hR0
  refine WC.seq fun K10 hK10 => ?_
  refine WC.region ?_
  by_cases hlt : (i : Int) < (S.length : Int)
  ·
    refine WL.pure (v := .bool true) 11 rfl (Nat.le_of_ble_eq_true rfl) rfl rfl (x_lss rfl rfl rfl (dT (hlt))) ?_
    refine WL.nil ?_
    refine WQ.then ?_
    refine hK10 _ _ _ ?_
    refine WC.seq fun K11 hK11 => ?_
    refine WC.yes rfl ?_
    refine WC.skip ?_
    refine WQ.then ?_
    refine hK11 _ _ _ ?_
    refine WC.seq fun K12 hK12 => ?_
    refine WC.block ?_
    refine WC.seq fun K13 hK13 => ?_
    refine WC.region ?_
    refine WL.pure (v := vI (i : Int)) 12 rfl (Nat.le_of_ble_eq_true rfl) rfl rfl (by kernel_rfl) ?_
    refine WL.pure (v := vI (i : Int)) 4 rfl (Nat.le_of_ble_eq_true rfl) rfl rfl (by kernel_rfl) ?_
    refine WL.nil ?_
    refine WQ.then ?_
    refine hK13 _ _ _ ?_
    obtain ⟨r, hr⟩ : ∃ r, S[i]? = some r := ⟨S[i]'(by omega), List.getElem?_eq_getElem _⟩
    obtain ⟨hr1, hr2, hr3, hr4⟩ := stX_at hr
    have hIR := (hS.below (HP.below hInv)).inn r hr4
    obtain ⟨gS, oS, hpS, hrowS⟩ := (hS.below (HP.below hInv)).row (by omega)
    have hxn := hx r hr4
    subst hpS
    refine WC.region ?_
    refine WL.pure (v := vS g S.length S.length) 13 rfl (Nat.le_of_ble_eq_true rfl) rfl rfl (by kernel_rfl) ?_
    refine WL.pure (v := vI (i : Int)) 14 rfl (Nat.le_of_ble_eq_true rfl) rfl rfl (by kernel_rfl) ?_
    refine WL.pure (v := .slice (some ⟨gS, oS, none⟩) S.length cp) 15 rfl (Nat.le_of_ble_eq_true rfl) rfl rfl (by kernel_rfl) ?_
    refine WL.pure (v := vI (i : Int)) 16 rfl (Nat.le_of_ble_eq_true rfl) rfl rfl (by kernel_rfl) ?_
    refine WL.pure (v := vP gS (oS + i)) 17 rfl (Nat.le_of_ble_eq_true rfl) rfl rfl (x_idx (i) (oS + i) rfl rfl rfl Try.underlying24 sz33 (by omega) (by omega) (by omega)) ?_
    refine WL.pure (v := .slice r.q r.xs.length r.c) 18 rfl (Nat.le_of_ble_eq_true rfl) rfl rfl (x_load rfl rfl Try.underlying33 rfl (by have q9 := hrowS i (by omega); rw [hr2] at q9; exact q9 0 _ rfl)) ?_
    refine WL.call (f := 72) (args := #[.slice r.q r.xs.length r.c]) 19 rfl (Nat.le_of_ble_eq_true rfl) rfl rfl (by kernel_rfl) ?_
    refine (clone_any r _ hIR hxn).mono ?_
    rintro e w14 ⟨pv, cp9, rfl, hb15⟩
    refine ⟨_, rfl, ?_⟩
    have hH16 : HP (Out [.cel g (sA S1) 33]) w7 _ [.cel g (sA S1) 33, rowI' pv cp9 r.xs] := HP.trans hH9 hb15
    refine WL.pure (v := vP g i) 20 rfl (Nat.le_of_ble_eq_true rfl) rfl rfl (x_idx (i) (i) rfl rfl rfl Try.underlying24 sz33 (by omega) (by omega) (by omega)) ?_
    refine WL.store (c' := sA (S1.set i ⟨pv, r.xs, cp9⟩)) (H2 := _) 0 hH16 rfl rfl rfl rfl rfl rfl sz33 rfl (by rw [sA_size, hcp.1]; omega) (sA_set (r := ⟨pv, r.xs, cp9⟩)) rfl ?_
    intro w8 hB8
    have hH17 : HP (Out [.cel g (sA S1) 33]) w7 _ [.cel g (sA (S1.set i ⟨pv, r.xs, cp9⟩)) 33, rowI' pv cp9 r.xs] := hB8
    refine WL.nil ?_
    refine WQ.inNormal ?_
    refine WQ.then ?_
    refine hK12 _ _ _ ?_
    refine WC.sub (l' := [(0, .slice (some ⟨gS, oS, none⟩) S.length cp), (3, vS g S.length S.length), (4, vI (i : Int)), (9, vI (S.length : Int)), (10, vI (i : Int)), (11, .bool true)]) ⟨rfl, rfl, rfl, rfl, rfl, rfl, trivial⟩ ?_
    refine WC.region ?_
    refine WL.pure (v := vI ((i + 1 : Nat) : Int)) 21 rfl (Nat.le_of_ble_eq_true rfl) rfl rfl (x_add (Z := ((i + 1 : Nat) : Int)) rfl rfl rfl (by omega) (by omega) (by omega)) ?_
    refine WL.pure (v := vI ((i + 1 : Nat) : Int)) 10 rfl (Nat.le_of_ble_eq_true rfl) rfl rfl (by kernel_rfl) ?_
    refine WL.nil ?_
    have hRw := (hrows.keep hO hH17).set (k := i) (row_InR (HP.get hH17 1 rfl) hIR.hw)
    refine WQ.sub (l' := [(0, .slice (some ⟨gS, oS, none⟩) S.length cp), (3, vS g S.length S.length), (9, vI (S.length : Int)), (10, vI ((i + 1 : Nat) : Int))]) ⟨rfl, rfl, rfl, rfl, trivial⟩ ?_
    refine WQ.then (hK6 _ _ _ (by omega) ⟨i + 1, S1.set i ⟨pv, r.xs, cp9⟩, rfl, rfl, by omega, cpd_step hcp (by omega) (by rw [hr2]), hRw, (HP.drop (HP.exch (A := []) hInv hH17) 1)⟩)
  ·
    refine WL.pure (v := .bool false) 11 rfl (Nat.le_of_ble_eq_true rfl) rfl rfl (x_lss rfl rfl rfl (dF (hlt))) ?_
    refine WL.nil ?_
    refine WQ.then ?_
    refine hK10 _ _ _ ?_
    refine WC.seq fun K18 hK18 => ?_
    refine WC.no rfl ?_
    refine WC.exit ?_
    refine WQ.thenExit ?_
    refine WQ.thenExit ?_
    refine WQ.inExit ?_
    refine WQ.then ?_
    refine hK4 _ _ _ ?_
    refine WC.seq fun K19 hK19 => ?_
    refine WC.region ?_
    refine WL.pure (v := vS g S.length S.length) 22 rfl (Nat.le_of_ble_eq_true rfl) rfl rfl (by kernel_rfl) ?_
    refine WL.pure (v := vS g S.length S.length) 2 rfl (Nat.le_of_ble_eq_true rfl) rfl rfl (by kernel_rfl) ?_
    refine WL.nil ?_
    refine WQ.then ?_
    refine hK19 _ _ _ ?_
    refine WC.ret ?_
    refine WQ.ret1 2 rfl rfl ?_
    have hil : i = S.length := by omega
    rw [hil] at hcp
    exact ⟨g, S1, rfl, cpd_end hcp, hInv, hrows⟩
end Ca
end Go.Proofs.Ytmjnakhpekbenaa
namespace Go.Proofs.Ytmjnakhpekbenaa
open Go.RowKit Fw
namespace Ca
def allW (xs : List Int) : Bool := xs.all fun x => wn x 0 999
theorem allW_yes {xs : List Int} (h : ∀ i, i < xs.length → wn (xs.getD i 0) 0 999 = true) : allW xs = true := List.all_eq_true.2 fun x hx => by
  obtain ⟨i, hi, rfl⟩ := List.mem_iff_getElem.1 hx
  have := h i hi
  simpa [List.getD_eq_getElem?_getD, hi] using this
theorem allW_no {xs : List Int} {i : Nat} (hi : i < xs.length) (h : wn (xs.getD i 0) 0 999 = false) : allW xs = false := by
  cases q : allW xs with
  | false => rfl
  | true =>
    have := List.all_eq_true.1 q xs[i] (List.getElem_mem hi)
    have e : xs.getD i 0 = xs[i] := by simp [List.getD_eq_getElem?_getD, hi]
    rw [e, this] at h; cases h
set_option maxRecDepth 20000 in
set_option maxHeartbeats 4000000 in
theorem wrong_any (a : Int) (w : World) :
    Calls Try.prog 47 #[vI a] w fun e w' => e = .returned (.bool (!wn a 0 999)) ∧ Below w.heap.size w w' := by
  refine calls_of Try.func47 rfl (m := 6) rfl [(0, vI a)] (Fr_enter [vI a] 6 (Nat.le_of_ble_eq_true rfl)) ?_
  have hH1 : HP Tr w w [] := HP.refl w
  refine WC.seq fun K2 hK2 => ?_
  refine WC.region ?_
  refine WL.pure (v := .bool false) 2 rfl (Nat.le_of_ble_eq_true rfl) rfl rfl (by kernel_rfl) ?_
  refine WL.nil ?_
  refine WQ.then ?_
  refine hK2 _ _ _ ?_
  refine WC.seq fun K3 hK3 => ?_
  refine WC.region ?_
  refine WL.pure (v := vI a) 3 rfl (Nat.le_of_ble_eq_true rfl) rfl rfl (by kernel_rfl) ?_
  refine WL.call (f := 44) (args := #[vI a, vI 0, vI 999]) 4 rfl (Nat.le_of_ble_eq_true rfl) rfl rfl (by kernel_rfl) ?_
  refine (within_any a 0 999 _).mono ?_
  rintro e w4 ⟨rfl, rfl⟩
  refine ⟨_, rfl, ?_⟩
  refine WL.pure (v := .bool (!(wn a 0 999))) 5 rfl (Nat.le_of_ble_eq_true rfl) rfl rfl (by kernel_rfl) ?_
  refine WL.pure (v := .bool (!(wn a 0 999))) 2 rfl (Nat.le_of_ble_eq_true rfl) rfl rfl (by kernel_rfl) ?_
  refine WL.nil ?_
  refine WQ.then ?_
  refine hK3 _ _ _ ?_
  refine WC.ret ?_
  refine WQ.ret1 2 rfl rfl ?_
  exact ⟨rfl, HP.below hH1⟩
set_option maxRecDepth 20000 in
set_option maxHeartbeats 4000000 in
theorem indexW_any (q : Option Addr) (xs : List Int) (c : Nat) (w : World) (hI : InI w q xs) (hn : xs.length ≤ 281474976710656) :
    Calls Try.prog 71 #[.slice q xs.length c, .func (.func 47) #[] #[]] w fun e w' => ∃ r : Int, e = .returned (.int .i64 r) ∧ (decide (0 ≤ r) = !allW xs) ∧ Below w.heap.size w w' := by
  refine calls_of Try.func71 rfl (m := 19) rfl [(0, .slice q xs.length c), (1, .func (.func 47) #[] #[])] (Fr_enter [.slice q xs.length c, .func (.func 47) #[] #[]] 19 (Nat.le_of_ble_eq_true rfl)) ?_
  have hH1 : HP Tr w w [] := HP.refl w
  refine WC.seq fun K2 hK2 => ?_
  refine WC.region ?_
  refine WL.pure (v := vI 0) 4 rfl (Nat.le_of_ble_eq_true rfl) rfl rfl (by kernel_rfl) ?_
  refine WL.nil ?_
  refine WQ.then ?_
  refine hK2 _ _ _ ?_
  refine WC.seq fun K3 hK3 => ?_
  refine WC.seq fun K4 hK4 => ?_
  refine WC.region ?_
  refine WL.pure (v := .slice q xs.length c) 6 rfl (Nat.le_of_ble_eq_true rfl) rfl rfl (by kernel_rfl) ?_
  refine WL.pure (v := vI (xs.length : Int)) 7 rfl (Nat.le_of_ble_eq_true rfl) rfl rfl (by kernel_rfl) ?_
  refine WL.pure (v := vI 0) 8 rfl (Nat.le_of_ble_eq_true rfl) rfl rfl (by kernel_rfl) ?_
  refine WL.nil ?_
  refine WQ.then ?_
  refine hK4 _ _ _ ?_
  refine WC.block ?_
  refine WC.loop (fun kk0 ll0 ww0 => ∃ (i : Nat), ll0 = [(0, .slice q xs.length c), (1, .func (.func 47) #[] #[]), (7, vI (xs.length : Int)), (8, vI (i : Int))] ∧ kk0 = xs.length - i ∧ (i ≤ xs.length) ∧ (∀ j, j < i → wn (xs.getD j 0) 0 999 = true) ∧ HP Tr w ww0 []) (xs.length) [(0, .slice q xs.length c), (1, .func (.func 47) #[] #[]), (7, vI (xs.length : Int)), (8, vI 0)] ⟨rfl, rfl, rfl, rfl, trivial⟩ ⟨0, rfl, rfl, Nat.zero_le _, fun j hj => by omega, hH1⟩ ?_
  rintro kk l w6 ⟨i, rfl, hkk, hi, hall, hH7⟩ K5 hK5
  refine WC.seq fun K8 hK8 => ?_
  refine WC.region ?_
  by_cases hlt : (i : Int) < (xs.length : Int)
  ·
    refine WL.pure (v := .bool true) 9 rfl (Nat.le_of_ble_eq_true rfl) rfl rfl (x_lss rfl rfl rfl (dT (hlt))) ?_
    refine WL.nil ?_
    refine WQ.then ?_
    refine hK8 _ _ _ ?_
    refine WC.seq fun K9 hK9 => ?_
    refine WC.yes rfl ?_
    refine WC.skip ?_
    refine WQ.then ?_
    refine hK9 _ _ _ ?_
    refine WC.seq fun K10 hK10 => ?_
    refine WC.block ?_
    refine WC.seq fun K11 hK11 => ?_
    refine WC.region ?_
    refine WL.pure (v := vI (i : Int)) 10 rfl (Nat.le_of_ble_eq_true rfl) rfl rfl (by kernel_rfl) ?_
    refine WL.pure (v := vI (i : Int)) 5 rfl (Nat.le_of_ble_eq_true rfl) rfl rfl (by kernel_rfl) ?_
    refine WL.nil ?_
    refine WQ.then ?_
    refine hK11 _ _ _ ?_
    refine WC.seq fun K12 hK12 => ?_
    obtain ⟨g, o, rfl, hrow⟩ := hI (by omega)
    refine WC.region ?_
    refine WL.pure (v := .func (.func 47) #[] #[]) 11 rfl (Nat.le_of_ble_eq_true rfl) rfl rfl (by kernel_rfl) ?_
    refine WL.pure (v := .slice (some ⟨g, o, none⟩) xs.length c) 12 rfl (Nat.le_of_ble_eq_true rfl) rfl rfl (by kernel_rfl) ?_
    refine WL.pure (v := vI (i : Int)) 13 rfl (Nat.le_of_ble_eq_true rfl) rfl rfl (by kernel_rfl) ?_
    refine WL.pure (v := vP g (o + i)) 14 rfl (Nat.le_of_ble_eq_true rfl) rfl rfl (x_idx (i) (o + i) rfl rfl rfl Try.underlying33 sz3 (by omega) (by omega) (by omega)) ?_
    refine WL.pure (v := vI (xs.getD i 0)) 15 rfl (Nat.le_of_ble_eq_true rfl) rfl rfl (x_load rfl rfl Try.underlying3 rfl ((HP.oldRange hH7 trivial (hrow i (by omega))) 0 _ rfl)) ?_
    refine WL.call (f := 47) (args := #[vI (xs.getD i 0)]) 16 rfl (Nat.le_of_ble_eq_true rfl) rfl rfl (by kernel_rfl) ?_
    refine (wrong_any _ _).mono ?_
    rintro e w13 ⟨rfl, hb14⟩
    refine ⟨_, rfl, ?_⟩
    have hH15 : HP Tr w _ [] := HP.call hH7 hb14
    refine WL.nil ?_
    refine WQ.then ?_
    refine hK12 _ _ _ ?_
    refine WC.sub (l' := [(0, .slice (some ⟨g, o, none⟩) xs.length c), (1, .func (.func 47) #[] #[]), (5, vI (i : Int)), (7, vI (xs.length : Int)), (8, vI (i : Int)), (9, .bool true), (16, .bool (!wn (xs.getD i 0) 0 999))]) ⟨rfl, rfl, rfl, rfl, rfl, rfl, rfl, trivial⟩ ?_
    rcases Bool.eq_false_or_eq_true (wn (xs.getD i 0) 0 999) with hw9 | hw9
    ·
      refine WC.no (congrArg (fun b => some (Value.bool (!b))) hw9) ?_
      refine WC.skip ?_
      refine WQ.inNormal ?_
      refine WQ.then ?_
      refine hK10 _ _ _ ?_
      refine WC.region ?_
      refine WL.pure (v := vI ((i + 1 : Nat) : Int)) 18 rfl (Nat.le_of_ble_eq_true rfl) rfl rfl (x_add (Z := ((i + 1 : Nat) : Int)) rfl rfl rfl (by omega) (by omega) (by omega)) ?_
      refine WL.pure (v := vI ((i + 1 : Nat) : Int)) 8 rfl (Nat.le_of_ble_eq_true rfl) rfl rfl (by kernel_rfl) ?_
      refine WL.nil ?_
      refine WQ.sub (l' := [(0, .slice (some ⟨g, o, none⟩) xs.length c), (1, .func (.func 47) #[] #[]), (7, vI (xs.length : Int)), (8, vI ((i + 1 : Nat) : Int))]) ⟨rfl, rfl, rfl, rfl, trivial⟩ ?_
      refine WQ.then (hK5 _ _ _ (by omega) ⟨i + 1, rfl, rfl, by omega, fun j hj => by
                by_cases q9 : j = i
                · subst q9; simpa using hw9
                · exact hall j (by omega), hH15⟩)
    ·
      refine WC.yes (congrArg (fun b => some (Value.bool (!b))) hw9) ?_
      refine WC.seq fun K16 hK16 => ?_
      refine WC.region ?_
      refine WL.pure (v := vI (i : Int)) 17 rfl (Nat.le_of_ble_eq_true rfl) rfl rfl (by kernel_rfl) ?_
      refine WL.pure (v := vI (i : Int)) 4 rfl (Nat.le_of_ble_eq_true rfl) rfl rfl (by kernel_rfl) ?_
      refine WL.nil ?_
      refine WQ.then ?_
      refine hK16 _ _ _ ?_
      refine WC.ret ?_
      refine WQ.inRet ?_
      refine WQ.thenRet ?_
      refine WQ.thenRet ?_
      refine WQ.inRet ?_
      refine WQ.thenRet ?_
      refine WQ.ret1 4 rfl rfl ?_
      exact ⟨(i : Int), rfl, by rw [allW_no (show i < xs.length by omega) (by simpa using hw9)]; simp, HP.below hH15⟩
  ·
    refine WL.pure (v := .bool false) 9 rfl (Nat.le_of_ble_eq_true rfl) rfl rfl (x_lss rfl rfl rfl (dF (hlt))) ?_
    refine WL.nil ?_
    refine WQ.then ?_
    refine hK8 _ _ _ ?_
    refine WC.seq fun K17 hK17 => ?_
    refine WC.no rfl ?_
    refine WC.exit ?_
    refine WQ.thenExit ?_
    refine WQ.thenExit ?_
    refine WQ.inExit ?_
    refine WQ.then ?_
    refine hK3 _ _ _ ?_
    refine WC.seq fun K18 hK18 => ?_
    refine WC.region ?_
    refine WL.pure (v := vI (-1)) 4 rfl (Nat.le_of_ble_eq_true rfl) rfl rfl (by kernel_rfl) ?_
    refine WL.nil ?_
    refine WQ.then ?_
    refine hK18 _ _ _ ?_
    refine WC.ret ?_
    refine WQ.ret1 4 rfl rfl ?_
    exact ⟨-1, rfl, by rw [allW_yes (fun j hj => hall j (by omega))]; decide, HP.below hH7⟩
set_option maxRecDepth 20000 in
set_option maxHeartbeats 4000000 in
theorem containsW_any (q : Option Addr) (xs : List Int) (c : Nat) (w : World) (hI : InI w q xs) (hn : xs.length ≤ 281474976710656) :
    Calls Try.prog 48 #[.slice q xs.length c, .func (.func 47) #[] #[]] w fun e w' => e = .returned (.bool (!allW xs)) ∧ Below w.heap.size w w' := by
  refine calls_of Try.func48 rfl (m := 9) rfl [(0, .slice q xs.length c), (1, .func (.func 47) #[] #[])] (Fr_enter [.slice q xs.length c, .func (.func 47) #[] #[]] 9 (Nat.le_of_ble_eq_true rfl)) ?_
  have hH1 : HP Tr w w [] := HP.refl w
  refine WC.seq fun K2 hK2 => ?_
  refine WC.region ?_
  refine WL.pure (v := .bool false) 4 rfl (Nat.le_of_ble_eq_true rfl) rfl rfl (by kernel_rfl) ?_
  refine WL.nil ?_
  refine WQ.then ?_
  refine hK2 _ _ _ ?_
  refine WC.seq fun K3 hK3 => ?_
  refine WC.region ?_
  refine WL.pure (v := .slice q xs.length c) 5 rfl (Nat.le_of_ble_eq_true rfl) rfl rfl (by kernel_rfl) ?_
  refine WL.pure (v := .func (.func 47) #[] #[]) 6 rfl (Nat.le_of_ble_eq_true rfl) rfl rfl (by kernel_rfl) ?_
  refine WL.call (f := 71) (args := #[.slice q xs.length c, .func (.func 47) #[] #[]]) 7 rfl (Nat.le_of_ble_eq_true rfl) rfl rfl (by kernel_rfl) ?_
  refine (indexW_any q xs c _ (hI.below (HP.below hH1)) hn).mono ?_
  rintro e w4 ⟨r, rfl, hr, hb5⟩
  refine ⟨_, rfl, ?_⟩
  have hH6 : HP Tr w _ [] := HP.call hH1 hb5
  by_cases h8 : (0 : Int) ≤ r
  ·
    refine WL.pure (v := .bool true) 8 rfl (Nat.le_of_ble_eq_true rfl) rfl rfl (x_geq rfl rfl rfl (dT (h8))) ?_
    refine WL.pure (v := .bool true) 4 rfl (Nat.le_of_ble_eq_true rfl) rfl rfl (by kernel_rfl) ?_
    refine WL.nil ?_
    refine WQ.then ?_
    refine hK3 _ _ _ ?_
    refine WC.ret ?_
    refine WQ.ret1 4 rfl rfl ?_
    exact ⟨by rw [← hr, decide_eq_true h8], HP.below hH6⟩
  ·
    refine WL.pure (v := .bool false) 8 rfl (Nat.le_of_ble_eq_true rfl) rfl rfl (x_geq rfl rfl rfl (dF (h8))) ?_
    refine WL.pure (v := .bool false) 4 rfl (Nat.le_of_ble_eq_true rfl) rfl rfl (by kernel_rfl) ?_
    refine WL.nil ?_
    refine WQ.then ?_
    refine hK3 _ _ _ ?_
    refine WC.ret ?_
    refine WQ.ret1 4 rfl rfl ?_
    exact ⟨by rw [← hr, decide_eq_false h8], HP.below hH6⟩
end Ca
end Go.Proofs.Ytmjnakhpekbenaa
namespace Go.Proofs.Ytmjnakhpekbenaa
open Go.RowKit Fw
namespace Ca
theorem idx_spec (x : Int) (xs : List Int) : (Lib.idxOf xs x < 0 ∧ ∀ i, i < xs.length → xs.getD i 0 ≠ x) ∨ (∃ k : Nat, Lib.idxOf xs x = (k : Int) ∧ k < xs.length ∧ xs.getD k 0 = x ∧ ∀ j, j < k → xs.getD j 0 ≠ x) := by
  rw [idx_plc]
  unfold plcV
  rcases plc_spec x xs with ⟨h1, h2⟩ | ⟨k, h1, h2, h3, h4⟩
  · rw [h1]; exact .inl ⟨by decide, h2⟩
  · rw [h1]; exact .inr ⟨k, rfl, h2, h3, h4⟩
/-! States, plainly. -/
theorem okR_iff2 {s y k : Int} {xs : List Int} : okR s y k xs = true ↔ (xs.length : Int) ≤ y ∧ (∀ x ∈ xs, (0 ≤ x ∧ x ≤ 999) ∧ x.tmod s = k) ∧ xs.Nodup := by
  rw [okR_iff]
  have gd : ∀ i (h : i < xs.length), xs.getD i 0 = xs[i] := fun i h => by simp [List.getD_eq_getElem?_getD, h]
  refine ⟨fun ⟨h1, h2⟩ => ⟨h1, fun x hx => ?_, ?_⟩, fun ⟨h1, h2, h3⟩ => ⟨h1, fun i hi => ?_⟩⟩
  · obtain ⟨i, hi, rfl⟩ := List.mem_iff_getElem.1 hx
    have := h2 i hi
    simp only [okX, Bool.and_eq_true, decide_eq_true_eq, gd i hi] at this
    exact ⟨wn_iff.1 this.1, this.2.1⟩
  · refine List.pairwise_iff_getElem.2 fun i j hi hj hij e => ?_
    have := h2 j hj
    simp only [okX, Bool.and_eq_true, Bool.not_eq_true', gd j hj] at this
    have h4 := this.2.2
    have : xs[j] ∈ xs.take j := by
      rw [← e]
      exact List.mem_iff_getElem.2 ⟨i, by simp; omega, by simp⟩
    rw [List.contains_iff_mem.2 this] at h4
    cases h4
  · simp only [okX, Bool.and_eq_true, decide_eq_true_eq, Bool.not_eq_true', gd i hi]
    obtain ⟨q1, q2⟩ := h2 xs[i] (List.getElem_mem hi)
    refine ⟨wn_iff.2 q1, q2, ?_⟩
    cases q : (xs.take i).contains xs[i] with
    | false => rfl
    | true =>
      obtain ⟨j, hj, e⟩ := List.mem_iff_getElem.1 (List.contains_iff_mem.1 q)
      simp only [List.length_take] at hj
      simp only [List.getElem_take] at e
      exact absurd e (List.pairwise_iff_getElem.1 h3 j i (by omega) hi (by omega))
theorem erase_eq : ∀ {xs : List Int} {k : Nat} {x : Int}, xs.Nodup → k < xs.length → xs.getD k 0 = x → xs.eraseIdx k = xs.filter (fun z => z != x)
  | a :: r, 0, x, hn, hk, he => by
    have he : a = x := by simpa using he
    subst he
    have h1 : ∀ z ∈ r, a ≠ z := (List.pairwise_cons.1 hn).1
    rw [List.filter_cons_of_neg (by simp), List.filter_eq_self.2 fun z hz => by simpa using fun e => h1 z hz e.symm]
    rfl
  | a :: r, k + 1, x, hn, hk, he => by
    have he : r.getD k 0 = x := by simpa using he
    have hk' : k < r.length := by simpa using hk
    have hx : x ∈ r := by rw [← he]; simp [List.getD_eq_getElem?_getD, hk']
    have h1 : a ≠ x := (List.pairwise_cons.1 hn).1 x hx
    rw [List.filter_cons_of_pos (by simpa using h1), List.eraseIdx_cons_succ, erase_eq (List.pairwise_cons.1 hn).2 hk' he]
theorem not_mem_of {xs : List Int} {x : Int} (h : ∀ i, i < xs.length → xs.getD i 0 ≠ x) : x ∉ xs := fun hx => by
  obtain ⟨i, hi, e⟩ := List.mem_iff_getElem.1 hx
  exact h i hi (by simp [List.getD_eq_getElem?_getD, hi, e])
theorem filter_self {xs : List Int} {x : Int} (h : x ∉ xs) : xs.filter (fun z => z != x) = xs := List.filter_eq_self.2 fun z hz => by
  have : z ≠ x := fun e => h (e ▸ hz)
  simpa using this
/-- a row touched, as the reference builds it -/
def tcF (y x : Int) (xs : List Int) : List Int := x :: (xs.filter fun z => z != x).take (y.toNat - 1)
theorem tcX_eq {s y k x : Int} {xs : List Int} (h : okR s y k xs = true) (hy : 1 ≤ y) : tcX y x xs = tcF y x xs := by
  obtain ⟨h1, h2, h3⟩ := okR_iff2.1 h
  unfold tcX tcF
  rcases idx_spec x xs with ⟨q1, q2⟩ | ⟨k0, q1, q2, q3, _⟩
  · have hx := not_mem_of q2
    rw [if_neg (by omega), filter_self hx]
    by_cases e : (xs.length : Int) = y
    · rw [if_pos e, show y.toNat - 1 = xs.length - 1 by omega]
    · rw [if_neg e, List.take_of_length_le (by omega)]
  · rw [if_pos (by omega), q1, Int.toNat_natCast, ← erase_eq h3 q2 q3, List.take_of_length_le]
    rw [List.length_eraseIdx_of_lt q2]; omega
theorem tcF_ok {s y k x : Int} {xs : List Int} (h : okR s y k xs = true) (hy : 1 ≤ y) (hx : 0 ≤ x ∧ x ≤ 999) (hk : x.tmod s = k) : okR s y k (tcF y x xs) = true := by
  obtain ⟨h1, h2, h3⟩ := okR_iff2.1 h
  have hs : ((xs.filter fun z => z != x).take (y.toNat - 1)).Sublist xs := (List.take_sublist _ _).trans List.filter_sublist
  refine okR_iff2.2 ⟨?_, fun z hz => ?_, ?_⟩
  · unfold tcF; simp; omega
  · rcases List.mem_cons.1 hz with rfl | hz
    · exact ⟨hx, hk⟩
    · exact h2 z (hs.subset hz)
  · refine List.pairwise_cons.2 ⟨fun z hz => ?_, h3.sublist hs⟩
    have := (List.mem_filter.1 (List.mem_of_mem_take hz)).2
    intro e; subst e; simp at this
/-- one address touched -/
def setN (s l a : Int) : Nat := ((a / l).tmod s).toNat
def stp (s y l a : Int) (X : List (List Int)) : List (List Int) := X.set (setN s l a) (tcX y (a / l) (X.getD (setN s l a) []))
def hitN (s l a : Int) (X : List (List Int)) : Nat := if 0 ≤ Lib.idxOf (X.getD (setN s l a) []) (a / l) then 1 else 0
def runX (s y l : Int) : List Int → List (List Int) × Nat → List (List Int) × Nat
  | [], p => p
  | a :: r, p => runX s y l r (stp s y l a p.1, p.2 + hitN s l a p.1)
theorem run_drop {s y l : Int} {zs : List Int} {i : Nat} (h : i < zs.length) (p : List (List Int) × Nat) : runX s y l (zs.drop i) p = runX s y l (zs.drop (i + 1)) (stp s y l (zs.getD i 0) p.1, p.2 + hitN s l (zs.getD i 0) p.1) := by
  rw [List.drop_eq_getElem_cons h]
  have e : zs.getD i 0 = zs[i] := by simp [List.getD_eq_getElem?_getD, h]
  rw [e]; rfl
theorem line_bd {l a : Int} (hl : 1 ≤ l ∧ l ≤ 8) (ha : 0 ≤ a ∧ a ≤ 999) : 0 ≤ a / l ∧ a / l ≤ 999 := ⟨Int.ediv_nonneg ha.1 (by omega), Int.le_trans (Int.ediv_le_self _ ha.1) ha.2⟩
theorem setN_spec {s l a : Int} (hs : 1 ≤ s ∧ s ≤ 8) (hl : 1 ≤ l ∧ l ≤ 8) (ha : 0 ≤ a ∧ a ≤ 999) : (a / l).tmod s = (setN s l a : Int) ∧ (setN s l a : Int) < s := by
  have h0 := (line_bd hl ha).1
  have h1 : (a / l).tmod s = (a / l) % s := Int.tmod_eq_emod_of_nonneg h0
  have h2 := Int.emod_nonneg (a / l) (show s ≠ 0 by omega)
  have h3 := Int.emod_lt_of_pos (a / l) (show 0 < s by omega)
  unfold setN
  rw [h1]; omega
theorem getD_set_eq {X : List (List Int)} {k : Nat} {r : List Int} (h : k < X.length) : (X.set k r).getD k [] = r := by simp [List.getD_eq_getElem?_getD, h]
theorem getD_set_ne {X : List (List Int)} {k j : Nat} {r : List Int} (h : k ≠ j) : (X.set k r).getD j [] = X.getD j [] := by simp [List.getD_eq_getElem?_getD, List.getElem?_set_ne h]
theorem okSt_stp {s y l m a : Int} {X : List (List Int)} (h : okSt s y l m X = true) (ha : 0 ≤ a ∧ a ≤ 999) : okSt s y l m (stp s y l a X) = true := by
  obtain ⟨h1, h2, h3⟩ := okSt_iff.1 h
  obtain ⟨hs, hy, hl, -⟩ := vG_iff.1 h1
  obtain ⟨e1, e2⟩ := setN_spec hs hl ha
  have hk : setN s l a < X.length := by omega
  refine okSt_iff.2 ⟨h1, by unfold stp; simpa using h2, fun k hk2 => ?_⟩
  unfold stp at hk2 ⊢
  by_cases e : setN s l a = k
  · subst e
    rw [getD_set_eq hk, tcX_eq (h3 _ hk) hy.1]
    exact tcF_ok (h3 _ hk) hy.1 (line_bd hl ha) e1
  · rw [getD_set_ne e]
    exact h3 k (by simpa using hk2)
theorem stp_length (s y l a : Int) (X : List (List Int)) : (stp s y l a X).length = X.length := by simp [stp]
theorem run_length (s y l : Int) : ∀ (zs : List Int) (p : List (List Int) × Nat), (runX s y l zs p).1.length = p.1.length
  | [], _ => rfl
  | a :: r, p => by rw [runX, run_length s y l r, stp_length]
theorem allW_iff {xs : List Int} : allW xs = true ↔ ∀ x ∈ xs, 0 ≤ x ∧ x ≤ 999 := by
  unfold allW
  rw [List.all_eq_true]
  exact ⟨fun h x hx => wn_iff.1 (h x hx), fun h x hx => wn_iff.2 (h x hx)⟩
/-- what is touched twice is there, and nothing changes -/
theorem hit_twice {s y l m a : Int} {X : List (List Int)} (h : okSt s y l m X = true) (ha : 0 ≤ a ∧ a ≤ 999) : hitN s l a (stp s y l a X) = 1 ∧ stp s y l a (stp s y l a X) = stp s y l a X := by
  obtain ⟨h1, h2, h3⟩ := okSt_iff.1 h
  obtain ⟨hs, hy, hl, -⟩ := vG_iff.1 h1
  obtain ⟨e1, e2⟩ := setN_spec hs hl ha
  have hk : setN s l a < X.length := by omega
  have g : (stp s y l a X).getD (setN s l a) [] = tcF y (a / l) (X.getD (setN s l a) []) := by unfold stp; rw [getD_set_eq hk, tcX_eq (h3 _ hk) hy.1]
  have ok := tcF_ok (h3 _ hk) hy.1 (line_bd hl ha) e1
  constructor
  · unfold hitN
    rw [g]
    rcases idx_spec (a / l) (tcF y (a / l) (X.getD (setN s l a) [])) with ⟨-, q2⟩ | ⟨k0, q1, _⟩
    · exact absurd rfl (q2 0 (by simp [tcF]))
    · rw [if_pos (by omega)]
  · have e : tcX y (a / l) (tcF y (a / l) (X.getD (setN s l a) [])) = tcF y (a / l) (X.getD (setN s l a) []) := by
      rw [tcX_eq ok hy.1]
      obtain ⟨-, -, nd⟩ := okR_iff2.1 ok
      have hn := (List.pairwise_cons.1 nd).1
      show tcF y (a / l) (_ :: _) = _
      unfold tcF
      rw [List.filter_cons_of_neg (by simp), filter_self (fun hx => hn _ hx rfl), List.take_take, Nat.min_self]
    have u : ∀ Y, stp s y l a Y = Y.set (setN s l a) (tcX y (a / l) (Y.getD (setN s l a) [])) := fun _ => rfl
    rw [u (stp s y l a X), g, e, ← tcX_eq (h3 _ hk) hy.1, u X, List.set_set]
theorem stX_set (S : List SlI) (k : Nat) (r : SlI) : stX (S.set k r) = (stX S).set k r.xs := by simp [stX, List.map_set]
end Ca
end Go.Proofs.Ytmjnakhpekbenaa
namespace Go.Proofs.Ytmjnakhpekbenaa
open Go.RowKit Fw
namespace Ca
def runOk (s y l m : Int) (X : List (List Int)) (zs : List Int) : Bool := okSt s y l m X && (decide ((zs.length : Int) ≤ 1000) && allW zs)
theorem runOk_iff {s y l m : Int} {X : List (List Int)} {zs : List Int} : runOk s y l m X zs = true ↔ okSt s y l m X = true ∧ (zs.length : Int) ≤ 1000 ∧ allW zs = true := by simp [runOk]
def RunR (s y l m : Int) (S : List SlI) (zs : List Int) (w : World) (e : Ending) (w' : World) : Prop :=
  (runOk s y l m (stX S) zs = false ∧ e = .returned (.tuple #[.slice none 0 0, vI 0, vI 1]) ∧ Below w.heap.size w w') ∨
  (runOk s y l m (stX S) zs = true ∧ ∃ g S', e = .returned (.tuple #[.slice (some ⟨g, 0, none⟩) S.length S.length, vI (((runX s y l zs (stX S, 0)).2 : Nat) : Int), vI 0]) ∧ stX S' = (runX s y l zs (stX S, 0)).1 ∧ HP Tr w w' [.cel g (sA S') 33] ∧ Rows w' S')
theorem ValidState_at {s y l m : Int} {S : List SlI} {r : Bool} (h : okSt s y l m (stX S) = r) (p : Option Addr) (cp : Nat) (w : World) (hS : InS2 w p S) (hn : S.length ≤ 281474976710656) :
    Calls Try.prog 15 #[.agg #[vI s, vI y, vI l, vI m], .slice p S.length cp] w fun e w' => e = .returned (.bool r) ∧ Below w.heap.size w w' := h ▸ ValidState_any s y l m p S cp w hS hn
theorem containsW_at {xs : List Int} {r : Bool} (h : allW xs = r) (q : Option Addr) (c : Nat) (w : World) (hI : InI w q xs) (hn : xs.length ≤ 281474976710656) :
    Calls Try.prog 48 #[.slice q xs.length c, .func (.func 47) #[] #[]] w fun e w' => e = .returned (.bool (!r)) ∧ Below w.heap.size w w' := h ▸ containsW_any q xs c w hI hn
theorem okSt_rows {s y l m : Int} {S : List SlI} (h : okSt s y l m (stX S) = true) : (S.length : Int) = s ∧ ∀ r ∈ S, r.xs.length ≤ 4 := by
  obtain ⟨h1, h2, h3⟩ := okSt_iff.1 h
  obtain ⟨hs, hy, -, -⟩ := vG_iff.1 h1
  rw [stX_len] at h2 h3
  refine ⟨h2, fun r hr => ?_⟩
  obtain ⟨i, hi, rfl⟩ := List.mem_iff_getElem.1 hr
  have := (okR_iff.1 (h3 i hi)).1
  rw [(stX_at (List.getElem?_eq_getElem hi)).1] at this
  omega
theorem okSt_wi {s y l m : Int} {X : List (List Int)} (h : okSt s y l m X = true) {k : Nat} (hk : k < X.length) : ∀ x ∈ X.getD k [], Wi x := fun x hx => by
  have := ((okR_iff2.1 ((okSt_iff.1 h).2.2 k hk)).2.1 x hx).1
  exact ⟨by omega, by omega⟩
set_option maxRecDepth 20000 in
set_option maxHeartbeats 4000000 in
theorem Run_any (s y l m : Int) (p : Option Addr) (S : List SlI) (cp : Nat) (q2 : Option Addr) (zs : List Int) (c2 : Nat) (w : World) (hS : InS2 w p S) (hn : S.length ≤ 281474976710656) (hI : InI w q2 zs) (hzn : zs.length ≤ 281474976710656) :
    Calls Try.prog 17 #[.agg #[vI s, vI y, vI l, vI m], .slice p S.length cp, .slice q2 zs.length c2] w (RunR s y l m S zs w) := by
  refine calls_of Try.func17 rfl (m := 45) rfl [(0, .agg #[vI s, vI y, vI l, vI m]), (1, .slice p S.length cp), (2, .slice q2 zs.length c2)] (Fr_enter [.agg #[vI s, vI y, vI l, vI m], .slice p S.length cp, .slice q2 zs.length c2] 45 (Nat.le_of_ble_eq_true rfl)) ?_
  have hH1 : HP Tr w w [] := HP.refl w
  refine WC.seq fun K2 hK2 => ?_
  refine WC.region ?_
  refine WL.alloc (c := #[vI s, vI y, vI l, vI m]) (T := 23) hH1 3 rfl (by decide) rfl rfl (fun b3 => vP b3 0) (by kernel_rfl) (fun b3 w3 hw3 => ?_)
  have hH4 : HP Tr w w3 [.cel b3 #[vI s, vI y, vI l, vI m] 23] := hw3.2
  have nb3 := hw3.1
  clear hw3
  refine WL.pure (v := .slice none 0 0) 6 rfl (Nat.le_of_ble_eq_true rfl) rfl rfl (by kernel_rfl) ?_
  refine WL.pure (v := vI 0) 7 rfl (Nat.le_of_ble_eq_true rfl) rfl rfl (by kernel_rfl) ?_
  refine WL.pure (v := vI 0) 8 rfl (Nat.le_of_ble_eq_true rfl) rfl rfl (by kernel_rfl) ?_
  refine WL.nil ?_
  refine WQ.then ?_
  refine hK2 _ _ _ ?_
  refine WC.seq fun K5 hK5 => ?_
  refine WC.region ?_
  refine WL.pure (v := .func (.func 47) #[] #[]) 9 rfl (Nat.le_of_ble_eq_true rfl) rfl rfl (by kernel_rfl) ?_
  refine WL.nil ?_
  refine WQ.then ?_
  refine hK5 _ _ _ ?_
  refine WC.seq fun K6 hK6 => ?_
  refine WC.seq fun K7 hK7 => ?_
  refine WC.region ?_
  refine WL.pure (v := .agg #[vI s, vI y, vI l, vI m]) 14 rfl (Nat.le_of_ble_eq_true rfl) rfl rfl (x_loadS (cs := [vI s, vI y, vI l, vI m]) rfl rfl Try.underlying23 rfl sz23 (HP.range hH4 0 rfl rfl)) ?_
  refine WL.pure (v := .slice p S.length cp) 15 rfl (Nat.le_of_ble_eq_true rfl) rfl rfl (by kernel_rfl) ?_
  rcases Bool.eq_false_or_eq_true (okSt s y l m (stX S)) with hv | hv
  ·
    refine WL.call (f := 15) (args := #[.agg #[vI s, vI y, vI l, vI m], .slice p S.length cp]) 16 rfl (Nat.le_of_ble_eq_true rfl) rfl rfl (by kernel_rfl) ?_
    refine (ValidState_at hv p cp _ (hS.below (HP.below hH4)) hn).mono ?_
    rintro e w8 ⟨rfl, hb9⟩
    refine ⟨_, rfl, ?_⟩
    have hH10 : HP Tr w _ [.cel b3 #[vI s, vI y, vI l, vI m] 23] := HP.call hH4 hb9
    refine WL.pure (v := .bool false) 17 rfl (Nat.le_of_ble_eq_true rfl) rfl rfl (by kernel_rfl) ?_
    refine WL.pure (v := .bool false) 18 rfl (Nat.le_of_ble_eq_true rfl) rfl rfl (by kernel_rfl) ?_
    refine WL.pure (v := .slice q2 zs.length c2) 19 rfl (Nat.le_of_ble_eq_true rfl) rfl rfl (by kernel_rfl) ?_
    refine WL.pure (v := vI (zs.length : Int)) 20 rfl (Nat.le_of_ble_eq_true rfl) rfl rfl (by kernel_rfl) ?_
    by_cases hlen : (1000 : Int) < (zs.length : Int)
    ·
      refine WL.pure (v := .bool true) 21 rfl (Nat.le_of_ble_eq_true rfl) rfl rfl (x_gtr rfl rfl rfl (dT (hlen))) ?_
      refine WL.pure (v := .bool true) 22 rfl (Nat.le_of_ble_eq_true rfl) rfl rfl (by kernel_rfl) ?_
      refine WL.pure (v := .bool true) 23 rfl (Nat.le_of_ble_eq_true rfl) rfl rfl (by kernel_rfl) ?_
      refine WL.pass 24 rfl (Nat.le_of_ble_eq_true rfl) rfl ?_
      refine WL.pass 25 rfl (Nat.le_of_ble_eq_true rfl) rfl ?_
      refine WL.pass 26 rfl (Nat.le_of_ble_eq_true rfl) rfl ?_
      refine WL.pure (v := .bool true) 27 rfl (Nat.le_of_ble_eq_true rfl) rfl rfl (by kernel_rfl) ?_
      refine WL.nil ?_
      refine WQ.then ?_
      refine hK7 _ _ _ ?_
      refine WC.sub (l' := [(0, .agg #[vI s, vI y, vI l, vI m]), (1, .slice p S.length cp), (2, .slice q2 zs.length c2), (3, vP b3 0), (6, .slice none 0 0), (7, vI 0), (8, vI 0), (9, .func (.func 47) #[] #[]), (27, .bool true)]) ⟨rfl, rfl, rfl, rfl, rfl, rfl, rfl, rfl, rfl, trivial⟩ ?_
      refine WC.yes rfl ?_
      refine WC.seq fun K11 hK11 => ?_
      have hno : runOk s y l m (stX S) zs = false := by unfold runOk; rw [hv, decide_eq_false (by omega)]; rfl
      refine WC.region ?_
      refine WL.pure (v := .slice none 0 0) 6 rfl (Nat.le_of_ble_eq_true rfl) rfl rfl (by kernel_rfl) ?_
      refine WL.pure (v := vI 0) 7 rfl (Nat.le_of_ble_eq_true rfl) rfl rfl (by kernel_rfl) ?_
      refine WL.pure (v := vI 1) 8 rfl (Nat.le_of_ble_eq_true rfl) rfl rfl (by kernel_rfl) ?_
      refine WL.nil ?_
      refine WQ.then ?_
      refine hK11 _ _ _ ?_
      refine WC.ret ?_
      refine WQ.thenRet ?_
      refine WQ.ret3 6 7 8 rfl rfl rfl rfl ?_
      exact .inl ⟨hno, rfl, HP.below hH10⟩
    ·
      refine WL.pure (v := .bool false) 21 rfl (Nat.le_of_ble_eq_true rfl) rfl rfl (x_gtr rfl rfl rfl (dF (hlen))) ?_
      refine WL.pure (v := .bool false) 22 rfl (Nat.le_of_ble_eq_true rfl) rfl rfl (by kernel_rfl) ?_
      refine WL.pure (v := .bool false) 23 rfl (Nat.le_of_ble_eq_true rfl) rfl rfl (by kernel_rfl) ?_
      refine WL.pure (v := .slice q2 zs.length c2) 24 rfl (Nat.le_of_ble_eq_true rfl) rfl rfl (by kernel_rfl) ?_
      refine WL.pure (v := .func (.func 47) #[] #[]) 25 rfl (Nat.le_of_ble_eq_true rfl) rfl rfl (by kernel_rfl) ?_
      rcases Bool.eq_false_or_eq_true (allW zs) with ha | ha
      ·
        refine WL.call (f := 48) (args := #[.slice q2 zs.length c2, .func (.func 47) #[] #[]]) 26 rfl (Nat.le_of_ble_eq_true rfl) rfl rfl (by kernel_rfl) ?_
        refine (containsW_at ha q2 c2 _ (hI.below (HP.below hH10)) hzn).mono ?_
        rintro e w12 ⟨rfl, hb13⟩
        refine ⟨_, rfl, ?_⟩
        have hH14 : HP Tr w _ [.cel b3 #[vI s, vI y, vI l, vI m] 23] := HP.call hH10 hb13
        refine WL.pure (v := .bool false) 27 rfl (Nat.le_of_ble_eq_true rfl) rfl rfl (by kernel_rfl) ?_
        refine WL.nil ?_
        refine WQ.then ?_
        refine hK7 _ _ _ ?_
        refine WC.sub (l' := [(0, .agg #[vI s, vI y, vI l, vI m]), (1, .slice p S.length cp), (2, .slice q2 zs.length c2), (3, vP b3 0), (6, .slice none 0 0), (7, vI 0), (8, vI 0), (9, .func (.func 47) #[] #[]), (27, .bool false)]) ⟨rfl, rfl, rfl, rfl, rfl, rfl, rfl, rfl, rfl, trivial⟩ ?_
        refine WC.no rfl ?_
        refine WC.skip ?_
        refine WQ.then ?_
        refine hK6 _ _ _ ?_
        refine WC.seq fun K15 hK15 => ?_
        refine WC.region ?_
        refine WL.pure (v := .slice p S.length cp) 28 rfl (Nat.le_of_ble_eq_true rfl) rfl rfl (by kernel_rfl) ?_
        have hyes : runOk s y l m (stX S) zs = true := runOk_iff.2 ⟨hv, by omega, ha⟩
        obtain ⟨hSs, hrl⟩ := okSt_rows hv
        obtain ⟨⟨hs1, hs2⟩, ⟨hy1, hy2⟩, ⟨hl1, hl2⟩, -⟩ := vG_iff.1 (okSt_iff.1 hv).1
        refine WL.call (f := 49) (args := #[.slice p S.length cp]) 29 rfl (Nat.le_of_ble_eq_true rfl) rfl rfl (by kernel_rfl) ?_
        refine (copied_any p S cp _ (hS.below (HP.below hH14)) (by omega) (fun r hr => by have := hrl r hr; omega)).mono ?_
        rintro e w16 ⟨g, S1, rfl, hX1, hb17, hR1⟩
        refine ⟨_, rfl, ?_⟩
        have hH18 : HP Tr w _ [.cel b3 #[vI s, vI y, vI l, vI m] 23, .cel g (sA S1) 33] := HP.trans hH14 hb17
        refine WL.pure (v := vS g S.length S.length) 10 rfl (Nat.le_of_ble_eq_true rfl) rfl rfl (by kernel_rfl) ?_
        refine WL.pure (v := vI 0) 11 rfl (Nat.le_of_ble_eq_true rfl) rfl rfl (by kernel_rfl) ?_
        refine WL.nil ?_
        refine WQ.then ?_
        refine hK15 _ _ _ ?_
        refine WC.seq fun K19 hK19 => ?_
        refine WC.seq fun K20 hK20 => ?_
        refine WC.region ?_
        refine WL.pure (v := .slice q2 zs.length c2) 30 rfl (Nat.le_of_ble_eq_true rfl) rfl rfl (by kernel_rfl) ?_
        refine WL.pure (v := vI (zs.length : Int)) 31 rfl (Nat.le_of_ble_eq_true rfl) rfl rfl (by kernel_rfl) ?_
        refine WL.pure (v := vI 0) 32 rfl (Nat.le_of_ble_eq_true rfl) rfl rfl (by kernel_rfl) ?_
        refine WL.nil ?_
        refine WQ.then ?_
        refine hK20 _ _ _ ?_
        refine WC.block ?_
        refine WC.loop (fun kk0 ll0 ww0 => ∃ (i : Nat) (S2 : List SlI) (h : Nat), ll0 = [(2, .slice q2 zs.length c2), (3, vP b3 0), (10, vS g S.length S.length), (11, vI (h : Int)), (30, .slice q2 zs.length c2), (31, vI (zs.length : Int)), (32, vI (i : Int))] ∧ kk0 = zs.length - i ∧ (i ≤ zs.length) ∧ (runX s y l (zs.drop i) (stX S2, h) = runX s y l zs (stX S, 0)) ∧ (Rows ww0 S2) ∧ (okSt s y l m (stX S2) = true) ∧ (h ≤ i) ∧ (S2.length = S.length) ∧ HP Tr w ww0 [.cel b3 #[vI s, vI y, vI l, vI m] 23, .cel g (sA S2) 33]) (zs.length) [(2, .slice q2 zs.length c2), (3, vP b3 0), (10, vS g S.length S.length), (11, vI 0), (30, .slice q2 zs.length c2), (31, vI (zs.length : Int)), (32, vI 0)] ⟨rfl, rfl, rfl, rfl, rfl, rfl, rfl, trivial⟩ ⟨0, S1, 0, rfl, rfl, Nat.zero_le _, by rw [List.drop_zero, hX1], hR1, by rw [hX1]; exact hv, Nat.le_refl _, by rw [← stX_len S1, hX1, stX_len], hH18⟩ ?_
        rintro kk l w22 ⟨i, S2, h, rfl, hkk, hi, hrun, hrows, hok, hh, hlS, hH23⟩ K21 hK21
        refine WC.seq fun K24 hK24 => ?_
        refine WC.region ?_
        by_cases hlt : (i : Int) < (zs.length : Int)
        ·
          refine WL.pure (v := .bool true) 33 rfl (Nat.le_of_ble_eq_true rfl) rfl rfl (x_lss rfl rfl rfl (dT (hlt))) ?_
          refine WL.nil ?_
          refine WQ.then ?_
          refine hK24 _ _ _ ?_
          refine WC.seq fun K25 hK25 => ?_
          refine WC.yes rfl ?_
          refine WC.skip ?_
          refine WQ.then ?_
          refine hK25 _ _ _ ?_
          refine WC.seq fun K26 hK26 => ?_
          refine WC.block ?_
          refine WC.seq fun K27 hK27 => ?_
          obtain ⟨gz, oz, hqz, hrowz⟩ := hI (by omega)
          subst hqz
          refine WC.region ?_
          refine WL.pure (v := vP gz (oz + i)) 34 rfl (Nat.le_of_ble_eq_true rfl) rfl rfl (x_idx (i) (oz + i) rfl rfl rfl Try.underlying33 sz3 (by omega) (by omega) (by omega)) ?_
          refine WL.pure (v := vI (zs.getD i 0)) 35 rfl (Nat.le_of_ble_eq_true rfl) rfl rfl (x_load rfl rfl Try.underlying3 rfl ((HP.oldRange hH23 trivial (hrowz i (by omega))) 0 _ rfl)) ?_
          refine WL.pure (v := vI (zs.getD i 0)) 13 rfl (Nat.le_of_ble_eq_true rfl) rfl rfl (by kernel_rfl) ?_
          refine WL.nil ?_
          refine WQ.then ?_
          refine hK27 _ _ _ ?_
          refine WC.seq fun K28 hK28 => ?_
          refine WC.region ?_
          refine WL.pure (v := .agg #[vI s, vI y, vI l, vI m]) 36 rfl (Nat.le_of_ble_eq_true rfl) rfl rfl (x_loadS (cs := [vI s, vI y, vI l, vI m]) rfl rfl Try.underlying23 rfl sz23 (HP.range hH23 0 rfl rfl)) ?_
          refine WL.pure (v := vS g S.length S.length) 37 rfl (Nat.le_of_ble_eq_true rfl) rfl rfl (by kernel_rfl) ?_
          refine WL.pure (v := vI (zs.getD i 0)) 38 rfl (Nat.le_of_ble_eq_true rfl) rfl rfl (by kernel_rfl) ?_
          have haz : 0 ≤ zs.getD i 0 ∧ zs.getD i 0 ≤ 999 := allW_iff.1 ha _ (by simp [List.getD_eq_getElem?_getD, show i < zs.length by omega])
          obtain ⟨hk1, hk2⟩ := setN_spec ⟨hs1, hs2⟩ ⟨hl1, hl2⟩ haz
          obtain ⟨⟨q9, xs9, c9⟩, hkS⟩ : ∃ r, S2[setN s l (zs.getD i 0)]? = some r := ⟨S2[setN s l (zs.getD i 0)]'(by omega), List.getElem?_eq_getElem _⟩
          obtain ⟨hr1, hr2, hr3, hr4⟩ := stX_at hkS
          have hrl2 := (okSt_rows hok).2 _ hr4
          simp only [] at hr1 hrl2
          have hRk := hrows _ hr4
          have hO : (_ : World).heap[g]? = some (.cells (sA S2) 33 (0, 0)) := HP.get hH23 1 rfl
          refine WL.call (f := 50) (args := #[.agg #[vI s, vI y, vI l, vI m], vS g S.length S.length, vI (zs.getD i 0)]) 39 rfl (Nat.le_of_ble_eq_true rfl) rfl rfl (by kernel_rfl) ?_
          refine (touch_any g S.length S.length S2 s y l m (zs.getD i 0) (setN s l (zs.getD i 0)) q9 xs9 c9 _ (HP.ownB (A := [Go.Proofs.Ytmjnakhpekbenaa.Fw.Ent.cel b3 #[vI s, vI y, vI l, vI m] 23]) hH23) ⟨hs1, hs2⟩ ⟨hl1, hl2⟩ haz ⟨hy1, hy2⟩ hk1 hkS hRk.1 hRk.2 (by omega) hlS).mono ?_
          rintro e w9 ⟨pv, cp9, rfl, hb9⟩
          refine ⟨_, rfl, ?_⟩
          have hok2 := okSt_stp hok haz
          have hstp : stX (S2.set (setN s l (zs.getD i 0)) ⟨pv, tcX y (zs.getD i 0 / l) xs9, cp9⟩) = stp s y l (zs.getD i 0) (stX S2) := by unfold stp; rw [stX_set, hr1]
          have hwi9 : ∀ x ∈ tcX y (zs.getD i 0 / l) xs9, Wi x := by have q8 := okSt_wi hok2 (k := setN s l (zs.getD i 0)) (by rw [stp_length, stX_len]; exact hr3); rw [← hstp, stX_set, getD_set_eq (by rw [stX_len]; exact hr3)] at q8; exact q8
          have hrows2 := (hrows.keep hO hb9).set (k := setN s l (zs.getD i 0)) (row_InR (HP.get hb9 1 rfl) hwi9)
          have hH29 : HP Tr w _ [.cel b3 #[vI s, vI y, vI l, vI m] 23, .cel g (sA (S2.set (setN s l (zs.getD i 0)) ⟨pv, tcX y (zs.getD i 0 / l) xs9, cp9⟩)) 33, rowI' pv cp9 (tcX y (zs.getD i 0 / l) xs9)] := HP.exch (A := [Go.Proofs.Ytmjnakhpekbenaa.Fw.Ent.cel b3 #[vI s, vI y, vI l, vI m] 23]) hH23 hb9
          refine WL.nil ?_
          refine WQ.then ?_
          refine hK28 _ _ _ ?_
          rcases Bool.eq_false_or_eq_true ((decide (0 ≤ Lib.idxOf xs9 (zs.getD i 0 / l)))) with hd | hd
          ·
            refine WC.yes (congrArg (fun b => some (Value.bool b)) hd) ?_
            refine WC.region ?_
            refine WL.pure (v := vI (h : Int)) 40 rfl (Nat.le_of_ble_eq_true rfl) rfl rfl (by kernel_rfl) ?_
            refine WL.pure (v := vI ((h + 1 : Nat) : Int)) 41 rfl (Nat.le_of_ble_eq_true rfl) rfl rfl (x_add (Z := ((h + 1 : Nat) : Int)) rfl rfl rfl (by omega) (by omega) (by omega)) ?_
            refine WL.pure (v := vI ((h + 1 : Nat) : Int)) 11 rfl (Nat.le_of_ble_eq_true rfl) rfl rfl (by kernel_rfl) ?_
            refine WL.nil ?_
            refine WQ.inNormal ?_
            refine WQ.then ?_
            refine hK26 _ _ _ ?_
            refine WC.sub (l' := [(2, .slice (some ⟨gz, oz, none⟩) zs.length c2), (3, vP b3 0), (10, vS g S.length S.length), (11, vI ((h + 1 : Nat) : Int)), (13, vI (zs.getD i 0)), (30, .slice (some ⟨gz, oz, none⟩) zs.length c2), (31, vI (zs.length : Int)), (32, vI (i : Int)), (33, .bool true), (39, .bool (decide (0 ≤ Lib.idxOf xs9 (zs.getD i 0 / l))))]) ⟨rfl, rfl, rfl, rfl, rfl, rfl, rfl, rfl, rfl, rfl, trivial⟩ ?_
            refine WC.region ?_
            refine WL.pure (v := vI ((i + 1 : Nat) : Int)) 42 rfl (Nat.le_of_ble_eq_true rfl) rfl rfl (x_add (Z := ((i + 1 : Nat) : Int)) rfl rfl rfl (by omega) (by omega) (by omega)) ?_
            refine WL.pure (v := vI ((i + 1 : Nat) : Int)) 32 rfl (Nat.le_of_ble_eq_true rfl) rfl rfl (by kernel_rfl) ?_
            refine WL.nil ?_
            have hhit : hitN s l (zs.getD i 0) (stX S2) = 1 := by unfold hitN; rw [hr1, if_pos (of_decide_eq_true hd)]
            refine WQ.sub (l' := [(2, .slice (some ⟨gz, oz, none⟩) zs.length c2), (3, vP b3 0), (10, vS g S.length S.length), (11, vI ((h + 1 : Nat) : Int)), (30, .slice (some ⟨gz, oz, none⟩) zs.length c2), (31, vI (zs.length : Int)), (32, vI ((i + 1 : Nat) : Int))]) ⟨rfl, rfl, rfl, rfl, rfl, rfl, rfl, trivial⟩ ?_
            refine WQ.then (hK21 _ _ _ (by omega) ⟨i + 1, S2.set (setN s l (zs.getD i 0)) ⟨pv, tcX y (zs.getD i 0 / l) xs9, cp9⟩, h + 1, rfl, rfl, by omega, by rw [← hrun, run_drop (show i < zs.length by omega), hstp, hhit], hrows2, by rw [hstp]; exact hok2, by omega, by simpa using hlS, (HP.drop hH29 2)⟩)
          ·
            refine WC.no (congrArg (fun b => some (Value.bool b)) hd) ?_
            refine WC.skip ?_
            refine WQ.inNormal ?_
            refine WQ.then ?_
            refine hK26 _ _ _ ?_
            refine WC.region ?_
            refine WL.pure (v := vI ((i + 1 : Nat) : Int)) 42 rfl (Nat.le_of_ble_eq_true rfl) rfl rfl (x_add (Z := ((i + 1 : Nat) : Int)) rfl rfl rfl (by omega) (by omega) (by omega)) ?_
            refine WL.pure (v := vI ((i + 1 : Nat) : Int)) 32 rfl (Nat.le_of_ble_eq_true rfl) rfl rfl (by kernel_rfl) ?_
            refine WL.nil ?_
            have hhit : hitN s l (zs.getD i 0) (stX S2) = 0 := by unfold hitN; rw [hr1, if_neg (of_decide_eq_false hd)]
            refine WQ.sub (l' := [(2, .slice (some ⟨gz, oz, none⟩) zs.length c2), (3, vP b3 0), (10, vS g S.length S.length), (11, vI (h : Int)), (30, .slice (some ⟨gz, oz, none⟩) zs.length c2), (31, vI (zs.length : Int)), (32, vI ((i + 1 : Nat) : Int))]) ⟨rfl, rfl, rfl, rfl, rfl, rfl, rfl, trivial⟩ ?_
            refine WQ.then (hK21 _ _ _ (by omega) ⟨i + 1, S2.set (setN s l (zs.getD i 0)) ⟨pv, tcX y (zs.getD i 0 / l) xs9, cp9⟩, h, rfl, rfl, by omega, by rw [← hrun, run_drop (show i < zs.length by omega), hstp, hhit]; rfl, hrows2, by rw [hstp]; exact hok2, by omega, by simpa using hlS, (HP.drop hH29 2)⟩)
        ·
          refine WL.pure (v := .bool false) 33 rfl (Nat.le_of_ble_eq_true rfl) rfl rfl (x_lss rfl rfl rfl (dF (hlt))) ?_
          refine WL.nil ?_
          refine WQ.then ?_
          refine hK24 _ _ _ ?_
          refine WC.seq fun K30 hK30 => ?_
          refine WC.no rfl ?_
          refine WC.exit ?_
          refine WQ.thenExit ?_
          refine WQ.thenExit ?_
          refine WQ.inExit ?_
          refine WQ.then ?_
          refine hK19 _ _ _ ?_
          refine WC.seq fun K31 hK31 => ?_
          rw [List.drop_eq_nil_of_le (show zs.length ≤ i by omega)] at hrun
          have hr8 : (stX S2, h) = runX s y l zs (stX S, 0) := hrun
          refine WC.region ?_
          refine WL.pure (v := vS g S.length S.length) 43 rfl (Nat.le_of_ble_eq_true rfl) rfl rfl (by kernel_rfl) ?_
          refine WL.pure (v := vI (h : Int)) 44 rfl (Nat.le_of_ble_eq_true rfl) rfl rfl (by kernel_rfl) ?_
          refine WL.pure (v := vS g S.length S.length) 6 rfl (Nat.le_of_ble_eq_true rfl) rfl rfl (by kernel_rfl) ?_
          refine WL.pure (v := vI (h : Int)) 7 rfl (Nat.le_of_ble_eq_true rfl) rfl rfl (by kernel_rfl) ?_
          refine WL.pure (v := vI 0) 8 rfl (Nat.le_of_ble_eq_true rfl) rfl rfl (by kernel_rfl) ?_
          refine WL.nil ?_
          refine WQ.then ?_
          refine hK31 _ _ _ ?_
          refine WC.ret ?_
          refine WQ.ret3 6 7 8 rfl rfl rfl rfl ?_
          exact .inr ⟨hyes, g, S2, by rw [← hr8], by rw [← hr8], HP.drop hH23 0, hrows⟩
      ·
        refine WL.call (f := 48) (args := #[.slice q2 zs.length c2, .func (.func 47) #[] #[]]) 26 rfl (Nat.le_of_ble_eq_true rfl) rfl rfl (by kernel_rfl) ?_
        refine (containsW_at ha q2 c2 _ (hI.below (HP.below hH10)) hzn).mono ?_
        rintro e w32 ⟨rfl, hb33⟩
        refine ⟨_, rfl, ?_⟩
        have hH34 : HP Tr w _ [.cel b3 #[vI s, vI y, vI l, vI m] 23] := HP.call hH10 hb33
        refine WL.pure (v := .bool true) 27 rfl (Nat.le_of_ble_eq_true rfl) rfl rfl (by kernel_rfl) ?_
        refine WL.nil ?_
        refine WQ.then ?_
        refine hK7 _ _ _ ?_
        refine WC.sub (l' := [(0, .agg #[vI s, vI y, vI l, vI m]), (1, .slice p S.length cp), (2, .slice q2 zs.length c2), (3, vP b3 0), (6, .slice none 0 0), (7, vI 0), (8, vI 0), (9, .func (.func 47) #[] #[]), (27, .bool true)]) ⟨rfl, rfl, rfl, rfl, rfl, rfl, rfl, rfl, rfl, trivial⟩ ?_
        refine WC.yes rfl ?_
        refine WC.seq fun K35 hK35 => ?_
        have hno : runOk s y l m (stX S) zs = false := by unfold runOk; rw [hv, ha, Bool.and_false, Bool.and_false]
        refine WC.region ?_
        refine WL.pure (v := .slice none 0 0) 6 rfl (Nat.le_of_ble_eq_true rfl) rfl rfl (by kernel_rfl) ?_
        refine WL.pure (v := vI 0) 7 rfl (Nat.le_of_ble_eq_true rfl) rfl rfl (by kernel_rfl) ?_
        refine WL.pure (v := vI 1) 8 rfl (Nat.le_of_ble_eq_true rfl) rfl rfl (by kernel_rfl) ?_
        refine WL.nil ?_
        refine WQ.then ?_
        refine hK35 _ _ _ ?_
        refine WC.ret ?_
        refine WQ.thenRet ?_
        refine WQ.ret3 6 7 8 rfl rfl rfl rfl ?_
        exact .inl ⟨hno, rfl, HP.below hH34⟩
  ·
    refine WL.call (f := 15) (args := #[.agg #[vI s, vI y, vI l, vI m], .slice p S.length cp]) 16 rfl (Nat.le_of_ble_eq_true rfl) rfl rfl (by kernel_rfl) ?_
    refine (ValidState_at hv p cp _ (hS.below (HP.below hH4)) hn).mono ?_
    rintro e w36 ⟨rfl, hb37⟩
    refine ⟨_, rfl, ?_⟩
    have hH38 : HP Tr w _ [.cel b3 #[vI s, vI y, vI l, vI m] 23] := HP.call hH4 hb37
    refine WL.pure (v := .bool true) 17 rfl (Nat.le_of_ble_eq_true rfl) rfl rfl (by kernel_rfl) ?_
    refine WL.pure (v := .bool true) 18 rfl (Nat.le_of_ble_eq_true rfl) rfl rfl (by kernel_rfl) ?_
    refine WL.pass 19 rfl (Nat.le_of_ble_eq_true rfl) rfl ?_
    refine WL.pass 20 rfl (Nat.le_of_ble_eq_true rfl) rfl ?_
    refine WL.pass 21 rfl (Nat.le_of_ble_eq_true rfl) rfl ?_
    refine WL.pure (v := .bool true) 22 rfl (Nat.le_of_ble_eq_true rfl) rfl rfl (by kernel_rfl) ?_
    refine WL.pure (v := .bool true) 23 rfl (Nat.le_of_ble_eq_true rfl) rfl rfl (by kernel_rfl) ?_
    refine WL.pass 24 rfl (Nat.le_of_ble_eq_true rfl) rfl ?_
    refine WL.pass 25 rfl (Nat.le_of_ble_eq_true rfl) rfl ?_
    refine WL.pass 26 rfl (Nat.le_of_ble_eq_true rfl) rfl ?_
    refine WL.pure (v := .bool true) 27 rfl (Nat.le_of_ble_eq_true rfl) rfl rfl (by kernel_rfl) ?_
    refine WL.nil ?_
    refine WQ.then ?_
    refine hK7 _ _ _ ?_
    refine WC.sub (l' := [(0, .agg #[vI s, vI y, vI l, vI m]), (1, .slice p S.length cp), (2, .slice q2 zs.length c2), (3, vP b3 0), (6, .slice none 0 0), (7, vI 0), (8, vI 0), (9, .func (.func 47) #[] #[]), (27, .bool true)]) ⟨rfl, rfl, rfl, rfl, rfl, rfl, rfl, rfl, rfl, trivial⟩ ?_
    refine WC.yes rfl ?_
    refine WC.seq fun K39 hK39 => ?_
    have hno : runOk s y l m (stX S) zs = false := by unfold runOk; rw [hv]; rfl
    refine WC.region ?_
    refine WL.pure (v := .slice none 0 0) 6 rfl (Nat.le_of_ble_eq_true rfl) rfl rfl (by kernel_rfl) ?_
    refine WL.pure (v := vI 0) 7 rfl (Nat.le_of_ble_eq_true rfl) rfl rfl (by kernel_rfl) ?_
    refine WL.pure (v := vI 1) 8 rfl (Nat.le_of_ble_eq_true rfl) rfl rfl (by kernel_rfl) ?_
    refine WL.nil ?_
    refine WQ.then ?_
    refine hK39 _ _ _ ?_
    refine WC.ret ?_
    refine WQ.thenRet ?_
    refine WQ.ret3 6 7 8 rfl rfl rfl rfl ?_
    exact .inl ⟨hno, rfl, HP.below hH38⟩
end Ca
end Go.Proofs.Ytmjnakhpekbenaa
namespace Go.Proofs.Ytmjnakhpekbenaa
open Go.RowKit
namespace Fw
section
variable {P : Program} {S : Nat → Prop} {w0 w : World} {H : List Ent} {γ : Type} {Wt Kn R1 R2 : Prop} {ρ : Operand → Value} {o : Oper} {val : γ → Value} {agr : γ → Prop} {WI : γ → World → Prop}
theorem cf_alloc {c : Array Value} {T : TypeId} (hH : HP S w0 w H) (V : Nat → Value) (hw : Wt) (hk : Kn) (hr : (execOp ρ o).run P w = .ok (.value (V w.heap.size)) (w.alloc (.cells c T)))
    (k : ∀ b w', HP S w0 w' (H ++ [.cel b c T]) → ∃ g', agr g' ∧ val g' = V b ∧ WI g' w') :
    (Wt ∧ Kn ∧ ((∃ g' w', agr g' ∧ (execOp ρ o).run P w = .ok (.value (val g')) w' ∧ WI g' w') ∨ R1)) ∨ R2 := by
  obtain ⟨g', h1, h2, h3⟩ := k _ _ (HP.alloc hH c T)
  exact .inl ⟨hw, hk, .inl ⟨g', _, h1, by rw [h2]; exact hr, h3⟩⟩
theorem cf_append {t e : TypeId} {inf : TypeInfo} {z : Value} {sz by' : Nat} {x y : Operand} {v : Value} {k m : Nat} {xs : List Value} (news : List Value) {bn cp : Nat} {cn : Array Value} (i j : Nat) (hH : HP S w0 w H) (hw : Wt) (hkn : Kn)
    (ho : o.op = .call { callee := .builtin .append, args := #[x, y], argTypes := #[t, t] }) (hx : ρ x = v) (hy : ρ y = .slice (some ⟨bn, 0, none⟩) m cp)
    (ht : P.underlying t = some (.slice e)) (hi' : P.info? e = some inf) (hz : inf.zero = some z) (hsz : inf.size = sz) (hby : inf.bytes = by') (hzs : z.cells.size = sz) (h0 : 0 < sz)
    (hi : H[i]? = some (.own v k xs e sz)) (hj : H[j]? = some (.cel bn cn e)) (hnews : cn.toList.take news.length = news) (hl : news.length = m * sz) (h1 : ∀ u ∈ news, u.oneCell' = true) (h63 : k + m ≤ maxLen) (hb : (k + m) * by' ≤ 140737488355328)
    (h : ∀ v' w2, HP S w0 w2 (H.set i (.own v' (k + m) (xs ++ news) e sz)) → ∃ g', agr g' ∧ val g' = v' ∧ WI g' w2) :
    (Wt ∧ Kn ∧ ((∃ g' w', agr g' ∧ (execOp ρ o).run P w = .ok (.value (val g')) w' ∧ WI g' w') ∨ R1)) ∨ R2 := by
  obtain ⟨v', w2, hr, g1, g2, g3, g4⟩ := append_ent (P := P) w t o.type e inf z sz by' ht hi' hz hsz hby hzs h0 v k xs (hH.get i hi) ⟨bn, 0, none⟩ m cp news hl (fun q u hu => by
    rw [Addr.add_mid]
    exact hH.range j hj (by simpa using hnews) q u hu) h1 h63 hb
  obtain ⟨g', a1, a2, a3⟩ := h v' w2 (hH.change i hi g2.os g2.tape g2.output g2.size (fun q hq hne => g2.block q hq fun e => hne e.symm) ⟨g1.1, g1.2⟩ g4)
  exact .inl ⟨hw, hkn, .inl ⟨g', w2, a1, by rw [a2]; exact x_append (P := P) ho hx hy hr, a3⟩⟩
theorem cf_appendSrc {t e : TypeId} {inf : TypeInfo} {z : Value} {sz by' : Nat} {x y : Operand} {v : Value} {k m : Nat} {xs : List Value} (news : List Value) {p : Option Addr} {cp : Nat} (i : Nat) (hH : HP S w0 w H) (hw : Wt) (hkn : Kn)
    (ho : o.op = .call { callee := .builtin .append, args := #[x, y], argTypes := #[t, t] }) (hx : ρ x = v) (hy : ρ y = .slice p m cp)
    (ht : P.underlying t = some (.slice e)) (hi' : P.info? e = some inf) (hz : inf.zero = some z) (hsz : inf.size = sz) (hby : inf.bytes = by') (hzs : z.cells.size = sz) (h0 : 0 < sz)
    (hi : H[i]? = some (.own v k xs e sz)) (hsrc : (∃ a, p = some a ∧ ∀ q u, news[q]? = some u → w.cell? (a.add q) = some u) ∨ (p = none ∧ m = 0 ∧ cp = 0)) (hl : news.length = m * sz) (h1 : ∀ u ∈ news, u.oneCell' = true) (h63 : k + m ≤ maxLen) (hb : (k + m) * by' ≤ 140737488355328)
    (h : ∀ v' w2, HP S w0 w2 (H.set i (.own v' (k + m) (xs ++ news) e sz)) → ∃ g', agr g' ∧ val g' = v' ∧ WI g' w2) :
    (Wt ∧ Kn ∧ ((∃ g' w', agr g' ∧ (execOp ρ o).run P w = .ok (.value (val g')) w' ∧ WI g' w') ∨ R1)) ∨ R2 := by
  rcases hsrc with ⟨ad, rfl, hc⟩ | ⟨rfl, rfl, rfl⟩
  · obtain ⟨v', w2, hr, g1, g2, g3, g4⟩ := append_ent (P := P) w t o.type e inf z sz by' ht hi' hz hsz hby hzs h0 v k xs (hH.get i hi) ad m cp news hl hc h1 h63 hb
    obtain ⟨g', a1, a2, a3⟩ := h v' w2 (hH.change i hi g2.os g2.tape g2.output g2.size (fun q hq hne => g2.block q hq fun e => hne e.symm) ⟨g1.1, g1.2⟩ g4)
    exact .inl ⟨hw, hkn, .inl ⟨g', w2, a1, by rw [a2]; exact x_append (P := P) ho hx hy hr, a3⟩⟩
  · have hnil : news = [] := List.length_eq_zero_iff.1 (by rw [hl]; simp)
    subst hnil
    have hr := run_append_owned_none (P := P) (w := w) 0 t o.type e inf sz ht hi' v k xs (hH.get i hi)
    obtain ⟨g', a1, a2, a3⟩ := h v w (hH.setSame i hi (by have q := hH.get i hi; simpa using q) rfl)
    exact .inl ⟨hw, hkn, .inl ⟨g', w, a1, by rw [a2]; exact x_append (P := P) ho hx hy hr, a3⟩⟩
theorem cf_makeOwn {t e : TypeId} {inf : TypeInfo} {z : Value} {sz by' cap : Nat} {x y : Operand} {C : Int} (hH : HP S w0 w H) (hw : Wt) (hkn : Kn)
    (ho : o.op = .makeSlice t x y) (hx : ρ x = .int .i64 0) (hy : ρ y = .int .i64 C) (hC : C = (cap : Int))
    (ht : P.underlying t = some (.slice e)) (hi' : P.info? e = some inf) (hz : inf.zero = some z) (hsz : inf.size = sz) (hby : inf.bytes = by') (hzs : z.cells.size = sz) (hb : by' * cap ≤ 281474976710656) (h63 : cap ≤ maxLen)
    (h : ∀ g w2, HP S w0 w2 (H ++ [.own (.slice (some ⟨g, 0, none⟩) 0 cap) 0 [] e sz]) → ∃ g', agr g' ∧ val g' = .slice (some ⟨g, 0, none⟩) 0 cap ∧ WI g' w2) :
    (Wt ∧ Kn ∧ ((∃ g' w', agr g' ∧ (execOp ρ o).run P w = .ok (.value (val g')) w' ∧ WI g' w') ∨ R1)) ∨ R2 := by
  subst hC
  have hmx : cap ≤ 9223372036854775807 := h63
  have hr := run_make (P := P) w t e inf z ht hi' hz .i64 .i64 0 (cap : Int) (Int.le_refl 0) (by omega) (by rw [hby]; omega) (by omega)
  have q := HP.alloc hH (madeCells z.cells (cap * inf.size)) e
  have q2 := q.setSame H.length (e := .cel w.heap.size (madeCells z.cells (cap * inf.size)) e) (e' := .own (.slice (some ⟨w.heap.size, 0, none⟩) 0 cap) 0 [] e sz) (by simp)
    (World.ownsRow_made (size := sz) w _ cap (Nat.zero_le _) h63 (by rw [← hsz]; simp [madeCells])) rfl
  obtain ⟨g', a1, a2, a3⟩ := h w.heap.size (w.alloc (.cells (madeCells z.cells (cap * inf.size)) e)) (by simpa using q2)
  simp only [Int.toNat_natCast, Int.toNat_zero] at hr
  exact .inl ⟨hw, hkn, .inl ⟨g', _, a1, by rw [a2]; exact x_makeR (P := P) ho hx hy hr, a3⟩⟩
end
end Fw
end Go.Proofs.Ytmjnakhpekbenaa
namespace Go.Proofs.Ytmjnakhpekbenaa
open Go.RowKit Fw
namespace Ca
/-- an outer row of one's own -/
abbrev rowS (pv : Option Addr) (cp : Nat) (S : List SlI) : Ent := .own (.slice pv S.length cp) S.length (S.map slV) 33 1
def rowE (r : SlI) : Ent := rowI' r.q r.c r.xs
theorem in_own {w : World} {pv : Option Addr} {cp : Nat} {S : List SlI} (h : Ent.holds w (rowS pv cp S)) (hr : ∀ r ∈ S, InR w r) : InS2 w pv S := ⟨fun h0 => by
    have h2 : w.ownsRow 0 33 1 (.slice pv S.length cp) S.length (S.map slV) := h
    have hc := @World.ownsRow.cells _ _ _ _ _ _ _ h2
    rcases h2.2 with ⟨h0', h1⟩ | ⟨g, cap, cur, hv, hb, hg, hnc, hm, hs, hx⟩
    · omega
    · cases hv
      refine ⟨g, 0, rfl, fun i hi j v hv => ?_⟩
      have hc := hc (g := g) rfl i (slV (S.getD i ⟨none, [], 0⟩)) (by simp [List.getD_eq_getElem?_getD, hi])
      match j, hv with
      | 0, hv => simp at hv; subst hv; simp only [hadd, Nat.zero_add, Nat.add_zero] at hc ⊢; exact hc
      | j + 1, hv => simp at hv, hr⟩
theorem in_cel {w : World} {g : Nat} {S : List SlI} (h : Ent.holds w (.cel g (sA S) 33)) (hr : Rows w S) : InS2 w (some ⟨g, 0, none⟩) S := ⟨fun h0 => ⟨g, 0, rfl, fun i hi j v hv => by
      match j, hv with
      | 0, hv =>
        simp at hv; subst hv
        have h2 : w.heap[g]? = some (.cells (sA S) 33 (0, 0)) := h
        rw [cell_of_row w g _ _ 33 (0, 0) h2]
        rw [Nat.zero_add, Nat.add_zero, sA_at (r := S.getD i ⟨none, [], 0⟩) (by simp [List.getD_eq_getElem?_getD, hi])]
        rfl
      | j + 1, hv => simp at hv⟩, fun r h => (hr r h).1⟩
def tOk (s y l m a : Int) (X : List (List Int)) : Bool := okSt s y l m X && wn a 0 999
def TouR (s y l m a : Int) (S : List SlI) (w : World) (e : Ending) (w' : World) : Prop :=
  (tOk s y l m a (stX S) = false ∧ e = .returned (.tuple #[.slice none 0 0, .bool false, vI 1]) ∧ Below w.heap.size w w') ∨
  (tOk s y l m a (stX S) = true ∧ ∃ pv cp S', e = .returned (.tuple #[.slice pv S'.length cp, .bool (decide (hitN s l a (stX S) = 1)), vI 0]) ∧ stX S' = stp s y l a (stX S) ∧ InS2 w' pv S' ∧ Below w.heap.size w w')
theorem one_run (s y l m a : Int) (X : List (List Int)) : runOk s y l m X [a] = tOk s y l m a X := by
  unfold runOk tOk allW
  simp
theorem hp_in {w0 w : World} {S : Nat → Prop} {H : List Ent} (h : HP S w0 w H) (i : Nat) {g : Nat} {v : Int} {xs : List Int} (hx : xs = [v]) (hi : H[i]? = some (.cel g #[vI v] 3)) : InI w (some ⟨g, 0, none⟩) xs := fun _ => ⟨g, 0, rfl, fun j hj k u hu => by
  subst hx
  have hj0 : j = 0 := by simpa using hj
  subst hj0
  match k, hu with
  | 0, hu => simp at hu; subst hu; exact h.cell i hi rfl
  | k + 1, hu => simp at hu⟩
set_option maxRecDepth 20000 in
set_option maxHeartbeats 4000000 in
theorem Touch_any (s y l m a : Int) (p : Option Addr) (S : List SlI) (cp : Nat) (w : World) (hS : InS2 w p S) (hn : S.length ≤ 281474976710656) :
    Calls Try.prog 12 #[.agg #[vI s, vI y, vI l, vI m], .slice p S.length cp, vI a] w (TouR s y l m a S w) := by
  refine calls_of Try.func12 rfl (m := 25) rfl [(0, .agg #[vI s, vI y, vI l, vI m]), (1, .slice p S.length cp), (2, vI a)] (Fr_enter [.agg #[vI s, vI y, vI l, vI m], .slice p S.length cp, vI a] 25 (Nat.le_of_ble_eq_true rfl)) ?_
  have hH1 : HP Tr w w [] := HP.refl w
  refine WC.seq fun K2 hK2 => ?_
  refine WC.region ?_
  refine WL.alloc (c := #[vI s, vI y, vI l, vI m]) (T := 23) hH1 3 rfl (by decide) rfl rfl (fun b3 => vP b3 0) (by kernel_rfl) (fun b3 w3 hw3 => ?_)
  have hH4 : HP Tr w w3 [.cel b3 #[vI s, vI y, vI l, vI m] 23] := hw3.2
  have nb3 := hw3.1
  clear hw3
  refine WL.pure (v := .slice none 0 0) 6 rfl (Nat.le_of_ble_eq_true rfl) rfl rfl (by kernel_rfl) ?_
  refine WL.pure (v := .bool false) 7 rfl (Nat.le_of_ble_eq_true rfl) rfl rfl (by kernel_rfl) ?_
  refine WL.pure (v := vI 0) 8 rfl (Nat.le_of_ble_eq_true rfl) rfl rfl (by kernel_rfl) ?_
  refine WL.nil ?_
  refine WQ.then ?_
  refine hK2 _ _ _ ?_
  refine WC.seq fun K5 hK5 => ?_
  refine WC.region ?_
  refine WL.pure (v := .agg #[vI s, vI y, vI l, vI m]) 13 rfl (Nat.le_of_ble_eq_true rfl) rfl rfl (x_loadS (cs := [vI s, vI y, vI l, vI m]) rfl rfl Try.underlying23 rfl sz23 (HP.range hH4 0 rfl rfl)) ?_
  refine WL.pure (v := .slice p S.length cp) 14 rfl (Nat.le_of_ble_eq_true rfl) rfl rfl (by kernel_rfl) ?_
  refine WL.pure (v := vI a) 15 rfl (Nat.le_of_ble_eq_true rfl) rfl rfl (by kernel_rfl) ?_
  refine WL.alloc (c := #[vI a]) (T := 3) hH4 16 rfl (by decide) rfl rfl (fun b16 => vS b16 1 1) (by kernel_rfl) (fun b16 w6 hw6 => ?_)
  have hH7 : HP Tr w w6 [.cel b3 #[vI s, vI y, vI l, vI m] 23, .cel b16 #[vI a] 3] := hw6.2
  have nb16 := hw6.1
  clear hw6
  refine WL.call (f := 17) (args := #[.agg #[vI s, vI y, vI l, vI m], .slice p S.length cp, vS b16 1 1]) 17 rfl (Nat.le_of_ble_eq_true rfl) rfl rfl (by kernel_rfl) ?_
  refine (Run_any s y l m p S cp (some ⟨b16, 0, none⟩) [a] 1 _ (hS.below (HP.below hH7)) hn (hp_in hH7 1 rfl rfl) (by simp)).mono ?_
  rintro e w4 (⟨hno, rfl, hb⟩ | ⟨hyes, g, S2, rfl, hX, hb, hR⟩)
  ·
    refine ⟨_, rfl, ?_⟩
    have hH8 : HP Tr w _ [.cel b3 #[vI s, vI y, vI l, vI m] 23, .cel b16 #[vI a] 3] := HP.call hH7 hb
    refine WL.pure (v := .tuple #[.slice none 0 0, vI 0, vI 1]) 12 rfl (Nat.le_of_ble_eq_true rfl) rfl rfl (by kernel_rfl) ?_
    refine WL.pure (v := .slice none 0 0) 18 rfl (Nat.le_of_ble_eq_true rfl) rfl rfl (by kernel_rfl) ?_
    refine WL.pure (v := vI 0) 19 rfl (Nat.le_of_ble_eq_true rfl) rfl rfl (by kernel_rfl) ?_
    refine WL.pure (v := vI 1) 20 rfl (Nat.le_of_ble_eq_true rfl) rfl rfl (by kernel_rfl) ?_
    refine WL.pure (v := .slice none 0 0) 9 rfl (Nat.le_of_ble_eq_true rfl) rfl rfl (by kernel_rfl) ?_
    refine WL.pure (v := vI 0) 10 rfl (Nat.le_of_ble_eq_true rfl) rfl rfl (by kernel_rfl) ?_
    refine WL.pure (v := vI 1) 11 rfl (Nat.le_of_ble_eq_true rfl) rfl rfl (by kernel_rfl) ?_
    refine WL.nil ?_
    refine WQ.then ?_
    refine hK5 _ _ _ ?_
    refine WC.sub (l' := [(0, .agg #[vI s, vI y, vI l, vI m]), (1, .slice p S.length cp), (2, vI a), (3, vP b3 0), (6, .slice none 0 0), (7, .bool false), (8, vI 0), (9, .slice none 0 0), (10, vI 0), (11, vI 1)]) ⟨rfl, rfl, rfl, rfl, rfl, rfl, rfl, rfl, rfl, rfl, trivial⟩ ?_
    refine WC.seq fun K9 hK9 => ?_
    refine WC.region ?_
    refine WL.pure (v := .slice none 0 0) 21 rfl (Nat.le_of_ble_eq_true rfl) rfl rfl (by kernel_rfl) ?_
    refine WL.pure (v := vI 0) 22 rfl (Nat.le_of_ble_eq_true rfl) rfl rfl (by kernel_rfl) ?_
    refine WL.pure (v := .bool false) 23 rfl (Nat.le_of_ble_eq_true rfl) rfl rfl (x_eql rfl rfl rfl (by decide)) ?_
    refine WL.pure (v := vI 1) 24 rfl (Nat.le_of_ble_eq_true rfl) rfl rfl (by kernel_rfl) ?_
    refine WL.pure (v := .slice none 0 0) 6 rfl (Nat.le_of_ble_eq_true rfl) rfl rfl (by kernel_rfl) ?_
    refine WL.pure (v := .bool false) 7 rfl (Nat.le_of_ble_eq_true rfl) rfl rfl (by kernel_rfl) ?_
    refine WL.pure (v := vI 1) 8 rfl (Nat.le_of_ble_eq_true rfl) rfl rfl (by kernel_rfl) ?_
    refine WL.nil ?_
    refine WQ.then ?_
    refine hK9 _ _ _ ?_
    refine WC.sub (l' := [(0, .agg #[vI s, vI y, vI l, vI m]), (1, .slice p S.length cp), (2, vI a), (3, vP b3 0), (6, .slice none 0 0), (7, .bool false), (8, vI 1), (9, .slice none 0 0), (10, vI 0), (11, vI 1)]) ⟨rfl, rfl, rfl, rfl, rfl, rfl, rfl, rfl, rfl, rfl, trivial⟩ ?_
    refine WC.ret ?_
    refine WQ.ret3 6 7 8 rfl rfl rfl rfl ?_
    exact .inl ⟨by rw [← one_run]; exact hno, rfl, HP.below hH8⟩
  ·
    refine ⟨_, rfl, ?_⟩
    obtain ⟨n9, hn9⟩ : ∃ n9, n9 = (runX s y l [a] (stX S, 0)).2 := ⟨_, rfl⟩
    rw [← hn9]
    have hh : n9 = hitN s l a (stX S) := by rw [hn9]; simp [runX]
    have hH10 : HP Tr w _ [.cel b3 #[vI s, vI y, vI l, vI m] 23, .cel b16 #[vI a] 3, .cel g (sA S2) 33] := HP.trans hH7 hb
    refine WL.pure (v := .tuple #[vS g S.length S.length, vI (n9 : Int), vI 0]) 12 rfl (Nat.le_of_ble_eq_true rfl) rfl rfl (by kernel_rfl) ?_
    refine WL.pure (v := vS g S.length S.length) 18 rfl (Nat.le_of_ble_eq_true rfl) rfl rfl (by kernel_rfl) ?_
    refine WL.pure (v := vI (n9 : Int)) 19 rfl (Nat.le_of_ble_eq_true rfl) rfl rfl (by kernel_rfl) ?_
    refine WL.pure (v := vI 0) 20 rfl (Nat.le_of_ble_eq_true rfl) rfl rfl (by kernel_rfl) ?_
    refine WL.pure (v := vS g S.length S.length) 9 rfl (Nat.le_of_ble_eq_true rfl) rfl rfl (by kernel_rfl) ?_
    refine WL.pure (v := vI (n9 : Int)) 10 rfl (Nat.le_of_ble_eq_true rfl) rfl rfl (by kernel_rfl) ?_
    refine WL.pure (v := vI 0) 11 rfl (Nat.le_of_ble_eq_true rfl) rfl rfl (by kernel_rfl) ?_
    refine WL.nil ?_
    refine WQ.then ?_
    refine hK5 _ _ _ ?_
    refine WC.sub (l' := [(0, .agg #[vI s, vI y, vI l, vI m]), (1, .slice p S.length cp), (2, vI a), (3, vP b3 0), (6, .slice none 0 0), (7, .bool false), (8, vI 0), (9, vS g S.length S.length), (10, vI (n9 : Int)), (11, vI 0)]) ⟨rfl, rfl, rfl, rfl, rfl, rfl, rfl, rfl, rfl, rfl, trivial⟩ ?_
    refine WC.seq fun K11 hK11 => ?_
    refine WC.region ?_
    refine WL.pure (v := vS g S.length S.length) 21 rfl (Nat.le_of_ble_eq_true rfl) rfl rfl (by kernel_rfl) ?_
    refine WL.pure (v := vI (n9 : Int)) 22 rfl (Nat.le_of_ble_eq_true rfl) rfl rfl (by kernel_rfl) ?_
    by_cases h23 : (n9 : Int) = 1
    ·
      refine WL.pure (v := .bool true) 23 rfl (Nat.le_of_ble_eq_true rfl) rfl rfl (x_eql rfl rfl rfl (dT (h23))) ?_
      refine WL.pure (v := vI 0) 24 rfl (Nat.le_of_ble_eq_true rfl) rfl rfl (by kernel_rfl) ?_
      refine WL.pure (v := vS g S.length S.length) 6 rfl (Nat.le_of_ble_eq_true rfl) rfl rfl (by kernel_rfl) ?_
      refine WL.pure (v := .bool true) 7 rfl (Nat.le_of_ble_eq_true rfl) rfl rfl (by kernel_rfl) ?_
      refine WL.pure (v := vI 0) 8 rfl (Nat.le_of_ble_eq_true rfl) rfl rfl (by kernel_rfl) ?_
      refine WL.nil ?_
      refine WQ.then ?_
      refine hK11 _ _ _ ?_
      refine WC.sub (l' := [(0, .agg #[vI s, vI y, vI l, vI m]), (1, .slice p S.length cp), (2, vI a), (3, vP b3 0), (6, vS g S.length S.length), (7, .bool true), (8, vI 0), (9, vS g S.length S.length), (10, vI (n9 : Int)), (11, vI 0)]) ⟨rfl, rfl, rfl, rfl, rfl, rfl, rfl, rfl, rfl, rfl, trivial⟩ ?_
      refine WC.ret ?_
      refine WQ.ret3 6 7 8 rfl rfl rfl rfl ?_
      exact .inr ⟨by rw [← one_run]; exact hyes, some ⟨g, 0, none⟩, S.length, S2, by rw [show S2.length = S.length by rw [← stX_len S2, hX, run_length, stX_len], decide_eq_true (by omega)], by rw [hX]; rfl, in_cel (HP.get hH10 2 rfl) hR, HP.below hH10⟩
    ·
      refine WL.pure (v := .bool false) 23 rfl (Nat.le_of_ble_eq_true rfl) rfl rfl (x_eql rfl rfl rfl (dF (h23))) ?_
      refine WL.pure (v := vI 0) 24 rfl (Nat.le_of_ble_eq_true rfl) rfl rfl (by kernel_rfl) ?_
      refine WL.pure (v := vS g S.length S.length) 6 rfl (Nat.le_of_ble_eq_true rfl) rfl rfl (by kernel_rfl) ?_
      refine WL.pure (v := .bool false) 7 rfl (Nat.le_of_ble_eq_true rfl) rfl rfl (by kernel_rfl) ?_
      refine WL.pure (v := vI 0) 8 rfl (Nat.le_of_ble_eq_true rfl) rfl rfl (by kernel_rfl) ?_
      refine WL.nil ?_
      refine WQ.then ?_
      refine hK11 _ _ _ ?_
      refine WC.sub (l' := [(0, .agg #[vI s, vI y, vI l, vI m]), (1, .slice p S.length cp), (2, vI a), (3, vP b3 0), (6, vS g S.length S.length), (7, .bool false), (8, vI 0), (9, vS g S.length S.length), (10, vI (n9 : Int)), (11, vI 0)]) ⟨rfl, rfl, rfl, rfl, rfl, rfl, rfl, rfl, rfl, rfl, trivial⟩ ?_
      refine WC.ret ?_
      refine WQ.ret3 6 7 8 rfl rfl rfl rfl ?_
      exact .inr ⟨by rw [← one_run]; exact hyes, some ⟨g, 0, none⟩, S.length, S2, by rw [show S2.length = S.length by rw [← stX_len S2, hX, run_length, stX_len], decide_eq_false (by omega)], by rw [hX]; rfl, in_cel (HP.get hH10 2 rfl) hR, HP.below hH10⟩
theorem rows_in {w0 w : World} {H : List Ent} {S : List SlI} (h : HP Tr w0 w H) (hm : ∀ r ∈ S, rowE r ∈ H) (hw : ∀ r ∈ S, ∀ x ∈ r.xs, Wi x) : ∀ r ∈ S, InR w r := fun r hr => (row_InR (h.hold _ (hm r hr)) (hw r hr)).1
theorem out_old {w0 w : World} {B A : List Ent} (h : HP Tr w0 w (B ++ A)) {b : Nat} (hb : b < w0.heap.size) : Out B b := fun e he hq => h.fresh e (List.mem_append_left _ he) b hq hb trivial
theorem row_lt {w : World} {g o : Nat} {n : Nat} {f : Nat → List Value} {v : Value} (h : ∀ i, i < n → w.rangeAt g (o + i) (f i)) (h0 : 0 < n) (hv : (f 0)[0]? = some v) : g < w.heap.size := World.block_lt_of_cell? w _ (h 0 h0 0 _ hv)
theorem out_in {w0 w W : World} {pv : Option Addr} {cp : Nat} {S2 : List SlI} {A H : List Ent} {q : Option Addr} {xs : List Int} (h : HP Tr w0 w ([rowS pv cp S2] ++ A)) (hI : InI w0 q xs) (h9 : HP (Out [rowS pv cp S2]) w W H) : InI W q xs := fun h0 => by
  obtain ⟨g, o, hq, hr⟩ := hI h0
  exact ⟨g, o, hq, fun i hi => HP.oldRange h9 (out_old h (row_lt hr h0 rfl)) (HP.oldRange (S := Tr) (HP.of_below (HP.below h)) trivial (hr i hi))⟩
theorem ow_end {w0 w W : World} {pv pv8 : Option Addr} {cp cp8 : Nat} {S2 : List SlI} {r : SlI} (h : HP Tr w0 w ([rowS pv cp S2] ++ S2.map rowE)) (h2 : HP (Out [rowS pv cp S2]) w W [.own (.slice pv8 (S2.length + 1) cp8) (S2.length + 1) (S2.map slV ++ [slV r]) 33 1, rowE r]) :
    HP Tr w0 W ([rowS pv8 cp8 (S2 ++ [r])] ++ (S2 ++ [r]).map rowE) := by
  have h3 := HP.exchF (A := [rowS pv cp S2]) (B := S2.map rowE) h h2
  have e : (Ent.own (.slice pv8 (S2.length + 1) cp8) (S2.length + 1) (S2.map slV ++ [slV r]) 33 1) = rowS pv8 cp8 (S2 ++ [r]) := by simp [rowS]
  rw [e] at h3
  refine HP.perm h3 ?_
  rw [List.map_append]
  exact List.Perm.cons _ (List.perm_append_comm (l₁ := [rowE r]) (l₂ := S2.map rowE))
theorem ow_step {S S2 : List SlI} {i : Nat} {r : SlI} {pv : Option Addr} {cp : Nat} (h : stX S2 = (stX S).take i) (hr : S[i]? = some r) : stX (S2 ++ [⟨pv, r.xs, cp⟩]) = (stX S).take (i + 1) := by
  have e : stX (S2 ++ [⟨pv, r.xs, cp⟩]) = stX S2 ++ [r.xs] := by simp [stX]
  rw [e, h, List.take_add_one]
  simp [stX, hr]
theorem ow_wi {S2 : List SlI} {r : SlI} {pv : Option Addr} {cp : Nat} (h : ∀ r ∈ S2, ∀ x ∈ r.xs, Wi x) (hw : ∀ x ∈ r.xs, Wi x) (r9 : SlI) (h9 : r9 ∈ S2 ++ [⟨pv, r.xs, cp⟩]) : ∀ x ∈ r9.xs, Wi x := by
  rcases List.mem_append.1 h9 with q | q
  · exact h r9 q
  · obtain rfl := List.mem_singleton.1 q; exact hw
set_option maxRecDepth 20000 in
set_option maxHeartbeats 4000000 in
theorem own_any (p : Option Addr) (S : List SlI) (cp : Nat) (w : World) (hS : InS2 w p S) (hn : S.length * 24 ≤ 140737488351232) (hx : ∀ r ∈ S, r.xs.length * 8 ≤ 140737488351232) (hq0 : ∀ r ∈ S, r.q = none → r.c = 0) :
    Calls Try.prog 11 #[.slice p S.length cp] w fun e w' => ∃ pv cp' S', e = .returned (.slice pv S'.length cp') ∧ stX S' = stX S ∧ InS2 w' pv S' ∧ Below w.heap.size w w' := by
  refine calls_of Try.func11 rfl (m := 27) rfl [(0, .slice p S.length cp)] (Fr_enter [.slice p S.length cp] 27 (Nat.le_of_ble_eq_true rfl)) ?_
  have hH1 : HP Tr w w [] := HP.refl w
  refine WC.seq fun K2 hK2 => ?_
  refine WC.region ?_
  refine WL.pure (v := .slice none 0 0) 2 rfl (Nat.le_of_ble_eq_true rfl) rfl rfl (by kernel_rfl) ?_
  refine WL.nil ?_
  refine WQ.then ?_
  refine hK2 _ _ _ ?_
  refine WC.seq fun K3 hK3 => ?_
  refine WC.region ?_
  refine WL.pure (v := .slice none 0 0) 3 rfl (Nat.le_of_ble_eq_true rfl) rfl rfl (by kernel_rfl) ?_
  refine WL.nil ?_
  refine WQ.then ?_
  refine hK3 _ _ _ ?_
  refine WC.seq fun K4 hK4 => ?_
  refine WC.seq fun K5 hK5 => ?_
  refine WC.region ?_
  refine WL.pure (v := vI 0) 4 rfl (Nat.le_of_ble_eq_true rfl) rfl rfl (by kernel_rfl) ?_
  refine WL.nil ?_
  refine WQ.then ?_
  refine hK5 _ _ _ ?_
  refine WC.block ?_
  refine WC.loop (fun kk0 ll0 ww0 => ∃ (i : Nat) (S2 : List SlI) (pv : Option Addr) (cp2 : Nat), ll0 = [(0, .slice p S.length cp), (3, .slice pv S2.length cp2), (4, vI (i : Int))] ∧ kk0 = S.length - i ∧ (i ≤ S.length) ∧ (stX S2 = (stX S).take i) ∧ (HP Tr w ww0 ([rowS pv cp2 S2] ++ S2.map rowE)) ∧ (∀ r ∈ S2, ∀ x ∈ r.xs, Wi x) ∧ HP Tr ww0 ww0 []) (S.length) [(0, .slice p S.length cp), (3, .slice none 0 0), (4, vI 0)] ⟨rfl, rfl, rfl, trivial⟩ ⟨0, [], none, 0, rfl, rfl, Nat.zero_le _, rfl, HP.ownNil hH1 33 1, (fun r h => by cases h), HP.refl _⟩ ?_
  rintro kk l w7 ⟨i, S2, pv, cp2, rfl, hkk, hi, hX9, hI9, hWi9, hH8⟩ K6 hK6
  have hl2 : S2.length = i := by have q9 := congrArg List.length hX9; rw [stX_len, List.length_take, stX_len] at q9; omega
  have hInv := hI9
  have hR0 := HP.ownF (A := [rowS pv cp2 S2]) (B := S2.map rowE) hI9
  have hH9 : HP (Out [rowS pv cp2 S2]) w7 w7 [rowS pv cp2 S2] := HP.startB hR0
  refine WC.seq fun K10 hK10 => ?_
  refine WC.seq fun K11 hK11 => ?_
  refine WC.region ?_
  refine WL.pure (v := vI (i : Int)) 5 rfl (Nat.le_of_ble_eq_true rfl) rfl rfl (by kernel_rfl) ?_
  refine WL.pure (v := .slice p S.length cp) 6 rfl (Nat.le_of_ble_eq_true rfl) rfl rfl (by kernel_rfl) ?_
  refine WL.pure (v := vI (S.length : Int)) 7 rfl (Nat.le_of_ble_eq_true rfl) rfl rfl (by kernel_rfl) ?_
  by_cases hlt : (i : Int) < (S.length : Int)
  ·
    refine WL.pure (v := .bool true) 8 rfl (Nat.le_of_ble_eq_true rfl) rfl rfl (x_lss rfl rfl rfl (dT (hlt))) ?_
    refine WL.nil ?_
    refine WQ.then ?_
    refine hK11 _ _ _ ?_
    refine WC.yes rfl ?_
    refine WC.skip ?_
    refine WQ.then ?_
    refine hK10 _ _ _ ?_
    refine WC.seq fun K12 hK12 => ?_
    refine WC.block ?_
    obtain ⟨r, hr⟩ : ∃ r, S[i]? = some r := ⟨S[i]'(by omega), List.getElem?_eq_getElem _⟩
    obtain ⟨hr1, hr2, hr3, hr4⟩ := stX_at hr
    obtain ⟨gS, oS, hpS, hrowS0⟩ := hS.row (by omega)
    have hgSl := row_lt hrowS0 (show 0 < S.length by omega) rfl
    have hrowS := fun i9 h9 => HP.oldRange (S := Tr) (HP.of_below (HP.below hInv)) trivial (hrowS0 i9 h9)
    have hgS := out_old hInv hgSl
    have hIRw := hS.inn r hr4
    have hIR := hIRw.below (HP.below hInv)
    have hxn := hx r hr4
    subst hpS
    have hsrc9 : ∀ {W : World} {H : List Ent}, HP (Out [rowS pv cp2 S2]) w7 W H → (∃ a, r.q = some a ∧ ∀ q u, (iR r.xs)[q]? = some u → W.cell? (a.add q) = some u) ∨ (r.q = none ∧ r.xs.length = 0 ∧ r.c = 0) := fun h9 => src_of (out_in hInv hIRw.row h9) (by rw [List.take_length]) (hq0 r hr4)
    obtain ⟨j0, hj0, jz0, jz1, jz2⟩ := infoI
    obtain ⟨i0, hi0, hz0, hz1, hz2⟩ := infoL
    refine WC.confH (γ := Nat × Option Addr × Nat × Nat × Option Addr × Nat × Unit) [(8, .bool true), (7, vI (S.length : Int)), (6, .slice (some ⟨gS, oS, none⟩) S.length cp), (5, vI (i : Int)), (0, .slice (some ⟨gS, oS, none⟩) S.length cp), (3, .slice pv S2.length cp2), (4, vI (i : Int))] (fun gy => [.slice pv S2.length cp2, .slice (some ⟨gS, oS, none⟩) S.length cp, vI (i : Int), vP gS (oS + i), .slice r.q r.xs.length r.c, vI (r.xs.length : Int), vI ((r.xs.length + 2 : Nat) : Int), vS gy.1 0 (r.xs.length + 2), .slice (some ⟨gS, oS, none⟩) S.length cp, vI (i : Int), vP gS (oS + i), .slice r.q r.xs.length r.c, .slice gy.2.1 r.xs.length gy.2.2.1, vS gy.2.2.2.1 1 1, .slice gy.2.2.2.2.1 (S2.length + 1) gy.2.2.2.2.2.1, .slice gy.2.2.2.2.1 (S2.length + 1) gy.2.2.2.2.2.1]) (fun gy D wz => HP (Out [rowS pv cp2 S2]) w7 wz ([(bif D 14 then Ent.own (.slice gy.2.2.2.2.1 (S2.length + 1) gy.2.2.2.2.2.1) (S2.length + 1) (S2.map slV ++ [.slice gy.2.1 r.xs.length gy.2.2.1]) 33 1 else rowS pv cp2 S2)] ++ ((bif D 7 then [(bif D 12 then rowI' gy.2.1 gy.2.2.1 r.xs else Ent.own (.slice (some ⟨gy.1, 0, none⟩) 0 (r.xs.length + 2)) 0 [] 3 1)] else []) ++ ((bif D 13 then [Ent.cel gy.2.2.2.1 #[.slice gy.2.1 r.xs.length gy.2.2.1] 33] else []) ++ [])))) (0, none, 0, 0, none, 0, ()) (by kernel_rfl) ⟨rfl, rfl, rfl, rfl, rfl, rfl, rfl, trivial⟩ (by kernel_rfl) (by kernel_rfl) (by kernel_rfl) (fun _ => rfl) (by kernel_rfl) (HP.drew hH9) ?_ ?_
    · refine AllOk.cons ?o0 (AllOk.cons ?o1 (AllOk.cons ?o2 (AllOk.cons ?o3 (AllOk.cons ?o4 (AllOk.cons ?o5 (AllOk.cons ?o6 (AllOk.cons ?o7 (AllOk.cons ?o8 (AllOk.cons ?o9 (AllOk.cons ?o10 (AllOk.cons ?o11 (AllOk.cons ?o12 (AllOk.cons ?o13 (AllOk.cons ?o14 (AllOk.cons ?o15 (AllOk.nil _))))))))))))))))
      case o0 =>
        intro gy D wz hDi hdep hclo hW
        exact .inl ⟨rfl, rfl, .inl ⟨gy, wz, fun _ _ => rfl, by kernel_rfl, hW⟩⟩
      case o1 =>
        intro gy D wz hDi hdep hclo hW
        exact .inl ⟨rfl, rfl, .inl ⟨gy, wz, fun _ _ => rfl, by kernel_rfl, hW⟩⟩
      case o2 =>
        intro gy D wz hDi hdep hclo hW
        exact .inl ⟨rfl, rfl, .inl ⟨gy, wz, fun _ _ => rfl, by kernel_rfl, hW⟩⟩
      case o3 =>
        intro gy D wz hDi hdep hclo hW
        exact .inl ⟨rfl, rfl, .inl ⟨gy, wz, fun _ _ => rfl, x_idx (i) (oS + i) rfl rfl rfl Try.underlying24 sz33 (by omega) (by omega) (by omega), hW⟩⟩
      case o4 =>
        intro gy D wz hDi hdep hclo hW
        exact .inl ⟨rfl, rfl, .inl ⟨gy, wz, fun _ _ => rfl, x_load rfl rfl Try.underlying33 rfl (by have q9 := (HP.oldRange hW hgS (hrowS i (by omega))) 0 _ rfl; rw [hr2] at q9; exact q9), hW⟩⟩
      case o5 =>
        intro gy D wz hDi hdep hclo hW
        exact .inl ⟨rfl, rfl, .inl ⟨gy, wz, fun _ _ => rfl, by kernel_rfl, hW⟩⟩
      case o6 =>
        intro gy D wz hDi hdep hclo hW
        exact .inl ⟨rfl, rfl, .inl ⟨gy, wz, fun _ _ => rfl, x_add (Z := ((r.xs.length + 2 : Nat) : Int)) rfl rfl rfl (by omega) (by omega) (by omega), hW⟩⟩
      case o7 =>
        intro gy D wz hDi hdep hclo hW
        have d12 : D 12 = false := by
          cases h : D 12 with
          | false => rfl
          | true => exact absurd (hclo 12 _ rfl h ⟨7, .data⟩ (by simp) rfl) (by rw [hDi]; exact Bool.false_ne_true)
        have d13 : D 13 = false := by
          cases h : D 13 with
          | false => rfl
          | true => exact absurd (hclo 13 _ rfl h ⟨12, .data⟩ (by simp) rfl) (by rw [d12]; exact Bool.false_ne_true)
        have d14 : D 14 = false := by
          cases h : D 14 with
          | false => rfl
          | true => exact absurd (hclo 14 _ rfl h ⟨12, .chain⟩ (by simp) rfl) (by rw [d12]; exact Bool.false_ne_true)
        have hW2 := hW
        try simp only [d12, d13, d14, hDi, cond_true, cond_false, List.append_nil, List.nil_append, List.cons_append] at hW2
        refine cf_makeOwn hW2 rfl rfl rfl rfl rfl (cap := r.xs.length + 2) (by omega) Try.underlying33 hj0 jz0 jz1 jz2 rfl (by omega) (by unfold maxLen; omega) ?_
        rintro b18 w3 hA
        refine ⟨⟨b18, gy.2.1, gy.2.2.1, gy.2.2.2.1, gy.2.2.2.2.1, gy.2.2.2.2.2.1, ()⟩, fun j hj => ?_, rfl, ?_⟩
        · match j, hj with
          | 0, hj => rfl
          | 1, hj => rfl
          | 2, hj => rfl
          | 3, hj => rfl
          | 4, hj => rfl
          | 5, hj => rfl
          | 6, hj => rfl
          | 7, hj => rw [hDi] at hj; cases hj
          | 8, hj => rfl
          | 9, hj => rfl
          | 10, hj => rfl
          | 11, hj => rfl
          | 12, hj => rfl
          | 13, hj => rfl
          | 14, hj => rfl
          | 15, hj => rfl
          | j + 16, _ => rfl
        · show HP (Out [rowS pv cp2 S2]) w7 w3 ([(bif D 14 then Ent.own (.slice gy.2.2.2.2.1 (S2.length + 1) gy.2.2.2.2.2.1) (S2.length + 1) (S2.map slV ++ [.slice gy.2.1 r.xs.length gy.2.2.1]) 33 1 else rowS pv cp2 S2)] ++ ([(bif D 12 then rowI' gy.2.1 gy.2.2.1 r.xs else Ent.own (.slice (some ⟨b18, 0, none⟩) 0 (r.xs.length + 2)) 0 [] 3 1)] ++ ((bif D 13 then [Ent.cel gy.2.2.2.1 #[.slice gy.2.1 r.xs.length gy.2.2.1] 33] else []) ++ [])))
          try simp only [d12, d13, d14, cond_true, cond_false, List.append_nil, List.nil_append, List.cons_append]
          exact hA
      case o8 =>
        intro gy D wz hDi hdep hclo hW
        exact .inl ⟨rfl, rfl, .inl ⟨gy, wz, fun _ _ => rfl, by kernel_rfl, hW⟩⟩
      case o9 =>
        intro gy D wz hDi hdep hclo hW
        exact .inl ⟨rfl, rfl, .inl ⟨gy, wz, fun _ _ => rfl, by kernel_rfl, hW⟩⟩
      case o10 =>
        intro gy D wz hDi hdep hclo hW
        exact .inl ⟨rfl, rfl, .inl ⟨gy, wz, fun _ _ => rfl, x_idx (i) (oS + i) rfl rfl rfl Try.underlying24 sz33 (by omega) (by omega) (by omega), hW⟩⟩
      case o11 =>
        intro gy D wz hDi hdep hclo hW
        exact .inl ⟨rfl, rfl, .inl ⟨gy, wz, fun _ _ => rfl, x_load rfl rfl Try.underlying33 rfl (by have q9 := (HP.oldRange hW hgS (hrowS i (by omega))) 0 _ rfl; rw [hr2] at q9; exact q9), hW⟩⟩
      case o12 =>
        intro gy D wz hDi hdep hclo hW
        have d7 : D 7 = true := hdep ⟨7, .data⟩ (by simp) rfl
        have d13 : D 13 = false := by
          cases h : D 13 with
          | false => rfl
          | true => exact absurd (hclo 13 _ rfl h ⟨12, .data⟩ (by simp) rfl) (by rw [hDi]; exact Bool.false_ne_true)
        have d14 : D 14 = false := by
          cases h : D 14 with
          | false => rfl
          | true => exact absurd (hclo 14 _ rfl h ⟨12, .chain⟩ (by simp) rfl) (by rw [hDi]; exact Bool.false_ne_true)
        have hW2 := hW
        try simp only [d7, d13, d14, hDi, cond_true, cond_false, List.append_nil, List.nil_append, List.cons_append] at hW2
        refine cf_appendSrc (iR r.xs) 1 hW2 rfl rfl rfl rfl rfl Try.underlying33 hj0 jz0 jz1 jz2 rfl (by decide) rfl (hsrc9 hW2) (by simp) (fun u hu => by obtain ⟨x9, _, rfl⟩ := List.mem_map.1 hu; rfl) (by unfold maxLen; omega) (by omega) ?_
        rintro v7 w3 hA
        obtain ⟨pv7, cp7, rfl⟩ := own_row (HP.get hA 1 rfl)
        rw [Nat.zero_add, List.nil_append] at hA
        rw [show 0 + r.xs.length = r.xs.length from Nat.zero_add _]
        refine ⟨⟨gy.1, pv7, cp7, gy.2.2.2.1, gy.2.2.2.2.1, gy.2.2.2.2.2.1, ()⟩, fun j hj => ?_, rfl, ?_⟩
        · match j, hj with
          | 0, hj => rfl
          | 1, hj => rfl
          | 2, hj => rfl
          | 3, hj => rfl
          | 4, hj => rfl
          | 5, hj => rfl
          | 6, hj => rfl
          | 7, hj => rfl
          | 8, hj => rfl
          | 9, hj => rfl
          | 10, hj => rfl
          | 11, hj => rfl
          | 12, hj => rw [hDi] at hj; cases hj
          | 13, hj => rfl
          | 14, hj => rfl
          | 15, hj => rfl
          | j + 16, _ => rfl
        · show HP (Out [rowS pv cp2 S2]) w7 w3 ([(bif D 14 then Ent.own (.slice gy.2.2.2.2.1 (S2.length + 1) gy.2.2.2.2.2.1) (S2.length + 1) (S2.map slV ++ [.slice pv7 r.xs.length cp7]) 33 1 else rowS pv cp2 S2)] ++ ((bif D 7 then [rowI' pv7 cp7 r.xs] else []) ++ ((bif D 13 then [Ent.cel gy.2.2.2.1 #[.slice pv7 r.xs.length cp7] 33] else []) ++ [])))
          try simp only [d7, d13, d14, cond_true, cond_false, List.append_nil, List.nil_append, List.cons_append]
          exact hA
      case o13 =>
        intro gy D wz hDi hdep hclo hW
        have d12 : D 12 = true := hdep ⟨12, .data⟩ (by simp) rfl
        have d7 : D 7 = true := hclo 12 _ rfl d12 ⟨7, .data⟩ (by simp) rfl
        have d14 : D 14 = false := by
          cases h : D 14 with
          | false => rfl
          | true => exact absurd (hclo 14 _ rfl h ⟨13, .data⟩ (by simp) rfl) (by rw [hDi]; exact Bool.false_ne_true)
        have hW2 := hW
        try simp only [d7, d12, d14, hDi, cond_true, cond_false, List.append_nil, List.nil_append, List.cons_append] at hW2
        refine cf_alloc (c := #[.slice gy.2.1 r.xs.length gy.2.2.1]) (T := 33) hW2 (fun b24 => vS b24 1 1) rfl rfl (by kernel_rfl) ?_
        rintro b24 w3 hA
        refine ⟨⟨gy.1, gy.2.1, gy.2.2.1, b24, gy.2.2.2.2.1, gy.2.2.2.2.2.1, ()⟩, fun j hj => ?_, rfl, ?_⟩
        · match j, hj with
          | 0, hj => rfl
          | 1, hj => rfl
          | 2, hj => rfl
          | 3, hj => rfl
          | 4, hj => rfl
          | 5, hj => rfl
          | 6, hj => rfl
          | 7, hj => rfl
          | 8, hj => rfl
          | 9, hj => rfl
          | 10, hj => rfl
          | 11, hj => rfl
          | 12, hj => rfl
          | 13, hj => rw [hDi] at hj; cases hj
          | 14, hj => rfl
          | 15, hj => rfl
          | j + 16, _ => rfl
        · show HP (Out [rowS pv cp2 S2]) w7 w3 ([(bif D 14 then Ent.own (.slice gy.2.2.2.2.1 (S2.length + 1) gy.2.2.2.2.2.1) (S2.length + 1) (S2.map slV ++ [.slice gy.2.1 r.xs.length gy.2.2.1]) 33 1 else rowS pv cp2 S2)] ++ ((bif D 7 then [(bif D 12 then rowI' gy.2.1 gy.2.2.1 r.xs else Ent.own (.slice (some ⟨gy.1, 0, none⟩) 0 (r.xs.length + 2)) 0 [] 3 1)] else []) ++ ([Ent.cel b24 #[.slice gy.2.1 r.xs.length gy.2.2.1] 33] ++ [])))
          try simp only [d7, d12, d14, cond_true, cond_false, List.append_nil, List.nil_append, List.cons_append]
          exact hA
      case o14 =>
        intro gy D wz hDi hdep hclo hW
        have d12 : D 12 = true := hdep ⟨12, .chain⟩ (by simp) rfl
        have d7 : D 7 = true := hclo 12 _ rfl d12 ⟨7, .data⟩ (by simp) rfl
        have d13 : D 13 = true := hdep ⟨13, .data⟩ (by simp) rfl
        have d15 : D 15 = false := by
          cases h : D 15 with
          | false => rfl
          | true => exact absurd (hclo 15 _ rfl h ⟨14, .data⟩ (by simp) rfl) (by rw [hDi]; exact Bool.false_ne_true)
        have hW2 := hW
        try simp only [d7, d12, d13, hDi, cond_true, cond_false, List.append_nil, List.nil_append, List.cons_append] at hW2
        refine cf_append (news := [.slice gy.2.1 r.xs.length gy.2.2.1]) 0 2 hW2 rfl rfl rfl rfl rfl Try.underlying24 hi0 hz0 hz1 hz2 rfl (by decide) rfl rfl rfl rfl (by simp [Value.oneCell']) (by unfold maxLen; omega) (by omega) ?_
        rintro v8 w3 hA
        obtain ⟨pv8, cp8, rfl⟩ := own_row (HP.get hA 0 rfl)
        refine ⟨⟨gy.1, gy.2.1, gy.2.2.1, gy.2.2.2.1, pv8, cp8, ()⟩, fun j hj => ?_, rfl, ?_⟩
        · match j, hj with
          | 0, hj => rfl
          | 1, hj => rfl
          | 2, hj => rfl
          | 3, hj => rfl
          | 4, hj => rfl
          | 5, hj => rfl
          | 6, hj => rfl
          | 7, hj => rfl
          | 8, hj => rfl
          | 9, hj => rfl
          | 10, hj => rfl
          | 11, hj => rfl
          | 12, hj => rfl
          | 13, hj => rfl
          | 14, hj => rw [hDi] at hj; cases hj
          | 15, hj => exact absurd hj (by rw [d15]; exact Bool.false_ne_true)
          | j + 16, _ => rfl
        · show HP (Out [rowS pv cp2 S2]) w7 w3 ([Ent.own (.slice pv8 (S2.length + 1) cp8) (S2.length + 1) (S2.map slV ++ [.slice gy.2.1 r.xs.length gy.2.2.1]) 33 1] ++ ((bif D 7 then [(bif D 12 then rowI' gy.2.1 gy.2.2.1 r.xs else Ent.own (.slice (some ⟨gy.1, 0, none⟩) 0 (r.xs.length + 2)) 0 [] 3 1)] else []) ++ ((bif D 13 then [Ent.cel gy.2.2.2.1 #[.slice gy.2.1 r.xs.length gy.2.2.1] 33] else []) ++ [])))
          try simp only [d7, d12, d13, cond_true, cond_false, List.append_nil, List.nil_append, List.cons_append]
          exact hA
      case o15 =>
        intro gy D wz hDi hdep hclo hW
        exact .inl ⟨rfl, rfl, .inl ⟨gy, wz, fun _ _ => rfl, by kernel_rfl, hW⟩⟩
    rintro ⟨b18, pv7, cp7, b24, pv8, cp8, gu⟩ D w19 hall hH20
    simp only [hall 7 (by kernel_rfl), hall 12 (by kernel_rfl), hall 13 (by kernel_rfl), hall 14 (by kernel_rfl), cond_true, List.append_nil, List.nil_append, List.cons_append] at hH20
    clear hall
    refine WQ.sub (l' := [(0, .slice (some ⟨gS, oS, none⟩) S.length cp), (3, .slice pv8 (S2.length + 1) cp8), (4, vI (i : Int)), (8, .bool true)]) ⟨rfl, rfl, rfl, rfl, trivial⟩ ?_
    refine WQ.inNormal ?_
    refine WQ.then ?_
    refine hK12 _ _ _ ?_
    refine WC.region ?_
    refine WL.pure (v := vI (i : Int)) 9 rfl (Nat.le_of_ble_eq_true rfl) rfl rfl (by kernel_rfl) ?_
    refine WL.pure (v := vI ((i + 1 : Nat) : Int)) 10 rfl (Nat.le_of_ble_eq_true rfl) rfl rfl (x_add (Z := ((i + 1 : Nat) : Int)) rfl rfl rfl (by omega) (by omega) (by omega)) ?_
    refine WL.pure (v := vI ((i + 1 : Nat) : Int)) 4 rfl (Nat.le_of_ble_eq_true rfl) rfl rfl (by kernel_rfl) ?_
    refine WL.nil ?_
    have hE9 : HP Tr w _ ([rowS pv8 cp8 (S2 ++ [(⟨pv7, r.xs, cp7⟩ : SlI)])] ++ (S2 ++ [(⟨pv7, r.xs, cp7⟩ : SlI)]).map rowE) := ow_end hInv (HP.drop hH20 2)
    rw [show S2.length + 1 = (S2 ++ [(⟨pv7, r.xs, cp7⟩ : SlI)]).length by simp]
    refine WQ.sub (l' := [(0, .slice (some ⟨gS, oS, none⟩) S.length cp), (3, .slice pv8 ((S2 ++ [(⟨pv7, r.xs, cp7⟩ : SlI)]).length) cp8), (4, vI ((i + 1 : Nat) : Int))]) ⟨rfl, rfl, rfl, trivial⟩ ?_
    refine WQ.then (hK6 _ _ _ (by omega) ⟨i + 1, (S2 ++ [(⟨pv7, r.xs, cp7⟩ : SlI)]), pv8, cp8, rfl, rfl, by omega, ow_step hX9 hr, hE9, fun r9 h9 => ow_wi hWi9 hIRw.hw r9 h9, HP.refl _⟩)
  ·
    refine WL.pure (v := .bool false) 8 rfl (Nat.le_of_ble_eq_true rfl) rfl rfl (x_lss rfl rfl rfl (dF (hlt))) ?_
    refine WL.nil ?_
    refine WQ.then ?_
    refine hK11 _ _ _ ?_
    refine WC.no rfl ?_
    refine WC.exit ?_
    refine WQ.thenExit ?_
    refine WQ.thenExit ?_
    refine WQ.inExit ?_
    refine WQ.then ?_
    refine hK4 _ _ _ ?_
    refine WC.seq fun K21 hK21 => ?_
    refine WC.region ?_
    refine WL.pure (v := .slice pv S2.length cp2) 26 rfl (Nat.le_of_ble_eq_true rfl) rfl rfl (by kernel_rfl) ?_
    refine WL.pure (v := .slice pv S2.length cp2) 2 rfl (Nat.le_of_ble_eq_true rfl) rfl rfl (by kernel_rfl) ?_
    refine WL.nil ?_
    refine WQ.then ?_
    refine hK21 _ _ _ ?_
    refine WC.ret ?_
    refine WQ.ret1 2 rfl rfl ?_
    rw [List.take_of_length_le (by rw [stX_len]; omega)] at hX9
    exact ⟨pv, cp2, S2, rfl, hX9, in_own (hI9.hold (rowS pv cp2 S2) (by simp)) (rows_in hI9 (fun r9 h9 => by simp; exact .inr ⟨r9, h9, rfl⟩) hWi9), HP.below hI9⟩
end Ca
end Go.Proofs.Ytmjnakhpekbenaa
namespace Go.Proofs.Ytmjnakhpekbenaa
open Go.RowKit Fw Go.ChangeShapes Go.WideShapes
namespace Ca
/-- a state that came in -/
structure StIn (w : World) (p : Option Addr) (S : List SlI) : Prop where
  inn : InS2 w p S
  nil : ∀ r ∈ S, r.q = none → r.c = 0
  len : S.length * 24 ≤ 140737488351232
  rows : ∀ r ∈ S, r.xs.length * 8 ≤ 140737488351232
theorem StIn.below {w w' : World} {p : Option Addr} {S : List SlI} (h : StIn w p S) (hb : Below w.heap.size w w') : StIn w' p S := ⟨h.inn.below hb, h.nil, h.len, h.rows⟩
theorem addr_none {w : World} {a : Addr} {v : Value} (h : w.cell? a = some v) : a.spot = none := by
  unfold World.cell? at h
  cases hsp : a.spot with
  | none => rfl
  | some q => rw [hsp] at h; simp at h; split at h <;> simp at h
theorem weightsAll_mem {H : Type} {P : Program} {t : TypeId} : ∀ {l : List (DataW H)} {d : DataW H}, d ∈ l → ∀ x ∈ DataW.weights P t d, x ∈ DataW.weightsAll P t l
  | d :: r, e, h, x, hx => by
    rw [DataW.weightsAll, List.mem_append]
    rcases List.mem_cons.1 h with rfl | h
    · exact .inl hx
    · exact .inr (weightsAll_mem h x hx)
theorem sized_inner {H : Type} {P : Program} {ts : List TypeId} {ds : List (DataW H)} (h : (DataW.weightsEach P ts ds).all (· ≤ reachBytes) = true) {j : Nat} {t e q : TypeId} {elems spare e' sp' : List (DataW H)}
    (ht : ts[j]? = some t) (hd : ds[j]? = some (.slice elems spare)) (hu : P.underlying t = some (.slice e)) (hu2 : P.underlying e = some (.slice q)) (hx : DataW.slice e' sp' ∈ elems) : (e'.length + sp'.length) * P.bytesOf q ≤ reachBytes := by
  refine of_decide_eq_true (List.all_eq_true.1 h _ (DataW.weights_mem_each ht hd _ ?_))
  simp only [DataW.weights, hu, List.mem_cons, List.mem_append]
  exact Or.inr (Or.inl (weightsAll_mem hx _ (by simp [DataW.weights, hu2])))
theorem bytes33 : Try.prog.bytesOf 33 = 24 := by kernel_rfl
theorem bytes3 : Try.prog.bytesOf 3 = 8 := by kernel_rfl
theorem rowsS {H : Type} {enc : TypeId × Value → H} {W : World} {p : Option Addr} {n cap : Nat} {d : DataW H} {pl : List MemPlace}
    (h : DataW.Trod enc Try.prog W 0 (fun _ => true) true 24 (.slice p n cap) d pl)
    (hz : ∀ elems spare, d = .slice elems spare → (elems.length + spare.length) * Try.prog.bytesOf 33 ≤ reachBytes ∧ ∀ e' sp', DataW.slice e' sp' ∈ elems → (e'.length + sp'.length) * Try.prog.bytesOf 3 ≤ reachBytes) :
    ∃ S : List SlI, n = S.length ∧ StIn W p S := by
  obtain ⟨fuel, hf⟩ := h
  rcases Go.Deep.open_int_rows (k := .i64) Try.underlying24 Try.underlying33 Try.underlying3 (by kernel_rfl) (by kernel_rfl) hf with ⟨hc, -⟩ | ⟨a, len, cap', A, L, C, Z, hc, -, hl, hm, hx, hr⟩
  · simp [Value.cells] at hc
    obtain ⟨rfl, rfl, rfl⟩ := hc
    exact ⟨[], rfl, ⟨⟨(fun h => absurd h (by simp)), (fun r hr => by cases hr)⟩, (fun r hr => by cases hr), (by simp), (fun r hr => by cases hr)⟩⟩
  · simp [Value.cells] at hc
    obtain ⟨rfl, rfl, rfl⟩ := hc
    simp only [Prod.mk.injEq] at hx
    obtain ⟨hz1, hz2⟩ := hz _ _ hx.1
    rw [bytes33] at hz1
    rw [bytes3] at hz2
    simp only [List.length_map, List.length_range, reachBytes] at hz1
    have hrow : ∀ r, r < n → (Z r).take (L r) = (Z r).take (L r) ∧ ((Z r).take (L r)).length = L r := fun r hrn => ⟨rfl, by
      have := (hr r (by omega)); rw [List.length_take]; omega⟩
    refine ⟨(List.range n).map fun r => ⟨A r, (Z r).take (L r), C r⟩, by simp, ⟨⟨fun h0 => ?_, fun r hrm => ?_⟩, fun r hrm => ?_, by simp; omega, fun r hrm => ?_⟩⟩
    · have hn0 : 0 < n := by simpa using h0
      have hsp := addr_none (hr 0 (by omega)).1
      obtain ⟨b, o, sp⟩ := a
      have hsp2 : sp = none := by
        have e : ((⟨b, o, sp⟩ : Addr).add 0).spot = sp := by unfold Addr.add; split <;> simp_all
        rw [e] at hsp; exact hsp
      subst hsp2
      refine ⟨b, o, rfl, fun i hi j v hv => ?_⟩
      have hi : i < n := by simpa using hi
      match j, hv with
      | 0, hv =>
        simp at hv; subst hv
        have h1 := (hr i (by omega)).1
        rw [hadd] at h1
        simp only [Nat.add_zero, List.getElem?_map, List.getElem?_range hi, Option.map_some, Option.getD_some]
        show W.cell? _ = some (.slice (A i) ((Z i).take (L i)).length (C i))
        rw [(hrow i hi).2]; exact h1
      | j + 1, hv => simp at hv
    · obtain ⟨i, hi, rfl⟩ := List.mem_map.1 hrm
      have hi := List.mem_range.1 hi
      obtain ⟨q1, q2, q3, q4, q5, q6, q7⟩ := hr i (by omega)
      refine ⟨fun h0 => ?_, ?_, q3, fun x hx => wi_of (q5 x (List.mem_of_mem_take hx))⟩
      · rw [(hrow i hi).2] at h0
        cases ha : A i with
        | none => have := q6 ha; omega
        | some a' =>
          obtain ⟨-, hc⟩ := q7 a' ha
          have hsp := addr_none (hc 0 (by omega))
          obtain ⟨b, o, sp⟩ := a'
          have hsp2 : sp = none := by
            have e : ((⟨b, o, sp⟩ : Addr).add 0).spot = sp := by unfold Addr.add; split <;> simp_all
            rw [e] at hsp; exact hsp
          subst hsp2
          refine ⟨b, o, by simp [ha], fun c hcl j v hv => ?_⟩
          have hcl : c < L i := by rw [← (hrow i hi).2]; exact hcl
          match j, hv with
          | 0, hv =>
            simp at hv; subst hv
            have h1 := hc c (by omega)
            rw [hadd] at h1
            rw [Nat.add_zero, h1]
            simp [List.getElem?_take, hcl]
          | j + 1, hv => simp at hv
      · show ((Z i).take (L i)).length ≤ C i
        rw [(hrow i hi).2]; exact q2
    · obtain ⟨i, hi, rfl⟩ := List.mem_map.1 hrm
      have hi := List.mem_range.1 hi
      exact (hr i (by omega)).2.2.2.2.2.1
    · obtain ⟨i, hi, rfl⟩ := List.mem_map.1 hrm
      have hi := List.mem_range.1 hi
      obtain ⟨q1, q2, q3, q4, q5, q6, q7⟩ := hr i (by omega)
      show ((Z i).take (L i)).length * 8 ≤ _
      rw [(hrow i hi).2]
      cases ha : A i with
      | none => have := q6 ha; omega
      | some a' =>
        have := hz2 _ _ (List.mem_map.2 ⟨i, List.mem_range.2 hi, by simp only [Go.Deep.intRow, ha]; rfl⟩)
        simp only [lits, List.length_map, List.length_take, List.length_drop, reachBytes] at this
        omega
/-- a table that came in -/
structure TbIn (w : World) (p : Option Addr) (t : List T2) : Prop where
  inn : InT w p t
  wi : ∀ q ∈ t, Wi q.1 ∧ Wi q.2
  len : t.length * 16 ≤ 140737488351232
theorem TbIn.below {w w' : World} {p : Option Addr} {t : List T2} (h : TbIn w p t) (hb : Below w.heap.size w w') : TbIn w' p t := ⟨h.inn.below hb, h.wi, h.len⟩
end Ca
end Go.Proofs.Ytmjnakhpekbenaa
namespace Go.Proofs.Ytmjnakhpekbenaa
open Go.RowKit Fw
namespace Ca
/-- a row of the state behind, as the reference builds it -/
def preR (x : Int) (k i : Nat) : List Int := if i = k then [x] else []
def rRow (y x : Int) (k i : Nat) (xs : List Int) : List Int := preR x k i ++ (xs.filter fun z => z != x).take (y.toNat - (preR x k i).length)
def rSt (y x : Int) (k : Nat) (X : List (List Int)) (n : Nat) : List (List Int) := (List.range n).map fun i => rRow y x k i (X.getD i [])
theorem rSt_step (y x : Int) (k : Nat) (X : List (List Int)) (n : Nat) : rSt y x k X (n + 1) = rSt y x k X n ++ [rRow y x k n (X.getD n [])] := by simp [rSt, List.range_succ]
theorem rSt_eq {s y l m a : Int} {X : List (List Int)} (h : okSt s y l m X = true) (ha : 0 ≤ a ∧ a ≤ 999) : rSt y (a / l) (setN s l a) X X.length = stp s y l a X := by
  obtain ⟨h1, h2, h3⟩ := okSt_iff.1 h
  obtain ⟨hs, hy, hl, -⟩ := vG_iff.1 h1
  obtain ⟨e1, e2⟩ := setN_spec hs hl ha
  refine List.ext_getElem (by simp [rSt, stp]) fun i q1 q2 => ?_
  have hi : i < X.length := by simpa [rSt] using q1
  have g : X.getD i [] = X[i] := by simp [List.getD_eq_getElem?_getD, hi]
  have ok := h3 i hi
  have e3 : (rSt y (a / l) (setN s l a) X X.length)[i] = rRow y (a / l) (setN s l a) i (X.getD i []) := by simp [rSt]
  have e4 : (stp s y l a X)[i] = (X.set (setN s l a) (tcX y (a / l) (X.getD (setN s l a) [])))[i]'(by simpa using hi) := rfl
  rw [e3, e4]
  unfold rRow preR
  by_cases q : setN s l a = i
  · rw [if_pos q.symm]
    subst q
    rw [List.getElem_set_self, tcX_eq ok hy.1]
    rfl
  · rw [if_neg (fun e => q e.symm), List.getElem_set_ne q, List.nil_append, g]
    rw [g] at ok
    obtain ⟨o1, o2, o3⟩ := okR_iff2.1 ok
    rw [filter_self (fun hx => by have := (o2 _ hx).2; omega), List.take_of_length_le (by simp; omega)]
theorem ft_step {xs : List Int} {j : Nat} {x : Int} (hj : j < xs.length) : (xs.take (j + 1)).filter (fun z => z != x) = (xs.take j).filter (fun z => z != x) ++ (if xs.getD j 0 = x then [] else [xs.getD j 0]) := by
  rw [List.take_add_one, List.filter_append, List.getElem?_eq_getElem hj]
  have e : xs.getD j 0 = xs[j] := by simp [List.getD_eq_getElem?_getD, hj]
  rw [e]
  by_cases q : xs[j] = x
  · rw [if_pos q]; simp [q]
  · rw [if_neg q]; simp [q]
/-- how far a row is built -/
def ftA (y x : Int) (pre xs : List Int) (j : Nat) : List Int := pre ++ ((xs.take j).filter fun z => z != x).take (y.toNat - pre.length)
theorem ft_skip {y x : Int} {pre xs : List Int} {j : Nat} (hj : j < xs.length) (h : xs.getD j 0 = x) : ftA y x pre xs (j + 1) = ftA y x pre xs j := by
  unfold ftA; rw [ft_step hj, if_pos h, List.append_nil]
theorem ft_add {y x : Int} {pre xs : List Int} {j : Nat} (hj : j < xs.length) (h : xs.getD j 0 ≠ x) (hl : ((ftA y x pre xs j).length : Int) < y) : ftA y x pre xs (j + 1) = ftA y x pre xs j ++ [xs.getD j 0] := by
  unfold ftA at hl ⊢
  simp only [List.length_append, List.length_take] at hl
  rw [ft_step hj, if_neg h, List.append_assoc, List.take_of_length_le (l := _ ++ [xs.getD j 0]) (by simp; omega), List.take_of_length_le (l := List.filter _ _) (by omega)]
theorem ft_full {y x : Int} {pre xs : List Int} {j : Nat} (hj : j < xs.length) (hp : (pre.length : Int) ≤ y) (hl : ¬ ((ftA y x pre xs j).length : Int) < y) : ftA y x pre xs (j + 1) = ftA y x pre xs j := by
  unfold ftA at hl ⊢
  simp only [List.length_append, List.length_take] at hl
  rw [ft_step hj, List.take_append_of_le_length (by omega)]
theorem ft_end {y x : Int} {k i : Nat} {pre xs : List Int} {j : Nat} (hp : pre = preR x k i) (hj : xs.length ≤ j) : ftA y x pre xs j = rRow y x k i xs := by
  unfold ftA rRow; rw [List.take_of_length_le hj, hp]
theorem iR_push (A : List Int) (v : Int) : iR A ++ [vI v] = iR (A ++ [v]) := by simp [iR]
theorem ow_end3 {w0 w W : World} {b : Nat} {c : Array Value} {T : TypeId} {pv pv8 : Option Addr} {cp cp8 : Nat} {S2 : List SlI} {r : SlI} (h : HP Tr w0 w ([Ent.cel b c T, rowS pv cp S2] ++ S2.map rowE)) (h2 : HP (Out [Ent.cel b c T, rowS pv cp S2]) w W [Ent.cel b c T, .own (.slice pv8 (S2.length + 1) cp8) (S2.length + 1) (S2.map slV ++ [slV r]) 33 1, rowE r]) :
    HP Tr w0 W ([Ent.cel b c T, rowS pv8 cp8 (S2 ++ [r])] ++ (S2 ++ [r]).map rowE) := by
  have h3 := HP.exchF (A := [Ent.cel b c T, rowS pv cp S2]) (B := S2.map rowE) h h2
  have e : (Ent.own (.slice pv8 (S2.length + 1) cp8) (S2.length + 1) (S2.map slV ++ [slV r]) 33 1) = rowS pv8 cp8 (S2 ++ [r]) := by simp [rowS]
  rw [e] at h3
  refine HP.perm h3 ?_
  rw [List.map_append]
  exact List.Perm.cons _ (List.Perm.cons _ (List.perm_append_comm (l₁ := [rowE r]) (l₂ := S2.map rowE)))
theorem rValidState_at {s y l m : Int} {S : List SlI} {r : Bool} (h : okSt s y l m (stX S) = r) (p : Option Addr) (cp : Nat) (w : World) (hS : InS2 w p S) (hn : S.length ≤ 281474976710656) :
    Calls Try.prog 19 #[.agg #[vI s, vI y, vI l, vI m], .slice p S.length cp] w fun e w' => e = .returned (.bool r) ∧ Below w.heap.size w w' := h ▸ rValidState_any s y l m p S cp w hS hn
theorem ft_wi {y x : Int} {k i : Nat} {pre xs : List Int} {j : Nat} (hw : ∀ z ∈ xs, Wi z) (hx : 0 ≤ x ∧ x ≤ 999) (hp : pre = preR x k i) : ∀ z ∈ ftA y x pre xs j, Wi z := fun z hz => by
  unfold ftA at hz
  rcases List.mem_append.1 hz with q | q
  · rw [hp] at q
    unfold preR at q
    split at q
    · obtain rfl := List.mem_singleton.1 q; exact ⟨by omega, by omega⟩
    · cases q
  · exact hw z (List.mem_of_mem_take (List.mem_filter.1 (List.mem_of_mem_take q)).1)
theorem out_in3 {w0 w W : World} {B : List Ent} {A H : List Ent} {q : Option Addr} {xs : List Int} (h : HP Tr w0 w (B ++ A)) (hI : InI w0 q xs) (h9 : HP (Out B) w W H) : InI W q xs := fun h0 => by
  obtain ⟨g, o, hq, hr⟩ := hI h0
  exact ⟨g, o, hq, fun i hi => HP.oldRange h9 (out_old h (row_lt hr h0 rfl)) (HP.oldRange (S := Tr) (HP.of_below (HP.below h)) trivial (hr i hi))⟩
theorem out_below {w0 w W : World} {B A H : List Ent} (h : HP Tr w0 w (B ++ A)) (h9 : HP (Out B) w W H) : Below w0.heap.size w0 W :=
  ⟨h9.os.trans h.os, h9.tape.trans h.tape, h9.output.trans h.output, Nat.le_trans h.size h9.size, fun k hk => (h9.keep k (Nat.lt_of_lt_of_le hk h.size) (out_old h hk)).trans (h.keep k hk trivial)⟩
theorem out_rows {w0 w W : World} {B B' : List Ent} {S2 : List SlI} (h : HP Tr w0 w (B ++ S2.map rowE)) (h9 : HP (Out B) w W B') (hw : ∀ r ∈ S2, ∀ x ∈ r.xs, Wi x) : ∀ r ∈ S2, InR W r := fun r hr => by
  have h3 := HP.exchF (A := B) (B := S2.map rowE) h h9
  exact (row_InR (h3.hold (rowE r) (List.mem_append_right _ (List.mem_map.2 ⟨r, hr, rfl⟩))) (hw r hr)).1
set_option maxRecDepth 20000 in
set_option maxHeartbeats 4000000 in
theorem rTouch_any (s y l m a : Int) (p : Option Addr) (S : List SlI) (cp : Nat) (w : World) (hS : InS2 w p S) (hn : S.length ≤ 281474976710656) :
    Calls Try.prog 13 #[.agg #[vI s, vI y, vI l, vI m], .slice p S.length cp, vI a] w (TouR s y l m a S w) := by
  refine calls_of Try.func13 rfl (m := 95) rfl [(0, .agg #[vI s, vI y, vI l, vI m]), (1, .slice p S.length cp), (2, vI a)] (Fr_enter [.agg #[vI s, vI y, vI l, vI m], .slice p S.length cp, vI a] 95 (Nat.le_of_ble_eq_true rfl)) ?_
  have hH1 : HP Tr w w [] := HP.refl w
  refine WC.seq fun K2 hK2 => ?_
  refine WC.region ?_
  refine WL.alloc (c := #[vI s, vI y, vI l, vI m]) (T := 23) hH1 3 rfl (by decide) rfl rfl (fun b3 => vP b3 0) (by kernel_rfl) (fun b3 w3 hw3 => ?_)
  have hH4 : HP Tr w w3 [.cel b3 #[vI s, vI y, vI l, vI m] 23] := hw3.2
  have nb3 := hw3.1
  clear hw3
  refine WL.pure (v := .slice none 0 0) 6 rfl (Nat.le_of_ble_eq_true rfl) rfl rfl (by kernel_rfl) ?_
  refine WL.pure (v := .bool false) 7 rfl (Nat.le_of_ble_eq_true rfl) rfl rfl (by kernel_rfl) ?_
  refine WL.pure (v := vI 0) 8 rfl (Nat.le_of_ble_eq_true rfl) rfl rfl (by kernel_rfl) ?_
  refine WL.nil ?_
  refine WQ.then ?_
  refine hK2 _ _ _ ?_
  refine WC.seq fun K5 hK5 => ?_
  refine WC.seq fun K6 hK6 => ?_
  refine WC.region ?_
  refine WL.pure (v := .agg #[vI s, vI y, vI l, vI m]) 15 rfl (Nat.le_of_ble_eq_true rfl) rfl rfl (x_loadS (cs := [vI s, vI y, vI l, vI m]) rfl rfl Try.underlying23 rfl sz23 (HP.range hH4 0 rfl rfl)) ?_
  refine WL.pure (v := .slice p S.length cp) 16 rfl (Nat.le_of_ble_eq_true rfl) rfl rfl (by kernel_rfl) ?_
  rcases Bool.eq_false_or_eq_true (okSt s y l m (stX S)) with hv | hv
  ·
    obtain ⟨hSs, hrl⟩ := okSt_rows hv
    obtain ⟨⟨hs1, hs2⟩, ⟨hy1, hy2⟩, ⟨hl1, hl2⟩, -⟩ := vG_iff.1 (okSt_iff.1 hv).1
    refine WL.call (f := 19) (args := #[.agg #[vI s, vI y, vI l, vI m], .slice p S.length cp]) 17 rfl (Nat.le_of_ble_eq_true rfl) rfl rfl (by kernel_rfl) ?_
    refine (rValidState_at hv p cp _ (hS.below (HP.below hH4)) hn).mono ?_
    rintro e w7 ⟨rfl, hb8⟩
    refine ⟨_, rfl, ?_⟩
    have hH9 : HP Tr w _ [.cel b3 #[vI s, vI y, vI l, vI m] 23] := HP.call hH4 hb8
    refine WL.pure (v := .bool false) 18 rfl (Nat.le_of_ble_eq_true rfl) rfl rfl (by kernel_rfl) ?_
    refine WL.pure (v := .bool false) 19 rfl (Nat.le_of_ble_eq_true rfl) rfl rfl (by kernel_rfl) ?_
    refine WL.pure (v := vI a) 20 rfl (Nat.le_of_ble_eq_true rfl) rfl rfl (by kernel_rfl) ?_
    by_cases h21 : a < 0
    ·
      refine WL.pure (v := .bool true) 21 rfl (Nat.le_of_ble_eq_true rfl) rfl rfl (x_lss rfl rfl rfl (dT (h21))) ?_
      refine WL.pure (v := .bool true) 22 rfl (Nat.le_of_ble_eq_true rfl) rfl rfl (by kernel_rfl) ?_
      refine WL.pure (v := .bool true) 23 rfl (Nat.le_of_ble_eq_true rfl) rfl rfl (by kernel_rfl) ?_
      refine WL.pass 24 rfl (Nat.le_of_ble_eq_true rfl) rfl ?_
      refine WL.pass 25 rfl (Nat.le_of_ble_eq_true rfl) rfl ?_
      refine WL.pure (v := .bool true) 26 rfl (Nat.le_of_ble_eq_true rfl) rfl rfl (by kernel_rfl) ?_
      refine WL.nil ?_
      refine WQ.then ?_
      refine hK6 _ _ _ ?_
      refine WC.sub (l' := [(0, .agg #[vI s, vI y, vI l, vI m]), (1, .slice p S.length cp), (2, vI a), (3, vP b3 0), (6, .slice none 0 0), (7, .bool false), (8, vI 0), (26, .bool true)]) ⟨rfl, rfl, rfl, rfl, rfl, rfl, rfl, rfl, trivial⟩ ?_
      refine WC.yes rfl ?_
      refine WC.seq fun K10 hK10 => ?_
      have hno : tOk s y l m a (stX S) = false := by unfold tOk; rw [hv, wn_no2 (by omega)]; rfl
      refine WC.region ?_
      refine WL.pure (v := .slice none 0 0) 6 rfl (Nat.le_of_ble_eq_true rfl) rfl rfl (by kernel_rfl) ?_
      refine WL.pure (v := .bool false) 7 rfl (Nat.le_of_ble_eq_true rfl) rfl rfl (by kernel_rfl) ?_
      refine WL.pure (v := vI 1) 8 rfl (Nat.le_of_ble_eq_true rfl) rfl rfl (by kernel_rfl) ?_
      refine WL.nil ?_
      refine WQ.then ?_
      refine hK10 _ _ _ ?_
      refine WC.ret ?_
      refine WQ.thenRet ?_
      refine WQ.ret3 6 7 8 rfl rfl rfl rfl ?_
      exact .inl ⟨hno, rfl, HP.below hH9⟩
    ·
      refine WL.pure (v := .bool false) 21 rfl (Nat.le_of_ble_eq_true rfl) rfl rfl (x_lss rfl rfl rfl (dF (h21))) ?_
      refine WL.pure (v := .bool false) 22 rfl (Nat.le_of_ble_eq_true rfl) rfl rfl (by kernel_rfl) ?_
      refine WL.pure (v := .bool false) 23 rfl (Nat.le_of_ble_eq_true rfl) rfl rfl (by kernel_rfl) ?_
      refine WL.pure (v := vI a) 24 rfl (Nat.le_of_ble_eq_true rfl) rfl rfl (by kernel_rfl) ?_
      by_cases h25 : (999 : Int) < a
      ·
        refine WL.pure (v := .bool true) 25 rfl (Nat.le_of_ble_eq_true rfl) rfl rfl (x_gtr rfl rfl rfl (dT (h25))) ?_
        refine WL.pure (v := .bool true) 26 rfl (Nat.le_of_ble_eq_true rfl) rfl rfl (by kernel_rfl) ?_
        refine WL.nil ?_
        refine WQ.then ?_
        refine hK6 _ _ _ ?_
        refine WC.sub (l' := [(0, .agg #[vI s, vI y, vI l, vI m]), (1, .slice p S.length cp), (2, vI a), (3, vP b3 0), (6, .slice none 0 0), (7, .bool false), (8, vI 0), (26, .bool true)]) ⟨rfl, rfl, rfl, rfl, rfl, rfl, rfl, rfl, trivial⟩ ?_
        refine WC.yes rfl ?_
        refine WC.seq fun K11 hK11 => ?_
        have hno : tOk s y l m a (stX S) = false := by unfold tOk; rw [hv, wn_no2 (by omega)]; rfl
        refine WC.region ?_
        refine WL.pure (v := .slice none 0 0) 6 rfl (Nat.le_of_ble_eq_true rfl) rfl rfl (by kernel_rfl) ?_
        refine WL.pure (v := .bool false) 7 rfl (Nat.le_of_ble_eq_true rfl) rfl rfl (by kernel_rfl) ?_
        refine WL.pure (v := vI 1) 8 rfl (Nat.le_of_ble_eq_true rfl) rfl rfl (by kernel_rfl) ?_
        refine WL.nil ?_
        refine WQ.then ?_
        refine hK11 _ _ _ ?_
        refine WC.ret ?_
        refine WQ.thenRet ?_
        refine WQ.ret3 6 7 8 rfl rfl rfl rfl ?_
        exact .inl ⟨hno, rfl, HP.below hH9⟩
      ·
        refine WL.pure (v := .bool false) 25 rfl (Nat.le_of_ble_eq_true rfl) rfl rfl (x_gtr rfl rfl rfl (dF (h25))) ?_
        refine WL.pure (v := .bool false) 26 rfl (Nat.le_of_ble_eq_true rfl) rfl rfl (by kernel_rfl) ?_
        refine WL.nil ?_
        refine WQ.then ?_
        refine hK6 _ _ _ ?_
        refine WC.sub (l' := [(0, .agg #[vI s, vI y, vI l, vI m]), (1, .slice p S.length cp), (2, vI a), (3, vP b3 0), (6, .slice none 0 0), (7, .bool false), (8, vI 0), (26, .bool false)]) ⟨rfl, rfl, rfl, rfl, rfl, rfl, rfl, rfl, trivial⟩ ?_
        refine WC.no rfl ?_
        refine WC.skip ?_
        refine WQ.then ?_
        refine hK5 _ _ _ ?_
        refine WC.seq fun K12 hK12 => ?_
        refine WC.region ?_
        refine WL.pure (v := vI a) 27 rfl (Nat.le_of_ble_eq_true rfl) rfl rfl (by kernel_rfl) ?_
        refine WL.pure (v := vP b3 2) 28 rfl (Nat.le_of_ble_eq_true rfl) rfl rfl (by kernel_rfl) ?_
        refine WL.pure (v := vI l) 29 rfl (Nat.le_of_ble_eq_true rfl) rfl rfl (x_load rfl rfl Try.underlying3 rfl (HP.cell hH9 0 rfl rfl)) ?_
        have ha : 0 ≤ a ∧ a ≤ 999 := ⟨by omega, by omega⟩
        have hyes : tOk s y l m a (stX S) = true := by unfold tOk; rw [hv]; exact wn_iff.2 ha
        obtain ⟨hk1, hk2⟩ := setN_spec ⟨hs1, hs2⟩ ⟨hl1, hl2⟩ ha
        have heq := rSt_eq hv ha
        have hxb := line_bd ⟨hl1, hl2⟩ ha
        have hhit : hitN s l a (stX S) = if 0 ≤ plcV (a / l) ((stX S).getD (setN s l a) []) then 1 else 0 := by unfold hitN; rw [idx_plc]
        refine WL.pure (v := vI (a / l)) 30 rfl (Nat.le_of_ble_eq_true rfl) rfl rfl (x_quo rfl rfl rfl (by omega) (tdiv_pos (by omega) (by omega)) (by have := Int.ediv_nonneg (show 0 ≤ a by omega) (show 0 ≤ l by omega); omega) (by have := Int.ediv_le_self l (show 0 ≤ a by omega); omega)) ?_
        refine WL.pure (v := vI (a / l)) 9 rfl (Nat.le_of_ble_eq_true rfl) rfl rfl (by kernel_rfl) ?_
        refine WL.nil ?_
        refine WQ.then ?_
        refine hK12 _ _ _ ?_
        refine WC.seq fun K13 hK13 => ?_
        generalize hkd : setN s l a = k at hk1 hk2 heq hhit
        generalize hxd : a / l = x at hk1 heq hhit hxb ⊢
        refine WC.region ?_
        refine WL.pure (v := vI x) 31 rfl (Nat.le_of_ble_eq_true rfl) rfl rfl (by kernel_rfl) ?_
        refine WL.pure (v := vP b3 0) 32 rfl (Nat.le_of_ble_eq_true rfl) rfl rfl (by kernel_rfl) ?_
        refine WL.pure (v := vI s) 33 rfl (Nat.le_of_ble_eq_true rfl) rfl rfl (x_load rfl rfl Try.underlying3 rfl (HP.cell hH9 0 rfl rfl)) ?_
        refine WL.pure (v := vI (k : Int)) 34 rfl (Nat.le_of_ble_eq_true rfl) rfl rfl (x_rem rfl rfl rfl (by omega) hk1) ?_
        refine WL.pure (v := vI (k : Int)) 10 rfl (Nat.le_of_ble_eq_true rfl) rfl rfl (by kernel_rfl) ?_
        refine WL.nil ?_
        refine WQ.then ?_
        refine hK13 _ _ _ ?_
        refine WC.sub (l' := [(0, .agg #[vI s, vI y, vI l, vI m]), (1, .slice p S.length cp), (2, vI a), (3, vP b3 0), (6, .slice none 0 0), (7, .bool false), (8, vI 0), (9, vI x), (10, vI (k : Int)), (26, .bool false)]) ⟨rfl, rfl, rfl, rfl, rfl, rfl, rfl, rfl, rfl, rfl, trivial⟩ ?_
        refine WC.seq fun K14 hK14 => ?_
        refine WC.region ?_
        refine WL.pure (v := .slice none 0 0) 11 rfl (Nat.le_of_ble_eq_true rfl) rfl rfl (by kernel_rfl) ?_
        refine WL.nil ?_
        refine WQ.then ?_
        refine hK14 _ _ _ ?_
        refine WC.seq fun K15 hK15 => ?_
        refine WC.seq fun K16 hK16 => ?_
        refine WC.region ?_
        refine WL.pure (v := vI 0) 12 rfl (Nat.le_of_ble_eq_true rfl) rfl rfl (by kernel_rfl) ?_
        refine WL.nil ?_
        refine WQ.then ?_
        refine hK16 _ _ _ ?_
        refine WC.block ?_
        refine WC.loop (fun kk0 ll0 ww0 => ∃ (i : Nat) (S2 : List SlI) (pv : Option Addr) (cp2 : Nat), ll0 = [(1, .slice p S.length cp), (2, vI a), (3, vP b3 0), (9, vI x), (10, vI (k : Int)), (11, .slice pv S2.length cp2), (12, vI (i : Int))] ∧ kk0 = S.length - i ∧ (i ≤ S.length) ∧ (stX S2 = rSt y x k (stX S) i) ∧ (HP Tr w ww0 ([Go.Proofs.Ytmjnakhpekbenaa.Fw.Ent.cel b3 #[vI s, vI y, vI l, vI m] 23, rowS pv cp2 S2] ++ S2.map rowE)) ∧ (∀ r ∈ S2, ∀ x ∈ r.xs, Wi x) ∧ HP Tr ww0 ww0 []) (S.length) [(1, .slice p S.length cp), (2, vI a), (3, vP b3 0), (9, vI x), (10, vI (k : Int)), (11, .slice none 0 0), (12, vI 0)] ⟨rfl, rfl, rfl, rfl, rfl, rfl, rfl, trivial⟩ ⟨0, [], none, 0, rfl, rfl, Nat.zero_le _, rfl, HP.eq (HP.ownNil hH9 33 1) rfl, (fun r h => by cases h), HP.refl _⟩ ?_
        rintro kk l w18 ⟨i, S2, pv, cp2, rfl, hkk, hi, hX9, hI9, hWi9, hH19⟩ K17 hK17
        have hl2 : S2.length = i := by have q9 := congrArg List.length hX9; rw [stX_len] at q9; simpa [rSt] using q9
        have hInv := hI9
        have hR0 := HP.ownF (A := [Go.Proofs.Ytmjnakhpekbenaa.Fw.Ent.cel b3 #[vI s, vI y, vI l, vI m] 23, rowS pv cp2 S2]) (B := S2.map rowE) hI9
        have hH20 : HP (Out [Go.Proofs.Ytmjnakhpekbenaa.Fw.Ent.cel b3 #[vI s, vI y, vI l, vI m] 23, rowS pv cp2 S2]) w18 w18 [.cel b3 #[vI s, vI y, vI l, vI m] 23, rowS pv cp2 S2] := HP.startB hR0
        refine WC.seq fun K21 hK21 => ?_
        refine WC.seq fun K22 hK22 => ?_
        refine WC.region ?_
        refine WL.pure (v := vI (i : Int)) 35 rfl (Nat.le_of_ble_eq_true rfl) rfl rfl (by kernel_rfl) ?_
        refine WL.pure (v := .slice p S.length cp) 36 rfl (Nat.le_of_ble_eq_true rfl) rfl rfl (by kernel_rfl) ?_
        refine WL.pure (v := vI (S.length : Int)) 37 rfl (Nat.le_of_ble_eq_true rfl) rfl rfl (by kernel_rfl) ?_
        by_cases hlt : (i : Int) < (S.length : Int)
        ·
          refine WL.pure (v := .bool true) 38 rfl (Nat.le_of_ble_eq_true rfl) rfl rfl (x_lss rfl rfl rfl (dT (hlt))) ?_
          refine WL.nil ?_
          refine WQ.then ?_
          refine hK22 _ _ _ ?_
          refine WC.yes rfl ?_
          refine WC.skip ?_
          refine WQ.then ?_
          refine hK21 _ _ _ ?_
          refine WC.seq fun K23 hK23 => ?_
          refine WC.block ?_
          refine WC.seq fun K24 hK24 => ?_
          obtain ⟨⟨rq, rxs, rc⟩, hr⟩ : ∃ r, S[i]? = some r := ⟨S[i]'(by omega), List.getElem?_eq_getElem _⟩
          obtain ⟨hr1, hr2, hr3, hr4⟩ := stX_at hr
          obtain ⟨gS, oS, hpS, hrowS0⟩ := hS.row (by omega)
          have hgSl := row_lt hrowS0 (show 0 < S.length by omega) rfl
          have hrowS := fun i9 h9 => HP.oldRange (S := Tr) (HP.of_below (HP.below hInv)) trivial (hrowS0 i9 h9)
          have hgS := out_old hInv hgSl
          have hIRw := hS.inn _ hr4
          have hrl9 := hrl _ hr4
          simp only [] at hr1 hrl9
          subst hpS
          refine WC.region ?_
          refine WL.pure (v := .slice none 0 0) 13 rfl (Nat.le_of_ble_eq_true rfl) rfl rfl (by kernel_rfl) ?_
          refine WL.nil ?_
          refine WQ.then ?_
          refine hK24 _ _ _ ?_
          have hH25 : HP (Out [Go.Proofs.Ytmjnakhpekbenaa.Fw.Ent.cel b3 #[vI s, vI y, vI l, vI m] 23, rowS pv cp2 S2]) w18 _ [.cel b3 #[vI s, vI y, vI l, vI m] 23, rowS pv cp2 S2, .own (.slice none 0 0) 0 [] 3 1] := HP.ownNil hH20 3 1
          refine WC.cut (fun lz w2 => ∃ (pre : List Int) (pvl : Option Addr) (cpl : Nat), lz = [(1, .slice (some ⟨gS, oS, none⟩) S.length cp), (2, vI a), (3, vP b3 0), (9, vI x), (10, vI (k : Int)), (11, .slice pv S2.length cp2), (12, vI (i : Int)), (13, .slice pvl pre.length cpl), (38, .bool true)] ∧ (pre = preR x k i) ∧ HP (Out [Go.Proofs.Ytmjnakhpekbenaa.Fw.Ent.cel b3 #[vI s, vI y, vI l, vI m] 23, rowS pv cp2 S2]) w18 w2 [.cel b3 #[vI s, vI y, vI l, vI m] 23, rowS pv cp2 S2, rowI' pvl cpl pre]) ?_ ?_
          ·
            refine WC.seq fun K26 hK26 => ?_
            refine WC.region ?_
            refine WL.pure (v := vI (i : Int)) 41 rfl (Nat.le_of_ble_eq_true rfl) rfl rfl (by kernel_rfl) ?_
            refine WL.pure (v := vI (k : Int)) 42 rfl (Nat.le_of_ble_eq_true rfl) rfl rfl (by kernel_rfl) ?_
            by_cases h43 : (i : Int) = (k : Int)
            ·
              refine WL.pure (v := .bool true) 43 rfl (Nat.le_of_ble_eq_true rfl) rfl rfl (x_eql rfl rfl rfl (dT (h43))) ?_
              refine WL.nil ?_
              refine WQ.then ?_
              refine hK26 _ _ _ ?_
              refine WC.yes rfl ?_
              refine WC.region ?_
              refine WL.pure (v := .slice none 0 0) 44 rfl (Nat.le_of_ble_eq_true rfl) rfl rfl (by kernel_rfl) ?_
              refine WL.pure (v := vI x) 45 rfl (Nat.le_of_ble_eq_true rfl) rfl rfl (by kernel_rfl) ?_
              refine WL.alloc (c := #[vI x]) (T := 3) hH25 46 rfl (by decide) rfl rfl (fun b46 => vS b46 1 1) (by kernel_rfl) (fun b46 w27 hw27 => ?_)
              have hH28 : HP (Out [Go.Proofs.Ytmjnakhpekbenaa.Fw.Ent.cel b3 #[vI s, vI y, vI l, vI m] 23, rowS pv cp2 S2]) w18 w27 [.cel b3 #[vI s, vI y, vI l, vI m] 23, rowS pv cp2 S2, .own (.slice none 0 0) 0 [] 3 1, .cel b46 #[vI x] 3] := hw27.2
              have nb46 := hw27.1
              clear hw27
              obtain ⟨j0, hj0, jz0, jz1, jz2⟩ := infoI
              refine WL.append (news := [vI x]) 2 3 hH28 47 rfl (by decide) rfl rfl rfl rfl Try.underlying33 hj0 jz0 jz1 jz2 rfl (by decide) rfl rfl rfl rfl (by simp [Value.oneCell']) (by decide) (by decide) ?_
              rintro v7 w7 - hA7
              obtain ⟨pv7, cp7, rfl⟩ := own_row (HP.get hA7 2 rfl)
              have hH29 : HP (Out [Go.Proofs.Ytmjnakhpekbenaa.Fw.Ent.cel b3 #[vI s, vI y, vI l, vI m] 23, rowS pv cp2 S2]) w18 _ [.cel b3 #[vI s, vI y, vI l, vI m] 23, rowS pv cp2 S2, rowI' pv7 cp7 [x], .cel b46 #[vI x] 3] := HP.eq hA7 rfl
              refine WL.pure (v := .slice pv7 (([x] : List Int).length) cp7) 13 rfl (Nat.le_of_ble_eq_true rfl) rfl rfl (by kernel_rfl) ?_
              refine WL.nil ?_
              refine WQ.sub (l' := [(1, .slice (some ⟨gS, oS, none⟩) S.length cp), (2, vI a), (3, vP b3 0), (9, vI x), (10, vI (k : Int)), (11, .slice pv S2.length cp2), (12, vI (i : Int)), (13, .slice pv7 (([x] : List Int).length) cp7), (38, .bool true)]) ⟨rfl, rfl, rfl, rfl, rfl, rfl, rfl, rfl, rfl, trivial⟩ ?_
              exact WQ.cut ⟨[x], pv7, cp7, rfl, by unfold preR; rw [if_pos (by omega)], (HP.drop hH29 3)⟩
            ·
              refine WL.pure (v := .bool false) 43 rfl (Nat.le_of_ble_eq_true rfl) rfl rfl (x_eql rfl rfl rfl (dF (h43))) ?_
              refine WL.nil ?_
              refine WQ.then ?_
              refine hK26 _ _ _ ?_
              refine WC.no rfl ?_
              refine WC.skip ?_
              refine WQ.sub (l' := [(1, .slice (some ⟨gS, oS, none⟩) S.length cp), (2, vI a), (3, vP b3 0), (9, vI x), (10, vI (k : Int)), (11, .slice pv S2.length cp2), (12, vI (i : Int)), (13, .slice none (([] : List Int).length) 0), (38, .bool true)]) ⟨rfl, rfl, rfl, rfl, rfl, rfl, rfl, rfl, rfl, trivial⟩ ?_
              exact WQ.cut ⟨[], none, 0, rfl, by unfold preR; rw [if_neg (by omega)], hH25⟩
          ·
            rintro lz w31 ⟨pre, pvl, cpl, rfl, hpre, hH30⟩
            have hpl : pre.length ≤ 1 := by rw [hpre]; unfold preR; split <;> simp
            refine WC.seq fun K32 hK32 => ?_
            refine WC.seq fun K33 hK33 => ?_
            refine WC.region ?_
            refine WL.pure (v := vI 0) 14 rfl (Nat.le_of_ble_eq_true rfl) rfl rfl (by kernel_rfl) ?_
            refine WL.nil ?_
            refine WQ.then ?_
            refine hK33 _ _ _ ?_
            refine WC.block ?_
            have hft0 : pre.length = (ftA y x pre rxs 0).length := by simp [ftA]
            rw [hft0]
            refine WC.loop (fun kk0 ll0 ww0 => ∃ (j : Nat) (pv6 : Option Addr) (cp6 : Nat), ll0 = [(1, .slice (some ⟨gS, oS, none⟩) S.length cp), (2, vI a), (3, vP b3 0), (9, vI x), (10, vI (k : Int)), (11, .slice pv S2.length cp2), (12, vI (i : Int)), (13, .slice pv6 ((ftA y x pre rxs j).length) cp6), (14, vI (j : Int))] ∧ kk0 = rxs.length - j ∧ (j ≤ rxs.length) ∧ HP (Out [Go.Proofs.Ytmjnakhpekbenaa.Fw.Ent.cel b3 #[vI s, vI y, vI l, vI m] 23, rowS pv cp2 S2]) w18 ww0 [.cel b3 #[vI s, vI y, vI l, vI m] 23, rowS pv cp2 S2, rowI' pv6 cp6 (ftA y x pre rxs j)]) (rxs.length) [(1, .slice (some ⟨gS, oS, none⟩) S.length cp), (2, vI a), (3, vP b3 0), (9, vI x), (10, vI (k : Int)), (11, .slice pv S2.length cp2), (12, vI (i : Int)), (13, .slice pvl ((ftA y x pre rxs 0).length) cpl), (14, vI 0)] ⟨rfl, rfl, rfl, rfl, rfl, rfl, rfl, rfl, rfl, trivial⟩ ⟨0, pvl, cpl, rfl, rfl, Nat.zero_le _, (HP.eq hH30 (by simp [ftA]))⟩ ?_
            rintro kk l w35 ⟨j, pv6, cp6, rfl, hkk, hj, hH36⟩ K34 hK34
            refine WC.seq fun K37 hK37 => ?_
            refine WC.seq fun K38 hK38 => ?_
            refine WC.region ?_
            refine WL.pure (v := vI (j : Int)) 48 rfl (Nat.le_of_ble_eq_true rfl) rfl rfl (by kernel_rfl) ?_
            refine WL.pure (v := .slice (some ⟨gS, oS, none⟩) S.length cp) 49 rfl (Nat.le_of_ble_eq_true rfl) rfl rfl (by kernel_rfl) ?_
            refine WL.pure (v := vI (i : Int)) 50 rfl (Nat.le_of_ble_eq_true rfl) rfl rfl (by kernel_rfl) ?_
            refine WL.pure (v := vP gS (oS + i)) 51 rfl (Nat.le_of_ble_eq_true rfl) rfl rfl (x_idx (i) (oS + i) rfl rfl rfl Try.underlying24 sz33 (by omega) (by omega) (by omega)) ?_
            refine WL.pure (v := .slice rq rxs.length rc) 52 rfl (Nat.le_of_ble_eq_true rfl) rfl rfl (x_load rfl rfl Try.underlying33 rfl (by have q9 := (HP.oldRange hH36 hgS (hrowS i (by omega))) 0 _ rfl; rw [hr2] at q9; exact q9)) ?_
            refine WL.pure (v := vI (rxs.length : Int)) 53 rfl (Nat.le_of_ble_eq_true rfl) rfl rfl (by kernel_rfl) ?_
            by_cases hlj : (j : Int) < (rxs.length : Int)
            ·
              refine WL.pure (v := .bool true) 54 rfl (Nat.le_of_ble_eq_true rfl) rfl rfl (x_lss rfl rfl rfl (dT (hlj))) ?_
              refine WL.nil ?_
              refine WQ.then ?_
              refine hK38 _ _ _ ?_
              refine WC.sub (l' := [(1, .slice (some ⟨gS, oS, none⟩) S.length cp), (2, vI a), (3, vP b3 0), (9, vI x), (10, vI (k : Int)), (11, .slice pv S2.length cp2), (12, vI (i : Int)), (13, .slice pv6 ((ftA y x pre rxs j).length) cp6), (14, vI (j : Int)), (54, .bool true)]) ⟨rfl, rfl, rfl, rfl, rfl, rfl, rfl, rfl, rfl, rfl, trivial⟩ ?_
              refine WC.yes rfl ?_
              refine WC.skip ?_
              refine WQ.then ?_
              refine hK37 _ _ _ ?_
              refine WC.seq fun K39 hK39 => ?_
              refine WC.block ?_
              refine WC.seq fun K40 hK40 => ?_
              obtain ⟨gx, ox, hqx, hrowx0⟩ := hIRw.row (by simpa using (show 0 < rxs.length by omega))
              simp only [] at hqx hrowx0
              have hgxl := row_lt hrowx0 (show 0 < rxs.length by omega) rfl
              have hrowx := fun i9 h9 => HP.oldRange (S := Tr) (HP.of_below (HP.below hInv)) trivial (hrowx0 i9 h9)
              have hgx := out_old hInv hgxl
              subst hqx
              refine WC.region ?_
              refine WL.pure (v := .slice (some ⟨gS, oS, none⟩) S.length cp) 57 rfl (Nat.le_of_ble_eq_true rfl) rfl rfl (by kernel_rfl) ?_
              refine WL.pure (v := vI (i : Int)) 58 rfl (Nat.le_of_ble_eq_true rfl) rfl rfl (by kernel_rfl) ?_
              refine WL.pure (v := vP gS (oS + i)) 59 rfl (Nat.le_of_ble_eq_true rfl) rfl rfl (x_idx (i) (oS + i) rfl rfl rfl Try.underlying24 sz33 (by omega) (by omega) (by omega)) ?_
              refine WL.pure (v := .slice (some ⟨gx, ox, none⟩) rxs.length rc) 60 rfl (Nat.le_of_ble_eq_true rfl) rfl rfl (x_load rfl rfl Try.underlying33 rfl (by have q9 := (HP.oldRange hH36 hgS (hrowS i (by omega))) 0 _ rfl; rw [hr2] at q9; exact q9)) ?_
              refine WL.pure (v := vI (j : Int)) 61 rfl (Nat.le_of_ble_eq_true rfl) rfl rfl (by kernel_rfl) ?_
              refine WL.pure (v := vP gx (ox + j)) 62 rfl (Nat.le_of_ble_eq_true rfl) rfl rfl (x_idx (j) (ox + j) rfl rfl rfl Try.underlying33 sz3 (by omega) (by omega) (by omega)) ?_
              refine WL.pure (v := vI (rxs.getD j 0)) 63 rfl (Nat.le_of_ble_eq_true rfl) rfl rfl (x_load rfl rfl Try.underlying3 rfl ((HP.oldRange hH36 hgx (hrowx j (by omega))) 0 _ rfl)) ?_
              refine WL.pure (v := vI x) 64 rfl (Nat.le_of_ble_eq_true rfl) rfl rfl (by kernel_rfl) ?_
              by_cases h65 : rxs.getD j 0 ≠ x
              ·
                refine WL.pure (v := .bool true) 65 rfl (Nat.le_of_ble_eq_true rfl) rfl rfl (x_neq rfl rfl rfl (dT (h65))) ?_
                refine WL.pure (v := .bool true) 66 rfl (Nat.le_of_ble_eq_true rfl) rfl rfl (by kernel_rfl) ?_
                refine WL.pure (v := .slice pv6 ((ftA y x pre rxs j).length) cp6) 67 rfl (Nat.le_of_ble_eq_true rfl) rfl rfl (by kernel_rfl) ?_
                refine WL.pure (v := vI (((ftA y x pre rxs j).length : Nat) : Int)) 68 rfl (Nat.le_of_ble_eq_true rfl) rfl rfl (by kernel_rfl) ?_
                refine WL.pure (v := vP b3 1) 69 rfl (Nat.le_of_ble_eq_true rfl) rfl rfl (by kernel_rfl) ?_
                refine WL.pure (v := vI y) 70 rfl (Nat.le_of_ble_eq_true rfl) rfl rfl (x_load rfl rfl Try.underlying3 rfl (HP.cell hH36 0 rfl rfl)) ?_
                by_cases h71 : (((ftA y x pre rxs j).length : Nat) : Int) < y
                ·
                  refine WL.pure (v := .bool true) 71 rfl (Nat.le_of_ble_eq_true rfl) rfl rfl (x_lss rfl rfl rfl (dT (h71))) ?_
                  refine WL.pure (v := .bool true) 72 rfl (Nat.le_of_ble_eq_true rfl) rfl rfl (by kernel_rfl) ?_
                  refine WL.nil ?_
                  refine WQ.then ?_
                  refine hK40 _ _ _ ?_
                  refine WC.sub (l' := [(1, .slice (some ⟨gS, oS, none⟩) S.length cp), (2, vI a), (3, vP b3 0), (9, vI x), (10, vI (k : Int)), (11, .slice pv S2.length cp2), (12, vI (i : Int)), (13, .slice pv6 ((ftA y x pre rxs j).length) cp6), (14, vI (j : Int)), (54, .bool true), (72, .bool true)]) ⟨rfl, rfl, rfl, rfl, rfl, rfl, rfl, rfl, rfl, rfl, rfl, trivial⟩ ?_
                  refine WC.yes rfl ?_
                  refine WC.region ?_
                  refine WL.pure (v := .slice pv6 ((ftA y x pre rxs j).length) cp6) 73 rfl (Nat.le_of_ble_eq_true rfl) rfl rfl (by kernel_rfl) ?_
                  refine WL.pure (v := .slice (some ⟨gS, oS, none⟩) S.length cp) 74 rfl (Nat.le_of_ble_eq_true rfl) rfl rfl (by kernel_rfl) ?_
                  refine WL.pure (v := vI (i : Int)) 75 rfl (Nat.le_of_ble_eq_true rfl) rfl rfl (by kernel_rfl) ?_
                  refine WL.pure (v := vP gS (oS + i)) 76 rfl (Nat.le_of_ble_eq_true rfl) rfl rfl (x_idx (i) (oS + i) rfl rfl rfl Try.underlying24 sz33 (by omega) (by omega) (by omega)) ?_
                  refine WL.pure (v := .slice (some ⟨gx, ox, none⟩) rxs.length rc) 77 rfl (Nat.le_of_ble_eq_true rfl) rfl rfl (x_load rfl rfl Try.underlying33 rfl (by have q9 := (HP.oldRange hH36 hgS (hrowS i (by omega))) 0 _ rfl; rw [hr2] at q9; exact q9)) ?_
                  refine WL.pure (v := vI (j : Int)) 78 rfl (Nat.le_of_ble_eq_true rfl) rfl rfl (by kernel_rfl) ?_
                  refine WL.pure (v := vP gx (ox + j)) 79 rfl (Nat.le_of_ble_eq_true rfl) rfl rfl (x_idx (j) (ox + j) rfl rfl rfl Try.underlying33 sz3 (by omega) (by omega) (by omega)) ?_
                  refine WL.pure (v := vI (rxs.getD j 0)) 80 rfl (Nat.le_of_ble_eq_true rfl) rfl rfl (x_load rfl rfl Try.underlying3 rfl ((HP.oldRange hH36 hgx (hrowx j (by omega))) 0 _ rfl)) ?_
                  refine WL.alloc (c := #[vI (rxs.getD j 0)]) (T := 3) hH36 81 rfl (by decide) rfl rfl (fun b81 => vS b81 1 1) (by kernel_rfl) (fun b81 w41 hw41 => ?_)
                  have hH42 : HP (Out [Go.Proofs.Ytmjnakhpekbenaa.Fw.Ent.cel b3 #[vI s, vI y, vI l, vI m] 23, rowS pv cp2 S2]) w18 w41 [.cel b3 #[vI s, vI y, vI l, vI m] 23, rowS pv cp2 S2, rowI' pv6 cp6 (ftA y x pre rxs j), .cel b81 #[vI (rxs.getD j 0)] 3] := hw41.2
                  have nb81 := hw41.1
                  clear hw41
                  obtain ⟨j0, hj0, jz0, jz1, jz2⟩ := infoI
                  refine WL.append (news := [vI (rxs.getD j 0)]) 2 3 hH42 82 rfl (by decide) rfl rfl rfl rfl Try.underlying33 hj0 jz0 jz1 jz2 rfl (by decide) rfl rfl rfl rfl (by simp [Value.oneCell']) (by unfold maxLen; omega) (by omega) ?_
                  rintro v7 w7 - hA7
                  obtain ⟨pv7, cp7, rfl⟩ := own_row (HP.get hA7 2 rfl)
                  have e7 : (ftA y x pre rxs j).length + 1 = ((ftA y x pre rxs j) ++ [rxs.getD j 0]).length := by simp
                  rw [iR_push, e7] at hA7
                  rw [e7]
                  have hH43 : HP (Out [Go.Proofs.Ytmjnakhpekbenaa.Fw.Ent.cel b3 #[vI s, vI y, vI l, vI m] 23, rowS pv cp2 S2]) w18 _ [.cel b3 #[vI s, vI y, vI l, vI m] 23, rowS pv cp2 S2, rowI' pv7 cp7 ((ftA y x pre rxs j) ++ [rxs.getD j 0]), .cel b81 #[vI (rxs.getD j 0)] 3] := HP.eq hA7 rfl
                  refine WL.pure (v := .slice pv7 (((ftA y x pre rxs j) ++ [rxs.getD j 0]).length) cp7) 13 rfl (Nat.le_of_ble_eq_true rfl) rfl rfl (by kernel_rfl) ?_
                  refine WL.nil ?_
                  refine WQ.inNormal ?_
                  refine WQ.then ?_
                  refine hK39 _ _ _ ?_
                  refine WC.sub (l' := [(1, .slice (some ⟨gS, oS, none⟩) S.length cp), (2, vI a), (3, vP b3 0), (9, vI x), (10, vI (k : Int)), (11, .slice pv S2.length cp2), (12, vI (i : Int)), (13, .slice pv7 (((ftA y x pre rxs j) ++ [rxs.getD j 0]).length) cp7), (14, vI (j : Int)), (54, .bool true), (72, .bool true)]) ⟨rfl, rfl, rfl, rfl, rfl, rfl, rfl, rfl, rfl, rfl, rfl, trivial⟩ ?_
                  refine WC.region ?_
                  refine WL.pure (v := vI (j : Int)) 55 rfl (Nat.le_of_ble_eq_true rfl) rfl rfl (by kernel_rfl) ?_
                  refine WL.pure (v := vI ((j + 1 : Nat) : Int)) 56 rfl (Nat.le_of_ble_eq_true rfl) rfl rfl (x_add (Z := ((j + 1 : Nat) : Int)) rfl rfl rfl (by omega) (by omega) (by omega)) ?_
                  refine WL.pure (v := vI ((j + 1 : Nat) : Int)) 14 rfl (Nat.le_of_ble_eq_true rfl) rfl rfl (by kernel_rfl) ?_
                  refine WL.nil ?_
                  have hft : ftA y x pre rxs (j + 1) = ftA y x pre rxs j ++ [rxs.getD j 0] := ft_add (by omega) h65 h71
                  rw [← hft]
                  refine WQ.sub (l' := [(1, .slice (some ⟨gS, oS, none⟩) S.length cp), (2, vI a), (3, vP b3 0), (9, vI x), (10, vI (k : Int)), (11, .slice pv S2.length cp2), (12, vI (i : Int)), (13, .slice pv7 ((ftA y x pre rxs (j + 1)).length) cp7), (14, vI ((j + 1 : Nat) : Int))]) ⟨rfl, rfl, rfl, rfl, rfl, rfl, rfl, rfl, rfl, trivial⟩ ?_
                  refine WQ.then (hK34 _ _ _ (by omega) ⟨j + 1, pv7, cp7, rfl, rfl, by omega, (by rw [hft]; exact (HP.drop hH43 3))⟩)
                ·
                  refine WL.pure (v := .bool false) 71 rfl (Nat.le_of_ble_eq_true rfl) rfl rfl (x_lss rfl rfl rfl (dF (h71))) ?_
                  refine WL.pure (v := .bool false) 72 rfl (Nat.le_of_ble_eq_true rfl) rfl rfl (by kernel_rfl) ?_
                  refine WL.nil ?_
                  refine WQ.then ?_
                  refine hK40 _ _ _ ?_
                  refine WC.sub (l' := [(1, .slice (some ⟨gS, oS, none⟩) S.length cp), (2, vI a), (3, vP b3 0), (9, vI x), (10, vI (k : Int)), (11, .slice pv S2.length cp2), (12, vI (i : Int)), (13, .slice pv6 ((ftA y x pre rxs j).length) cp6), (14, vI (j : Int)), (54, .bool true), (72, .bool false)]) ⟨rfl, rfl, rfl, rfl, rfl, rfl, rfl, rfl, rfl, rfl, rfl, trivial⟩ ?_
                  refine WC.no rfl ?_
                  refine WC.skip ?_
                  refine WQ.inNormal ?_
                  refine WQ.then ?_
                  refine hK39 _ _ _ ?_
                  refine WC.region ?_
                  refine WL.pure (v := vI (j : Int)) 55 rfl (Nat.le_of_ble_eq_true rfl) rfl rfl (by kernel_rfl) ?_
                  refine WL.pure (v := vI ((j + 1 : Nat) : Int)) 56 rfl (Nat.le_of_ble_eq_true rfl) rfl rfl (x_add (Z := ((j + 1 : Nat) : Int)) rfl rfl rfl (by omega) (by omega) (by omega)) ?_
                  refine WL.pure (v := vI ((j + 1 : Nat) : Int)) 14 rfl (Nat.le_of_ble_eq_true rfl) rfl rfl (by kernel_rfl) ?_
                  refine WL.nil ?_
                  have hft : ftA y x pre rxs (j + 1) = ftA y x pre rxs j := ft_full (by omega) (by omega) h71
                  rw [← hft]
                  refine WQ.sub (l' := [(1, .slice (some ⟨gS, oS, none⟩) S.length cp), (2, vI a), (3, vP b3 0), (9, vI x), (10, vI (k : Int)), (11, .slice pv S2.length cp2), (12, vI (i : Int)), (13, .slice pv6 ((ftA y x pre rxs (j + 1)).length) cp6), (14, vI ((j + 1 : Nat) : Int))]) ⟨rfl, rfl, rfl, rfl, rfl, rfl, rfl, rfl, rfl, trivial⟩ ?_
                  refine WQ.then (hK34 _ _ _ (by omega) ⟨j + 1, pv6, cp6, rfl, rfl, by omega, (by rw [hft]; exact hH36)⟩)
              ·
                refine WL.pure (v := .bool false) 65 rfl (Nat.le_of_ble_eq_true rfl) rfl rfl (x_neq rfl rfl rfl (dF (h65))) ?_
                refine WL.pure (v := .bool false) 66 rfl (Nat.le_of_ble_eq_true rfl) rfl rfl (by kernel_rfl) ?_
                refine WL.pass 67 rfl (Nat.le_of_ble_eq_true rfl) rfl ?_
                refine WL.pass 68 rfl (Nat.le_of_ble_eq_true rfl) rfl ?_
                refine WL.pass 69 rfl (Nat.le_of_ble_eq_true rfl) rfl ?_
                refine WL.pass 70 rfl (Nat.le_of_ble_eq_true rfl) rfl ?_
                refine WL.pass 71 rfl (Nat.le_of_ble_eq_true rfl) rfl ?_
                refine WL.pure (v := .bool false) 72 rfl (Nat.le_of_ble_eq_true rfl) rfl rfl (by kernel_rfl) ?_
                refine WL.nil ?_
                refine WQ.then ?_
                refine hK40 _ _ _ ?_
                refine WC.sub (l' := [(1, .slice (some ⟨gS, oS, none⟩) S.length cp), (2, vI a), (3, vP b3 0), (9, vI x), (10, vI (k : Int)), (11, .slice pv S2.length cp2), (12, vI (i : Int)), (13, .slice pv6 ((ftA y x pre rxs j).length) cp6), (14, vI (j : Int)), (54, .bool true), (72, .bool false)]) ⟨rfl, rfl, rfl, rfl, rfl, rfl, rfl, rfl, rfl, rfl, rfl, trivial⟩ ?_
                refine WC.no rfl ?_
                refine WC.skip ?_
                refine WQ.inNormal ?_
                refine WQ.then ?_
                refine hK39 _ _ _ ?_
                refine WC.region ?_
                refine WL.pure (v := vI (j : Int)) 55 rfl (Nat.le_of_ble_eq_true rfl) rfl rfl (by kernel_rfl) ?_
                refine WL.pure (v := vI ((j + 1 : Nat) : Int)) 56 rfl (Nat.le_of_ble_eq_true rfl) rfl rfl (x_add (Z := ((j + 1 : Nat) : Int)) rfl rfl rfl (by omega) (by omega) (by omega)) ?_
                refine WL.pure (v := vI ((j + 1 : Nat) : Int)) 14 rfl (Nat.le_of_ble_eq_true rfl) rfl rfl (by kernel_rfl) ?_
                refine WL.nil ?_
                have hft : ftA y x pre rxs (j + 1) = ftA y x pre rxs j := ft_skip (by omega) (Classical.not_not.1 h65)
                rw [← hft]
                refine WQ.sub (l' := [(1, .slice (some ⟨gS, oS, none⟩) S.length cp), (2, vI a), (3, vP b3 0), (9, vI x), (10, vI (k : Int)), (11, .slice pv S2.length cp2), (12, vI (i : Int)), (13, .slice pv6 ((ftA y x pre rxs (j + 1)).length) cp6), (14, vI ((j + 1 : Nat) : Int))]) ⟨rfl, rfl, rfl, rfl, rfl, rfl, rfl, rfl, rfl, trivial⟩ ?_
                refine WQ.then (hK34 _ _ _ (by omega) ⟨j + 1, pv6, cp6, rfl, rfl, by omega, (by rw [hft]; exact hH36)⟩)
            ·
              refine WL.pure (v := .bool false) 54 rfl (Nat.le_of_ble_eq_true rfl) rfl rfl (x_lss rfl rfl rfl (dF (hlj))) ?_
              refine WL.nil ?_
              refine WQ.then ?_
              refine hK38 _ _ _ ?_
              refine WC.sub (l' := [(1, .slice (some ⟨gS, oS, none⟩) S.length cp), (2, vI a), (3, vP b3 0), (9, vI x), (10, vI (k : Int)), (11, .slice pv S2.length cp2), (12, vI (i : Int)), (13, .slice pv6 ((ftA y x pre rxs j).length) cp6), (14, vI (j : Int)), (54, .bool false)]) ⟨rfl, rfl, rfl, rfl, rfl, rfl, rfl, rfl, rfl, rfl, trivial⟩ ?_
              refine WC.no rfl ?_
              refine WC.exit ?_
              refine WQ.thenExit ?_
              refine WQ.thenExit ?_
              refine WQ.inExit ?_
              refine WQ.then ?_
              refine hK32 _ _ _ ?_
              have hft := ft_end (y := y) (xs := rxs) (j := j) hpre (by omega)
              have hftl : (ftA y x pre rxs j).length ≤ 10 := by unfold ftA; simp; omega
              refine WC.region ?_
              refine WL.pure (v := .slice pv S2.length cp2) 83 rfl (Nat.le_of_ble_eq_true rfl) rfl rfl (by kernel_rfl) ?_
              refine WL.pure (v := .slice pv6 ((ftA y x pre rxs j).length) cp6) 84 rfl (Nat.le_of_ble_eq_true rfl) rfl rfl (by kernel_rfl) ?_
              refine WL.alloc (c := #[.slice pv6 ((ftA y x pre rxs j).length) cp6]) (T := 33) hH36 85 rfl (by decide) rfl rfl (fun b85 => vS b85 1 1) (by kernel_rfl) (fun b85 w44 hw44 => ?_)
              have hH45 : HP (Out [Go.Proofs.Ytmjnakhpekbenaa.Fw.Ent.cel b3 #[vI s, vI y, vI l, vI m] 23, rowS pv cp2 S2]) w18 w44 [.cel b3 #[vI s, vI y, vI l, vI m] 23, rowS pv cp2 S2, rowI' pv6 cp6 (ftA y x pre rxs j), .cel b85 #[.slice pv6 ((ftA y x pre rxs j).length) cp6] 33] := hw44.2
              have nb85 := hw44.1
              clear hw44
              obtain ⟨i0, hi0, hz0, hz1, hz2⟩ := infoL
              refine WL.append (news := [.slice pv6 (ftA y x pre rxs j).length cp6]) 1 3 hH45 86 rfl (by decide) rfl rfl rfl rfl Try.underlying24 hi0 hz0 hz1 hz2 rfl (by decide) rfl rfl rfl rfl (by simp [Value.oneCell']) (by unfold maxLen; omega) (by omega) ?_
              rintro v8 w8 - hA8
              obtain ⟨pv8, cp8, rfl⟩ := own_row (HP.get hA8 1 rfl)
              have hH46 : HP (Out [Go.Proofs.Ytmjnakhpekbenaa.Fw.Ent.cel b3 #[vI s, vI y, vI l, vI m] 23, rowS pv cp2 S2]) w18 _ [.cel b3 #[vI s, vI y, vI l, vI m] 23, .own (.slice pv8 (S2.length + 1) cp8) (S2.length + 1) (S2.map slV ++ [.slice pv6 (ftA y x pre rxs j).length cp6]) 33 1, rowI' pv6 cp6 (ftA y x pre rxs j), .cel b85 #[.slice pv6 ((ftA y x pre rxs j).length) cp6] 33] := hA8
              refine WL.pure (v := .slice pv8 (S2.length + 1) cp8) 11 rfl (Nat.le_of_ble_eq_true rfl) rfl rfl (by kernel_rfl) ?_
              refine WL.nil ?_
              refine WQ.inNormal ?_
              refine WQ.then ?_
              refine hK23 _ _ _ ?_
              refine WC.region ?_
              refine WL.pure (v := vI (i : Int)) 39 rfl (Nat.le_of_ble_eq_true rfl) rfl rfl (by kernel_rfl) ?_
              refine WL.pure (v := vI ((i + 1 : Nat) : Int)) 40 rfl (Nat.le_of_ble_eq_true rfl) rfl rfl (x_add (Z := ((i + 1 : Nat) : Int)) rfl rfl rfl (by omega) (by omega) (by omega)) ?_
              refine WL.pure (v := vI ((i + 1 : Nat) : Int)) 12 rfl (Nat.le_of_ble_eq_true rfl) rfl rfl (by kernel_rfl) ?_
              refine WL.nil ?_
              have hE9 : HP Tr w _ ([Go.Proofs.Ytmjnakhpekbenaa.Fw.Ent.cel b3 #[vI s, vI y, vI l, vI m] 23, rowS pv8 cp8 (S2 ++ [(⟨pv6, ftA y x pre rxs j, cp6⟩ : SlI)])] ++ (S2 ++ [(⟨pv6, ftA y x pre rxs j, cp6⟩ : SlI)]).map rowE) := ow_end3 hInv (HP.drop hH46 3)
              rw [show S2.length + 1 = (S2 ++ [(⟨pv6, ftA y x pre rxs j, cp6⟩ : SlI)]).length by simp]
              refine WQ.sub (l' := [(1, .slice (some ⟨gS, oS, none⟩) S.length cp), (2, vI a), (3, vP b3 0), (9, vI x), (10, vI (k : Int)), (11, .slice pv8 ((S2 ++ [(⟨pv6, ftA y x pre rxs j, cp6⟩ : SlI)]).length) cp8), (12, vI ((i + 1 : Nat) : Int))]) ⟨rfl, rfl, rfl, rfl, rfl, rfl, rfl, trivial⟩ ?_
              refine WQ.then (hK17 _ _ _ (by omega) ⟨i + 1, (S2 ++ [(⟨pv6, ftA y x pre rxs j, cp6⟩ : SlI)]), pv8, cp8, rfl, rfl, by omega, by rw [rSt_step, ← hX9, hr1, ← hft]; simp [stX], hE9, (fun r9 h9 => by
                                rcases List.mem_append.1 h9 with q | q
                                · exact hWi9 r9 q
                                · obtain rfl := List.mem_singleton.1 q; exact ft_wi (hIRw.hw) hxb (by rw [hpre])), HP.refl _⟩)
        ·
          refine WL.pure (v := .bool false) 38 rfl (Nat.le_of_ble_eq_true rfl) rfl rfl (x_lss rfl rfl rfl (dF (hlt))) ?_
          refine WL.nil ?_
          refine WQ.then ?_
          refine hK22 _ _ _ ?_
          refine WC.no rfl ?_
          refine WC.exit ?_
          refine WQ.thenExit ?_
          refine WQ.thenExit ?_
          refine WQ.inExit ?_
          refine WQ.then ?_
          refine hK15 _ _ _ ?_
          refine WC.seq fun K47 hK47 => ?_
          obtain ⟨⟨rq, rxs, rc⟩, hr⟩ : ∃ r, S[k]? = some r := ⟨S[k]'(by omega), List.getElem?_eq_getElem _⟩
          obtain ⟨hr1, hr2, hr3, hr4⟩ := stX_at hr
          obtain ⟨gS, oS, hpS, hrowS0⟩ := hS.row (by omega)
          have hgSl := row_lt hrowS0 (show 0 < S.length by omega) rfl
          have hrowS := fun i9 h9 => HP.oldRange (S := Tr) (HP.of_below (HP.below hInv)) trivial (hrowS0 i9 h9)
          have hgS := out_old hInv hgSl
          have hIRw := hS.inn _ hr4
          have hrl9 := hrl _ hr4
          simp only [] at hr1 hrl9
          subst hpS
          have hIRk := hIRw.below (HP.below hInv)
          refine WC.region ?_
          refine WL.pure (v := .slice pv S2.length cp2) 87 rfl (Nat.le_of_ble_eq_true rfl) rfl rfl (by kernel_rfl) ?_
          refine WL.pure (v := .slice (some ⟨gS, oS, none⟩) S.length cp) 88 rfl (Nat.le_of_ble_eq_true rfl) rfl rfl (by kernel_rfl) ?_
          refine WL.pure (v := vI (k : Int)) 89 rfl (Nat.le_of_ble_eq_true rfl) rfl rfl (by kernel_rfl) ?_
          refine WL.pure (v := vP gS (oS + k)) 90 rfl (Nat.le_of_ble_eq_true rfl) rfl rfl (x_idx (k) (oS + k) rfl rfl rfl Try.underlying24 sz33 (by omega) (by omega) (by omega)) ?_
          refine WL.pure (v := .slice rq rxs.length rc) 91 rfl (Nat.le_of_ble_eq_true rfl) rfl rfl (x_load rfl rfl Try.underlying33 rfl (by have q9 := (HP.oldRange hH20 hgS (hrowS k (by omega))) 0 _ rfl; rw [hr2] at q9; exact q9)) ?_
          refine WL.pure (v := vI x) 92 rfl (Nat.le_of_ble_eq_true rfl) rfl rfl (by kernel_rfl) ?_
          refine WL.call (f := 42) (args := #[.slice rq rxs.length rc, vI x]) 93 rfl (Nat.le_of_ble_eq_true rfl) rfl rfl (by kernel_rfl) ?_
          refine (place_any rq rxs rc _ (out_in3 hInv hIRw.row hH20) (by omega) x).mono ?_
          rintro e w48 ⟨rfl, hb49⟩
          refine ⟨_, rfl, ?_⟩
          have hH50 : HP (Out [Go.Proofs.Ytmjnakhpekbenaa.Fw.Ent.cel b3 #[vI s, vI y, vI l, vI m] 23, rowS pv cp2 S2]) w18 _ [.cel b3 #[vI s, vI y, vI l, vI m] 23, rowS pv cp2 S2] := HP.call hH20 hb49
          by_cases h94 : (0 : Int) ≤ plcV x rxs
          ·
            refine WL.pure (v := .bool true) 94 rfl (Nat.le_of_ble_eq_true rfl) rfl rfl (x_geq rfl rfl rfl (dT (h94))) ?_
            refine WL.pure (v := .slice pv S2.length cp2) 6 rfl (Nat.le_of_ble_eq_true rfl) rfl rfl (by kernel_rfl) ?_
            refine WL.pure (v := .bool true) 7 rfl (Nat.le_of_ble_eq_true rfl) rfl rfl (by kernel_rfl) ?_
            refine WL.pure (v := vI 0) 8 rfl (Nat.le_of_ble_eq_true rfl) rfl rfl (by kernel_rfl) ?_
            refine WL.nil ?_
            refine WQ.then ?_
            refine hK47 _ _ _ ?_
            refine WC.sub (l' := [(1, .slice (some ⟨gS, oS, none⟩) S.length cp), (2, vI a), (3, vP b3 0), (6, .slice pv S2.length cp2), (7, .bool true), (8, vI 0), (9, vI x), (10, vI (k : Int)), (11, .slice pv S2.length cp2), (12, vI (i : Int)), (38, .bool false)]) ⟨rfl, rfl, rfl, rfl, rfl, rfl, rfl, rfl, rfl, rfl, rfl, trivial⟩ ?_
            refine WC.ret ?_
            refine WQ.ret3 6 7 8 rfl rfl rfl rfl ?_
            exact .inr ⟨hyes, pv, cp2, S2, by rw [hhit, hr1, if_pos h94]; rfl, by rw [hX9, show i = (stX S).length by rw [stX_len]; omega, heq], in_own (HP.get hH50 1 rfl) (out_rows hInv hH50 hWi9), out_below hInv hH50⟩
          ·
            refine WL.pure (v := .bool false) 94 rfl (Nat.le_of_ble_eq_true rfl) rfl rfl (x_geq rfl rfl rfl (dF (h94))) ?_
            refine WL.pure (v := .slice pv S2.length cp2) 6 rfl (Nat.le_of_ble_eq_true rfl) rfl rfl (by kernel_rfl) ?_
            refine WL.pure (v := .bool false) 7 rfl (Nat.le_of_ble_eq_true rfl) rfl rfl (by kernel_rfl) ?_
            refine WL.pure (v := vI 0) 8 rfl (Nat.le_of_ble_eq_true rfl) rfl rfl (by kernel_rfl) ?_
            refine WL.nil ?_
            refine WQ.then ?_
            refine hK47 _ _ _ ?_
            refine WC.sub (l' := [(1, .slice (some ⟨gS, oS, none⟩) S.length cp), (2, vI a), (3, vP b3 0), (6, .slice pv S2.length cp2), (7, .bool false), (8, vI 0), (9, vI x), (10, vI (k : Int)), (11, .slice pv S2.length cp2), (12, vI (i : Int)), (38, .bool false)]) ⟨rfl, rfl, rfl, rfl, rfl, rfl, rfl, rfl, rfl, rfl, rfl, trivial⟩ ?_
            refine WC.ret ?_
            refine WQ.ret3 6 7 8 rfl rfl rfl rfl ?_
            exact .inr ⟨hyes, pv, cp2, S2, by rw [hhit, hr1, if_neg h94]; rfl, by rw [hX9, show i = (stX S).length by rw [stX_len]; omega, heq], in_own (HP.get hH50 1 rfl) (out_rows hInv hH50 hWi9), out_below hInv hH50⟩
  ·
    refine WL.call (f := 19) (args := #[.agg #[vI s, vI y, vI l, vI m], .slice p S.length cp]) 17 rfl (Nat.le_of_ble_eq_true rfl) rfl rfl (by kernel_rfl) ?_
    refine (rValidState_at hv p cp _ (hS.below (HP.below hH4)) hn).mono ?_
    rintro e w51 ⟨rfl, hb52⟩
    refine ⟨_, rfl, ?_⟩
    have hH53 : HP Tr w _ [.cel b3 #[vI s, vI y, vI l, vI m] 23] := HP.call hH4 hb52
    refine WL.pure (v := .bool true) 18 rfl (Nat.le_of_ble_eq_true rfl) rfl rfl (by kernel_rfl) ?_
    refine WL.pure (v := .bool true) 19 rfl (Nat.le_of_ble_eq_true rfl) rfl rfl (by kernel_rfl) ?_
    refine WL.pass 20 rfl (Nat.le_of_ble_eq_true rfl) rfl ?_
    refine WL.pass 21 rfl (Nat.le_of_ble_eq_true rfl) rfl ?_
    refine WL.pure (v := .bool true) 22 rfl (Nat.le_of_ble_eq_true rfl) rfl rfl (by kernel_rfl) ?_
    refine WL.pure (v := .bool true) 23 rfl (Nat.le_of_ble_eq_true rfl) rfl rfl (by kernel_rfl) ?_
    refine WL.pass 24 rfl (Nat.le_of_ble_eq_true rfl) rfl ?_
    refine WL.pass 25 rfl (Nat.le_of_ble_eq_true rfl) rfl ?_
    refine WL.pure (v := .bool true) 26 rfl (Nat.le_of_ble_eq_true rfl) rfl rfl (by kernel_rfl) ?_
    refine WL.nil ?_
    refine WQ.then ?_
    refine hK6 _ _ _ ?_
    refine WC.sub (l' := [(0, .agg #[vI s, vI y, vI l, vI m]), (1, .slice p S.length cp), (2, vI a), (3, vP b3 0), (6, .slice none 0 0), (7, .bool false), (8, vI 0), (26, .bool true)]) ⟨rfl, rfl, rfl, rfl, rfl, rfl, rfl, rfl, trivial⟩ ?_
    refine WC.yes rfl ?_
    refine WC.seq fun K54 hK54 => ?_
    have hno : tOk s y l m a (stX S) = false := by unfold tOk; rw [hv]; rfl
    refine WC.region ?_
    refine WL.pure (v := .slice none 0 0) 6 rfl (Nat.le_of_ble_eq_true rfl) rfl rfl (by kernel_rfl) ?_
    refine WL.pure (v := .bool false) 7 rfl (Nat.le_of_ble_eq_true rfl) rfl rfl (by kernel_rfl) ?_
    refine WL.pure (v := vI 1) 8 rfl (Nat.le_of_ble_eq_true rfl) rfl rfl (by kernel_rfl) ?_
    refine WL.nil ?_
    refine WQ.then ?_
    refine hK54 _ _ _ ?_
    refine WC.ret ?_
    refine WQ.thenRet ?_
    refine WQ.ret3 6 7 8 rfl rfl rfl rfl ?_
    exact .inl ⟨hno, rfl, HP.below hH53⟩
end Ca
end Go.Proofs.Ytmjnakhpekbenaa
namespace Go.Proofs.Ytmjnakhpekbenaa
open Go.RowKit
namespace Fw
namespace Fi
/-- the wide fence, in a round or not -/
def fen (R : Option Nat) : Fence := { Fence.wide with round := R }
def noDef : Op → Bool
  | .defer _ => false
  | _ => true
theorem semAt_fen {R : Option Nat} {ρ : Operand → Value} {o : Oper} (h : noDef o.op = true) : o.semAt (fen R).round ρ = execOp ρ o := by
  cases R with
  | none => rfl
  | some l => exact Oper.semAt_some l ρ o fun c e => by rw [e] at h; cases h
structure Fr (ds : List Deferred) (n : Nat) (l : List (Nat × Value)) (a : Act) : Prop where
  sz : a.tmps.size = n
  df : a.defers = ds
  kn : ∀ t v, look l t = some v → a.tmps[t]? = some v
theorem Fr.ev {ds : List Deferred} {n : Nat} {l : List (Nat × Value)} {a : Act} (h : Fr ds n l a) {x : Operand} {v : Value} (hx : ev l x = some v) : a.eval x = v := by
  cases x with
  | tmp t => simp [Act.eval, h.kn t v hx]
  | const u => simpa [Fw.ev, Act.eval] using hx
  | global g => simpa [Fw.ev, Act.eval] using hx
  | func f => simpa [Fw.ev, Act.eval] using hx
theorem Fr.evD {ds : List Deferred} {n : Nat} {l : List (Nat × Value)} {a : Act} (h : Fr ds n l a) {x : Operand} (hx : (Fw.ev l x).isSome = true) : a.eval x = Fw.evD l x := by
  obtain ⟨v, hv⟩ := Option.isSome_iff_exists.1 hx
  rw [h.ev hv, Fw.evD, hv]; rfl
theorem Fr.put {ds : List Deferred} {n : Nat} {l : List (Nat × Value)} {a : Act} (h : Fr ds n l a) {d : Nat} (hd : d < n) (v : Value) : Fr ds n ((d, v) :: l) (a.put (some d) v) := by
  refine ⟨by simp [Act.put, h.sz], by simp [Act.put, h.df], fun t u ht => ?_⟩
  by_cases e : d = t
  · subst e
    rw [look_cons_eq] at ht
    cases ht
    simp [Act.put, h.sz, hd]
  · rw [look_cons_ne e] at ht
    have := h.kn t u ht
    simp [Act.put, Array.getElem?_setIfInBounds_ne e, this]
theorem Fr.sub {ds : List Deferred} {n : Nat} {l l' : List (Nat × Value)} {a : Act} (h : Fr ds n l a) (hs : Sub l' l) : Fr ds n l' a := ⟨h.sz, h.df, fun t v ht => h.kn t v (hs.look ht)⟩
theorem Fr.getD {ds : List Deferred} {n : Nat} {l : List (Nat × Value)} {a : Act} (h : Fr ds n l a) {t : Nat} {v : Value} (hx : look l t = some v) : a.tmps.getD t undef = v := by
  simp [h.kn t v hx]
def XL (R : Option Nat) (m0 : Nat) (ds : List Deferred) (P : Program) (ops : Array Oper) (Q : Exit → Act → World → Prop) (rest : List Oper) (n : Nat) (l : List (Nat × Value)) (w : World) : Prop := ∀ a, Fr ds n l a → wpListIn (fen R) m0 P ops Q rest a w
def XC (R : Option Nat) (m0 : Nat) (ds : List Deferred) (P : Program) (c : Code) (Q : Exit → Act → World → Prop) (n : Nat) (l : List (Nat × Value)) (w : World) : Prop := ∀ a, Fr ds n l a → Code.wpIn (fen R) m0 P c Q a w
def XQ (ds : List Deferred) (Q : Exit → Act → World → Prop) (e : Exit) (n : Nat) (l : List (Nat × Value)) (w : World) : Prop := ∀ a, Fr ds n l a → Q e a w
section
variable {R : Option Nat} {m0 : Nat} {ds : List Deferred} {P : Program} {ops : Array Oper} {Q : Exit → Act → World → Prop} {rest : List Oper} {n : Nat} {l l' : List (Nat × Value)} {w w' : World}
theorem XL.sub (hs : Sub l' l) (h : XL R m0 ds P ops Q rest n l' w) : XL R m0 ds P ops Q rest n l w := fun a ha => h a (ha.sub hs)
theorem XC.sub {c : Code} (hs : Sub l' l) (h : XC R m0 ds P c Q n l' w) : XC R m0 ds P c Q n l w := fun a ha => h a (ha.sub hs)
theorem XQ.sub {e : Exit} (hs : Sub l' l) (h : XQ ds Q e n l' w) : XQ ds Q e n l w := fun a ha => h a (ha.sub hs)
theorem wants_spec {a : Act} (ha : Fr ds n l a) {o : Oper} {b : Bool} (h : wants ops l o = some b) : Region.wanted o (yielded ops a.tmps) = b := by
  unfold wants at h
  unfold Region.wanted
  cases hg : o.guard with
  | none => rw [hg] at h; simpa using h
  | some jw =>
    obtain ⟨j, want⟩ := jw
    rw [hg] at h
    simp only [] at h ⊢
    cases ht : (ops[j]?).bind (·.dst) with
    | none => rw [ht] at h; cases h
    | some t =>
      rw [ht] at h
      simp only [Option.bind_some] at h
      cases hl : look l t with
      | none => rw [hl] at h; cases h
      | some u =>
        rw [hl] at h
        have hk := ha.kn t u hl
        cases u
        case bool c =>
          have : yielded ops a.tmps j = some c := by unfold yielded; rw [ht]; simp [hk]
          rw [this]
          simp only [] at h
          cases c <;> cases want <;> simpa using h
        case tuple xs =>
          have : yielded ops a.tmps j = none := by unfold yielded; rw [ht]; simp [hk]
          rw [this]
          simp only [] at h
          cases want <;> simpa using h
        all_goals (simp only [] at h; cases h)
theorem exec_known {a : Act} (ha : Fr ds n l a) {o : Oper} (h : known l o = true) : execOp a.eval o = execOp (evD l) o := by
  unfold known at h
  rw [Bool.and_eq_true] at h
  refine execOp_congr o (fun cs b e => by rw [e] at h; exact absurd h.1 (by simp [noSel])) fun x hx => ha.evD ?_
  exact List.all_eq_true.1 h.2 x (by simpa using hx)
theorem XL.val {o : Oper} {v : Value} (d : Nat) (hd : o.dst = some d) (hn : d < n) (hw : wants ops l o = some true) (hk : known l o = true)
    (hr : (execOp (evD l) o).run P w = .ok (.value v) w') (h : XL R m0 ds P ops Q rest n ((d, v) :: l) w') (hnd : noDef o.op = true := by rfl) : XL R m0 ds P ops Q (o :: rest) n l w := by
  intro a ha
  refine wpListIn_step fun K hK => ?_
  rw [if_pos (wants_spec ha hw)]
  unfold Oper.wpIn
  rw [semAt_fen hnd]
  refine ⟨fun _ _ => trivial, ?_⟩
  rw [exec_known ha hk, hr, Oper.uponIn_value, hd]
  exact hK _ _ (h _ (ha.put hn v))
theorem XL.skip {o : Oper} (hd : o.dst = none) (hw : wants ops l o = some true) (hk : known l o = true)
    (hr : (execOp (evD l) o).run P w = .ok .skip w') (h : XL R m0 ds P ops Q rest n l w') (hnd : noDef o.op = true := by rfl) : XL R m0 ds P ops Q (o :: rest) n l w := by
  intro a ha
  refine wpListIn_step fun K hK => ?_
  rw [if_pos (wants_spec ha hw)]
  unfold Oper.wpIn
  rw [semAt_fen hnd]
  refine ⟨fun _ _ => trivial, ?_⟩
  rw [exec_known ha hk, hr, Oper.uponIn_skip, hd]
  exact hK _ _ (h _ ha)
theorem XL.pass {o : Oper} (d : Nat) (hd : o.dst = some d) (hn : d < n) (hw : wants ops l o = some false) (h : XL R m0 ds P ops Q rest n ((d, undef) :: l) w) : XL R m0 ds P ops Q (o :: rest) n l w := by
  intro a ha
  refine wpListIn_step fun K hK => ?_
  rw [if_neg (by rw [wants_spec ha hw]; exact Bool.false_ne_true), hd]
  exact ⟨fun _ _ => trivial, hK _ _ (h _ (ha.put hn undef))⟩
theorem XL.pure {o : Oper} {v : Value} (d : Nat) (hd : o.dst = some d) (hn : d < n) (hw : wants ops l o = some true) (hk : known l o = true)
    (hr : (execOp (evD l) o).run P w = .ok (.value v) w) (h : XL R m0 ds P ops Q rest n ((d, v) :: l) w) (hnd : noDef o.op = true := by rfl) : XL R m0 ds P ops Q (o :: rest) n l w := XL.val d hd hn hw hk hr h hnd
theorem XL.call {o : Oper} {f : FuncId} {args : Array Value} (d : Nat) (hd : o.dst = some d) (hn : d < n) (hw : wants ops l o = some true) (hk : known l o = true)
    (hr : (execOp (evD l) o).run P w = .ok (.enter f args) w) (h : Calls P f args w fun e w'' => ∃ v, e = .returned v ∧ XL R m0 ds P ops Q rest n ((d, v) :: l) w'') (hnd : noDef o.op = true := by rfl) : XL R m0 ds P ops Q (o :: rest) n l w := by
  intro a ha
  refine wpListIn_step fun K hK => ?_
  rw [if_pos (wants_spec ha hw)]
  unfold Oper.wpIn
  rw [semAt_fen hnd]
  refine ⟨fun _ _ => trivial, ?_⟩
  rw [exec_known ha hk, hr, Oper.uponIn_enter]
  refine ⟨fun q => absurd q Bool.false_ne_true, ?_⟩
  have h2 : CallsIn Fence.wide (m0 - 1) P f args w _ := callsIn_wide.2 h
  have h3 : CallsIn (fen R) (m0 - 1) P f args w (fun e w'' => ∃ v, e = .returned v ∧ XL R m0 ds P ops Q rest n ((d, v) :: l) w'') := h2
  refine h3.mono ?_
  rintro e w'' ⟨v, rfl, hv⟩
  show K (a.put o.dst v) w''
  rw [hd]
  exact hK _ _ (hv _ (ha.put hn v))
theorem XL.nil (h : XQ ds Q .normal n l w) : XL R m0 ds P ops Q [] n l w := fun a ha => h a ha
theorem XC.seq {x y : Code} (h : ∀ K : Act → World → Prop, (∀ ds n l w, XC R m0 ds P y Q n l w → XQ ds (fun _ a w => K a w) .normal n l w) → XC R m0 ds P x (Exit.then K Q) n l w) : XC R m0 ds P (.seq x y) Q n l w :=
  fun a ha => wpIn_seq_k fun K hK => h K (fun ds n l w hy a ha => hK a w (hy a ha)) a ha
theorem XQ.then {K : Act → World → Prop} (h : XQ ds (fun _ a w => K a w) .normal n l w) : XQ ds (Exit.then K Q) .normal n l w := fun a ha => h a ha
theorem XQ.thenExit {K : Act → World → Prop} {id : Nat} (h : XQ ds Q (.exit id) n l w) : XQ ds (Exit.then K Q) (.exit id) n l w := fun a ha => h a ha
theorem XQ.thenRet {K : Act → World → Prop} (h : XQ ds Q .ret n l w) : XQ ds (Exit.then K Q) .ret n l w := fun a ha => h a ha
theorem XQ.inNormal {id : Nat} (h : XQ ds Q .normal n l w) : XQ ds (Exit.inBlock id Q) .normal n l w := fun a ha => h a ha
theorem XQ.inRet {id : Nat} (h : XQ ds Q .ret n l w) : XQ ds (Exit.inBlock id Q) .ret n l w := fun a ha => h a ha
theorem XQ.inExit {id : Nat} (h : XQ ds Q .normal n l w) : XQ ds (Exit.inBlock id Q) (.exit id) n l w := fun a ha => by
  show (if id = id then Q .normal a w else Q (.exit id) a w)
  rw [if_pos rfl]; exact h a ha
theorem XQ.inOther {id id' : Nat} (hne : id' ≠ id) (h : XQ ds Q (.exit id') n l w) : XQ ds (Exit.inBlock id Q) (.exit id') n l w := fun a ha => by
  show (if id' = id then Q .normal a w else Q (.exit id') a w)
  rw [if_neg hne]; exact h a ha
theorem XC.skip (h : XQ ds Q .normal n l w) : XC R m0 ds P .skip Q n l w := fun a ha => wpIn_skip (h a ha)
theorem XC.ret (h : XQ ds Q .ret n l w) : XC R m0 ds P .ret Q n l w := fun a ha => wpIn_ret (h a ha)
theorem XC.exit {id : Nat} (h : XQ ds Q (.exit id) n l w) : XC R m0 ds P (.exit id) Q n l w := fun a ha => wpIn_exit (h a ha)
theorem XC.block {id : Nat} {c : Code} (h : XC R m0 ds P c (Exit.inBlock id Q) n l w) : XC R m0 ds P (.block id c) Q n l w := fun a ha => wpIn_block (h a ha)
theorem XC.yes {c : Operand} {x y : Code} (hc : ev l c = some (.bool true)) (h : XC R m0 ds P x Q n l w) : XC R m0 ds P (.cond c x y) Q n l w := fun a ha => wpIn_cond_true (ha.ev hc) (h a ha)
theorem XC.no {c : Operand} {x y : Code} (hc : ev l c = some (.bool false)) (h : XC R m0 ds P y Q n l w) : XC R m0 ds P (.cond c x y) Q n l w := fun a ha => wpIn_cond_false (ha.ev hc) (h a ha)
theorem XC.region {id : Nat} {ls : List Oper} (h : XL R m0 ds P ls.toArray Q ls n l w) : XC R m0 ds P (.region id ls.toArray false) Q n l w := fun a ha => wpIn_region_lit (h a ha)
theorem wpIn_loop_ghost {F : Fence} {n : Nat} {c : Code} {a : Act} (I : Nat → Act → World → Prop) (k0 : Nat) (h₀ : I k0 a w)
    (round : ∀ k a w, I k a w → c.wpIn F n P (Exit.then (fun a' w' => ∃ k', k' < k ∧ I k' a' w') Q) a w) : (Code.loop c).wpIn F n P Q a w := by
  intro b k cs hro hb hr
  have key : ∀ j a w, I j a w →
      ∃ e a' w', Q e a' w' ∧ ArrivesIn (Machine.fenced P F) P (lone (b.atR a (.code c :: .inLoop c :: k)) cs w) b k cs e a' w' := by
    intro j
    induction j using Nat.strongRecOn with
    | _ j ih =>
      intro a w hI
      obtain ⟨e, a₁, w₁, hq, harr⟩ := round j a w hI b (.inLoop c :: k) cs hro hb hr
      cases e with
      | normal =>
        obtain ⟨k', hlt, hI₁⟩ := hq
        obtain ⟨e₂, a₂, w₂, hq₂, harr₂⟩ := ih k' hlt a₁ w₁ hI₁
        exact ⟨e₂, a₂, w₂, hq₂, .of_steps (StepsIn.trans harr (.one (fenced_calm hb hr rfl) stepR_inLoop)) harr₂⟩
      | exit id => exact ⟨_, a₁, w₁, hq, .pass (x := .inLoop c) rfl (fun _ _ => .inl (by simp)) harr⟩
      | goto l => exact ⟨_, a₁, w₁, hq, .pass (x := .inLoop c) rfl (fun _ _ => .inl (by simp)) harr⟩
      | ret => exact ⟨_, a₁, w₁, hq, .pass (x := .inLoop c) rfl (fun _ _ => .inl (by simp)) harr⟩
      | panic ch => exact ⟨_, a₁, w₁, hq, .pass (x := .inLoop c) rfl (fun _ _ => .inl (by simp)) harr⟩
      | outgrown => exact ⟨_, a₁, w₁, hq, .pass (x := .inLoop c) rfl (fun _ _ => .inl (by simp)) harr⟩
  obtain ⟨e, a', w', hq, harr⟩ := key _ a w h₀
  exact ⟨e, a', w', hq, .of_steps (.one (fenced_calm hb hr rfl) stepR_loop) harr⟩
theorem XC.loop {c : Code} (I : Nat → List (Nat × Value) → World → Prop) (k0 : Nat) (l0 : List (Nat × Value)) (hs : Sub l0 l) (h0 : I k0 l0 w)
    (round : ∀ k l w, I k l w → ∀ K : Act → World → Prop, (∀ k' l' w', k' < k → I k' l' w' → XQ ds (fun _ a w => K a w) .normal n l' w') → XC R m0 ds P c (Exit.then K Q) n l w) : XC R m0 ds P (.loop c) Q n l w := by
  intro a ha
  refine wpIn_loop_ghost (fun k a w => ∃ l, Fr ds n l a ∧ I k l w) k0 ⟨l0, ha.sub hs, h0⟩ ?_
  rintro k a w ⟨l, hf, hI⟩
  exact round k l w hI _ (fun k' l' w' hlt hI' a' ha' => ⟨k', hlt, l', ha', hI'⟩) a hf
end
section
variable {R : Option Nat} {m0 : Nat} {ds : List Deferred} {P : Program} {ops : Array Oper} {Q : Exit → Act → World → Prop} {rest : List Oper} {n : Nat} {l : List (Nat × Value)} {w w0 : World} {S : Nat → Prop} {H H2 : List Ent}
theorem XL.alloc {o : Oper} {c : Array Value} {T : TypeId} (hH : HP S w0 w H) (d : Nat) (hd : o.dst = some d) (hn : d < n) (hw : wants ops l o = some true) (hk : known l o = true) (V : Nat → Value)
    (hr : (execOp (evD l) o).run P w = .ok (.value (V w.heap.size)) (w.alloc (.cells c T))) (h : ∀ b w2, w0.heap.size ≤ b ∧ HP S w0 w2 (H ++ [.cel b c T]) → XL R m0 ds P ops Q rest n ((d, V b) :: l) w2) (hnd : noDef o.op = true := by rfl) : XL R m0 ds P ops Q (o :: rest) n l w :=
  XL.val d hd hn hw hk hr (h _ _ ⟨hH.size, hH.alloc c T⟩) hnd
theorem XL.store {o : Oper} {t : TypeId} {x y : Operand} {b off : Nat} {c c' : Array Value} {T : TypeId} {v : Value} (i : Nat) (hH : HP S w0 w H) (ho : o.op = .store t x y) (hd : o.dst = none) (hw : wants ops l o = some true)
    (hi : H[i]? = some (.cel b c T)) (hx : ev l x = some (.pointer (some ⟨b, off, none⟩))) (hy : ev l y = some v) (hs : (P.info? t).map (·.size) = some 1) (h1 : v.oneCell' = true) (hlt : off < c.size) (hc : c.setIfInBounds off v = c') (h2 : H.set i (.cel b c' T) = H2)
    (h : ∀ w2, HP S w0 w2 H2 → XL R m0 ds P ops Q rest n l w2) (hnd : noDef o.op = true := by rfl) : XL R m0 ds P ops Q (o :: rest) n l w := by
  intro a ha
  refine wpListIn_step fun K hK => ?_
  rw [if_pos (wants_spec ha hw)]
  unfold Oper.wpIn
  rw [semAt_fen hnd]
  refine ⟨fun _ _ => trivial, ?_⟩
  rw [x_store (P := P) ho (ha.ev hx) (ha.ev hy) hs h1 (hH.cell i hi (Array.getElem?_eq_getElem hlt)) (hH.free i hi), Oper.uponIn_skip, hd]
  refine hK _ _ (h _ ?_ _ ha)
  rw [← h2, ← hc]
  exact hH.set i hi
theorem XL.storeS {o : Oper} {t : TypeId} {x y : Operand} {b off : Nat} {c c' cells : Array Value} {T : TypeId} (i : Nat) (hH : HP S w0 w H) (ho : o.op = .store t x y) (hd : o.dst = none) (hw : wants ops l o = some true)
    (hi : H[i]? = some (.cel b c T)) (hx : ev l x = some (.pointer (some ⟨b, off, none⟩))) (hy : ev l y = some (.agg cells)) (hs : (P.info? t).map (·.size) = some cells.size) (h1 : cells.toList.all (·.oneCell') = true) (hlt : off + cells.size ≤ c.size)
    (hc : cells.toList.zipIdx.foldl (fun (c : Array Value) (p : Value × Nat) => c.setIfInBounds (off + p.2) p.1) c = c') (h2 : H.set i (.cel b c' T) = H2)
    (h : ∀ w2, HP S w0 w2 H2 → XL R m0 ds P ops Q rest n l w2) (hnd : noDef o.op = true := by rfl) : XL R m0 ds P ops Q (o :: rest) n l w := by
  intro a ha
  refine wpListIn_step fun K hK => ?_
  rw [if_pos (wants_spec ha hw)]
  unfold Oper.wpIn
  rw [semAt_fen hnd]
  refine ⟨fun _ _ => trivial, ?_⟩
  rw [x_storeS (P := P) ho (ha.ev hx) (ha.ev hy) hs h1 (fun j hj => ⟨by rw [hH.cell i hi (Array.getElem?_eq_getElem (show off + j < c.size by omega))]; rfl, hH.free i hi⟩), Oper.uponIn_skip, hd]
  refine hK _ _ (h _ ?_ _ ha)
  rw [← h2, ← hc]
  exact Go.Proofs.Ytmjnakhpekbenaa.Fw.HP.setCells i cells.toList hH hi
theorem XL.append {o : Oper} {t e : TypeId} {inf : TypeInfo} {z : Value} {sz by' : Nat} {x y : Operand} {v : Value} {k m : Nat} {xs news : List Value} {bn cp : Nat} {cn : Array Value} (i j : Nat) (hH : HP S w0 w H) (d : Nat) (hd : o.dst = some d) (hn : d < n) (hw : wants ops l o = some true)
    (ho : o.op = .call { callee := .builtin .append, args := #[x, y], argTypes := #[t, t] }) (hx : ev l x = some v) (hy : ev l y = some (.slice (some ⟨bn, 0, none⟩) m cp))
    (ht : P.underlying t = some (.slice e)) (hi' : P.info? e = some inf) (hz : inf.zero = some z) (hsz : inf.size = sz) (hby : inf.bytes = by') (hzs : z.cells.size = sz) (h0 : 0 < sz)
    (hi : H[i]? = some (.own v k xs e sz)) (hj : H[j]? = some (.cel bn cn e)) (hnews : cn.toList.take news.length = news) (hl : news.length = m * sz) (h1 : ∀ u ∈ news, u.oneCell' = true) (h63 : k + m ≤ maxLen) (hb : (k + m) * by' ≤ 140737488355328)
    (h : ∀ v' w2, (v' = .slice none 0 0 ↔ v = .slice none 0 0 ∧ m = 0) → HP S w0 w2 (H.set i (.own v' (k + m) (xs ++ news) e sz)) → XL R m0 ds P ops Q rest n ((d, v') :: l) w2) (hnd : noDef o.op = true := by rfl) : XL R m0 ds P ops Q (o :: rest) n l w := by
  intro a ha
  refine wpListIn_step fun K hK => ?_
  rw [if_pos (wants_spec ha hw)]
  obtain ⟨v', w2, hr, g1, g2, g3, g4⟩ := append_ent (P := P) w t o.type e inf z sz by' ht hi' hz hsz hby hzs h0 v k xs (hH.get i hi) ⟨bn, 0, none⟩ m cp news hl (fun q u hu => by
    rw [Addr.add_mid]
    exact hH.range j hj (by simpa using hnews) q u hu) h1 h63 hb
  unfold Oper.wpIn
  rw [semAt_fen hnd]
  refine ⟨fun _ _ => trivial, ?_⟩
  rw [x_append (P := P) ho (ha.ev hx) (ha.ev hy) hr, Oper.uponIn_value, hd]
  refine hK _ _ (h v' w2 g3 ?_ _ (ha.put hn v'))
  exact hH.change i hi g2.os g2.tape g2.output g2.size (fun q hq hne => g2.block q hq fun e => hne e.symm) ⟨g1.1, g1.2⟩ g4
theorem XL.appendSrc {o : Oper} {t e : TypeId} {inf : TypeInfo} {z : Value} {sz by' : Nat} {x y : Operand} {v : Value} {k m : Nat} {xs : List Value} (news : List Value) {p : Option Addr} {cp : Nat} (i : Nat) (hH : HP S w0 w H) (d : Nat) (hd : o.dst = some d) (hn : d < n) (hw : wants ops l o = some true)
    (ho : o.op = .call { callee := .builtin .append, args := #[x, y], argTypes := #[t, t] }) (hx : ev l x = some v) (hy : ev l y = some (.slice p m cp))
    (ht : P.underlying t = some (.slice e)) (hi' : P.info? e = some inf) (hz : inf.zero = some z) (hsz : inf.size = sz) (hby : inf.bytes = by') (hzs : z.cells.size = sz) (h0 : 0 < sz)
    (hi : H[i]? = some (.own v k xs e sz)) (hsrc : (∃ a, p = some a ∧ ∀ q u, news[q]? = some u → w.cell? (a.add q) = some u) ∨ (p = none ∧ m = 0 ∧ cp = 0)) (hl : news.length = m * sz) (h1 : ∀ u ∈ news, u.oneCell' = true) (h63 : k + m ≤ maxLen) (hb : (k + m) * by' ≤ 140737488355328)
    (h : ∀ v' w2, (v' = .slice none 0 0 ↔ v = .slice none 0 0 ∧ m = 0) → HP S w0 w2 (H.set i (.own v' (k + m) (xs ++ news) e sz)) → XL R m0 ds P ops Q rest n ((d, v') :: l) w2) (hnd : noDef o.op = true := by rfl) : XL R m0 ds P ops Q (o :: rest) n l w := by
  intro a ha
  refine wpListIn_step fun K hK => ?_
  rw [if_pos (wants_spec ha hw)]
  unfold Oper.wpIn
  rw [semAt_fen hnd]
  refine ⟨fun _ _ => trivial, ?_⟩
  rcases hsrc with ⟨ad, rfl, hc⟩ | ⟨rfl, rfl, rfl⟩
  · obtain ⟨v', w2, hr, g1, g2, g3, g4⟩ := append_ent (P := P) w t o.type e inf z sz by' ht hi' hz hsz hby hzs h0 v k xs (hH.get i hi) ad m cp news hl hc h1 h63 hb
    rw [x_append (P := P) ho (ha.ev hx) (ha.ev hy) hr, Oper.uponIn_value, hd]
    refine hK _ _ (h v' w2 g3 ?_ _ (ha.put hn v'))
    exact hH.change i hi g2.os g2.tape g2.output g2.size (fun q hq hne => g2.block q hq fun e => hne e.symm) ⟨g1.1, g1.2⟩ g4
  · have hnil : news = [] := List.length_eq_zero_iff.1 (by rw [hl]; simp)
    subst hnil
    have hr := run_append_owned_none (P := P) (w := w) 0 t o.type e inf sz ht hi' v k xs (hH.get i hi)
    rw [x_append (P := P) ho (ha.ev hx) (ha.ev hy) hr, Oper.uponIn_value, hd]
    refine hK _ _ (h v w (by simp) ?_ _ (ha.put hn v))
    exact hH.setSame i hi (by have q := hH.get i hi; simpa using q) rfl
end
end Fi
end Fw
end Go.Proofs.Ytmjnakhpekbenaa
namespace Go.Proofs.Ytmjnakhpekbenaa
open Go.RowKit
namespace Fw
namespace Fi
section
variable {R : Option Nat} {m0 : Nat} {ds : List Deferred} {F : Fence} {P : Program} {ops : Array Oper} {Q : Exit → Act → World → Prop} {n : Nat} {l l0 : List (Nat × Value)} {w w0 : World}
theorem any_invX (I : (Nat → Bool) → Act → World → Prop) (hback : ∀ (i : Nat) (o : Oper), ops[i]? = some o → ∀ e ∈ o.after, Region.binds .any e = true → e.on < i)
    (hstep : ∀ D a w i o, I D a w → ops[i]? = some o → D i = false → (∀ e ∈ o.after, Region.binds .any e = true → D e.on = true) → wpOpIn F m0 P ops Q i (I (updD D i)) a w)
    (hend : ∀ D a w, I D a w → (∀ i, i < ops.size → D i = true) → Q .normal a w) :
    ∀ (fuel : Nat) (listed : Array Bool) (a : Act) (w : World), listed.size = ops.size → (listed.toList.filter (! ·)).length ≤ fuel → I (fun j => listed.getD j false) a w → wpAnyIn F m0 P .any ops Q fuel listed a w := by
  have hdone : ∀ (listed : Array Bool), listed.size = ops.size → Region.ready .any ops listed = [] → ∀ i, i < ops.size → listed.getD i false = true := by
    intro listed hsz hr i
    induction i using Nat.strongRecOn with
    | _ i ih =>
      intro hi
      cases hl : listed.getD i false with
      | true => rfl
      | false =>
        exfalso
        have hmem : i ∈ Region.ready .any ops listed := by
          rw [mem_ready]
          refine ⟨?_, ops[i], Array.getElem?_eq_getElem hi, fun e he hb => ?_⟩
          · have hi' : i < listed.size := by omega
            simp [hi'] at hl ⊢
            exact hl
          · have := hback i ops[i] (Array.getElem?_eq_getElem hi) e he hb
            exact ih e.on this (by omega)
        rw [hr] at hmem; cases hmem
  intro fuel
  induction fuel with
  | zero =>
    intro listed a w hsz hcnt hI
    have hall : ∀ i, i < listed.size → listed.getD i false = true := by
      intro i hi
      have h0 : listed.toList.filter (! ·) = [] := List.length_eq_zero_iff.1 (by omega)
      rw [List.filter_eq_nil_iff] at h0
      have := h0 listed[i] (by simp)
      simpa [hi] using this
    have hr : Region.ready .any ops listed = [] := by
      refine List.eq_nil_iff_forall_not_mem.2 fun j hj => ?_
      rw [mem_ready] at hj
      obtain ⟨h1, o, ho, -⟩ := hj
      have hj' : j < listed.size := by rw [hsz]; exact (Array.getElem?_eq_some_iff.1 ho).1
      have := hall j hj'
      simp [hj'] at h1 this
      rw [h1] at this; cases this
    exact ⟨hr, hend _ a w hI fun i hi => hall i (by omega)⟩
  | succ fuel ih =>
    intro listed a w hsz hcnt hI
    refine ⟨fun hr => hend _ a w hI fun i hi => hdone listed hsz hr i hi, fun i hi => ?_⟩
    have hi' := hi
    rw [mem_ready] at hi
    obtain ⟨h1, o, ho, hdep⟩ := hi
    have hlt : i < ops.size := (Array.getElem?_eq_some_iff.1 ho).1
    have hlt' : i < listed.size := by omega
    have hf : listed[i] = false := by simpa [hlt'] using h1
    have hD : ∀ j, (listed.setIfInBounds i true).getD j false = updD (fun j => listed.getD j false) i j := by
      intro j
      by_cases e : j = i
      · subst e; rw [updD_same]; simp [hlt']
      · rw [updD_ne e, getD_set_ne false (Ne.symm e)]
    refine wpOpIn_mono (fun a' w' h => ih (listed.setIfInBounds i true) a' w' (by simpa using hsz) ?_ ?_) (hstep _ a w i o hI ho (by simpa [hlt'] using hf) hdep)
    · have hset : (listed.setIfInBounds i true).toList = listed.toList.take i ++ true :: listed.toList.drop (i + 1) := by
        rw [Array.toList_setIfInBounds, List.set_eq_take_append_cons_drop]
        simp [hlt']
      have hold : listed.toList = listed.toList.take i ++ false :: listed.toList.drop (i + 1) := by
        have q : listed.toList[i]'(by simpa using hlt') = false := by simpa using hf
        have q2 := (List.take_append_drop i listed.toList).symm
        rw [List.drop_eq_getElem_cons (by simpa using hlt'), q] at q2
        exact q2
      rw [hset]
      rw [hold] at hcnt
      simp only [List.filter_append, List.length_append, List.filter_cons] at hcnt ⊢
      simp at hcnt ⊢
      omega
    · rw [show (fun j => (listed.setIfInBounds i true).getD j false) = updD (fun j => listed.getD j false) i from funext hD]
      exact h
/-- a call of the round's yield -/
def RoundOk {γ : Type} (R : Option Nat) (m0 : Nat) (P : Program) (ops : Array Oper) (l0 : List (Nat × Value)) (vs : γ → List Value) (WI : γ → (Nat → Bool) → World → Prop) (i : Nat) (o : Oper) : Prop :=
  ∀ g D w, D i = false → (∀ e ∈ o.after, Region.binds .any e = true → D e.on = true) → Clo ops D → WI g D w →
    wants ops (depEnv ops (vs g) o ++ l0) o = some true ∧ known (depEnv ops (vs g) o ++ l0) o = true ∧
      ∃ l fn tmps assign body, (execOp (evD (depEnv ops (vs g) o ++ l0)) o).run P w = .ok (.round l fn tmps assign body) w ∧ RoundIn (fen R) (m0 - 1) P l fn tmps assign body w fun e w' => ∃ g', (∀ j, D j = true → (vs g')[j]? = (vs g)[j]?) ∧ e = .returned (((vs g')[i]?).getD undef) ∧ WI g' (updD D i) w'
inductive AllOkX {γ : Type} (R : Option Nat) (m0 : Nat) (P : Program) (ops : Array Oper) (l0 : List (Nat × Value)) (vs : γ → List Value) (WI : γ → (Nat → Bool) → World → Prop) : Nat → List Oper → Prop
  | nil (k : Nat) : AllOkX R m0 P ops l0 vs WI k []
  | cons {k : Nat} {o : Oper} {r : List Oper} (h : OpOk P ops l0 vs WI k o) (t : AllOkX R m0 P ops l0 vs WI (k + 1) r) : AllOkX R m0 P ops l0 vs WI k (o :: r)
  | consR {k : Nat} {o : Oper} {r : List Oper} (h : RoundOk R m0 P ops l0 vs WI k o) (t : AllOkX R m0 P ops l0 vs WI (k + 1) r) : AllOkX R m0 P ops l0 vs WI k (o :: r)
theorem AllOkX.get {γ : Type} {vs : γ → List Value} {WI : γ → (Nat → Bool) → World → Prop} : ∀ {ls : List Oper} {k i : Nat} {o : Oper}, AllOkX R m0 P ops l0 vs WI k ls → ls[i]? = some o → OpOk P ops l0 vs WI (k + i) o ∨ RoundOk R m0 P ops l0 vs WI (k + i) o
  | [], _, i, _, _, h => by simp at h
  | x :: r, k, 0, o, h, hi => by
    cases h with
    | cons h1 h2 => simp at hi; subst hi; exact .inl h1
    | consR h1 h2 => simp at hi; subst hi; exact .inr h1
  | x :: r, k, i + 1, o, h, hi => by
    cases h with
    | cons h1 h2 =>
      have := AllOkX.get h2 (i := i) (by simpa using hi)
      rw [show k + (i + 1) = k + 1 + i by omega]; exact this
    | consR h1 h2 =>
      have := AllOkX.get h2 (i := i) (by simpa using hi)
      rw [show k + (i + 1) = k + 1 + i by omega]; exact this
theorem XC.confH {γ : Type} {id : Nat} {ls : List Oper} (l0 : List (Nat × Value)) (vs : γ → List Value) (WI : γ → (Nat → Bool) → World → Prop) (g0 : γ) (hm : P.follows .mixedOrders = true)
    (hsub : Sub l0 l) (hb : backB ls = true) (hd : distB ls = true) (hf : freeH ls l0 = true) (hlen : ∀ g, (vs g).length = ls.length) (hn : (ls.all fun o => match o.dst with | some d => Nat.blt d n | none => true) = true)
    (h0 : WI g0 (fun _ => false) w.drew) (hops : AllOkX R m0 P ls.toArray l0 vs WI 0 ls)
    (hend : ∀ g D w2, (∀ i, Nat.blt i ls.length = true → D i = true) → WI g D w2 → XQ ds Q .normal n (allEnv ls (vs g) ++ l0) w2) (hdfB : (ls.all fun o => noDef o.op) = true := by rfl) : XC R m0 ds P (.region id ls.toArray true) Q n l w := by
  intro a ha
  have hdf : ∀ (i : Nat) (o : Oper), ls[i]? = some o → noDef o.op = true := fun i o ho => List.all_eq_true.1 hdfB o (List.mem_of_getElem? ho)
  refine wpIn_region_any hm ?_
  have hdst : ∀ (i j : Nat) (o o' : Oper) (d : Nat), ls[i]? = some o → ls[j]? = some o' → o.dst = some d → o'.dst = some d → i = j := fun i j o o' d h1 h2 h3 h4 => by
    rcases Nat.lt_trichotomy i j with q | q | q
    · exact absurd h4 (distB_spec hd i j o o' d q h1 h2 h3)
    · exact q
    · exact absurd h3 (distB_spec hd j i o' o d q h2 h1 h4)
  have hfree : ∀ (j : Nat) (o : Oper) (t : Nat) (v : Value), ls[j]? = some o → o.dst = some t → look l0 t = some v → ∀ i, i < ls.length → i = j ∨ ∃ e ∈ o.after, Region.binds .any e = true ∧ e.on = i := fun j o t v h1 h2 h3 => by
    have q := List.all_eq_true.1 (List.all_eq_true.1 hf (t, v) (look_mem h3)) (o, j) (by rw [List.mem_zipIdx_iff_getElem?]; simpa using h1)
    simp only [h2] at q
    rw [show Nat.beq t t = true from Nat.beq_refl t] at q
    intro i hi
    simp at q
    rcases q i hi with q3 | ⟨k, hk, q4, q5⟩
    · exact .inl q3
    · exact .inr ⟨o.after[k], Array.getElem_mem hk, q4, q5⟩
  have hnn : ∀ (i : Nat) (o : Oper) (d : Nat), ls[i]? = some o → o.dst = some d → d < n := fun i o d h1 h2 => by
    have q := List.all_eq_true.1 hn o (List.mem_of_getElem? h1)
    rw [h2] at q
    exact Nat.le_of_ble_eq_true q
  let I : (Nat → Bool) → Act → World → Prop := fun D a w => ∃ g, a.tmps.size = n ∧ a.defers = ds ∧
    (∀ (j : Nat) (o : Oper) (d : Nat), ls[j]? = some o → D j = true → o.dst = some d → a.tmps[d]? = some (((vs g)[j]?).getD undef)) ∧ (∀ t v, look l0 t = some v → (∀ (j : Nat) (o : Oper), ls[j]? = some o → o.dst = some t → D j = false) → a.tmps[t]? = some v) ∧ Clo ls.toArray D ∧ WI g D w
  refine any_invX (F := fen R) (m0 := m0) (ops := ls.toArray) I ?_ ?_ ?_ _ _ a _ (by simp) (by
    refine Nat.le_trans (List.length_filter_le _ _) ?_
    simp) ?_
  · intro i o ho e he hbe
    have hm' : (o, i) ∈ ls.zipIdx := by
      rw [List.mem_zipIdx_iff_getElem?]; simpa using ho
    have q := List.all_eq_true.1 (List.all_eq_true.1 hb (o, i) hm') e (by simpa using he)
    rw [hbe] at q
    simpa using q
  · rintro D a w i o ⟨g, i1, i2, i3, i4, i6, i5⟩ ho hDi hdep
    have ho' : ls[i]? = some o := by simpa using ho
    have hfr : Fr ds n (depEnv ls.toArray (vs g) o ++ l0) a := by
      refine ⟨i1, i2, fun t v ht => ?_⟩
      rcases look_append ht with q | q
      · obtain ⟨e, he, heq⟩ := List.mem_filterMap.1 q
        cases hbe : Region.binds .any e with
        | false => rw [hbe] at heq; cases heq
        | true =>
          rw [hbe] at heq
          simp only [] at heq
          cases hoe : ls.toArray[e.on]? with
          | none => rw [hoe] at heq; cases heq
          | some oe =>
            rw [hoe] at heq
            simp only [Option.bind_some] at heq
            cases hde : oe.dst with
            | none => rw [hde] at heq; cases heq
            | some d =>
              rw [hde] at heq
              simp only [Option.map_some, Option.some.injEq, Prod.mk.injEq] at heq
              obtain ⟨rfl, rfl⟩ := heq
              exact i3 e.on oe d (by simpa using hoe) (hdep e (by simpa using he) hbe) hde
      · refine i4 t v q fun j oj hj hdj => ?_
        cases hDj : D j with
        | false => rfl
        | true =>
          have hil : i < ls.length := (List.getElem?_eq_some_iff.1 ho').1
          rcases hfree j oj t v hj hdj q i hil with rfl | ⟨e, he, hbe, heq⟩
          · rw [hDi] at hDj; cases hDj
          · have := i6 j oj (by simpa using hj) hDj e he hbe
            rw [heq, hDi] at this; cases this
    have hclo : Clo ls.toArray (updD D i) := fun j oj hj hDj e he hbe => by
      by_cases q : j = i
      · subst q
        rw [ho] at hj; cases hj
        by_cases q2 : e.on = j
        · rw [q2]; exact updD_same D j
        · rw [updD_ne q2]; exact hdep e he hbe
      · rw [updD_ne q] at hDj
        by_cases q2 : e.on = i
        · rw [q2]; exact updD_same D i
        · rw [updD_ne q2]; exact i6 j oj hj hDj e he hbe
    have hnext : ∀ (g' : γ) (v : Value) (w' : World), (∀ j, D j = true → (vs g')[j]? = (vs g)[j]?) → (∀ d, o.dst = some d → v = ((vs g')[i]?).getD undef) → WI g' (updD D i) w' → I (updD D i) (a.put o.dst v) w' := fun g' v w' hg hv hW => by
      refine ⟨g', ?_, ?_, ?_, ?_, hclo, hW⟩
      · cases o.dst <;> simp [Act.put, i1]
      · cases o.dst <;> simp [Act.put, i2]
      · intro j oj d hj hDj hdj
        by_cases e : j = i
        · subst e
          rw [ho'] at hj; cases hj
          rw [hdj, ← hv d hdj]
          have := hnn _ _ _ ho' hdj
          simp [Act.put, i1, this]
        · rw [updD_ne e] at hDj
          have h1 := i3 j oj d hj hDj hdj
          rw [← hg j hDj] at h1
          cases hdo : o.dst with
          | none => simpa [Act.put] using h1
          | some d' =>
            have hne : d' ≠ d := fun q => e (hdst j i oj o d hj ho' hdj (by rw [hdo, q]))
            simp [Act.put, Array.getElem?_setIfInBounds_ne hne, h1]
      · intro t u hu hno
        have hne : o.dst ≠ some t := fun q => by
          have := hno i o ho' q
          rw [updD_same] at this; cases this
        have hq := i4 t u hu fun j oj hj hdj => by
          have := hno j oj hj hdj
          by_cases e : j = i
          · subst e; rw [updD_same] at this; cases this
          · rwa [updD_ne e] at this
        cases hdo : o.dst with
        | none => simpa [Act.put] using hq
        | some d' =>
          have hne2 : d' ≠ t := fun q => hne (by rw [hdo, q])
          simp [Act.put, Array.getElem?_setIfInBounds_ne hne2, hq]
    have hok := AllOkX.get hops ho'
    rw [Nat.zero_add] at hok
    unfold wpOpIn
    simp only [ho]
    rcases hok with hok | hok
    · rcases hok g D w hDi hdep i6 i5 with ⟨h1, h2, h3⟩ | ⟨h1, h2, h3⟩
      · rw [if_pos (wants_spec hfr h1)]
        unfold Oper.wpIn
        rw [semAt_fen (hdf i o ho')]
        refine ⟨fun _ _ => trivial, ?_⟩
        rw [exec_known hfr h2]
        rcases h3 with ⟨g', w', hg, hr, hW⟩ | ⟨w', hr, hdn, hW⟩ | ⟨f, args, hr, hc⟩
        · rw [hr, Oper.uponIn_value]
          exact hnext g' _ _ hg (fun _ _ => rfl) hW
        · rw [hr, Oper.uponIn_skip]
          exact hnext g _ _ (fun _ _ => rfl) (fun d hd' => by rw [hdn] at hd'; cases hd') hW
        · rw [hr, Oper.uponIn_enter]
          refine ⟨fun q => absurd q Bool.false_ne_true, ?_⟩
          have h2 : CallsIn Fence.wide (m0 - 1) P f args w _ := callsIn_wide.2 hc
          have h3 : CallsIn (fen R) (m0 - 1) P f args w _ := h2
          refine h3.mono ?_
          rintro e w' ⟨g', hg, rfl, hW⟩
          exact hnext g' _ _ hg (fun _ _ => rfl) hW
      · rw [if_neg (by rw [wants_spec hfr h1]; exact Bool.false_ne_true)]
        exact ⟨fun _ _ => trivial, hnext g _ _ (fun _ _ => rfl) (fun _ _ => h2.symm) h3⟩
    · obtain ⟨h1, h2, l, fn, tmps, assign, body, hr, hc⟩ := hok g D w hDi hdep i6 i5
      rw [if_pos (wants_spec hfr h1)]
      unfold Oper.wpIn
      rw [semAt_fen (hdf i o ho')]
      refine ⟨fun _ _ => trivial, ?_⟩
      rw [exec_known hfr h2, hr, Oper.uponIn_round]
      refine ⟨fun q => absurd q Bool.false_ne_true, ?_⟩
      refine hc.mono ?_
      rintro e w' ⟨g', hg, rfl, hW⟩
      exact hnext g' _ _ hg (fun _ _ => rfl) hW
  · rintro D a w ⟨g, i1, i2, i3, i4, i6, i5⟩ hall
    refine hend g D w (fun i hi => hall i (by simpa using hi)) i5 a ⟨i1, i2, fun t v ht => ?_⟩
    rcases look_append2 ht with q | ⟨q, q5⟩
    · obtain ⟨⟨o, u⟩, hp, heq⟩ := List.mem_filterMap.1 q
      obtain ⟨j, hj⟩ := List.mem_iff_getElem?.1 hp
      rw [List.getElem?_zip_eq_some] at hj
      cases hdo : o.dst with
      | none => simp [hdo] at heq
      | some d =>
        simp [hdo] at heq
        obtain ⟨rfl, rfl⟩ := heq
        have := i3 j o d hj.1 (hall j (by have := (List.getElem?_eq_some_iff.1 hj.1).1; simpa using this)) hdo
        rw [hj.2] at this
        simpa using this
    · refine i4 t v q fun j o hj hdj => ?_
      exfalso
      have hvj : ∃ u, (vs g)[j]? = some u := ⟨(vs g)[j]'(by rw [hlen]; exact (List.getElem?_eq_some_iff.1 hj).1), List.getElem?_eq_getElem _⟩
      obtain ⟨u, hu⟩ := hvj
      exact q5 u (List.mem_filterMap.2 ⟨(o, u), List.mem_iff_getElem?.2 ⟨j, by rw [List.getElem?_zip_eq_some]; exact ⟨hj, hu⟩⟩, by simp [hdj]⟩)
  · have hno : ∀ j, (Array.replicate ls.toArray.size false).getD j false = true → False := fun j hDj' => by
      by_cases hj : j < ls.length
      · simp [hj] at hDj'
      · simp [hj] at hDj'
    refine ⟨g0, ha.sz, ha.df, fun j o d _ hDj _ => (hno j hDj).elim, fun t v ht _ => ha.kn t v (hsub.look ht), fun j o _ hDj => (hno j hDj).elim, ?_⟩
    · have : (fun j => (Array.replicate ls.toArray.size false).getD j false) = fun _ => false := by
        funext j
        by_cases hj : j < ls.length <;> simp [hj]
      rw [this]
      exact h0
end
end Fi
end Fw
end Go.Proofs.Ytmjnakhpekbenaa
namespace Go.Proofs.Ytmjnakhpekbenaa
open Go.RowKit
namespace Fw
namespace Fi
open Fw (Out OwnB)
theorem HPgrown {S : Nat → Prop} {w0 W W' : World} {H : List Ent} {row : Option Nat} (h : HP S w0 W H) (hg : W.grownBy W' row) (hr : ∀ r, row = some r → w0.heap.size ≤ r ∧ ∃ o : Obj, W.heap[r]? = some o ∧ o.isCells = false) : HP S w0 W' H := by
  refine ⟨hg.os.trans h.os, hg.tape.trans h.tape, hg.output.trans h.output, Nat.le_trans h.size hg.size, fun k hk hS => ?_, fun e he => ?_, h.fresh, h.apart⟩
  · rw [hg.block k (Nat.lt_of_lt_of_le hk h.size) fun e => by have := (hr k e.symm).1; omega]
    exact h.keep k hk hS
  · refine Fw.Ent.keep (h.hold e he) fun b hb => hg.block b (Fw.Ent.lt (h.hold e he) hb) fun q => ?_
    obtain ⟨-, o, ho, hc⟩ := hr b q.symm
    have hcell : ∃ c T z, W.heap[b]? = some (.cells c T z) := by
      have := h.hold e he
      cases e with
      | cel b' c T => simp only [Fw.Ent.blk, Option.some.injEq] at hb; subst hb; exact ⟨_, _, _, this⟩
      | own v k xs e s =>
        rcases this.2 with ⟨rfl, _⟩ | ⟨g, cap, cur, rfl, _, hh, _⟩
        · cases hb
        · simp only [Fw.Ent.blk, Value.ownBlock, Option.some.injEq] at hb; subst hb; exact ⟨_, _, _, hh⟩
    obtain ⟨c, T, z, hcc⟩ := hcell
    rw [hcc] at ho; cases ho; cases hc
theorem HPcells {S : Nat → Prop} {w0 W : World} {H : List Ent} (h : HP S w0 W H) {e : Ent} (he : e ∈ H) {b : Nat} (hb : e.blk = some b) : ∃ c T z, W.heap[b]? = some (.cells c T z) := by
  have := h.hold e he
  cases e with
  | cel b' c T => simp only [Fw.Ent.blk, Option.some.injEq] at hb; subst hb; exact ⟨_, _, _, this⟩
  | own v k xs e s =>
    rcases this.2 with ⟨rfl, _⟩ | ⟨g, cap, cur, rfl, _, hh, _⟩
    · cases hb
    · simp only [Fw.Ent.blk, Value.ownBlock, Option.some.injEq] at hb; subst hb; exact ⟨_, _, _, hh⟩
/-- what a round keeps for the iterator: what lay below n0, and the blocks named -/
def KpB (n0 : Nat) (KB : List Nat) (A B : World) : Prop := (∀ k, k < n0 → B.heap[k]? = A.heap[k]?) ∧ ∀ b, b ∈ KB → B.heap[b]? = A.heap[b]?
theorem KpB.trans {n0 : Nat} {KB : List Nat} {A B C : World} (h : KpB n0 KB A B) (k : KpB n0 KB B C) : KpB n0 KB A C := ⟨fun i hi => (k.1 i hi).trans (h.1 i hi), fun b hb => (k.2 b hb).trans (h.2 b hb)⟩
def bodyP {X : Type} (S : Nat → Prop) (W : World) (H : X → List Ent) : Exit → Act → World → Prop
  | .normal, _, W' => ∃ g, HP S W W' (H g)
  | _, _, _ => False
section
variable {P : Program} {Q : Exit → Act → World → Prop} {n : Nat} {l : List (Nat × Value)} {w wl : World} {m0 : Nat}
theorem calls_ofX {f : FuncId} {fn : Func} {c : Code} {args : Array Value} {R : Ending → World → Prop} (hf : P.funcs[f]? = some fn) (hb : fn.body = some c) {m : Nat} (hm : fn.ntmps = m) (ts : List (Nat × Value))
    (hfr : Fr [] m ts ⟨args ++ Array.replicate (m - args.size) undef, []⟩) (h : XC none 5 [] P c (bodyPostM (fen none) 5 P fn R) m ts w) : Calls P f args w R := by
  refine callsIn_wide.1 (callsIn_of_wp_marks (F := Fence.wide) (n := 5) hf hb trivial ?_)
  rw [hm]
  exact h _ hfr
theorem XQ.ret1 {fn : Func} {R : Ending → World → Prop} {v : Value} (t : Nat) (hr : fn.results = #[.tmp t]) (h1 : look l t = some v) (hR : R (.returned v) w) : XQ [] (bodyPostM (fen none) 5 P fn R) .ret n l w := fun a ha => by
  show LeavesInM _ _ _ _ _ _ a.defers _ _
  rw [ha.df]
  exact ⟨v, by rw [results_tmp hr, ha.getD h1], hR⟩
theorem XQ.end0 {fn : Func} {R : Ending → World → Prop} (hr : fn.results = #[]) (hR : R (.returned (.tuple #[])) w) : XQ [] (bodyPostM (fen none) 5 P fn R) .normal n l w := fun a ha => by
  show LeavesInM _ _ _ _ _ _ a.defers _ _
  rw [ha.df]
  exact ⟨.tuple #[], results_none hr _ _ _, hR⟩
theorem XQ.end0B {fn : Func} {R : Ending → World → Prop} (hr : fn.results = #[]) (hR : R (.returned (.tuple #[])) w) : XQ [] (bodyPost P fn R) .normal n l w := fun a ha => bodyPost_end (v := .tuple #[]) (results_none hr _ _ _) ha.df hR
theorem XQ.ret0B {fn : Func} {R : Ending → World → Prop} (hr : fn.results = #[]) (hR : R (.returned (.tuple #[])) w) : XQ [] (bodyPost P fn R) .ret n l w := fun a ha => bodyPost_ret (v := .tuple #[]) (results_none hr _ _ _) ha.df hR
theorem callsIn_ofX {f : FuncId} {fn : Func} {c : Code} {args : Array Value} {R : Ending → World → Prop} (hf : P.funcs[f]? = some fn) (hb : fn.body = some c) {m : Nat} (hm : fn.ntmps = m) (ts : List (Nat × Value))
    (hfr : Fr [] m ts ⟨args ++ Array.replicate (m - args.size) undef, []⟩) (h : XC none m0 [] P c (bodyPost P fn R) m ts w) : CallsIn (fen none) m0 P f args w R := by
  refine callsIn_of_wp hf hb trivial ?_
  rw [hm]
  exact h _ hfr
theorem Fr_enter (vs : List Value) (m : Nat) (h : vs.length ≤ m) : Fr [] m (Fw.enum 0 vs) ⟨vs.toArray ++ Array.replicate (m - vs.toArray.size) undef, []⟩ := by
  have q := Fw.Fr_enter vs m h
  exact ⟨q.sz, q.df, q.kn⟩
/-- the end behind a range over a function -/
theorem XQ.ret1M {fn : Func} {R : Ending → World → Prop} {v : Value} {D : Nat} (t : Nat) (hr : fn.results = #[.tmp t]) (h1 : look l t = some v) (hK : w.heap[D]? = some (.deferred (some []))) (hR : R (.returned v) (w.putObj D (.deferred none))) : XQ [{ target := .collected D, args := #[] }] (bodyPostM (fen none) 5 P fn R) .ret n l w := fun a ha => by
  show LeavesInM _ _ _ _ _ _ a.defers _ _
  rw [ha.df]
  exact ⟨by simp, .inl ⟨_, _, rfl, run_takeDeferred hK, v, by rw [results_tmp hr, ha.getD h1], hR⟩⟩
/-- two loop variables, each assigned by a region of its own; the body never leaves the loop -/
theorem XC.rangeFunc2 {α X : Type} {g : Operand} {p1 p2 d1 d2 i1 i2 : Nat} {t1 t2 : TypeId} {ps1 ps2 : String} {af1 af2 : Array Edge} {body : Code} {gf : Nat} {lb : Array Value} {w0 : World}
    (hg : ev l g = some (.func (.func gf) #[] lb)) (eg : ∀ args w, (callFunc gf args).run P w = .ok (.enter gf args) w)
    (e1 e2 : α → Value) {S Sp : List α → Prop} {N : Nat} (Hf : List α → X → List Ent) (KB : List Nat)
    (hseq : SeqStopsK (fen none) 4 P gf lb (fun x => #[e1 x, e2 x]) (KpB w0.heap.size KB) S Sp N wl)
    (hKB : ∀ b, b ∈ KB → ∃ c T, ∀ pre x, (Go.Proofs.Ytmjnakhpekbenaa.Fw.Ent.cel b c T) ∈ Hf pre x) (x0 : X) (h0 : HP Tr w0 wl (Hf [] x0))
    (hp1 : p1 < n) (hp2 : p2 < n) (hd1 : d1 < n) (hd2 : d2 < n) (hne : p1 ≠ p2) (hne2 : d1 ≠ p2)
    (hbody : ∀ ll pre x W gx, pre.length < N → OwnB W (Hf pre gx) → XC (some ll) 3 [] P body (bodyP (Out (Hf pre gx)) W (Hf (pre ++ [x]))) n ((d2, e2 x) :: (d1, e1 x) :: (p2, e2 x) :: (p1, e1 x) :: l) W)
    (hdone : ∀ D xs W gx, wl.heap.size ≤ D → S xs → HP Tr w0 W (Hf xs gx) → W.heap[D]? = some (.deferred (some [])) → XQ [{ target := .collected D, args := #[] }] Q .normal n l W) :
    XC none 5 [] P (.rangeFunc g #[p1, p2] (.seq (.region i1 #[{ dst := some d1, op := .assign (.tmp p1), type := t1, pos := ps1, after := af1, guard := none }] false) (.region i2 #[{ dst := some d2, op := .assign (.tmp p2), type := t2, pos := ps2, after := af2, guard := none }] false)) body) Q n l wl := by
  intro a ha
  have hKBlt : ∀ b, b ∈ KB → b < wl.heap.size := fun b hb => by
    obtain ⟨c, T, h⟩ := hKB b hb
    exact Fw.Ent.lt (h0.hold _ (h [] x0)) rfl
  refine wpIn_rangeFunc_ownG (F := fen none) (n := 5) (w0 := wl) rfl (by omega) (gf := gf) (lb := lb) (ha.ev hg) trivial eg hseq (fun h k => h.trans k) ?_ (Below.refl _ _) (fun _ => rfl)
    (fun pre W => ∃ gx, HP Tr w0 W (Hf pre gx)) (fun _ _ _ => False) ?_ (fun _ _ _ _ _ hs _ _ => hs) ⟨x0, h0⟩
    (fun x => (({ tmps := (a.tmps.setIfInBounds p1 (e1 x)).setIfInBounds p2 (e2 x), defers := [] } : Act).put (some d1) (e1 x)).put (some d2) (e2 x)) ?_ ?_ ?_ ?_
  · intro W r o o' hr ho hc _
    refine ⟨fun k hk => ?_, fun b hb => ?_⟩
    · exact World.putObj_heap_other (by have := h0.size; omega)
    · exact World.putObj_heap_other (by have := hKBlt b hb; omega)
  · rintro pre W W' row ⟨gx, h⟩ hgr hr
    exact ⟨gx, HPgrown h hgr fun r e => ⟨by have := (hr r e).1; have := h0.size; omega, (hr r e).2⟩⟩
  · intro ll x W K hK
    have f1 : Fr [] n ((p2, e2 x) :: (p1, e1 x) :: l) ({ tmps := (a.tmps.setIfInBounds p1 (e1 x)).setIfInBounds p2 (e2 x), defers := [] } : Act) := by
      have b0 : Fr [] n l { tmps := a.tmps, defers := [] } := ⟨ha.sz, rfl, ha.kn⟩
      exact (b0.put hp1 (e1 x)).put hp2 (e2 x)
    have hz : ((#[p1, p2].zip #[e1 x, e2 x]).foldl (fun (t : Array Value) (p, v) => t.setIfInBounds p v) a.tmps) = (a.tmps.setIfInBounds p1 (e1 x)).setIfInBounds p2 (e2 x) := by simp
    rw [hz]
    show Code.wpIn (fen (some ll)) 3 P _ _ ({ tmps := (a.tmps.setIfInBounds p1 (e1 x)).setIfInBounds p2 (e2 x), defers := [] } : Act) W
    refine wpIn_seq_k fun K' hK' => ?_
    refine wpIn_region_lit (l := [_]) ?_
    refine wpListIn_plain rfl fun K2 hK2 => ?_
    unfold Oper.wpIn
    rw [semAt_fen rfl]
    refine ⟨fun _ _ => trivial, ?_⟩
    rw [show (execOp _ _).run P W = .ok (.value (e1 x)) W from by
      rw [exec_known f1 (o := { dst := some d1, op := .assign (.tmp p1), type := t1, pos := ps1, after := af1, guard := none }) (by
        have : look ((p2, e2 x) :: (p1, e1 x) :: l) p1 = some (e1 x) := by rw [look_cons_ne (Ne.symm hne), look_cons_eq]
        simp [known, noSel, Op.operands, ev, this])]
      have : look ((p2, e2 x) :: (p1, e1 x) :: l) p1 = some (e1 x) := by rw [look_cons_ne (Ne.symm hne), look_cons_eq]
      simp [execOp, evD, ev, this, Sem.run]]
    rw [Oper.uponIn_value]
    refine hK2 _ _ ?_
    refine hK' _ _ ?_
    refine wpIn_region_lit (l := [_]) ?_
    refine wpListIn_plain rfl fun K3 hK3 => ?_
    unfold Oper.wpIn
    rw [semAt_fen rfl]
    refine ⟨fun _ _ => trivial, ?_⟩
    have f2 := f1.put hd1 (e1 x)
    rw [show (execOp _ _).run P W = .ok (.value (e2 x)) W from by
      rw [exec_known f2 (o := { dst := some d2, op := .assign (.tmp p2), type := t2, pos := ps2, after := af2, guard := none }) (by
        have : look ((d1, e1 x) :: (p2, e2 x) :: (p1, e1 x) :: l) p2 = some (e2 x) := by rw [look_cons_ne hne2, look_cons_eq]
        simp [known, noSel, Op.operands, ev, this])]
      have : look ((d1, e1 x) :: (p2, e2 x) :: (p1, e1 x) :: l) p2 = some (e2 x) := by rw [look_cons_ne hne2, look_cons_eq]
      simp [execOp, evD, ev, this, Sem.run]]
    rw [Oper.uponIn_value]
    exact hK3 _ _ hK
  · rintro ll pre x W ⟨gx, h⟩ hlt
    have hO : OwnB W (Hf pre gx) := ⟨h.hold, h.apart⟩
    have f1 : Fr [] n ((d2, e2 x) :: (d1, e1 x) :: (p2, e2 x) :: (p1, e1 x) :: l) ((({ tmps := (a.tmps.setIfInBounds p1 (e1 x)).setIfInBounds p2 (e2 x), defers := [] } : Act).put (some d1) (e1 x)).put (some d2) (e2 x)) := by
      have b0 : Fr [] n l { tmps := a.tmps, defers := [] } := ⟨ha.sz, rfl, ha.kn⟩
      exact (((b0.put hp1 (e1 x)).put hp2 (e2 x)).put hd1 (e1 x)).put hd2 (e2 x)
    refine wpIn_mono (hbody ll pre x W gx hlt hO _ f1) fun e a' W' hq => ?_
    cases e with
    | normal =>
      obtain ⟨gx', hq⟩ := hq
      refine ⟨⟨hq.size, fun k o _ ho hc => ?_⟩, ⟨fun k hk => ?_, fun b hb => ?_⟩, gx', ?_⟩
      · rw [hq.keep k (Array.getElem?_eq_some_iff.1 ho).1 fun e he hbk => ?_]; exact ho
        obtain ⟨c, T, z, hcc⟩ := HPcells h he hbk
        rw [hcc] at ho; cases ho; cases hc
      · exact hq.keep k (by have := h.size; omega) fun e he hbk => h.fresh e he k hbk hk trivial
      · obtain ⟨c, T, hm⟩ := hKB b hb
        have q1 : W.heap[b]? = some (.cells c T (0, 0)) := h.hold _ (hm pre gx)
        have q2 : W'.heap[b]? = some (.cells c T (0, 0)) := hq.hold _ (hm (pre ++ [x]) gx')
        rw [q1, q2]
      · have := Go.Proofs.Ytmjnakhpekbenaa.Fw.HP.exch (A := []) (B := Hf pre gx) h hq
        simpa using this
    | exit id => exact hq.elim
    | goto t => exact hq.elim
    | ret => exact hq.elim
    | panic c => exact hq.elim
    | outgrown => exact hq.elim
  · rintro D xs W hD hS ⟨gx, h⟩ hK
    have := hdone D xs W gx hD hS h hK
    exact this _ ⟨ha.sz, by rw [ha.df], ha.kn⟩
  · rintro D c pre W _ _ h _
    exact h.elim
end
end Fi
end Fw
end Go.Proofs.Ytmjnakhpekbenaa
