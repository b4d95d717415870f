/- What the proof of CacheTables stands on, part 4 of 5. -/
import Derived.BigQuiet
import Derived.BigRegion
import Derived.CallsIn
import Derived.ChangeAlike
import Derived.ChangeArms
import Derived.ChangeKeysEq
import Derived.ChangeSlices
import Derived.Deep.AppendLies
import Derived.Deep.CutRange
import Derived.Deep.DeepCutAuto
import Derived.Deep.Heap
import Derived.Deep.LoopGhost
import Derived.Deep.Matrix
import Derived.Deep.MidRow
import Derived.Deep.QuietTactic
import Derived.Deep.Slices
import Derived.Great.BuildSlice
import Derived.Great.Walk
import Derived.Ground.Names2Prog
import Derived.Ground.SlgnProg
import Derived.Ground.SlsfProg
import Derived.Handy
import Derived.KernelRfl
import Derived.Laws.AppendOwn
import Derived.Laws.AppendOwnNone
import Derived.Laws.CopyRow
import Derived.Laws.Externs
import Derived.Laws.MakeOwn
import Derived.Laws.Rows
import Derived.Laws.StructEq
import Derived.Lib.AppendZerosOnto
import Derived.Lib.Overlaps
import Derived.Lib.QuietBelow
import Derived.Lib.SliceRun
import Derived.OpenShut
import Derived.Orders
import Derived.OrdersIn
import Derived.RangeFuncFrom
import Derived.RangeFuncLeaves
import Derived.RangeFuncWrites
import Derived.RegionTactic
import Derived.Shelf.SlSortCmp.HeapSortK
import Derived.Shelf.SlSortCmp.InsertionK
import Derived.Shelf.SlSortCmp.MedianK
import Derived.Shelf.SlSortCmp.NoneTotal
import Derived.Shelf.SlSortCmp.PartialInsertionK
import Derived.Shelf.SlSortCmp.PartitionEqualK
import Derived.Shelf.SlSortCmp.PartitionK
import Derived.Shelf.SlSortCmp.PdqK
import Derived.Shelf.SlSortCmp.PivotK
import Derived.Shelf.SlSortCmp.ReverseRangeK
import Derived.Shelf.SlSortCmp.SiftDownK
import Derived.Shelf.Slices.Cells
import Derived.Shelf.Slices.Clone
import Derived.Shelf.Slices.Delete
import Derived.Shelf.Slices.Empties
import Derived.Shelf.Slices.SearchI
import Derived.Shelf.Slices.Turned
import Derived.Shelf.SlicesE.Clone
import Derived.Shelf.SlicesE.Delete
import Derived.Shelf.SlicesQ.Reverse
import Derived.Shelf.Small.Bits
import Derived.Shelf.Small.Wraps
import Derived.Shelf.Strconv.Itoa0
import Derived.SizedLaws
import Derived.Sort.AssemblyPlain
import Derived.Still
import Derived.StillTail
import Derived.TacticsIn
import Derived.Test.YtmjnakhpekbenaaProg
import Derived.WalkKit
import Derived.WalkLawsBesides
import Derived.Test.YtmjnakhpekbenaaCacheTablesC
set_option linter.unusedVariables false
set_option linter.unusedSimpArgs false
namespace Go.Proofs.Ytmjnakhpekbenaa
open Go.RowKit Fw
namespace Ca
/-- an inner row touched -/
def tcX (y x : Int) (xs : List Int) : List Int := x :: (if 0 ≤ Lib.idxOf xs x then xs.eraseIdx (Lib.idxOf xs x).toNat else if (xs.length : Int) = y then xs.take (xs.length - 1) else xs)
theorem infoI : ∃ i, Try.prog.info? 3 = some i ∧ i.zero = some (.int .i64 0) ∧ i.size = 1 ∧ i.bytes = 8 := by
  obtain ⟨i, hi, h⟩ := Option.map_eq_some_iff.1 (show (Try.prog.info? 3).map (fun i => (i.zero, i.size, i.bytes)) = some (some (.int .i64 0), 1, 8) by kernel_rfl)
  simp only [Prod.mk.injEq] at h
  exact ⟨i, hi, h.1, h.2.1, h.2.2⟩
theorem plc_spec (x : Int) : ∀ xs : List Int, (plc x xs = none ∧ ∀ i, i < xs.length → xs.getD i 0 ≠ x) ∨ (∃ k, plc x xs = some k ∧ k < xs.length ∧ xs.getD k 0 = x ∧ ∀ j, j < k → xs.getD j 0 ≠ x)
  | [] => .inl ⟨rfl, fun i hi => by simp at hi⟩
  | a :: r => by
    by_cases h : a = x
    · exact .inr ⟨0, by simp only [plc]; rw [if_pos h], by simp, by simpa using h, fun j hj => by omega⟩
    · rcases plc_spec x r with ⟨h1, h2⟩ | ⟨k, h1, h2, h3, h4⟩
      · refine .inl ⟨by simp only [plc]; rw [if_neg h, h1]; rfl, fun i hi => ?_⟩
        match i, hi with
        | 0, _ => simpa using h
        | i + 1, hi => have := h2 i (by simpa using hi); simpa using this
      · refine .inr ⟨k + 1, by simp only [plc]; rw [if_neg h, h1]; rfl, by simpa using h2, by simpa using h3, fun j hj => ?_⟩
        match j, hj with
        | 0, _ => simpa using h
        | j + 1, hj => have := h4 j (by omega); simpa using this
theorem idx_plc (x : Int) (xs : List Int) : Lib.idxOf xs x = plcV x xs := by
  unfold plcV
  rcases plc_spec x xs with ⟨h1, h2⟩ | ⟨k, h1, h2, h3, h4⟩
  · rw [h1]; have := Lib.idxOf_miss xs xs.length x h2; rwa [List.take_length] at this
  · rw [h1]; have := Lib.idxOf_hit xs xs.length k x h2 (Nat.le_refl _) h3 h4; rwa [List.take_length] at this
theorem idx_lt {x : Int} {xs : List Int} (h : 0 ≤ Lib.idxOf xs x) : (Lib.idxOf xs x).toNat < xs.length := by
  rw [idx_plc] at h ⊢
  unfold plcV at h ⊢
  rcases plc_spec x xs with ⟨h1, h2⟩ | ⟨k, h1, h2, h3, h4⟩
  · rw [h1] at h; simp at h
  · rw [h1]; simpa using h2
theorem src_of {w : World} {p : Option Addr} {xs ys : List Int} {c : Nat} (h : InI w p xs) (hy : ys = xs.take ys.length) (hc : p = none → c = 0) : (∃ a, p = some a ∧ ∀ q u, (iR ys)[q]? = some u → w.cell? (a.add q) = some u) ∨ (p = none ∧ ys.length = 0 ∧ c = 0) := by
  have hle : ys.length ≤ xs.length := by have := congrArg List.length hy; rw [List.length_take] at this; omega
  by_cases h0 : xs.length = 0
  · cases p with
    | none => exact .inr ⟨rfl, by omega, hc rfl⟩
    | some a =>
      refine .inl ⟨a, rfl, fun q u hu => ?_⟩
      have := (List.getElem?_eq_some_iff.1 hu).1
      simp at this; omega
  · obtain ⟨g, o, rfl, hr⟩ := h (by omega)
    refine .inl ⟨_, rfl, fun q u hu => ?_⟩
    have hq : q < ys.length := by have := (List.getElem?_eq_some_iff.1 hu).1; simpa using this
    have := hr q (by omega) 0 _ rfl
    rw [hadd]
    have e : u = vI (xs.getD q 0) := by
      rw [hy] at hu
      have h9 : q < xs.length := by omega
      simp [iR, List.getElem?_take, hq, h9] at hu
      rw [← hu]; simp [List.getD_eq_getElem?_getD, h9]
    rw [e]; simpa using this
theorem own_nil {w : World} {cp n e s : Nat} {xs : List Value} (h : Ent.holds w (.own (.slice none n cp) n xs e s)) : cp = 0 := by
  have h2 : w.ownsRow 0 e s (.slice none n cp) n xs := h
  rcases h2.2 with ⟨h0, _⟩ | ⟨g, cap, cur, hv, _⟩
  · cases h0; rfl
  · cases hv
set_option maxRecDepth 20000 in
set_option maxHeartbeats 4000000 in
theorem touch_any (g n0 cp0 : Nat) (S : List SlI) (s y l m a : Int) (k : Nat) (q : Option Addr) (xs : List Int) (c : Nat) (w : World) (hB : OwnB w [.cel g (sA S) 33]) (hs : 1 ≤ s ∧ s ≤ 8) (hl : 1 ≤ l ∧ l ≤ 8) (ha : 0 ≤ a ∧ a ≤ 999) (hy : 1 ≤ y ∧ y ≤ 4) (hk : (a / l).tmod s = (k : Int)) (hkS : S[k]? = some ⟨q, xs, c⟩) (hR : InR w ⟨q, xs, c⟩) (hq0 : q = none → c = 0) (hn : xs.length ≤ 1000000) (hSn : S.length = n0) :
    Calls Try.prog 50 #[.agg #[vI s, vI y, vI l, vI m], vS g n0 cp0, vI a] w fun e w' => ∃ pv cp, e = .returned (.bool (decide (0 ≤ Lib.idxOf xs (a / l)))) ∧ HP (Out [.cel g (sA S) 33]) w w' [.cel g (sA (S.set k ⟨pv, tcX y (a / l) xs, cp⟩)) 33, rowI' pv cp (tcX y (a / l) xs)] := by
  have hO : w.heap[g]? = some (.cells (sA S) 33 (0, 0)) := hB.1 _ (List.mem_singleton.2 rfl)
  have hkl : k < n0 := by rw [← hSn]; exact (List.getElem?_eq_some_iff.1 hkS).1
  refine calls_of Try.func50 rfl (m := 58) rfl [(0, .agg #[vI s, vI y, vI l, vI m]), (1, vS g n0 cp0), (2, vI a)] (Fr_enter [.agg #[vI s, vI y, vI l, vI m], vS g n0 cp0, vI a] 58 (Nat.le_of_ble_eq_true rfl)) ?_
  refine WC.seq fun K1 hK1 => WC.region ?_
  refine WL.alloc (c := #[vI s, vI y, vI l, vI m]) (T := 23) (HP.startB hB) 3 rfl (by decide) rfl rfl (fun b3 => vP b3 0) (by kernel_rfl) (fun b3 w2 hw2 => ?_)
  have hH3 : HP (Out [.cel g (sA S) 33]) w w2 [.cel g (sA S) 33, .cel b3 #[vI s, vI y, vI l, vI m] 23] := hw2.2
  have nb3 := hw2.1
  clear hw2
  refine WL.z (v := .bool false) 6 ?_
  refine WL.nil (WQ.then (hK1 _ _ _ (WC.seq fun K4 hK4 => WC.region ?_)))
  refine WL.z (v := vI a) 11 ?_
  refine WL.z (v := vP b3 2) 12 ?_
  refine WL.y (v := vI l) 13 (x_load rfl rfl Try.underlying3 rfl (HP.cell hH3 1 rfl rfl)) ?_
  refine WL.y (v := vI (a / l)) 14 (x_quo rfl rfl rfl (by omega) (tdiv_pos (by omega) (by omega)) (by have := Int.ediv_nonneg (show 0 ≤ a by omega) (show 0 ≤ l by omega); omega) (by have := Int.ediv_le_self l (show 0 ≤ a by omega); omega)) ?_
  refine WL.z (v := vI (a / l)) 7 ?_
  refine WL.nil (WQ.then (hK4 _ _ _ (WC.seq fun K5 hK5 => WC.region ?_)))
  refine WL.z (v := vI (a / l)) 15 ?_
  refine WL.z (v := vP b3 0) 16 ?_
  refine WL.y (v := vI s) 17 (x_load rfl rfl Try.underlying3 rfl (HP.cell hH3 1 rfl rfl)) ?_
  refine WL.y (v := vI (k : Int)) 18 (x_rem rfl rfl rfl (by omega) hk) ?_
  refine WL.z (v := vI (k : Int)) 8 ?_
  refine WL.nil (WQ.then (hK5 _ _ _ ?_))
  refine WC.sub (l' := [(0, .agg #[vI s, vI y, vI l, vI m]), (1, vS g n0 cp0), (2, vI a), (3, vP b3 0), (6, .bool false), (7, vI (a / l)), (8, vI (k : Int))]) ⟨rfl, rfl, rfl, rfl, rfl, rfl, rfl, trivial⟩ ?_
  refine WC.seq fun K6 hK6 => WC.region ?_
  refine WL.z (v := vS g n0 cp0) 19 ?_
  refine WL.z (v := vI (k : Int)) 20 ?_
  refine WL.y (v := vP g k) 21 (x_idx (k) (k) rfl rfl rfl Try.underlying24 sz33 (by omega) (by omega) (by omega)) ?_
  refine WL.y (v := .slice q xs.length c) 22 (x_load rfl rfl Try.underlying33 rfl (HP.cell hH3 0 rfl (sA_at hkS))) ?_
  refine WL.z (v := vI (a / l)) 23 ?_
  refine WL.call (f := 67) (args := #[.slice q xs.length c, vI (a / l)]) 24 rfl (Nat.le_of_ble_eq_true rfl) rfl rfl (by kernel_rfl) ?_
  refine (index_any ⟨q, xs, c⟩ (a / l) _ (hR.keep hO hH3) hn).mono ?_
  rintro e w7 ⟨rfl, rfl⟩
  refine ⟨_, rfl, ?_⟩
  refine WL.z (v := vI (Lib.idxOf xs (a / l))) 9 ?_
  refine WL.nil (WQ.then (hK6 _ _ _ ?_))
  refine WC.sub (l' := [(0, .agg #[vI s, vI y, vI l, vI m]), (1, vS g n0 cp0), (2, vI a), (3, vP b3 0), (6, .bool false), (7, vI (a / l)), (8, vI (k : Int)), (9, vI (Lib.idxOf xs (a / l)))]) ⟨rfl, rfl, rfl, rfl, rfl, rfl, rfl, rfl, trivial⟩ ?_
  refine WC.seq fun K8 hK8 => WC.region ?_
  refine WL.z (v := vS g n0 cp0) 25 ?_
  refine WL.z (v := vI (k : Int)) 26 ?_
  refine WL.y (v := vP g k) 27 (x_idx (k) (k) rfl rfl rfl Try.underlying24 sz33 (by omega) (by omega) (by omega)) ?_
  refine WL.y (v := .slice q xs.length c) 28 (x_load rfl rfl Try.underlying33 rfl (HP.cell hH3 0 rfl (sA_at hkS))) ?_
  refine WL.z (v := .slice q xs.length c) 10 ?_
  refine WL.nil (WQ.then (hK8 _ _ _ (WC.seq fun K9 hK9 => WC.block (WC.seq fun K10 hK10 => WC.region ?_))))
  refine WL.z (v := vI (Lib.idxOf xs (a / l))) 30 ?_
  by_cases h0 : (0 : Int) ≤ Lib.idxOf xs (a / l)
  ·
    obtain ⟨k9, hk9⟩ : ∃ k9 : Nat, Lib.idxOf xs (a / l) = (k9 : Int) := ⟨_, (Int.toNat_of_nonneg h0).symm⟩
    have hk9l : k9 < xs.length := by have := idx_lt h0; omega
    rw [hk9] at h0
    rw [hk9]
    refine WL.y (v := .bool true) 31 (x_geq rfl rfl rfl (dT (h0))) ?_
    refine WL.z (v := .bool true) 29 ?_
    refine WL.nil (WQ.then (hK10 _ _ _ ?_))
    refine WC.sub (l' := [(0, .agg #[vI s, vI y, vI l, vI m]), (1, vS g n0 cp0), (2, vI a), (3, vP b3 0), (6, .bool false), (7, vI (a / l)), (8, vI (k : Int)), (9, vI (k9 : Int)), (10, .slice q xs.length c), (29, .bool true)]) ⟨rfl, rfl, rfl, rfl, rfl, rfl, rfl, rfl, rfl, rfl, trivial⟩ ?_
    refine WC.yes rfl (WC.region ?_)
    refine WL.z (v := .slice q xs.length c) 32 ?_
    refine WL.call (f := 72) (args := #[.slice q xs.length c]) 33 rfl (Nat.le_of_ble_eq_true rfl) rfl rfl (by kernel_rfl) ?_
    refine (clone_any ⟨q, xs, c⟩ _ (hR.keep hO hH3) hn).mono ?_
    rintro e w11 ⟨pv, cp, rfl, hb12⟩
    refine ⟨_, rfl, ?_⟩
    have hH13 : HP (Out [.cel g (sA S) 33]) w _ [.cel g (sA S) 33, .cel b3 #[vI s, vI y, vI l, vI m] 23, rowI' pv cp xs] := HP.trans hH3 hb12
    refine WL.z (v := vI (k9 : Int)) 34 ?_
    refine WL.z (v := vI (k9 : Int)) 35 ?_
    refine WL.y (v := vI ((k9 + 1 : Nat) : Int)) 36 (x_add (Z := ((k9 + 1 : Nat) : Int)) rfl rfl rfl (by omega) (by omega) (by omega)) ?_
    refine WL.call (f := 73) (args := #[.slice pv xs.length cp, vI (k9 : Int), vI ((k9 + 1 : Nat) : Int)]) 37 rfl (Nat.le_of_ble_eq_true rfl) rfl rfl (by kernel_rfl) ?_
    refine (delete_any pv cp xs k9 _ (HP.ownB (A := [Go.Proofs.Ytmjnakhpekbenaa.Fw.Ent.cel g (sA S) 33, Go.Proofs.Ytmjnakhpekbenaa.Fw.Ent.cel b3 #[vI s, vI y, vI l, vI m] 23]) hH13) hk9l).mono ?_
    rintro e w6 ⟨rfl, hb6⟩
    refine ⟨_, rfl, ?_⟩
    have hH14 : HP (Out [.cel g (sA S) 33]) w _ [.cel g (sA S) 33, .cel b3 #[vI s, vI y, vI l, vI m] 23, rowI' pv cp (xs.eraseIdx k9)] := HP.exch (A := [Go.Proofs.Ytmjnakhpekbenaa.Fw.Ent.cel g (sA S) 33, Go.Proofs.Ytmjnakhpekbenaa.Fw.Ent.cel b3 #[vI s, vI y, vI l, vI m] 23]) hH13 hb6
    refine WL.z (v := .slice pv ((xs.eraseIdx k9).length) cp) 10 ?_
    refine WL.nil (WQ.inNormal (WQ.then (hK9 _ _ _ ?_)))
    refine WC.sub (l' := [(0, .agg #[vI s, vI y, vI l, vI m]), (1, vS g n0 cp0), (2, vI a), (3, vP b3 0), (6, .bool false), (7, vI (a / l)), (8, vI (k : Int)), (9, vI (k9 : Int)), (10, .slice pv ((xs.eraseIdx k9).length) cp), (29, .bool true)]) ⟨rfl, rfl, rfl, rfl, rfl, rfl, rfl, rfl, rfl, rfl, trivial⟩ ?_
    refine WC.seq fun K15 hK15 => WC.region ?_
    refine WL.z (v := vS g n0 cp0) 49 ?_
    refine WL.z (v := vI (k : Int)) 50 ?_
    refine WL.z (v := vI (a / l)) 51 ?_
    refine WL.alloc (c := #[vI (a / l)]) (T := 3) hH14 52 rfl (by decide) rfl rfl (fun b52 => vS b52 1 1) (by kernel_rfl) (fun b52 w16 hw16 => ?_)
    have hH17 : HP (Out [.cel g (sA S) 33]) w w16 [.cel g (sA S) 33, .cel b3 #[vI s, vI y, vI l, vI m] 23, rowI' pv cp (xs.eraseIdx k9), .cel b52 #[vI (a / l)] 3] := hw16.2
    have nb52 := hw16.1
    clear hw16
    refine WL.z (v := .slice pv ((xs.eraseIdx k9).length) cp) 53 ?_
    have hO9 := HP.celToOwn hH17 3 (k := 1) (cap := 1) (s := 1) rfl (Nat.le_refl _) (by decide) rfl
    have hH18 : HP (Out [.cel g (sA S) 33]) w _ [.cel g (sA S) 33, .cel b3 #[vI s, vI y, vI l, vI m] 23, rowI' pv cp (xs.eraseIdx k9), .own (.slice (some ⟨b52, 0, none⟩) 1 1) 1 [vI (a / l)] 3 1] := HP.eq hO9 rfl
    obtain ⟨i0, hi0, hz0, hz1, hz2⟩ := infoI
    have hyl : (xs.eraseIdx k9).length ≤ xs.length := by first | exact Nat.le_refl _ | (rw [List.length_eraseIdx_of_lt hk9l]; omega) | (rw [List.length_take]; omega)
    refine WL.appendSrc (iR (xs.eraseIdx k9)) 3 hH18 54 rfl (by decide) rfl rfl rfl rfl Try.underlying33 hi0 hz0 hz1 hz2 rfl (by decide) rfl (src_of (row_in (HP.get hH18 2 rfl)) (by rw [List.take_length]) (fun h => by subst h; exact own_nil (HP.get hH18 2 rfl))) (by simp) (fun u hu => by obtain ⟨x9, _, rfl⟩ := List.mem_map.1 hu; rfl) (by unfold maxLen; omega) (by omega) ?_
    rintro v7 w7 - hA7
    obtain ⟨pv7, cp7, rfl⟩ := own_row (HP.get hA7 3 rfl)
    have e7 : 1 + (xs.eraseIdx k9).length = (a / l :: (xs.eraseIdx k9)).length := by simp; omega
    rw [e7] at hA7 ⊢
    have hH19 : HP (Out [.cel g (sA S) 33]) w _ [.cel g (sA S) 33, .cel b3 #[vI s, vI y, vI l, vI m] 23, rowI' pv cp (xs.eraseIdx k9), rowI' pv7 cp7 (a / l :: (xs.eraseIdx k9))] := HP.eq hA7 rfl
    refine WL.y (v := vP g k) 55 (x_idx (k) (k) rfl rfl rfl Try.underlying24 sz33 (by omega) (by omega) (by omega)) ?_
    refine WL.store (c' := sA (S.set k ⟨pv7, (a / l :: (xs.eraseIdx k9)), cp7⟩)) (H2 := _) 0 hH19 rfl rfl rfl rfl rfl rfl sz33 rfl (by rw [sA_size]; exact (List.getElem?_eq_some_iff.1 hkS).1) (sA_set (r := ⟨pv7, (a / l :: (xs.eraseIdx k9)), cp7⟩)) rfl ?_
    intro w8 hB8
    have hH20 : HP (Out [.cel g (sA S) 33]) w _ [.cel g (sA (S.set k ⟨pv7, (a / l :: (xs.eraseIdx k9)), cp7⟩)) 33, .cel b3 #[vI s, vI y, vI l, vI m] 23, rowI' pv cp (xs.eraseIdx k9), rowI' pv7 cp7 (a / l :: (xs.eraseIdx k9))] := hB8
    refine WL.nil (WQ.then (hK15 _ _ _ ?_))
    refine WC.sub (l' := [(0, .agg #[vI s, vI y, vI l, vI m]), (1, vS g n0 cp0), (2, vI a), (3, vP b3 0), (6, .bool false), (7, vI (a / l)), (8, vI (k : Int)), (9, vI (k9 : Int)), (10, .slice pv ((xs.eraseIdx k9).length) cp), (29, .bool true)]) ⟨rfl, rfl, rfl, rfl, rfl, rfl, rfl, rfl, rfl, rfl, trivial⟩ ?_
    refine WC.seq fun K21 hK21 => WC.region ?_
    refine WL.z (v := vI (k9 : Int)) 56 ?_
    refine WL.y (v := .bool true) 57 (x_geq rfl rfl rfl (dT (by omega))) ?_
    refine WL.z (v := .bool true) 6 ?_
    refine WL.nil (WQ.then (hK21 _ _ _ (WC.ret ?_)))
    refine WQ.ret1 6 rfl rfl ?_
    have e9 : tcX y (a / l) xs = (a / l :: (xs.eraseIdx k9)) := by unfold tcX; rw [hk9, if_pos (by omega), Int.toNat_natCast]
    exact ⟨pv7, cp7, by rw [hk9, decide_eq_true (by omega)], by rw [e9]; exact (HP.drop (HP.drop hH20 2) 1)⟩
  ·
    refine WL.y (v := .bool false) 31 (x_geq rfl rfl rfl (dF (h0))) ?_
    refine WL.z (v := .bool false) 29 ?_
    refine WL.nil (WQ.then (hK10 _ _ _ ?_))
    refine WC.sub (l' := [(0, .agg #[vI s, vI y, vI l, vI m]), (1, vS g n0 cp0), (2, vI a), (3, vP b3 0), (6, .bool false), (7, vI (a / l)), (8, vI (k : Int)), (9, vI (Lib.idxOf xs (a / l))), (10, .slice q xs.length c), (29, .bool false)]) ⟨rfl, rfl, rfl, rfl, rfl, rfl, rfl, rfl, rfl, rfl, trivial⟩ ?_
    refine WC.no rfl (WC.seq fun K22 hK22 => WC.region ?_)
    refine WL.z (v := .slice q xs.length c) 39 ?_
    refine WL.z (v := vI (xs.length : Int)) 40 ?_
    refine WL.z (v := vP b3 1) 41 ?_
    refine WL.y (v := vI y) 42 (x_load rfl rfl Try.underlying3 rfl (HP.cell hH3 1 rfl rfl)) ?_
    by_cases hfull : (xs.length : Int) = y
    ·
      refine WL.y (v := .bool true) 43 (x_eql rfl rfl rfl (dT (hfull))) ?_
      refine WL.z (v := .bool true) 38 ?_
      refine WL.nil (WQ.then (hK22 _ _ _ (WC.yes rfl (WC.region ?_))))
      refine WL.z (v := .slice q xs.length c) 44 ?_
      refine WL.z (v := .slice q xs.length c) 45 ?_
      refine WL.z (v := vI (xs.length : Int)) 46 ?_
      refine WL.y (v := vI ((xs.length - 1 : Nat) : Int)) 47 (x_sub (Z := ((xs.length - 1 : Nat) : Int)) rfl rfl rfl (by omega) (by omega) (by omega)) ?_
      refine WL.y (v := .slice q ((xs.take (xs.length - 1)).length) c) 48 (by rw [List.length_take_of_le (Nat.sub_le _ _)]; exact x_sliceH (xs.length - 1) rfl rfl rfl Try.underlying33 (by omega) (by have := hR.hc; simp only [] at this; omega) sz3) ?_
      refine WL.z (v := .slice q ((xs.take (xs.length - 1)).length) c) 10 ?_
      refine WL.nil (WQ.inNormal (WQ.then (hK9 _ _ _ ?_)))
      refine WC.sub (l' := [(0, .agg #[vI s, vI y, vI l, vI m]), (1, vS g n0 cp0), (2, vI a), (3, vP b3 0), (6, .bool false), (7, vI (a / l)), (8, vI (k : Int)), (9, vI (Lib.idxOf xs (a / l))), (10, .slice q ((xs.take (xs.length - 1)).length) c), (29, .bool false), (38, .bool true)]) ⟨rfl, rfl, rfl, rfl, rfl, rfl, rfl, rfl, rfl, rfl, rfl, trivial⟩ ?_
      refine WC.seq fun K23 hK23 => WC.region ?_
      refine WL.z (v := vS g n0 cp0) 49 ?_
      refine WL.z (v := vI (k : Int)) 50 ?_
      refine WL.z (v := vI (a / l)) 51 ?_
      refine WL.alloc (c := #[vI (a / l)]) (T := 3) hH3 52 rfl (by decide) rfl rfl (fun b52 => vS b52 1 1) (by kernel_rfl) (fun b52 w24 hw24 => ?_)
      have hH25 : HP (Out [.cel g (sA S) 33]) w w24 [.cel g (sA S) 33, .cel b3 #[vI s, vI y, vI l, vI m] 23, .cel b52 #[vI (a / l)] 3] := hw24.2
      have nb52 := hw24.1
      clear hw24
      refine WL.z (v := .slice q ((xs.take (xs.length - 1)).length) c) 53 ?_
      have hO9 := HP.celToOwn hH25 2 (k := 1) (cap := 1) (s := 1) rfl (Nat.le_refl _) (by decide) rfl
      have hH26 : HP (Out [.cel g (sA S) 33]) w _ [.cel g (sA S) 33, .cel b3 #[vI s, vI y, vI l, vI m] 23, .own (.slice (some ⟨b52, 0, none⟩) 1 1) 1 [vI (a / l)] 3 1] := HP.eq hO9 rfl
      obtain ⟨i0, hi0, hz0, hz1, hz2⟩ := infoI
      have hyl : (xs.take (xs.length - 1)).length ≤ xs.length := by first | exact Nat.le_refl _ | (rw [List.length_eraseIdx_of_lt hk9l]; omega) | (rw [List.length_take]; omega)
      refine WL.appendSrc (iR (xs.take (xs.length - 1))) 2 hH26 54 rfl (by decide) rfl rfl rfl rfl Try.underlying33 hi0 hz0 hz1 hz2 rfl (by decide) rfl (src_of (InI.keep hR.row hO hH26) (by rw [List.length_take_of_le (Nat.sub_le _ _)]) hq0) (by simp) (fun u hu => by obtain ⟨x9, _, rfl⟩ := List.mem_map.1 hu; rfl) (by unfold maxLen; omega) (by omega) ?_
      rintro v7 w7 - hA7
      obtain ⟨pv7, cp7, rfl⟩ := own_row (HP.get hA7 2 rfl)
      have e7 : 1 + (xs.take (xs.length - 1)).length = (a / l :: (xs.take (xs.length - 1))).length := by simp; omega
      rw [e7] at hA7 ⊢
      have hH27 : HP (Out [.cel g (sA S) 33]) w _ [.cel g (sA S) 33, .cel b3 #[vI s, vI y, vI l, vI m] 23, rowI' pv7 cp7 (a / l :: (xs.take (xs.length - 1)))] := HP.eq hA7 rfl
      refine WL.y (v := vP g k) 55 (x_idx (k) (k) rfl rfl rfl Try.underlying24 sz33 (by omega) (by omega) (by omega)) ?_
      refine WL.store (c' := sA (S.set k ⟨pv7, (a / l :: (xs.take (xs.length - 1))), cp7⟩)) (H2 := _) 0 hH27 rfl rfl rfl rfl rfl rfl sz33 rfl (by rw [sA_size]; exact (List.getElem?_eq_some_iff.1 hkS).1) (sA_set (r := ⟨pv7, (a / l :: (xs.take (xs.length - 1))), cp7⟩)) rfl ?_
      intro w8 hB8
      have hH28 : HP (Out [.cel g (sA S) 33]) w _ [.cel g (sA (S.set k ⟨pv7, (a / l :: (xs.take (xs.length - 1))), cp7⟩)) 33, .cel b3 #[vI s, vI y, vI l, vI m] 23, rowI' pv7 cp7 (a / l :: (xs.take (xs.length - 1)))] := hB8
      refine WL.nil (WQ.then (hK23 _ _ _ ?_))
      refine WC.sub (l' := [(0, .agg #[vI s, vI y, vI l, vI m]), (1, vS g n0 cp0), (2, vI a), (3, vP b3 0), (6, .bool false), (7, vI (a / l)), (8, vI (k : Int)), (9, vI (Lib.idxOf xs (a / l))), (10, .slice q ((xs.take (xs.length - 1)).length) c), (29, .bool false), (38, .bool true)]) ⟨rfl, rfl, rfl, rfl, rfl, rfl, rfl, rfl, rfl, rfl, rfl, trivial⟩ ?_
      refine WC.seq fun K29 hK29 => WC.region ?_
      refine WL.z (v := vI (Lib.idxOf xs (a / l))) 56 ?_
      refine WL.y (v := .bool false) 57 (x_geq rfl rfl rfl (dF (h0))) ?_
      refine WL.z (v := .bool false) 6 ?_
      refine WL.nil (WQ.then (hK29 _ _ _ (WC.ret ?_)))
      refine WQ.ret1 6 rfl rfl ?_
      have e9 : tcX y (a / l) xs = (a / l :: (xs.take (xs.length - 1))) := by unfold tcX; rw [if_neg h0, if_pos (by omega)]
      exact ⟨pv7, cp7, by rw [decide_eq_false h0], by rw [e9]; exact (HP.drop hH28 1)⟩
    ·
      refine WL.y (v := .bool false) 43 (x_eql rfl rfl rfl (dF (hfull))) ?_
      refine WL.z (v := .bool false) 38 ?_
      refine WL.nil (WQ.then (hK22 _ _ _ (WC.no rfl (WC.skip (WQ.inNormal (WQ.then (hK9 _ _ _ ?_)))))))
      refine WC.seq fun K30 hK30 => WC.region ?_
      refine WL.z (v := vS g n0 cp0) 49 ?_
      refine WL.z (v := vI (k : Int)) 50 ?_
      refine WL.z (v := vI (a / l)) 51 ?_
      refine WL.alloc (c := #[vI (a / l)]) (T := 3) hH3 52 rfl (by decide) rfl rfl (fun b52 => vS b52 1 1) (by kernel_rfl) (fun b52 w31 hw31 => ?_)
      have hH32 : HP (Out [.cel g (sA S) 33]) w w31 [.cel g (sA S) 33, .cel b3 #[vI s, vI y, vI l, vI m] 23, .cel b52 #[vI (a / l)] 3] := hw31.2
      have nb52 := hw31.1
      clear hw31
      refine WL.z (v := .slice q xs.length c) 53 ?_
      have hO9 := HP.celToOwn hH32 2 (k := 1) (cap := 1) (s := 1) rfl (Nat.le_refl _) (by decide) rfl
      have hH33 : HP (Out [.cel g (sA S) 33]) w _ [.cel g (sA S) 33, .cel b3 #[vI s, vI y, vI l, vI m] 23, .own (.slice (some ⟨b52, 0, none⟩) 1 1) 1 [vI (a / l)] 3 1] := HP.eq hO9 rfl
      obtain ⟨i0, hi0, hz0, hz1, hz2⟩ := infoI
      have hyl : xs.length ≤ xs.length := by first | exact Nat.le_refl _ | (rw [List.length_eraseIdx_of_lt hk9l]; omega) | (rw [List.length_take]; omega)
      refine WL.appendSrc (iR xs) 2 hH33 54 rfl (by decide) rfl rfl rfl rfl Try.underlying33 hi0 hz0 hz1 hz2 rfl (by decide) rfl (src_of (InI.keep hR.row hO hH33) (by rw [List.take_length]) hq0) (by simp) (fun u hu => by obtain ⟨x9, _, rfl⟩ := List.mem_map.1 hu; rfl) (by unfold maxLen; omega) (by omega) ?_
      rintro v7 w7 - hA7
      obtain ⟨pv7, cp7, rfl⟩ := own_row (HP.get hA7 2 rfl)
      have e7 : 1 + xs.length = (a / l :: xs).length := by simp; omega
      rw [e7] at hA7 ⊢
      have hH34 : HP (Out [.cel g (sA S) 33]) w _ [.cel g (sA S) 33, .cel b3 #[vI s, vI y, vI l, vI m] 23, rowI' pv7 cp7 (a / l :: xs)] := HP.eq hA7 rfl
      refine WL.y (v := vP g k) 55 (x_idx (k) (k) rfl rfl rfl Try.underlying24 sz33 (by omega) (by omega) (by omega)) ?_
      refine WL.store (c' := sA (S.set k ⟨pv7, (a / l :: xs), cp7⟩)) (H2 := _) 0 hH34 rfl rfl rfl rfl rfl rfl sz33 rfl (by rw [sA_size]; exact (List.getElem?_eq_some_iff.1 hkS).1) (sA_set (r := ⟨pv7, (a / l :: xs), cp7⟩)) rfl ?_
      intro w8 hB8
      have hH35 : HP (Out [.cel g (sA S) 33]) w _ [.cel g (sA (S.set k ⟨pv7, (a / l :: xs), cp7⟩)) 33, .cel b3 #[vI s, vI y, vI l, vI m] 23, rowI' pv7 cp7 (a / l :: xs)] := hB8
      refine WL.nil (WQ.then (hK30 _ _ _ ?_))
      refine WC.sub (l' := [(0, .agg #[vI s, vI y, vI l, vI m]), (1, vS g n0 cp0), (2, vI a), (3, vP b3 0), (6, .bool false), (7, vI (a / l)), (8, vI (k : Int)), (9, vI (Lib.idxOf xs (a / l))), (10, .slice q xs.length c), (29, .bool false), (38, .bool false)]) ⟨rfl, rfl, rfl, rfl, rfl, rfl, rfl, rfl, rfl, rfl, rfl, trivial⟩ ?_
      refine WC.seq fun K36 hK36 => WC.region ?_
      refine WL.z (v := vI (Lib.idxOf xs (a / l))) 56 ?_
      refine WL.y (v := .bool false) 57 (x_geq rfl rfl rfl (dF (h0))) ?_
      refine WL.z (v := .bool false) 6 ?_
      refine WL.nil (WQ.then (hK36 _ _ _ (WC.ret ?_)))
      refine WQ.ret1 6 rfl rfl ?_
      have e9 : tcX y (a / l) xs = (a / l :: xs) := by unfold tcX; rw [if_neg h0, if_neg (by omega)]
      exact ⟨pv7, cp7, by rw [decide_eq_false h0], by rw [e9]; exact (HP.drop hH35 1)⟩
end Ca
end Go.Proofs.Ytmjnakhpekbenaa
namespace Go.Proofs.Ytmjnakhpekbenaa
open Go.RowKit Fw
namespace Ca
/-- rows that can be read, of a state of one's own -/
def Rows (w : World) (S : List SlI) : Prop := ∀ r ∈ S, InR w r ∧ (r.q = none → r.c = 0)
theorem Rows.keep {w w' : World} {g : Nat} {S : List SlI} {H : List Ent} (h : Rows w S) (hO : w.heap[g]? = some (.cells (sA S) 33 (0, 0))) (hp : HP (Out [.cel g (sA S) 33]) w w' H) : Rows w' S := fun r hr => ⟨(h r hr).1.keep hO hp, (h r hr).2⟩
theorem Rows.set {w : World} {S : List SlI} {r : SlI} {k : Nat} (h : Rows w S) (hr : InR w r ∧ (r.q = none → r.c = 0)) : Rows w (S.set k r) := fun x hx => by
  rcases List.mem_or_eq_of_mem_set hx with h1 | rfl
  · exact h x h1
  · exact hr
theorem row_InR {w : World} {pv : Option Addr} {cp : Nat} {xs : List Int} (h : Ent.holds w (rowI' pv cp xs)) (hw : ∀ x ∈ xs, Wi x) : InR w ⟨pv, xs, cp⟩ ∧ (pv = none → cp = 0) := by
  refine ⟨⟨row_in h, ?_, ?_, hw⟩, fun e => by subst e; exact own_nil h⟩
  all_goals
    have h2 : w.ownsRow 0 3 1 (.slice pv xs.length cp) xs.length (iR xs) := h
    rcases h2.2 with ⟨h0, h1⟩ | ⟨g, cap, cur, hv, _, _, hnc, hm, _⟩
  · obtain ⟨-, hl0, hc0⟩ : pv = none ∧ xs.length = 0 ∧ cp = 0 := by simpa using h0
    show xs.length ≤ cp; omega
  · cases hv; exact hnc
  · obtain ⟨-, hl0, hc0⟩ : pv = none ∧ xs.length = 0 ∧ cp = 0 := by simpa using h0
    show cp ≤ maxLen; rw [hc0]; exact Nat.zero_le _
  · cases hv; exact hm
theorem nil_sA (n : Nat) : nilR n = sA (nilS n) := by
  apply Array.ext
  · simp [nilR, madeCells, sA]
  · intro i h1 h2
    have hi : i < n := by simpa [nilR, madeCells] using h1
    have e := nilR_at hi
    rw [Array.getElem?_eq_getElem h1, Option.some.injEq] at e
    rw [e]; simp [sA]
/-- the first i copied -/
def cpd (S S1 : List SlI) (i : Nat) : Prop := S1.length = S.length ∧ ∀ j, j < i → (S1.getD j ⟨none, [], 0⟩).xs = (S.getD j ⟨none, [], 0⟩).xs
theorem cpd_step {S S1 : List SlI} {i : Nat} {r : SlI} (h : cpd S S1 i) (hi : i < S.length) (hr : r.xs = (S.getD i ⟨none, [], 0⟩).xs) : cpd S (S1.set i r) (i + 1) := by
  refine ⟨by simp [h.1], fun j hj => ?_⟩
  by_cases e : j = i
  · subst e; rw [← hr]; simp [List.getD_eq_getElem?_getD, h.1, hi]
  · rw [← h.2 j (by omega)]; simp [List.getD_eq_getElem?_getD, List.getElem?_set_ne (Ne.symm e)]
theorem cpd_end {S S1 : List SlI} (h : cpd S S1 S.length) : stX S1 = stX S := by
  refine List.ext_getElem (by simp [stX, h.1]) fun i h1 h2 => ?_
  have hi : i < S.length := by simpa [stX] using h2
  have := h.2 i hi
  simpa [stX, List.getD_eq_getElem?_getD, hi, h.1] using this
set_option maxRecDepth 20000 in
set_option maxHeartbeats 4000000 in
theorem copied_any (p : Option Addr) (S : List SlI) (cp : Nat) (w : World) (hS : InS2 w p S) (hn : S.length ≤ 1000) (hx : ∀ r ∈ S, r.xs.length ≤ 1000000) :
    Calls Try.prog 49 #[.slice p S.length cp] w fun e w' => ∃ g S', e = .returned (.slice (some ⟨g, 0, none⟩) S.length S.length) ∧ stX S' = stX S ∧ HP Tr w w' [.cel g (sA S') 33] ∧ Rows w' S' := by
  refine calls_of Try.func49 rfl (m := 23) rfl [(0, .slice p S.length cp)] (Fr_enter [.slice p S.length cp] 23 (Nat.le_of_ble_eq_true rfl)) ?_
  have hH1 : HP Tr w w [] := HP.refl w
  refine WC.seq fun K2 hK2 => WC.region ?_
  refine WL.z (v := .slice none 0 0) 2 ?_
  refine WL.nil (WQ.then (hK2 _ _ _ (WC.seq fun K3 hK3 => WC.region ?_)))
  refine WL.z (v := .slice p S.length cp) 5 ?_
  refine WL.z (v := vI (S.length : Int)) 6 ?_
  refine WL.alloc (c := nilR S.length) (T := 33) hH1 7 rfl (by decide) rfl rfl (fun g => vS g S.length S.length) (x_makeR rfl rfl rfl (makeS2 S.length (by omega) _)) (fun g w9 hw9 => ?_)
  have hH9 : HP Tr w w9 [.cel g (sA (nilS S.length)) 33] := HP.eq hw9.2 (by rw [nil_sA]; rfl)
  refine WL.z (v := vS g S.length S.length) 3 ?_
  refine WL.nil (WQ.then (hK3 _ _ _ (WC.seq fun K4 hK4 => WC.seq fun K5 hK5 => WC.region ?_)))
  refine WL.z (v := .slice p S.length cp) 8 ?_
  refine WL.z (v := vI (S.length : Int)) 9 ?_
  refine WL.z (v := vI 0) 10 ?_
  refine WL.nil (WQ.then (hK5 _ _ _ (WC.block ?_)))
  refine WC.loop (fun kk0 ll0 ww0 => ∃ (i : Nat) (S1 : List SlI), ll0 = [(0, .slice p S.length cp), (3, vS g S.length S.length), (9, vI (S.length : Int)), (10, vI (i : Int))] ∧ kk0 = S.length - i ∧ (i ≤ S.length) ∧ (cpd S S1 i) ∧ (Rows ww0 S1) ∧ HP Tr w ww0 [.cel g (sA S1) 33]) (S.length) [(0, .slice p S.length cp), (3, vS g S.length S.length), (9, vI (S.length : Int)), (10, vI 0)] ⟨rfl, rfl, rfl, rfl, trivial⟩ ⟨0, nilS S.length, rfl, rfl, Nat.zero_le _, ⟨by simp, fun j hj => by omega⟩, fun r hr => by rw [List.eq_of_mem_replicate hr]; exact ⟨⟨fun h => absurd h (by simp), Nat.le_refl _, by decide, fun x hx => by cases hx⟩, fun _ => rfl⟩, hH9⟩ ?_
  rintro kk l w7 ⟨i, S1, rfl, hkk, hi, hcp, hrows, hH8⟩ K6 hK6
  have hInv := hH8
  have hO : (_ : World).heap[g]? = some (.cells (sA S1) 33 (0, 0)) := HP.get hInv 0 rfl
  have hR0 := HP.ownB (A := []) hInv
  have hH9 : HP (Out [.cel g (sA S1) 33]) w7 w7 [.cel g (sA S1) 33] := HP.startB hR0
  refine WC.seq fun K10 hK10 => WC.region ?_
  by_cases hlt : (i : Int) < (S.length : Int)
  ·
    refine WL.y (v := .bool true) 11 (x_lss rfl rfl rfl (dT (hlt))) ?_
    refine WL.nil (WQ.then (hK10 _ _ _ (WC.seq fun K11 hK11 => WC.yes rfl (WC.skip (WQ.then (hK11 _ _ _ ?_))))))
    refine WC.seq fun K12 hK12 => WC.block (WC.seq fun K13 hK13 => WC.region ?_)
    refine WL.z (v := vI (i : Int)) 12 ?_
    refine WL.z (v := vI (i : Int)) 4 ?_
    refine WL.nil (WQ.then (hK13 _ _ _ ?_))
    obtain ⟨r, hr⟩ : ∃ r, S[i]? = some r := ⟨S[i]'(by omega), List.getElem?_eq_getElem _⟩
    obtain ⟨hr1, hr2, hr3, hr4⟩ := stX_at hr
    have hIR := (hS.below (HP.below hInv)).inn r hr4
    obtain ⟨gS, oS, hpS, hrowS⟩ := (hS.below (HP.below hInv)).row (by omega)
    have hxn := hx r hr4
    subst hpS
    refine WC.region ?_
    refine WL.z (v := vS g S.length S.length) 13 ?_
    refine WL.z (v := vI (i : Int)) 14 ?_
    refine WL.z (v := .slice (some ⟨gS, oS, none⟩) S.length cp) 15 ?_
    refine WL.z (v := vI (i : Int)) 16 ?_
    refine WL.y (v := vP gS (oS + i)) 17 (x_idx (i) (oS + i) rfl rfl rfl Try.underlying24 sz33 (by omega) (by omega) (by omega)) ?_
    refine WL.y (v := .slice r.q r.xs.length r.c) 18 (x_load rfl rfl Try.underlying33 rfl (by have q9 := hrowS i (by omega); rw [hr2] at q9; exact q9 0 _ rfl)) ?_
    refine WL.call (f := 72) (args := #[.slice r.q r.xs.length r.c]) 19 rfl (Nat.le_of_ble_eq_true rfl) rfl rfl (by kernel_rfl) ?_
    refine (clone_any r _ hIR hxn).mono ?_
    rintro e w14 ⟨pv, cp9, rfl, hb15⟩
    refine ⟨_, rfl, ?_⟩
    have hH16 : HP (Out [.cel g (sA S1) 33]) w7 _ [.cel g (sA S1) 33, rowI' pv cp9 r.xs] := HP.trans hH9 hb15
    refine WL.y (v := vP g i) 20 (x_idx (i) (i) rfl rfl rfl Try.underlying24 sz33 (by omega) (by omega) (by omega)) ?_
    refine WL.store (c' := sA (S1.set i ⟨pv, r.xs, cp9⟩)) (H2 := _) 0 hH16 rfl rfl rfl rfl rfl rfl sz33 rfl (by rw [sA_size, hcp.1]; omega) (sA_set (r := ⟨pv, r.xs, cp9⟩)) rfl ?_
    intro w8 hB8
    have hH17 : HP (Out [.cel g (sA S1) 33]) w7 _ [.cel g (sA (S1.set i ⟨pv, r.xs, cp9⟩)) 33, rowI' pv cp9 r.xs] := hB8
    refine WL.nil (WQ.inNormal (WQ.then (hK12 _ _ _ ?_)))
    refine WC.sub (l' := [(0, .slice (some ⟨gS, oS, none⟩) S.length cp), (3, vS g S.length S.length), (4, vI (i : Int)), (9, vI (S.length : Int)), (10, vI (i : Int)), (11, .bool true)]) ⟨rfl, rfl, rfl, rfl, rfl, rfl, trivial⟩ ?_
    refine WC.region ?_
    refine WL.y (v := vI ((i + 1 : Nat) : Int)) 21 (x_add (Z := ((i + 1 : Nat) : Int)) rfl rfl rfl (by omega) (by omega) (by omega)) ?_
    refine WL.z (v := vI ((i + 1 : Nat) : Int)) 10 ?_
    refine WL.nil ?_
    have hRw := (hrows.keep hO hH17).set (k := i) (row_InR (HP.get hH17 1 rfl) hIR.hw)
    refine WQ.sub (l' := [(0, .slice (some ⟨gS, oS, none⟩) S.length cp), (3, vS g S.length S.length), (9, vI (S.length : Int)), (10, vI ((i + 1 : Nat) : Int))]) ⟨rfl, rfl, rfl, rfl, trivial⟩ ?_
    refine WQ.then (hK6 _ _ _ (by omega) ⟨i + 1, S1.set i ⟨pv, r.xs, cp9⟩, rfl, rfl, by omega, cpd_step hcp (by omega) (by rw [hr2]), hRw, (HP.drop (HP.exch (A := []) hInv hH17) 1)⟩)
  ·
    refine WL.y (v := .bool false) 11 (x_lss rfl rfl rfl (dF (hlt))) ?_
    refine WL.nil (WQ.then (hK10 _ _ _ (WC.seq fun K18 hK18 => WC.no rfl (WC.exit (WQ.thenExit (WQ.thenExit ?_))))))
    refine WQ.inExit (WQ.then (hK4 _ _ _ (WC.seq fun K19 hK19 => WC.region ?_)))
    refine WL.z (v := vS g S.length S.length) 22 ?_
    refine WL.z (v := vS g S.length S.length) 2 ?_
    refine WL.nil (WQ.then (hK19 _ _ _ (WC.ret ?_)))
    refine WQ.ret1 2 rfl rfl ?_
    have hil : i = S.length := by omega
    rw [hil] at hcp
    exact ⟨g, S1, rfl, cpd_end hcp, hInv, hrows⟩
end Ca
end Go.Proofs.Ytmjnakhpekbenaa
namespace Go.Proofs.Ytmjnakhpekbenaa
open Go.RowKit Fw
namespace Ca
def allW (xs : List Int) : Bool := xs.all fun x => wn x 0 999
theorem allW_yes {xs : List Int} (h : ∀ i, i < xs.length → wn (xs.getD i 0) 0 999 = true) : allW xs = true := List.all_eq_true.2 fun x hx => by
  obtain ⟨i, hi, rfl⟩ := List.mem_iff_getElem.1 hx
  have := h i hi
  simpa [List.getD_eq_getElem?_getD, hi] using this
theorem allW_no {xs : List Int} {i : Nat} (hi : i < xs.length) (h : wn (xs.getD i 0) 0 999 = false) : allW xs = false := by
  cases q : allW xs with
  | false => rfl
  | true =>
    have := List.all_eq_true.1 q xs[i] (List.getElem_mem hi)
    have e : xs.getD i 0 = xs[i] := by simp [List.getD_eq_getElem?_getD, hi]
    rw [e, this] at h; cases h
set_option maxRecDepth 20000 in
set_option maxHeartbeats 4000000 in
theorem wrong_any (a : Int) (w : World) :
    Calls Try.prog 47 #[vI a] w fun e w' => e = .returned (.bool (!wn a 0 999)) ∧ Below w.heap.size w w' := by
  refine calls_of Try.func47 rfl (m := 6) rfl [(0, vI a)] (Fr_enter [vI a] 6 (Nat.le_of_ble_eq_true rfl)) ?_
  have hH1 : HP Tr w w [] := HP.refl w
  refine WC.seq fun K2 hK2 => WC.region ?_
  refine WL.z (v := .bool false) 2 ?_
  refine WL.nil (WQ.then (hK2 _ _ _ (WC.seq fun K3 hK3 => WC.region ?_)))
  refine WL.z (v := vI a) 3 ?_
  refine WL.call (f := 44) (args := #[vI a, vI 0, vI 999]) 4 rfl (Nat.le_of_ble_eq_true rfl) rfl rfl (by kernel_rfl) ?_
  refine (within_any a 0 999 _).mono ?_
  rintro e w4 ⟨rfl, rfl⟩
  refine ⟨_, rfl, ?_⟩
  refine WL.z (v := .bool (!(wn a 0 999))) 5 ?_
  refine WL.z (v := .bool (!(wn a 0 999))) 2 ?_
  refine WL.nil (WQ.then (hK3 _ _ _ (WC.ret ?_)))
  refine WQ.ret1 2 rfl rfl ?_
  exact ⟨rfl, HP.below hH1⟩
set_option maxRecDepth 20000 in
set_option maxHeartbeats 4000000 in
theorem indexW_any (q : Option Addr) (xs : List Int) (c : Nat) (w : World) (hI : InI w q xs) (hn : xs.length ≤ 281474976710656) :
    Calls Try.prog 71 #[.slice q xs.length c, .func (.func 47) #[] #[]] w fun e w' => ∃ r : Int, e = .returned (.int .i64 r) ∧ (decide (0 ≤ r) = !allW xs) ∧ Below w.heap.size w w' := by
  refine calls_of Try.func71 rfl (m := 19) rfl [(0, .slice q xs.length c), (1, .func (.func 47) #[] #[])] (Fr_enter [.slice q xs.length c, .func (.func 47) #[] #[]] 19 (Nat.le_of_ble_eq_true rfl)) ?_
  have hH1 : HP Tr w w [] := HP.refl w
  refine WC.seq fun K2 hK2 => WC.region ?_
  refine WL.z (v := vI 0) 4 ?_
  refine WL.nil (WQ.then (hK2 _ _ _ (WC.seq fun K3 hK3 => WC.seq fun K4 hK4 => WC.region ?_)))
  refine WL.z (v := .slice q xs.length c) 6 ?_
  refine WL.z (v := vI (xs.length : Int)) 7 ?_
  refine WL.z (v := vI 0) 8 ?_
  refine WL.nil (WQ.then (hK4 _ _ _ (WC.block ?_)))
  refine WC.loop (fun kk0 ll0 ww0 => ∃ (i : Nat), ll0 = [(0, .slice q xs.length c), (1, .func (.func 47) #[] #[]), (7, vI (xs.length : Int)), (8, vI (i : Int))] ∧ kk0 = xs.length - i ∧ (i ≤ xs.length) ∧ (∀ j, j < i → wn (xs.getD j 0) 0 999 = true) ∧ HP Tr w ww0 []) (xs.length) [(0, .slice q xs.length c), (1, .func (.func 47) #[] #[]), (7, vI (xs.length : Int)), (8, vI 0)] ⟨rfl, rfl, rfl, rfl, trivial⟩ ⟨0, rfl, rfl, Nat.zero_le _, fun j hj => by omega, hH1⟩ ?_
  rintro kk l w6 ⟨i, rfl, hkk, hi, hall, hH7⟩ K5 hK5
  refine WC.seq fun K8 hK8 => WC.region ?_
  by_cases hlt : (i : Int) < (xs.length : Int)
  ·
    refine WL.y (v := .bool true) 9 (x_lss rfl rfl rfl (dT (hlt))) ?_
    refine WL.nil (WQ.then (hK8 _ _ _ (WC.seq fun K9 hK9 => WC.yes rfl (WC.skip (WQ.then (hK9 _ _ _ ?_))))))
    refine WC.seq fun K10 hK10 => WC.block (WC.seq fun K11 hK11 => WC.region ?_)
    refine WL.z (v := vI (i : Int)) 10 ?_
    refine WL.z (v := vI (i : Int)) 5 ?_
    refine WL.nil (WQ.then (hK11 _ _ _ (WC.seq fun K12 hK12 => ?_)))
    obtain ⟨g, o, rfl, hrow⟩ := hI (by omega)
    refine WC.region ?_
    refine WL.z (v := .func (.func 47) #[] #[]) 11 ?_
    refine WL.z (v := .slice (some ⟨g, o, none⟩) xs.length c) 12 ?_
    refine WL.z (v := vI (i : Int)) 13 ?_
    refine WL.y (v := vP g (o + i)) 14 (x_idx (i) (o + i) rfl rfl rfl Try.underlying33 sz3 (by omega) (by omega) (by omega)) ?_
    refine WL.y (v := vI (xs.getD i 0)) 15 (x_load rfl rfl Try.underlying3 rfl ((HP.oldRange hH7 trivial (hrow i (by omega))) 0 _ rfl)) ?_
    refine WL.call (f := 47) (args := #[vI (xs.getD i 0)]) 16 rfl (Nat.le_of_ble_eq_true rfl) rfl rfl (by kernel_rfl) ?_
    refine (wrong_any _ _).mono ?_
    rintro e w13 ⟨rfl, hb14⟩
    refine ⟨_, rfl, ?_⟩
    have hH15 : HP Tr w _ [] := HP.call hH7 hb14
    refine WL.nil (WQ.then (hK12 _ _ _ ?_))
    refine WC.sub (l' := [(0, .slice (some ⟨g, o, none⟩) xs.length c), (1, .func (.func 47) #[] #[]), (5, vI (i : Int)), (7, vI (xs.length : Int)), (8, vI (i : Int)), (9, .bool true), (16, .bool (!wn (xs.getD i 0) 0 999))]) ⟨rfl, rfl, rfl, rfl, rfl, rfl, rfl, trivial⟩ ?_
    rcases Bool.eq_false_or_eq_true (wn (xs.getD i 0) 0 999) with hw9 | hw9
    ·
      refine WC.no (congrArg (fun b => some (Value.bool (!b))) hw9) ?_
      refine WC.skip (WQ.inNormal (WQ.then (hK10 _ _ _ (WC.region ?_))))
      refine WL.y (v := vI ((i + 1 : Nat) : Int)) 18 (x_add (Z := ((i + 1 : Nat) : Int)) rfl rfl rfl (by omega) (by omega) (by omega)) ?_
      refine WL.z (v := vI ((i + 1 : Nat) : Int)) 8 ?_
      refine WL.nil ?_
      refine WQ.sub (l' := [(0, .slice (some ⟨g, o, none⟩) xs.length c), (1, .func (.func 47) #[] #[]), (7, vI (xs.length : Int)), (8, vI ((i + 1 : Nat) : Int))]) ⟨rfl, rfl, rfl, rfl, trivial⟩ ?_
      refine WQ.then (hK5 _ _ _ (by omega) ⟨i + 1, rfl, rfl, by omega, fun j hj => by
                by_cases q9 : j = i
                · subst q9; simpa using hw9
                · exact hall j (by omega), hH15⟩)
    ·
      refine WC.yes (congrArg (fun b => some (Value.bool (!b))) hw9) ?_
      refine WC.seq fun K16 hK16 => WC.region ?_
      refine WL.z (v := vI (i : Int)) 17 ?_
      refine WL.z (v := vI (i : Int)) 4 ?_
      refine WL.nil (WQ.then (hK16 _ _ _ (WC.ret ?_)))
      refine WQ.inRet ?_
      refine WQ.thenRet ?_
      refine WQ.thenRet ?_
      refine WQ.inRet ?_
      refine WQ.thenRet ?_
      refine WQ.ret1 4 rfl rfl ?_
      exact ⟨(i : Int), rfl, by rw [allW_no (show i < xs.length by omega) (by simpa using hw9)]; simp, HP.below hH15⟩
  ·
    refine WL.y (v := .bool false) 9 (x_lss rfl rfl rfl (dF (hlt))) ?_
    refine WL.nil (WQ.then (hK8 _ _ _ (WC.seq fun K17 hK17 => WC.no rfl (WC.exit (WQ.thenExit (WQ.thenExit ?_))))))
    refine WQ.inExit (WQ.then (hK3 _ _ _ (WC.seq fun K18 hK18 => WC.region ?_)))
    refine WL.z (v := vI (-1)) 4 ?_
    refine WL.nil (WQ.then (hK18 _ _ _ (WC.ret ?_)))
    refine WQ.ret1 4 rfl rfl ?_
    exact ⟨-1, rfl, by rw [allW_yes (fun j hj => hall j (by omega))]; decide, HP.below hH7⟩
set_option maxRecDepth 20000 in
set_option maxHeartbeats 4000000 in
theorem containsW_any (q : Option Addr) (xs : List Int) (c : Nat) (w : World) (hI : InI w q xs) (hn : xs.length ≤ 281474976710656) :
    Calls Try.prog 48 #[.slice q xs.length c, .func (.func 47) #[] #[]] w fun e w' => e = .returned (.bool (!allW xs)) ∧ Below w.heap.size w w' := by
  refine calls_of Try.func48 rfl (m := 9) rfl [(0, .slice q xs.length c), (1, .func (.func 47) #[] #[])] (Fr_enter [.slice q xs.length c, .func (.func 47) #[] #[]] 9 (Nat.le_of_ble_eq_true rfl)) ?_
  have hH1 : HP Tr w w [] := HP.refl w
  refine WC.seq fun K2 hK2 => WC.region ?_
  refine WL.z (v := .bool false) 4 ?_
  refine WL.nil (WQ.then (hK2 _ _ _ (WC.seq fun K3 hK3 => WC.region ?_)))
  refine WL.z (v := .slice q xs.length c) 5 ?_
  refine WL.z (v := .func (.func 47) #[] #[]) 6 ?_
  refine WL.call (f := 71) (args := #[.slice q xs.length c, .func (.func 47) #[] #[]]) 7 rfl (Nat.le_of_ble_eq_true rfl) rfl rfl (by kernel_rfl) ?_
  refine (indexW_any q xs c _ (hI.below (HP.below hH1)) hn).mono ?_
  rintro e w4 ⟨r, rfl, hr, hb5⟩
  refine ⟨_, rfl, ?_⟩
  have hH6 : HP Tr w _ [] := HP.call hH1 hb5
  by_cases h8 : (0 : Int) ≤ r
  ·
    refine WL.y (v := .bool true) 8 (x_geq rfl rfl rfl (dT (h8))) ?_
    refine WL.z (v := .bool true) 4 ?_
    refine WL.nil (WQ.then (hK3 _ _ _ (WC.ret ?_)))
    refine WQ.ret1 4 rfl rfl ?_
    exact ⟨by rw [← hr, decide_eq_true h8], HP.below hH6⟩
  ·
    refine WL.y (v := .bool false) 8 (x_geq rfl rfl rfl (dF (h8))) ?_
    refine WL.z (v := .bool false) 4 ?_
    refine WL.nil (WQ.then (hK3 _ _ _ (WC.ret ?_)))
    refine WQ.ret1 4 rfl rfl ?_
    exact ⟨by rw [← hr, decide_eq_false h8], HP.below hH6⟩
end Ca
end Go.Proofs.Ytmjnakhpekbenaa
namespace Go.Proofs.Ytmjnakhpekbenaa
open Go.RowKit Fw
namespace Ca
theorem idx_spec (x : Int) (xs : List Int) : (Lib.idxOf xs x < 0 ∧ ∀ i, i < xs.length → xs.getD i 0 ≠ x) ∨ (∃ k : Nat, Lib.idxOf xs x = (k : Int) ∧ k < xs.length ∧ xs.getD k 0 = x ∧ ∀ j, j < k → xs.getD j 0 ≠ x) := by
  rw [idx_plc]
  unfold plcV
  rcases plc_spec x xs with ⟨h1, h2⟩ | ⟨k, h1, h2, h3, h4⟩
  · rw [h1]; exact .inl ⟨by decide, h2⟩
  · rw [h1]; exact .inr ⟨k, rfl, h2, h3, h4⟩
/-! States, plainly. -/
theorem okR_iff2 {s y k : Int} {xs : List Int} : okR s y k xs = true ↔ (xs.length : Int) ≤ y ∧ (∀ x ∈ xs, (0 ≤ x ∧ x ≤ 999) ∧ x.tmod s = k) ∧ xs.Nodup := by
  rw [okR_iff]
  have gd : ∀ i (h : i < xs.length), xs.getD i 0 = xs[i] := fun i h => by simp [List.getD_eq_getElem?_getD, h]
  refine ⟨fun ⟨h1, h2⟩ => ⟨h1, fun x hx => ?_, ?_⟩, fun ⟨h1, h2, h3⟩ => ⟨h1, fun i hi => ?_⟩⟩
  · obtain ⟨i, hi, rfl⟩ := List.mem_iff_getElem.1 hx
    have := h2 i hi
    simp only [okX, Bool.and_eq_true, decide_eq_true_eq, gd i hi] at this
    exact ⟨wn_iff.1 this.1, this.2.1⟩
  · refine List.pairwise_iff_getElem.2 fun i j hi hj hij e => ?_
    have := h2 j hj
    simp only [okX, Bool.and_eq_true, Bool.not_eq_true', gd j hj] at this
    have h4 := this.2.2
    have : xs[j] ∈ xs.take j := by
      rw [← e]
      exact List.mem_iff_getElem.2 ⟨i, by simp; omega, by simp⟩
    rw [List.contains_iff_mem.2 this] at h4
    cases h4
  · simp only [okX, Bool.and_eq_true, decide_eq_true_eq, Bool.not_eq_true', gd i hi]
    obtain ⟨q1, q2⟩ := h2 xs[i] (List.getElem_mem hi)
    refine ⟨wn_iff.2 q1, q2, ?_⟩
    cases q : (xs.take i).contains xs[i] with
    | false => rfl
    | true =>
      obtain ⟨j, hj, e⟩ := List.mem_iff_getElem.1 (List.contains_iff_mem.1 q)
      simp only [List.length_take] at hj
      simp only [List.getElem_take] at e
      exact absurd e (List.pairwise_iff_getElem.1 h3 j i (by omega) hi (by omega))
theorem erase_eq : ∀ {xs : List Int} {k : Nat} {x : Int}, xs.Nodup → k < xs.length → xs.getD k 0 = x → xs.eraseIdx k = xs.filter (fun z => z != x)
  | a :: r, 0, x, hn, hk, he => by
    have he : a = x := by simpa using he
    subst he
    have h1 : ∀ z ∈ r, a ≠ z := (List.pairwise_cons.1 hn).1
    rw [List.filter_cons_of_neg (by simp), List.filter_eq_self.2 fun z hz => by simpa using fun e => h1 z hz e.symm]
    rfl
  | a :: r, k + 1, x, hn, hk, he => by
    have he : r.getD k 0 = x := by simpa using he
    have hk' : k < r.length := by simpa using hk
    have hx : x ∈ r := by rw [← he]; simp [List.getD_eq_getElem?_getD, hk']
    have h1 : a ≠ x := (List.pairwise_cons.1 hn).1 x hx
    rw [List.filter_cons_of_pos (by simpa using h1), List.eraseIdx_cons_succ, erase_eq (List.pairwise_cons.1 hn).2 hk' he]
theorem not_mem_of {xs : List Int} {x : Int} (h : ∀ i, i < xs.length → xs.getD i 0 ≠ x) : x ∉ xs := fun hx => by
  obtain ⟨i, hi, e⟩ := List.mem_iff_getElem.1 hx
  exact h i hi (by simp [List.getD_eq_getElem?_getD, hi, e])
theorem filter_self {xs : List Int} {x : Int} (h : x ∉ xs) : xs.filter (fun z => z != x) = xs := List.filter_eq_self.2 fun z hz => by
  have : z ≠ x := fun e => h (e ▸ hz)
  simpa using this
/-- a row touched, as the reference builds it -/
def tcF (y x : Int) (xs : List Int) : List Int := x :: (xs.filter fun z => z != x).take (y.toNat - 1)
theorem tcX_eq {s y k x : Int} {xs : List Int} (h : okR s y k xs = true) (hy : 1 ≤ y) : tcX y x xs = tcF y x xs := by
  obtain ⟨h1, h2, h3⟩ := okR_iff2.1 h
  unfold tcX tcF
  rcases idx_spec x xs with ⟨q1, q2⟩ | ⟨k0, q1, q2, q3, _⟩
  · have hx := not_mem_of q2
    rw [if_neg (by omega), filter_self hx]
    by_cases e : (xs.length : Int) = y
    · rw [if_pos e, show y.toNat - 1 = xs.length - 1 by omega]
    · rw [if_neg e, List.take_of_length_le (by omega)]
  · rw [if_pos (by omega), q1, Int.toNat_natCast, ← erase_eq h3 q2 q3, List.take_of_length_le]
    rw [List.length_eraseIdx_of_lt q2]; omega
theorem tcF_ok {s y k x : Int} {xs : List Int} (h : okR s y k xs = true) (hy : 1 ≤ y) (hx : 0 ≤ x ∧ x ≤ 999) (hk : x.tmod s = k) : okR s y k (tcF y x xs) = true := by
  obtain ⟨h1, h2, h3⟩ := okR_iff2.1 h
  have hs : ((xs.filter fun z => z != x).take (y.toNat - 1)).Sublist xs := (List.take_sublist _ _).trans List.filter_sublist
  refine okR_iff2.2 ⟨?_, fun z hz => ?_, ?_⟩
  · unfold tcF; simp; omega
  · rcases List.mem_cons.1 hz with rfl | hz
    · exact ⟨hx, hk⟩
    · exact h2 z (hs.subset hz)
  · refine List.pairwise_cons.2 ⟨fun z hz => ?_, h3.sublist hs⟩
    have := (List.mem_filter.1 (List.mem_of_mem_take hz)).2
    intro e; subst e; simp at this
/-- one address touched -/
def setN (s l a : Int) : Nat := ((a / l).tmod s).toNat
def stp (s y l a : Int) (X : List (List Int)) : List (List Int) := X.set (setN s l a) (tcX y (a / l) (X.getD (setN s l a) []))
def hitN (s l a : Int) (X : List (List Int)) : Nat := if 0 ≤ Lib.idxOf (X.getD (setN s l a) []) (a / l) then 1 else 0
def runX (s y l : Int) : List Int → List (List Int) × Nat → List (List Int) × Nat
  | [], p => p
  | a :: r, p => runX s y l r (stp s y l a p.1, p.2 + hitN s l a p.1)
theorem run_drop {s y l : Int} {zs : List Int} {i : Nat} (h : i < zs.length) (p : List (List Int) × Nat) : runX s y l (zs.drop i) p = runX s y l (zs.drop (i + 1)) (stp s y l (zs.getD i 0) p.1, p.2 + hitN s l (zs.getD i 0) p.1) := by
  rw [List.drop_eq_getElem_cons h]
  have e : zs.getD i 0 = zs[i] := by simp [List.getD_eq_getElem?_getD, h]
  rw [e]; rfl
theorem line_bd {l a : Int} (hl : 1 ≤ l ∧ l ≤ 8) (ha : 0 ≤ a ∧ a ≤ 999) : 0 ≤ a / l ∧ a / l ≤ 999 := ⟨Int.ediv_nonneg ha.1 (by omega), Int.le_trans (Int.ediv_le_self _ ha.1) ha.2⟩
theorem setN_spec {s l a : Int} (hs : 1 ≤ s ∧ s ≤ 8) (hl : 1 ≤ l ∧ l ≤ 8) (ha : 0 ≤ a ∧ a ≤ 999) : (a / l).tmod s = (setN s l a : Int) ∧ (setN s l a : Int) < s := by
  have h0 := (line_bd hl ha).1
  have h1 : (a / l).tmod s = (a / l) % s := Int.tmod_eq_emod_of_nonneg h0
  have h2 := Int.emod_nonneg (a / l) (show s ≠ 0 by omega)
  have h3 := Int.emod_lt_of_pos (a / l) (show 0 < s by omega)
  unfold setN
  rw [h1]; omega
theorem getD_set_eq {X : List (List Int)} {k : Nat} {r : List Int} (h : k < X.length) : (X.set k r).getD k [] = r := by simp [List.getD_eq_getElem?_getD, h]
theorem getD_set_ne {X : List (List Int)} {k j : Nat} {r : List Int} (h : k ≠ j) : (X.set k r).getD j [] = X.getD j [] := by simp [List.getD_eq_getElem?_getD, List.getElem?_set_ne h]
theorem okSt_stp {s y l m a : Int} {X : List (List Int)} (h : okSt s y l m X = true) (ha : 0 ≤ a ∧ a ≤ 999) : okSt s y l m (stp s y l a X) = true := by
  obtain ⟨h1, h2, h3⟩ := okSt_iff.1 h
  obtain ⟨hs, hy, hl, -⟩ := vG_iff.1 h1
  obtain ⟨e1, e2⟩ := setN_spec hs hl ha
  have hk : setN s l a < X.length := by omega
  refine okSt_iff.2 ⟨h1, by unfold stp; simpa using h2, fun k hk2 => ?_⟩
  unfold stp at hk2 ⊢
  by_cases e : setN s l a = k
  · subst e
    rw [getD_set_eq hk, tcX_eq (h3 _ hk) hy.1]
    exact tcF_ok (h3 _ hk) hy.1 (line_bd hl ha) e1
  · rw [getD_set_ne e]
    exact h3 k (by simpa using hk2)
theorem stp_length (s y l a : Int) (X : List (List Int)) : (stp s y l a X).length = X.length := by simp [stp]
theorem run_length (s y l : Int) : ∀ (zs : List Int) (p : List (List Int) × Nat), (runX s y l zs p).1.length = p.1.length
  | [], _ => rfl
  | a :: r, p => by rw [runX, run_length s y l r, stp_length]
theorem allW_iff {xs : List Int} : allW xs = true ↔ ∀ x ∈ xs, 0 ≤ x ∧ x ≤ 999 := by
  unfold allW
  rw [List.all_eq_true]
  exact ⟨fun h x hx => wn_iff.1 (h x hx), fun h x hx => wn_iff.2 (h x hx)⟩
theorem stX_set (S : List SlI) (k : Nat) (r : SlI) : stX (S.set k r) = (stX S).set k r.xs := by simp [stX, List.map_set]
end Ca
end Go.Proofs.Ytmjnakhpekbenaa
namespace Go.Proofs.Ytmjnakhpekbenaa
open Go.RowKit Fw
namespace Ca
def runOk (s y l m : Int) (X : List (List Int)) (zs : List Int) : Bool := okSt s y l m X && (decide ((zs.length : Int) ≤ 1000) && allW zs)
theorem runOk_iff {s y l m : Int} {X : List (List Int)} {zs : List Int} : runOk s y l m X zs = true ↔ okSt s y l m X = true ∧ (zs.length : Int) ≤ 1000 ∧ allW zs = true := by simp [runOk]
def RunR (s y l m : Int) (S : List SlI) (zs : List Int) (w : World) (e : Ending) (w' : World) : Prop :=
  (runOk s y l m (stX S) zs = false ∧ e = .returned (.tuple #[.slice none 0 0, vI 0, vI 1]) ∧ Below w.heap.size w w') ∨
  (runOk s y l m (stX S) zs = true ∧ ∃ g S', e = .returned (.tuple #[.slice (some ⟨g, 0, none⟩) S.length S.length, vI (((runX s y l zs (stX S, 0)).2 : Nat) : Int), vI 0]) ∧ stX S' = (runX s y l zs (stX S, 0)).1 ∧ HP Tr w w' [.cel g (sA S') 33] ∧ Rows w' S')
theorem ValidState_at {s y l m : Int} {S : List SlI} {r : Bool} (h : okSt s y l m (stX S) = r) (p : Option Addr) (cp : Nat) (w : World) (hS : InS2 w p S) (hn : S.length ≤ 281474976710656) :
    Calls Try.prog 15 #[.agg #[vI s, vI y, vI l, vI m], .slice p S.length cp] w fun e w' => e = .returned (.bool r) ∧ Below w.heap.size w w' := h ▸ ValidState_any s y l m p S cp w hS hn
theorem containsW_at {xs : List Int} {r : Bool} (h : allW xs = r) (q : Option Addr) (c : Nat) (w : World) (hI : InI w q xs) (hn : xs.length ≤ 281474976710656) :
    Calls Try.prog 48 #[.slice q xs.length c, .func (.func 47) #[] #[]] w fun e w' => e = .returned (.bool (!r)) ∧ Below w.heap.size w w' := h ▸ containsW_any q xs c w hI hn
theorem okSt_rows {s y l m : Int} {S : List SlI} (h : okSt s y l m (stX S) = true) : (S.length : Int) = s ∧ ∀ r ∈ S, r.xs.length ≤ 4 := by
  obtain ⟨h1, h2, h3⟩ := okSt_iff.1 h
  obtain ⟨hs, hy, -, -⟩ := vG_iff.1 h1
  rw [stX_len] at h2 h3
  refine ⟨h2, fun r hr => ?_⟩
  obtain ⟨i, hi, rfl⟩ := List.mem_iff_getElem.1 hr
  have := (okR_iff.1 (h3 i hi)).1
  rw [(stX_at (List.getElem?_eq_getElem hi)).1] at this
  omega
theorem okSt_wi {s y l m : Int} {X : List (List Int)} (h : okSt s y l m X = true) {k : Nat} (hk : k < X.length) : ∀ x ∈ X.getD k [], Wi x := fun x hx => by
  have := ((okR_iff2.1 ((okSt_iff.1 h).2.2 k hk)).2.1 x hx).1
  exact ⟨by omega, by omega⟩
set_option maxRecDepth 20000 in
set_option maxHeartbeats 4000000 in
theorem Run_any (s y l m : Int) (p : Option Addr) (S : List SlI) (cp : Nat) (q2 : Option Addr) (zs : List Int) (c2 : Nat) (w : World) (hS : InS2 w p S) (hn : S.length ≤ 281474976710656) (hI : InI w q2 zs) (hzn : zs.length ≤ 281474976710656) :
    Calls Try.prog 17 #[.agg #[vI s, vI y, vI l, vI m], .slice p S.length cp, .slice q2 zs.length c2] w (RunR s y l m S zs w) := by
  refine calls_of Try.func17 rfl (m := 45) rfl [(0, .agg #[vI s, vI y, vI l, vI m]), (1, .slice p S.length cp), (2, .slice q2 zs.length c2)] (Fr_enter [.agg #[vI s, vI y, vI l, vI m], .slice p S.length cp, .slice q2 zs.length c2] 45 (Nat.le_of_ble_eq_true rfl)) ?_
  have hH1 : HP Tr w w [] := HP.refl w
  refine WC.seq fun K2 hK2 => WC.region ?_
  refine WL.alloc (c := #[vI s, vI y, vI l, vI m]) (T := 23) hH1 3 rfl (by decide) rfl rfl (fun b3 => vP b3 0) (by kernel_rfl) (fun b3 w3 hw3 => ?_)
  have hH4 : HP Tr w w3 [.cel b3 #[vI s, vI y, vI l, vI m] 23] := hw3.2
  have nb3 := hw3.1
  clear hw3
  refine WL.z (v := .slice none 0 0) 6 ?_
  refine WL.z (v := vI 0) 7 ?_
  refine WL.z (v := vI 0) 8 ?_
  refine WL.nil (WQ.then (hK2 _ _ _ (WC.seq fun K5 hK5 => WC.region ?_)))
  refine WL.z (v := .func (.func 47) #[] #[]) 9 ?_
  refine WL.nil (WQ.then (hK5 _ _ _ (WC.seq fun K6 hK6 => WC.seq fun K7 hK7 => WC.region ?_)))
  refine WL.y (v := .agg #[vI s, vI y, vI l, vI m]) 14 (x_loadS (cs := [vI s, vI y, vI l, vI m]) rfl rfl Try.underlying23 rfl sz23 (HP.range hH4 0 rfl rfl)) ?_
  refine WL.z (v := .slice p S.length cp) 15 ?_
  rcases Bool.eq_false_or_eq_true (okSt s y l m (stX S)) with hv | hv
  ·
    refine WL.call (f := 15) (args := #[.agg #[vI s, vI y, vI l, vI m], .slice p S.length cp]) 16 rfl (Nat.le_of_ble_eq_true rfl) rfl rfl (by kernel_rfl) ?_
    refine (ValidState_at hv p cp _ (hS.below (HP.below hH4)) hn).mono ?_
    rintro e w8 ⟨rfl, hb9⟩
    refine ⟨_, rfl, ?_⟩
    have hH10 : HP Tr w _ [.cel b3 #[vI s, vI y, vI l, vI m] 23] := HP.call hH4 hb9
    refine WL.z (v := .bool false) 17 ?_
    refine WL.z (v := .bool false) 18 ?_
    refine WL.z (v := .slice q2 zs.length c2) 19 ?_
    refine WL.z (v := vI (zs.length : Int)) 20 ?_
    by_cases hlen : (1000 : Int) < (zs.length : Int)
    ·
      refine WL.y (v := .bool true) 21 (x_gtr rfl rfl rfl (dT (hlen))) ?_
      refine WL.z (v := .bool true) 22 ?_
      refine WL.z (v := .bool true) 23 ?_
      refine WL.p 24 ?_
      refine WL.p 25 ?_
      refine WL.p 26 ?_
      refine WL.z (v := .bool true) 27 ?_
      refine WL.nil (WQ.then (hK7 _ _ _ ?_))
      refine WC.sub (l' := [(0, .agg #[vI s, vI y, vI l, vI m]), (1, .slice p S.length cp), (2, .slice q2 zs.length c2), (3, vP b3 0), (6, .slice none 0 0), (7, vI 0), (8, vI 0), (9, .func (.func 47) #[] #[]), (27, .bool true)]) ⟨rfl, rfl, rfl, rfl, rfl, rfl, rfl, rfl, rfl, trivial⟩ ?_
      refine WC.yes rfl (WC.seq fun K11 hK11 => ?_)
      have hno : runOk s y l m (stX S) zs = false := by unfold runOk; rw [hv, decide_eq_false (by omega)]; rfl
      refine WC.region ?_
      refine WL.z (v := .slice none 0 0) 6 ?_
      refine WL.z (v := vI 0) 7 ?_
      refine WL.z (v := vI 1) 8 ?_
      refine WL.nil (WQ.then (hK11 _ _ _ (WC.ret ?_)))
      refine WQ.thenRet ?_
      refine WQ.ret3 6 7 8 rfl rfl rfl rfl ?_
      exact .inl ⟨hno, rfl, HP.below hH10⟩
    ·
      refine WL.y (v := .bool false) 21 (x_gtr rfl rfl rfl (dF (hlen))) ?_
      refine WL.z (v := .bool false) 22 ?_
      refine WL.z (v := .bool false) 23 ?_
      refine WL.z (v := .slice q2 zs.length c2) 24 ?_
      refine WL.z (v := .func (.func 47) #[] #[]) 25 ?_
      rcases Bool.eq_false_or_eq_true (allW zs) with ha | ha
      ·
        refine WL.call (f := 48) (args := #[.slice q2 zs.length c2, .func (.func 47) #[] #[]]) 26 rfl (Nat.le_of_ble_eq_true rfl) rfl rfl (by kernel_rfl) ?_
        refine (containsW_at ha q2 c2 _ (hI.below (HP.below hH10)) hzn).mono ?_
        rintro e w12 ⟨rfl, hb13⟩
        refine ⟨_, rfl, ?_⟩
        have hH14 : HP Tr w _ [.cel b3 #[vI s, vI y, vI l, vI m] 23] := HP.call hH10 hb13
        refine WL.z (v := .bool false) 27 ?_
        refine WL.nil (WQ.then (hK7 _ _ _ ?_))
        refine WC.sub (l' := [(0, .agg #[vI s, vI y, vI l, vI m]), (1, .slice p S.length cp), (2, .slice q2 zs.length c2), (3, vP b3 0), (6, .slice none 0 0), (7, vI 0), (8, vI 0), (9, .func (.func 47) #[] #[]), (27, .bool false)]) ⟨rfl, rfl, rfl, rfl, rfl, rfl, rfl, rfl, rfl, trivial⟩ ?_
        refine WC.no rfl (WC.skip (WQ.then (hK6 _ _ _ (WC.seq fun K15 hK15 => WC.region ?_))))
        refine WL.z (v := .slice p S.length cp) 28 ?_
        have hyes : runOk s y l m (stX S) zs = true := runOk_iff.2 ⟨hv, by omega, ha⟩
        obtain ⟨hSs, hrl⟩ := okSt_rows hv
        obtain ⟨⟨hs1, hs2⟩, ⟨hy1, hy2⟩, ⟨hl1, hl2⟩, -⟩ := vG_iff.1 (okSt_iff.1 hv).1
        refine WL.call (f := 49) (args := #[.slice p S.length cp]) 29 rfl (Nat.le_of_ble_eq_true rfl) rfl rfl (by kernel_rfl) ?_
        refine (copied_any p S cp _ (hS.below (HP.below hH14)) (by omega) (fun r hr => by have := hrl r hr; omega)).mono ?_
        rintro e w16 ⟨g, S1, rfl, hX1, hb17, hR1⟩
        refine ⟨_, rfl, ?_⟩
        have hH18 : HP Tr w _ [.cel b3 #[vI s, vI y, vI l, vI m] 23, .cel g (sA S1) 33] := HP.trans hH14 hb17
        refine WL.z (v := vS g S.length S.length) 10 ?_
        refine WL.z (v := vI 0) 11 ?_
        refine WL.nil (WQ.then (hK15 _ _ _ (WC.seq fun K19 hK19 => WC.seq fun K20 hK20 => WC.region ?_)))
        refine WL.z (v := .slice q2 zs.length c2) 30 ?_
        refine WL.z (v := vI (zs.length : Int)) 31 ?_
        refine WL.z (v := vI 0) 32 ?_
        refine WL.nil (WQ.then (hK20 _ _ _ (WC.block ?_)))
        refine WC.loop (fun kk0 ll0 ww0 => ∃ (i : Nat) (S2 : List SlI) (h : Nat), ll0 = [(2, .slice q2 zs.length c2), (3, vP b3 0), (10, vS g S.length S.length), (11, vI (h : Int)), (30, .slice q2 zs.length c2), (31, vI (zs.length : Int)), (32, vI (i : Int))] ∧ kk0 = zs.length - i ∧ (i ≤ zs.length) ∧ (runX s y l (zs.drop i) (stX S2, h) = runX s y l zs (stX S, 0)) ∧ (Rows ww0 S2) ∧ (okSt s y l m (stX S2) = true) ∧ (h ≤ i) ∧ (S2.length = S.length) ∧ HP Tr w ww0 [.cel b3 #[vI s, vI y, vI l, vI m] 23, .cel g (sA S2) 33]) (zs.length) [(2, .slice q2 zs.length c2), (3, vP b3 0), (10, vS g S.length S.length), (11, vI 0), (30, .slice q2 zs.length c2), (31, vI (zs.length : Int)), (32, vI 0)] ⟨rfl, rfl, rfl, rfl, rfl, rfl, rfl, trivial⟩ ⟨0, S1, 0, rfl, rfl, Nat.zero_le _, by rw [List.drop_zero, hX1], hR1, by rw [hX1]; exact hv, Nat.le_refl _, by rw [← stX_len S1, hX1, stX_len], hH18⟩ ?_
        rintro kk l w22 ⟨i, S2, h, rfl, hkk, hi, hrun, hrows, hok, hh, hlS, hH23⟩ K21 hK21
        refine WC.seq fun K24 hK24 => WC.region ?_
        by_cases hlt : (i : Int) < (zs.length : Int)
        ·
          refine WL.y (v := .bool true) 33 (x_lss rfl rfl rfl (dT (hlt))) ?_
          refine WL.nil (WQ.then (hK24 _ _ _ (WC.seq fun K25 hK25 => WC.yes rfl (WC.skip (WQ.then (hK25 _ _ _ ?_))))))
          refine WC.seq fun K26 hK26 => WC.block (WC.seq fun K27 hK27 => ?_)
          obtain ⟨gz, oz, hqz, hrowz⟩ := hI (by omega)
          subst hqz
          refine WC.region ?_
          refine WL.y (v := vP gz (oz + i)) 34 (x_idx (i) (oz + i) rfl rfl rfl Try.underlying33 sz3 (by omega) (by omega) (by omega)) ?_
          refine WL.y (v := vI (zs.getD i 0)) 35 (x_load rfl rfl Try.underlying3 rfl ((HP.oldRange hH23 trivial (hrowz i (by omega))) 0 _ rfl)) ?_
          refine WL.z (v := vI (zs.getD i 0)) 13 ?_
          refine WL.nil (WQ.then (hK27 _ _ _ (WC.seq fun K28 hK28 => WC.region ?_)))
          refine WL.y (v := .agg #[vI s, vI y, vI l, vI m]) 36 (x_loadS (cs := [vI s, vI y, vI l, vI m]) rfl rfl Try.underlying23 rfl sz23 (HP.range hH23 0 rfl rfl)) ?_
          refine WL.z (v := vS g S.length S.length) 37 ?_
          refine WL.z (v := vI (zs.getD i 0)) 38 ?_
          have haz : 0 ≤ zs.getD i 0 ∧ zs.getD i 0 ≤ 999 := allW_iff.1 ha _ (by simp [List.getD_eq_getElem?_getD, show i < zs.length by omega])
          obtain ⟨hk1, hk2⟩ := setN_spec ⟨hs1, hs2⟩ ⟨hl1, hl2⟩ haz
          obtain ⟨⟨q9, xs9, c9⟩, hkS⟩ : ∃ r, S2[setN s l (zs.getD i 0)]? = some r := ⟨S2[setN s l (zs.getD i 0)]'(by omega), List.getElem?_eq_getElem _⟩
          obtain ⟨hr1, hr2, hr3, hr4⟩ := stX_at hkS
          have hrl2 := (okSt_rows hok).2 _ hr4
          simp only [] at hr1 hrl2
          have hRk := hrows _ hr4
          have hO : (_ : World).heap[g]? = some (.cells (sA S2) 33 (0, 0)) := HP.get hH23 1 rfl
          refine WL.call (f := 50) (args := #[.agg #[vI s, vI y, vI l, vI m], vS g S.length S.length, vI (zs.getD i 0)]) 39 rfl (Nat.le_of_ble_eq_true rfl) rfl rfl (by kernel_rfl) ?_
          refine (touch_any g S.length S.length S2 s y l m (zs.getD i 0) (setN s l (zs.getD i 0)) q9 xs9 c9 _ (HP.ownB (A := [Go.Proofs.Ytmjnakhpekbenaa.Fw.Ent.cel b3 #[vI s, vI y, vI l, vI m] 23]) hH23) ⟨hs1, hs2⟩ ⟨hl1, hl2⟩ haz ⟨hy1, hy2⟩ hk1 hkS hRk.1 hRk.2 (by omega) hlS).mono ?_
          rintro e w9 ⟨pv, cp9, rfl, hb9⟩
          refine ⟨_, rfl, ?_⟩
          have hok2 := okSt_stp hok haz
          have hstp : stX (S2.set (setN s l (zs.getD i 0)) ⟨pv, tcX y (zs.getD i 0 / l) xs9, cp9⟩) = stp s y l (zs.getD i 0) (stX S2) := by unfold stp; rw [stX_set, hr1]
          have hwi9 : ∀ x ∈ tcX y (zs.getD i 0 / l) xs9, Wi x := by have q8 := okSt_wi hok2 (k := setN s l (zs.getD i 0)) (by rw [stp_length, stX_len]; exact hr3); rw [← hstp, stX_set, getD_set_eq (by rw [stX_len]; exact hr3)] at q8; exact q8
          have hrows2 := (hrows.keep hO hb9).set (k := setN s l (zs.getD i 0)) (row_InR (HP.get hb9 1 rfl) hwi9)
          have hH29 : HP Tr w _ [.cel b3 #[vI s, vI y, vI l, vI m] 23, .cel g (sA (S2.set (setN s l (zs.getD i 0)) ⟨pv, tcX y (zs.getD i 0 / l) xs9, cp9⟩)) 33, rowI' pv cp9 (tcX y (zs.getD i 0 / l) xs9)] := HP.exch (A := [Go.Proofs.Ytmjnakhpekbenaa.Fw.Ent.cel b3 #[vI s, vI y, vI l, vI m] 23]) hH23 hb9
          refine WL.nil (WQ.then (hK28 _ _ _ ?_))
          rcases Bool.eq_false_or_eq_true ((decide (0 ≤ Lib.idxOf xs9 (zs.getD i 0 / l)))) with hd | hd
          ·
            refine WC.yes (congrArg (fun b => some (Value.bool b)) hd) ?_
            refine WC.region ?_
            refine WL.z (v := vI (h : Int)) 40 ?_
            refine WL.y (v := vI ((h + 1 : Nat) : Int)) 41 (x_add (Z := ((h + 1 : Nat) : Int)) rfl rfl rfl (by omega) (by omega) (by omega)) ?_
            refine WL.z (v := vI ((h + 1 : Nat) : Int)) 11 ?_
            refine WL.nil (WQ.inNormal (WQ.then (hK26 _ _ _ ?_)))
            refine WC.sub (l' := [(2, .slice (some ⟨gz, oz, none⟩) zs.length c2), (3, vP b3 0), (10, vS g S.length S.length), (11, vI ((h + 1 : Nat) : Int)), (13, vI (zs.getD i 0)), (30, .slice (some ⟨gz, oz, none⟩) zs.length c2), (31, vI (zs.length : Int)), (32, vI (i : Int)), (33, .bool true), (39, .bool (decide (0 ≤ Lib.idxOf xs9 (zs.getD i 0 / l))))]) ⟨rfl, rfl, rfl, rfl, rfl, rfl, rfl, rfl, rfl, rfl, trivial⟩ ?_
            refine WC.region ?_
            refine WL.y (v := vI ((i + 1 : Nat) : Int)) 42 (x_add (Z := ((i + 1 : Nat) : Int)) rfl rfl rfl (by omega) (by omega) (by omega)) ?_
            refine WL.z (v := vI ((i + 1 : Nat) : Int)) 32 ?_
            refine WL.nil ?_
            have hhit : hitN s l (zs.getD i 0) (stX S2) = 1 := by unfold hitN; rw [hr1, if_pos (of_decide_eq_true hd)]
            refine WQ.sub (l' := [(2, .slice (some ⟨gz, oz, none⟩) zs.length c2), (3, vP b3 0), (10, vS g S.length S.length), (11, vI ((h + 1 : Nat) : Int)), (30, .slice (some ⟨gz, oz, none⟩) zs.length c2), (31, vI (zs.length : Int)), (32, vI ((i + 1 : Nat) : Int))]) ⟨rfl, rfl, rfl, rfl, rfl, rfl, rfl, trivial⟩ ?_
            refine WQ.then (hK21 _ _ _ (by omega) ⟨i + 1, S2.set (setN s l (zs.getD i 0)) ⟨pv, tcX y (zs.getD i 0 / l) xs9, cp9⟩, h + 1, rfl, rfl, by omega, by rw [← hrun, run_drop (show i < zs.length by omega), hstp, hhit], hrows2, by rw [hstp]; exact hok2, by omega, by simpa using hlS, (HP.drop hH29 2)⟩)
          ·
            refine WC.no (congrArg (fun b => some (Value.bool b)) hd) ?_
            refine WC.skip (WQ.inNormal (WQ.then (hK26 _ _ _ (WC.region ?_))))
            refine WL.y (v := vI ((i + 1 : Nat) : Int)) 42 (x_add (Z := ((i + 1 : Nat) : Int)) rfl rfl rfl (by omega) (by omega) (by omega)) ?_
            refine WL.z (v := vI ((i + 1 : Nat) : Int)) 32 ?_
            refine WL.nil ?_
            have hhit : hitN s l (zs.getD i 0) (stX S2) = 0 := by unfold hitN; rw [hr1, if_neg (of_decide_eq_false hd)]
            refine WQ.sub (l' := [(2, .slice (some ⟨gz, oz, none⟩) zs.length c2), (3, vP b3 0), (10, vS g S.length S.length), (11, vI (h : Int)), (30, .slice (some ⟨gz, oz, none⟩) zs.length c2), (31, vI (zs.length : Int)), (32, vI ((i + 1 : Nat) : Int))]) ⟨rfl, rfl, rfl, rfl, rfl, rfl, rfl, trivial⟩ ?_
            refine WQ.then (hK21 _ _ _ (by omega) ⟨i + 1, S2.set (setN s l (zs.getD i 0)) ⟨pv, tcX y (zs.getD i 0 / l) xs9, cp9⟩, h, rfl, rfl, by omega, by rw [← hrun, run_drop (show i < zs.length by omega), hstp, hhit]; rfl, hrows2, by rw [hstp]; exact hok2, by omega, by simpa using hlS, (HP.drop hH29 2)⟩)
        ·
          refine WL.y (v := .bool false) 33 (x_lss rfl rfl rfl (dF (hlt))) ?_
          refine WL.nil (WQ.then (hK24 _ _ _ (WC.seq fun K30 hK30 => WC.no rfl (WC.exit (WQ.thenExit (WQ.thenExit ?_))))))
          refine WQ.inExit (WQ.then (hK19 _ _ _ (WC.seq fun K31 hK31 => ?_)))
          rw [List.drop_eq_nil_of_le (show zs.length ≤ i by omega)] at hrun
          have hr8 : (stX S2, h) = runX s y l zs (stX S, 0) := hrun
          refine WC.region ?_
          refine WL.z (v := vS g S.length S.length) 43 ?_
          refine WL.z (v := vI (h : Int)) 44 ?_
          refine WL.z (v := vS g S.length S.length) 6 ?_
          refine WL.z (v := vI (h : Int)) 7 ?_
          refine WL.z (v := vI 0) 8 ?_
          refine WL.nil (WQ.then (hK31 _ _ _ (WC.ret ?_)))
          refine WQ.ret3 6 7 8 rfl rfl rfl rfl ?_
          exact .inr ⟨hyes, g, S2, by rw [← hr8], by rw [← hr8], HP.drop hH23 0, hrows⟩
      ·
        refine WL.call (f := 48) (args := #[.slice q2 zs.length c2, .func (.func 47) #[] #[]]) 26 rfl (Nat.le_of_ble_eq_true rfl) rfl rfl (by kernel_rfl) ?_
        refine (containsW_at ha q2 c2 _ (hI.below (HP.below hH10)) hzn).mono ?_
        rintro e w32 ⟨rfl, hb33⟩
        refine ⟨_, rfl, ?_⟩
        have hH34 : HP Tr w _ [.cel b3 #[vI s, vI y, vI l, vI m] 23] := HP.call hH10 hb33
        refine WL.z (v := .bool true) 27 ?_
        refine WL.nil (WQ.then (hK7 _ _ _ ?_))
        refine WC.sub (l' := [(0, .agg #[vI s, vI y, vI l, vI m]), (1, .slice p S.length cp), (2, .slice q2 zs.length c2), (3, vP b3 0), (6, .slice none 0 0), (7, vI 0), (8, vI 0), (9, .func (.func 47) #[] #[]), (27, .bool true)]) ⟨rfl, rfl, rfl, rfl, rfl, rfl, rfl, rfl, rfl, trivial⟩ ?_
        refine WC.yes rfl (WC.seq fun K35 hK35 => ?_)
        have hno : runOk s y l m (stX S) zs = false := by unfold runOk; rw [hv, ha, Bool.and_false, Bool.and_false]
        refine WC.region ?_
        refine WL.z (v := .slice none 0 0) 6 ?_
        refine WL.z (v := vI 0) 7 ?_
        refine WL.z (v := vI 1) 8 ?_
        refine WL.nil (WQ.then (hK35 _ _ _ (WC.ret ?_)))
        refine WQ.thenRet ?_
        refine WQ.ret3 6 7 8 rfl rfl rfl rfl ?_
        exact .inl ⟨hno, rfl, HP.below hH34⟩
  ·
    refine WL.call (f := 15) (args := #[.agg #[vI s, vI y, vI l, vI m], .slice p S.length cp]) 16 rfl (Nat.le_of_ble_eq_true rfl) rfl rfl (by kernel_rfl) ?_
    refine (ValidState_at hv p cp _ (hS.below (HP.below hH4)) hn).mono ?_
    rintro e w36 ⟨rfl, hb37⟩
    refine ⟨_, rfl, ?_⟩
    have hH38 : HP Tr w _ [.cel b3 #[vI s, vI y, vI l, vI m] 23] := HP.call hH4 hb37
    refine WL.z (v := .bool true) 17 ?_
    refine WL.z (v := .bool true) 18 ?_
    refine WL.p 19 ?_
    refine WL.p 20 ?_
    refine WL.p 21 ?_
    refine WL.z (v := .bool true) 22 ?_
    refine WL.z (v := .bool true) 23 ?_
    refine WL.p 24 ?_
    refine WL.p 25 ?_
    refine WL.p 26 ?_
    refine WL.z (v := .bool true) 27 ?_
    refine WL.nil (WQ.then (hK7 _ _ _ ?_))
    refine WC.sub (l' := [(0, .agg #[vI s, vI y, vI l, vI m]), (1, .slice p S.length cp), (2, .slice q2 zs.length c2), (3, vP b3 0), (6, .slice none 0 0), (7, vI 0), (8, vI 0), (9, .func (.func 47) #[] #[]), (27, .bool true)]) ⟨rfl, rfl, rfl, rfl, rfl, rfl, rfl, rfl, rfl, trivial⟩ ?_
    refine WC.yes rfl (WC.seq fun K39 hK39 => ?_)
    have hno : runOk s y l m (stX S) zs = false := by unfold runOk; rw [hv]; rfl
    refine WC.region ?_
    refine WL.z (v := .slice none 0 0) 6 ?_
    refine WL.z (v := vI 0) 7 ?_
    refine WL.z (v := vI 1) 8 ?_
    refine WL.nil (WQ.then (hK39 _ _ _ (WC.ret ?_)))
    refine WQ.thenRet ?_
    refine WQ.ret3 6 7 8 rfl rfl rfl rfl ?_
    exact .inl ⟨hno, rfl, HP.below hH38⟩
end Ca
end Go.Proofs.Ytmjnakhpekbenaa
namespace Go.Proofs.Ytmjnakhpekbenaa
open Go.RowKit Fw
namespace Ca
/-- an outer row of one's own -/
abbrev rowS (pv : Option Addr) (cp : Nat) (S : List SlI) : Ent := .own (.slice pv S.length cp) S.length (S.map slV) 33 1
theorem in_own {w : World} {pv : Option Addr} {cp : Nat} {S : List SlI} (h : Ent.holds w (rowS pv cp S)) (hr : ∀ r ∈ S, InR w r) : InS2 w pv S := ⟨fun h0 => by
    have h2 : w.ownsRow 0 33 1 (.slice pv S.length cp) S.length (S.map slV) := h
    have hc := @World.ownsRow.cells _ _ _ _ _ _ _ h2
    rcases h2.2 with ⟨h0', h1⟩ | ⟨g, cap, cur, hv, hb, hg, hnc, hm, hs, hx⟩
    · omega
    · cases hv
      refine ⟨g, 0, rfl, fun i hi j v hv => ?_⟩
      have hc := hc (g := g) rfl i (slV (S.getD i ⟨none, [], 0⟩)) (by simp [List.getD_eq_getElem?_getD, hi])
      match j, hv with
      | 0, hv => simp at hv; subst hv; simp only [hadd, Nat.zero_add, Nat.add_zero] at hc ⊢; exact hc
      | j + 1, hv => simp at hv, hr⟩
theorem in_cel {w : World} {g : Nat} {S : List SlI} (h : Ent.holds w (.cel g (sA S) 33)) (hr : Rows w S) : InS2 w (some ⟨g, 0, none⟩) S := ⟨fun h0 => ⟨g, 0, rfl, fun i hi j v hv => by
      match j, hv with
      | 0, hv =>
        simp at hv; subst hv
        have h2 : w.heap[g]? = some (.cells (sA S) 33 (0, 0)) := h
        rw [cell_of_row w g _ _ 33 (0, 0) h2]
        rw [Nat.zero_add, Nat.add_zero, sA_at (r := S.getD i ⟨none, [], 0⟩) (by simp [List.getD_eq_getElem?_getD, hi])]
        rfl
      | j + 1, hv => simp at hv⟩, fun r h => (hr r h).1⟩
def tOk (s y l m a : Int) (X : List (List Int)) : Bool := okSt s y l m X && wn a 0 999
def TouR (s y l m a : Int) (S : List SlI) (w : World) (e : Ending) (w' : World) : Prop :=
  (tOk s y l m a (stX S) = false ∧ e = .returned (.tuple #[.slice none 0 0, .bool false, vI 1]) ∧ Below w.heap.size w w') ∨
  (tOk s y l m a (stX S) = true ∧ ∃ pv cp S', e = .returned (.tuple #[.slice pv S'.length cp, .bool (decide (hitN s l a (stX S) = 1)), vI 0]) ∧ stX S' = stp s y l a (stX S) ∧ InS2 w' pv S' ∧ Below w.heap.size w w')
theorem one_run (s y l m a : Int) (X : List (List Int)) : runOk s y l m X [a] = tOk s y l m a X := by
  unfold runOk tOk allW
  simp
theorem hp_in {w0 w : World} {S : Nat → Prop} {H : List Ent} (h : HP S w0 w H) (i : Nat) {g : Nat} {v : Int} {xs : List Int} (hx : xs = [v]) (hi : H[i]? = some (.cel g #[vI v] 3)) : InI w (some ⟨g, 0, none⟩) xs := fun _ => ⟨g, 0, rfl, fun j hj k u hu => by
  subst hx
  have hj0 : j = 0 := by simpa using hj
  subst hj0
  match k, hu with
  | 0, hu => simp at hu; subst hu; exact h.cell i hi rfl
  | k + 1, hu => simp at hu⟩
set_option maxRecDepth 20000 in
set_option maxHeartbeats 4000000 in
theorem Touch_any (s y l m a : Int) (p : Option Addr) (S : List SlI) (cp : Nat) (w : World) (hS : InS2 w p S) (hn : S.length ≤ 281474976710656) :
    Calls Try.prog 12 #[.agg #[vI s, vI y, vI l, vI m], .slice p S.length cp, vI a] w (TouR s y l m a S w) := by
  refine calls_of Try.func12 rfl (m := 25) rfl [(0, .agg #[vI s, vI y, vI l, vI m]), (1, .slice p S.length cp), (2, vI a)] (Fr_enter [.agg #[vI s, vI y, vI l, vI m], .slice p S.length cp, vI a] 25 (Nat.le_of_ble_eq_true rfl)) ?_
  have hH1 : HP Tr w w [] := HP.refl w
  refine WC.seq fun K2 hK2 => WC.region ?_
  refine WL.alloc (c := #[vI s, vI y, vI l, vI m]) (T := 23) hH1 3 rfl (by decide) rfl rfl (fun b3 => vP b3 0) (by kernel_rfl) (fun b3 w3 hw3 => ?_)
  have hH4 : HP Tr w w3 [.cel b3 #[vI s, vI y, vI l, vI m] 23] := hw3.2
  have nb3 := hw3.1
  clear hw3
  refine WL.z (v := .slice none 0 0) 6 ?_
  refine WL.z (v := .bool false) 7 ?_
  refine WL.z (v := vI 0) 8 ?_
  refine WL.nil (WQ.then (hK2 _ _ _ (WC.seq fun K5 hK5 => WC.region ?_)))
  refine WL.y (v := .agg #[vI s, vI y, vI l, vI m]) 13 (x_loadS (cs := [vI s, vI y, vI l, vI m]) rfl rfl Try.underlying23 rfl sz23 (HP.range hH4 0 rfl rfl)) ?_
  refine WL.z (v := .slice p S.length cp) 14 ?_
  refine WL.z (v := vI a) 15 ?_
  refine WL.alloc (c := #[vI a]) (T := 3) hH4 16 rfl (by decide) rfl rfl (fun b16 => vS b16 1 1) (by kernel_rfl) (fun b16 w6 hw6 => ?_)
  have hH7 : HP Tr w w6 [.cel b3 #[vI s, vI y, vI l, vI m] 23, .cel b16 #[vI a] 3] := hw6.2
  have nb16 := hw6.1
  clear hw6
  refine WL.call (f := 17) (args := #[.agg #[vI s, vI y, vI l, vI m], .slice p S.length cp, vS b16 1 1]) 17 rfl (Nat.le_of_ble_eq_true rfl) rfl rfl (by kernel_rfl) ?_
  refine (Run_any s y l m p S cp (some ⟨b16, 0, none⟩) [a] 1 _ (hS.below (HP.below hH7)) hn (hp_in hH7 1 rfl rfl) (by simp)).mono ?_
  rintro e w4 (⟨hno, rfl, hb⟩ | ⟨hyes, g, S2, rfl, hX, hb, hR⟩)
  ·
    refine ⟨_, rfl, ?_⟩
    have hH8 : HP Tr w _ [.cel b3 #[vI s, vI y, vI l, vI m] 23, .cel b16 #[vI a] 3] := HP.call hH7 hb
    refine WL.z (v := .tuple #[.slice none 0 0, vI 0, vI 1]) 12 ?_
    refine WL.z (v := .slice none 0 0) 18 ?_
    refine WL.z (v := vI 0) 19 ?_
    refine WL.z (v := vI 1) 20 ?_
    refine WL.z (v := .slice none 0 0) 9 ?_
    refine WL.z (v := vI 0) 10 ?_
    refine WL.z (v := vI 1) 11 ?_
    refine WL.nil (WQ.then (hK5 _ _ _ ?_))
    refine WC.sub (l' := [(0, .agg #[vI s, vI y, vI l, vI m]), (1, .slice p S.length cp), (2, vI a), (3, vP b3 0), (6, .slice none 0 0), (7, .bool false), (8, vI 0), (9, .slice none 0 0), (10, vI 0), (11, vI 1)]) ⟨rfl, rfl, rfl, rfl, rfl, rfl, rfl, rfl, rfl, rfl, trivial⟩ ?_
    refine WC.seq fun K9 hK9 => WC.region ?_
    refine WL.z (v := .slice none 0 0) 21 ?_
    refine WL.z (v := vI 0) 22 ?_
    refine WL.y (v := .bool false) 23 (x_eql rfl rfl rfl (by decide)) ?_
    refine WL.z (v := vI 1) 24 ?_
    refine WL.z (v := .slice none 0 0) 6 ?_
    refine WL.z (v := .bool false) 7 ?_
    refine WL.z (v := vI 1) 8 ?_
    refine WL.nil (WQ.then (hK9 _ _ _ ?_))
    refine WC.sub (l' := [(0, .agg #[vI s, vI y, vI l, vI m]), (1, .slice p S.length cp), (2, vI a), (3, vP b3 0), (6, .slice none 0 0), (7, .bool false), (8, vI 1), (9, .slice none 0 0), (10, vI 0), (11, vI 1)]) ⟨rfl, rfl, rfl, rfl, rfl, rfl, rfl, rfl, rfl, rfl, trivial⟩ ?_
    refine WC.ret ?_
    refine WQ.ret3 6 7 8 rfl rfl rfl rfl ?_
    exact .inl ⟨by rw [← one_run]; exact hno, rfl, HP.below hH8⟩
  ·
    refine ⟨_, rfl, ?_⟩
    obtain ⟨n9, hn9⟩ : ∃ n9, n9 = (runX s y l [a] (stX S, 0)).2 := ⟨_, rfl⟩
    rw [← hn9]
    have hh : n9 = hitN s l a (stX S) := by rw [hn9]; simp [runX]
    have hH10 : HP Tr w _ [.cel b3 #[vI s, vI y, vI l, vI m] 23, .cel b16 #[vI a] 3, .cel g (sA S2) 33] := HP.trans hH7 hb
    refine WL.z (v := .tuple #[vS g S.length S.length, vI (n9 : Int), vI 0]) 12 ?_
    refine WL.z (v := vS g S.length S.length) 18 ?_
    refine WL.z (v := vI (n9 : Int)) 19 ?_
    refine WL.z (v := vI 0) 20 ?_
    refine WL.z (v := vS g S.length S.length) 9 ?_
    refine WL.z (v := vI (n9 : Int)) 10 ?_
    refine WL.z (v := vI 0) 11 ?_
    refine WL.nil (WQ.then (hK5 _ _ _ ?_))
    refine WC.sub (l' := [(0, .agg #[vI s, vI y, vI l, vI m]), (1, .slice p S.length cp), (2, vI a), (3, vP b3 0), (6, .slice none 0 0), (7, .bool false), (8, vI 0), (9, vS g S.length S.length), (10, vI (n9 : Int)), (11, vI 0)]) ⟨rfl, rfl, rfl, rfl, rfl, rfl, rfl, rfl, rfl, rfl, trivial⟩ ?_
    refine WC.seq fun K11 hK11 => WC.region ?_
    refine WL.z (v := vS g S.length S.length) 21 ?_
    refine WL.z (v := vI (n9 : Int)) 22 ?_
    by_cases h23 : (n9 : Int) = 1
    ·
      refine WL.y (v := .bool true) 23 (x_eql rfl rfl rfl (dT (h23))) ?_
      refine WL.z (v := vI 0) 24 ?_
      refine WL.z (v := vS g S.length S.length) 6 ?_
      refine WL.z (v := .bool true) 7 ?_
      refine WL.z (v := vI 0) 8 ?_
      refine WL.nil (WQ.then (hK11 _ _ _ ?_))
      refine WC.sub (l' := [(0, .agg #[vI s, vI y, vI l, vI m]), (1, .slice p S.length cp), (2, vI a), (3, vP b3 0), (6, vS g S.length S.length), (7, .bool true), (8, vI 0), (9, vS g S.length S.length), (10, vI (n9 : Int)), (11, vI 0)]) ⟨rfl, rfl, rfl, rfl, rfl, rfl, rfl, rfl, rfl, rfl, trivial⟩ ?_
      refine WC.ret ?_
      refine WQ.ret3 6 7 8 rfl rfl rfl rfl ?_
      exact .inr ⟨by rw [← one_run]; exact hyes, some ⟨g, 0, none⟩, S.length, S2, by rw [show S2.length = S.length by rw [← stX_len S2, hX, run_length, stX_len], decide_eq_true (by omega)], by rw [hX]; rfl, in_cel (HP.get hH10 2 rfl) hR, HP.below hH10⟩
    ·
      refine WL.y (v := .bool false) 23 (x_eql rfl rfl rfl (dF (h23))) ?_
      refine WL.z (v := vI 0) 24 ?_
      refine WL.z (v := vS g S.length S.length) 6 ?_
      refine WL.z (v := .bool false) 7 ?_
      refine WL.z (v := vI 0) 8 ?_
      refine WL.nil (WQ.then (hK11 _ _ _ ?_))
      refine WC.sub (l' := [(0, .agg #[vI s, vI y, vI l, vI m]), (1, .slice p S.length cp), (2, vI a), (3, vP b3 0), (6, vS g S.length S.length), (7, .bool false), (8, vI 0), (9, vS g S.length S.length), (10, vI (n9 : Int)), (11, vI 0)]) ⟨rfl, rfl, rfl, rfl, rfl, rfl, rfl, rfl, rfl, rfl, trivial⟩ ?_
      refine WC.ret ?_
      refine WQ.ret3 6 7 8 rfl rfl rfl rfl ?_
      exact .inr ⟨by rw [← one_run]; exact hyes, some ⟨g, 0, none⟩, S.length, S2, by rw [show S2.length = S.length by rw [← stX_len S2, hX, run_length, stX_len], decide_eq_false (by omega)], by rw [hX]; rfl, in_cel (HP.get hH10 2 rfl) hR, HP.below hH10⟩
end Ca
end Go.Proofs.Ytmjnakhpekbenaa
namespace Go.Proofs.Ytmjnakhpekbenaa
open Go.RowKit Fw Go.ChangeShapes Go.WideShapes
namespace Ca
theorem addr_none {w : World} {a : Addr} {v : Value} (h : w.cell? a = some v) : a.spot = none := by
  unfold World.cell? at h
  cases hsp : a.spot with
  | none => rfl
  | some q => rw [hsp] at h; simp at h; split at h <;> simp at h
theorem cells83 : Try.prog.cellsOf 83 = 2 := by kernel_rfl
theorem bytes83 : Try.prog.bytesOf 83 = 16 := by kernel_rfl
/-- a table that came in -/
structure TbIn (w : World) (p : Option Addr) (t : List T2) : Prop where
  inn : InT w p t
  wi : ∀ q ∈ t, Wi q.1 ∧ Wi q.2
  len : t.length * 16 ≤ 140737488351232
theorem two_of {α : Type} : ∀ {l : List α}, l.length = 2 → ∃ a b, l = [a, b]
  | [a, b], _ => ⟨a, b, rfl⟩
theorem elemT {H : Type} {enc : TypeId × Value → H} {W : World} {k : Nat} {cs : List Value} {x : DataW H × List MemPlace} (h : DataW.trod enc Try.prog W 0 (fun _ => true) true k 83 cs = some x) : ∃ q : T2, cs = [vI q.1, vI q.2] ∧ Wi q.1 ∧ Wi q.2 := by
  obtain ⟨xs, m, rfl, rfl, hl, hxl, hall⟩ := DataW.trod_array Try.underlying83 h
  rw [cells83] at hl
  have c1 : Try.prog.cellsOf 3 = 1 := by kernel_rfl
  rw [c1] at hall
  obtain ⟨u, v, rfl⟩ := two_of hl
  have h0 := hall 0 (by omega)
  have h1 := hall 1 (by omega)
  simp only [Nat.zero_mul, List.drop_zero, Nat.one_mul, List.drop_succ_cons, List.take_succ_cons, List.take_zero] at h0 h1
  have g0 : ∃ y, DataW.trod enc Try.prog W 0 (fun _ => true) true m 3 [u] = some y := ⟨xs[0]'(by omega), by rw [h0]; simp⟩
  have g1 : ∃ y, DataW.trod enc Try.prog W 0 (fun _ => true) true m 3 [v] = some y := ⟨xs[1]'(by omega), by rw [h1]; simp⟩
  obtain ⟨y0, g0⟩ := g0
  obtain ⟨y1, g1⟩ := g1
  obtain ⟨a0, e0, -, w0⟩ := DataW.trod_int Try.underlying3 g0
  obtain ⟨a1, e1, -, w1⟩ := DataW.trod_int Try.underlying3 g1
  simp at e0 e1
  subst e0 e1
  exact ⟨(a0, a1), rfl, wi_of w0, wi_of w1⟩
theorem chooseT {m : Nat} {Q : Nat → T2 → Prop} (h : ∀ i, i < m → ∃ o, Q i o) : ∃ f : Nat → T2, ∀ i, i < m → Q i (f i) := by
  refine ⟨fun i => if hi : i < m then (h i hi).choose else (0, 0), fun i hi => ?_⟩
  simp only [hi, dif_pos]
  exact (h i hi).choose_spec
theorem rowsT {H : Type} {enc : TypeId × Value → H} {W : World} {p : Option Addr} {n cap : Nat} {d : DataW H} {pl : List MemPlace}
    (h : DataW.Trod enc Try.prog W 0 (fun _ => true) true 49 (.slice p n cap) d pl)
    (hz : ∀ elems spare, d = .slice elems spare → (elems.length + spare.length) * Try.prog.bytesOf 83 ≤ reachBytes) : ∃ t : List T2, n = t.length ∧ TbIn W p t := by
  obtain ⟨fuel, hf⟩ := h
  rcases Go.Deep.open_slice Try.underlying49 hf with ⟨hc, -⟩ | ⟨a, len, cap', m, k, D, Pl, hc, -, hl, hm, hmm, hx, hall⟩
  · simp [Value.cells] at hc
    obtain ⟨rfl, rfl, rfl⟩ := hc
    exact ⟨[], rfl, ⟨(fun h => absurd h (by simp)), (fun q h => by cases h), (by simp)⟩⟩
  · simp [Value.cells] at hc
    obtain ⟨rfl, rfl, rfl⟩ := hc
    simp only [if_true] at hmm
    simp only [Prod.mk.injEq] at hx
    have hz1 := hz _ _ hx.1
    rw [bytes83] at hz1
    simp only [List.length_map, List.length_range, reachBytes] at hz1
    have each : ∀ i, i < m → ∃ q : T2, (W.cell? (a.add (i * 2)) = some (vI q.1) ∧ W.cell? ((a.add (i * 2)).add 1) = some (vI q.2)) ∧ Wi q.1 ∧ Wi q.2 := by
      intro i hi
      obtain ⟨cs', h1, h2⟩ := hall i hi
      rw [cells83] at h1
      obtain ⟨q, rfl, w0, w1⟩ := elemT h2
      obtain ⟨_, hlen, hcell⟩ := World.cells?_some h1
      have e0 := hcell 0 (by omega)
      rw [show (a.add (i * 2)).add 0 = a.add (i * 2) by unfold Addr.add; simp] at e0
      exact ⟨q, ⟨by simpa using e0, by simpa using hcell 1 (by omega)⟩, w0, w1⟩
    obtain ⟨f, hf⟩ := chooseT each
    have hat : ∀ i, i < n → ((List.range n).map f).getD i (0, 0) = f i := fun i hi => by simp [List.getD_eq_getElem?_getD, hi]
    refine ⟨(List.range n).map f, by simp, ⟨fun h0 => ?_, fun q hq => ?_, by simp; omega⟩⟩
    · have hn0 : 0 < n := by simpa using h0
      have g0 := (hf 0 (by omega)).1.1
      rw [Nat.zero_mul] at g0
      have hsp := addr_none g0
      obtain ⟨b, o, sp⟩ := a
      have hsp2 : sp = none := by
        have e : ((⟨b, o, sp⟩ : Addr).add 0).spot = sp := by unfold Addr.add; split <;> simp_all
        rw [e] at hsp; exact hsp
      subst hsp2
      refine ⟨b, o, rfl, fun i hi j v hv => ?_⟩
      have hi : i < n := by simpa using hi
      obtain ⟨⟨e0, e1⟩, -⟩ := hf i (by omega)
      rw [hat i hi] at hv
      simp only [hadd] at e0 e1
      match j, hv with
      | 0, hv => simp at hv; subst hv; exact e0
      | 1, hv => simp at hv; subst hv; exact e1
      | j + 2, hv => simp at hv
    · obtain ⟨i, hi, rfl⟩ := List.mem_map.1 hq
      exact (hf i (by have := List.mem_range.1 hi; omega)).2
end Ca
end Go.Proofs.Ytmjnakhpekbenaa
namespace Go.Proofs.Ytmjnakhpekbenaa
open Go.RowKit Go.Sort Go.Great
namespace Ec
structure Hid (p : Prop) : Prop where
  out : p
theorem hide {p : Prop} (h : p) : Hid p := ⟨h⟩
def tbl : Array Value := #[.string ⟨#[110, 111, 112]⟩, .int .i64 0, .int .i64 0, .int .i64 1, .string ⟨#[112, 117, 115, 104]⟩, .int .i64 1, .int .i64 0, .int .i64 1, .string ⟨#[108, 111, 97, 100]⟩, .int .i64 2, .int .i64 0, .int .i64 1, .string ⟨#[115, 116, 111, 114, 101]⟩, .int .i64 2, .int .i64 0, .int .i64 1, .string ⟨#[100, 114, 111, 112]⟩, .int .i64 0, .int .i64 0, .int .i64 1, .string ⟨#[100, 117, 112]⟩, .int .i64 0, .int .i64 0, .int .i64 1, .string ⟨#[97, 100, 100]⟩, .int .i64 0, .int .i64 0, .int .i64 1, .string ⟨#[115, 117, 98]⟩, .int .i64 0, .int .i64 0, .int .i64 1, .string ⟨#[109, 117, 108]⟩, .int .i64 0, .int .i64 0, .int .i64 3, .string ⟨#[100, 105, 118]⟩, .int .i64 0, .int .i64 0, .int .i64 8, .string ⟨#[108, 101, 115, 115]⟩, .int .i64 0, .int .i64 0, .int .i64 1, .string ⟨#[115, 97, 109, 101]⟩, .int .i64 0, .int .i64 0, .int .i64 1, .string ⟨#[110, 117, 108, 108]⟩, .int .i64 3, .int .i64 4, .int .i64 1, .string ⟨#[105, 115, 110, 117, 108, 108]⟩, .int .i64 0, .int .i64 0, .int .i64 1, .string ⟨#[110, 101, 119]⟩, .int .i64 4, .int .i64 0, .int .i64 12, .string ⟨#[110, 101, 119, 105, 110, 116, 115]⟩, .int .i64 5, .int .i64 0, .int .i64 4, .string ⟨#[110, 101, 119, 114, 101, 102, 115]⟩, .int .i64 5, .int .i64 4, .int .i64 4, .string ⟨#[103, 101, 116]⟩, .int .i64 6, .int .i64 0, .int .i64 2, .string ⟨#[112, 117, 116]⟩, .int .i64 6, .int .i64 0, .int .i64 3, .string ⟨#[101, 108, 101, 109]⟩, .int .i64 0, .int .i64 0, .int .i64 3, .string ⟨#[115, 101, 116, 101, 108, 101, 109]⟩, .int .i64 0, .int .i64 0, .int .i64 4, .string ⟨#[108, 101, 110]⟩, .int .i64 0, .int .i64 0, .int .i64 2, .string ⟨#[115, 116, 97, 116, 105, 99]⟩, .int .i64 7, .int .i64 0, .int .i64 2, .string ⟨#[115, 101, 116, 115, 116, 97, 116, 105, 99]⟩, .int .i64 7, .int .i64 0, .int .i64 3, .string ⟨#[99, 97, 115, 116]⟩, .int .i64 4, .int .i64 0, .int .i64 2, .string ⟨#[99, 97, 108, 108]⟩, .int .i64 8, .int .i64 0, .int .i64 4, .string ⟨#[115, 101, 110, 100]⟩, .int .i64 9, .int .i64 0, .int .i64 6, .string ⟨#[101, 109, 105, 116]⟩, .int .i64 10, .int .i64 0, .int .i64 2, .string ⟨#[116, 104, 114, 111, 119]⟩, .int .i64 11, .int .i64 0, .int .i64 3, .string ⟨#[105, 102]⟩, .int .i64 0, .int .i64 0, .int .i64 1, .string ⟨#[108, 111, 111, 112]⟩, .int .i64 12, .int .i64 2, .int .i64 2, .string ⟨#[108, 111, 99, 107]⟩, .int .i64 13, .int .i64 0, .int .i64 2, .string ⟨#[115, 99, 111, 112, 101]⟩, .int .i64 14, .int .i64 0, .int .i64 4, .string ⟨#[116, 114, 121]⟩, .int .i64 0, .int .i64 0, .int .i64 2, .string ⟨#[101, 108, 115, 101]⟩, .int .i64 0, .int .i64 0, .int .i64 1, .string ⟨#[101, 110, 100]⟩, .int .i64 0, .int .i64 0, .int .i64 1]
theorem tbl_size : tbl.size = 144 := by rfl
theorem tbl_one : tbl.all (·.oneCell') = true := by kernel_rfl
set_option maxRecDepth 100000 in
theorem zeroT : ∃ z : Array Value, z.size = 144 ∧ ∀ w : World, (zeroValue 165).run Try.prog w = .ok (.agg z) w := ⟨#[.string ByteArray.empty, .int .i64 0, .int .i64 0, .int .i64 0, .string ByteArray.empty, .int .i64 0, .int .i64 0, .int .i64 0, .string ByteArray.empty, .int .i64 0, .int .i64 0, .int .i64 0, .string ByteArray.empty, .int .i64 0, .int .i64 0, .int .i64 0, .string ByteArray.empty, .int .i64 0, .int .i64 0, .int .i64 0, .string ByteArray.empty, .int .i64 0, .int .i64 0, .int .i64 0, .string ByteArray.empty, .int .i64 0, .int .i64 0, .int .i64 0, .string ByteArray.empty, .int .i64 0, .int .i64 0, .int .i64 0, .string ByteArray.empty, .int .i64 0, .int .i64 0, .int .i64 0, .string ByteArray.empty, .int .i64 0, .int .i64 0, .int .i64 0, .string ByteArray.empty, .int .i64 0, .int .i64 0, .int .i64 0, .string ByteArray.empty, .int .i64 0, .int .i64 0, .int .i64 0, .string ByteArray.empty, .int .i64 0, .int .i64 0, .int .i64 0, .string ByteArray.empty, .int .i64 0, .int .i64 0, .int .i64 0, .string ByteArray.empty, .int .i64 0, .int .i64 0, .int .i64 0, .string ByteArray.empty, .int .i64 0, .int .i64 0, .int .i64 0, .string ByteArray.empty, .int .i64 0, .int .i64 0, .int .i64 0, .string ByteArray.empty, .int .i64 0, .int .i64 0, .int .i64 0, .string ByteArray.empty, .int .i64 0, .int .i64 0, .int .i64 0, .string ByteArray.empty, .int .i64 0, .int .i64 0, .int .i64 0, .string ByteArray.empty, .int .i64 0, .int .i64 0, .int .i64 0, .string ByteArray.empty, .int .i64 0, .int .i64 0, .int .i64 0, .string ByteArray.empty, .int .i64 0, .int .i64 0, .int .i64 0, .string ByteArray.empty, .int .i64 0, .int .i64 0, .int .i64 0, .string ByteArray.empty, .int .i64 0, .int .i64 0, .int .i64 0, .string ByteArray.empty, .int .i64 0, .int .i64 0, .int .i64 0, .string ByteArray.empty, .int .i64 0, .int .i64 0, .int .i64 0, .string ByteArray.empty, .int .i64 0, .int .i64 0, .int .i64 0, .string ByteArray.empty, .int .i64 0, .int .i64 0, .int .i64 0, .string ByteArray.empty, .int .i64 0, .int .i64 0, .int .i64 0, .string ByteArray.empty, .int .i64 0, .int .i64 0, .int .i64 0, .string ByteArray.empty, .int .i64 0, .int .i64 0, .int .i64 0, .string ByteArray.empty, .int .i64 0, .int .i64 0, .int .i64 0, .string ByteArray.empty, .int .i64 0, .int .i64 0, .int .i64 0, .string ByteArray.empty, .int .i64 0, .int .i64 0, .int .i64 0, .string ByteArray.empty, .int .i64 0, .int .i64 0, .int .i64 0], by rfl, fun w => by kernel_rfl⟩
theorem size73 : (Try.prog.info? 165).map (·.size) = some 144 := by kernel_rfl
theorem setRow_alloc (w : World) (z cs : Array Value) (T : TypeId) : (w.alloc (.cells z T)).setRow w.heap.size cs = w.alloc (.cells cs T) := by
  unfold World.setRow World.alloc
  congr 1
  apply Array.ext
  · simp
  · intro i h1 h2
    simp only [Array.getElem_modify]
    split
    · rename_i hk
      subst hk
      simp
    · simp only [Array.getElem_push]
      split
      · rfl
      · simp at h1; omega
section
attribute [local irreducible] wpList Code.wp tbl
set_option maxRecDepth 100000 in
set_option maxHeartbeats 4000000 in
theorem table_any (w : World) : Calls Try.prog 139 #[] w fun e w' => e = .returned (.agg tbl) ∧ Below w.heap.size w w' := by
  obtain ⟨z, hz1, hz⟩ := zeroT
  go_enter Try.func139, Try.ntmps139
  apply wp_seq_k
  intro K0 hK0
  apply wp_region_lit
  refine wpList_allocTo rfl (some 0) rfl (.pointer (some ⟨w.heap.size, 0, none⟩)) (.cells z 165) (by simp [execOp, Instr.alloc, hz, go_sem]) ?_
  apply wpList_nil
  refine hK0 _ _ ?_
  clear hK0 K0
  apply wp_seq_k
  intro K0 hK0
  apply wp_region_lit
  refine wpList_buildTo rfl 155 _ rfl (some 1) rfl #[.string ⟨#[110, 111, 112]⟩, .int .i64 0, .int .i64 0, .int .i64 1] (by as_aux_lemma => kernel_rfl) ?_
  refine wpList_buildTo rfl 155 _ rfl (some 2) rfl #[.string ⟨#[112, 117, 115, 104]⟩, .int .i64 1, .int .i64 0, .int .i64 1] (by as_aux_lemma => kernel_rfl) ?_
  refine wpList_buildTo rfl 155 _ rfl (some 3) rfl #[.string ⟨#[108, 111, 97, 100]⟩, .int .i64 2, .int .i64 0, .int .i64 1] (by as_aux_lemma => kernel_rfl) ?_
  refine wpList_buildTo rfl 155 _ rfl (some 4) rfl #[.string ⟨#[115, 116, 111, 114, 101]⟩, .int .i64 2, .int .i64 0, .int .i64 1] (by as_aux_lemma => kernel_rfl) ?_
  refine wpList_buildTo rfl 155 _ rfl (some 5) rfl #[.string ⟨#[100, 114, 111, 112]⟩, .int .i64 0, .int .i64 0, .int .i64 1] (by as_aux_lemma => kernel_rfl) ?_
  refine wpList_buildTo rfl 155 _ rfl (some 6) rfl #[.string ⟨#[100, 117, 112]⟩, .int .i64 0, .int .i64 0, .int .i64 1] (by as_aux_lemma => kernel_rfl) ?_
  refine wpList_buildTo rfl 155 _ rfl (some 7) rfl #[.string ⟨#[97, 100, 100]⟩, .int .i64 0, .int .i64 0, .int .i64 1] (by as_aux_lemma => kernel_rfl) ?_
  refine wpList_buildTo rfl 155 _ rfl (some 8) rfl #[.string ⟨#[115, 117, 98]⟩, .int .i64 0, .int .i64 0, .int .i64 1] (by as_aux_lemma => kernel_rfl) ?_
  refine wpList_buildTo rfl 155 _ rfl (some 9) rfl #[.string ⟨#[109, 117, 108]⟩, .int .i64 0, .int .i64 0, .int .i64 3] (by as_aux_lemma => kernel_rfl) ?_
  refine wpList_buildTo rfl 155 _ rfl (some 10) rfl #[.string ⟨#[100, 105, 118]⟩, .int .i64 0, .int .i64 0, .int .i64 8] (by as_aux_lemma => kernel_rfl) ?_
  refine wpList_buildTo rfl 155 _ rfl (some 11) rfl #[.string ⟨#[108, 101, 115, 115]⟩, .int .i64 0, .int .i64 0, .int .i64 1] (by as_aux_lemma => kernel_rfl) ?_
  refine wpList_buildTo rfl 155 _ rfl (some 12) rfl #[.string ⟨#[115, 97, 109, 101]⟩, .int .i64 0, .int .i64 0, .int .i64 1] (by as_aux_lemma => kernel_rfl) ?_
  refine wpList_buildTo rfl 155 _ rfl (some 13) rfl #[.string ⟨#[110, 117, 108, 108]⟩, .int .i64 3, .int .i64 4, .int .i64 1] (by as_aux_lemma => kernel_rfl) ?_
  refine wpList_buildTo rfl 155 _ rfl (some 14) rfl #[.string ⟨#[105, 115, 110, 117, 108, 108]⟩, .int .i64 0, .int .i64 0, .int .i64 1] (by as_aux_lemma => kernel_rfl) ?_
  refine wpList_buildTo rfl 155 _ rfl (some 15) rfl #[.string ⟨#[110, 101, 119]⟩, .int .i64 4, .int .i64 0, .int .i64 12] (by as_aux_lemma => kernel_rfl) ?_
  refine wpList_buildTo rfl 155 _ rfl (some 16) rfl #[.string ⟨#[110, 101, 119, 105, 110, 116, 115]⟩, .int .i64 5, .int .i64 0, .int .i64 4] (by as_aux_lemma => kernel_rfl) ?_
  refine wpList_buildTo rfl 155 _ rfl (some 17) rfl #[.string ⟨#[110, 101, 119, 114, 101, 102, 115]⟩, .int .i64 5, .int .i64 4, .int .i64 4] (by as_aux_lemma => kernel_rfl) ?_
  refine wpList_buildTo rfl 155 _ rfl (some 18) rfl #[.string ⟨#[103, 101, 116]⟩, .int .i64 6, .int .i64 0, .int .i64 2] (by as_aux_lemma => kernel_rfl) ?_
  refine wpList_buildTo rfl 155 _ rfl (some 19) rfl #[.string ⟨#[112, 117, 116]⟩, .int .i64 6, .int .i64 0, .int .i64 3] (by as_aux_lemma => kernel_rfl) ?_
  refine wpList_buildTo rfl 155 _ rfl (some 20) rfl #[.string ⟨#[101, 108, 101, 109]⟩, .int .i64 0, .int .i64 0, .int .i64 3] (by as_aux_lemma => kernel_rfl) ?_
  refine wpList_buildTo rfl 155 _ rfl (some 21) rfl #[.string ⟨#[115, 101, 116, 101, 108, 101, 109]⟩, .int .i64 0, .int .i64 0, .int .i64 4] (by as_aux_lemma => kernel_rfl) ?_
  refine wpList_buildTo rfl 155 _ rfl (some 22) rfl #[.string ⟨#[108, 101, 110]⟩, .int .i64 0, .int .i64 0, .int .i64 2] (by as_aux_lemma => kernel_rfl) ?_
  refine wpList_buildTo rfl 155 _ rfl (some 23) rfl #[.string ⟨#[115, 116, 97, 116, 105, 99]⟩, .int .i64 7, .int .i64 0, .int .i64 2] (by as_aux_lemma => kernel_rfl) ?_
  refine wpList_buildTo rfl 155 _ rfl (some 24) rfl #[.string ⟨#[115, 101, 116, 115, 116, 97, 116, 105, 99]⟩, .int .i64 7, .int .i64 0, .int .i64 3] (by as_aux_lemma => kernel_rfl) ?_
  refine wpList_buildTo rfl 155 _ rfl (some 25) rfl #[.string ⟨#[99, 97, 115, 116]⟩, .int .i64 4, .int .i64 0, .int .i64 2] (by as_aux_lemma => kernel_rfl) ?_
  refine wpList_buildTo rfl 155 _ rfl (some 26) rfl #[.string ⟨#[99, 97, 108, 108]⟩, .int .i64 8, .int .i64 0, .int .i64 4] (by as_aux_lemma => kernel_rfl) ?_
  refine wpList_buildTo rfl 155 _ rfl (some 27) rfl #[.string ⟨#[115, 101, 110, 100]⟩, .int .i64 9, .int .i64 0, .int .i64 6] (by as_aux_lemma => kernel_rfl) ?_
  refine wpList_buildTo rfl 155 _ rfl (some 28) rfl #[.string ⟨#[101, 109, 105, 116]⟩, .int .i64 10, .int .i64 0, .int .i64 2] (by as_aux_lemma => kernel_rfl) ?_
  refine wpList_buildTo rfl 155 _ rfl (some 29) rfl #[.string ⟨#[116, 104, 114, 111, 119]⟩, .int .i64 11, .int .i64 0, .int .i64 3] (by as_aux_lemma => kernel_rfl) ?_
  refine wpList_buildTo rfl 155 _ rfl (some 30) rfl #[.string ⟨#[105, 102]⟩, .int .i64 0, .int .i64 0, .int .i64 1] (by as_aux_lemma => kernel_rfl) ?_
  refine wpList_buildTo rfl 155 _ rfl (some 31) rfl #[.string ⟨#[108, 111, 111, 112]⟩, .int .i64 12, .int .i64 2, .int .i64 2] (by as_aux_lemma => kernel_rfl) ?_
  refine wpList_buildTo rfl 155 _ rfl (some 32) rfl #[.string ⟨#[108, 111, 99, 107]⟩, .int .i64 13, .int .i64 0, .int .i64 2] (by as_aux_lemma => kernel_rfl) ?_
  refine wpList_buildTo rfl 155 _ rfl (some 33) rfl #[.string ⟨#[115, 99, 111, 112, 101]⟩, .int .i64 14, .int .i64 0, .int .i64 4] (by as_aux_lemma => kernel_rfl) ?_
  refine wpList_buildTo rfl 155 _ rfl (some 34) rfl #[.string ⟨#[116, 114, 121]⟩, .int .i64 0, .int .i64 0, .int .i64 2] (by as_aux_lemma => kernel_rfl) ?_
  refine wpList_buildTo rfl 155 _ rfl (some 35) rfl #[.string ⟨#[101, 108, 115, 101]⟩, .int .i64 0, .int .i64 0, .int .i64 1] (by as_aux_lemma => kernel_rfl) ?_
  refine wpList_buildTo rfl 155 _ rfl (some 36) rfl #[.string ⟨#[101, 110, 100]⟩, .int .i64 0, .int .i64 0, .int .i64 1] (by as_aux_lemma => kernel_rfl) ?_
  refine wpList_buildTo rfl 165 _ rfl (some 37) rfl tbl (by as_aux_lemma => kernel_rfl) ?_
  refine wpList_store_row rfl 165 _ _ rfl w.heap.size tbl (by as_aux_lemma => kernel_rfl) (by as_aux_lemma => kernel_rfl) 165 z (heap_alloc_new w _) (by rw [tbl_size]; exact size73) (by rw [hz1, tbl_size]) tbl_one ?_
  apply wpList_nil
  refine hK0 _ _ ?_
  clear hK0 K0
  rw [setRow_alloc]
  refine wp_ret ?_
  exact bodyPost_ret (v := .agg tbl) (results_cell_row rfl _ _ w.heap.size 165 tbl (0, 0) _ (by as_aux_lemma => kernel_rfl) (heap_alloc_new w _) Try.underlying165 rfl (by rw [tbl_size]; exact size73)) rfl ⟨rfl, (Below.refl _ _).alloc (Nat.le_refl _) _⟩
end
/-- an operation: its name, the ranges of its operands, its cost -/
structure Sp where
  n : ByteArray
  a : Int
  b : Int
  c : Int
def sps : Array Sp := #[⟨⟨#[110, 111, 112]⟩, 0, 0, 1⟩, ⟨⟨#[112, 117, 115, 104]⟩, 1, 0, 1⟩, ⟨⟨#[108, 111, 97, 100]⟩, 2, 0, 1⟩, ⟨⟨#[115, 116, 111, 114, 101]⟩, 2, 0, 1⟩, ⟨⟨#[100, 114, 111, 112]⟩, 0, 0, 1⟩, ⟨⟨#[100, 117, 112]⟩, 0, 0, 1⟩, ⟨⟨#[97, 100, 100]⟩, 0, 0, 1⟩, ⟨⟨#[115, 117, 98]⟩, 0, 0, 1⟩, ⟨⟨#[109, 117, 108]⟩, 0, 0, 3⟩, ⟨⟨#[100, 105, 118]⟩, 0, 0, 8⟩, ⟨⟨#[108, 101, 115, 115]⟩, 0, 0, 1⟩, ⟨⟨#[115, 97, 109, 101]⟩, 0, 0, 1⟩, ⟨⟨#[110, 117, 108, 108]⟩, 3, 4, 1⟩, ⟨⟨#[105, 115, 110, 117, 108, 108]⟩, 0, 0, 1⟩, ⟨⟨#[110, 101, 119]⟩, 4, 0, 12⟩, ⟨⟨#[110, 101, 119, 105, 110, 116, 115]⟩, 5, 0, 4⟩, ⟨⟨#[110, 101, 119, 114, 101, 102, 115]⟩, 5, 4, 4⟩, ⟨⟨#[103, 101, 116]⟩, 6, 0, 2⟩, ⟨⟨#[112, 117, 116]⟩, 6, 0, 3⟩, ⟨⟨#[101, 108, 101, 109]⟩, 0, 0, 3⟩, ⟨⟨#[115, 101, 116, 101, 108, 101, 109]⟩, 0, 0, 4⟩, ⟨⟨#[108, 101, 110]⟩, 0, 0, 2⟩, ⟨⟨#[115, 116, 97, 116, 105, 99]⟩, 7, 0, 2⟩, ⟨⟨#[115, 101, 116, 115, 116, 97, 116, 105, 99]⟩, 7, 0, 3⟩, ⟨⟨#[99, 97, 115, 116]⟩, 4, 0, 2⟩, ⟨⟨#[99, 97, 108, 108]⟩, 8, 0, 4⟩, ⟨⟨#[115, 101, 110, 100]⟩, 9, 0, 6⟩, ⟨⟨#[101, 109, 105, 116]⟩, 10, 0, 2⟩, ⟨⟨#[116, 104, 114, 111, 119]⟩, 11, 0, 3⟩, ⟨⟨#[105, 102]⟩, 0, 0, 1⟩, ⟨⟨#[108, 111, 111, 112]⟩, 12, 2, 2⟩, ⟨⟨#[108, 111, 99, 107]⟩, 13, 0, 2⟩, ⟨⟨#[115, 99, 111, 112, 101]⟩, 14, 0, 4⟩, ⟨⟨#[116, 114, 121]⟩, 0, 0, 2⟩, ⟨⟨#[101, 108, 115, 101]⟩, 0, 0, 1⟩, ⟨⟨#[101, 110, 100]⟩, 0, 0, 1⟩]
def sp (k : Nat) : Sp := sps[k]?.getD ⟨⟨#[]⟩, 0, 0, 0⟩
set_option maxRecDepth 100000 in
theorem tbl_at : ∀ k, k < 36 → tbl[k * 4]? = some (.string (sp k).n) ∧ tbl[k * 4 + 1]? = some (.int .i64 (sp k).a) ∧ tbl[k * 4 + 2]? = some (.int .i64 (sp k).b) ∧ tbl[k * 4 + 3]? = some (.int .i64 (sp k).c)
  | 0, _ => ⟨by rfl, by rfl, by rfl, by rfl⟩
  | 1, _ => ⟨by rfl, by rfl, by rfl, by rfl⟩
  | 2, _ => ⟨by rfl, by rfl, by rfl, by rfl⟩
  | 3, _ => ⟨by rfl, by rfl, by rfl, by rfl⟩
  | 4, _ => ⟨by rfl, by rfl, by rfl, by rfl⟩
  | 5, _ => ⟨by rfl, by rfl, by rfl, by rfl⟩
  | 6, _ => ⟨by rfl, by rfl, by rfl, by rfl⟩
  | 7, _ => ⟨by rfl, by rfl, by rfl, by rfl⟩
  | 8, _ => ⟨by rfl, by rfl, by rfl, by rfl⟩
  | 9, _ => ⟨by rfl, by rfl, by rfl, by rfl⟩
  | 10, _ => ⟨by rfl, by rfl, by rfl, by rfl⟩
  | 11, _ => ⟨by rfl, by rfl, by rfl, by rfl⟩
  | 12, _ => ⟨by rfl, by rfl, by rfl, by rfl⟩
  | 13, _ => ⟨by rfl, by rfl, by rfl, by rfl⟩
  | 14, _ => ⟨by rfl, by rfl, by rfl, by rfl⟩
  | 15, _ => ⟨by rfl, by rfl, by rfl, by rfl⟩
  | 16, _ => ⟨by rfl, by rfl, by rfl, by rfl⟩
  | 17, _ => ⟨by rfl, by rfl, by rfl, by rfl⟩
  | 18, _ => ⟨by rfl, by rfl, by rfl, by rfl⟩
  | 19, _ => ⟨by rfl, by rfl, by rfl, by rfl⟩
  | 20, _ => ⟨by rfl, by rfl, by rfl, by rfl⟩
  | 21, _ => ⟨by rfl, by rfl, by rfl, by rfl⟩
  | 22, _ => ⟨by rfl, by rfl, by rfl, by rfl⟩
  | 23, _ => ⟨by rfl, by rfl, by rfl, by rfl⟩
  | 24, _ => ⟨by rfl, by rfl, by rfl, by rfl⟩
  | 25, _ => ⟨by rfl, by rfl, by rfl, by rfl⟩
  | 26, _ => ⟨by rfl, by rfl, by rfl, by rfl⟩
  | 27, _ => ⟨by rfl, by rfl, by rfl, by rfl⟩
  | 28, _ => ⟨by rfl, by rfl, by rfl, by rfl⟩
  | 29, _ => ⟨by rfl, by rfl, by rfl, by rfl⟩
  | 30, _ => ⟨by rfl, by rfl, by rfl, by rfl⟩
  | 31, _ => ⟨by rfl, by rfl, by rfl, by rfl⟩
  | 32, _ => ⟨by rfl, by rfl, by rfl, by rfl⟩
  | 33, _ => ⟨by rfl, by rfl, by rfl, by rfl⟩
  | 34, _ => ⟨by rfl, by rfl, by rfl, by rfl⟩
  | 35, _ => ⟨by rfl, by rfl, by rfl, by rfl⟩
  | n + 36, h => absurd h (by omega)
set_option maxRecDepth 100000 in
set_option maxHeartbeats 4000000 in
theorem known_ok (k : Nat) (hk : k < 36) (w : World) :
    Calls Try.prog 131 #[.int .i64 (k : Int)] w fun e w' => e = .returned (.tuple #[.agg #[.string (sp k).n, .int .i64 (sp k).a, .int .i64 (sp k).b, .int .i64 (sp k).c], .bool true]) ∧ Below w.heap.size w w' := by
  obtain ⟨z, hz1, hz⟩ := zeroT
  have Hz := hide hz1
  clear hz1
  obtain ⟨t0, t1, t2, t3⟩ := tbl_at k hk
  have k1 : ¬ ((k : Int) < 0) := by omega
  have k2 : (k : Int) < 36 := by omega
  have k3 : ¬ (36 ≤ (k : Int)) := by omega
  go_enter Try.func131, Try.ntmps131
  go_wp2_with fail
  refine (table_any _).mono ?_
  rintro e w1 ⟨rfl, hb⟩
  have hz1 : w.heap.size + 1 ≤ w1.heap.size := by have := hb.size; simpa using this
  have c0 : w1.cell? ⟨w.heap.size, 0, none⟩ = some (.string ⟨#[]⟩) := by rw [hb.cell (by simp)]; simp
  have c1 : w1.cell? ⟨w.heap.size, 1, none⟩ = some (.int .i64 0) := by rw [hb.cell (by simp)]; simp
  have c2 : w1.cell? ⟨w.heap.size, 2, none⟩ = some (.int .i64 0) := by rw [hb.cell (by simp)]; simp
  have c3 : w1.cell? ⟨w.heap.size, 3, none⟩ = some (.int .i64 0) := by rw [hb.cell (by simp)]; simp
  have f0 : ∀ j, w1.frozen? ⟨w.heap.size, j, none⟩ = false := fun j => by rw [hb.frozen (by simp)]; simp
  have g0 := f0 0
  have g1 := f0 1
  have g2 := f0 2
  have g3 := f0 3
  have hlt : w.heap.size < w1.heap.size := by omega
  have hne : ¬ (w.heap.size = w1.heap.size) := by omega
  have hne2 : ¬ (w1.heap.size = w.heap.size) := by omega
  clear f0
  have hb1 : Below w.heap.size w w1 := Below.trans (by go_grown) (hb.mono (by simp))
  clear hb
  go_wp2_with (refine wpList_store_row rfl 165 _ _ rfl w1.heap.size tbl (by rfl) (by rfl) 165 z (heap_alloc_new w1 _) (by rw [tbl_size]; exact size73) (by rw [Hz.out, tbl_size]) tbl_one ?_; rw [setRow_alloc])
  trace_state
  refine bodyPost_ret (v := .tuple #[.agg #[.string (sp k).n, .int .i64 (sp k).a, .int .i64 (sp k).b, .int .i64 (sp k).c], .bool true]) (by simp [results, Try.results131, go_sem, c0, c1, c2, c3, hlt, hne, hne2]) rfl ⟨rfl, by go_grown⟩
end Ec
end Go.Proofs.Ytmjnakhpekbenaa
namespace Go.Proofs.Ytmjnakhpekbenaa
open Go.RowKit Go.Sort
namespace Ec
set_option maxRecDepth 100000 in
set_option maxHeartbeats 4000000 in
theorem known_bad (op : Int) (hk : op < 0 ∨ (0 ≤ op ∧ 36 ≤ op)) (w : World) :
    Calls Try.prog 131 #[.int .i64 op] w fun e w' => e = .returned (.tuple #[.agg #[.string ⟨#[]⟩, .int .i64 0, .int .i64 0, .int .i64 0], .bool false]) ∧ Below w.heap.size w w' := by
  obtain ⟨z, hz1, hz⟩ := zeroT
  have Hz := hide hz1
  clear hz1
  rcases hk with hk | ⟨hk, hk2⟩
  all_goals
    go_enter Try.func131, Try.ntmps131
    go_wp2_with fail
    refine (table_any _).mono ?_
    rintro e w1 ⟨rfl, hb⟩
    have hz1 : w.heap.size + 1 ≤ w1.heap.size := by have := hb.size; simpa using this
    have c0 : w1.cell? ⟨w.heap.size, 0, none⟩ = some (.string ⟨#[]⟩) := by rw [hb.cell (by simp)]; simp
    have c1 : w1.cell? ⟨w.heap.size, 1, none⟩ = some (.int .i64 0) := by rw [hb.cell (by simp)]; simp
    have c2 : w1.cell? ⟨w.heap.size, 2, none⟩ = some (.int .i64 0) := by rw [hb.cell (by simp)]; simp
    have c3 : w1.cell? ⟨w.heap.size, 3, none⟩ = some (.int .i64 0) := by rw [hb.cell (by simp)]; simp
    have f0 : ∀ j, w1.frozen? ⟨w.heap.size, j, none⟩ = false := fun j => by rw [hb.frozen (by simp)]; simp
    have g0 := f0 0
    have g1 := f0 1
    have g2 := f0 2
    have g3 := f0 3
    have hlt : w.heap.size < w1.heap.size := by omega
    have hne : ¬ (w.heap.size = w1.heap.size) := by omega
    have hne2 : ¬ (w1.heap.size = w.heap.size) := by omega
    clear f0
    have hb1 : Below w.heap.size w w1 := Below.trans (by go_grown) (hb.mono (by simp))
    clear hb
    go_wp2_with (refine wpList_store_row rfl 165 _ _ rfl w1.heap.size tbl (by rfl) (by rfl) 165 z (heap_alloc_new w1 _) (by rw [tbl_size]; exact size73) (by rw [Hz.out, tbl_size]) tbl_one ?_; rw [setRow_alloc])
    refine bodyPost_ret (v := .tuple #[.agg #[.string ⟨#[]⟩, .int .i64 0, .int .i64 0, .int .i64 0], .bool false]) (by simp [results, Try.results131, go_sem, c0, c1, c2, c3, hlt, hne, hne2]) rfl ⟨rfl, by go_grown⟩
def mosts (r : Int) : Int := if r = 2 then 9 else if r = 3 then 4 else if r = 4 then 9 else if r = 5 then 48 else if r = 6 then 6 else if r = 7 then 9 else if r = 8 then 15 else if r = 9 then 15 else if r = 10 then 3 else if r = 11 then 9 else if r = 12 then 50 else if r = 13 then 5 else if r = 14 then 24 else 0
def rng (n r : Int) (p : Bool) : Bool :=
  if r = 1 then decide (-2147483648 ≤ n) && decide (n ≤ 2147483647)
  else if r = 3 then decide (2 ≤ n) && decide (n ≤ 4)
  else if r = 14 then decide (1 ≤ n) && decide (n ≤ 24)
  else if p && (decide (r = 4) || decide (r = 6) || decide (r = 7) || decide (r = 8) || decide (r = 9)) then decide (0 ≤ n) && decide (n < 60)
  else decide (0 ≤ n) && decide (n ≤ mosts r)
theorem ix_0 (w : World) : (Instr.index 170 (.agg #[.int .i64 0, .int .i64 0, .int .i64 9, .int .i64 4, .int .i64 9, .int .i64 48, .int .i64 6, .int .i64 9, .int .i64 15, .int .i64 15, .int .i64 3, .int .i64 9, .int .i64 50, .int .i64 5, .int .i64 24]) (.int .i64 0)).run Try.prog w = .ok (.int .i64 0) w := by kernel_rfl
theorem most_0 (w : World) : Calls Try.prog 140 #[.int .i64 0] w fun e w' => e = .returned (.int .i64 0) ∧ w = w' := by
  have hx := ix_0
  go_enter Try.func140, Try.ntmps140
  go_wp2_with fail
  go_ret
  exact ⟨rfl, rfl⟩
theorem pools_0 (w : World) : Calls Try.prog 141 #[.int .i64 0] w fun e w' => e = .returned (.bool false) ∧ w = w' := by
  go_enter Try.func141, Try.ntmps141
  go_wp2_with fail
  go_ret
  exact ⟨rfl, rfl⟩
theorem ix_2 (w : World) : (Instr.index 170 (.agg #[.int .i64 0, .int .i64 0, .int .i64 9, .int .i64 4, .int .i64 9, .int .i64 48, .int .i64 6, .int .i64 9, .int .i64 15, .int .i64 15, .int .i64 3, .int .i64 9, .int .i64 50, .int .i64 5, .int .i64 24]) (.int .i64 2)).run Try.prog w = .ok (.int .i64 9) w := by kernel_rfl
theorem most_2 (w : World) : Calls Try.prog 140 #[.int .i64 2] w fun e w' => e = .returned (.int .i64 9) ∧ w = w' := by
  have hx := ix_2
  go_enter Try.func140, Try.ntmps140
  go_wp2_with fail
  go_ret
  exact ⟨rfl, rfl⟩
theorem pools_2 (w : World) : Calls Try.prog 141 #[.int .i64 2] w fun e w' => e = .returned (.bool false) ∧ w = w' := by
  go_enter Try.func141, Try.ntmps141
  go_wp2_with fail
  go_ret
  exact ⟨rfl, rfl⟩
theorem ix_4 (w : World) : (Instr.index 170 (.agg #[.int .i64 0, .int .i64 0, .int .i64 9, .int .i64 4, .int .i64 9, .int .i64 48, .int .i64 6, .int .i64 9, .int .i64 15, .int .i64 15, .int .i64 3, .int .i64 9, .int .i64 50, .int .i64 5, .int .i64 24]) (.int .i64 4)).run Try.prog w = .ok (.int .i64 9) w := by kernel_rfl
theorem most_4 (w : World) : Calls Try.prog 140 #[.int .i64 4] w fun e w' => e = .returned (.int .i64 9) ∧ w = w' := by
  have hx := ix_4
  go_enter Try.func140, Try.ntmps140
  go_wp2_with fail
  go_ret
  exact ⟨rfl, rfl⟩
theorem pools_4 (w : World) : Calls Try.prog 141 #[.int .i64 4] w fun e w' => e = .returned (.bool true) ∧ w = w' := by
  go_enter Try.func141, Try.ntmps141
  go_wp2_with fail
  go_ret
  exact ⟨rfl, rfl⟩
theorem ix_5 (w : World) : (Instr.index 170 (.agg #[.int .i64 0, .int .i64 0, .int .i64 9, .int .i64 4, .int .i64 9, .int .i64 48, .int .i64 6, .int .i64 9, .int .i64 15, .int .i64 15, .int .i64 3, .int .i64 9, .int .i64 50, .int .i64 5, .int .i64 24]) (.int .i64 5)).run Try.prog w = .ok (.int .i64 48) w := by kernel_rfl
theorem most_5 (w : World) : Calls Try.prog 140 #[.int .i64 5] w fun e w' => e = .returned (.int .i64 48) ∧ w = w' := by
  have hx := ix_5
  go_enter Try.func140, Try.ntmps140
  go_wp2_with fail
  go_ret
  exact ⟨rfl, rfl⟩
theorem pools_5 (w : World) : Calls Try.prog 141 #[.int .i64 5] w fun e w' => e = .returned (.bool false) ∧ w = w' := by
  go_enter Try.func141, Try.ntmps141
  go_wp2_with fail
  go_ret
  exact ⟨rfl, rfl⟩
theorem ix_6 (w : World) : (Instr.index 170 (.agg #[.int .i64 0, .int .i64 0, .int .i64 9, .int .i64 4, .int .i64 9, .int .i64 48, .int .i64 6, .int .i64 9, .int .i64 15, .int .i64 15, .int .i64 3, .int .i64 9, .int .i64 50, .int .i64 5, .int .i64 24]) (.int .i64 6)).run Try.prog w = .ok (.int .i64 6) w := by kernel_rfl
theorem most_6 (w : World) : Calls Try.prog 140 #[.int .i64 6] w fun e w' => e = .returned (.int .i64 6) ∧ w = w' := by
  have hx := ix_6
  go_enter Try.func140, Try.ntmps140
  go_wp2_with fail
  go_ret
  exact ⟨rfl, rfl⟩
theorem pools_6 (w : World) : Calls Try.prog 141 #[.int .i64 6] w fun e w' => e = .returned (.bool true) ∧ w = w' := by
  go_enter Try.func141, Try.ntmps141
  go_wp2_with fail
  go_ret
  exact ⟨rfl, rfl⟩
theorem ix_7 (w : World) : (Instr.index 170 (.agg #[.int .i64 0, .int .i64 0, .int .i64 9, .int .i64 4, .int .i64 9, .int .i64 48, .int .i64 6, .int .i64 9, .int .i64 15, .int .i64 15, .int .i64 3, .int .i64 9, .int .i64 50, .int .i64 5, .int .i64 24]) (.int .i64 7)).run Try.prog w = .ok (.int .i64 9) w := by kernel_rfl
theorem most_7 (w : World) : Calls Try.prog 140 #[.int .i64 7] w fun e w' => e = .returned (.int .i64 9) ∧ w = w' := by
  have hx := ix_7
  go_enter Try.func140, Try.ntmps140
  go_wp2_with fail
  go_ret
  exact ⟨rfl, rfl⟩
theorem pools_7 (w : World) : Calls Try.prog 141 #[.int .i64 7] w fun e w' => e = .returned (.bool true) ∧ w = w' := by
  go_enter Try.func141, Try.ntmps141
  go_wp2_with fail
  go_ret
  exact ⟨rfl, rfl⟩
theorem ix_8 (w : World) : (Instr.index 170 (.agg #[.int .i64 0, .int .i64 0, .int .i64 9, .int .i64 4, .int .i64 9, .int .i64 48, .int .i64 6, .int .i64 9, .int .i64 15, .int .i64 15, .int .i64 3, .int .i64 9, .int .i64 50, .int .i64 5, .int .i64 24]) (.int .i64 8)).run Try.prog w = .ok (.int .i64 15) w := by kernel_rfl
theorem most_8 (w : World) : Calls Try.prog 140 #[.int .i64 8] w fun e w' => e = .returned (.int .i64 15) ∧ w = w' := by
  have hx := ix_8
  go_enter Try.func140, Try.ntmps140
  go_wp2_with fail
  go_ret
  exact ⟨rfl, rfl⟩
theorem pools_8 (w : World) : Calls Try.prog 141 #[.int .i64 8] w fun e w' => e = .returned (.bool true) ∧ w = w' := by
  go_enter Try.func141, Try.ntmps141
  go_wp2_with fail
  go_ret
  exact ⟨rfl, rfl⟩
theorem ix_9 (w : World) : (Instr.index 170 (.agg #[.int .i64 0, .int .i64 0, .int .i64 9, .int .i64 4, .int .i64 9, .int .i64 48, .int .i64 6, .int .i64 9, .int .i64 15, .int .i64 15, .int .i64 3, .int .i64 9, .int .i64 50, .int .i64 5, .int .i64 24]) (.int .i64 9)).run Try.prog w = .ok (.int .i64 15) w := by kernel_rfl
theorem most_9 (w : World) : Calls Try.prog 140 #[.int .i64 9] w fun e w' => e = .returned (.int .i64 15) ∧ w = w' := by
  have hx := ix_9
  go_enter Try.func140, Try.ntmps140
  go_wp2_with fail
  go_ret
  exact ⟨rfl, rfl⟩
theorem pools_9 (w : World) : Calls Try.prog 141 #[.int .i64 9] w fun e w' => e = .returned (.bool true) ∧ w = w' := by
  go_enter Try.func141, Try.ntmps141
  go_wp2_with fail
  go_ret
  exact ⟨rfl, rfl⟩
theorem ix_10 (w : World) : (Instr.index 170 (.agg #[.int .i64 0, .int .i64 0, .int .i64 9, .int .i64 4, .int .i64 9, .int .i64 48, .int .i64 6, .int .i64 9, .int .i64 15, .int .i64 15, .int .i64 3, .int .i64 9, .int .i64 50, .int .i64 5, .int .i64 24]) (.int .i64 10)).run Try.prog w = .ok (.int .i64 3) w := by kernel_rfl
theorem most_10 (w : World) : Calls Try.prog 140 #[.int .i64 10] w fun e w' => e = .returned (.int .i64 3) ∧ w = w' := by
  have hx := ix_10
  go_enter Try.func140, Try.ntmps140
  go_wp2_with fail
  go_ret
  exact ⟨rfl, rfl⟩
theorem pools_10 (w : World) : Calls Try.prog 141 #[.int .i64 10] w fun e w' => e = .returned (.bool false) ∧ w = w' := by
  go_enter Try.func141, Try.ntmps141
  go_wp2_with fail
  go_ret
  exact ⟨rfl, rfl⟩
theorem ix_11 (w : World) : (Instr.index 170 (.agg #[.int .i64 0, .int .i64 0, .int .i64 9, .int .i64 4, .int .i64 9, .int .i64 48, .int .i64 6, .int .i64 9, .int .i64 15, .int .i64 15, .int .i64 3, .int .i64 9, .int .i64 50, .int .i64 5, .int .i64 24]) (.int .i64 11)).run Try.prog w = .ok (.int .i64 9) w := by kernel_rfl
theorem most_11 (w : World) : Calls Try.prog 140 #[.int .i64 11] w fun e w' => e = .returned (.int .i64 9) ∧ w = w' := by
  have hx := ix_11
  go_enter Try.func140, Try.ntmps140
  go_wp2_with fail
  go_ret
  exact ⟨rfl, rfl⟩
theorem pools_11 (w : World) : Calls Try.prog 141 #[.int .i64 11] w fun e w' => e = .returned (.bool false) ∧ w = w' := by
  go_enter Try.func141, Try.ntmps141
  go_wp2_with fail
  go_ret
  exact ⟨rfl, rfl⟩
theorem ix_12 (w : World) : (Instr.index 170 (.agg #[.int .i64 0, .int .i64 0, .int .i64 9, .int .i64 4, .int .i64 9, .int .i64 48, .int .i64 6, .int .i64 9, .int .i64 15, .int .i64 15, .int .i64 3, .int .i64 9, .int .i64 50, .int .i64 5, .int .i64 24]) (.int .i64 12)).run Try.prog w = .ok (.int .i64 50) w := by kernel_rfl
theorem most_12 (w : World) : Calls Try.prog 140 #[.int .i64 12] w fun e w' => e = .returned (.int .i64 50) ∧ w = w' := by
  have hx := ix_12
  go_enter Try.func140, Try.ntmps140
  go_wp2_with fail
  go_ret
  exact ⟨rfl, rfl⟩
theorem pools_12 (w : World) : Calls Try.prog 141 #[.int .i64 12] w fun e w' => e = .returned (.bool false) ∧ w = w' := by
  go_enter Try.func141, Try.ntmps141
  go_wp2_with fail
  go_ret
  exact ⟨rfl, rfl⟩
theorem ix_13 (w : World) : (Instr.index 170 (.agg #[.int .i64 0, .int .i64 0, .int .i64 9, .int .i64 4, .int .i64 9, .int .i64 48, .int .i64 6, .int .i64 9, .int .i64 15, .int .i64 15, .int .i64 3, .int .i64 9, .int .i64 50, .int .i64 5, .int .i64 24]) (.int .i64 13)).run Try.prog w = .ok (.int .i64 5) w := by kernel_rfl
theorem most_13 (w : World) : Calls Try.prog 140 #[.int .i64 13] w fun e w' => e = .returned (.int .i64 5) ∧ w = w' := by
  have hx := ix_13
  go_enter Try.func140, Try.ntmps140
  go_wp2_with fail
  go_ret
  exact ⟨rfl, rfl⟩
theorem pools_13 (w : World) : Calls Try.prog 141 #[.int .i64 13] w fun e w' => e = .returned (.bool false) ∧ w = w' := by
  go_enter Try.func141, Try.ntmps141
  go_wp2_with fail
  go_ret
  exact ⟨rfl, rfl⟩
theorem ix_14 (w : World) : (Instr.index 170 (.agg #[.int .i64 0, .int .i64 0, .int .i64 9, .int .i64 4, .int .i64 9, .int .i64 48, .int .i64 6, .int .i64 9, .int .i64 15, .int .i64 15, .int .i64 3, .int .i64 9, .int .i64 50, .int .i64 5, .int .i64 24]) (.int .i64 14)).run Try.prog w = .ok (.int .i64 24) w := by kernel_rfl
theorem most_14 (w : World) : Calls Try.prog 140 #[.int .i64 14] w fun e w' => e = .returned (.int .i64 24) ∧ w = w' := by
  have hx := ix_14
  go_enter Try.func140, Try.ntmps140
  go_wp2_with fail
  go_ret
  exact ⟨rfl, rfl⟩
theorem in_0_false (n : Int) (w : World) : Calls Try.prog 132 #[.int .i64 n, .int .i64 0, .bool false] w fun e w' => e = .returned (.bool (rng n 0 false)) ∧ w = w' := by
  by_cases h : 0 ≤ n
  all_goals
    go_enter Try.func132, Try.ntmps132
    go_wp2_with (first | (go_at_call 140; refine (most_0 _).mono ?_; rintro e ws ⟨rfl, rfl⟩) | (go_at_call 141; refine (pools_0 _).mono ?_; rintro e ws ⟨rfl, rfl⟩))
    go_ret
    exact ⟨by simp [rng, mosts, h] <;> omega, rfl⟩
theorem in_0_true (n : Int) (w : World) : Calls Try.prog 132 #[.int .i64 n, .int .i64 0, .bool true] w fun e w' => e = .returned (.bool (rng n 0 true)) ∧ w = w' := by
  by_cases h : 0 ≤ n
  all_goals
    go_enter Try.func132, Try.ntmps132
    go_wp2_with (first | (go_at_call 140; refine (most_0 _).mono ?_; rintro e ws ⟨rfl, rfl⟩) | (go_at_call 141; refine (pools_0 _).mono ?_; rintro e ws ⟨rfl, rfl⟩))
    go_ret
    exact ⟨by simp [rng, mosts, h] <;> omega, rfl⟩
theorem in_1_false (n : Int) (w : World) : Calls Try.prog 132 #[.int .i64 n, .int .i64 1, .bool false] w fun e w' => e = .returned (.bool (rng n 1 false)) ∧ w = w' := by
  by_cases h : -2147483648 ≤ n
  all_goals
    go_enter Try.func132, Try.ntmps132
    go_wp2_with (first | (go_at_call 140; refine (most_1 _).mono ?_; rintro e ws ⟨rfl, rfl⟩) | (go_at_call 141; refine (pools_1 _).mono ?_; rintro e ws ⟨rfl, rfl⟩))
    go_ret
    exact ⟨by simp [rng, mosts, h] <;> omega, rfl⟩
theorem in_1_true (n : Int) (w : World) : Calls Try.prog 132 #[.int .i64 n, .int .i64 1, .bool true] w fun e w' => e = .returned (.bool (rng n 1 true)) ∧ w = w' := by
  by_cases h : -2147483648 ≤ n
  all_goals
    go_enter Try.func132, Try.ntmps132
    go_wp2_with (first | (go_at_call 140; refine (most_1 _).mono ?_; rintro e ws ⟨rfl, rfl⟩) | (go_at_call 141; refine (pools_1 _).mono ?_; rintro e ws ⟨rfl, rfl⟩))
    go_ret
    exact ⟨by simp [rng, mosts, h] <;> omega, rfl⟩
theorem in_2_false (n : Int) (w : World) : Calls Try.prog 132 #[.int .i64 n, .int .i64 2, .bool false] w fun e w' => e = .returned (.bool (rng n 2 false)) ∧ w = w' := by
  by_cases h : 0 ≤ n
  all_goals
    go_enter Try.func132, Try.ntmps132
    go_wp2_with (first | (go_at_call 140; refine (most_2 _).mono ?_; rintro e ws ⟨rfl, rfl⟩) | (go_at_call 141; refine (pools_2 _).mono ?_; rintro e ws ⟨rfl, rfl⟩))
    go_ret
    exact ⟨by simp [rng, mosts, h] <;> omega, rfl⟩
theorem in_2_true (n : Int) (w : World) : Calls Try.prog 132 #[.int .i64 n, .int .i64 2, .bool true] w fun e w' => e = .returned (.bool (rng n 2 true)) ∧ w = w' := by
  by_cases h : 0 ≤ n
  all_goals
    go_enter Try.func132, Try.ntmps132
    go_wp2_with (first | (go_at_call 140; refine (most_2 _).mono ?_; rintro e ws ⟨rfl, rfl⟩) | (go_at_call 141; refine (pools_2 _).mono ?_; rintro e ws ⟨rfl, rfl⟩))
    go_ret
    exact ⟨by simp [rng, mosts, h] <;> omega, rfl⟩
theorem in_3_false (n : Int) (w : World) : Calls Try.prog 132 #[.int .i64 n, .int .i64 3, .bool false] w fun e w' => e = .returned (.bool (rng n 3 false)) ∧ w = w' := by
  by_cases h : 2 ≤ n
  all_goals
    go_enter Try.func132, Try.ntmps132
    go_wp2_with (first | (go_at_call 140; refine (most_3 _).mono ?_; rintro e ws ⟨rfl, rfl⟩) | (go_at_call 141; refine (pools_3 _).mono ?_; rintro e ws ⟨rfl, rfl⟩))
    go_ret
    exact ⟨by simp [rng, mosts, h] <;> omega, rfl⟩
theorem in_3_true (n : Int) (w : World) : Calls Try.prog 132 #[.int .i64 n, .int .i64 3, .bool true] w fun e w' => e = .returned (.bool (rng n 3 true)) ∧ w = w' := by
  by_cases h : 2 ≤ n
  all_goals
    go_enter Try.func132, Try.ntmps132
    go_wp2_with (first | (go_at_call 140; refine (most_3 _).mono ?_; rintro e ws ⟨rfl, rfl⟩) | (go_at_call 141; refine (pools_3 _).mono ?_; rintro e ws ⟨rfl, rfl⟩))
    go_ret
    exact ⟨by simp [rng, mosts, h] <;> omega, rfl⟩
theorem in_4_false (n : Int) (w : World) : Calls Try.prog 132 #[.int .i64 n, .int .i64 4, .bool false] w fun e w' => e = .returned (.bool (rng n 4 false)) ∧ w = w' := by
  by_cases h : 0 ≤ n
  all_goals
    go_enter Try.func132, Try.ntmps132
    go_wp2_with (first | (go_at_call 140; refine (most_4 _).mono ?_; rintro e ws ⟨rfl, rfl⟩) | (go_at_call 141; refine (pools_4 _).mono ?_; rintro e ws ⟨rfl, rfl⟩))
    go_ret
    exact ⟨by simp [rng, mosts, h] <;> omega, rfl⟩
theorem in_4_true (n : Int) (w : World) : Calls Try.prog 132 #[.int .i64 n, .int .i64 4, .bool true] w fun e w' => e = .returned (.bool (rng n 4 true)) ∧ w = w' := by
  by_cases h : 0 ≤ n
  all_goals
    go_enter Try.func132, Try.ntmps132
    go_wp2_with (first | (go_at_call 140; refine (most_4 _).mono ?_; rintro e ws ⟨rfl, rfl⟩) | (go_at_call 141; refine (pools_4 _).mono ?_; rintro e ws ⟨rfl, rfl⟩))
    go_ret
    exact ⟨by simp [rng, mosts, h] <;> omega, rfl⟩
theorem in_5_false (n : Int) (w : World) : Calls Try.prog 132 #[.int .i64 n, .int .i64 5, .bool false] w fun e w' => e = .returned (.bool (rng n 5 false)) ∧ w = w' := by
  by_cases h : 0 ≤ n
  all_goals
    go_enter Try.func132, Try.ntmps132
    go_wp2_with (first | (go_at_call 140; refine (most_5 _).mono ?_; rintro e ws ⟨rfl, rfl⟩) | (go_at_call 141; refine (pools_5 _).mono ?_; rintro e ws ⟨rfl, rfl⟩))
    go_ret
    exact ⟨by simp [rng, mosts, h] <;> omega, rfl⟩
theorem in_5_true (n : Int) (w : World) : Calls Try.prog 132 #[.int .i64 n, .int .i64 5, .bool true] w fun e w' => e = .returned (.bool (rng n 5 true)) ∧ w = w' := by
  by_cases h : 0 ≤ n
  all_goals
    go_enter Try.func132, Try.ntmps132
    go_wp2_with (first | (go_at_call 140; refine (most_5 _).mono ?_; rintro e ws ⟨rfl, rfl⟩) | (go_at_call 141; refine (pools_5 _).mono ?_; rintro e ws ⟨rfl, rfl⟩))
    go_ret
    exact ⟨by simp [rng, mosts, h] <;> omega, rfl⟩
theorem in_6_false (n : Int) (w : World) : Calls Try.prog 132 #[.int .i64 n, .int .i64 6, .bool false] w fun e w' => e = .returned (.bool (rng n 6 false)) ∧ w = w' := by
  by_cases h : 0 ≤ n
  all_goals
    go_enter Try.func132, Try.ntmps132
    go_wp2_with (first | (go_at_call 140; refine (most_6 _).mono ?_; rintro e ws ⟨rfl, rfl⟩) | (go_at_call 141; refine (pools_6 _).mono ?_; rintro e ws ⟨rfl, rfl⟩))
    go_ret
    exact ⟨by simp [rng, mosts, h] <;> omega, rfl⟩
theorem in_6_true (n : Int) (w : World) : Calls Try.prog 132 #[.int .i64 n, .int .i64 6, .bool true] w fun e w' => e = .returned (.bool (rng n 6 true)) ∧ w = w' := by
  by_cases h : 0 ≤ n
  all_goals
    go_enter Try.func132, Try.ntmps132
    go_wp2_with (first | (go_at_call 140; refine (most_6 _).mono ?_; rintro e ws ⟨rfl, rfl⟩) | (go_at_call 141; refine (pools_6 _).mono ?_; rintro e ws ⟨rfl, rfl⟩))
    go_ret
    exact ⟨by simp [rng, mosts, h] <;> omega, rfl⟩
theorem in_7_false (n : Int) (w : World) : Calls Try.prog 132 #[.int .i64 n, .int .i64 7, .bool false] w fun e w' => e = .returned (.bool (rng n 7 false)) ∧ w = w' := by
  by_cases h : 0 ≤ n
  all_goals
    go_enter Try.func132, Try.ntmps132
    go_wp2_with (first | (go_at_call 140; refine (most_7 _).mono ?_; rintro e ws ⟨rfl, rfl⟩) | (go_at_call 141; refine (pools_7 _).mono ?_; rintro e ws ⟨rfl, rfl⟩))
    go_ret
    exact ⟨by simp [rng, mosts, h] <;> omega, rfl⟩
theorem in_7_true (n : Int) (w : World) : Calls Try.prog 132 #[.int .i64 n, .int .i64 7, .bool true] w fun e w' => e = .returned (.bool (rng n 7 true)) ∧ w = w' := by
  by_cases h : 0 ≤ n
  all_goals
    go_enter Try.func132, Try.ntmps132
    go_wp2_with (first | (go_at_call 140; refine (most_7 _).mono ?_; rintro e ws ⟨rfl, rfl⟩) | (go_at_call 141; refine (pools_7 _).mono ?_; rintro e ws ⟨rfl, rfl⟩))
    go_ret
    exact ⟨by simp [rng, mosts, h] <;> omega, rfl⟩
theorem in_8_false (n : Int) (w : World) : Calls Try.prog 132 #[.int .i64 n, .int .i64 8, .bool false] w fun e w' => e = .returned (.bool (rng n 8 false)) ∧ w = w' := by
  by_cases h : 0 ≤ n
  all_goals
    go_enter Try.func132, Try.ntmps132
    go_wp2_with (first | (go_at_call 140; refine (most_8 _).mono ?_; rintro e ws ⟨rfl, rfl⟩) | (go_at_call 141; refine (pools_8 _).mono ?_; rintro e ws ⟨rfl, rfl⟩))
    go_ret
    exact ⟨by simp [rng, mosts, h] <;> omega, rfl⟩
theorem in_8_true (n : Int) (w : World) : Calls Try.prog 132 #[.int .i64 n, .int .i64 8, .bool true] w fun e w' => e = .returned (.bool (rng n 8 true)) ∧ w = w' := by
  by_cases h : 0 ≤ n
  all_goals
    go_enter Try.func132, Try.ntmps132
    go_wp2_with (first | (go_at_call 140; refine (most_8 _).mono ?_; rintro e ws ⟨rfl, rfl⟩) | (go_at_call 141; refine (pools_8 _).mono ?_; rintro e ws ⟨rfl, rfl⟩))
    go_ret
    exact ⟨by simp [rng, mosts, h] <;> omega, rfl⟩
theorem in_9_false (n : Int) (w : World) : Calls Try.prog 132 #[.int .i64 n, .int .i64 9, .bool false] w fun e w' => e = .returned (.bool (rng n 9 false)) ∧ w = w' := by
  by_cases h : 0 ≤ n
  all_goals
    go_enter Try.func132, Try.ntmps132
    go_wp2_with (first | (go_at_call 140; refine (most_9 _).mono ?_; rintro e ws ⟨rfl, rfl⟩) | (go_at_call 141; refine (pools_9 _).mono ?_; rintro e ws ⟨rfl, rfl⟩))
    go_ret
    exact ⟨by simp [rng, mosts, h] <;> omega, rfl⟩
theorem in_9_true (n : Int) (w : World) : Calls Try.prog 132 #[.int .i64 n, .int .i64 9, .bool true] w fun e w' => e = .returned (.bool (rng n 9 true)) ∧ w = w' := by
  by_cases h : 0 ≤ n
  all_goals
    go_enter Try.func132, Try.ntmps132
    go_wp2_with (first | (go_at_call 140; refine (most_9 _).mono ?_; rintro e ws ⟨rfl, rfl⟩) | (go_at_call 141; refine (pools_9 _).mono ?_; rintro e ws ⟨rfl, rfl⟩))
    go_ret
    exact ⟨by simp [rng, mosts, h] <;> omega, rfl⟩
theorem in_10_false (n : Int) (w : World) : Calls Try.prog 132 #[.int .i64 n, .int .i64 10, .bool false] w fun e w' => e = .returned (.bool (rng n 10 false)) ∧ w = w' := by
  by_cases h : 0 ≤ n
  all_goals
    go_enter Try.func132, Try.ntmps132
    go_wp2_with (first | (go_at_call 140; refine (most_10 _).mono ?_; rintro e ws ⟨rfl, rfl⟩) | (go_at_call 141; refine (pools_10 _).mono ?_; rintro e ws ⟨rfl, rfl⟩))
    go_ret
    exact ⟨by simp [rng, mosts, h] <;> omega, rfl⟩
theorem in_10_true (n : Int) (w : World) : Calls Try.prog 132 #[.int .i64 n, .int .i64 10, .bool true] w fun e w' => e = .returned (.bool (rng n 10 true)) ∧ w = w' := by
  by_cases h : 0 ≤ n
  all_goals
    go_enter Try.func132, Try.ntmps132
    go_wp2_with (first | (go_at_call 140; refine (most_10 _).mono ?_; rintro e ws ⟨rfl, rfl⟩) | (go_at_call 141; refine (pools_10 _).mono ?_; rintro e ws ⟨rfl, rfl⟩))
    go_ret
    exact ⟨by simp [rng, mosts, h] <;> omega, rfl⟩
theorem in_11_false (n : Int) (w : World) : Calls Try.prog 132 #[.int .i64 n, .int .i64 11, .bool false] w fun e w' => e = .returned (.bool (rng n 11 false)) ∧ w = w' := by
  by_cases h : 0 ≤ n
  all_goals
    go_enter Try.func132, Try.ntmps132
    go_wp2_with (first | (go_at_call 140; refine (most_11 _).mono ?_; rintro e ws ⟨rfl, rfl⟩) | (go_at_call 141; refine (pools_11 _).mono ?_; rintro e ws ⟨rfl, rfl⟩))
    go_ret
    exact ⟨by simp [rng, mosts, h] <;> omega, rfl⟩
theorem in_11_true (n : Int) (w : World) : Calls Try.prog 132 #[.int .i64 n, .int .i64 11, .bool true] w fun e w' => e = .returned (.bool (rng n 11 true)) ∧ w = w' := by
  by_cases h : 0 ≤ n
  all_goals
    go_enter Try.func132, Try.ntmps132
    go_wp2_with (first | (go_at_call 140; refine (most_11 _).mono ?_; rintro e ws ⟨rfl, rfl⟩) | (go_at_call 141; refine (pools_11 _).mono ?_; rintro e ws ⟨rfl, rfl⟩))
    go_ret
    exact ⟨by simp [rng, mosts, h] <;> omega, rfl⟩
theorem in_12_false (n : Int) (w : World) : Calls Try.prog 132 #[.int .i64 n, .int .i64 12, .bool false] w fun e w' => e = .returned (.bool (rng n 12 false)) ∧ w = w' := by
  by_cases h : 0 ≤ n
  all_goals
    go_enter Try.func132, Try.ntmps132
    go_wp2_with (first | (go_at_call 140; refine (most_12 _).mono ?_; rintro e ws ⟨rfl, rfl⟩) | (go_at_call 141; refine (pools_12 _).mono ?_; rintro e ws ⟨rfl, rfl⟩))
    go_ret
    exact ⟨by simp [rng, mosts, h] <;> omega, rfl⟩
theorem in_12_true (n : Int) (w : World) : Calls Try.prog 132 #[.int .i64 n, .int .i64 12, .bool true] w fun e w' => e = .returned (.bool (rng n 12 true)) ∧ w = w' := by
  by_cases h : 0 ≤ n
  all_goals
    go_enter Try.func132, Try.ntmps132
    go_wp2_with (first | (go_at_call 140; refine (most_12 _).mono ?_; rintro e ws ⟨rfl, rfl⟩) | (go_at_call 141; refine (pools_12 _).mono ?_; rintro e ws ⟨rfl, rfl⟩))
    go_ret
    exact ⟨by simp [rng, mosts, h] <;> omega, rfl⟩
theorem in_13_false (n : Int) (w : World) : Calls Try.prog 132 #[.int .i64 n, .int .i64 13, .bool false] w fun e w' => e = .returned (.bool (rng n 13 false)) ∧ w = w' := by
  by_cases h : 0 ≤ n
  all_goals
    go_enter Try.func132, Try.ntmps132
    go_wp2_with (first | (go_at_call 140; refine (most_13 _).mono ?_; rintro e ws ⟨rfl, rfl⟩) | (go_at_call 141; refine (pools_13 _).mono ?_; rintro e ws ⟨rfl, rfl⟩))
    go_ret
    exact ⟨by simp [rng, mosts, h] <;> omega, rfl⟩
theorem in_13_true (n : Int) (w : World) : Calls Try.prog 132 #[.int .i64 n, .int .i64 13, .bool true] w fun e w' => e = .returned (.bool (rng n 13 true)) ∧ w = w' := by
  by_cases h : 0 ≤ n
  all_goals
    go_enter Try.func132, Try.ntmps132
    go_wp2_with (first | (go_at_call 140; refine (most_13 _).mono ?_; rintro e ws ⟨rfl, rfl⟩) | (go_at_call 141; refine (pools_13 _).mono ?_; rintro e ws ⟨rfl, rfl⟩))
    go_ret
    exact ⟨by simp [rng, mosts, h] <;> omega, rfl⟩
theorem in_14_false (n : Int) (w : World) : Calls Try.prog 132 #[.int .i64 n, .int .i64 14, .bool false] w fun e w' => e = .returned (.bool (rng n 14 false)) ∧ w = w' := by
  by_cases h : 1 ≤ n
  all_goals
    go_enter Try.func132, Try.ntmps132
    go_wp2_with (first | (go_at_call 140; refine (most_14 _).mono ?_; rintro e ws ⟨rfl, rfl⟩) | (go_at_call 141; refine (pools_14 _).mono ?_; rintro e ws ⟨rfl, rfl⟩))
    go_ret
    exact ⟨by simp [rng, mosts, h] <;> omega, rfl⟩
theorem in_14_true (n : Int) (w : World) : Calls Try.prog 132 #[.int .i64 n, .int .i64 14, .bool true] w fun e w' => e = .returned (.bool (rng n 14 true)) ∧ w = w' := by
  by_cases h : 1 ≤ n
  all_goals
    go_enter Try.func132, Try.ntmps132
    go_wp2_with (first | (go_at_call 140; refine (most_14 _).mono ?_; rintro e ws ⟨rfl, rfl⟩) | (go_at_call 141; refine (pools_14 _).mono ?_; rintro e ws ⟨rfl, rfl⟩))
    go_ret
    exact ⟨by simp [rng, mosts, h] <;> omega, rfl⟩
theorem in_any (n r : Int) (p : Bool) (h0 : 0 ≤ r) (h1 : r ≤ 14) (w : World) : Calls Try.prog 132 #[.int .i64 n, .int .i64 r, .bool p] w fun e w' => e = .returned (.bool (rng n r p)) ∧ w = w' := by
  have hc : r = 0 ∨ r = 1 ∨ r = 2 ∨ r = 3 ∨ r = 4 ∨ r = 5 ∨ r = 6 ∨ r = 7 ∨ r = 8 ∨ r = 9 ∨ r = 10 ∨ r = 11 ∨ r = 12 ∨ r = 13 ∨ r = 14 := by omega
  rcases hc with rfl | rfl | rfl | rfl | rfl | rfl | rfl | rfl | rfl | rfl | rfl | rfl | rfl | rfl | rfl
  · cases p
    · exact in_0_false n w
    · exact in_0_true n w
  · cases p
    · exact in_1_false n w
    · exact in_1_true n w
  · cases p
    · exact in_2_false n w
    · exact in_2_true n w
  · cases p
    · exact in_3_false n w
    · exact in_3_true n w
  · cases p
    · exact in_4_false n w
    · exact in_4_true n w
  · cases p
    · exact in_5_false n w
    · exact in_5_true n w
  · cases p
    · exact in_6_false n w
    · exact in_6_true n w
  · cases p
    · exact in_7_false n w
    · exact in_7_true n w
  · cases p
    · exact in_8_false n w
    · exact in_8_true n w
  · cases p
    · exact in_9_false n w
    · exact in_9_true n w
  · cases p
    · exact in_10_false n w
    · exact in_10_true n w
  · cases p
    · exact in_11_false n w
    · exact in_11_true n w
  · cases p
    · exact in_12_false n w
    · exact in_12_true n w
  · cases p
    · exact in_13_false n w
    · exact in_13_true n w
  · cases p
    · exact in_14_false n w
    · exact in_14_true n w
end Ec
end Go.Proofs.Ytmjnakhpekbenaa
namespace Go.Proofs.Ytmjnakhpekbenaa
open Go.RowKit Go.Sort
namespace Ec
theorem ret_b {a b : Bool} (h : a = b) : Ending.returned (.bool a) = .returned (.bool b) := by rw [h]
theorem sp_bd : ∀ k, k < 36 → 0 ≤ (sp k).a ∧ (sp k).a ≤ 14 ∧ 0 ≤ (sp k).b ∧ (sp k).b ≤ 14 ∧ 0 ≤ (sp k).c ∧ (sp k).c ≤ 12 := by decide
def vld (op a b : Int) (p : Bool) : Bool := decide (0 ≤ op) && decide (op < 36) && (rng a (sp op.toNat).a p && (rng b (sp op.toNat).b p && (!(op == 12) || (!(a == 3) || b == 0))))
theorem vld_bad {op a b : Int} {p : Bool} (h : op < 0 ∨ 36 ≤ op) : vld op a b p = false := by
  unfold vld
  rcases h with h | h
  · rw [decide_eq_false (by omega)]; rfl
  · rw [decide_eq_false (p := op < 36) (by omega)]; simp
theorem vld_nat (k : Nat) (hk : k < 36) (a b : Int) (p : Bool) : vld (k : Int) a b p = (rng a (sp k).a p && (rng b (sp k).b p && (!((k : Int) == 12) || (!(a == 3) || b == 0)))) := by
  unfold vld
  rw [decide_eq_true (by omega), decide_eq_true (by omega), Int.toNat_natCast]; rfl
theorem Valid_any (op a b : Int) (p : Bool) (w : World) :
    Calls Try.prog 117 #[.agg #[.int .i64 op, .int .i64 a, .int .i64 b], .bool p] w fun e w' => e = .returned (.bool (vld op a b p)) ∧ Below w.heap.size w w' := by
  by_cases hop : 0 ≤ op ∧ op < 36
  · obtain ⟨k, rfl⟩ : ∃ k : Nat, op = (k : Int) := ⟨op.toNat, by omega⟩
    have hk : k < 36 := by omega
    obtain ⟨s1, s2, s3, s4, s5, s6⟩ := sp_bd k hk
    have HV := hide (vld_nat k hk a b p)
    have start : ∀ w' : World, True := fun _ => trivial
    clear start hop
    go_enter Try.func117, Try.ntmps117
    go_wp2_with fail
    refine (known_ok k hk _).mono ?_
    rintro e w1 ⟨rfl, hb⟩
    have hz1 : w.heap.size + 1 ≤ w1.heap.size := by have := hb.size; simpa using this
    have c0 : w1.cell? ⟨w.heap.size, 0, none⟩ = some (.int .i64 (k : Int)) := by rw [hb.cell (by simp)]; simp
    have c1 : w1.cell? ⟨w.heap.size, 1, none⟩ = some (.int .i64 a) := by rw [hb.cell (by simp)]; simp
    have c2 : w1.cell? ⟨w.heap.size, 2, none⟩ = some (.int .i64 b) := by rw [hb.cell (by simp)]; simp
    have hlt : w.heap.size < w1.heap.size := by omega
    have hb1 : Below w.heap.size w w1 := Below.trans (by go_grown) (hb.mono (by simp))
    clear hb hz1
    go_wp2_with fail
    refine (in_any a _ p s1 s2 _).mono ?_
    rintro e ws ⟨rfl, rfl⟩
    cases r1 : rng a (sp k).a p
    case false =>
      have HV2 := hide (show vld (k : Int) a b p = false by rw [HV.out, r1]; rfl)
      go_wp2_with fail
      go_ret
      exact ⟨ret_b (by rw [HV2.out]), by go_grown⟩
    case true =>
      go_wp2_with fail
      refine (in_any b _ p s3 s4 _).mono ?_
      rintro e ws ⟨rfl, rfl⟩
      cases r2 : rng b (sp k).b p
      case false =>
        have HV2 := hide (show vld (k : Int) a b p = false by rw [HV.out, r1, r2]; rfl)
        go_wp2_with fail
        go_ret
        exact ⟨ret_b (by rw [HV2.out]), by go_grown⟩
      case true =>
        have HV2 := hide (show vld (k : Int) a b p = (!((k : Int) == 12) || (!(a == 3) || b == 0)) by rw [HV.out, r1, r2]; rfl)
        by_cases k12 : k = 12
        · subst k12
          by_cases a3 : a = 3
          · subst a3
            go_wp2_with fail
            go_ret
            exact ⟨ret_b (by rw [HV2.out]; rfl), by go_grown⟩
          · have a4 : (a == 3) = false := by simpa using a3
            have a5 : (a != 3) = true := by simpa using a3
            have HV3 := hide (show vld ((12 : Nat) : Int) a b p = true by rw [HV2.out, a4]; simp)
            go_wp2_with fail
            go_ret
            exact ⟨ret_b (by rw [HV3.out]), by go_grown⟩
        · have e12 : ((k : Int) == 12) = false := by simp; omega
          go_wp2_with fail
          go_ret
          exact ⟨by rw [HV2.out, e12]; rfl, by go_grown⟩
  · have HV := hide (vld_bad (op := op) (a := a) (b := b) (p := p) (by omega))
    have Hop2 : Hid (op < 0 ∨ (0 ≤ op ∧ 36 ≤ op)) := ⟨by omega⟩
    clear hop
    go_enter Try.func117, Try.ntmps117
    go_wp2_with fail
    refine (known_bad op Hop2.out _).mono ?_
    rintro e w1 ⟨rfl, hb⟩
    have hz1 : w.heap.size + 1 ≤ w1.heap.size := by have := hb.size; simpa using this
    have hb1 : Below w.heap.size w w1 := Below.trans (by go_grown) (hb.mono (by simp))
    clear hb
    go_wp2_with fail
    go_ret
    exact ⟨ret_b (by rw [HV.out]), by go_grown⟩
def opn (op : Int) : Bool := decide (29 ≤ op) && decide (op ≤ 33)
theorem Opens_any (op : Int) (w : World) : Calls Try.prog 74 #[.int .i64 op] w fun e w' => e = .returned (.bool (opn op)) ∧ w = w' := by
  have hc : (op < 29) ∨ op = 29 ∨ op = 30 ∨ op = 31 ∨ op = 32 ∨ op = 33 ∨ 33 < op := by omega
  rcases hc with hc | rfl | rfl | rfl | rfl | rfl | hc
  case inr.inr.inr.inr.inr.inr =>
    have e1 : (op == 29) = false := by simp; omega
    have e2 : (op == 30) = false := by simp; omega
    have e3 : (op == 31) = false := by simp; omega
    have e4 : (op == 32) = false := by simp; omega
    have e5 : (op == 33) = false := by simp; omega
    go_enter Try.func74, Try.ntmps74
    go_wp2_with fail
    go_ret
    exact ⟨ret_b (by simp [opn] <;> omega), rfl⟩
  case inl =>
    have e1 : (op == 29) = false := by simp; omega
    have e2 : (op == 30) = false := by simp; omega
    have e3 : (op == 31) = false := by simp; omega
    have e4 : (op == 32) = false := by simp; omega
    have e5 : (op == 33) = false := by simp; omega
    go_enter Try.func74, Try.ntmps74
    go_wp2_with fail
    go_ret
    exact ⟨ret_b (by simp [opn] <;> omega), rfl⟩
  all_goals
    go_enter Try.func74, Try.ntmps74
    go_wp2_with fail
    go_ret
    exact ⟨rfl, rfl⟩
end Ec
end Go.Proofs.Ytmjnakhpekbenaa
namespace Go.Proofs.Ytmjnakhpekbenaa
open Go.RowKit Go.Sort
namespace Ec
/-- the state of the search: the open brackets, the innermost last; opener, else, end, depth of each instruction; the deepest -/
structure Sh where
  l : List Nat
  o : Nat → Int
  e : Nat → Int
  d : Nat → Int
  t : Nat → Int
  m : Nat
def upI (f : Nat → Int) (i : Nat) (v : Int) : Nat → Int := fun j => if j = i then v else f j
def top (l : List Nat) : Int := match l.getLast? with | some x => (x : Int) | none => -1
/-- what is laid for instruction k at first -/
def lay (k : Nat) (s : Sh) : Sh := ⟨s.l, upI s.o k (top s.l), upI s.e k (-1), upI s.d k (-1), upI s.t k (s.l.length : Int), s.m⟩
def two (c : Nat → Int) (x : Nat) : Bool := c x == 29 || c x == 33
def stp (c : Nat → Int) (k : Nat) (s : Sh) : Option Sh :=
  let r := lay k s
  if opn (c k) then some { r with l := s.l ++ [k], m := max s.m (s.l.length + 1) }
  else if c k == 34 || c k == 35 then
    match s.l.getLast? with
    | none => none
    | some x =>
      if c k == 34 then (if two c x && decide (r.e x < 0) then some { r with e := upI r.e x (k : Int), t := upI r.t k ((s.l.length : Int) - 1) } else none)
      else if c x == 33 && decide (r.e x < 0) then none
      else some { r with l := s.l.dropLast, d := upI r.d x (k : Int), t := upI r.t k ((s.l.length : Int) - 1) }
  else some r
def shp (c : Nat → Int) : Nat → Option Sh
  | 0 => some ⟨[], fun _ => 0, fun _ => 0, fun _ => 0, fun _ => 0, 0⟩
  | k + 1 => (shp c k).bind (stp c k)
def okS (c : Nat → Int) (n : Nat) : Bool := match shp c n with | some s => s.l.isEmpty && decide (s.m ≤ 6) | none => false
theorem shp_none {c : Nat → Int} {k : Nat} : ∀ j, shp c k = none → shp c (k + j) = none
  | 0, h => h
  | j + 1, h => by show (shp c (k + j)).bind _ = none; rw [shp_none j h]; rfl
theorem shp_bad {c : Nat → Int} {k n : Nat} {s : Sh} (h : shp c k = some s) (hs : stp c k s = none) (hk : k < n) : okS c n = false := by
  have h1 : shp c (k + 1) = none := by show (shp c k).bind _ = none; rw [h]; exact hs
  have h2 := shp_none (n - (k + 1)) h1
  rw [show k + 1 + (n - (k + 1)) = n by omega] at h2
  unfold okS; rw [h2]
theorem shp_step {c : Nat → Int} {k : Nat} {s s' : Sh} (h : shp c k = some s) (hs : stp c k s = some s') : shp c (k + 1) = some s' := by
  show (shp c k).bind _ = some s'; rw [h]; exact hs
theorem shp_lt {c : Nat → Int} : ∀ (k : Nat) (s : Sh), shp c k = some s → (∀ x, x ∈ s.l → x < k) ∧ s.l.length ≤ k ∧ s.m ≤ k
  | 0, s, h => by
    simp only [shp, Option.some.injEq] at h; subst h
    exact ⟨fun x hx => (by simp at hx), Nat.le_refl 0, Nat.le_refl 0⟩
  | k + 1, s', h => by
    have h' : (shp c k).bind (stp c k) = some s' := h
    cases hs : shp c k with
    | none => rw [hs] at h'; cases h'
    | some s =>
      rw [hs] at h'
      have ih := shp_lt k s hs
      have h2 : stp c k s = some s' := h'
      unfold stp lay at h2
      simp only [] at h2
      split at h2
      · simp only [Option.some.injEq] at h2; subst h2
        refine ⟨fun x hx => ?_, by simp; omega, by show max s.m (s.l.length + 1) ≤ k + 1; omega⟩
        have hx' : x ∈ s.l ++ [k] := hx
        rcases List.mem_append.1 hx' with q | q
        · have := ih.1 x q; omega
        · simp at q; omega
      · split at h2
        · split at h2
          · cases h2
          · split at h2
            · split at h2
              · simp only [Option.some.injEq] at h2; subst h2
                exact ⟨fun x hx => by have := ih.1 x hx; omega, by show s.l.length ≤ k + 1; omega, by show s.m ≤ k + 1; omega⟩
              · cases h2
            · split at h2
              · cases h2
              · simp only [Option.some.injEq] at h2; subst h2
                refine ⟨fun x hx => ?_, ?_, by show s.m ≤ k + 1; omega⟩
                · have hx' : x ∈ s.l.dropLast := hx
                  have := ih.1 x (List.dropLast_subset _ hx'); omega
                · show s.l.dropLast.length ≤ k + 1
                  simp; omega
        · simp only [Option.some.injEq] at h2; subst h2
          exact ⟨fun x hx => by have := ih.1 x hx; omega, by show s.l.length ≤ k + 1; omega, by show s.m ≤ k + 1; omega⟩
abbrev rowI (n : Nat) : Obj := .cells (madeCells #[.int .i64 0] (n * 1)) 3
theorem infoI : (Try.prog.info? 3).map (fun i => (i.zero, i.size, i.bytes)) = some (some (.int .i64 0), 1, 8) := by kernel_rfl
theorem makeI (n : Nat) (hn : n ≤ 400) (W : World) : (Instr.makeSlice 33 (.int .i64 (n : Int)) (.int .i64 (n : Int))).run Try.prog W = .ok (.slice (some ⟨W.heap.size, 0, none⟩) n n) (W.alloc (rowI n)) := by
  obtain ⟨i, hi, hzz⟩ := Option.map_eq_some_iff.1 infoI
  simp only [Prod.mk.injEq] at hzz
  obtain ⟨hz, hs, hb⟩ := hzz
  have hr := run_make (P := Try.prog) W 33 3 i _ Try.underlying33 hi hz .i64 .i64 (n : Int) (n : Int) (by omega) (by omega) (by rw [hb]; omega) (by omega)
  rw [hs, Int.toNat_natCast] at hr
  exact hr
theorem stp_else_ok {c : Nat → Int} {k x : Nat} {s : Sh} (hA : opn (c k) = false) (h34 : c k = 34) (hl : s.l.getLast? = some x) (h2 : two c x = true) (hn : (lay k s).e x < 0) :
    stp c k s = some { lay k s with e := upI (lay k s).e x (k : Int), t := upI (lay k s).t k ((s.l.length : Int) - 1) } := by
  unfold stp
  simp only []
  rw [if_neg (by rw [hA]; exact Bool.false_ne_true), if_pos (by rw [h34]; rfl), hl]
  simp only []
  rw [if_pos (by rw [h34]; rfl), if_pos (by rw [h2, decide_eq_true hn]; rfl)]
theorem stp_else_two {c : Nat → Int} {k x : Nat} {s : Sh} (hA : opn (c k) = false) (h34 : c k = 34) (hl : s.l.getLast? = some x) (h2 : two c x = false) : stp c k s = none := by
  unfold stp
  simp only []
  rw [if_neg (by rw [hA]; exact Bool.false_ne_true), if_pos (by rw [h34]; rfl), hl]
  simp only []
  rw [if_pos (by rw [h34]; rfl), if_neg (by rw [h2]; exact Bool.false_ne_true)]
theorem stp_else_has {c : Nat → Int} {k x : Nat} {s : Sh} (hA : opn (c k) = false) (h34 : c k = 34) (hl : s.l.getLast? = some x) (hn : ¬ (lay k s).e x < 0) : stp c k s = none := by
  unfold stp
  simp only []
  rw [if_neg (by rw [hA]; exact Bool.false_ne_true), if_pos (by rw [h34]; rfl), hl]
  simp only []
  rw [if_pos (by rw [h34]; rfl), if_neg (by rw [decide_eq_false hn, Bool.and_false]; exact Bool.false_ne_true)]
theorem stp_end_try {c : Nat → Int} {k x : Nat} {s : Sh} (hA : opn (c k) = false) (h35 : c k = 35) (hl : s.l.getLast? = some x) (h2 : c x = 33) (hn : (lay k s).e x < 0) : stp c k s = none := by
  unfold stp
  simp only []
  rw [if_neg (by rw [hA]; exact Bool.false_ne_true), if_pos (by rw [h35]; rfl), hl]
  simp only []
  rw [if_neg (by rw [h35]; decide), if_pos (by rw [h2, decide_eq_true hn]; rfl)]
theorem stp_end_ok {c : Nat → Int} {k x : Nat} {s : Sh} (hA : opn (c k) = false) (h35 : c k = 35) (hl : s.l.getLast? = some x) (h2 : ¬ (c x = 33 ∧ (lay k s).e x < 0)) :
    stp c k s = some { lay k s with l := s.l.dropLast, d := upI (lay k s).d x (k : Int), t := upI (lay k s).t k ((s.l.length : Int) - 1) } := by
  unfold stp
  simp only []
  rw [if_neg (by rw [hA]; exact Bool.false_ne_true), if_pos (by rw [h35]; rfl), hl]
  simp only []
  rw [if_neg (by rw [h35]; decide), if_neg (by simpa using h2)]
end Ec
end Go.Proofs.Ytmjnakhpekbenaa
namespace Go.Proofs.Ytmjnakhpekbenaa
namespace Ec
theorem opn_iff {x : Int} : opn x = true ↔ 29 ≤ x ∧ x ≤ 33 := by unfold opn; simp
theorem opn_no {x : Int} : opn x = false ↔ ¬ (29 ≤ x ∧ x ≤ 33) := by
  cases h : opn x
  · exact ⟨fun _ q => absurd (opn_iff.2 q) (by rw [h]; exact Bool.false_ne_true), fun _ => rfl⟩
  · exact ⟨fun q => absurd q (fun q => (by cases q)), fun q => absurd (opn_iff.1 h) q⟩
end Ec
end Go.Proofs.Ytmjnakhpekbenaa
namespace Go.Proofs.Ytmjnakhpekbenaa
open Go.RowKit Go.Sort
namespace Ec
def s0 : Sh := ⟨[], fun _ => 0, fun _ => 0, fun _ => 0, fun _ => 0, 0⟩
/-- the open brackets in memory -/
def lI (l : List Nat) : List Value := l.map (fun (x : Nat) => Value.int .i64 (x : Int))
end Ec
end Go.Proofs.Ytmjnakhpekbenaa
namespace Go.Proofs.Ytmjnakhpekbenaa
open Go.RowKit Fw
namespace Ec
/-- a list of instructions in memory -/
def InC (w : World) (p : Option Addr) (n : Nat) (c A B : Nat → Int) : Prop :=
  0 < n → ∃ bb oo, p = some ⟨bb, oo, none⟩ ∧ ∀ i, i < n → w.rangeAt bb (oo + i * 3) [.int .i64 (c i), .int .i64 (A i), .int .i64 (B i)]
theorem InC.below {w w' : World} {p : Option Addr} {n : Nat} {c A B : Nat → Int} (h : InC w p n c A B) (hb : Below w.heap.size w w') : InC w' p n c A B := fun h0 => by
  obtain ⟨bb, oo, hp, hr⟩ := h h0
  exact ⟨bb, oo, hp, fun i hi j v hv => by rw [hb.cell (World.block_lt_of_cell? w _ (hr i hi j v hv))]; exact hr i hi j v hv⟩
theorem own_form {w : World} {e k : Nat} {v : Value} {xs : List Value} (h : Ent.holds w (.own v k xs e 1)) : ∃ pv cp, v = .slice pv k cp ∧ cp ≤ 9223372036854775807 ∧ k ≤ cp ∧ (0 < k → ∃ g, pv = some ⟨g, 0, none⟩) := by
  have h2 : w.ownsRow 0 e 1 v k xs := h
  obtain ⟨hl, ⟨h0, h1⟩ | ⟨g, cap, cur, hv, hb, hg, hc, hm, hs, hx⟩⟩ := h2
  · subst h1; exact ⟨none, 0, h0, by omega, by omega, fun q => absurd q (by omega)⟩
  · exact ⟨some ⟨g, 0, none⟩, cap, hv, by unfold maxLen at hm; omega, hc, fun _ => ⟨g, rfl⟩⟩
end Ec
namespace Fw
open Ec
theorem HP.repl {S : Nat → Prop} {w0 w : World} {H : List Ent} (h : HP S w0 w H) (i : Nat) {e e' : Ent} (hi : H[i]? = some e) (hold : e'.holds w) (hb : e'.blk = e.blk) : HP S w0 w (H.set i e') :=
  h.change i hi rfl rfl rfl (Nat.le_refl _) (fun _ _ _ => rfl) hold (fun b q => .inl (by rw [← hb]; exact q))
end Fw
namespace Ec
theorem own_pop {w : World} {g k cap : Nat} {l : List Nat} (h : Ent.holds w (.own (.slice (some ⟨g, 0, none⟩) l.length cap) l.length (lI l) 3 1)) (hk : k = l.dropLast.length) : Ent.holds w (.own (.slice (some ⟨g, 0, none⟩) k cap) k (lI l.dropLast) 3 1) := by
  subst hk
  have h2 : w.ownsRow 0 3 1 (.slice (some ⟨g, 0, none⟩) l.length cap) l.length (lI l) := h
  obtain ⟨hl, ⟨h0, h1⟩ | ⟨g', cap', cur, hv, hb, hg, hc, hm, hs, hx⟩⟩ := h2
  · cases h0
  · cases hv
    refine ⟨by simp [lI], .inr ⟨g, cap, cur, rfl, hb, hg, by simp; omega, hm, hs, ?_⟩⟩
    have : (lI l).take (l.length - 1) = lI l.dropLast := by unfold lI; rw [List.dropLast_eq_take, List.map_take]
    rw [← this, ← hx, List.take_take, List.length_dropLast]
    congr 1; omega
theorem last_cell {l : List Nat} {x : Nat} (h : l.getLast? = some x) : (lI l)[l.length - 1]? = some (.int .i64 (x : Int)) := by
  unfold lI
  rw [List.getElem?_map, ← List.getLast?_eq_getElem?, h]; rfl
end Ec
namespace Fw
open Ec
theorem HP.addOwn {S : Nat → Prop} {w0 w : World} {H : List Ent} (h : HP S w0 w H) {v : Value} {k : Nat} {xs : List Value} {e s : Nat} (hb : v.ownBlock = none) (hown : w.ownsRow 0 e s v k xs) : HP S w0 w (H ++ [.own v k xs e s]) := by
  refine ⟨h.os, h.tape, h.output, h.size, h.keep, ?_, ?_, ?_⟩
  · intro x hx
    rcases List.mem_append.1 hx with hx | hx
    · exact h.hold x hx
    · simp at hx; subst hx; exact hown
  · intro x hx b hb'
    rcases List.mem_append.1 hx with hx | hx
    · exact h.fresh x hx b hb'
    · simp at hx; subst hx; simp only [Ent.blk, hb] at hb'; cases hb'
  · refine List.pairwise_append.2 ⟨h.apart, by simp, fun x hx y hy b hb1 hb2 => ?_⟩
    simp at hy; subst hy; simp only [Ent.blk, hb] at hb2; cases hb2
end Fw
namespace Ec
theorem last_of {l : List Nat} (h : 0 < l.length) : ∃ x, l.getLast? = some x := by
  cases hq : l.getLast? with
  | some x => exact ⟨x, rfl⟩
  | none => rw [List.getLast?_eq_none_iff] at hq; rw [hq] at h; cases h
theorem lay_o_top {k x : Nat} {s : Sh} (h : s.l.getLast? = some x) : (lay k s).o k = (x : Int) := by unfold lay upI top; simp [h]
theorem lay_o_some {k x : Nat} {s : Sh} (h : s.l.getLast? = some x) : upI (upI s.o k (-1)) k (x : Int) = (lay k s).o := by
  funext j; unfold lay upI top; simp only [h]; split <;> rfl
theorem lay_o_none {k : Nat} {s : Sh} (h : s.l.length = 0) : upI s.o k (-1) = (lay k s).o := by
  have : s.l = [] := List.length_eq_zero_iff.1 h
  funext j; unfold lay upI top; rw [this]; rfl
theorem stp_none_nil {c : Nat → Int} {k : Nat} {s : Sh} (hA : opn (c k) = false) (h : c k = 34 ∨ c k = 35) (hl : s.l.length = 0) : stp c k s = none := by
  have h0 : s.l = [] := List.length_eq_zero_iff.1 hl
  unfold stp
  simp only []
  rw [if_neg (by rw [hA]; exact Bool.false_ne_true), if_pos (by rcases h with h | h <;> rw [h] <;> rfl), h0]
  rfl
theorem stp_open {c : Nat → Int} {k : Nat} {s : Sh} (hA : opn (c k) = true) : stp c k s = some { lay k s with l := s.l ++ [k], m := max s.m (s.l.length + 1) } := by
  unfold stp; simp only []; rw [if_pos hA]
theorem stp_other {c : Nat → Int} {k : Nat} {s : Sh} (hA : opn (c k) = false) (h4 : ¬ c k = 34) (h5 : ¬ c k = 35) : stp c k s = some (lay k s) := by
  unfold stp; simp only []; rw [if_neg (by rw [hA]; exact Bool.false_ne_true), show (c k == 34) = false by simpa using h4, show (c k == 35) = false by simpa using h5]; rfl
theorem two_no {c : Nat → Int} {x : Nat} (h1 : ¬ c x = 29) (h2 : ¬ c x = 33) : two c x = false := by simp [two]; omega
theorem two_yes {c : Nat → Int} {x : Nat} (h1 : c x = 29 ∨ c x = 33) : two c x = true := by rcases h1 with h | h <;> simp [two, h]
theorem okS_yes {c : Nat → Int} {n : Nat} {s : Sh} (hs : shp c n = some s) (h1 : s.l.length = 0) (h2 : s.m ≤ 6) : okS c n = true := by
  unfold okS; rw [hs]; show (s.l.isEmpty && decide (s.m ≤ 6)) = true; rw [List.length_eq_zero_iff.1 h1]; simp [h2]
theorem okS_no {c : Nat → Int} {n : Nat} {s : Sh} (hs : shp c n = some s) (h : ¬ (s.l.length = 0 ∧ s.m ≤ 6)) : okS c n = false := by
  unfold okS; rw [hs]
  show (s.l.isEmpty && decide (s.m ≤ 6)) = false
  cases hl : s.l with
  | nil => simp [hl] at h ⊢; omega
  | cons x r => rfl
theorem makeI2 (n : Nat) (hn : n ≤ 400) (W : World) : (Instr.makeSlice 33 (.int .i64 (n : Int)) (.int .i64 (n : Int))).run Try.prog W = .ok (.slice (some ⟨W.heap.size, 0, none⟩) n n) (W.alloc (.cells (irow n (fun _ => 0)) 3)) := by
  have h := makeI n hn W
  unfold rowI at h
  rw [irow_made] at h
  exact h
theorem permIns (A B : List Ent) (e : Ent) : ((A ++ B) ++ [e]).Perm (A ++ ([e] ++ B)) := by
  rw [List.append_assoc]; exact List.Perm.append_left A (List.perm_append_comm)
/-- what shapeOf returns -/
def ResH (w : World) (c : Nat → Int) (n : Nat) (e : Ending) (w' : World) : Prop :=
  ∃ (g0 g1 g2 g3 : Nat) (m : Int) (s : Sh), e = .returned (.agg #[.slice (some ⟨g0, 0, none⟩) n n, .slice (some ⟨g1, 0, none⟩) n n, .slice (some ⟨g2, 0, none⟩) n n, .slice (some ⟨g3, 0, none⟩) n n, .int .i64 m, .bool (okS c n)]) ∧
    HP Tr w w' [.cel g0 (irow n s.o) 3, .cel g1 (irow n s.e) 3, .cel g2 (irow n s.d) 3, .cel g3 (irow n s.t) 3] ∧ (okS c n = true → shp c n = some s ∧ m = (s.m : Int))
theorem sz3 : (Try.prog.info? 3).map (·.size) = some 1 := by kernel_rfl
theorem sz4 : (Try.prog.info? 4).map (·.size) = some 1 := by kernel_rfl
theorem sz75 : (Try.prog.info? 75).map (·.size) = some 3 := by kernel_rfl
theorem sz116 : (Try.prog.info? 116).map (·.size) = some 6 := by kernel_rfl
set_option maxRecDepth 20000 in
set_option maxHeartbeats 4000000 in
theorem shapeH_any (p : Option Addr) (n cap : Nat) (c A B : Nat → Int) (w : World) (hIn : InC w p n c A B) (hn : n ≤ 400) :
    Calls Try.prog 109 #[.slice p n cap] w (ResH w c n) := by
  obtain ⟨i0, hi0, hz0, hz1, hz2⟩ := info_parts infoI
  refine calls_of Try.func109 rfl (m := 170) rfl [(0, .slice p n cap)] (Fr_enter [.slice p n cap] 170 (Nat.le_of_ble_eq_true rfl)) ?_
  have hH1 : HP Tr w w [] := HP.refl w
  refine WC.seq fun K2 hK2 => WC.region ?_
  refine WL.alloc (c := #[.slice none 0 0, .slice none 0 0, .slice none 0 0, .slice none 0 0, vI 0, .bool false]) (T := 116) hH1 2 rfl (by decide) rfl rfl (fun b1 => vP b1 0) (by kernel_rfl) (fun b1 w4 hw4 => ?_)
  have hH5 : HP Tr w w4 [.cel b1 #[.slice none 0 0, .slice none 0 0, .slice none 0 0, .slice none 0 0, vI 0, .bool false] 116] := hw4.2
  have nb1 := hw4.1
  clear hw4
  refine WL.nil (WQ.then (hK2 _ _ _ (WC.seq fun K6 hK6 => WC.region ?_)))
  refine WL.z (v := .slice p n cap) 10 ?_
  refine WL.z (v := vI (n : Int)) 11 ?_
  refine WL.z (v := vI (n : Int)) 3 ?_
  refine WL.nil (WQ.then (hK6 _ _ _ (WC.seq fun K7 hK7 => ?_)))
  refine WC.confG (γ := Nat → Nat) [(0, .slice p n cap), (2, vP b1 0), (3, vI (n : Int))] (fun g => [.int .i64 (n : Int), .slice (some ⟨g 1, 0, none⟩) n n, .int .i64 (n : Int), .slice (some ⟨g 3, 0, none⟩) n n, .int .i64 (n : Int), .slice (some ⟨g 5, 0, none⟩) n n, .int .i64 (n : Int), .slice (some ⟨g 7, 0, none⟩) n n, .agg #[.slice (some ⟨g 1, 0, none⟩) n n, .slice (some ⟨g 3, 0, none⟩) n n, .slice (some ⟨g 5, 0, none⟩) n n, .slice (some ⟨g 7, 0, none⟩) n n, .int .i64 0, .bool true], .pointer (some ⟨g 9, 0, none⟩), undef]) (fun g D w2 => HP Tr w w2 ([.cel b1 #[.slice none 0 0, .slice none 0 0, .slice none 0 0, .slice none 0 0, .int .i64 0, .bool false] 116] ++ ((bif D 1 then [Ent.cel (g 1) (irow n (fun _ => 0)) 3] else []) ++ ((bif D 3 then [Ent.cel (g 3) (irow n (fun _ => 0)) 3] else []) ++ ((bif D 5 then [Ent.cel (g 5) (irow n (fun _ => 0)) 3] else []) ++ ((bif D 7 then [Ent.cel (g 7) (irow n (fun _ => 0)) 3] else []) ++ (bif D 9 then [Ent.cel (g 9) (bif D 10 then #[.slice (some ⟨g 1, 0, none⟩) n n, .slice (some ⟨g 3, 0, none⟩) n n, .slice (some ⟨g 5, 0, none⟩) n n, .slice (some ⟨g 7, 0, none⟩) n n, .int .i64 0, .bool true] else #[.slice none 0 0, .slice none 0 0, .slice none 0 0, .slice none 0 0, .int .i64 0, .bool false]) 116] else []))))))) (fun _ => 0) (by kernel_rfl) ⟨rfl, rfl, rfl, trivial⟩ (by kernel_rfl) (by kernel_rfl) (by kernel_rfl) (fun _ => rfl) (by kernel_rfl) (HP.drew hH5) ?_ ?_
  · refine AllOk.cons ?o0 (AllOk.cons ?o1 (AllOk.cons ?o2 (AllOk.cons ?o3 (AllOk.cons ?o4 (AllOk.cons ?o5 (AllOk.cons ?o6 (AllOk.cons ?o7 (AllOk.cons ?o8 (AllOk.cons ?o9 (AllOk.cons ?o10 (AllOk.nil _)))))))))))
    case o0 =>
      intro g D w2 hDi hdep hclo hW
      exact .inl ⟨rfl, rfl, .inl ⟨g, w2, fun _ _ => rfl, by kernel_rfl, hW⟩⟩
    case o1 =>
      intro g D w2 hDi hdep hclo hW
      have h8 : D 8 = false := by
        cases h : D 8 with
        | false => rfl
        | true => exact absurd (hclo 8 _ rfl h ⟨1, .data⟩ (by simp) rfl) (by rw [hDi]; exact Bool.false_ne_true)
      have h10 : D 10 = false := by
        cases h : D 10 with
        | false => rfl
        | true => exact absurd (hclo 10 _ rfl h ⟨1, .phase⟩ (by simp) rfl) (by rw [hDi]; exact Bool.false_ne_true)
      refine .inl ⟨rfl, rfl, .inl ⟨fun j => if j = 1 then w2.heap.size else g j, _, fun j hj => ?_, x_makeR rfl rfl rfl (makeI2 n hn w2), ?_⟩⟩
      · match j, hj with
        | 0, _ => rfl
        | 1, hj => rw [hDi] at hj; cases hj
        | 2, _ => rfl
        | 3, _ => rfl
        | 4, _ => rfl
        | 5, _ => rfl
        | 6, _ => rfl
        | 7, _ => rfl
        | 8, hj => rw [h8] at hj; cases hj
        | 9, _ => rfl
        | 10, hj => rw [h10] at hj; cases hj
        | j + 11, _ => rfl
      · simp only [hDi, h10, cond_false] at hW
        have h4 := HP.alloc hW (irow n (fun _ => 0)) 3
        have h5 : HP Tr w (w2.alloc (.cells (irow n (fun _ => 0)) 3)) ([.cel b1 #[.slice none 0 0, .slice none 0 0, .slice none 0 0, .slice none 0 0, .int .i64 0, .bool false] 116] ++ ([Ent.cel w2.heap.size (irow n (fun _ => 0)) 3] ++ ((bif D 3 then [Ent.cel (g 3) (irow n (fun _ => 0)) 3] else []) ++ ((bif D 5 then [Ent.cel (g 5) (irow n (fun _ => 0)) 3] else []) ++ ((bif D 7 then [Ent.cel (g 7) (irow n (fun _ => 0)) 3] else []) ++ (bif D 9 then [Ent.cel (g 9) #[.slice none 0 0, .slice none 0 0, .slice none 0 0, .slice none 0 0, .int .i64 0, .bool false] 116] else [])))))) := HP.perm h4 (by
          have q := permIns ([.cel b1 #[.slice none 0 0, .slice none 0 0, .slice none 0 0, .slice none 0 0, .int .i64 0, .bool false] 116]) ((bif D 3 then [Ent.cel (g 3) (irow n (fun _ => 0)) 3] else []) ++ (bif D 5 then [Ent.cel (g 5) (irow n (fun _ => 0)) 3] else []) ++ (bif D 7 then [Ent.cel (g 7) (irow n (fun _ => 0)) 3] else []) ++ (bif D 9 then [Ent.cel (g 9) #[.slice none 0 0, .slice none 0 0, .slice none 0 0, .slice none 0 0, .int .i64 0, .bool false] 116] else [])) (Ent.cel w2.heap.size (irow n (fun _ => 0)) 3)
          simpa only [List.append_assoc, List.nil_append, List.append_nil, List.singleton_append, List.cons_append] using q)
        show HP Tr w _ ([.cel b1 #[.slice none 0 0, .slice none 0 0, .slice none 0 0, .slice none 0 0, .int .i64 0, .bool false] 116] ++ ([Ent.cel w2.heap.size (irow n (fun _ => 0)) 3] ++ ((bif D 3 then [Ent.cel (g 3) (irow n (fun _ => 0)) 3] else []) ++ ((bif D 5 then [Ent.cel (g 5) (irow n (fun _ => 0)) 3] else []) ++ ((bif D 7 then [Ent.cel (g 7) (irow n (fun _ => 0)) 3] else []) ++ (bif D 9 then [Ent.cel (g 9) (bif D 10 then #[.slice (some ⟨w2.heap.size, 0, none⟩) n n, .slice (some ⟨g 3, 0, none⟩) n n, .slice (some ⟨g 5, 0, none⟩) n n, .slice (some ⟨g 7, 0, none⟩) n n, .int .i64 0, .bool true] else #[.slice none 0 0, .slice none 0 0, .slice none 0 0, .slice none 0 0, .int .i64 0, .bool false]) 116] else []))))))
        rw [h10]
        exact h5
    case o2 =>
      intro g D w2 hDi hdep hclo hW
      exact .inl ⟨rfl, rfl, .inl ⟨g, w2, fun _ _ => rfl, by kernel_rfl, hW⟩⟩
    case o3 =>
      intro g D w2 hDi hdep hclo hW
      have h8 : D 8 = false := by
        cases h : D 8 with
        | false => rfl
        | true => exact absurd (hclo 8 _ rfl h ⟨3, .data⟩ (by simp) rfl) (by rw [hDi]; exact Bool.false_ne_true)
      have h10 : D 10 = false := by
        cases h : D 10 with
        | false => rfl
        | true => exact absurd (hclo 10 _ rfl h ⟨3, .phase⟩ (by simp) rfl) (by rw [hDi]; exact Bool.false_ne_true)
      refine .inl ⟨rfl, rfl, .inl ⟨fun j => if j = 3 then w2.heap.size else g j, _, fun j hj => ?_, x_makeR rfl rfl rfl (makeI2 n hn w2), ?_⟩⟩
      · match j, hj with
        | 0, _ => rfl
        | 1, _ => rfl
        | 2, _ => rfl
        | 3, hj => rw [hDi] at hj; cases hj
        | 4, _ => rfl
        | 5, _ => rfl
        | 6, _ => rfl
        | 7, _ => rfl
        | 8, hj => rw [h8] at hj; cases hj
        | 9, _ => rfl
        | 10, hj => rw [h10] at hj; cases hj
        | j + 11, _ => rfl
      · simp only [hDi, h10, cond_false] at hW
        have h4 := HP.alloc hW (irow n (fun _ => 0)) 3
        have h5 : HP Tr w (w2.alloc (.cells (irow n (fun _ => 0)) 3)) ([.cel b1 #[.slice none 0 0, .slice none 0 0, .slice none 0 0, .slice none 0 0, .int .i64 0, .bool false] 116] ++ ((bif D 1 then [Ent.cel (g 1) (irow n (fun _ => 0)) 3] else []) ++ ([Ent.cel w2.heap.size (irow n (fun _ => 0)) 3] ++ ((bif D 5 then [Ent.cel (g 5) (irow n (fun _ => 0)) 3] else []) ++ ((bif D 7 then [Ent.cel (g 7) (irow n (fun _ => 0)) 3] else []) ++ (bif D 9 then [Ent.cel (g 9) #[.slice none 0 0, .slice none 0 0, .slice none 0 0, .slice none 0 0, .int .i64 0, .bool false] 116] else [])))))) := HP.perm h4 (by
          have q := permIns ([.cel b1 #[.slice none 0 0, .slice none 0 0, .slice none 0 0, .slice none 0 0, .int .i64 0, .bool false] 116] ++ (bif D 1 then [Ent.cel (g 1) (irow n (fun _ => 0)) 3] else [])) ((bif D 5 then [Ent.cel (g 5) (irow n (fun _ => 0)) 3] else []) ++ (bif D 7 then [Ent.cel (g 7) (irow n (fun _ => 0)) 3] else []) ++ (bif D 9 then [Ent.cel (g 9) #[.slice none 0 0, .slice none 0 0, .slice none 0 0, .slice none 0 0, .int .i64 0, .bool false] 116] else [])) (Ent.cel w2.heap.size (irow n (fun _ => 0)) 3)
          simpa only [List.append_assoc, List.nil_append, List.append_nil, List.singleton_append, List.cons_append] using q)
        show HP Tr w _ ([.cel b1 #[.slice none 0 0, .slice none 0 0, .slice none 0 0, .slice none 0 0, .int .i64 0, .bool false] 116] ++ ((bif D 1 then [Ent.cel (g 1) (irow n (fun _ => 0)) 3] else []) ++ ([Ent.cel w2.heap.size (irow n (fun _ => 0)) 3] ++ ((bif D 5 then [Ent.cel (g 5) (irow n (fun _ => 0)) 3] else []) ++ ((bif D 7 then [Ent.cel (g 7) (irow n (fun _ => 0)) 3] else []) ++ (bif D 9 then [Ent.cel (g 9) (bif D 10 then #[.slice (some ⟨g 1, 0, none⟩) n n, .slice (some ⟨w2.heap.size, 0, none⟩) n n, .slice (some ⟨g 5, 0, none⟩) n n, .slice (some ⟨g 7, 0, none⟩) n n, .int .i64 0, .bool true] else #[.slice none 0 0, .slice none 0 0, .slice none 0 0, .slice none 0 0, .int .i64 0, .bool false]) 116] else []))))))
        rw [h10]
        exact h5
    case o4 =>
      intro g D w2 hDi hdep hclo hW
      exact .inl ⟨rfl, rfl, .inl ⟨g, w2, fun _ _ => rfl, by kernel_rfl, hW⟩⟩
    case o5 =>
      intro g D w2 hDi hdep hclo hW
      have h8 : D 8 = false := by
        cases h : D 8 with
        | false => rfl
        | true => exact absurd (hclo 8 _ rfl h ⟨5, .data⟩ (by simp) rfl) (by rw [hDi]; exact Bool.false_ne_true)
      have h10 : D 10 = false := by
        cases h : D 10 with
        | false => rfl
        | true => exact absurd (hclo 10 _ rfl h ⟨5, .phase⟩ (by simp) rfl) (by rw [hDi]; exact Bool.false_ne_true)
      refine .inl ⟨rfl, rfl, .inl ⟨fun j => if j = 5 then w2.heap.size else g j, _, fun j hj => ?_, x_makeR rfl rfl rfl (makeI2 n hn w2), ?_⟩⟩
      · match j, hj with
        | 0, _ => rfl
        | 1, _ => rfl
        | 2, _ => rfl
        | 3, _ => rfl
        | 4, _ => rfl
        | 5, hj => rw [hDi] at hj; cases hj
        | 6, _ => rfl
        | 7, _ => rfl
        | 8, hj => rw [h8] at hj; cases hj
        | 9, _ => rfl
        | 10, hj => rw [h10] at hj; cases hj
        | j + 11, _ => rfl
      · simp only [hDi, h10, cond_false] at hW
        have h4 := HP.alloc hW (irow n (fun _ => 0)) 3
        have h5 : HP Tr w (w2.alloc (.cells (irow n (fun _ => 0)) 3)) ([.cel b1 #[.slice none 0 0, .slice none 0 0, .slice none 0 0, .slice none 0 0, .int .i64 0, .bool false] 116] ++ ((bif D 1 then [Ent.cel (g 1) (irow n (fun _ => 0)) 3] else []) ++ ((bif D 3 then [Ent.cel (g 3) (irow n (fun _ => 0)) 3] else []) ++ ([Ent.cel w2.heap.size (irow n (fun _ => 0)) 3] ++ ((bif D 7 then [Ent.cel (g 7) (irow n (fun _ => 0)) 3] else []) ++ (bif D 9 then [Ent.cel (g 9) #[.slice none 0 0, .slice none 0 0, .slice none 0 0, .slice none 0 0, .int .i64 0, .bool false] 116] else [])))))) := HP.perm h4 (by
          have q := permIns ([.cel b1 #[.slice none 0 0, .slice none 0 0, .slice none 0 0, .slice none 0 0, .int .i64 0, .bool false] 116] ++ (bif D 1 then [Ent.cel (g 1) (irow n (fun _ => 0)) 3] else []) ++ (bif D 3 then [Ent.cel (g 3) (irow n (fun _ => 0)) 3] else [])) ((bif D 7 then [Ent.cel (g 7) (irow n (fun _ => 0)) 3] else []) ++ (bif D 9 then [Ent.cel (g 9) #[.slice none 0 0, .slice none 0 0, .slice none 0 0, .slice none 0 0, .int .i64 0, .bool false] 116] else [])) (Ent.cel w2.heap.size (irow n (fun _ => 0)) 3)
          simpa only [List.append_assoc, List.nil_append, List.append_nil, List.singleton_append, List.cons_append] using q)
        show HP Tr w _ ([.cel b1 #[.slice none 0 0, .slice none 0 0, .slice none 0 0, .slice none 0 0, .int .i64 0, .bool false] 116] ++ ((bif D 1 then [Ent.cel (g 1) (irow n (fun _ => 0)) 3] else []) ++ ((bif D 3 then [Ent.cel (g 3) (irow n (fun _ => 0)) 3] else []) ++ ([Ent.cel w2.heap.size (irow n (fun _ => 0)) 3] ++ ((bif D 7 then [Ent.cel (g 7) (irow n (fun _ => 0)) 3] else []) ++ (bif D 9 then [Ent.cel (g 9) (bif D 10 then #[.slice (some ⟨g 1, 0, none⟩) n n, .slice (some ⟨g 3, 0, none⟩) n n, .slice (some ⟨w2.heap.size, 0, none⟩) n n, .slice (some ⟨g 7, 0, none⟩) n n, .int .i64 0, .bool true] else #[.slice none 0 0, .slice none 0 0, .slice none 0 0, .slice none 0 0, .int .i64 0, .bool false]) 116] else []))))))
        rw [h10]
        exact h5
    case o6 =>
      intro g D w2 hDi hdep hclo hW
      exact .inl ⟨rfl, rfl, .inl ⟨g, w2, fun _ _ => rfl, by kernel_rfl, hW⟩⟩
    case o7 =>
      intro g D w2 hDi hdep hclo hW
      have h8 : D 8 = false := by
        cases h : D 8 with
        | false => rfl
        | true => exact absurd (hclo 8 _ rfl h ⟨7, .data⟩ (by simp) rfl) (by rw [hDi]; exact Bool.false_ne_true)
      have h10 : D 10 = false := by
        cases h : D 10 with
        | false => rfl
        | true => exact absurd (hclo 10 _ rfl h ⟨7, .phase⟩ (by simp) rfl) (by rw [hDi]; exact Bool.false_ne_true)
      refine .inl ⟨rfl, rfl, .inl ⟨fun j => if j = 7 then w2.heap.size else g j, _, fun j hj => ?_, x_makeR rfl rfl rfl (makeI2 n hn w2), ?_⟩⟩
      · match j, hj with
        | 0, _ => rfl
        | 1, _ => rfl
        | 2, _ => rfl
        | 3, _ => rfl
        | 4, _ => rfl
        | 5, _ => rfl
        | 6, _ => rfl
        | 7, hj => rw [hDi] at hj; cases hj
        | 8, hj => rw [h8] at hj; cases hj
        | 9, _ => rfl
        | 10, hj => rw [h10] at hj; cases hj
        | j + 11, _ => rfl
      · simp only [hDi, h10, cond_false] at hW
        have h4 := HP.alloc hW (irow n (fun _ => 0)) 3
        have h5 : HP Tr w (w2.alloc (.cells (irow n (fun _ => 0)) 3)) ([.cel b1 #[.slice none 0 0, .slice none 0 0, .slice none 0 0, .slice none 0 0, .int .i64 0, .bool false] 116] ++ ((bif D 1 then [Ent.cel (g 1) (irow n (fun _ => 0)) 3] else []) ++ ((bif D 3 then [Ent.cel (g 3) (irow n (fun _ => 0)) 3] else []) ++ ((bif D 5 then [Ent.cel (g 5) (irow n (fun _ => 0)) 3] else []) ++ ([Ent.cel w2.heap.size (irow n (fun _ => 0)) 3] ++ (bif D 9 then [Ent.cel (g 9) #[.slice none 0 0, .slice none 0 0, .slice none 0 0, .slice none 0 0, .int .i64 0, .bool false] 116] else [])))))) := HP.perm h4 (by
          have q := permIns ([.cel b1 #[.slice none 0 0, .slice none 0 0, .slice none 0 0, .slice none 0 0, .int .i64 0, .bool false] 116] ++ (bif D 1 then [Ent.cel (g 1) (irow n (fun _ => 0)) 3] else []) ++ (bif D 3 then [Ent.cel (g 3) (irow n (fun _ => 0)) 3] else []) ++ (bif D 5 then [Ent.cel (g 5) (irow n (fun _ => 0)) 3] else [])) ((bif D 9 then [Ent.cel (g 9) #[.slice none 0 0, .slice none 0 0, .slice none 0 0, .slice none 0 0, .int .i64 0, .bool false] 116] else [])) (Ent.cel w2.heap.size (irow n (fun _ => 0)) 3)
          simpa only [List.append_assoc, List.nil_append, List.append_nil, List.singleton_append, List.cons_append] using q)
        show HP Tr w _ ([.cel b1 #[.slice none 0 0, .slice none 0 0, .slice none 0 0, .slice none 0 0, .int .i64 0, .bool false] 116] ++ ((bif D 1 then [Ent.cel (g 1) (irow n (fun _ => 0)) 3] else []) ++ ((bif D 3 then [Ent.cel (g 3) (irow n (fun _ => 0)) 3] else []) ++ ((bif D 5 then [Ent.cel (g 5) (irow n (fun _ => 0)) 3] else []) ++ ([Ent.cel w2.heap.size (irow n (fun _ => 0)) 3] ++ (bif D 9 then [Ent.cel (g 9) (bif D 10 then #[.slice (some ⟨g 1, 0, none⟩) n n, .slice (some ⟨g 3, 0, none⟩) n n, .slice (some ⟨g 5, 0, none⟩) n n, .slice (some ⟨w2.heap.size, 0, none⟩) n n, .int .i64 0, .bool true] else #[.slice none 0 0, .slice none 0 0, .slice none 0 0, .slice none 0 0, .int .i64 0, .bool false]) 116] else []))))))
        rw [h10]
        exact h5
    case o8 =>
      intro g D w2 hDi hdep hclo hW
      exact .inl ⟨rfl, rfl, .inl ⟨g, w2, fun _ _ => rfl, by kernel_rfl, hW⟩⟩
    case o9 =>
      intro g D w2 hDi hdep hclo hW
      have h10 : D 10 = false := by
        cases h : D 10 with
        | false => rfl
        | true => exact absurd (hclo 10 _ rfl h ⟨9, .data⟩ (by simp) rfl) (by rw [hDi]; exact Bool.false_ne_true)
      refine .inl ⟨rfl, rfl, .inl ⟨fun j => if j = 9 then w2.heap.size else g j, w2.alloc (.cells #[.slice none 0 0, .slice none 0 0, .slice none 0 0, .slice none 0 0, .int .i64 0, .bool false] 116), fun j hj => ?_, by kernel_rfl, ?_⟩⟩
      · match j, hj with
        | 0, _ => rfl
        | 1, _ => rfl
        | 2, _ => rfl
        | 3, _ => rfl
        | 4, _ => rfl
        | 5, _ => rfl
        | 6, _ => rfl
        | 7, _ => rfl
        | 8, _ => rfl
        | 9, hj => rw [hDi] at hj; cases hj
        | 10, hj => rw [h10] at hj; cases hj
        | j + 11, _ => rfl
      · simp only [hDi, h10, cond_false] at hW
        have h4 := HP.alloc hW #[.slice none 0 0, .slice none 0 0, .slice none 0 0, .slice none 0 0, .int .i64 0, .bool false] 116
        have h5 : HP Tr w (w2.alloc (.cells #[.slice none 0 0, .slice none 0 0, .slice none 0 0, .slice none 0 0, .int .i64 0, .bool false] 116)) ([.cel b1 #[.slice none 0 0, .slice none 0 0, .slice none 0 0, .slice none 0 0, .int .i64 0, .bool false] 116] ++ ((bif D 1 then [Ent.cel (g 1) (irow n (fun _ => 0)) 3] else []) ++ ((bif D 3 then [Ent.cel (g 3) (irow n (fun _ => 0)) 3] else []) ++ ((bif D 5 then [Ent.cel (g 5) (irow n (fun _ => 0)) 3] else []) ++ ((bif D 7 then [Ent.cel (g 7) (irow n (fun _ => 0)) 3] else []) ++ [Ent.cel w2.heap.size #[.slice none 0 0, .slice none 0 0, .slice none 0 0, .slice none 0 0, .int .i64 0, .bool false] 116]))))) := HP.perm h4 (by
          have q := permIns ([.cel b1 #[.slice none 0 0, .slice none 0 0, .slice none 0 0, .slice none 0 0, .int .i64 0, .bool false] 116] ++ (bif D 1 then [Ent.cel (g 1) (irow n (fun _ => 0)) 3] else []) ++ (bif D 3 then [Ent.cel (g 3) (irow n (fun _ => 0)) 3] else []) ++ (bif D 5 then [Ent.cel (g 5) (irow n (fun _ => 0)) 3] else []) ++ (bif D 7 then [Ent.cel (g 7) (irow n (fun _ => 0)) 3] else [])) ([]) (Ent.cel w2.heap.size #[.slice none 0 0, .slice none 0 0, .slice none 0 0, .slice none 0 0, .int .i64 0, .bool false] 116)
          simpa only [List.append_assoc, List.nil_append, List.append_nil, List.singleton_append, List.cons_append] using q)
        have e10 : (bif D 10 then #[.slice (some ⟨g 1, 0, none⟩) n n, .slice (some ⟨g 3, 0, none⟩) n n, .slice (some ⟨g 5, 0, none⟩) n n, .slice (some ⟨g 7, 0, none⟩) n n, .int .i64 0, .bool true] else #[.slice none 0 0, .slice none 0 0, .slice none 0 0, .slice none 0 0, .int .i64 0, .bool false] : Array Value) = #[.slice none 0 0, .slice none 0 0, .slice none 0 0, .slice none 0 0, .int .i64 0, .bool false] := by rw [h10]; rfl
        show HP Tr w _ ([.cel b1 #[.slice none 0 0, .slice none 0 0, .slice none 0 0, .slice none 0 0, .int .i64 0, .bool false] 116] ++ ((bif D 1 then [Ent.cel (g 1) (irow n (fun _ => 0)) 3] else []) ++ ((bif D 3 then [Ent.cel (g 3) (irow n (fun _ => 0)) 3] else []) ++ ((bif D 5 then [Ent.cel (g 5) (irow n (fun _ => 0)) 3] else []) ++ ((bif D 7 then [Ent.cel (g 7) (irow n (fun _ => 0)) 3] else []) ++ [Ent.cel w2.heap.size (bif D 10 then #[.slice (some ⟨g 1, 0, none⟩) n n, .slice (some ⟨g 3, 0, none⟩) n n, .slice (some ⟨g 5, 0, none⟩) n n, .slice (some ⟨g 7, 0, none⟩) n n, .int .i64 0, .bool true] else #[.slice none 0 0, .slice none 0 0, .slice none 0 0, .slice none 0 0, .int .i64 0, .bool false]) 116])))))
        rw [e10]
        exact h5
    case o10 =>
      intro g D w2 hDi hdep hclo hW
      have d1 : D 1 = true := hdep ⟨1, .phase⟩ (by simp) rfl
      have d3 : D 3 = true := hdep ⟨3, .phase⟩ (by simp) rfl
      have d5 : D 5 = true := hdep ⟨5, .phase⟩ (by simp) rfl
      have d7 : D 7 = true := hdep ⟨7, .phase⟩ (by simp) rfl
      have d9 : D 9 = true := hdep ⟨9, .phase⟩ (by simp) rfl
      simp only [hDi, d1, d3, d5, d7, d9, cond_true, cond_false] at hW
      have h4 := HP.setCells (off := 0) 5 [.slice (some ⟨g 1, 0, none⟩) n n, .slice (some ⟨g 3, 0, none⟩) n n, .slice (some ⟨g 5, 0, none⟩) n n, .slice (some ⟨g 7, 0, none⟩) n n, .int .i64 0, .bool true] hW rfl
      refine .inl ⟨rfl, rfl, .inr (.inl ⟨_, x_storeS rfl rfl rfl sz116 rfl (fun j hj => ⟨by rw [HP.cell hW 5 (off := 0 + j) rfl (Array.getElem?_eq_getElem (by simpa using hj))]; rfl, HP.free hW 5 rfl⟩), rfl, ?_⟩)⟩
      show HP Tr w _ ([.cel b1 #[.slice none 0 0, .slice none 0 0, .slice none 0 0, .slice none 0 0, .int .i64 0, .bool false] 116] ++ ((bif D 1 then [Ent.cel (g 1) (irow n (fun _ => 0)) 3] else []) ++ ((bif D 3 then [Ent.cel (g 3) (irow n (fun _ => 0)) 3] else []) ++ ((bif D 5 then [Ent.cel (g 5) (irow n (fun _ => 0)) 3] else []) ++ ((bif D 7 then [Ent.cel (g 7) (irow n (fun _ => 0)) 3] else []) ++ (bif D 9 then [Ent.cel (g 9) #[.slice (some ⟨g 1, 0, none⟩) n n, .slice (some ⟨g 3, 0, none⟩) n n, .slice (some ⟨g 5, 0, none⟩) n n, .slice (some ⟨g 7, 0, none⟩) n n, .int .i64 0, .bool true] 116] else []))))))
      simp only [d1, d3, d5, d7, d9, cond_true]
      exact h4
  intro g D w2 hall hW
  simp only [hall 1 (by kernel_rfl), hall 3 (by kernel_rfl), hall 5 (by kernel_rfl), hall 7 (by kernel_rfl), hall 9 (by kernel_rfl), hall 10 (by kernel_rfl), cond_true] at hW
  clear hall
  obtain ⟨g0, g1, g2, g3, b, e0, e1, e2, e3, e4⟩ : ∃ g0 g1 g2 g3 b, g0 = g 1 ∧ g1 = g 3 ∧ g2 = g 5 ∧ g3 = g 7 ∧ b = g 9 := ⟨_, _, _, _, _, rfl, rfl, rfl, rfl, rfl⟩
  rw [← e0, ← e1, ← e2, ← e3, ← e4] at hW
  refine WQ.sub (l' := [(0, .slice p n cap), (2, vP b1 0), (3, vI (n : Int)), (4, vP b 0)]) ⟨rfl, rfl, rfl, by rw [e4]; rfl, trivial⟩ ?_
  clear e0 e1 e2 e3 e4
  have hH8 : HP Tr w _ [.cel b1 #[.slice none 0 0, .slice none 0 0, .slice none 0 0, .slice none 0 0, .int .i64 0, .bool false] 116, .cel g0 (irow n (fun _ => 0)) 3, .cel g1 (irow n (fun _ => 0)) 3, .cel g2 (irow n (fun _ => 0)) 3, .cel g3 (irow n (fun _ => 0)) 3, .cel b #[.slice (some ⟨g0, 0, none⟩) n n, .slice (some ⟨g1, 0, none⟩) n n, .slice (some ⟨g2, 0, none⟩) n n, .slice (some ⟨g3, 0, none⟩) n n, .int .i64 0, .bool true] 116] := hW
  refine WQ.then (hK7 _ _ _ (WC.seq fun K9 hK9 => WC.region ?_))
  refine WL.z (v := .slice none 0 0) 5 ?_
  refine WL.nil (WQ.then (hK9 _ _ _ (WC.seq fun K10 hK10 => WC.seq fun K11 hK11 => WC.region ?_)))
  refine WL.z (v := .slice p n cap) 21 ?_
  refine WL.z (v := vI (n : Int)) 22 ?_
  refine WL.z (v := vI 0) 23 ?_
  refine WL.nil (WQ.then (hK11 _ _ _ (WC.block ?_)))
  have hO := HP.addOwn hH8 (v := .slice none 0 0) (k := 0) (xs := []) (e := 3) (s := 1) rfl (World.ownsRow_nil _ _ _ _)
  refine WC.loop (fun kk0 ll0 ww0 => ∃ (k : Nat) (s : Sh) (v : Value), ll0 = [(0, .slice p n cap), (2, vP b1 0), (3, vI (n : Int)), (4, vP b 0), (5, v), (21, .slice p n cap), (22, vI (n : Int)), (23, vI (k : Int))] ∧ kk0 = n - k ∧ (k ≤ n) ∧ (shp c k = some s) ∧ HP Tr w ww0 [.cel b1 #[.slice none 0 0, .slice none 0 0, .slice none 0 0, .slice none 0 0, .int .i64 0, .bool false] 116, .cel g0 (irow n s.o) 3, .cel g1 (irow n s.e) 3, .cel g2 (irow n s.d) 3, .cel g3 (irow n s.t) 3, .cel b #[.slice (some ⟨g0, 0, none⟩) n n, .slice (some ⟨g1, 0, none⟩) n n, .slice (some ⟨g2, 0, none⟩) n n, .slice (some ⟨g3, 0, none⟩) n n, .int .i64 (s.m : Int), .bool true] 116, .own v s.l.length (Ec.lI s.l) 3 1]) (n) [(0, .slice p n cap), (2, vP b1 0), (3, vI (n : Int)), (4, vP b 0), (5, .slice none 0 0), (21, .slice p n cap), (22, vI (n : Int)), (23, vI 0)] ⟨rfl, rfl, rfl, rfl, rfl, rfl, rfl, rfl, trivial⟩ ⟨0, Ec.s0, .slice none 0 0, rfl, rfl, Nat.zero_le n, rfl, hO⟩ ?_
  rintro kk l w13 ⟨k, s, v, rfl, hkk, hk, hs, hH14⟩ K12 hK12
  obtain ⟨pv, cp, rfl, hcp, hlc, hpv⟩ := own_form (HP.get hH14 6 rfl)
  refine WC.seq fun K15 hK15 => WC.region ?_
  by_cases hlt : (k : Int) < (n : Int)
  ·
    refine WL.y (v := .bool true) 24 (x_lss rfl rfl rfl (dT (hlt))) ?_
    refine WL.nil (WQ.then (hK15 _ _ _ (WC.seq fun K16 hK16 => WC.yes rfl (WC.skip (WQ.then (hK16 _ _ _ ?_))))))
    refine WC.seq fun K17 hK17 => WC.block (WC.seq fun K18 hK18 => ?_)
    obtain ⟨bb, oo, rfl, hrow⟩ := hIn (by omega)
    refine WC.region ?_
    refine WL.z (v := vI (k : Int)) 25 ?_
    refine WL.y (v := vP bb (oo + k * 3)) 26 (x_idx (k) (oo + k * 3) rfl rfl rfl Try.underlying42 sz75 (by omega) (by omega) (by omega)) ?_
    refine WL.y (v := .agg #[vI (c k), vI (A k), vI (B k)]) 27 (x_loadS (cs := [.int .i64 (c k), .int .i64 (A k), .int .i64 (B k)]) rfl rfl Try.underlying75 rfl sz75 (HP.oldRange hH14 trivial (hrow k (by omega)))) ?_
    refine WL.alloc (c := #[vI 0, vI 0, vI 0]) (T := 75) hH14 7 rfl (by decide) rfl rfl (fun b19 => vP b19 0) (by kernel_rfl) (fun b19 w20 hw20 => ?_)
    have hH21 : HP Tr w w20 [.cel b1 #[.slice none 0 0, .slice none 0 0, .slice none 0 0, .slice none 0 0, .int .i64 0, .bool false] 116, .cel g0 (irow n s.o) 3, .cel g1 (irow n s.e) 3, .cel g2 (irow n s.d) 3, .cel g3 (irow n s.t) 3, .cel b #[.slice (some ⟨g0, 0, none⟩) n n, .slice (some ⟨g1, 0, none⟩) n n, .slice (some ⟨g2, 0, none⟩) n n, .slice (some ⟨g3, 0, none⟩) n n, .int .i64 (s.m : Int), .bool true] 116, .own (.slice pv s.l.length cp) s.l.length (Ec.lI s.l) 3 1, .cel b19 #[vI 0, vI 0, vI 0] 75] := hw20.2
    have nb19 := hw20.1
    clear hw20
    refine WL.z (v := vI (k : Int)) 6 ?_
    refine WL.storeS (H2 := [.cel b1 #[.slice none 0 0, .slice none 0 0, .slice none 0 0, .slice none 0 0, .int .i64 0, .bool false] 116, .cel g0 (irow n s.o) 3, .cel g1 (irow n s.e) 3, .cel g2 (irow n s.d) 3, .cel g3 (irow n s.t) 3, .cel b #[.slice (some ⟨g0, 0, none⟩) n n, .slice (some ⟨g1, 0, none⟩) n n, .slice (some ⟨g2, 0, none⟩) n n, .slice (some ⟨g3, 0, none⟩) n n, .int .i64 (s.m : Int), .bool true] 116, .own (.slice pv s.l.length cp) s.l.length (Ec.lI s.l) 3 1, .cel b19 #[vI (c k), vI (A k), vI (B k)] 75]) 7 hH21 rfl rfl rfl rfl rfl rfl sz75 rfl (Nat.le_of_ble_eq_true rfl) rfl rfl ?_
    intro w22 hH23
    refine WL.nil (WQ.then (hK18 _ _ _ (WC.seq fun K24 hK24 => ?_)))
    refine WC.confG (γ := Unit) [(6, vI (k : Int)), (7, vP b19 0), (27, .agg #[vI (c k), vI (A k), vI (B k)]), (26, vP bb (oo + k * 3)), (25, vI (k : Int)), (24, .bool true), (0, .slice (some ⟨bb, oo, none⟩) n cap), (2, vP b1 0), (3, vI (n : Int)), (4, vP b 0), (5, .slice pv s.l.length cp), (21, .slice (some ⟨bb, oo, none⟩) n cap), (22, vI (n : Int)), (23, vI (k : Int))] (fun _ => [vP b 0, vS g0 n n, vI (k : Int), vP b 1, vS g1 n n, vI (k : Int), vP b 2, vS g2 n n, vI (k : Int), vP b 3, vS g3 n n, vI (k : Int), .slice pv s.l.length cp, vI (s.l.length : Int), vP g0 k, undef, vP g1 k, undef, vP g2 k, undef, vP g3 k, undef]) (fun _ D wz => HP Tr w wz [.cel b1 #[.slice none 0 0, .slice none 0 0, .slice none 0 0, .slice none 0 0, .int .i64 0, .bool false] 116, (bif D 15 then Ent.cel g0 (irow n (upI s.o k (-1))) 3 else Ent.cel g0 (irow n s.o) 3), (bif D 17 then Ent.cel g1 (irow n (upI s.e k (-1))) 3 else Ent.cel g1 (irow n s.e) 3), (bif D 19 then Ent.cel g2 (irow n (upI s.d k (-1))) 3 else Ent.cel g2 (irow n s.d) 3), (bif D 21 then Ent.cel g3 (irow n (upI s.t k (s.l.length : Int))) 3 else Ent.cel g3 (irow n s.t) 3), .cel b #[.slice (some ⟨g0, 0, none⟩) n n, .slice (some ⟨g1, 0, none⟩) n n, .slice (some ⟨g2, 0, none⟩) n n, .slice (some ⟨g3, 0, none⟩) n n, .int .i64 (s.m : Int), .bool true] 116, .own (.slice pv s.l.length cp) s.l.length (Ec.lI s.l) 3 1, .cel b19 #[vI (c k), vI (A k), vI (B k)] 75]) () (by kernel_rfl) ⟨rfl, rfl, rfl, rfl, rfl, rfl, rfl, rfl, rfl, rfl, rfl, rfl, rfl, rfl, trivial⟩ (by kernel_rfl) (by kernel_rfl) (by kernel_rfl) (fun _ => rfl) (by kernel_rfl) (HP.drew hH23) ?_ ?_
    · refine AllOk.cons ?o0 (AllOk.cons ?o1 (AllOk.cons ?o2 (AllOk.cons ?o3 (AllOk.cons ?o4 (AllOk.cons ?o5 (AllOk.cons ?o6 (AllOk.cons ?o7 (AllOk.cons ?o8 (AllOk.cons ?o9 (AllOk.cons ?o10 (AllOk.cons ?o11 (AllOk.cons ?o12 (AllOk.cons ?o13 (AllOk.cons ?o14 (AllOk.cons ?o15 (AllOk.cons ?o16 (AllOk.cons ?o17 (AllOk.cons ?o18 (AllOk.cons ?o19 (AllOk.cons ?o20 (AllOk.cons ?o21 (AllOk.nil _))))))))))))))))))))))
      case o0 =>
        intro g D wz hDi hdep hclo hW
        exact .inl ⟨rfl, rfl, .inl ⟨g, wz, fun _ _ => rfl, by kernel_rfl, hW⟩⟩
      case o1 =>
        intro g D wz hDi hdep hclo hW
        exact .inl ⟨rfl, rfl, .inl ⟨g, wz, fun _ _ => rfl, x_load rfl rfl Try.underlying33 rfl (HP.cell hW 5 rfl rfl), hW⟩⟩
      case o2 =>
        intro g D wz hDi hdep hclo hW
        exact .inl ⟨rfl, rfl, .inl ⟨g, wz, fun _ _ => rfl, by kernel_rfl, hW⟩⟩
      case o3 =>
        intro g D wz hDi hdep hclo hW
        exact .inl ⟨rfl, rfl, .inl ⟨g, wz, fun _ _ => rfl, by kernel_rfl, hW⟩⟩
      case o4 =>
        intro g D wz hDi hdep hclo hW
        exact .inl ⟨rfl, rfl, .inl ⟨g, wz, fun _ _ => rfl, x_load rfl rfl Try.underlying33 rfl (HP.cell hW 5 rfl rfl), hW⟩⟩
      case o5 =>
        intro g D wz hDi hdep hclo hW
        exact .inl ⟨rfl, rfl, .inl ⟨g, wz, fun _ _ => rfl, by kernel_rfl, hW⟩⟩
      case o6 =>
        intro g D wz hDi hdep hclo hW
        exact .inl ⟨rfl, rfl, .inl ⟨g, wz, fun _ _ => rfl, by kernel_rfl, hW⟩⟩
      case o7 =>
        intro g D wz hDi hdep hclo hW
        exact .inl ⟨rfl, rfl, .inl ⟨g, wz, fun _ _ => rfl, x_load rfl rfl Try.underlying33 rfl (HP.cell hW 5 rfl rfl), hW⟩⟩
      case o8 =>
        intro g D wz hDi hdep hclo hW
        exact .inl ⟨rfl, rfl, .inl ⟨g, wz, fun _ _ => rfl, by kernel_rfl, hW⟩⟩
      case o9 =>
        intro g D wz hDi hdep hclo hW
        exact .inl ⟨rfl, rfl, .inl ⟨g, wz, fun _ _ => rfl, by kernel_rfl, hW⟩⟩
      case o10 =>
        intro g D wz hDi hdep hclo hW
        exact .inl ⟨rfl, rfl, .inl ⟨g, wz, fun _ _ => rfl, x_load rfl rfl Try.underlying33 rfl (HP.cell hW 5 rfl rfl), hW⟩⟩
      case o11 =>
        intro g D wz hDi hdep hclo hW
        exact .inl ⟨rfl, rfl, .inl ⟨g, wz, fun _ _ => rfl, by kernel_rfl, hW⟩⟩
      case o12 =>
        intro g D wz hDi hdep hclo hW
        exact .inl ⟨rfl, rfl, .inl ⟨g, wz, fun _ _ => rfl, by kernel_rfl, hW⟩⟩
      case o13 =>
        intro g D wz hDi hdep hclo hW
        exact .inl ⟨rfl, rfl, .inl ⟨g, wz, fun _ _ => rfl, by kernel_rfl, hW⟩⟩
      case o14 =>
        intro g D wz hDi hdep hclo hW
        exact .inl ⟨rfl, rfl, .inl ⟨g, wz, fun _ _ => rfl, x_idx (k) (k) rfl rfl rfl Try.underlying33 sz3 (by omega) (by omega) (by omega), hW⟩⟩
      case o15 =>
        intro g D wz hDi hdep hclo hW
        simp only [hDi, cond_false] at hW
        have h3 : HP Tr w (wz.setCell ⟨g0, k, none⟩ (vI (-1))) [.cel b1 #[.slice none 0 0, .slice none 0 0, .slice none 0 0, .slice none 0 0, .int .i64 0, .bool false] 116, .cel g0 (irow n (upI s.o k (-1))) 3, (bif D 17 then Ent.cel g1 (irow n (upI s.e k (-1))) 3 else Ent.cel g1 (irow n s.e) 3), (bif D 19 then Ent.cel g2 (irow n (upI s.d k (-1))) 3 else Ent.cel g2 (irow n s.d) 3), (bif D 21 then Ent.cel g3 (irow n (upI s.t k (s.l.length : Int))) 3 else Ent.cel g3 (irow n s.t) 3), .cel b #[.slice (some ⟨g0, 0, none⟩) n n, .slice (some ⟨g1, 0, none⟩) n n, .slice (some ⟨g2, 0, none⟩) n n, .slice (some ⟨g3, 0, none⟩) n n, .int .i64 (s.m : Int), .bool true] 116, .own (.slice pv s.l.length cp) s.l.length (Ec.lI s.l) 3 1, .cel b19 #[vI (c k), vI (A k), vI (B k)] 75] := by have h4 := HP.set (off := k) (v := vI (-1)) hW 1 rfl; rw [irow_set] at h4; exact h4
        exact .inl ⟨rfl, rfl, .inr (.inl ⟨_, x_store rfl rfl rfl sz3 rfl (HP.cell hW 1 rfl (irow_get (by omega) rfl)) (HP.free hW 1 rfl), rfl, h3⟩)⟩
      case o16 =>
        intro g D wz hDi hdep hclo hW
        exact .inl ⟨rfl, rfl, .inl ⟨g, wz, fun _ _ => rfl, x_idx (k) (k) rfl rfl rfl Try.underlying33 sz3 (by omega) (by omega) (by omega), hW⟩⟩
      case o17 =>
        intro g D wz hDi hdep hclo hW
        simp only [hDi, cond_false] at hW
        have h3 : HP Tr w (wz.setCell ⟨g1, k, none⟩ (vI (-1))) [.cel b1 #[.slice none 0 0, .slice none 0 0, .slice none 0 0, .slice none 0 0, .int .i64 0, .bool false] 116, (bif D 15 then Ent.cel g0 (irow n (upI s.o k (-1))) 3 else Ent.cel g0 (irow n s.o) 3), .cel g1 (irow n (upI s.e k (-1))) 3, (bif D 19 then Ent.cel g2 (irow n (upI s.d k (-1))) 3 else Ent.cel g2 (irow n s.d) 3), (bif D 21 then Ent.cel g3 (irow n (upI s.t k (s.l.length : Int))) 3 else Ent.cel g3 (irow n s.t) 3), .cel b #[.slice (some ⟨g0, 0, none⟩) n n, .slice (some ⟨g1, 0, none⟩) n n, .slice (some ⟨g2, 0, none⟩) n n, .slice (some ⟨g3, 0, none⟩) n n, .int .i64 (s.m : Int), .bool true] 116, .own (.slice pv s.l.length cp) s.l.length (Ec.lI s.l) 3 1, .cel b19 #[vI (c k), vI (A k), vI (B k)] 75] := by have h4 := HP.set (off := k) (v := vI (-1)) hW 2 rfl; rw [irow_set] at h4; exact h4
        exact .inl ⟨rfl, rfl, .inr (.inl ⟨_, x_store rfl rfl rfl sz3 rfl (HP.cell hW 2 rfl (irow_get (by omega) rfl)) (HP.free hW 2 rfl), rfl, h3⟩)⟩
      case o18 =>
        intro g D wz hDi hdep hclo hW
        exact .inl ⟨rfl, rfl, .inl ⟨g, wz, fun _ _ => rfl, x_idx (k) (k) rfl rfl rfl Try.underlying33 sz3 (by omega) (by omega) (by omega), hW⟩⟩
      case o19 =>
        intro g D wz hDi hdep hclo hW
        simp only [hDi, cond_false] at hW
        have h3 : HP Tr w (wz.setCell ⟨g2, k, none⟩ (vI (-1))) [.cel b1 #[.slice none 0 0, .slice none 0 0, .slice none 0 0, .slice none 0 0, .int .i64 0, .bool false] 116, (bif D 15 then Ent.cel g0 (irow n (upI s.o k (-1))) 3 else Ent.cel g0 (irow n s.o) 3), (bif D 17 then Ent.cel g1 (irow n (upI s.e k (-1))) 3 else Ent.cel g1 (irow n s.e) 3), .cel g2 (irow n (upI s.d k (-1))) 3, (bif D 21 then Ent.cel g3 (irow n (upI s.t k (s.l.length : Int))) 3 else Ent.cel g3 (irow n s.t) 3), .cel b #[.slice (some ⟨g0, 0, none⟩) n n, .slice (some ⟨g1, 0, none⟩) n n, .slice (some ⟨g2, 0, none⟩) n n, .slice (some ⟨g3, 0, none⟩) n n, .int .i64 (s.m : Int), .bool true] 116, .own (.slice pv s.l.length cp) s.l.length (Ec.lI s.l) 3 1, .cel b19 #[vI (c k), vI (A k), vI (B k)] 75] := by have h4 := HP.set (off := k) (v := vI (-1)) hW 3 rfl; rw [irow_set] at h4; exact h4
        exact .inl ⟨rfl, rfl, .inr (.inl ⟨_, x_store rfl rfl rfl sz3 rfl (HP.cell hW 3 rfl (irow_get (by omega) rfl)) (HP.free hW 3 rfl), rfl, h3⟩)⟩
      case o20 =>
        intro g D wz hDi hdep hclo hW
        exact .inl ⟨rfl, rfl, .inl ⟨g, wz, fun _ _ => rfl, x_idx (k) (k) rfl rfl rfl Try.underlying33 sz3 (by omega) (by omega) (by omega), hW⟩⟩
      case o21 =>
        intro g D wz hDi hdep hclo hW
        simp only [hDi, cond_false] at hW
        have h3 : HP Tr w (wz.setCell ⟨g3, k, none⟩ (vI (s.l.length : Int))) [.cel b1 #[.slice none 0 0, .slice none 0 0, .slice none 0 0, .slice none 0 0, .int .i64 0, .bool false] 116, (bif D 15 then Ent.cel g0 (irow n (upI s.o k (-1))) 3 else Ent.cel g0 (irow n s.o) 3), (bif D 17 then Ent.cel g1 (irow n (upI s.e k (-1))) 3 else Ent.cel g1 (irow n s.e) 3), (bif D 19 then Ent.cel g2 (irow n (upI s.d k (-1))) 3 else Ent.cel g2 (irow n s.d) 3), .cel g3 (irow n (upI s.t k (s.l.length : Int))) 3, .cel b #[.slice (some ⟨g0, 0, none⟩) n n, .slice (some ⟨g1, 0, none⟩) n n, .slice (some ⟨g2, 0, none⟩) n n, .slice (some ⟨g3, 0, none⟩) n n, .int .i64 (s.m : Int), .bool true] 116, .own (.slice pv s.l.length cp) s.l.length (Ec.lI s.l) 3 1, .cel b19 #[vI (c k), vI (A k), vI (B k)] 75] := by have h4 := HP.set (off := k) (v := vI (s.l.length : Int)) hW 4 rfl; rw [irow_set] at h4; exact h4
        exact .inl ⟨rfl, rfl, .inr (.inl ⟨_, x_store rfl rfl rfl sz3 rfl (HP.cell hW 4 rfl (irow_get (by omega) rfl)) (HP.free hW 4 rfl), rfl, h3⟩)⟩
    intro g D w25 hall hH26
    simp only [hall 15 (by kernel_rfl), hall 17 (by kernel_rfl), hall 19 (by kernel_rfl), hall 21 (by kernel_rfl), cond_true] at hH26
    clear hall
    refine WQ.sub (l' := [(0, .slice (some ⟨bb, oo, none⟩) n cap), (2, vP b1 0), (3, vI (n : Int)), (4, vP b 0), (5, .slice pv s.l.length cp), (6, vI (k : Int)), (7, vP b19 0), (21, .slice (some ⟨bb, oo, none⟩) n cap), (22, vI (n : Int)), (23, vI (k : Int)), (24, .bool true)]) ⟨rfl, rfl, rfl, rfl, rfl, rfl, rfl, rfl, rfl, rfl, rfl, trivial⟩ ?_
    refine WQ.then (hK24 _ _ _ ?_)
    refine WC.cut (fun l w2 => l = [(0, .slice (some ⟨bb, oo, none⟩) n cap), (2, vP b1 0), (3, vI (n : Int)), (4, vP b 0), (5, .slice pv s.l.length cp), (6, vI (k : Int)), (7, vP b19 0), (21, .slice (some ⟨bb, oo, none⟩) n cap), (22, vI (n : Int)), (23, vI (k : Int)), (24, .bool true)] ∧ HP Tr w w2 [.cel b1 #[.slice none 0 0, .slice none 0 0, .slice none 0 0, .slice none 0 0, .int .i64 0, .bool false] 116, .cel g0 (irow n (Ec.lay k s).o) 3, .cel g1 (irow n (upI s.e k (-1))) 3, .cel g2 (irow n (upI s.d k (-1))) 3, .cel g3 (irow n (upI s.t k (s.l.length : Int))) 3, .cel b #[.slice (some ⟨g0, 0, none⟩) n n, .slice (some ⟨g1, 0, none⟩) n n, .slice (some ⟨g2, 0, none⟩) n n, .slice (some ⟨g3, 0, none⟩) n n, .int .i64 (s.m : Int), .bool true] 116, .own (.slice pv s.l.length cp) s.l.length (Ec.lI s.l) 3 1, .cel b19 #[vI (c k), vI (A k), vI (B k)] 75]) ?_ ?_
    ·
      refine WC.seq fun K27 hK27 => WC.region ?_
      refine WL.z (v := .slice pv s.l.length cp) 46 ?_
      refine WL.z (v := vI (s.l.length : Int)) 47 ?_
      by_cases h0 : (0 : Int) < (s.l.length : Int)
      ·
        refine WL.y (v := .bool true) 48 (x_gtr rfl rfl rfl (dT (h0))) ?_
        refine WL.nil (WQ.then (hK27 _ _ _ (WC.yes rfl ?_)))
        obtain ⟨g, rfl⟩ := hpv (by omega)
        obtain ⟨x, hx⟩ := last_of (l := s.l) (by omega)
        have hxk := (shp_lt k s hs).1 x (List.mem_of_getLast? hx)
        refine WC.stillTail 10 (by kernel_rfl) (by kernel_rfl) ?_
        have hH28 : HP Tr w _ [.cel b1 #[.slice none 0 0, .slice none 0 0, .slice none 0 0, .slice none 0 0, .int .i64 0, .bool false] 116, .cel g0 (irow n (upI s.o k (-1))) 3, .cel g1 (irow n (upI s.e k (-1))) 3, .cel g2 (irow n (upI s.d k (-1))) 3, .cel g3 (irow n (upI s.t k (s.l.length : Int))) 3, .cel b #[.slice (some ⟨g0, 0, none⟩) n n, .slice (some ⟨g1, 0, none⟩) n n, .slice (some ⟨g2, 0, none⟩) n n, .slice (some ⟨g3, 0, none⟩) n n, .int .i64 (s.m : Int), .bool true] 116, .own (.slice (some ⟨g, 0, none⟩) s.l.length cp) s.l.length (Ec.lI s.l) 3 1, .cel b19 #[vI (c k), vI (A k), vI (B k)] 75] := HP.drew hH26
        refine WS.z (v := vP b 0) 49 ?_
        refine WS.y (v := vS g0 n n) 50 (x_load rfl rfl Try.underlying33 rfl (HP.cell hH28 5 rfl rfl)) ?_
        refine WS.z (v := vI (k : Int)) 51 ?_
        refine WS.z (v := vS g s.l.length cp) 52 ?_
        refine WS.z (v := vS g s.l.length cp) 53 ?_
        refine WS.z (v := vI (s.l.length : Int)) 54 ?_
        refine WS.y (v := vI ((s.l.length - 1 : Nat) : Int)) 55 (x_sub (Z := ((s.l.length - 1 : Nat) : Int)) rfl rfl rfl (by omega) (by omega) (by omega)) ?_
        refine WS.y (v := vP g (s.l.length - 1)) 56 (x_idx (s.l.length - 1) (s.l.length - 1) rfl rfl rfl Try.underlying33 sz3 (by omega) (by omega) (by omega)) ?_
        refine WS.y (v := vI (x : Int)) 57 (x_load rfl rfl Try.underlying3 rfl (HP.ownCell hH28 6 rfl (last_cell hx))) ?_
        refine WS.y (v := vP g0 k) 58 (x_idx (k) (k) rfl rfl rfl Try.underlying33 sz3 (by omega) (by omega) (by omega)) ?_
        refine WS.nilL ?_
        refine WL.store (H2 := [.cel b1 #[.slice none 0 0, .slice none 0 0, .slice none 0 0, .slice none 0 0, .int .i64 0, .bool false] 116, .cel g0 (irow n (upI (upI s.o k (-1)) k (x : Int))) 3, .cel g1 (irow n (upI s.e k (-1))) 3, .cel g2 (irow n (upI s.d k (-1))) 3, .cel g3 (irow n (upI s.t k (s.l.length : Int))) 3, .cel b #[.slice (some ⟨g0, 0, none⟩) n n, .slice (some ⟨g1, 0, none⟩) n n, .slice (some ⟨g2, 0, none⟩) n n, .slice (some ⟨g3, 0, none⟩) n n, .int .i64 (s.m : Int), .bool true] 116, .own (.slice (some ⟨g, 0, none⟩) s.l.length cp) s.l.length (Ec.lI s.l) 3 1, .cel b19 #[vI (c k), vI (A k), vI (B k)] 75]) 1 hH28 rfl rfl rfl rfl rfl rfl sz3 rfl (by simp [size_irow]; omega) (irow_set _ _ _ _) rfl ?_
        intro w29 hH30
        refine WL.nil ?_
        refine WQ.sub (l' := [(0, .slice (some ⟨bb, oo, none⟩) n cap), (2, vP b1 0), (3, vI (n : Int)), (4, vP b 0), (5, vS g s.l.length cp), (6, vI (k : Int)), (7, vP b19 0), (21, .slice (some ⟨bb, oo, none⟩) n cap), (22, vI (n : Int)), (23, vI (k : Int)), (24, .bool true)]) ⟨rfl, rfl, rfl, rfl, rfl, rfl, rfl, rfl, rfl, rfl, rfl, trivial⟩ ?_
        refine WQ.cut ⟨rfl, ?_⟩
        rw [← lay_o_some hx]
        exact hH30
      ·
        refine WL.y (v := .bool false) 48 (x_gtr rfl rfl rfl (dF (h0))) ?_
        refine WL.nil (WQ.then (hK27 _ _ _ (WC.no rfl (WC.skip ?_))))
        refine WQ.sub (l' := [(0, .slice (some ⟨bb, oo, none⟩) n cap), (2, vP b1 0), (3, vI (n : Int)), (4, vP b 0), (5, .slice pv s.l.length cp), (6, vI (k : Int)), (7, vP b19 0), (21, .slice (some ⟨bb, oo, none⟩) n cap), (22, vI (n : Int)), (23, vI (k : Int)), (24, .bool true)]) ⟨rfl, rfl, rfl, rfl, rfl, rfl, rfl, rfl, rfl, rfl, rfl, trivial⟩ ?_
        refine WQ.cut ⟨rfl, ?_⟩
        rw [← lay_o_none (k := k) (s := s) (by omega)]
        exact hH26
    ·
      rintro l w31 ⟨rfl, hH32⟩
      refine WC.block (WC.seq fun K33 hK33 => WC.region ?_)
      refine WL.z (v := vP b19 0) 60 ?_
      refine WL.y (v := vI (c k)) 61 (x_load rfl rfl Try.underlying3 rfl (HP.cell hH32 7 rfl rfl)) ?_
      refine WL.call (f := 74) (args := #[vI (c k)]) 62 rfl (Nat.le_of_ble_eq_true rfl) rfl rfl (by kernel_rfl) ?_
      refine (Opens_any _ _).mono ?_
      rintro e w34 ⟨rfl, rfl⟩
      refine ⟨_, rfl, ?_⟩
      refine WL.z (v := .bool (opn (c k))) 59 ?_
      refine WL.nil (WQ.then (hK33 _ _ _ ?_))
      rcases Bool.eq_false_or_eq_true (opn (c k)) with hA | hA
      ·
        refine WC.yes (congrArg (fun b => some (Value.bool b)) hA) ?_
        refine WC.seq fun K35 hK35 => WC.region ?_
        refine WL.z (v := .slice pv s.l.length cp) 63 ?_
        refine WL.z (v := vI (k : Int)) 64 ?_
        refine WL.alloc (c := #[vI (k : Int)]) (T := 3) hH32 65 rfl (by decide) rfl rfl (fun b36 => vS b36 1 1) (by kernel_rfl) (fun b36 w37 hw37 => ?_)
        have hH38 : HP Tr w w37 [.cel b1 #[.slice none 0 0, .slice none 0 0, .slice none 0 0, .slice none 0 0, .int .i64 0, .bool false] 116, .cel g0 (irow n (Ec.lay k s).o) 3, .cel g1 (irow n (upI s.e k (-1))) 3, .cel g2 (irow n (upI s.d k (-1))) 3, .cel g3 (irow n (upI s.t k (s.l.length : Int))) 3, .cel b #[.slice (some ⟨g0, 0, none⟩) n n, .slice (some ⟨g1, 0, none⟩) n n, .slice (some ⟨g2, 0, none⟩) n n, .slice (some ⟨g3, 0, none⟩) n n, .int .i64 (s.m : Int), .bool true] 116, .own (.slice pv s.l.length cp) s.l.length (Ec.lI s.l) 3 1, .cel b19 #[vI (c k), vI (A k), vI (B k)] 75, .cel b36 #[vI (k : Int)] 3] := hw37.2
        have nb36 := hw37.1
        clear hw37
        refine WL.append (news := [vI (k : Int)]) 6 8 hH38 66 rfl (by decide) rfl rfl rfl rfl Try.underlying33 hi0 hz0 hz1 hz2 rfl (by decide) rfl rfl rfl rfl (by simp [Value.oneCell']) (by have := (shp_lt k s hs).2.1; unfold maxLen; omega) (by have := (shp_lt k s hs).2.1; omega) ?_
        rintro v2 w40 - hH39
        obtain ⟨pv2, cp2, rfl, hcp2, hlc2, hpv2⟩ := own_form (HP.get hH39 6 rfl)
        have hH41 : HP Tr w _ [.cel b1 #[.slice none 0 0, .slice none 0 0, .slice none 0 0, .slice none 0 0, .int .i64 0, .bool false] 116, .cel g0 (irow n (Ec.lay k s).o) 3, .cel g1 (irow n (upI s.e k (-1))) 3, .cel g2 (irow n (upI s.d k (-1))) 3, .cel g3 (irow n (upI s.t k (s.l.length : Int))) 3, .cel b #[.slice (some ⟨g0, 0, none⟩) n n, .slice (some ⟨g1, 0, none⟩) n n, .slice (some ⟨g2, 0, none⟩) n n, .slice (some ⟨g3, 0, none⟩) n n, .int .i64 (s.m : Int), .bool true] 116, .own (.slice pv2 (s.l.length + 1) cp2) (s.l.length + 1) (Ec.lI s.l ++ [.int .i64 (k : Int)]) 3 1, .cel b19 #[vI (c k), vI (A k), vI (B k)] 75, .cel b36 #[vI (k : Int)] 3] := hH39
        refine WL.z (v := .slice pv2 (s.l.length + 1) cp2) 5 ?_
        refine WL.nil (WQ.then (hK35 _ _ _ ?_))
        refine WC.sub (l' := [(0, .slice (some ⟨bb, oo, none⟩) n cap), (2, vP b1 0), (3, vI (n : Int)), (4, vP b 0), (5, .slice pv2 (s.l.length + 1) cp2), (6, vI (k : Int)), (7, vP b19 0), (21, .slice (some ⟨bb, oo, none⟩) n cap), (22, vI (n : Int)), (23, vI (k : Int)), (24, .bool true), (59, .bool (opn (c k)))]) ⟨rfl, rfl, rfl, rfl, rfl, rfl, rfl, rfl, rfl, rfl, rfl, rfl, trivial⟩ ?_
        refine WC.region ?_
        refine WL.z (v := vP b 4) 67 ?_
        refine WL.y (v := vI (s.m : Int)) 68 (x_load rfl rfl Try.underlying3 rfl (HP.cell hH41 5 rfl rfl)) ?_
        refine WL.z (v := .slice pv2 (s.l.length + 1) cp2) 69 ?_
        refine WL.z (v := vI ((s.l.length + 1 : Nat) : Int)) 70 ?_
        refine WL.y (v := vI ((max s.m (s.l.length + 1) : Nat) : Int)) 71 (x_max (Z := ((max s.m (s.l.length + 1) : Nat) : Int)) (t := 0) rfl rfl rfl (by split <;> omega)) ?_
        refine WL.z (v := vP b 4) 72 ?_
        refine WL.store (H2 := [.cel b1 #[.slice none 0 0, .slice none 0 0, .slice none 0 0, .slice none 0 0, .int .i64 0, .bool false] 116, .cel g0 (irow n (Ec.lay k s).o) 3, .cel g1 (irow n (upI s.e k (-1))) 3, .cel g2 (irow n (upI s.d k (-1))) 3, .cel g3 (irow n (upI s.t k (s.l.length : Int))) 3, .cel b #[.slice (some ⟨g0, 0, none⟩) n n, .slice (some ⟨g1, 0, none⟩) n n, .slice (some ⟨g2, 0, none⟩) n n, .slice (some ⟨g3, 0, none⟩) n n, vI ((max s.m (s.l.length + 1) : Nat) : Int), .bool true] 116, .own (.slice pv2 (s.l.length + 1) cp2) (s.l.length + 1) (Ec.lI s.l ++ [.int .i64 (k : Int)]) 3 1, .cel b19 #[vI (c k), vI (A k), vI (B k)] 75, .cel b36 #[vI (k : Int)] 3]) 5 hH41 rfl rfl rfl rfl rfl rfl sz3 rfl (Nat.le_of_ble_eq_true rfl) rfl rfl ?_
        intro w42 hH43
        refine WL.nil (WQ.inNormal (WQ.inNormal (WQ.then (hK17 _ _ _ ?_))))
        refine WC.sub (l' := [(0, .slice (some ⟨bb, oo, none⟩) n cap), (2, vP b1 0), (3, vI (n : Int)), (4, vP b 0), (5, .slice pv2 (s.l.length + 1) cp2), (6, vI (k : Int)), (7, vP b19 0), (21, .slice (some ⟨bb, oo, none⟩) n cap), (22, vI (n : Int)), (23, vI (k : Int)), (24, .bool true), (59, .bool (opn (c k)))]) ⟨rfl, rfl, rfl, rfl, rfl, rfl, rfl, rfl, rfl, rfl, rfl, rfl, trivial⟩ ?_
        refine WC.region ?_
        refine WL.y (v := vI ((k + 1 : Nat) : Int)) 159 (x_add (Z := ((k + 1 : Nat) : Int)) rfl rfl rfl (by omega) (by omega) (by omega)) ?_
        refine WL.z (v := vI ((k + 1 : Nat) : Int)) 23 ?_
        refine WL.nil ?_
        obtain ⟨s1, hs1⟩ : ∃ s1 : Sh, s1 = ⟨s.l ++ [k], (Ec.lay k s).o, (upI s.e k (-1)), (upI s.d k (-1)), (upI s.t k (s.l.length : Int)), max s.m (s.l.length + 1)⟩ := ⟨_, rfl⟩
        have hsN : shp c (k + 1) = some s1 := by
          rw [hs1]
          exact shp_step hs (stp_open hA)
        have el : s1.l.length = s.l.length + 1 := by rw [hs1]; simp
        have eI : Ec.lI s1.l = Ec.lI s.l ++ [.int .i64 (k : Int)] := by rw [hs1]; simp [lI]
        have hN := HP.eq (H' := [.cel b1 #[.slice none 0 0, .slice none 0 0, .slice none 0 0, .slice none 0 0, .int .i64 0, .bool false] 116, .cel g0 (irow n s1.o) 3, .cel g1 (irow n s1.e) 3, .cel g2 (irow n s1.d) 3, .cel g3 (irow n s1.t) 3, .cel b #[.slice (some ⟨g0, 0, none⟩) n n, .slice (some ⟨g1, 0, none⟩) n n, .slice (some ⟨g2, 0, none⟩) n n, .slice (some ⟨g3, 0, none⟩) n n, .int .i64 (s1.m : Int), .bool true] 116, .own (.slice pv2 (s.l.length + 1) cp2) s1.l.length (Ec.lI s1.l) 3 1]) (HP.drop (HP.drop hH43 8) 7) (by rw [el, eI]; subst hs1; rfl)
        refine WQ.sub (l' := [(0, .slice (some ⟨bb, oo, none⟩) n cap), (2, vP b1 0), (3, vI (n : Int)), (4, vP b 0), (5, .slice pv2 (s.l.length + 1) cp2), (21, .slice (some ⟨bb, oo, none⟩) n cap), (22, vI (n : Int)), (23, vI ((k + 1 : Nat) : Int))]) ⟨rfl, rfl, rfl, rfl, rfl, rfl, rfl, rfl, trivial⟩ ?_
        refine WQ.then (hK12 _ _ _ (by omega) ⟨k + 1, s1, .slice pv2 (s.l.length + 1) cp2, rfl, rfl, by omega, hsN, hN⟩)
      ·
        refine WC.no (congrArg (fun b => some (Value.bool b)) hA) ?_
        refine WC.seq fun K44 hK44 => WC.region ?_
        refine WL.z (v := vP b19 0) 74 ?_
        refine WL.y (v := vI (c k)) 75 (x_load rfl rfl Try.underlying3 rfl (HP.cell hH32 7 rfl rfl)) ?_
        by_cases h34 : c k = 34
        ·
          refine WL.y (v := .bool true) 76 (x_eql rfl rfl rfl (dT (h34))) ?_
          refine WL.z (v := .bool true) 77 ?_
          refine WL.pass 78 rfl (by decide) rfl ?_
          refine WL.pass 79 rfl (by decide) rfl ?_
          refine WL.pass 80 rfl (by decide) rfl ?_
          refine WL.z (v := .bool true) 81 ?_
          refine WL.z (v := .bool true) 73 ?_
          refine WL.nil (WQ.then (hK44 _ _ _ ?_))
          refine WC.sub (l' := [(0, .slice (some ⟨bb, oo, none⟩) n cap), (2, vP b1 0), (3, vI (n : Int)), (4, vP b 0), (5, .slice pv s.l.length cp), (6, vI (k : Int)), (7, vP b19 0), (21, .slice (some ⟨bb, oo, none⟩) n cap), (22, vI (n : Int)), (23, vI (k : Int)), (24, .bool true), (59, .bool (opn (c k))), (73, .bool true)]) ⟨rfl, rfl, rfl, rfl, rfl, rfl, rfl, rfl, rfl, rfl, rfl, rfl, rfl, trivial⟩ ?_
          refine WC.yes rfl (WC.seq fun K45 hK45 => WC.seq fun K46 hK46 => WC.region ?_)
          refine WL.z (v := .slice pv s.l.length cp) 82 ?_
          refine WL.z (v := vI (s.l.length : Int)) 83 ?_
          by_cases h0b : (s.l.length : Int) = 0
          ·
            refine WL.y (v := .bool true) 84 (x_eql rfl rfl rfl (dT (h0b))) ?_
            refine WL.nil (WQ.then (hK46 _ _ _ (WC.yes rfl (WC.seq fun K47 hK47 => WC.region ?_))))
            refine WL.z (v := vP b 5) 85 ?_
            refine WL.store (H2 := [.cel b1 #[.slice none 0 0, .slice none 0 0, .slice none 0 0, .slice none 0 0, .int .i64 0, .bool false] 116, .cel g0 (irow n (Ec.lay k s).o) 3, .cel g1 (irow n (upI s.e k (-1))) 3, .cel g2 (irow n (upI s.d k (-1))) 3, .cel g3 (irow n (upI s.t k (s.l.length : Int))) 3, .cel b #[.slice (some ⟨g0, 0, none⟩) n n, .slice (some ⟨g1, 0, none⟩) n n, .slice (some ⟨g2, 0, none⟩) n n, .slice (some ⟨g3, 0, none⟩) n n, .int .i64 (s.m : Int), .bool false] 116, .own (.slice pv s.l.length cp) s.l.length (Ec.lI s.l) 3 1, .cel b19 #[vI (c k), vI (A k), vI (B k)] 75]) 5 hH32 rfl rfl rfl rfl rfl rfl sz4 rfl (Nat.le_of_ble_eq_true rfl) rfl rfl ?_
            intro w48 hH49
            refine WL.nil (WQ.then (hK47 _ _ _ (WC.seq fun K50 hK50 => WC.region ?_)))
            refine WL.y (v := .agg #[vS g0 n n, vS g1 n n, vS g2 n n, vS g3 n n, vI (s.m : Int), .bool false]) 86 (x_loadS (cs := [.slice (some ⟨g0, 0, none⟩) n n, .slice (some ⟨g1, 0, none⟩) n n, .slice (some ⟨g2, 0, none⟩) n n, .slice (some ⟨g3, 0, none⟩) n n, .int .i64 (s.m : Int), .bool false]) rfl rfl Try.underlying116 rfl sz116 (HP.range hH49 5 rfl rfl)) ?_
            refine WL.storeS (H2 := [.cel b1 #[vS g0 n n, vS g1 n n, vS g2 n n, vS g3 n n, vI (s.m : Int), .bool false] 116, .cel g0 (irow n (Ec.lay k s).o) 3, .cel g1 (irow n (upI s.e k (-1))) 3, .cel g2 (irow n (upI s.d k (-1))) 3, .cel g3 (irow n (upI s.t k (s.l.length : Int))) 3, .cel b #[.slice (some ⟨g0, 0, none⟩) n n, .slice (some ⟨g1, 0, none⟩) n n, .slice (some ⟨g2, 0, none⟩) n n, .slice (some ⟨g3, 0, none⟩) n n, .int .i64 (s.m : Int), .bool false] 116, .own (.slice pv s.l.length cp) s.l.length (Ec.lI s.l) 3 1, .cel b19 #[vI (c k), vI (A k), vI (B k)] 75]) 0 hH49 rfl rfl rfl rfl rfl rfl sz116 rfl (Nat.le_of_ble_eq_true rfl) rfl rfl ?_
            intro w51 hH52
            refine WL.nil (WQ.then (hK50 _ _ _ (WC.ret ?_)))
            refine WQ.thenRet ?_
            refine WQ.inRet ?_
            refine WQ.inRet ?_
            refine WQ.thenRet ?_
            refine WQ.thenRet ?_
            refine WQ.inRet ?_
            refine WQ.thenRet ?_
            refine WQ.retC 2 116 rfl rfl (HP.loadRow hH52 0 rfl Try.underlying116 rfl sz116) ?_
            have hOK : okS c n = false := shp_bad hs (stp_none_nil hA (by omega) (by omega)) (by omega)
            refine ⟨g0, g1, g2, g3, (s.m : Int), ⟨[], (Ec.lay k s).o, (upI s.e k (-1)), (upI s.d k (-1)), (upI s.t k (s.l.length : Int)), 0⟩, by rw [hOK], ?_, ?_⟩
            · exact HP.drop (HP.drop (HP.drop (HP.drop hH52 7) 6) 5) 0
            · intro hq; rw [hOK] at hq; cases hq
          ·
            refine WL.y (v := .bool false) 84 (x_eql rfl rfl rfl (dF (h0b))) ?_
            refine WL.nil (WQ.then (hK46 _ _ _ (WC.no rfl (WC.skip (WQ.then (hK45 _ _ _ (WC.seq fun K53 hK53 => ?_)))))))
            obtain ⟨g, rfl⟩ := hpv (by omega)
            obtain ⟨x, hx⟩ := last_of (l := s.l) (by omega)
            have hxk := (shp_lt k s hs).1 x (List.mem_of_getLast? hx)
            refine WC.region ?_
            refine WL.z (v := vP b 3) 87 ?_
            refine WL.y (v := vS g3 n n) 88 (x_load rfl rfl Try.underlying33 rfl (HP.cell hH32 5 rfl rfl)) ?_
            refine WL.z (v := vI (k : Int)) 89 ?_
            refine WL.z (v := vS g s.l.length cp) 90 ?_
            refine WL.z (v := vI (s.l.length : Int)) 91 ?_
            refine WL.y (v := vI ((s.l.length : Int) - 1)) 92 (x_sub (Z := (s.l.length : Int) - 1) rfl rfl rfl (by omega) (by omega) (by omega)) ?_
            refine WL.y (v := vP g3 k) 93 (x_idx (k) (k) rfl rfl rfl Try.underlying33 sz3 (by omega) (by omega) (by omega)) ?_
            refine WL.store (H2 := [.cel b1 #[.slice none 0 0, .slice none 0 0, .slice none 0 0, .slice none 0 0, .int .i64 0, .bool false] 116, .cel g0 (irow n (Ec.lay k s).o) 3, .cel g1 (irow n (upI s.e k (-1))) 3, .cel g2 (irow n (upI s.d k (-1))) 3, .cel g3 (irow n (upI (upI s.t k (s.l.length : Int)) k ((s.l.length : Int) - 1))) 3, .cel b #[.slice (some ⟨g0, 0, none⟩) n n, .slice (some ⟨g1, 0, none⟩) n n, .slice (some ⟨g2, 0, none⟩) n n, .slice (some ⟨g3, 0, none⟩) n n, .int .i64 (s.m : Int), .bool true] 116, .own (.slice (some ⟨g, 0, none⟩) s.l.length cp) s.l.length (Ec.lI s.l) 3 1, .cel b19 #[vI (c k), vI (A k), vI (B k)] 75]) 4 hH32 rfl rfl rfl rfl rfl rfl sz3 rfl (by simp [size_irow]; omega) (irow_set _ _ _ _) rfl ?_
            intro w54 hH55
            refine WL.nil (WQ.then (hK53 _ _ _ ?_))
            refine WC.sub (l' := [(0, .slice (some ⟨bb, oo, none⟩) n cap), (2, vP b1 0), (3, vI (n : Int)), (4, vP b 0), (5, vS g s.l.length cp), (6, vI (k : Int)), (7, vP b19 0), (21, .slice (some ⟨bb, oo, none⟩) n cap), (22, vI (n : Int)), (23, vI (k : Int)), (24, .bool true), (59, .bool (opn (c k))), (73, .bool true), (84, .bool false)]) ⟨rfl, rfl, rfl, rfl, rfl, rfl, rfl, rfl, rfl, rfl, rfl, rfl, rfl, rfl, trivial⟩ ?_
            refine WC.seq fun K56 hK56 => WC.region ?_
            refine WL.z (v := vP b 0) 94 ?_
            refine WL.y (v := vS g0 n n) 95 (x_load rfl rfl Try.underlying33 rfl (HP.cell hH55 5 rfl rfl)) ?_
            refine WL.z (v := vI (k : Int)) 96 ?_
            refine WL.y (v := vP g0 k) 97 (x_idx (k) (k) rfl rfl rfl Try.underlying33 sz3 (by omega) (by omega) (by omega)) ?_
            refine WL.y (v := vI (x : Int)) 98 (x_load rfl rfl Try.underlying3 rfl (HP.cell hH55 1 rfl (irow_get (by omega) (lay_o_top hx)))) ?_
            refine WL.z (v := vI (x : Int)) 8 ?_
            refine WL.nil (WQ.then (hK56 _ _ _ (WC.seq fun K57 hK57 => WC.region ?_)))
            refine WL.z (v := .slice (some ⟨bb, oo, none⟩) n cap) 99 ?_
            refine WL.z (v := vI (x : Int)) 100 ?_
            refine WL.y (v := vP bb (oo + x * 3)) 101 (x_idx (x) (oo + x * 3) rfl rfl rfl Try.underlying42 sz75 (by omega) (by omega) (by omega)) ?_
            refine WL.z (v := vP bb (oo + x * 3)) 102 ?_
            refine WL.y (v := vI (c x)) 103 (x_load rfl rfl Try.underlying3 rfl ((HP.oldRange hH55 trivial (hrow x (by omega))) 0 _ rfl)) ?_
            by_cases h29 : c x = 29
            ·
              refine WL.y (v := .bool true) 104 (x_eql rfl rfl rfl (dT (h29))) ?_
              refine WL.z (v := .bool true) 105 ?_
              refine WL.pass 106 rfl (by decide) rfl ?_
              refine WL.pass 107 rfl (by decide) rfl ?_
              refine WL.pass 108 rfl (by decide) rfl ?_
              refine WL.pass 109 rfl (by decide) rfl ?_
              refine WL.pass 110 rfl (by decide) rfl ?_
              refine WL.pass 111 rfl (by decide) rfl ?_
              refine WL.z (v := .bool true) 112 ?_
              refine WL.z (v := .bool true) 9 ?_
              refine WL.nil (WQ.then (hK57 _ _ _ ?_))
              refine WC.sub (l' := [(0, .slice (some ⟨bb, oo, none⟩) n cap), (2, vP b1 0), (3, vI (n : Int)), (4, vP b 0), (5, vS g s.l.length cp), (6, vI (k : Int)), (7, vP b19 0), (8, vI (x : Int)), (9, .bool true), (21, .slice (some ⟨bb, oo, none⟩) n cap), (22, vI (n : Int)), (23, vI (k : Int)), (24, .bool true), (59, .bool (opn (c k))), (73, .bool true), (84, .bool false)]) ⟨rfl, rfl, rfl, rfl, rfl, rfl, rfl, rfl, rfl, rfl, rfl, rfl, rfl, rfl, rfl, rfl, trivial⟩ ?_
              refine WC.seq fun K58 hK58 => WC.seq fun K59 hK59 => WC.region ?_
              refine WL.z (v := vP b19 0) 113 ?_
              refine WL.y (v := vI (c k)) 114 (x_load rfl rfl Try.underlying3 rfl (HP.cell hH55 7 rfl rfl)) ?_
              refine WL.y (v := .bool true) 115 (x_eql rfl rfl rfl (dT (by omega))) ?_
              refine WL.nil (WQ.then (hK59 _ _ _ (WC.yes rfl (WC.seq fun K60 hK60 => WC.seq fun K61 hK61 => WC.region ?_))))
              refine WL.z (v := .bool true) 116 ?_
              refine WL.z (v := .bool false) 117 ?_
              refine WL.z (v := .bool false) 118 ?_
              refine WL.z (v := vP b 1) 119 ?_
              refine WL.y (v := vS g1 n n) 120 (x_load rfl rfl Try.underlying33 rfl (HP.cell hH55 5 rfl rfl)) ?_
              refine WL.z (v := vI (x : Int)) 121 ?_
              refine WL.y (v := vP g1 x) 122 (x_idx (x) (x) rfl rfl rfl Try.underlying33 sz3 (by omega) (by omega) (by omega)) ?_
              refine WL.y (v := vI ((upI s.e k (-1)) x)) 123 (x_load rfl rfl Try.underlying3 rfl (HP.cell hH55 2 rfl (irow_get (by omega) rfl))) ?_
              by_cases he : (0 : Int) ≤ (upI s.e k (-1)) x
              ·
                refine WL.y (v := .bool true) 124 (x_geq rfl rfl rfl (dT (he))) ?_
                refine WL.z (v := .bool true) 125 ?_
                refine WL.nil (WQ.then (hK61 _ _ _ ?_))
                refine WC.sub (l' := [(0, .slice (some ⟨bb, oo, none⟩) n cap), (2, vP b1 0), (3, vI (n : Int)), (4, vP b 0), (5, vS g s.l.length cp), (6, vI (k : Int)), (7, vP b19 0), (8, vI (x : Int)), (9, .bool true), (21, .slice (some ⟨bb, oo, none⟩) n cap), (22, vI (n : Int)), (23, vI (k : Int)), (24, .bool true), (59, .bool (opn (c k))), (73, .bool true), (84, .bool false), (115, .bool true), (125, .bool true)]) ⟨rfl, rfl, rfl, rfl, rfl, rfl, rfl, rfl, rfl, rfl, rfl, rfl, rfl, rfl, rfl, rfl, rfl, rfl, trivial⟩ ?_
                refine WC.yes rfl (WC.seq fun K62 hK62 => WC.region ?_)
                refine WL.z (v := vP b 5) 126 ?_
                refine WL.store (H2 := [.cel b1 #[.slice none 0 0, .slice none 0 0, .slice none 0 0, .slice none 0 0, .int .i64 0, .bool false] 116, .cel g0 (irow n (Ec.lay k s).o) 3, .cel g1 (irow n (upI s.e k (-1))) 3, .cel g2 (irow n (upI s.d k (-1))) 3, .cel g3 (irow n (upI (upI s.t k (s.l.length : Int)) k ((s.l.length : Int) - 1))) 3, .cel b #[.slice (some ⟨g0, 0, none⟩) n n, .slice (some ⟨g1, 0, none⟩) n n, .slice (some ⟨g2, 0, none⟩) n n, .slice (some ⟨g3, 0, none⟩) n n, .int .i64 (s.m : Int), .bool false] 116, .own (.slice (some ⟨g, 0, none⟩) s.l.length cp) s.l.length (Ec.lI s.l) 3 1, .cel b19 #[vI (c k), vI (A k), vI (B k)] 75]) 5 hH55 rfl rfl rfl rfl rfl rfl sz4 rfl (Nat.le_of_ble_eq_true rfl) rfl rfl ?_
                intro w63 hH64
                refine WL.nil (WQ.then (hK62 _ _ _ (WC.seq fun K65 hK65 => WC.region ?_)))
                refine WL.y (v := .agg #[vS g0 n n, vS g1 n n, vS g2 n n, vS g3 n n, vI (s.m : Int), .bool false]) 127 (x_loadS (cs := [.slice (some ⟨g0, 0, none⟩) n n, .slice (some ⟨g1, 0, none⟩) n n, .slice (some ⟨g2, 0, none⟩) n n, .slice (some ⟨g3, 0, none⟩) n n, .int .i64 (s.m : Int), .bool false]) rfl rfl Try.underlying116 rfl sz116 (HP.range hH64 5 rfl rfl)) ?_
                refine WL.storeS (H2 := [.cel b1 #[vS g0 n n, vS g1 n n, vS g2 n n, vS g3 n n, vI (s.m : Int), .bool false] 116, .cel g0 (irow n (Ec.lay k s).o) 3, .cel g1 (irow n (upI s.e k (-1))) 3, .cel g2 (irow n (upI s.d k (-1))) 3, .cel g3 (irow n (upI (upI s.t k (s.l.length : Int)) k ((s.l.length : Int) - 1))) 3, .cel b #[.slice (some ⟨g0, 0, none⟩) n n, .slice (some ⟨g1, 0, none⟩) n n, .slice (some ⟨g2, 0, none⟩) n n, .slice (some ⟨g3, 0, none⟩) n n, .int .i64 (s.m : Int), .bool false] 116, .own (.slice (some ⟨g, 0, none⟩) s.l.length cp) s.l.length (Ec.lI s.l) 3 1, .cel b19 #[vI (c k), vI (A k), vI (B k)] 75]) 0 hH64 rfl rfl rfl rfl rfl rfl sz116 rfl (Nat.le_of_ble_eq_true rfl) rfl rfl ?_
                intro w66 hH67
                refine WL.nil (WQ.then (hK65 _ _ _ (WC.ret ?_)))
                refine WQ.thenRet ?_
                refine WQ.thenRet ?_
                refine WQ.inRet ?_
                refine WQ.inRet ?_
                refine WQ.thenRet ?_
                refine WQ.thenRet ?_
                refine WQ.inRet ?_
                refine WQ.thenRet ?_
                refine WQ.retC 2 116 rfl rfl (HP.loadRow hH67 0 rfl Try.underlying116 rfl sz116) ?_
                have hOK : okS c n = false := shp_bad hs (stp_else_has hA h34 hx (show ¬ upI s.e k (-1) x < 0 by omega)) (by omega)
                refine ⟨g0, g1, g2, g3, (s.m : Int), ⟨[], (Ec.lay k s).o, (upI s.e k (-1)), (upI s.d k (-1)), (upI (upI s.t k (s.l.length : Int)) k ((s.l.length : Int) - 1)), 0⟩, by rw [hOK], ?_, ?_⟩
                · exact HP.drop (HP.drop (HP.drop (HP.drop hH67 7) 6) 5) 0
                · intro hq; rw [hOK] at hq; cases hq
              ·
                refine WL.y (v := .bool false) 124 (x_geq rfl rfl rfl (dF (he))) ?_
                refine WL.z (v := .bool false) 125 ?_
                refine WL.nil (WQ.then (hK61 _ _ _ ?_))
                refine WC.sub (l' := [(0, .slice (some ⟨bb, oo, none⟩) n cap), (2, vP b1 0), (3, vI (n : Int)), (4, vP b 0), (5, vS g s.l.length cp), (6, vI (k : Int)), (7, vP b19 0), (8, vI (x : Int)), (9, .bool true), (21, .slice (some ⟨bb, oo, none⟩) n cap), (22, vI (n : Int)), (23, vI (k : Int)), (24, .bool true), (59, .bool (opn (c k))), (73, .bool true), (84, .bool false), (115, .bool true), (125, .bool false)]) ⟨rfl, rfl, rfl, rfl, rfl, rfl, rfl, rfl, rfl, rfl, rfl, rfl, rfl, rfl, rfl, rfl, rfl, rfl, trivial⟩ ?_
                refine WC.no rfl (WC.skip (WQ.then (hK60 _ _ _ (WC.seq fun K68 hK68 => WC.region ?_))))
                refine WL.z (v := vP b 1) 128 ?_
                refine WL.y (v := vS g1 n n) 129 (x_load rfl rfl Try.underlying33 rfl (HP.cell hH55 5 rfl rfl)) ?_
                refine WL.z (v := vI (x : Int)) 130 ?_
                refine WL.z (v := vI (k : Int)) 131 ?_
                refine WL.y (v := vP g1 x) 132 (x_idx (x) (x) rfl rfl rfl Try.underlying33 sz3 (by omega) (by omega) (by omega)) ?_
                refine WL.store (H2 := [.cel b1 #[.slice none 0 0, .slice none 0 0, .slice none 0 0, .slice none 0 0, .int .i64 0, .bool false] 116, .cel g0 (irow n (Ec.lay k s).o) 3, .cel g1 (irow n (upI (upI s.e k (-1)) x (k : Int))) 3, .cel g2 (irow n (upI s.d k (-1))) 3, .cel g3 (irow n (upI (upI s.t k (s.l.length : Int)) k ((s.l.length : Int) - 1))) 3, .cel b #[.slice (some ⟨g0, 0, none⟩) n n, .slice (some ⟨g1, 0, none⟩) n n, .slice (some ⟨g2, 0, none⟩) n n, .slice (some ⟨g3, 0, none⟩) n n, .int .i64 (s.m : Int), .bool true] 116, .own (.slice (some ⟨g, 0, none⟩) s.l.length cp) s.l.length (Ec.lI s.l) 3 1, .cel b19 #[vI (c k), vI (A k), vI (B k)] 75]) 2 hH55 rfl rfl rfl rfl rfl rfl sz3 rfl (by simp [size_irow]; omega) (irow_set _ _ _ _) rfl ?_
                intro w69 hH70
                refine WL.nil (WQ.then (hK68 _ _ _ (WC.exit (WQ.thenExit ?_))))
                refine WQ.inOther (by decide) ?_
                refine WQ.inExit (WQ.then (hK17 _ _ _ (WC.region ?_)))
                refine WL.y (v := vI ((k + 1 : Nat) : Int)) 159 (x_add (Z := ((k + 1 : Nat) : Int)) rfl rfl rfl (by omega) (by omega) (by omega)) ?_
                refine WL.z (v := vI ((k + 1 : Nat) : Int)) 23 ?_
                refine WL.nil ?_
                obtain ⟨s1, hs1⟩ : ∃ s1 : Sh, s1 = ⟨s.l, (Ec.lay k s).o, (upI (upI s.e k (-1)) x (k : Int)), (upI s.d k (-1)), (upI (upI s.t k (s.l.length : Int)) k ((s.l.length : Int) - 1)), s.m⟩ := ⟨_, rfl⟩
                have hsN : shp c (k + 1) = some s1 := by
                  rw [hs1]
                  exact shp_step hs (stp_else_ok hA h34 hx (two_yes (by omega)) (show upI s.e k (-1) x < 0 by omega))
                have el : s1.l.length = s.l.length := by rw [hs1]
                have eI : Ec.lI s1.l = Ec.lI s.l := by rw [hs1]
                have hN := HP.eq (H' := [.cel b1 #[.slice none 0 0, .slice none 0 0, .slice none 0 0, .slice none 0 0, .int .i64 0, .bool false] 116, .cel g0 (irow n s1.o) 3, .cel g1 (irow n s1.e) 3, .cel g2 (irow n s1.d) 3, .cel g3 (irow n s1.t) 3, .cel b #[.slice (some ⟨g0, 0, none⟩) n n, .slice (some ⟨g1, 0, none⟩) n n, .slice (some ⟨g2, 0, none⟩) n n, .slice (some ⟨g3, 0, none⟩) n n, .int .i64 (s1.m : Int), .bool true] 116, .own (vS g s.l.length cp) s1.l.length (Ec.lI s1.l) 3 1]) (HP.drop hH70 7) (by rw [el, eI]; subst hs1; rfl)
                refine WQ.sub (l' := [(0, .slice (some ⟨bb, oo, none⟩) n cap), (2, vP b1 0), (3, vI (n : Int)), (4, vP b 0), (5, vS g s.l.length cp), (21, .slice (some ⟨bb, oo, none⟩) n cap), (22, vI (n : Int)), (23, vI ((k + 1 : Nat) : Int))]) ⟨rfl, rfl, rfl, rfl, rfl, rfl, rfl, rfl, trivial⟩ ?_
                refine WQ.then (hK12 _ _ _ (by omega) ⟨k + 1, s1, vS g s.l.length cp, rfl, rfl, by omega, hsN, hN⟩)
            ·
              refine WL.y (v := .bool false) 104 (x_eql rfl rfl rfl (dF (h29))) ?_
              refine WL.z (v := .bool false) 105 ?_
              refine WL.z (v := .slice (some ⟨bb, oo, none⟩) n cap) 106 ?_
              refine WL.z (v := vI (x : Int)) 107 ?_
              refine WL.y (v := vP bb (oo + x * 3)) 108 (x_idx (x) (oo + x * 3) rfl rfl rfl Try.underlying42 sz75 (by omega) (by omega) (by omega)) ?_
              refine WL.z (v := vP bb (oo + x * 3)) 109 ?_
              refine WL.y (v := vI (c x)) 110 (x_load rfl rfl Try.underlying3 rfl ((HP.oldRange hH55 trivial (hrow x (by omega))) 0 _ rfl)) ?_
              by_cases h33 : c x = 33
              ·
                refine WL.y (v := .bool true) 111 (x_eql rfl rfl rfl (dT (h33))) ?_
                refine WL.z (v := .bool true) 112 ?_
                refine WL.z (v := .bool true) 9 ?_
                refine WL.nil (WQ.then (hK57 _ _ _ ?_))
                refine WC.sub (l' := [(0, .slice (some ⟨bb, oo, none⟩) n cap), (2, vP b1 0), (3, vI (n : Int)), (4, vP b 0), (5, vS g s.l.length cp), (6, vI (k : Int)), (7, vP b19 0), (8, vI (x : Int)), (9, .bool true), (21, .slice (some ⟨bb, oo, none⟩) n cap), (22, vI (n : Int)), (23, vI (k : Int)), (24, .bool true), (59, .bool (opn (c k))), (73, .bool true), (84, .bool false)]) ⟨rfl, rfl, rfl, rfl, rfl, rfl, rfl, rfl, rfl, rfl, rfl, rfl, rfl, rfl, rfl, rfl, trivial⟩ ?_
                refine WC.seq fun K71 hK71 => WC.seq fun K72 hK72 => WC.region ?_
                refine WL.z (v := vP b19 0) 113 ?_
                refine WL.y (v := vI (c k)) 114 (x_load rfl rfl Try.underlying3 rfl (HP.cell hH55 7 rfl rfl)) ?_
                refine WL.y (v := .bool true) 115 (x_eql rfl rfl rfl (dT (by omega))) ?_
                refine WL.nil (WQ.then (hK72 _ _ _ (WC.yes rfl (WC.seq fun K73 hK73 => WC.seq fun K74 hK74 => WC.region ?_))))
                refine WL.z (v := .bool true) 116 ?_
                refine WL.z (v := .bool false) 117 ?_
                refine WL.z (v := .bool false) 118 ?_
                refine WL.z (v := vP b 1) 119 ?_
                refine WL.y (v := vS g1 n n) 120 (x_load rfl rfl Try.underlying33 rfl (HP.cell hH55 5 rfl rfl)) ?_
                refine WL.z (v := vI (x : Int)) 121 ?_
                refine WL.y (v := vP g1 x) 122 (x_idx (x) (x) rfl rfl rfl Try.underlying33 sz3 (by omega) (by omega) (by omega)) ?_
                refine WL.y (v := vI ((upI s.e k (-1)) x)) 123 (x_load rfl rfl Try.underlying3 rfl (HP.cell hH55 2 rfl (irow_get (by omega) rfl))) ?_
                by_cases he : (0 : Int) ≤ (upI s.e k (-1)) x
                ·
                  refine WL.y (v := .bool true) 124 (x_geq rfl rfl rfl (dT (he))) ?_
                  refine WL.z (v := .bool true) 125 ?_
                  refine WL.nil (WQ.then (hK74 _ _ _ ?_))
                  refine WC.sub (l' := [(0, .slice (some ⟨bb, oo, none⟩) n cap), (2, vP b1 0), (3, vI (n : Int)), (4, vP b 0), (5, vS g s.l.length cp), (6, vI (k : Int)), (7, vP b19 0), (8, vI (x : Int)), (9, .bool true), (21, .slice (some ⟨bb, oo, none⟩) n cap), (22, vI (n : Int)), (23, vI (k : Int)), (24, .bool true), (59, .bool (opn (c k))), (73, .bool true), (84, .bool false), (115, .bool true), (125, .bool true)]) ⟨rfl, rfl, rfl, rfl, rfl, rfl, rfl, rfl, rfl, rfl, rfl, rfl, rfl, rfl, rfl, rfl, rfl, rfl, trivial⟩ ?_
                  refine WC.yes rfl (WC.seq fun K75 hK75 => WC.region ?_)
                  refine WL.z (v := vP b 5) 126 ?_
                  refine WL.store (H2 := [.cel b1 #[.slice none 0 0, .slice none 0 0, .slice none 0 0, .slice none 0 0, .int .i64 0, .bool false] 116, .cel g0 (irow n (Ec.lay k s).o) 3, .cel g1 (irow n (upI s.e k (-1))) 3, .cel g2 (irow n (upI s.d k (-1))) 3, .cel g3 (irow n (upI (upI s.t k (s.l.length : Int)) k ((s.l.length : Int) - 1))) 3, .cel b #[.slice (some ⟨g0, 0, none⟩) n n, .slice (some ⟨g1, 0, none⟩) n n, .slice (some ⟨g2, 0, none⟩) n n, .slice (some ⟨g3, 0, none⟩) n n, .int .i64 (s.m : Int), .bool false] 116, .own (.slice (some ⟨g, 0, none⟩) s.l.length cp) s.l.length (Ec.lI s.l) 3 1, .cel b19 #[vI (c k), vI (A k), vI (B k)] 75]) 5 hH55 rfl rfl rfl rfl rfl rfl sz4 rfl (Nat.le_of_ble_eq_true rfl) rfl rfl ?_
                  intro w76 hH77
                  refine WL.nil (WQ.then (hK75 _ _ _ (WC.seq fun K78 hK78 => WC.region ?_)))
                  refine WL.y (v := .agg #[vS g0 n n, vS g1 n n, vS g2 n n, vS g3 n n, vI (s.m : Int), .bool false]) 127 (x_loadS (cs := [.slice (some ⟨g0, 0, none⟩) n n, .slice (some ⟨g1, 0, none⟩) n n, .slice (some ⟨g2, 0, none⟩) n n, .slice (some ⟨g3, 0, none⟩) n n, .int .i64 (s.m : Int), .bool false]) rfl rfl Try.underlying116 rfl sz116 (HP.range hH77 5 rfl rfl)) ?_
                  refine WL.storeS (H2 := [.cel b1 #[vS g0 n n, vS g1 n n, vS g2 n n, vS g3 n n, vI (s.m : Int), .bool false] 116, .cel g0 (irow n (Ec.lay k s).o) 3, .cel g1 (irow n (upI s.e k (-1))) 3, .cel g2 (irow n (upI s.d k (-1))) 3, .cel g3 (irow n (upI (upI s.t k (s.l.length : Int)) k ((s.l.length : Int) - 1))) 3, .cel b #[.slice (some ⟨g0, 0, none⟩) n n, .slice (some ⟨g1, 0, none⟩) n n, .slice (some ⟨g2, 0, none⟩) n n, .slice (some ⟨g3, 0, none⟩) n n, .int .i64 (s.m : Int), .bool false] 116, .own (.slice (some ⟨g, 0, none⟩) s.l.length cp) s.l.length (Ec.lI s.l) 3 1, .cel b19 #[vI (c k), vI (A k), vI (B k)] 75]) 0 hH77 rfl rfl rfl rfl rfl rfl sz116 rfl (Nat.le_of_ble_eq_true rfl) rfl rfl ?_
                  intro w79 hH80
                  refine WL.nil (WQ.then (hK78 _ _ _ (WC.ret ?_)))
                  refine WQ.thenRet ?_
                  refine WQ.thenRet ?_
                  refine WQ.inRet ?_
                  refine WQ.inRet ?_
                  refine WQ.thenRet ?_
                  refine WQ.thenRet ?_
                  refine WQ.inRet ?_
                  refine WQ.thenRet ?_
                  refine WQ.retC 2 116 rfl rfl (HP.loadRow hH80 0 rfl Try.underlying116 rfl sz116) ?_
                  have hOK : okS c n = false := shp_bad hs (stp_else_has hA h34 hx (show ¬ upI s.e k (-1) x < 0 by omega)) (by omega)
                  refine ⟨g0, g1, g2, g3, (s.m : Int), ⟨[], (Ec.lay k s).o, (upI s.e k (-1)), (upI s.d k (-1)), (upI (upI s.t k (s.l.length : Int)) k ((s.l.length : Int) - 1)), 0⟩, by rw [hOK], ?_, ?_⟩
                  · exact HP.drop (HP.drop (HP.drop (HP.drop hH80 7) 6) 5) 0
                  · intro hq; rw [hOK] at hq; cases hq
                ·
                  refine WL.y (v := .bool false) 124 (x_geq rfl rfl rfl (dF (he))) ?_
                  refine WL.z (v := .bool false) 125 ?_
                  refine WL.nil (WQ.then (hK74 _ _ _ ?_))
                  refine WC.sub (l' := [(0, .slice (some ⟨bb, oo, none⟩) n cap), (2, vP b1 0), (3, vI (n : Int)), (4, vP b 0), (5, vS g s.l.length cp), (6, vI (k : Int)), (7, vP b19 0), (8, vI (x : Int)), (9, .bool true), (21, .slice (some ⟨bb, oo, none⟩) n cap), (22, vI (n : Int)), (23, vI (k : Int)), (24, .bool true), (59, .bool (opn (c k))), (73, .bool true), (84, .bool false), (115, .bool true), (125, .bool false)]) ⟨rfl, rfl, rfl, rfl, rfl, rfl, rfl, rfl, rfl, rfl, rfl, rfl, rfl, rfl, rfl, rfl, rfl, rfl, trivial⟩ ?_
                  refine WC.no rfl (WC.skip (WQ.then (hK73 _ _ _ (WC.seq fun K81 hK81 => WC.region ?_))))
                  refine WL.z (v := vP b 1) 128 ?_
                  refine WL.y (v := vS g1 n n) 129 (x_load rfl rfl Try.underlying33 rfl (HP.cell hH55 5 rfl rfl)) ?_
                  refine WL.z (v := vI (x : Int)) 130 ?_
                  refine WL.z (v := vI (k : Int)) 131 ?_
                  refine WL.y (v := vP g1 x) 132 (x_idx (x) (x) rfl rfl rfl Try.underlying33 sz3 (by omega) (by omega) (by omega)) ?_
                  refine WL.store (H2 := [.cel b1 #[.slice none 0 0, .slice none 0 0, .slice none 0 0, .slice none 0 0, .int .i64 0, .bool false] 116, .cel g0 (irow n (Ec.lay k s).o) 3, .cel g1 (irow n (upI (upI s.e k (-1)) x (k : Int))) 3, .cel g2 (irow n (upI s.d k (-1))) 3, .cel g3 (irow n (upI (upI s.t k (s.l.length : Int)) k ((s.l.length : Int) - 1))) 3, .cel b #[.slice (some ⟨g0, 0, none⟩) n n, .slice (some ⟨g1, 0, none⟩) n n, .slice (some ⟨g2, 0, none⟩) n n, .slice (some ⟨g3, 0, none⟩) n n, .int .i64 (s.m : Int), .bool true] 116, .own (.slice (some ⟨g, 0, none⟩) s.l.length cp) s.l.length (Ec.lI s.l) 3 1, .cel b19 #[vI (c k), vI (A k), vI (B k)] 75]) 2 hH55 rfl rfl rfl rfl rfl rfl sz3 rfl (by simp [size_irow]; omega) (irow_set _ _ _ _) rfl ?_
                  intro w82 hH83
                  refine WL.nil (WQ.then (hK81 _ _ _ (WC.exit (WQ.thenExit ?_))))
                  refine WQ.inOther (by decide) ?_
                  refine WQ.inExit (WQ.then (hK17 _ _ _ (WC.region ?_)))
                  refine WL.y (v := vI ((k + 1 : Nat) : Int)) 159 (x_add (Z := ((k + 1 : Nat) : Int)) rfl rfl rfl (by omega) (by omega) (by omega)) ?_
                  refine WL.z (v := vI ((k + 1 : Nat) : Int)) 23 ?_
                  refine WL.nil ?_
                  obtain ⟨s1, hs1⟩ : ∃ s1 : Sh, s1 = ⟨s.l, (Ec.lay k s).o, (upI (upI s.e k (-1)) x (k : Int)), (upI s.d k (-1)), (upI (upI s.t k (s.l.length : Int)) k ((s.l.length : Int) - 1)), s.m⟩ := ⟨_, rfl⟩
                  have hsN : shp c (k + 1) = some s1 := by
                    rw [hs1]
                    exact shp_step hs (stp_else_ok hA h34 hx (two_yes (by omega)) (show upI s.e k (-1) x < 0 by omega))
                  have el : s1.l.length = s.l.length := by rw [hs1]
                  have eI : Ec.lI s1.l = Ec.lI s.l := by rw [hs1]
                  have hN := HP.eq (H' := [.cel b1 #[.slice none 0 0, .slice none 0 0, .slice none 0 0, .slice none 0 0, .int .i64 0, .bool false] 116, .cel g0 (irow n s1.o) 3, .cel g1 (irow n s1.e) 3, .cel g2 (irow n s1.d) 3, .cel g3 (irow n s1.t) 3, .cel b #[.slice (some ⟨g0, 0, none⟩) n n, .slice (some ⟨g1, 0, none⟩) n n, .slice (some ⟨g2, 0, none⟩) n n, .slice (some ⟨g3, 0, none⟩) n n, .int .i64 (s1.m : Int), .bool true] 116, .own (vS g s.l.length cp) s1.l.length (Ec.lI s1.l) 3 1]) (HP.drop hH83 7) (by rw [el, eI]; subst hs1; rfl)
                  refine WQ.sub (l' := [(0, .slice (some ⟨bb, oo, none⟩) n cap), (2, vP b1 0), (3, vI (n : Int)), (4, vP b 0), (5, vS g s.l.length cp), (21, .slice (some ⟨bb, oo, none⟩) n cap), (22, vI (n : Int)), (23, vI ((k + 1 : Nat) : Int))]) ⟨rfl, rfl, rfl, rfl, rfl, rfl, rfl, rfl, trivial⟩ ?_
                  refine WQ.then (hK12 _ _ _ (by omega) ⟨k + 1, s1, vS g s.l.length cp, rfl, rfl, by omega, hsN, hN⟩)
              ·
                refine WL.y (v := .bool false) 111 (x_eql rfl rfl rfl (dF (h33))) ?_
                refine WL.z (v := .bool false) 112 ?_
                refine WL.z (v := .bool false) 9 ?_
                refine WL.nil (WQ.then (hK57 _ _ _ ?_))
                refine WC.sub (l' := [(0, .slice (some ⟨bb, oo, none⟩) n cap), (2, vP b1 0), (3, vI (n : Int)), (4, vP b 0), (5, vS g s.l.length cp), (6, vI (k : Int)), (7, vP b19 0), (8, vI (x : Int)), (9, .bool false), (21, .slice (some ⟨bb, oo, none⟩) n cap), (22, vI (n : Int)), (23, vI (k : Int)), (24, .bool true), (59, .bool (opn (c k))), (73, .bool true), (84, .bool false)]) ⟨rfl, rfl, rfl, rfl, rfl, rfl, rfl, rfl, rfl, rfl, rfl, rfl, rfl, rfl, rfl, rfl, trivial⟩ ?_
                refine WC.seq fun K84 hK84 => WC.seq fun K85 hK85 => WC.region ?_
                refine WL.z (v := vP b19 0) 113 ?_
                refine WL.y (v := vI (c k)) 114 (x_load rfl rfl Try.underlying3 rfl (HP.cell hH55 7 rfl rfl)) ?_
                refine WL.y (v := .bool true) 115 (x_eql rfl rfl rfl (dT (by omega))) ?_
                refine WL.nil (WQ.then (hK85 _ _ _ (WC.yes rfl (WC.seq fun K86 hK86 => WC.seq fun K87 hK87 => WC.region ?_))))
                refine WL.z (v := .bool false) 116 ?_
                refine WL.z (v := .bool true) 117 ?_
                refine WL.z (v := .bool true) 118 ?_
                refine WL.pass 119 rfl (by decide) rfl ?_
                refine WL.pass 120 rfl (by decide) rfl ?_
                refine WL.pass 121 rfl (by decide) rfl ?_
                refine WL.pass 122 rfl (by decide) rfl ?_
                refine WL.pass 123 rfl (by decide) rfl ?_
                refine WL.pass 124 rfl (by decide) rfl ?_
                refine WL.z (v := .bool true) 125 ?_
                refine WL.nil (WQ.then (hK87 _ _ _ ?_))
                refine WC.sub (l' := [(0, .slice (some ⟨bb, oo, none⟩) n cap), (2, vP b1 0), (3, vI (n : Int)), (4, vP b 0), (5, vS g s.l.length cp), (6, vI (k : Int)), (7, vP b19 0), (8, vI (x : Int)), (9, .bool false), (21, .slice (some ⟨bb, oo, none⟩) n cap), (22, vI (n : Int)), (23, vI (k : Int)), (24, .bool true), (59, .bool (opn (c k))), (73, .bool true), (84, .bool false), (115, .bool true), (125, .bool true)]) ⟨rfl, rfl, rfl, rfl, rfl, rfl, rfl, rfl, rfl, rfl, rfl, rfl, rfl, rfl, rfl, rfl, rfl, rfl, trivial⟩ ?_
                refine WC.yes rfl (WC.seq fun K88 hK88 => WC.region ?_)
                refine WL.z (v := vP b 5) 126 ?_
                refine WL.store (H2 := [.cel b1 #[.slice none 0 0, .slice none 0 0, .slice none 0 0, .slice none 0 0, .int .i64 0, .bool false] 116, .cel g0 (irow n (Ec.lay k s).o) 3, .cel g1 (irow n (upI s.e k (-1))) 3, .cel g2 (irow n (upI s.d k (-1))) 3, .cel g3 (irow n (upI (upI s.t k (s.l.length : Int)) k ((s.l.length : Int) - 1))) 3, .cel b #[.slice (some ⟨g0, 0, none⟩) n n, .slice (some ⟨g1, 0, none⟩) n n, .slice (some ⟨g2, 0, none⟩) n n, .slice (some ⟨g3, 0, none⟩) n n, .int .i64 (s.m : Int), .bool false] 116, .own (.slice (some ⟨g, 0, none⟩) s.l.length cp) s.l.length (Ec.lI s.l) 3 1, .cel b19 #[vI (c k), vI (A k), vI (B k)] 75]) 5 hH55 rfl rfl rfl rfl rfl rfl sz4 rfl (Nat.le_of_ble_eq_true rfl) rfl rfl ?_
                intro w89 hH90
                refine WL.nil (WQ.then (hK88 _ _ _ (WC.seq fun K91 hK91 => WC.region ?_)))
                refine WL.y (v := .agg #[vS g0 n n, vS g1 n n, vS g2 n n, vS g3 n n, vI (s.m : Int), .bool false]) 127 (x_loadS (cs := [.slice (some ⟨g0, 0, none⟩) n n, .slice (some ⟨g1, 0, none⟩) n n, .slice (some ⟨g2, 0, none⟩) n n, .slice (some ⟨g3, 0, none⟩) n n, .int .i64 (s.m : Int), .bool false]) rfl rfl Try.underlying116 rfl sz116 (HP.range hH90 5 rfl rfl)) ?_
                refine WL.storeS (H2 := [.cel b1 #[vS g0 n n, vS g1 n n, vS g2 n n, vS g3 n n, vI (s.m : Int), .bool false] 116, .cel g0 (irow n (Ec.lay k s).o) 3, .cel g1 (irow n (upI s.e k (-1))) 3, .cel g2 (irow n (upI s.d k (-1))) 3, .cel g3 (irow n (upI (upI s.t k (s.l.length : Int)) k ((s.l.length : Int) - 1))) 3, .cel b #[.slice (some ⟨g0, 0, none⟩) n n, .slice (some ⟨g1, 0, none⟩) n n, .slice (some ⟨g2, 0, none⟩) n n, .slice (some ⟨g3, 0, none⟩) n n, .int .i64 (s.m : Int), .bool false] 116, .own (.slice (some ⟨g, 0, none⟩) s.l.length cp) s.l.length (Ec.lI s.l) 3 1, .cel b19 #[vI (c k), vI (A k), vI (B k)] 75]) 0 hH90 rfl rfl rfl rfl rfl rfl sz116 rfl (Nat.le_of_ble_eq_true rfl) rfl rfl ?_
                intro w92 hH93
                refine WL.nil (WQ.then (hK91 _ _ _ (WC.ret ?_)))
                refine WQ.thenRet ?_
                refine WQ.thenRet ?_
                refine WQ.inRet ?_
                refine WQ.inRet ?_
                refine WQ.thenRet ?_
                refine WQ.thenRet ?_
                refine WQ.inRet ?_
                refine WQ.thenRet ?_
                refine WQ.retC 2 116 rfl rfl (HP.loadRow hH93 0 rfl Try.underlying116 rfl sz116) ?_
                have hOK : okS c n = false := shp_bad hs (stp_else_two hA h34 hx (two_no h29 h33)) (by omega)
                refine ⟨g0, g1, g2, g3, (s.m : Int), ⟨[], (Ec.lay k s).o, (upI s.e k (-1)), (upI s.d k (-1)), (upI (upI s.t k (s.l.length : Int)) k ((s.l.length : Int) - 1)), 0⟩, by rw [hOK], ?_, ?_⟩
                · exact HP.drop (HP.drop (HP.drop (HP.drop hH93 7) 6) 5) 0
                · intro hq; rw [hOK] at hq; cases hq
        ·
          refine WL.y (v := .bool false) 76 (x_eql rfl rfl rfl (dF (h34))) ?_
          refine WL.z (v := .bool false) 77 ?_
          refine WL.z (v := vP b19 0) 78 ?_
          refine WL.y (v := vI (c k)) 79 (x_load rfl rfl Try.underlying3 rfl (HP.cell hH32 7 rfl rfl)) ?_
          by_cases h35 : c k = 35
          ·
            refine WL.y (v := .bool true) 80 (x_eql rfl rfl rfl (dT (h35))) ?_
            refine WL.z (v := .bool true) 81 ?_
            refine WL.z (v := .bool true) 73 ?_
            refine WL.nil (WQ.then (hK44 _ _ _ ?_))
            refine WC.sub (l' := [(0, .slice (some ⟨bb, oo, none⟩) n cap), (2, vP b1 0), (3, vI (n : Int)), (4, vP b 0), (5, .slice pv s.l.length cp), (6, vI (k : Int)), (7, vP b19 0), (21, .slice (some ⟨bb, oo, none⟩) n cap), (22, vI (n : Int)), (23, vI (k : Int)), (24, .bool true), (59, .bool (opn (c k))), (73, .bool true)]) ⟨rfl, rfl, rfl, rfl, rfl, rfl, rfl, rfl, rfl, rfl, rfl, rfl, rfl, trivial⟩ ?_
            refine WC.yes rfl (WC.seq fun K94 hK94 => WC.seq fun K95 hK95 => WC.region ?_)
            refine WL.z (v := .slice pv s.l.length cp) 82 ?_
            refine WL.z (v := vI (s.l.length : Int)) 83 ?_
            by_cases h0b : (s.l.length : Int) = 0
            ·
              refine WL.y (v := .bool true) 84 (x_eql rfl rfl rfl (dT (h0b))) ?_
              refine WL.nil (WQ.then (hK95 _ _ _ (WC.yes rfl (WC.seq fun K96 hK96 => WC.region ?_))))
              refine WL.z (v := vP b 5) 85 ?_
              refine WL.store (H2 := [.cel b1 #[.slice none 0 0, .slice none 0 0, .slice none 0 0, .slice none 0 0, .int .i64 0, .bool false] 116, .cel g0 (irow n (Ec.lay k s).o) 3, .cel g1 (irow n (upI s.e k (-1))) 3, .cel g2 (irow n (upI s.d k (-1))) 3, .cel g3 (irow n (upI s.t k (s.l.length : Int))) 3, .cel b #[.slice (some ⟨g0, 0, none⟩) n n, .slice (some ⟨g1, 0, none⟩) n n, .slice (some ⟨g2, 0, none⟩) n n, .slice (some ⟨g3, 0, none⟩) n n, .int .i64 (s.m : Int), .bool false] 116, .own (.slice pv s.l.length cp) s.l.length (Ec.lI s.l) 3 1, .cel b19 #[vI (c k), vI (A k), vI (B k)] 75]) 5 hH32 rfl rfl rfl rfl rfl rfl sz4 rfl (Nat.le_of_ble_eq_true rfl) rfl rfl ?_
              intro w97 hH98
              refine WL.nil (WQ.then (hK96 _ _ _ (WC.seq fun K99 hK99 => WC.region ?_)))
              refine WL.y (v := .agg #[vS g0 n n, vS g1 n n, vS g2 n n, vS g3 n n, vI (s.m : Int), .bool false]) 86 (x_loadS (cs := [.slice (some ⟨g0, 0, none⟩) n n, .slice (some ⟨g1, 0, none⟩) n n, .slice (some ⟨g2, 0, none⟩) n n, .slice (some ⟨g3, 0, none⟩) n n, .int .i64 (s.m : Int), .bool false]) rfl rfl Try.underlying116 rfl sz116 (HP.range hH98 5 rfl rfl)) ?_
              refine WL.storeS (H2 := [.cel b1 #[vS g0 n n, vS g1 n n, vS g2 n n, vS g3 n n, vI (s.m : Int), .bool false] 116, .cel g0 (irow n (Ec.lay k s).o) 3, .cel g1 (irow n (upI s.e k (-1))) 3, .cel g2 (irow n (upI s.d k (-1))) 3, .cel g3 (irow n (upI s.t k (s.l.length : Int))) 3, .cel b #[.slice (some ⟨g0, 0, none⟩) n n, .slice (some ⟨g1, 0, none⟩) n n, .slice (some ⟨g2, 0, none⟩) n n, .slice (some ⟨g3, 0, none⟩) n n, .int .i64 (s.m : Int), .bool false] 116, .own (.slice pv s.l.length cp) s.l.length (Ec.lI s.l) 3 1, .cel b19 #[vI (c k), vI (A k), vI (B k)] 75]) 0 hH98 rfl rfl rfl rfl rfl rfl sz116 rfl (Nat.le_of_ble_eq_true rfl) rfl rfl ?_
              intro w100 hH101
              refine WL.nil (WQ.then (hK99 _ _ _ (WC.ret ?_)))
              refine WQ.thenRet ?_
              refine WQ.inRet ?_
              refine WQ.inRet ?_
              refine WQ.thenRet ?_
              refine WQ.thenRet ?_
              refine WQ.inRet ?_
              refine WQ.thenRet ?_
              refine WQ.retC 2 116 rfl rfl (HP.loadRow hH101 0 rfl Try.underlying116 rfl sz116) ?_
              have hOK : okS c n = false := shp_bad hs (stp_none_nil hA (by omega) (by omega)) (by omega)
              refine ⟨g0, g1, g2, g3, (s.m : Int), ⟨[], (Ec.lay k s).o, (upI s.e k (-1)), (upI s.d k (-1)), (upI s.t k (s.l.length : Int)), 0⟩, by rw [hOK], ?_, ?_⟩
              · exact HP.drop (HP.drop (HP.drop (HP.drop hH101 7) 6) 5) 0
              · intro hq; rw [hOK] at hq; cases hq
            ·
              refine WL.y (v := .bool false) 84 (x_eql rfl rfl rfl (dF (h0b))) ?_
              refine WL.nil (WQ.then (hK95 _ _ _ (WC.no rfl (WC.skip (WQ.then (hK94 _ _ _ (WC.seq fun K102 hK102 => ?_)))))))
              obtain ⟨g, rfl⟩ := hpv (by omega)
              obtain ⟨x, hx⟩ := last_of (l := s.l) (by omega)
              have hxk := (shp_lt k s hs).1 x (List.mem_of_getLast? hx)
              refine WC.region ?_
              refine WL.z (v := vP b 3) 87 ?_
              refine WL.y (v := vS g3 n n) 88 (x_load rfl rfl Try.underlying33 rfl (HP.cell hH32 5 rfl rfl)) ?_
              refine WL.z (v := vI (k : Int)) 89 ?_
              refine WL.z (v := vS g s.l.length cp) 90 ?_
              refine WL.z (v := vI (s.l.length : Int)) 91 ?_
              refine WL.y (v := vI ((s.l.length : Int) - 1)) 92 (x_sub (Z := (s.l.length : Int) - 1) rfl rfl rfl (by omega) (by omega) (by omega)) ?_
              refine WL.y (v := vP g3 k) 93 (x_idx (k) (k) rfl rfl rfl Try.underlying33 sz3 (by omega) (by omega) (by omega)) ?_
              refine WL.store (H2 := [.cel b1 #[.slice none 0 0, .slice none 0 0, .slice none 0 0, .slice none 0 0, .int .i64 0, .bool false] 116, .cel g0 (irow n (Ec.lay k s).o) 3, .cel g1 (irow n (upI s.e k (-1))) 3, .cel g2 (irow n (upI s.d k (-1))) 3, .cel g3 (irow n (upI (upI s.t k (s.l.length : Int)) k ((s.l.length : Int) - 1))) 3, .cel b #[.slice (some ⟨g0, 0, none⟩) n n, .slice (some ⟨g1, 0, none⟩) n n, .slice (some ⟨g2, 0, none⟩) n n, .slice (some ⟨g3, 0, none⟩) n n, .int .i64 (s.m : Int), .bool true] 116, .own (.slice (some ⟨g, 0, none⟩) s.l.length cp) s.l.length (Ec.lI s.l) 3 1, .cel b19 #[vI (c k), vI (A k), vI (B k)] 75]) 4 hH32 rfl rfl rfl rfl rfl rfl sz3 rfl (by simp [size_irow]; omega) (irow_set _ _ _ _) rfl ?_
              intro w103 hH104
              refine WL.nil (WQ.then (hK102 _ _ _ ?_))
              refine WC.sub (l' := [(0, .slice (some ⟨bb, oo, none⟩) n cap), (2, vP b1 0), (3, vI (n : Int)), (4, vP b 0), (5, vS g s.l.length cp), (6, vI (k : Int)), (7, vP b19 0), (21, .slice (some ⟨bb, oo, none⟩) n cap), (22, vI (n : Int)), (23, vI (k : Int)), (24, .bool true), (59, .bool (opn (c k))), (73, .bool true), (84, .bool false)]) ⟨rfl, rfl, rfl, rfl, rfl, rfl, rfl, rfl, rfl, rfl, rfl, rfl, rfl, rfl, trivial⟩ ?_
              refine WC.seq fun K105 hK105 => WC.region ?_
              refine WL.z (v := vP b 0) 94 ?_
              refine WL.y (v := vS g0 n n) 95 (x_load rfl rfl Try.underlying33 rfl (HP.cell hH104 5 rfl rfl)) ?_
              refine WL.z (v := vI (k : Int)) 96 ?_
              refine WL.y (v := vP g0 k) 97 (x_idx (k) (k) rfl rfl rfl Try.underlying33 sz3 (by omega) (by omega) (by omega)) ?_
              refine WL.y (v := vI (x : Int)) 98 (x_load rfl rfl Try.underlying3 rfl (HP.cell hH104 1 rfl (irow_get (by omega) (lay_o_top hx)))) ?_
              refine WL.z (v := vI (x : Int)) 8 ?_
              refine WL.nil (WQ.then (hK105 _ _ _ (WC.seq fun K106 hK106 => WC.region ?_)))
              refine WL.z (v := .slice (some ⟨bb, oo, none⟩) n cap) 99 ?_
              refine WL.z (v := vI (x : Int)) 100 ?_
              refine WL.y (v := vP bb (oo + x * 3)) 101 (x_idx (x) (oo + x * 3) rfl rfl rfl Try.underlying42 sz75 (by omega) (by omega) (by omega)) ?_
              refine WL.z (v := vP bb (oo + x * 3)) 102 ?_
              refine WL.y (v := vI (c x)) 103 (x_load rfl rfl Try.underlying3 rfl ((HP.oldRange hH104 trivial (hrow x (by omega))) 0 _ rfl)) ?_
              by_cases h29 : c x = 29
              ·
                refine WL.y (v := .bool true) 104 (x_eql rfl rfl rfl (dT (h29))) ?_
                refine WL.z (v := .bool true) 105 ?_
                refine WL.pass 106 rfl (by decide) rfl ?_
                refine WL.pass 107 rfl (by decide) rfl ?_
                refine WL.pass 108 rfl (by decide) rfl ?_
                refine WL.pass 109 rfl (by decide) rfl ?_
                refine WL.pass 110 rfl (by decide) rfl ?_
                refine WL.pass 111 rfl (by decide) rfl ?_
                refine WL.z (v := .bool true) 112 ?_
                refine WL.z (v := .bool true) 9 ?_
                refine WL.nil (WQ.then (hK106 _ _ _ ?_))
                refine WC.sub (l' := [(0, .slice (some ⟨bb, oo, none⟩) n cap), (2, vP b1 0), (3, vI (n : Int)), (4, vP b 0), (5, vS g s.l.length cp), (6, vI (k : Int)), (7, vP b19 0), (8, vI (x : Int)), (9, .bool true), (21, .slice (some ⟨bb, oo, none⟩) n cap), (22, vI (n : Int)), (23, vI (k : Int)), (24, .bool true), (59, .bool (opn (c k))), (73, .bool true), (84, .bool false)]) ⟨rfl, rfl, rfl, rfl, rfl, rfl, rfl, rfl, rfl, rfl, rfl, rfl, rfl, rfl, rfl, rfl, trivial⟩ ?_
                refine WC.seq fun K107 hK107 => WC.seq fun K108 hK108 => WC.region ?_
                refine WL.z (v := vP b19 0) 113 ?_
                refine WL.y (v := vI (c k)) 114 (x_load rfl rfl Try.underlying3 rfl (HP.cell hH104 7 rfl rfl)) ?_
                refine WL.y (v := .bool false) 115 (x_eql rfl rfl rfl (dF (by omega))) ?_
                refine WL.nil (WQ.then (hK108 _ _ _ (WC.no rfl (WC.skip (WQ.then (hK107 _ _ _ (WC.seq fun K109 hK109 => ?_)))))))
                refine WC.seq fun K110 hK110 => WC.region ?_
                refine WL.z (v := .slice (some ⟨bb, oo, none⟩) n cap) 133 ?_
                refine WL.z (v := vI (x : Int)) 134 ?_
                refine WL.y (v := vP bb (oo + x * 3)) 135 (x_idx (x) (oo + x * 3) rfl rfl rfl Try.underlying42 sz75 (by omega) (by omega) (by omega)) ?_
                refine WL.z (v := vP bb (oo + x * 3)) 136 ?_
                refine WL.y (v := vI (c x)) 137 (x_load rfl rfl Try.underlying3 rfl ((HP.oldRange hH104 trivial (hrow x (by omega))) 0 _ rfl)) ?_
                refine WL.y (v := .bool false) 138 (x_eql rfl rfl rfl (dF (by omega))) ?_
                refine WL.z (v := .bool false) 139 ?_
                refine WL.pass 140 rfl (by decide) rfl ?_
                refine WL.pass 141 rfl (by decide) rfl ?_
                refine WL.pass 142 rfl (by decide) rfl ?_
                refine WL.pass 143 rfl (by decide) rfl ?_
                refine WL.pass 144 rfl (by decide) rfl ?_
                refine WL.pass 145 rfl (by decide) rfl ?_
                refine WL.z (v := .bool false) 146 ?_
                refine WL.nil (WQ.then (hK110 _ _ _ ?_))
                refine WC.sub (l' := [(0, .slice (some ⟨bb, oo, none⟩) n cap), (2, vP b1 0), (3, vI (n : Int)), (4, vP b 0), (5, vS g s.l.length cp), (6, vI (k : Int)), (7, vP b19 0), (8, vI (x : Int)), (9, .bool true), (21, .slice (some ⟨bb, oo, none⟩) n cap), (22, vI (n : Int)), (23, vI (k : Int)), (24, .bool true), (59, .bool (opn (c k))), (73, .bool true), (84, .bool false), (115, .bool false), (146, .bool false)]) ⟨rfl, rfl, rfl, rfl, rfl, rfl, rfl, rfl, rfl, rfl, rfl, rfl, rfl, rfl, rfl, rfl, rfl, rfl, trivial⟩ ?_
                refine WC.no rfl (WC.skip (WQ.then (hK109 _ _ _ (WC.seq fun K111 hK111 => WC.region ?_))))
                refine WL.z (v := vP b 2) 149 ?_
                refine WL.y (v := vS g2 n n) 150 (x_load rfl rfl Try.underlying33 rfl (HP.cell hH104 5 rfl rfl)) ?_
                refine WL.z (v := vI (x : Int)) 151 ?_
                refine WL.z (v := vI (k : Int)) 152 ?_
                refine WL.y (v := vP g2 x) 153 (x_idx (x) (x) rfl rfl rfl Try.underlying33 sz3 (by omega) (by omega) (by omega)) ?_
                refine WL.store (H2 := [.cel b1 #[.slice none 0 0, .slice none 0 0, .slice none 0 0, .slice none 0 0, .int .i64 0, .bool false] 116, .cel g0 (irow n (Ec.lay k s).o) 3, .cel g1 (irow n (upI s.e k (-1))) 3, .cel g2 (irow n (upI (upI s.d k (-1)) x (k : Int))) 3, .cel g3 (irow n (upI (upI s.t k (s.l.length : Int)) k ((s.l.length : Int) - 1))) 3, .cel b #[.slice (some ⟨g0, 0, none⟩) n n, .slice (some ⟨g1, 0, none⟩) n n, .slice (some ⟨g2, 0, none⟩) n n, .slice (some ⟨g3, 0, none⟩) n n, .int .i64 (s.m : Int), .bool true] 116, .own (.slice (some ⟨g, 0, none⟩) s.l.length cp) s.l.length (Ec.lI s.l) 3 1, .cel b19 #[vI (c k), vI (A k), vI (B k)] 75]) 3 hH104 rfl rfl rfl rfl rfl rfl sz3 rfl (by simp [size_irow]; omega) (irow_set _ _ _ _) rfl ?_
                intro w112 hH113
                refine WL.nil (WQ.then (hK111 _ _ _ (WC.region ?_)))
                refine WL.z (v := vS g s.l.length cp) 154 ?_
                refine WL.z (v := vS g s.l.length cp) 155 ?_
                refine WL.z (v := vI (s.l.length : Int)) 156 ?_
                refine WL.y (v := vI ((s.l.length - 1 : Nat) : Int)) 157 (x_sub (Z := ((s.l.length - 1 : Nat) : Int)) rfl rfl rfl (by omega) (by omega) (by omega)) ?_
                refine WL.y (v := vS g (s.l.length - 1) cp) 158 (x_sliceH (s.l.length - 1) rfl rfl rfl Try.underlying33 rfl (by omega) sz3) ?_
                have hH114 : HP Tr w _ [.cel b1 #[.slice none 0 0, .slice none 0 0, .slice none 0 0, .slice none 0 0, .int .i64 0, .bool false] 116, .cel g0 (irow n (Ec.lay k s).o) 3, .cel g1 (irow n (upI s.e k (-1))) 3, .cel g2 (irow n (upI (upI s.d k (-1)) x (k : Int))) 3, .cel g3 (irow n (upI (upI s.t k (s.l.length : Int)) k ((s.l.length : Int) - 1))) 3, .cel b #[.slice (some ⟨g0, 0, none⟩) n n, .slice (some ⟨g1, 0, none⟩) n n, .slice (some ⟨g2, 0, none⟩) n n, .slice (some ⟨g3, 0, none⟩) n n, .int .i64 (s.m : Int), .bool true] 116, .own (.slice (some ⟨g, 0, none⟩) (s.l.length - 1) cp) (s.l.length - 1) (Ec.lI s.l.dropLast) 3 1, .cel b19 #[vI (c k), vI (A k), vI (B k)] 75] := HP.repl hH113 6 rfl (own_pop (HP.get hH113 6 rfl) (by simp)) rfl
                refine WL.z (v := vS g (s.l.length - 1) cp) 5 ?_
                refine WL.nil (WQ.inNormal (WQ.inNormal (WQ.then (hK17 _ _ _ ?_))))
                refine WC.sub (l' := [(0, .slice (some ⟨bb, oo, none⟩) n cap), (2, vP b1 0), (3, vI (n : Int)), (4, vP b 0), (5, vS g (s.l.length - 1) cp), (6, vI (k : Int)), (7, vP b19 0), (8, vI (x : Int)), (9, .bool true), (21, .slice (some ⟨bb, oo, none⟩) n cap), (22, vI (n : Int)), (23, vI (k : Int)), (24, .bool true), (59, .bool (opn (c k))), (73, .bool true), (84, .bool false), (115, .bool false), (146, .bool false)]) ⟨rfl, rfl, rfl, rfl, rfl, rfl, rfl, rfl, rfl, rfl, rfl, rfl, rfl, rfl, rfl, rfl, rfl, rfl, trivial⟩ ?_
                refine WC.region ?_
                refine WL.y (v := vI ((k + 1 : Nat) : Int)) 159 (x_add (Z := ((k + 1 : Nat) : Int)) rfl rfl rfl (by omega) (by omega) (by omega)) ?_
                refine WL.z (v := vI ((k + 1 : Nat) : Int)) 23 ?_
                refine WL.nil ?_
                obtain ⟨s1, hs1⟩ : ∃ s1 : Sh, s1 = ⟨s.l.dropLast, (Ec.lay k s).o, (upI s.e k (-1)), (upI (upI s.d k (-1)) x (k : Int)), (upI (upI s.t k (s.l.length : Int)) k ((s.l.length : Int) - 1)), s.m⟩ := ⟨_, rfl⟩
                have hsN : shp c (k + 1) = some s1 := by
                  rw [hs1]
                  exact shp_step hs (stp_end_ok hA h35 hx (show ¬ (c x = 33 ∧ upI s.e k (-1) x < 0) by omega))
                have el : s1.l.length = s.l.length - 1 := by rw [hs1]; simp
                have eI : Ec.lI s1.l = Ec.lI s.l.dropLast := by rw [hs1]
                have hN := HP.eq (H' := [.cel b1 #[.slice none 0 0, .slice none 0 0, .slice none 0 0, .slice none 0 0, .int .i64 0, .bool false] 116, .cel g0 (irow n s1.o) 3, .cel g1 (irow n s1.e) 3, .cel g2 (irow n s1.d) 3, .cel g3 (irow n s1.t) 3, .cel b #[.slice (some ⟨g0, 0, none⟩) n n, .slice (some ⟨g1, 0, none⟩) n n, .slice (some ⟨g2, 0, none⟩) n n, .slice (some ⟨g3, 0, none⟩) n n, .int .i64 (s1.m : Int), .bool true] 116, .own (vS g (s.l.length - 1) cp) s1.l.length (Ec.lI s1.l) 3 1]) (HP.drop hH114 7) (by rw [el, eI]; subst hs1; rfl)
                refine WQ.sub (l' := [(0, .slice (some ⟨bb, oo, none⟩) n cap), (2, vP b1 0), (3, vI (n : Int)), (4, vP b 0), (5, vS g (s.l.length - 1) cp), (21, .slice (some ⟨bb, oo, none⟩) n cap), (22, vI (n : Int)), (23, vI ((k + 1 : Nat) : Int))]) ⟨rfl, rfl, rfl, rfl, rfl, rfl, rfl, rfl, trivial⟩ ?_
                refine WQ.then (hK12 _ _ _ (by omega) ⟨k + 1, s1, vS g (s.l.length - 1) cp, rfl, rfl, by omega, hsN, hN⟩)
              ·
                refine WL.y (v := .bool false) 104 (x_eql rfl rfl rfl (dF (h29))) ?_
                refine WL.z (v := .bool false) 105 ?_
                refine WL.z (v := .slice (some ⟨bb, oo, none⟩) n cap) 106 ?_
                refine WL.z (v := vI (x : Int)) 107 ?_
                refine WL.y (v := vP bb (oo + x * 3)) 108 (x_idx (x) (oo + x * 3) rfl rfl rfl Try.underlying42 sz75 (by omega) (by omega) (by omega)) ?_
                refine WL.z (v := vP bb (oo + x * 3)) 109 ?_
                refine WL.y (v := vI (c x)) 110 (x_load rfl rfl Try.underlying3 rfl ((HP.oldRange hH104 trivial (hrow x (by omega))) 0 _ rfl)) ?_
                by_cases h33 : c x = 33
                ·
                  refine WL.y (v := .bool true) 111 (x_eql rfl rfl rfl (dT (h33))) ?_
                  refine WL.z (v := .bool true) 112 ?_
                  refine WL.z (v := .bool true) 9 ?_
                  refine WL.nil (WQ.then (hK106 _ _ _ ?_))
                  refine WC.sub (l' := [(0, .slice (some ⟨bb, oo, none⟩) n cap), (2, vP b1 0), (3, vI (n : Int)), (4, vP b 0), (5, vS g s.l.length cp), (6, vI (k : Int)), (7, vP b19 0), (8, vI (x : Int)), (9, .bool true), (21, .slice (some ⟨bb, oo, none⟩) n cap), (22, vI (n : Int)), (23, vI (k : Int)), (24, .bool true), (59, .bool (opn (c k))), (73, .bool true), (84, .bool false)]) ⟨rfl, rfl, rfl, rfl, rfl, rfl, rfl, rfl, rfl, rfl, rfl, rfl, rfl, rfl, rfl, rfl, trivial⟩ ?_
                  refine WC.seq fun K115 hK115 => WC.seq fun K116 hK116 => WC.region ?_
                  refine WL.z (v := vP b19 0) 113 ?_
                  refine WL.y (v := vI (c k)) 114 (x_load rfl rfl Try.underlying3 rfl (HP.cell hH104 7 rfl rfl)) ?_
                  refine WL.y (v := .bool false) 115 (x_eql rfl rfl rfl (dF (by omega))) ?_
                  refine WL.nil (WQ.then (hK116 _ _ _ (WC.no rfl (WC.skip (WQ.then (hK115 _ _ _ (WC.seq fun K117 hK117 => ?_)))))))
                  refine WC.seq fun K118 hK118 => WC.region ?_
                  refine WL.z (v := .slice (some ⟨bb, oo, none⟩) n cap) 133 ?_
                  refine WL.z (v := vI (x : Int)) 134 ?_
                  refine WL.y (v := vP bb (oo + x * 3)) 135 (x_idx (x) (oo + x * 3) rfl rfl rfl Try.underlying42 sz75 (by omega) (by omega) (by omega)) ?_
                  refine WL.z (v := vP bb (oo + x * 3)) 136 ?_
                  refine WL.y (v := vI (c x)) 137 (x_load rfl rfl Try.underlying3 rfl ((HP.oldRange hH104 trivial (hrow x (by omega))) 0 _ rfl)) ?_
                  refine WL.y (v := .bool true) 138 (x_eql rfl rfl rfl (dT (by omega))) ?_
                  refine WL.z (v := .bool true) 139 ?_
                  refine WL.z (v := vP b 1) 140 ?_
                  refine WL.y (v := vS g1 n n) 141 (x_load rfl rfl Try.underlying33 rfl (HP.cell hH104 5 rfl rfl)) ?_
                  refine WL.z (v := vI (x : Int)) 142 ?_
                  refine WL.y (v := vP g1 x) 143 (x_idx (x) (x) rfl rfl rfl Try.underlying33 sz3 (by omega) (by omega) (by omega)) ?_
                  refine WL.y (v := vI ((upI s.e k (-1)) x)) 144 (x_load rfl rfl Try.underlying3 rfl (HP.cell hH104 2 rfl (irow_get (by omega) rfl))) ?_
                  by_cases he : (upI s.e k (-1)) x < 0
                  ·
                    refine WL.y (v := .bool true) 145 (x_lss rfl rfl rfl (dT (he))) ?_
                    refine WL.z (v := .bool true) 146 ?_
                    refine WL.nil (WQ.then (hK118 _ _ _ ?_))
                    refine WC.sub (l' := [(0, .slice (some ⟨bb, oo, none⟩) n cap), (2, vP b1 0), (3, vI (n : Int)), (4, vP b 0), (5, vS g s.l.length cp), (6, vI (k : Int)), (7, vP b19 0), (8, vI (x : Int)), (9, .bool true), (21, .slice (some ⟨bb, oo, none⟩) n cap), (22, vI (n : Int)), (23, vI (k : Int)), (24, .bool true), (59, .bool (opn (c k))), (73, .bool true), (84, .bool false), (115, .bool false), (146, .bool true)]) ⟨rfl, rfl, rfl, rfl, rfl, rfl, rfl, rfl, rfl, rfl, rfl, rfl, rfl, rfl, rfl, rfl, rfl, rfl, trivial⟩ ?_
                    refine WC.yes rfl (WC.seq fun K119 hK119 => WC.region ?_)
                    refine WL.z (v := vP b 5) 147 ?_
                    refine WL.store (H2 := [.cel b1 #[.slice none 0 0, .slice none 0 0, .slice none 0 0, .slice none 0 0, .int .i64 0, .bool false] 116, .cel g0 (irow n (Ec.lay k s).o) 3, .cel g1 (irow n (upI s.e k (-1))) 3, .cel g2 (irow n (upI s.d k (-1))) 3, .cel g3 (irow n (upI (upI s.t k (s.l.length : Int)) k ((s.l.length : Int) - 1))) 3, .cel b #[.slice (some ⟨g0, 0, none⟩) n n, .slice (some ⟨g1, 0, none⟩) n n, .slice (some ⟨g2, 0, none⟩) n n, .slice (some ⟨g3, 0, none⟩) n n, .int .i64 (s.m : Int), .bool false] 116, .own (.slice (some ⟨g, 0, none⟩) s.l.length cp) s.l.length (Ec.lI s.l) 3 1, .cel b19 #[vI (c k), vI (A k), vI (B k)] 75]) 5 hH104 rfl rfl rfl rfl rfl rfl sz4 rfl (Nat.le_of_ble_eq_true rfl) rfl rfl ?_
                    intro w120 hH121
                    refine WL.nil (WQ.then (hK119 _ _ _ (WC.seq fun K122 hK122 => WC.region ?_)))
                    refine WL.y (v := .agg #[vS g0 n n, vS g1 n n, vS g2 n n, vS g3 n n, vI (s.m : Int), .bool false]) 148 (x_loadS (cs := [.slice (some ⟨g0, 0, none⟩) n n, .slice (some ⟨g1, 0, none⟩) n n, .slice (some ⟨g2, 0, none⟩) n n, .slice (some ⟨g3, 0, none⟩) n n, .int .i64 (s.m : Int), .bool false]) rfl rfl Try.underlying116 rfl sz116 (HP.range hH121 5 rfl rfl)) ?_
                    refine WL.storeS (H2 := [.cel b1 #[vS g0 n n, vS g1 n n, vS g2 n n, vS g3 n n, vI (s.m : Int), .bool false] 116, .cel g0 (irow n (Ec.lay k s).o) 3, .cel g1 (irow n (upI s.e k (-1))) 3, .cel g2 (irow n (upI s.d k (-1))) 3, .cel g3 (irow n (upI (upI s.t k (s.l.length : Int)) k ((s.l.length : Int) - 1))) 3, .cel b #[.slice (some ⟨g0, 0, none⟩) n n, .slice (some ⟨g1, 0, none⟩) n n, .slice (some ⟨g2, 0, none⟩) n n, .slice (some ⟨g3, 0, none⟩) n n, .int .i64 (s.m : Int), .bool false] 116, .own (.slice (some ⟨g, 0, none⟩) s.l.length cp) s.l.length (Ec.lI s.l) 3 1, .cel b19 #[vI (c k), vI (A k), vI (B k)] 75]) 0 hH121 rfl rfl rfl rfl rfl rfl sz116 rfl (Nat.le_of_ble_eq_true rfl) rfl rfl ?_
                    intro w123 hH124
                    refine WL.nil (WQ.then (hK122 _ _ _ (WC.ret ?_)))
                    refine WQ.thenRet ?_
                    refine WQ.inRet ?_
                    refine WQ.inRet ?_
                    refine WQ.thenRet ?_
                    refine WQ.thenRet ?_
                    refine WQ.inRet ?_
                    refine WQ.thenRet ?_
                    refine WQ.retC 2 116 rfl rfl (HP.loadRow hH124 0 rfl Try.underlying116 rfl sz116) ?_
                    have hOK : okS c n = false := shp_bad hs (stp_end_try hA h35 hx h33 (show upI s.e k (-1) x < 0 by omega)) (by omega)
                    refine ⟨g0, g1, g2, g3, (s.m : Int), ⟨[], (Ec.lay k s).o, (upI s.e k (-1)), (upI s.d k (-1)), (upI (upI s.t k (s.l.length : Int)) k ((s.l.length : Int) - 1)), 0⟩, by rw [hOK], ?_, ?_⟩
                    · exact HP.drop (HP.drop (HP.drop (HP.drop hH124 7) 6) 5) 0
                    · intro hq; rw [hOK] at hq; cases hq
                  ·
                    refine WL.y (v := .bool false) 145 (x_lss rfl rfl rfl (dF (he))) ?_
                    refine WL.z (v := .bool false) 146 ?_
                    refine WL.nil (WQ.then (hK118 _ _ _ ?_))
                    refine WC.sub (l' := [(0, .slice (some ⟨bb, oo, none⟩) n cap), (2, vP b1 0), (3, vI (n : Int)), (4, vP b 0), (5, vS g s.l.length cp), (6, vI (k : Int)), (7, vP b19 0), (8, vI (x : Int)), (9, .bool true), (21, .slice (some ⟨bb, oo, none⟩) n cap), (22, vI (n : Int)), (23, vI (k : Int)), (24, .bool true), (59, .bool (opn (c k))), (73, .bool true), (84, .bool false), (115, .bool false), (146, .bool false)]) ⟨rfl, rfl, rfl, rfl, rfl, rfl, rfl, rfl, rfl, rfl, rfl, rfl, rfl, rfl, rfl, rfl, rfl, rfl, trivial⟩ ?_
                    refine WC.no rfl (WC.skip (WQ.then (hK117 _ _ _ (WC.seq fun K125 hK125 => WC.region ?_))))
                    refine WL.z (v := vP b 2) 149 ?_
                    refine WL.y (v := vS g2 n n) 150 (x_load rfl rfl Try.underlying33 rfl (HP.cell hH104 5 rfl rfl)) ?_
                    refine WL.z (v := vI (x : Int)) 151 ?_
                    refine WL.z (v := vI (k : Int)) 152 ?_
                    refine WL.y (v := vP g2 x) 153 (x_idx (x) (x) rfl rfl rfl Try.underlying33 sz3 (by omega) (by omega) (by omega)) ?_
                    refine WL.store (H2 := [.cel b1 #[.slice none 0 0, .slice none 0 0, .slice none 0 0, .slice none 0 0, .int .i64 0, .bool false] 116, .cel g0 (irow n (Ec.lay k s).o) 3, .cel g1 (irow n (upI s.e k (-1))) 3, .cel g2 (irow n (upI (upI s.d k (-1)) x (k : Int))) 3, .cel g3 (irow n (upI (upI s.t k (s.l.length : Int)) k ((s.l.length : Int) - 1))) 3, .cel b #[.slice (some ⟨g0, 0, none⟩) n n, .slice (some ⟨g1, 0, none⟩) n n, .slice (some ⟨g2, 0, none⟩) n n, .slice (some ⟨g3, 0, none⟩) n n, .int .i64 (s.m : Int), .bool true] 116, .own (.slice (some ⟨g, 0, none⟩) s.l.length cp) s.l.length (Ec.lI s.l) 3 1, .cel b19 #[vI (c k), vI (A k), vI (B k)] 75]) 3 hH104 rfl rfl rfl rfl rfl rfl sz3 rfl (by simp [size_irow]; omega) (irow_set _ _ _ _) rfl ?_
                    intro w126 hH127
                    refine WL.nil (WQ.then (hK125 _ _ _ (WC.region ?_)))
                    refine WL.z (v := vS g s.l.length cp) 154 ?_
                    refine WL.z (v := vS g s.l.length cp) 155 ?_
                    refine WL.z (v := vI (s.l.length : Int)) 156 ?_
                    refine WL.y (v := vI ((s.l.length - 1 : Nat) : Int)) 157 (x_sub (Z := ((s.l.length - 1 : Nat) : Int)) rfl rfl rfl (by omega) (by omega) (by omega)) ?_
                    refine WL.y (v := vS g (s.l.length - 1) cp) 158 (x_sliceH (s.l.length - 1) rfl rfl rfl Try.underlying33 rfl (by omega) sz3) ?_
                    have hH128 : HP Tr w _ [.cel b1 #[.slice none 0 0, .slice none 0 0, .slice none 0 0, .slice none 0 0, .int .i64 0, .bool false] 116, .cel g0 (irow n (Ec.lay k s).o) 3, .cel g1 (irow n (upI s.e k (-1))) 3, .cel g2 (irow n (upI (upI s.d k (-1)) x (k : Int))) 3, .cel g3 (irow n (upI (upI s.t k (s.l.length : Int)) k ((s.l.length : Int) - 1))) 3, .cel b #[.slice (some ⟨g0, 0, none⟩) n n, .slice (some ⟨g1, 0, none⟩) n n, .slice (some ⟨g2, 0, none⟩) n n, .slice (some ⟨g3, 0, none⟩) n n, .int .i64 (s.m : Int), .bool true] 116, .own (.slice (some ⟨g, 0, none⟩) (s.l.length - 1) cp) (s.l.length - 1) (Ec.lI s.l.dropLast) 3 1, .cel b19 #[vI (c k), vI (A k), vI (B k)] 75] := HP.repl hH127 6 rfl (own_pop (HP.get hH127 6 rfl) (by simp)) rfl
                    refine WL.z (v := vS g (s.l.length - 1) cp) 5 ?_
                    refine WL.nil (WQ.inNormal (WQ.inNormal (WQ.then (hK17 _ _ _ ?_))))
                    refine WC.sub (l' := [(0, .slice (some ⟨bb, oo, none⟩) n cap), (2, vP b1 0), (3, vI (n : Int)), (4, vP b 0), (5, vS g (s.l.length - 1) cp), (6, vI (k : Int)), (7, vP b19 0), (8, vI (x : Int)), (9, .bool true), (21, .slice (some ⟨bb, oo, none⟩) n cap), (22, vI (n : Int)), (23, vI (k : Int)), (24, .bool true), (59, .bool (opn (c k))), (73, .bool true), (84, .bool false), (115, .bool false), (146, .bool false)]) ⟨rfl, rfl, rfl, rfl, rfl, rfl, rfl, rfl, rfl, rfl, rfl, rfl, rfl, rfl, rfl, rfl, rfl, rfl, trivial⟩ ?_
                    refine WC.region ?_
                    refine WL.y (v := vI ((k + 1 : Nat) : Int)) 159 (x_add (Z := ((k + 1 : Nat) : Int)) rfl rfl rfl (by omega) (by omega) (by omega)) ?_
                    refine WL.z (v := vI ((k + 1 : Nat) : Int)) 23 ?_
                    refine WL.nil ?_
                    obtain ⟨s1, hs1⟩ : ∃ s1 : Sh, s1 = ⟨s.l.dropLast, (Ec.lay k s).o, (upI s.e k (-1)), (upI (upI s.d k (-1)) x (k : Int)), (upI (upI s.t k (s.l.length : Int)) k ((s.l.length : Int) - 1)), s.m⟩ := ⟨_, rfl⟩
                    have hsN : shp c (k + 1) = some s1 := by
                      rw [hs1]
                      exact shp_step hs (stp_end_ok hA h35 hx (show ¬ (c x = 33 ∧ upI s.e k (-1) x < 0) by omega))
                    have el : s1.l.length = s.l.length - 1 := by rw [hs1]; simp
                    have eI : Ec.lI s1.l = Ec.lI s.l.dropLast := by rw [hs1]
                    have hN := HP.eq (H' := [.cel b1 #[.slice none 0 0, .slice none 0 0, .slice none 0 0, .slice none 0 0, .int .i64 0, .bool false] 116, .cel g0 (irow n s1.o) 3, .cel g1 (irow n s1.e) 3, .cel g2 (irow n s1.d) 3, .cel g3 (irow n s1.t) 3, .cel b #[.slice (some ⟨g0, 0, none⟩) n n, .slice (some ⟨g1, 0, none⟩) n n, .slice (some ⟨g2, 0, none⟩) n n, .slice (some ⟨g3, 0, none⟩) n n, .int .i64 (s1.m : Int), .bool true] 116, .own (vS g (s.l.length - 1) cp) s1.l.length (Ec.lI s1.l) 3 1]) (HP.drop hH128 7) (by rw [el, eI]; subst hs1; rfl)
                    refine WQ.sub (l' := [(0, .slice (some ⟨bb, oo, none⟩) n cap), (2, vP b1 0), (3, vI (n : Int)), (4, vP b 0), (5, vS g (s.l.length - 1) cp), (21, .slice (some ⟨bb, oo, none⟩) n cap), (22, vI (n : Int)), (23, vI ((k + 1 : Nat) : Int))]) ⟨rfl, rfl, rfl, rfl, rfl, rfl, rfl, rfl, trivial⟩ ?_
                    refine WQ.then (hK12 _ _ _ (by omega) ⟨k + 1, s1, vS g (s.l.length - 1) cp, rfl, rfl, by omega, hsN, hN⟩)
                ·
                  refine WL.y (v := .bool false) 111 (x_eql rfl rfl rfl (dF (h33))) ?_
                  refine WL.z (v := .bool false) 112 ?_
                  refine WL.z (v := .bool false) 9 ?_
                  refine WL.nil (WQ.then (hK106 _ _ _ ?_))
                  refine WC.sub (l' := [(0, .slice (some ⟨bb, oo, none⟩) n cap), (2, vP b1 0), (3, vI (n : Int)), (4, vP b 0), (5, vS g s.l.length cp), (6, vI (k : Int)), (7, vP b19 0), (8, vI (x : Int)), (9, .bool false), (21, .slice (some ⟨bb, oo, none⟩) n cap), (22, vI (n : Int)), (23, vI (k : Int)), (24, .bool true), (59, .bool (opn (c k))), (73, .bool true), (84, .bool false)]) ⟨rfl, rfl, rfl, rfl, rfl, rfl, rfl, rfl, rfl, rfl, rfl, rfl, rfl, rfl, rfl, rfl, trivial⟩ ?_
                  refine WC.seq fun K129 hK129 => WC.seq fun K130 hK130 => WC.region ?_
                  refine WL.z (v := vP b19 0) 113 ?_
                  refine WL.y (v := vI (c k)) 114 (x_load rfl rfl Try.underlying3 rfl (HP.cell hH104 7 rfl rfl)) ?_
                  refine WL.y (v := .bool false) 115 (x_eql rfl rfl rfl (dF (by omega))) ?_
                  refine WL.nil (WQ.then (hK130 _ _ _ (WC.no rfl (WC.skip (WQ.then (hK129 _ _ _ (WC.seq fun K131 hK131 => ?_)))))))
                  refine WC.seq fun K132 hK132 => WC.region ?_
                  refine WL.z (v := .slice (some ⟨bb, oo, none⟩) n cap) 133 ?_
                  refine WL.z (v := vI (x : Int)) 134 ?_
                  refine WL.y (v := vP bb (oo + x * 3)) 135 (x_idx (x) (oo + x * 3) rfl rfl rfl Try.underlying42 sz75 (by omega) (by omega) (by omega)) ?_
                  refine WL.z (v := vP bb (oo + x * 3)) 136 ?_
                  refine WL.y (v := vI (c x)) 137 (x_load rfl rfl Try.underlying3 rfl ((HP.oldRange hH104 trivial (hrow x (by omega))) 0 _ rfl)) ?_
                  refine WL.y (v := .bool false) 138 (x_eql rfl rfl rfl (dF (by omega))) ?_
                  refine WL.z (v := .bool false) 139 ?_
                  refine WL.pass 140 rfl (by decide) rfl ?_
                  refine WL.pass 141 rfl (by decide) rfl ?_
                  refine WL.pass 142 rfl (by decide) rfl ?_
                  refine WL.pass 143 rfl (by decide) rfl ?_
                  refine WL.pass 144 rfl (by decide) rfl ?_
                  refine WL.pass 145 rfl (by decide) rfl ?_
                  refine WL.z (v := .bool false) 146 ?_
                  refine WL.nil (WQ.then (hK132 _ _ _ ?_))
                  refine WC.sub (l' := [(0, .slice (some ⟨bb, oo, none⟩) n cap), (2, vP b1 0), (3, vI (n : Int)), (4, vP b 0), (5, vS g s.l.length cp), (6, vI (k : Int)), (7, vP b19 0), (8, vI (x : Int)), (9, .bool false), (21, .slice (some ⟨bb, oo, none⟩) n cap), (22, vI (n : Int)), (23, vI (k : Int)), (24, .bool true), (59, .bool (opn (c k))), (73, .bool true), (84, .bool false), (115, .bool false), (146, .bool false)]) ⟨rfl, rfl, rfl, rfl, rfl, rfl, rfl, rfl, rfl, rfl, rfl, rfl, rfl, rfl, rfl, rfl, rfl, rfl, trivial⟩ ?_
                  refine WC.no rfl (WC.skip (WQ.then (hK131 _ _ _ (WC.seq fun K133 hK133 => WC.region ?_))))
                  refine WL.z (v := vP b 2) 149 ?_
                  refine WL.y (v := vS g2 n n) 150 (x_load rfl rfl Try.underlying33 rfl (HP.cell hH104 5 rfl rfl)) ?_
                  refine WL.z (v := vI (x : Int)) 151 ?_
                  refine WL.z (v := vI (k : Int)) 152 ?_
                  refine WL.y (v := vP g2 x) 153 (x_idx (x) (x) rfl rfl rfl Try.underlying33 sz3 (by omega) (by omega) (by omega)) ?_
                  refine WL.store (H2 := [.cel b1 #[.slice none 0 0, .slice none 0 0, .slice none 0 0, .slice none 0 0, .int .i64 0, .bool false] 116, .cel g0 (irow n (Ec.lay k s).o) 3, .cel g1 (irow n (upI s.e k (-1))) 3, .cel g2 (irow n (upI (upI s.d k (-1)) x (k : Int))) 3, .cel g3 (irow n (upI (upI s.t k (s.l.length : Int)) k ((s.l.length : Int) - 1))) 3, .cel b #[.slice (some ⟨g0, 0, none⟩) n n, .slice (some ⟨g1, 0, none⟩) n n, .slice (some ⟨g2, 0, none⟩) n n, .slice (some ⟨g3, 0, none⟩) n n, .int .i64 (s.m : Int), .bool true] 116, .own (.slice (some ⟨g, 0, none⟩) s.l.length cp) s.l.length (Ec.lI s.l) 3 1, .cel b19 #[vI (c k), vI (A k), vI (B k)] 75]) 3 hH104 rfl rfl rfl rfl rfl rfl sz3 rfl (by simp [size_irow]; omega) (irow_set _ _ _ _) rfl ?_
                  intro w134 hH135
                  refine WL.nil (WQ.then (hK133 _ _ _ (WC.region ?_)))
                  refine WL.z (v := vS g s.l.length cp) 154 ?_
                  refine WL.z (v := vS g s.l.length cp) 155 ?_
                  refine WL.z (v := vI (s.l.length : Int)) 156 ?_
                  refine WL.y (v := vI ((s.l.length - 1 : Nat) : Int)) 157 (x_sub (Z := ((s.l.length - 1 : Nat) : Int)) rfl rfl rfl (by omega) (by omega) (by omega)) ?_
                  refine WL.y (v := vS g (s.l.length - 1) cp) 158 (x_sliceH (s.l.length - 1) rfl rfl rfl Try.underlying33 rfl (by omega) sz3) ?_
                  have hH136 : HP Tr w _ [.cel b1 #[.slice none 0 0, .slice none 0 0, .slice none 0 0, .slice none 0 0, .int .i64 0, .bool false] 116, .cel g0 (irow n (Ec.lay k s).o) 3, .cel g1 (irow n (upI s.e k (-1))) 3, .cel g2 (irow n (upI (upI s.d k (-1)) x (k : Int))) 3, .cel g3 (irow n (upI (upI s.t k (s.l.length : Int)) k ((s.l.length : Int) - 1))) 3, .cel b #[.slice (some ⟨g0, 0, none⟩) n n, .slice (some ⟨g1, 0, none⟩) n n, .slice (some ⟨g2, 0, none⟩) n n, .slice (some ⟨g3, 0, none⟩) n n, .int .i64 (s.m : Int), .bool true] 116, .own (.slice (some ⟨g, 0, none⟩) (s.l.length - 1) cp) (s.l.length - 1) (Ec.lI s.l.dropLast) 3 1, .cel b19 #[vI (c k), vI (A k), vI (B k)] 75] := HP.repl hH135 6 rfl (own_pop (HP.get hH135 6 rfl) (by simp)) rfl
                  refine WL.z (v := vS g (s.l.length - 1) cp) 5 ?_
                  refine WL.nil (WQ.inNormal (WQ.inNormal (WQ.then (hK17 _ _ _ ?_))))
                  refine WC.sub (l' := [(0, .slice (some ⟨bb, oo, none⟩) n cap), (2, vP b1 0), (3, vI (n : Int)), (4, vP b 0), (5, vS g (s.l.length - 1) cp), (6, vI (k : Int)), (7, vP b19 0), (8, vI (x : Int)), (9, .bool false), (21, .slice (some ⟨bb, oo, none⟩) n cap), (22, vI (n : Int)), (23, vI (k : Int)), (24, .bool true), (59, .bool (opn (c k))), (73, .bool true), (84, .bool false), (115, .bool false), (146, .bool false)]) ⟨rfl, rfl, rfl, rfl, rfl, rfl, rfl, rfl, rfl, rfl, rfl, rfl, rfl, rfl, rfl, rfl, rfl, rfl, trivial⟩ ?_
                  refine WC.region ?_
                  refine WL.y (v := vI ((k + 1 : Nat) : Int)) 159 (x_add (Z := ((k + 1 : Nat) : Int)) rfl rfl rfl (by omega) (by omega) (by omega)) ?_
                  refine WL.z (v := vI ((k + 1 : Nat) : Int)) 23 ?_
                  refine WL.nil ?_
                  obtain ⟨s1, hs1⟩ : ∃ s1 : Sh, s1 = ⟨s.l.dropLast, (Ec.lay k s).o, (upI s.e k (-1)), (upI (upI s.d k (-1)) x (k : Int)), (upI (upI s.t k (s.l.length : Int)) k ((s.l.length : Int) - 1)), s.m⟩ := ⟨_, rfl⟩
                  have hsN : shp c (k + 1) = some s1 := by
                    rw [hs1]
                    exact shp_step hs (stp_end_ok hA h35 hx (show ¬ (c x = 33 ∧ upI s.e k (-1) x < 0) by omega))
                  have el : s1.l.length = s.l.length - 1 := by rw [hs1]; simp
                  have eI : Ec.lI s1.l = Ec.lI s.l.dropLast := by rw [hs1]
                  have hN := HP.eq (H' := [.cel b1 #[.slice none 0 0, .slice none 0 0, .slice none 0 0, .slice none 0 0, .int .i64 0, .bool false] 116, .cel g0 (irow n s1.o) 3, .cel g1 (irow n s1.e) 3, .cel g2 (irow n s1.d) 3, .cel g3 (irow n s1.t) 3, .cel b #[.slice (some ⟨g0, 0, none⟩) n n, .slice (some ⟨g1, 0, none⟩) n n, .slice (some ⟨g2, 0, none⟩) n n, .slice (some ⟨g3, 0, none⟩) n n, .int .i64 (s1.m : Int), .bool true] 116, .own (vS g (s.l.length - 1) cp) s1.l.length (Ec.lI s1.l) 3 1]) (HP.drop hH136 7) (by rw [el, eI]; subst hs1; rfl)
                  refine WQ.sub (l' := [(0, .slice (some ⟨bb, oo, none⟩) n cap), (2, vP b1 0), (3, vI (n : Int)), (4, vP b 0), (5, vS g (s.l.length - 1) cp), (21, .slice (some ⟨bb, oo, none⟩) n cap), (22, vI (n : Int)), (23, vI ((k + 1 : Nat) : Int))]) ⟨rfl, rfl, rfl, rfl, rfl, rfl, rfl, rfl, trivial⟩ ?_
                  refine WQ.then (hK12 _ _ _ (by omega) ⟨k + 1, s1, vS g (s.l.length - 1) cp, rfl, rfl, by omega, hsN, hN⟩)
          ·
            refine WL.y (v := .bool false) 80 (x_eql rfl rfl rfl (dF (h35))) ?_
            refine WL.z (v := .bool false) 81 ?_
            refine WL.z (v := .bool false) 73 ?_
            refine WL.nil (WQ.then (hK44 _ _ _ ?_))
            refine WC.sub (l' := [(0, .slice (some ⟨bb, oo, none⟩) n cap), (2, vP b1 0), (3, vI (n : Int)), (4, vP b 0), (5, .slice pv s.l.length cp), (6, vI (k : Int)), (7, vP b19 0), (21, .slice (some ⟨bb, oo, none⟩) n cap), (22, vI (n : Int)), (23, vI (k : Int)), (24, .bool true), (59, .bool (opn (c k))), (73, .bool false)]) ⟨rfl, rfl, rfl, rfl, rfl, rfl, rfl, rfl, rfl, rfl, rfl, rfl, rfl, trivial⟩ ?_
            refine WC.no rfl (WC.skip (WQ.inNormal (WQ.inNormal (WQ.then (hK17 _ _ _ (WC.region ?_))))))
            refine WL.y (v := vI ((k + 1 : Nat) : Int)) 159 (x_add (Z := ((k + 1 : Nat) : Int)) rfl rfl rfl (by omega) (by omega) (by omega)) ?_
            refine WL.z (v := vI ((k + 1 : Nat) : Int)) 23 ?_
            refine WL.nil ?_
            obtain ⟨s1, hs1⟩ : ∃ s1 : Sh, s1 = ⟨s.l, (Ec.lay k s).o, (upI s.e k (-1)), (upI s.d k (-1)), (upI s.t k (s.l.length : Int)), s.m⟩ := ⟨_, rfl⟩
            have hsN : shp c (k + 1) = some s1 := by
              rw [hs1]
              exact shp_step hs (stp_other hA h34 h35)
            have el : s1.l.length = s.l.length := by rw [hs1]
            have eI : Ec.lI s1.l = Ec.lI s.l := by rw [hs1]
            have hN := HP.eq (H' := [.cel b1 #[.slice none 0 0, .slice none 0 0, .slice none 0 0, .slice none 0 0, .int .i64 0, .bool false] 116, .cel g0 (irow n s1.o) 3, .cel g1 (irow n s1.e) 3, .cel g2 (irow n s1.d) 3, .cel g3 (irow n s1.t) 3, .cel b #[.slice (some ⟨g0, 0, none⟩) n n, .slice (some ⟨g1, 0, none⟩) n n, .slice (some ⟨g2, 0, none⟩) n n, .slice (some ⟨g3, 0, none⟩) n n, .int .i64 (s1.m : Int), .bool true] 116, .own (.slice pv s.l.length cp) s1.l.length (Ec.lI s1.l) 3 1]) (HP.drop hH32 7) (by rw [el, eI]; subst hs1; rfl)
            refine WQ.sub (l' := [(0, .slice (some ⟨bb, oo, none⟩) n cap), (2, vP b1 0), (3, vI (n : Int)), (4, vP b 0), (5, .slice pv s.l.length cp), (21, .slice (some ⟨bb, oo, none⟩) n cap), (22, vI (n : Int)), (23, vI ((k + 1 : Nat) : Int))]) ⟨rfl, rfl, rfl, rfl, rfl, rfl, rfl, rfl, trivial⟩ ?_
            refine WQ.then (hK12 _ _ _ (by omega) ⟨k + 1, s1, .slice pv s.l.length cp, rfl, rfl, by omega, hsN, hN⟩)
  ·
    refine WL.y (v := .bool false) 24 (x_lss rfl rfl rfl (dF (hlt))) ?_
    refine WL.nil (WQ.then (hK15 _ _ _ (WC.seq fun K137 hK137 => WC.no rfl (WC.exit (WQ.thenExit (WQ.thenExit ?_))))))
    refine WQ.inExit (WQ.then (hK10 _ _ _ (WC.seq fun K138 hK138 => ?_)))
    obtain rfl : n = k := by omega
    refine WC.region ?_
    refine WL.z (v := .slice pv s.l.length cp) 160 ?_
    refine WL.z (v := vI (s.l.length : Int)) 161 ?_
    by_cases hl : (s.l.length : Int) = 0
    ·
      refine WL.y (v := .bool true) 162 (x_eql rfl rfl rfl (dT (hl))) ?_
      refine WL.z (v := .bool true) 163 ?_
      refine WL.z (v := vP b 4) 164 ?_
      refine WL.y (v := vI (s.m : Int)) 165 (x_load rfl rfl Try.underlying3 rfl (HP.cell hH14 5 rfl rfl)) ?_
      by_cases hm : (s.m : Int) ≤ 6
      ·
        refine WL.y (v := .bool true) 166 (x_leq rfl rfl rfl (dT (hm))) ?_
        refine WL.z (v := .bool true) 167 ?_
        refine WL.z (v := vP b 5) 168 ?_
        refine WL.store (H2 := [.cel b1 #[.slice none 0 0, .slice none 0 0, .slice none 0 0, .slice none 0 0, .int .i64 0, .bool false] 116, .cel g0 (irow n s.o) 3, .cel g1 (irow n s.e) 3, .cel g2 (irow n s.d) 3, .cel g3 (irow n s.t) 3, .cel b #[.slice (some ⟨g0, 0, none⟩) n n, .slice (some ⟨g1, 0, none⟩) n n, .slice (some ⟨g2, 0, none⟩) n n, .slice (some ⟨g3, 0, none⟩) n n, .int .i64 (s.m : Int), .bool true] 116, .own (.slice pv s.l.length cp) s.l.length (Ec.lI s.l) 3 1]) 5 hH14 rfl rfl rfl rfl rfl rfl sz4 rfl (Nat.le_of_ble_eq_true rfl) rfl rfl ?_
        intro w139 hH140
        refine WL.nil (WQ.then (hK138 _ _ _ ?_))
        refine WC.sub (l' := [(0, .slice p n cap), (2, vP b1 0), (3, vI (n : Int)), (4, vP b 0), (5, .slice pv s.l.length cp), (21, .slice p n cap), (22, vI (n : Int)), (23, vI (n : Int)), (24, .bool false)]) ⟨rfl, rfl, rfl, rfl, rfl, rfl, rfl, rfl, rfl, trivial⟩ ?_
        refine WC.seq fun K141 hK141 => WC.region ?_
        refine WL.y (v := .agg #[vS g0 n n, vS g1 n n, vS g2 n n, vS g3 n n, vI (s.m : Int), .bool true]) 169 (x_loadS (cs := [.slice (some ⟨g0, 0, none⟩) n n, .slice (some ⟨g1, 0, none⟩) n n, .slice (some ⟨g2, 0, none⟩) n n, .slice (some ⟨g3, 0, none⟩) n n, .int .i64 (s.m : Int), .bool true]) rfl rfl Try.underlying116 rfl sz116 (HP.range hH140 5 rfl rfl)) ?_
        refine WL.storeS (H2 := [.cel b1 #[vS g0 n n, vS g1 n n, vS g2 n n, vS g3 n n, vI (s.m : Int), .bool true] 116, .cel g0 (irow n s.o) 3, .cel g1 (irow n s.e) 3, .cel g2 (irow n s.d) 3, .cel g3 (irow n s.t) 3, .cel b #[.slice (some ⟨g0, 0, none⟩) n n, .slice (some ⟨g1, 0, none⟩) n n, .slice (some ⟨g2, 0, none⟩) n n, .slice (some ⟨g3, 0, none⟩) n n, .int .i64 (s.m : Int), .bool true] 116, .own (.slice pv s.l.length cp) s.l.length (Ec.lI s.l) 3 1]) 0 hH140 rfl rfl rfl rfl rfl rfl sz116 rfl (Nat.le_of_ble_eq_true rfl) rfl rfl ?_
        intro w142 hH143
        refine WL.nil (WQ.then (hK141 _ _ _ (WC.ret ?_)))
        refine WQ.retC 2 116 rfl rfl (HP.loadRow hH143 0 rfl Try.underlying116 rfl sz116) ?_
        have hOK : okS c n = true := okS_yes hs (by omega) (by omega)
        refine ⟨g0, g1, g2, g3, (s.m : Int), s, by rw [hOK], ?_, ?_⟩
        · exact HP.drop (HP.drop (HP.drop hH143 6) 5) 0
        · exact fun _ => ⟨hs, rfl⟩
      ·
        refine WL.y (v := .bool false) 166 (x_leq rfl rfl rfl (dF (hm))) ?_
        refine WL.z (v := .bool false) 167 ?_
        refine WL.z (v := vP b 5) 168 ?_
        refine WL.store (H2 := [.cel b1 #[.slice none 0 0, .slice none 0 0, .slice none 0 0, .slice none 0 0, .int .i64 0, .bool false] 116, .cel g0 (irow n s.o) 3, .cel g1 (irow n s.e) 3, .cel g2 (irow n s.d) 3, .cel g3 (irow n s.t) 3, .cel b #[.slice (some ⟨g0, 0, none⟩) n n, .slice (some ⟨g1, 0, none⟩) n n, .slice (some ⟨g2, 0, none⟩) n n, .slice (some ⟨g3, 0, none⟩) n n, .int .i64 (s.m : Int), .bool false] 116, .own (.slice pv s.l.length cp) s.l.length (Ec.lI s.l) 3 1]) 5 hH14 rfl rfl rfl rfl rfl rfl sz4 rfl (Nat.le_of_ble_eq_true rfl) rfl rfl ?_
        intro w144 hH145
        refine WL.nil (WQ.then (hK138 _ _ _ ?_))
        refine WC.sub (l' := [(0, .slice p n cap), (2, vP b1 0), (3, vI (n : Int)), (4, vP b 0), (5, .slice pv s.l.length cp), (21, .slice p n cap), (22, vI (n : Int)), (23, vI (n : Int)), (24, .bool false)]) ⟨rfl, rfl, rfl, rfl, rfl, rfl, rfl, rfl, rfl, trivial⟩ ?_
        refine WC.seq fun K146 hK146 => WC.region ?_
        refine WL.y (v := .agg #[vS g0 n n, vS g1 n n, vS g2 n n, vS g3 n n, vI (s.m : Int), .bool false]) 169 (x_loadS (cs := [.slice (some ⟨g0, 0, none⟩) n n, .slice (some ⟨g1, 0, none⟩) n n, .slice (some ⟨g2, 0, none⟩) n n, .slice (some ⟨g3, 0, none⟩) n n, .int .i64 (s.m : Int), .bool false]) rfl rfl Try.underlying116 rfl sz116 (HP.range hH145 5 rfl rfl)) ?_
        refine WL.storeS (H2 := [.cel b1 #[vS g0 n n, vS g1 n n, vS g2 n n, vS g3 n n, vI (s.m : Int), .bool false] 116, .cel g0 (irow n s.o) 3, .cel g1 (irow n s.e) 3, .cel g2 (irow n s.d) 3, .cel g3 (irow n s.t) 3, .cel b #[.slice (some ⟨g0, 0, none⟩) n n, .slice (some ⟨g1, 0, none⟩) n n, .slice (some ⟨g2, 0, none⟩) n n, .slice (some ⟨g3, 0, none⟩) n n, .int .i64 (s.m : Int), .bool false] 116, .own (.slice pv s.l.length cp) s.l.length (Ec.lI s.l) 3 1]) 0 hH145 rfl rfl rfl rfl rfl rfl sz116 rfl (Nat.le_of_ble_eq_true rfl) rfl rfl ?_
        intro w147 hH148
        refine WL.nil (WQ.then (hK146 _ _ _ (WC.ret ?_)))
        refine WQ.retC 2 116 rfl rfl (HP.loadRow hH148 0 rfl Try.underlying116 rfl sz116) ?_
        have hOK : okS c n = false := okS_no hs (by omega)
        refine ⟨g0, g1, g2, g3, (s.m : Int), ⟨[], s.o, s.e, s.d, s.t, 0⟩, by rw [hOK], ?_, ?_⟩
        · exact HP.drop (HP.drop (HP.drop hH148 6) 5) 0
        · intro hq; rw [hOK] at hq; cases hq
    ·
      refine WL.y (v := .bool false) 162 (x_eql rfl rfl rfl (dF (hl))) ?_
      refine WL.z (v := .bool false) 163 ?_
      refine WL.pass 164 rfl (by decide) rfl ?_
      refine WL.pass 165 rfl (by decide) rfl ?_
      refine WL.pass 166 rfl (by decide) rfl ?_
      refine WL.z (v := .bool false) 167 ?_
      refine WL.z (v := vP b 5) 168 ?_
      refine WL.store (H2 := [.cel b1 #[.slice none 0 0, .slice none 0 0, .slice none 0 0, .slice none 0 0, .int .i64 0, .bool false] 116, .cel g0 (irow n s.o) 3, .cel g1 (irow n s.e) 3, .cel g2 (irow n s.d) 3, .cel g3 (irow n s.t) 3, .cel b #[.slice (some ⟨g0, 0, none⟩) n n, .slice (some ⟨g1, 0, none⟩) n n, .slice (some ⟨g2, 0, none⟩) n n, .slice (some ⟨g3, 0, none⟩) n n, .int .i64 (s.m : Int), .bool false] 116, .own (.slice pv s.l.length cp) s.l.length (Ec.lI s.l) 3 1]) 5 hH14 rfl rfl rfl rfl rfl rfl sz4 rfl (Nat.le_of_ble_eq_true rfl) rfl rfl ?_
      intro w149 hH150
      refine WL.nil (WQ.then (hK138 _ _ _ ?_))
      refine WC.sub (l' := [(0, .slice p n cap), (2, vP b1 0), (3, vI (n : Int)), (4, vP b 0), (5, .slice pv s.l.length cp), (21, .slice p n cap), (22, vI (n : Int)), (23, vI (n : Int)), (24, .bool false)]) ⟨rfl, rfl, rfl, rfl, rfl, rfl, rfl, rfl, rfl, trivial⟩ ?_
      refine WC.seq fun K151 hK151 => WC.region ?_
      refine WL.y (v := .agg #[vS g0 n n, vS g1 n n, vS g2 n n, vS g3 n n, vI (s.m : Int), .bool false]) 169 (x_loadS (cs := [.slice (some ⟨g0, 0, none⟩) n n, .slice (some ⟨g1, 0, none⟩) n n, .slice (some ⟨g2, 0, none⟩) n n, .slice (some ⟨g3, 0, none⟩) n n, .int .i64 (s.m : Int), .bool false]) rfl rfl Try.underlying116 rfl sz116 (HP.range hH150 5 rfl rfl)) ?_
      refine WL.storeS (H2 := [.cel b1 #[vS g0 n n, vS g1 n n, vS g2 n n, vS g3 n n, vI (s.m : Int), .bool false] 116, .cel g0 (irow n s.o) 3, .cel g1 (irow n s.e) 3, .cel g2 (irow n s.d) 3, .cel g3 (irow n s.t) 3, .cel b #[.slice (some ⟨g0, 0, none⟩) n n, .slice (some ⟨g1, 0, none⟩) n n, .slice (some ⟨g2, 0, none⟩) n n, .slice (some ⟨g3, 0, none⟩) n n, .int .i64 (s.m : Int), .bool false] 116, .own (.slice pv s.l.length cp) s.l.length (Ec.lI s.l) 3 1]) 0 hH150 rfl rfl rfl rfl rfl rfl sz116 rfl (Nat.le_of_ble_eq_true rfl) rfl rfl ?_
      intro w152 hH153
      refine WL.nil (WQ.then (hK151 _ _ _ (WC.ret ?_)))
      refine WQ.retC 2 116 rfl rfl (HP.loadRow hH153 0 rfl Try.underlying116 rfl sz116) ?_
      have hOK : okS c n = false := okS_no hs (by omega)
      refine ⟨g0, g1, g2, g3, (s.m : Int), ⟨[], s.o, s.e, s.d, s.t, 0⟩, by rw [hOK], ?_, ?_⟩
      · exact HP.drop (HP.drop (HP.drop hH153 6) 5) 0
      · intro hq; rw [hOK] at hq; cases hq
end Ec
end Go.Proofs.Ytmjnakhpekbenaa
