/- What the proof of CacheTables stands on, part 3 of 5. -/
import Derived.CallsIn
import Derived.ChangeKeysEq
import Derived.ChangeSlices
import Derived.Deep.LoopGhost
import Derived.Deep.MidRow
import Derived.Great.BuildSlice
import Derived.Ground.Names2Prog
import Derived.Ground.SlgnProg
import Derived.Ground.SlsfProg
import Derived.Handy
import Derived.KernelRfl
import Derived.Laws.AppendOwn
import Derived.Laws.AppendOwnNone
import Derived.Laws.CopyRow
import Derived.Laws.Externs
import Derived.Laws.MakeOwn
import Derived.Laws.Rows
import Derived.Laws.StructEq
import Derived.Lib.AppendZerosOnto
import Derived.Lib.Overlaps
import Derived.Lib.QuietBelow
import Derived.Lib.SliceRun
import Derived.Orders
import Derived.OrdersIn
import Derived.RangeFuncFrom
import Derived.RangeFuncLeaves
import Derived.RangeFuncWrites
import Derived.Shelf.SlSortCmp.HeapSortK
import Derived.Shelf.SlSortCmp.InsertionK
import Derived.Shelf.SlSortCmp.MedianK
import Derived.Shelf.SlSortCmp.NoneTotal
import Derived.Shelf.SlSortCmp.PartialInsertionK
import Derived.Shelf.SlSortCmp.PartitionEqualK
import Derived.Shelf.SlSortCmp.PartitionK
import Derived.Shelf.SlSortCmp.PdqK
import Derived.Shelf.SlSortCmp.PivotK
import Derived.Shelf.SlSortCmp.ReverseRangeK
import Derived.Shelf.SlSortCmp.SiftDownK
import Derived.Shelf.Slices.Cells
import Derived.Shelf.Slices.Clone
import Derived.Shelf.Slices.Delete
import Derived.Shelf.Slices.Empties
import Derived.Shelf.Slices.SearchI
import Derived.Shelf.Slices.Turned
import Derived.Shelf.SlicesE.Clone
import Derived.Shelf.SlicesE.Delete
import Derived.Shelf.SlicesQ.Reverse
import Derived.Shelf.Small.Bits
import Derived.Shelf.Small.Wraps
import Derived.Shelf.Strconv.Itoa0
import Derived.Sort.AssemblyPlain
import Derived.Still
import Derived.StillTail
import Derived.TacticsIn
import Derived.Test.YtmjnakhpekbenaaProg
import Derived.WalkKit
import Derived.WalkLawsBesides
import Derived.Test.YtmjnakhpekbenaaCacheTablesB
set_option linter.unusedVariables false
set_option linter.unusedSimpArgs false
namespace Go.Proofs.Ytmjnakhpekbenaa
open Go.RowKit Fw
namespace Ca
/-- the join, as the reference goes through both -/
def rJ (may : Bool) : List T2 → List T2 → List T2
  | [], [] => []
  | p :: r, [] => (bif may then [p] else []) ++ rJ may r []
  | [], q :: v => (bif may then [q] else []) ++ rJ may [] v
  | p :: r, q :: v => if p.1 < q.1 then (bif may then [p] else []) ++ rJ may r (q :: v) else if q.1 < p.1 then (bif may then [q] else []) ++ rJ may (p :: r) v else (p.1, bif may then min p.2 q.2 else max p.2 q.2) :: rJ may r v
termination_by t u => t.length + u.length
theorem rJ_l {may : Bool} {t u : List T2} {i k : Nat} (hi : i < t.length) (h : u.length ≤ k ∨ (k < u.length ∧ lnT t i < lnT u k)) : rJ may (t.drop i) (u.drop k) = (bif may then [(lnT t i, agT t i)] else []) ++ rJ may (t.drop (i + 1)) (u.drop k) := by
  rw [drop_t hi]
  rcases h with h | ⟨h1, h2⟩
  · rw [List.drop_eq_nil_of_le h, rJ]
  · rw [drop_t h1, rJ, if_pos h2]
theorem rJ_r {may : Bool} {t u : List T2} {i k : Nat} (hk : k < u.length) (h : t.length ≤ i ∨ (i < t.length ∧ lnT u k < lnT t i)) : rJ may (t.drop i) (u.drop k) = (bif may then [(lnT u k, agT u k)] else []) ++ rJ may (t.drop i) (u.drop (k + 1)) := by
  rw [drop_t hk]
  rcases h with h | ⟨h1, h2⟩
  · rw [List.drop_eq_nil_of_le h, rJ]
  · have h3 : ¬ lnT t i < lnT u k := by omega
    rw [drop_t h1, rJ, if_neg h3, if_pos h2]
theorem rJ_b {may : Bool} {t u : List T2} {i k : Nat} (hi : i < t.length) (hk : k < u.length) (h1 : ¬ lnT t i < lnT u k) (h2 : ¬ lnT u k < lnT t i) : rJ may (t.drop i) (u.drop k) = (lnT t i, bif may then min (agT t i) (agT u k) else max (agT t i) (agT u k)) :: rJ may (t.drop (i + 1)) (u.drop (k + 1)) := by
  rw [drop_t hi, drop_t hk, rJ, if_neg h1, if_neg h2]
theorem rJ_end {may : Bool} {t u : List T2} {i k : Nat} (hi : t.length ≤ i) (hk : u.length ≤ k) : rJ may (t.drop i) (u.drop k) = [] := by
  rw [List.drop_eq_nil_of_le hi, List.drop_eq_nil_of_le hk, rJ]
set_option maxRecDepth 20000 in
set_option maxHeartbeats 4000000 in
theorem rJoined_any (p p2 : Option Addr) (t u : List T2) (cp cp2 : Nat) (may : Bool) (w : World) (hT : InT w p t) (hU : InT w p2 u) (hn : t.length ≤ 100000) (hn2 : u.length ≤ 100000) :
    Calls Try.prog 64 #[.slice p t.length cp, .slice p2 u.length cp2, .bool may] w fun e w' => ∃ pv cp', e = .returned (.slice pv (rJ may t u).length cp') ∧ HP Tr w w' [rowT pv (rJ may t u).length cp' (rJ may t u)] := by
  refine calls_of Try.func64 rfl (m := 119) rfl [(0, .slice p t.length cp), (1, .slice p2 u.length cp2), (2, .bool may)] (Fr_enter [.slice p t.length cp, .slice p2 u.length cp2, .bool may] 119 (Nat.le_of_ble_eq_true rfl)) ?_
  have hH1 : HP Tr w w [] := HP.refl w
  refine WC.seq fun K2 hK2 => WC.region ?_
  refine WL.z (v := .slice none 0 0) 6 ?_
  refine WL.nil (WQ.then (hK2 _ _ _ (WC.seq fun K3 hK3 => WC.region ?_)))
  refine WL.z (v := .slice none 0 0) 7 ?_
  refine WL.nil (WQ.then (hK3 _ _ _ (WC.seq fun K4 hK4 => WC.region ?_)))
  refine WL.z (v := vI 0) 8 ?_
  refine WL.nil (WQ.then (hK4 _ _ _ (WC.seq fun K5 hK5 => WC.region ?_)))
  refine WL.z (v := vI 0) 9 ?_
  refine WL.nil (WQ.then (hK5 _ _ _ (WC.seq fun K6 hK6 => WC.block ?_)))
  refine WC.loop (fun kk0 ll0 ww0 => ∃ (i : Nat) (k : Nat) (A : List T2) (pv : Option Addr) (cp3 : Nat), ll0 = [(0, .slice p t.length cp), (1, .slice p2 u.length cp2), (2, .bool may), (7, .slice pv A.length cp3), (8, vI (i : Int)), (9, vI (k : Int))] ∧ kk0 = t.length - i + (u.length - k) ∧ (i ≤ t.length) ∧ (k ≤ u.length) ∧ (A ++ rJ may (t.drop i) (u.drop k) = rJ may t u) ∧ (A.length ≤ i + k) ∧ HP Tr w ww0 [rowT pv A.length cp3 A]) (t.length + u.length) [(0, .slice p t.length cp), (1, .slice p2 u.length cp2), (2, .bool may), (7, .slice none 0 0), (8, vI 0), (9, vI 0)] ⟨rfl, rfl, rfl, rfl, rfl, rfl, trivial⟩ ⟨0, 0, [], none, 0, rfl, rfl, Nat.zero_le _, Nat.zero_le _, rfl, Nat.zero_le _, HP.ownNil hH1 83 2⟩ ?_
  rintro kk l w8 ⟨i, k, A, pv, cp3, rfl, hkk, hi, hk, hA, hAl, hH9⟩ K7 hK7
  refine WC.seq fun K10 hK10 => WC.seq fun K11 hK11 => WC.region ?_
  refine WL.z (v := vI (i : Int)) 11 ?_
  refine WL.z (v := .slice p t.length cp) 12 ?_
  refine WL.z (v := vI (t.length : Int)) 13 ?_
  by_cases h14 : (i : Int) < (t.length : Int)
  ·
    refine WL.y (v := .bool true) 14 (x_lss rfl rfl rfl (dT (h14))) ?_
    refine WL.z (v := .bool true) 15 ?_
    refine WL.p 16 ?_
    refine WL.p 17 ?_
    refine WL.p 18 ?_
    refine WL.p 19 ?_
    refine WL.z (v := .bool true) 20 ?_
    refine WL.nil (WQ.then (hK11 _ _ _ ?_))
    refine WC.sub (l' := [(0, .slice p t.length cp), (1, .slice p2 u.length cp2), (2, .bool may), (7, .slice pv A.length cp3), (8, vI (i : Int)), (9, vI (k : Int)), (20, .bool true)]) ⟨rfl, rfl, rfl, rfl, rfl, rfl, rfl, trivial⟩ ?_
    refine WC.yes rfl (WC.skip (WQ.then (hK10 _ _ _ (WC.block (WC.seq fun K12 hK12 => WC.seq fun K13 hK13 => ?_)))))
    refine WC.still (by kernel_rfl) (by kernel_rfl) ?_
    have hH14 : HP Tr w _ [rowT pv A.length cp3 A] := HP.drew hH9
    refine WS.z (v := vI (k : Int)) 21 ?_
    refine WS.z (v := .slice p2 u.length cp2) 22 ?_
    refine WS.z (v := vI (u.length : Int)) 23 ?_
    by_cases h24 : (k : Int) = (u.length : Int)
    ·
      obtain ⟨g, o, rfl, hrow⟩ := hT (by omega)
      refine WS.y (v := .bool true) 24 (x_eql rfl rfl rfl (dT (h24))) ?_
      refine WS.z (v := .bool true) 25 ?_
      refine WS.p 26 ?_
      refine WS.p 27 ?_
      refine WS.p 28 ?_
      refine WS.p 29 ?_
      refine WS.p 30 ?_
      refine WS.p 31 ?_
      refine WS.p 32 ?_
      refine WS.p 33 ?_
      refine WS.p 34 ?_
      refine WS.p 35 ?_
      refine WS.p 36 ?_
      refine WS.p 37 ?_
      refine WS.p 38 ?_
      refine WS.p 39 ?_
      refine WS.p 40 ?_
      refine WS.p 41 ?_
      refine WS.p 42 ?_
      refine WS.z (v := .bool true) 43 ?_
      refine WS.nilQ (WQ.then (hK13 _ _ _ ?_))
      refine WC.sub (l' := [(0, .slice (some ⟨g, o, none⟩) t.length cp), (1, .slice p2 u.length cp2), (2, .bool may), (7, .slice pv A.length cp3), (8, vI (i : Int)), (9, vI (k : Int)), (20, .bool true), (43, .bool true)]) ⟨rfl, rfl, rfl, rfl, rfl, rfl, rfl, rfl, trivial⟩ ?_
      refine WC.yes rfl (WC.seq fun K15 hK15 => WC.seq fun K16 hK16 => WC.region ?_)
      refine WL.z (v := .bool may) 44 ?_
      refine WL.nil (WQ.then (hK16 _ _ _ ?_))
      rcases Bool.eq_false_or_eq_true (may) with hm | hm
      ·
        refine WC.yes (congrArg (fun b => some (Value.bool b)) hm) ?_
        refine WC.region ?_
        refine WL.z (v := .slice pv A.length cp3) 45 ?_
        refine WL.z (v := .slice (some ⟨g, o, none⟩) t.length cp) 46 ?_
        refine WL.z (v := vI (i : Int)) 47 ?_
        refine WL.y (v := vP g (o + i * 2)) 48 (x_idx (i) (o + i * 2) rfl rfl rfl Try.underlying49 sz83 (by omega) (by omega) (by omega)) ?_
        refine WL.y (v := .agg #[vI (lnT t i), vI (agT t i)]) 49 (x_loadS (cs := [vI (lnT t i), vI (agT t i)]) rfl rfl Try.underlying83 rfl sz83 (HP.oldRange hH14 trivial (hrow i (by omega)))) ?_
        refine WL.alloc (c := #[vI (lnT t i), vI (agT t i)]) (T := 83) hH14 50 rfl (by decide) rfl rfl (fun b17 => vS b17 1 1) (by kernel_rfl) (fun b17 w18 hw18 => ?_)
        have hH19 : HP Tr w w18 [rowT pv A.length cp3 A, .cel b17 #[vI (lnT t i), vI (agT t i)] 83] := hw18.2
        have nb17 := hw18.1
        clear hw18
        obtain ⟨i0, hi0, hz0, hz1, hz2⟩ := infoT
        refine WL.append (news := [vI (lnT t i), vI (agT t i)]) 0 1 hH19 51 rfl (by decide) rfl rfl rfl rfl Try.underlying49 hi0 hz0 hz1 hz2 rfl (by decide) rfl rfl rfl rfl (by simp [Value.oneCell']) (by unfold maxLen; omega) (by omega) ?_
        rintro v720 w720 - hA720
        obtain ⟨pv720, cp720, rfl⟩ := own_row (HP.get hA720 0 rfl)
        have e720 : A.length + 1 = (A ++ [(lnT t i, agT t i)]).length := (len1 _ _).symm
        rw [tL_push, e720] at hA720
        rw [e720]
        have hH21 : HP Tr w _ [rowT pv720 (A ++ [(lnT t i, agT t i)]).length cp720 (A ++ [(lnT t i, agT t i)]), .cel b17 #[vI (lnT t i), vI (agT t i)] 83] := hA720
        refine WL.z (v := .slice pv720 ((A ++ [(lnT t i, agT t i)]).length) cp720) 7 ?_
        refine WL.nil (WQ.then (hK15 _ _ _ ?_))
        refine WC.sub (l' := [(0, .slice (some ⟨g, o, none⟩) t.length cp), (1, .slice p2 u.length cp2), (2, .bool may), (7, .slice pv720 ((A ++ [(lnT t i, agT t i)]).length) cp720), (8, vI (i : Int)), (9, vI (k : Int)), (20, .bool true), (43, .bool true), (44, .bool may)]) ⟨rfl, rfl, rfl, rfl, rfl, rfl, rfl, rfl, rfl, trivial⟩ ?_
        refine WC.seq fun K22 hK22 => WC.region ?_
        refine WL.z (v := vI (i : Int)) 52 ?_
        refine WL.y (v := vI ((i + 1 : Nat) : Int)) 53 (x_add (Z := ((i + 1 : Nat) : Int)) rfl rfl rfl (by omega) (by omega) (by omega)) ?_
        refine WL.z (v := vI ((i + 1 : Nat) : Int)) 8 ?_
        refine WL.nil (WQ.then (hK22 _ _ _ (WC.exit (WQ.thenExit (WQ.inExit ?_)))))
        refine WQ.sub (l' := [(0, .slice (some ⟨g, o, none⟩) t.length cp), (1, .slice p2 u.length cp2), (2, .bool may), (7, .slice pv720 ((A ++ [(lnT t i, agT t i)]).length) cp720), (8, vI ((i + 1 : Nat) : Int)), (9, vI (k : Int))]) ⟨rfl, rfl, rfl, rfl, rfl, rfl, trivial⟩ ?_
        refine WQ.then (hK7 _ _ _ (by omega) ⟨i + 1, k, (A ++ [(lnT t i, agT t i)]), pv720, cp720, rfl, rfl, by omega, by omega, by rw [← hA, rJ_l (t := t) (u := u) (i := i) (k := k) (by omega) (by omega), hm]; simp, by rw [len1]; omega, (HP.drop hH21 1)⟩)
      ·
        refine WC.no (congrArg (fun b => some (Value.bool b)) hm) ?_
        refine WC.skip (WQ.then (hK15 _ _ _ (WC.seq fun K23 hK23 => WC.region ?_)))
        refine WL.z (v := vI (i : Int)) 52 ?_
        refine WL.y (v := vI ((i + 1 : Nat) : Int)) 53 (x_add (Z := ((i + 1 : Nat) : Int)) rfl rfl rfl (by omega) (by omega) (by omega)) ?_
        refine WL.z (v := vI ((i + 1 : Nat) : Int)) 8 ?_
        refine WL.nil (WQ.then (hK23 _ _ _ (WC.exit (WQ.thenExit (WQ.inExit ?_)))))
        refine WQ.sub (l' := [(0, .slice (some ⟨g, o, none⟩) t.length cp), (1, .slice p2 u.length cp2), (2, .bool may), (7, .slice pv A.length cp3), (8, vI ((i + 1 : Nat) : Int)), (9, vI (k : Int))]) ⟨rfl, rfl, rfl, rfl, rfl, rfl, trivial⟩ ?_
        refine WQ.then (hK7 _ _ _ (by omega) ⟨i + 1, k, A, pv, cp3, rfl, rfl, by omega, by omega, by rw [← hA, rJ_l (t := t) (u := u) (i := i) (k := k) (by omega) (by omega), hm]; simp, by omega, hH14⟩)
    ·
      obtain ⟨g2, o2, rfl, hrow2⟩ := hU (by omega)
      refine WS.y (v := .bool false) 24 (x_eql rfl rfl rfl (dF (h24))) ?_
      refine WS.z (v := .bool false) 25 ?_
      refine WS.z (v := vI (i : Int)) 26 ?_
      refine WS.z (v := .slice p t.length cp) 27 ?_
      refine WS.z (v := vI (t.length : Int)) 28 ?_
      by_cases h29 : (i : Int) < (t.length : Int)
      ·
        obtain ⟨g, o, rfl, hrow⟩ := hT (by omega)
        refine WS.y (v := .bool true) 29 (x_lss rfl rfl rfl (dT (h29))) ?_
        refine WS.z (v := .bool true) 30 ?_
        refine WS.z (v := .slice (some ⟨g, o, none⟩) t.length cp) 31 ?_
        refine WS.z (v := vI (i : Int)) 32 ?_
        refine WS.y (v := vP g (o + i * 2)) 33 (x_idx (i) (o + i * 2) rfl rfl rfl Try.underlying49 sz83 (by omega) (by omega) (by omega)) ?_
        refine WS.y (v := vP g (o + i * 2)) 34 (x_idxArr (0) (o + i * 2) rfl rfl rfl Try.underlying83 sz3 (by omega) (by omega) (by omega)) ?_
        refine WS.y (v := vI (lnT t i)) 35 (x_load rfl rfl Try.underlying3 rfl ((HP.oldRange hH14 trivial (hrow i (by omega))) 0 _ rfl)) ?_
        refine WS.z (v := .slice (some ⟨g2, o2, none⟩) u.length cp2) 36 ?_
        refine WS.z (v := vI (k : Int)) 37 ?_
        refine WS.y (v := vP g2 (o2 + k * 2)) 38 (x_idx (k) (o2 + k * 2) rfl rfl rfl Try.underlying49 sz83 (by omega) (by omega) (by omega)) ?_
        refine WS.y (v := vP g2 (o2 + k * 2)) 39 (x_idxArr (0) (o2 + k * 2) rfl rfl rfl Try.underlying83 sz3 (by omega) (by omega) (by omega)) ?_
        refine WS.y (v := vI (lnT u k)) 40 (x_load rfl rfl Try.underlying3 rfl ((HP.oldRange hH14 trivial (hrow2 k (by omega))) 0 _ rfl)) ?_
        by_cases h41 : lnT t i < lnT u k
        ·
          refine WS.y (v := .bool true) 41 (x_lss rfl rfl rfl (dT (h41))) ?_
          refine WS.z (v := .bool true) 42 ?_
          refine WS.z (v := .bool true) 43 ?_
          refine WS.nilQ (WQ.then (hK13 _ _ _ ?_))
          refine WC.sub (l' := [(0, .slice (some ⟨g, o, none⟩) t.length cp), (1, .slice (some ⟨g2, o2, none⟩) u.length cp2), (2, .bool may), (7, .slice pv A.length cp3), (8, vI (i : Int)), (9, vI (k : Int)), (20, .bool true), (43, .bool true)]) ⟨rfl, rfl, rfl, rfl, rfl, rfl, rfl, rfl, trivial⟩ ?_
          refine WC.yes rfl (WC.seq fun K24 hK24 => WC.seq fun K25 hK25 => WC.region ?_)
          refine WL.z (v := .bool may) 44 ?_
          refine WL.nil (WQ.then (hK25 _ _ _ ?_))
          rcases Bool.eq_false_or_eq_true (may) with hm | hm
          ·
            refine WC.yes (congrArg (fun b => some (Value.bool b)) hm) ?_
            refine WC.region ?_
            refine WL.z (v := .slice pv A.length cp3) 45 ?_
            refine WL.z (v := .slice (some ⟨g, o, none⟩) t.length cp) 46 ?_
            refine WL.z (v := vI (i : Int)) 47 ?_
            refine WL.y (v := vP g (o + i * 2)) 48 (x_idx (i) (o + i * 2) rfl rfl rfl Try.underlying49 sz83 (by omega) (by omega) (by omega)) ?_
            refine WL.y (v := .agg #[vI (lnT t i), vI (agT t i)]) 49 (x_loadS (cs := [vI (lnT t i), vI (agT t i)]) rfl rfl Try.underlying83 rfl sz83 (HP.oldRange hH14 trivial (hrow i (by omega)))) ?_
            refine WL.alloc (c := #[vI (lnT t i), vI (agT t i)]) (T := 83) hH14 50 rfl (by decide) rfl rfl (fun b26 => vS b26 1 1) (by kernel_rfl) (fun b26 w27 hw27 => ?_)
            have hH28 : HP Tr w w27 [rowT pv A.length cp3 A, .cel b26 #[vI (lnT t i), vI (agT t i)] 83] := hw27.2
            have nb26 := hw27.1
            clear hw27
            obtain ⟨i0, hi0, hz0, hz1, hz2⟩ := infoT
            refine WL.append (news := [vI (lnT t i), vI (agT t i)]) 0 1 hH28 51 rfl (by decide) rfl rfl rfl rfl Try.underlying49 hi0 hz0 hz1 hz2 rfl (by decide) rfl rfl rfl rfl (by simp [Value.oneCell']) (by unfold maxLen; omega) (by omega) ?_
            rintro v729 w729 - hA729
            obtain ⟨pv729, cp729, rfl⟩ := own_row (HP.get hA729 0 rfl)
            have e729 : A.length + 1 = (A ++ [(lnT t i, agT t i)]).length := (len1 _ _).symm
            rw [tL_push, e729] at hA729
            rw [e729]
            have hH30 : HP Tr w _ [rowT pv729 (A ++ [(lnT t i, agT t i)]).length cp729 (A ++ [(lnT t i, agT t i)]), .cel b26 #[vI (lnT t i), vI (agT t i)] 83] := hA729
            refine WL.z (v := .slice pv729 ((A ++ [(lnT t i, agT t i)]).length) cp729) 7 ?_
            refine WL.nil (WQ.then (hK24 _ _ _ ?_))
            refine WC.sub (l' := [(0, .slice (some ⟨g, o, none⟩) t.length cp), (1, .slice (some ⟨g2, o2, none⟩) u.length cp2), (2, .bool may), (7, .slice pv729 ((A ++ [(lnT t i, agT t i)]).length) cp729), (8, vI (i : Int)), (9, vI (k : Int)), (20, .bool true), (43, .bool true), (44, .bool may)]) ⟨rfl, rfl, rfl, rfl, rfl, rfl, rfl, rfl, rfl, trivial⟩ ?_
            refine WC.seq fun K31 hK31 => WC.region ?_
            refine WL.z (v := vI (i : Int)) 52 ?_
            refine WL.y (v := vI ((i + 1 : Nat) : Int)) 53 (x_add (Z := ((i + 1 : Nat) : Int)) rfl rfl rfl (by omega) (by omega) (by omega)) ?_
            refine WL.z (v := vI ((i + 1 : Nat) : Int)) 8 ?_
            refine WL.nil (WQ.then (hK31 _ _ _ (WC.exit (WQ.thenExit (WQ.inExit ?_)))))
            refine WQ.sub (l' := [(0, .slice (some ⟨g, o, none⟩) t.length cp), (1, .slice (some ⟨g2, o2, none⟩) u.length cp2), (2, .bool may), (7, .slice pv729 ((A ++ [(lnT t i, agT t i)]).length) cp729), (8, vI ((i + 1 : Nat) : Int)), (9, vI (k : Int))]) ⟨rfl, rfl, rfl, rfl, rfl, rfl, trivial⟩ ?_
            refine WQ.then (hK7 _ _ _ (by omega) ⟨i + 1, k, (A ++ [(lnT t i, agT t i)]), pv729, cp729, rfl, rfl, by omega, by omega, by rw [← hA, rJ_l (t := t) (u := u) (i := i) (k := k) (by omega) (by omega), hm]; simp, by rw [len1]; omega, (HP.drop hH30 1)⟩)
          ·
            refine WC.no (congrArg (fun b => some (Value.bool b)) hm) ?_
            refine WC.skip (WQ.then (hK24 _ _ _ (WC.seq fun K32 hK32 => WC.region ?_)))
            refine WL.z (v := vI (i : Int)) 52 ?_
            refine WL.y (v := vI ((i + 1 : Nat) : Int)) 53 (x_add (Z := ((i + 1 : Nat) : Int)) rfl rfl rfl (by omega) (by omega) (by omega)) ?_
            refine WL.z (v := vI ((i + 1 : Nat) : Int)) 8 ?_
            refine WL.nil (WQ.then (hK32 _ _ _ (WC.exit (WQ.thenExit (WQ.inExit ?_)))))
            refine WQ.sub (l' := [(0, .slice (some ⟨g, o, none⟩) t.length cp), (1, .slice (some ⟨g2, o2, none⟩) u.length cp2), (2, .bool may), (7, .slice pv A.length cp3), (8, vI ((i + 1 : Nat) : Int)), (9, vI (k : Int))]) ⟨rfl, rfl, rfl, rfl, rfl, rfl, trivial⟩ ?_
            refine WQ.then (hK7 _ _ _ (by omega) ⟨i + 1, k, A, pv, cp3, rfl, rfl, by omega, by omega, by rw [← hA, rJ_l (t := t) (u := u) (i := i) (k := k) (by omega) (by omega), hm]; simp, by omega, hH14⟩)
        ·
          refine WS.y (v := .bool false) 41 (x_lss rfl rfl rfl (dF (h41))) ?_
          refine WS.z (v := .bool false) 42 ?_
          refine WS.z (v := .bool false) 43 ?_
          refine WS.nilQ (WQ.then (hK13 _ _ _ ?_))
          refine WC.sub (l' := [(0, .slice (some ⟨g, o, none⟩) t.length cp), (1, .slice (some ⟨g2, o2, none⟩) u.length cp2), (2, .bool may), (7, .slice pv A.length cp3), (8, vI (i : Int)), (9, vI (k : Int)), (20, .bool true), (43, .bool false)]) ⟨rfl, rfl, rfl, rfl, rfl, rfl, rfl, rfl, trivial⟩ ?_
          refine WC.no rfl (WC.skip (WQ.then (hK12 _ _ _ (WC.seq fun K33 hK33 => WC.seq fun K34 hK34 => ?_))))
          refine WC.still (by kernel_rfl) (by kernel_rfl) ?_
          have hH35 : HP Tr w _ [rowT pv A.length cp3 A] := HP.drew hH14
          refine WS.z (v := vI (i : Int)) 54 ?_
          refine WS.z (v := .slice (some ⟨g, o, none⟩) t.length cp) 55 ?_
          refine WS.z (v := vI (t.length : Int)) 56 ?_
          refine WS.y (v := .bool false) 57 (x_eql rfl rfl rfl (dF (by omega))) ?_
          refine WS.z (v := .bool false) 58 ?_
          refine WS.z (v := .slice (some ⟨g2, o2, none⟩) u.length cp2) 59 ?_
          refine WS.z (v := vI (k : Int)) 60 ?_
          refine WS.y (v := vP g2 (o2 + k * 2)) 61 (x_idx (k) (o2 + k * 2) rfl rfl rfl Try.underlying49 sz83 (by omega) (by omega) (by omega)) ?_
          refine WS.y (v := vP g2 (o2 + k * 2)) 62 (x_idxArr (0) (o2 + k * 2) rfl rfl rfl Try.underlying83 sz3 (by omega) (by omega) (by omega)) ?_
          refine WS.y (v := vI (lnT u k)) 63 (x_load rfl rfl Try.underlying3 rfl ((HP.oldRange hH35 trivial (hrow2 k (by omega))) 0 _ rfl)) ?_
          refine WS.z (v := .slice (some ⟨g, o, none⟩) t.length cp) 64 ?_
          refine WS.z (v := vI (i : Int)) 65 ?_
          refine WS.y (v := vP g (o + i * 2)) 66 (x_idx (i) (o + i * 2) rfl rfl rfl Try.underlying49 sz83 (by omega) (by omega) (by omega)) ?_
          refine WS.y (v := vP g (o + i * 2)) 67 (x_idxArr (0) (o + i * 2) rfl rfl rfl Try.underlying83 sz3 (by omega) (by omega) (by omega)) ?_
          refine WS.y (v := vI (lnT t i)) 68 (x_load rfl rfl Try.underlying3 rfl ((HP.oldRange hH35 trivial (hrow i (by omega))) 0 _ rfl)) ?_
          by_cases h69 : lnT u k < lnT t i
          ·
            refine WS.y (v := .bool true) 69 (x_lss rfl rfl rfl (dT (h69))) ?_
            refine WS.z (v := .bool true) 70 ?_
            refine WS.nilQ (WQ.then (hK34 _ _ _ ?_))
            refine WC.sub (l' := [(0, .slice (some ⟨g, o, none⟩) t.length cp), (1, .slice (some ⟨g2, o2, none⟩) u.length cp2), (2, .bool may), (7, .slice pv A.length cp3), (8, vI (i : Int)), (9, vI (k : Int)), (20, .bool true), (43, .bool false), (70, .bool true)]) ⟨rfl, rfl, rfl, rfl, rfl, rfl, rfl, rfl, rfl, trivial⟩ ?_
            refine WC.yes rfl (WC.seq fun K36 hK36 => WC.seq fun K37 hK37 => WC.region ?_)
            refine WL.z (v := .bool may) 71 ?_
            refine WL.nil (WQ.then (hK37 _ _ _ ?_))
            rcases Bool.eq_false_or_eq_true (may) with hm | hm
            ·
              refine WC.yes (congrArg (fun b => some (Value.bool b)) hm) ?_
              refine WC.region ?_
              refine WL.z (v := .slice pv A.length cp3) 72 ?_
              refine WL.z (v := .slice (some ⟨g2, o2, none⟩) u.length cp2) 73 ?_
              refine WL.z (v := vI (k : Int)) 74 ?_
              refine WL.y (v := vP g2 (o2 + k * 2)) 75 (x_idx (k) (o2 + k * 2) rfl rfl rfl Try.underlying49 sz83 (by omega) (by omega) (by omega)) ?_
              refine WL.y (v := .agg #[vI (lnT u k), vI (agT u k)]) 76 (x_loadS (cs := [vI (lnT u k), vI (agT u k)]) rfl rfl Try.underlying83 rfl sz83 (HP.oldRange hH35 trivial (hrow2 k (by omega)))) ?_
              refine WL.alloc (c := #[vI (lnT u k), vI (agT u k)]) (T := 83) hH35 77 rfl (by decide) rfl rfl (fun b38 => vS b38 1 1) (by kernel_rfl) (fun b38 w39 hw39 => ?_)
              have hH40 : HP Tr w w39 [rowT pv A.length cp3 A, .cel b38 #[vI (lnT u k), vI (agT u k)] 83] := hw39.2
              have nb38 := hw39.1
              clear hw39
              obtain ⟨i0, hi0, hz0, hz1, hz2⟩ := infoT
              refine WL.append (news := [vI (lnT u k), vI (agT u k)]) 0 1 hH40 78 rfl (by decide) rfl rfl rfl rfl Try.underlying49 hi0 hz0 hz1 hz2 rfl (by decide) rfl rfl rfl rfl (by simp [Value.oneCell']) (by unfold maxLen; omega) (by omega) ?_
              rintro v741 w741 - hA741
              obtain ⟨pv741, cp741, rfl⟩ := own_row (HP.get hA741 0 rfl)
              have e741 : A.length + 1 = (A ++ [(lnT u k, agT u k)]).length := (len1 _ _).symm
              rw [tL_push, e741] at hA741
              rw [e741]
              have hH42 : HP Tr w _ [rowT pv741 (A ++ [(lnT u k, agT u k)]).length cp741 (A ++ [(lnT u k, agT u k)]), .cel b38 #[vI (lnT u k), vI (agT u k)] 83] := hA741
              refine WL.z (v := .slice pv741 ((A ++ [(lnT u k, agT u k)]).length) cp741) 7 ?_
              refine WL.nil (WQ.then (hK36 _ _ _ ?_))
              refine WC.sub (l' := [(0, .slice (some ⟨g, o, none⟩) t.length cp), (1, .slice (some ⟨g2, o2, none⟩) u.length cp2), (2, .bool may), (7, .slice pv741 ((A ++ [(lnT u k, agT u k)]).length) cp741), (8, vI (i : Int)), (9, vI (k : Int)), (20, .bool true), (43, .bool false), (70, .bool true), (71, .bool may)]) ⟨rfl, rfl, rfl, rfl, rfl, rfl, rfl, rfl, rfl, rfl, trivial⟩ ?_
              refine WC.seq fun K43 hK43 => WC.region ?_
              refine WL.z (v := vI (k : Int)) 79 ?_
              refine WL.y (v := vI ((k + 1 : Nat) : Int)) 80 (x_add (Z := ((k + 1 : Nat) : Int)) rfl rfl rfl (by omega) (by omega) (by omega)) ?_
              refine WL.z (v := vI ((k + 1 : Nat) : Int)) 9 ?_
              refine WL.nil (WQ.then (hK43 _ _ _ (WC.exit (WQ.thenExit (WQ.inExit ?_)))))
              refine WQ.sub (l' := [(0, .slice (some ⟨g, o, none⟩) t.length cp), (1, .slice (some ⟨g2, o2, none⟩) u.length cp2), (2, .bool may), (7, .slice pv741 ((A ++ [(lnT u k, agT u k)]).length) cp741), (8, vI (i : Int)), (9, vI ((k + 1 : Nat) : Int))]) ⟨rfl, rfl, rfl, rfl, rfl, rfl, trivial⟩ ?_
              refine WQ.then (hK7 _ _ _ (by omega) ⟨i, k + 1, (A ++ [(lnT u k, agT u k)]), pv741, cp741, rfl, rfl, by omega, by omega, by rw [← hA, rJ_r (t := t) (u := u) (i := i) (k := k) (by omega) (by omega), hm]; simp, by rw [len1]; omega, (HP.drop hH42 1)⟩)
            ·
              refine WC.no (congrArg (fun b => some (Value.bool b)) hm) ?_
              refine WC.skip (WQ.then (hK36 _ _ _ (WC.seq fun K44 hK44 => WC.region ?_)))
              refine WL.z (v := vI (k : Int)) 79 ?_
              refine WL.y (v := vI ((k + 1 : Nat) : Int)) 80 (x_add (Z := ((k + 1 : Nat) : Int)) rfl rfl rfl (by omega) (by omega) (by omega)) ?_
              refine WL.z (v := vI ((k + 1 : Nat) : Int)) 9 ?_
              refine WL.nil (WQ.then (hK44 _ _ _ (WC.exit (WQ.thenExit (WQ.inExit ?_)))))
              refine WQ.sub (l' := [(0, .slice (some ⟨g, o, none⟩) t.length cp), (1, .slice (some ⟨g2, o2, none⟩) u.length cp2), (2, .bool may), (7, .slice pv A.length cp3), (8, vI (i : Int)), (9, vI ((k + 1 : Nat) : Int))]) ⟨rfl, rfl, rfl, rfl, rfl, rfl, trivial⟩ ?_
              refine WQ.then (hK7 _ _ _ (by omega) ⟨i, k + 1, A, pv, cp3, rfl, rfl, by omega, by omega, by rw [← hA, rJ_r (t := t) (u := u) (i := i) (k := k) (by omega) (by omega), hm]; simp, by omega, hH35⟩)
          ·
            refine WS.y (v := .bool false) 69 (x_lss rfl rfl rfl (dF (h69))) ?_
            refine WS.z (v := .bool false) 70 ?_
            refine WS.nilQ (WQ.then (hK34 _ _ _ ?_))
            refine WC.sub (l' := [(0, .slice (some ⟨g, o, none⟩) t.length cp), (1, .slice (some ⟨g2, o2, none⟩) u.length cp2), (2, .bool may), (7, .slice pv A.length cp3), (8, vI (i : Int)), (9, vI (k : Int)), (20, .bool true), (43, .bool false), (70, .bool false)]) ⟨rfl, rfl, rfl, rfl, rfl, rfl, rfl, rfl, rfl, trivial⟩ ?_
            refine WC.no rfl (WC.skip (WQ.then (hK33 _ _ _ (WC.seq fun K45 hK45 => ?_))))
            refine WC.confG (γ := Unit) [(0, .slice (some ⟨g, o, none⟩) t.length cp), (1, .slice (some ⟨g2, o2, none⟩) u.length cp2), (2, .bool may), (7, .slice pv A.length cp3), (8, vI (i : Int)), (9, vI (k : Int)), (20, .bool true), (43, .bool false), (70, .bool false)] (fun gy => [.slice (some ⟨g, o, none⟩) t.length cp, vI (i : Int), vP g (o + i * 2), vP g (o + i * 2 + 1), vI (agT t i), .slice (some ⟨g2, o2, none⟩) u.length cp2, vI (k : Int), vP g2 (o2 + k * 2), vP g2 (o2 + k * 2 + 1), vI (agT u k), vI (max (agT t i) (agT u k)), vI (max (agT t i) (agT u k))]) (fun gy D wz => HP Tr w wz [rowT pv A.length cp3 A]) () (by kernel_rfl) ⟨rfl, rfl, rfl, rfl, rfl, rfl, rfl, rfl, rfl, trivial⟩ (by kernel_rfl) (by kernel_rfl) (by kernel_rfl) (fun _ => rfl) (by kernel_rfl) (HP.drew hH35) ?_ ?_
            · refine AllOk.cons ?o0 (AllOk.cons ?o1 (AllOk.cons ?o2 (AllOk.cons ?o3 (AllOk.cons ?o4 (AllOk.cons ?o5 (AllOk.cons ?o6 (AllOk.cons ?o7 (AllOk.cons ?o8 (AllOk.cons ?o9 (AllOk.cons ?o10 (AllOk.cons ?o11 (AllOk.nil _))))))))))))
              case o0 =>
                intro gy D wz hDi hdep hclo hW
                exact .inl ⟨rfl, rfl, .inl ⟨gy, wz, fun _ _ => rfl, by kernel_rfl, hW⟩⟩
              case o1 =>
                intro gy D wz hDi hdep hclo hW
                exact .inl ⟨rfl, rfl, .inl ⟨gy, wz, fun _ _ => rfl, by kernel_rfl, hW⟩⟩
              case o2 =>
                intro gy D wz hDi hdep hclo hW
                exact .inl ⟨rfl, rfl, .inl ⟨gy, wz, fun _ _ => rfl, x_idx (i) (o + i * 2) rfl rfl rfl Try.underlying49 sz83 (by omega) (by omega) (by omega), hW⟩⟩
              case o3 =>
                intro gy D wz hDi hdep hclo hW
                exact .inl ⟨rfl, rfl, .inl ⟨gy, wz, fun _ _ => rfl, x_idxArr (1) (o + i * 2 + 1) rfl rfl rfl Try.underlying83 sz3 (by omega) (by omega) (by omega), hW⟩⟩
              case o4 =>
                intro gy D wz hDi hdep hclo hW
                exact .inl ⟨rfl, rfl, .inl ⟨gy, wz, fun _ _ => rfl, x_load rfl rfl Try.underlying3 rfl ((HP.oldRange hW trivial (hrow i (by omega))) 1 _ rfl), hW⟩⟩
              case o5 =>
                intro gy D wz hDi hdep hclo hW
                exact .inl ⟨rfl, rfl, .inl ⟨gy, wz, fun _ _ => rfl, by kernel_rfl, hW⟩⟩
              case o6 =>
                intro gy D wz hDi hdep hclo hW
                exact .inl ⟨rfl, rfl, .inl ⟨gy, wz, fun _ _ => rfl, by kernel_rfl, hW⟩⟩
              case o7 =>
                intro gy D wz hDi hdep hclo hW
                exact .inl ⟨rfl, rfl, .inl ⟨gy, wz, fun _ _ => rfl, x_idx (k) (o2 + k * 2) rfl rfl rfl Try.underlying49 sz83 (by omega) (by omega) (by omega), hW⟩⟩
              case o8 =>
                intro gy D wz hDi hdep hclo hW
                exact .inl ⟨rfl, rfl, .inl ⟨gy, wz, fun _ _ => rfl, x_idxArr (1) (o2 + k * 2 + 1) rfl rfl rfl Try.underlying83 sz3 (by omega) (by omega) (by omega), hW⟩⟩
              case o9 =>
                intro gy D wz hDi hdep hclo hW
                exact .inl ⟨rfl, rfl, .inl ⟨gy, wz, fun _ _ => rfl, x_load rfl rfl Try.underlying3 rfl ((HP.oldRange hW trivial (hrow2 k (by omega))) 1 _ rfl), hW⟩⟩
              case o10 =>
                intro gy D wz hDi hdep hclo hW
                exact .inl ⟨rfl, rfl, .inl ⟨gy, wz, fun _ _ => rfl, x_max (Z := max (agT t i) (agT u k)) (t := 0) rfl rfl rfl (by simp only [Int.max_def]; split <;> split <;> omega), hW⟩⟩
              case o11 =>
                intro gy D wz hDi hdep hclo hW
                exact .inl ⟨rfl, rfl, .inl ⟨gy, wz, fun _ _ => rfl, by kernel_rfl, hW⟩⟩
            rintro gy D w46 hall hH47
            clear hall
            refine WQ.sub (l' := [(0, .slice (some ⟨g, o, none⟩) t.length cp), (1, .slice (some ⟨g2, o2, none⟩) u.length cp2), (2, .bool may), (7, .slice pv A.length cp3), (8, vI (i : Int)), (9, vI (k : Int)), (10, vI (max (agT t i) (agT u k))), (20, .bool true), (43, .bool false), (70, .bool false)]) ⟨rfl, rfl, rfl, rfl, rfl, rfl, rfl, rfl, rfl, rfl, trivial⟩ ?_
            refine WQ.then (hK45 _ _ _ (WC.seq fun K48 hK48 => WC.seq fun K49 hK49 => WC.region ?_))
            refine WL.z (v := .bool may) 92 ?_
            refine WL.nil (WQ.then (hK49 _ _ _ ?_))
            rcases Bool.eq_false_or_eq_true (may) with hm | hm
            ·
              refine WC.yes (congrArg (fun b => some (Value.bool b)) hm) ?_
              refine WC.confG (γ := Unit) [(92, .bool may), (0, .slice (some ⟨g, o, none⟩) t.length cp), (1, .slice (some ⟨g2, o2, none⟩) u.length cp2), (2, .bool may), (7, .slice pv A.length cp3), (8, vI (i : Int)), (9, vI (k : Int)), (20, .bool true), (43, .bool false), (70, .bool false)] (fun gy => [.slice (some ⟨g, o, none⟩) t.length cp, vI (i : Int), vP g (o + i * 2), vP g (o + i * 2 + 1), vI (agT t i), .slice (some ⟨g2, o2, none⟩) u.length cp2, vI (k : Int), vP g2 (o2 + k * 2), vP g2 (o2 + k * 2 + 1), vI (agT u k), vI (min (agT t i) (agT u k)), vI (min (agT t i) (agT u k))]) (fun gy D wz => HP Tr w wz [rowT pv A.length cp3 A]) () (by kernel_rfl) ⟨rfl, rfl, rfl, rfl, rfl, rfl, rfl, rfl, rfl, rfl, trivial⟩ (by kernel_rfl) (by kernel_rfl) (by kernel_rfl) (fun _ => rfl) (by kernel_rfl) (HP.drew hH47) ?_ ?_
              · refine AllOk.cons ?o0 (AllOk.cons ?o1 (AllOk.cons ?o2 (AllOk.cons ?o3 (AllOk.cons ?o4 (AllOk.cons ?o5 (AllOk.cons ?o6 (AllOk.cons ?o7 (AllOk.cons ?o8 (AllOk.cons ?o9 (AllOk.cons ?o10 (AllOk.cons ?o11 (AllOk.nil _))))))))))))
                case o0 =>
                  intro gy D wz hDi hdep hclo hW
                  exact .inl ⟨rfl, rfl, .inl ⟨gy, wz, fun _ _ => rfl, by kernel_rfl, hW⟩⟩
                case o1 =>
                  intro gy D wz hDi hdep hclo hW
                  exact .inl ⟨rfl, rfl, .inl ⟨gy, wz, fun _ _ => rfl, by kernel_rfl, hW⟩⟩
                case o2 =>
                  intro gy D wz hDi hdep hclo hW
                  exact .inl ⟨rfl, rfl, .inl ⟨gy, wz, fun _ _ => rfl, x_idx (i) (o + i * 2) rfl rfl rfl Try.underlying49 sz83 (by omega) (by omega) (by omega), hW⟩⟩
                case o3 =>
                  intro gy D wz hDi hdep hclo hW
                  exact .inl ⟨rfl, rfl, .inl ⟨gy, wz, fun _ _ => rfl, x_idxArr (1) (o + i * 2 + 1) rfl rfl rfl Try.underlying83 sz3 (by omega) (by omega) (by omega), hW⟩⟩
                case o4 =>
                  intro gy D wz hDi hdep hclo hW
                  exact .inl ⟨rfl, rfl, .inl ⟨gy, wz, fun _ _ => rfl, x_load rfl rfl Try.underlying3 rfl ((HP.oldRange hW trivial (hrow i (by omega))) 1 _ rfl), hW⟩⟩
                case o5 =>
                  intro gy D wz hDi hdep hclo hW
                  exact .inl ⟨rfl, rfl, .inl ⟨gy, wz, fun _ _ => rfl, by kernel_rfl, hW⟩⟩
                case o6 =>
                  intro gy D wz hDi hdep hclo hW
                  exact .inl ⟨rfl, rfl, .inl ⟨gy, wz, fun _ _ => rfl, by kernel_rfl, hW⟩⟩
                case o7 =>
                  intro gy D wz hDi hdep hclo hW
                  exact .inl ⟨rfl, rfl, .inl ⟨gy, wz, fun _ _ => rfl, x_idx (k) (o2 + k * 2) rfl rfl rfl Try.underlying49 sz83 (by omega) (by omega) (by omega), hW⟩⟩
                case o8 =>
                  intro gy D wz hDi hdep hclo hW
                  exact .inl ⟨rfl, rfl, .inl ⟨gy, wz, fun _ _ => rfl, x_idxArr (1) (o2 + k * 2 + 1) rfl rfl rfl Try.underlying83 sz3 (by omega) (by omega) (by omega), hW⟩⟩
                case o9 =>
                  intro gy D wz hDi hdep hclo hW
                  exact .inl ⟨rfl, rfl, .inl ⟨gy, wz, fun _ _ => rfl, x_load rfl rfl Try.underlying3 rfl ((HP.oldRange hW trivial (hrow2 k (by omega))) 1 _ rfl), hW⟩⟩
                case o10 =>
                  intro gy D wz hDi hdep hclo hW
                  exact .inl ⟨rfl, rfl, .inl ⟨gy, wz, fun _ _ => rfl, x_min (Z := min (agT t i) (agT u k)) (t := 0) rfl rfl rfl (by simp only [Int.min_def]; split <;> split <;> omega), hW⟩⟩
                case o11 =>
                  intro gy D wz hDi hdep hclo hW
                  exact .inl ⟨rfl, rfl, .inl ⟨gy, wz, fun _ _ => rfl, by kernel_rfl, hW⟩⟩
              rintro gy D w50 hall hH51
              clear hall
              refine WQ.sub (l' := [(0, .slice (some ⟨g, o, none⟩) t.length cp), (1, .slice (some ⟨g2, o2, none⟩) u.length cp2), (2, .bool may), (7, .slice pv A.length cp3), (8, vI (i : Int)), (9, vI (k : Int)), (10, vI (min (agT t i) (agT u k))), (20, .bool true), (43, .bool false), (70, .bool false), (92, .bool may)]) ⟨rfl, rfl, rfl, rfl, rfl, rfl, rfl, rfl, rfl, rfl, rfl, trivial⟩ ?_
              refine WQ.then (hK48 _ _ _ (WC.seq fun K52 hK52 => WC.region ?_))
              refine WL.z (v := .slice pv A.length cp3) 104 ?_
              refine WL.z (v := .slice (some ⟨g, o, none⟩) t.length cp) 105 ?_
              refine WL.z (v := vI (i : Int)) 106 ?_
              refine WL.y (v := vP g (o + i * 2)) 107 (x_idx (i) (o + i * 2) rfl rfl rfl Try.underlying49 sz83 (by omega) (by omega) (by omega)) ?_
              refine WL.y (v := vP g (o + i * 2)) 108 (x_idxArr (0) (o + i * 2) rfl rfl rfl Try.underlying83 sz3 (by omega) (by omega) (by omega)) ?_
              refine WL.y (v := vI (lnT t i)) 109 (x_load rfl rfl Try.underlying3 rfl ((HP.oldRange hH51 trivial (hrow i (by omega))) 0 _ rfl)) ?_
              refine WL.z (v := vI (min (agT t i) (agT u k))) 110 ?_
              refine WL.z (v := .agg #[vI (lnT t i), vI (min (agT t i) (agT u k))]) 111 ?_
              refine WL.alloc (c := #[vI (lnT t i), vI (min (agT t i) (agT u k))]) (T := 83) hH51 112 rfl (by decide) rfl rfl (fun b53 => vS b53 1 1) (by kernel_rfl) (fun b53 w54 hw54 => ?_)
              have hH55 : HP Tr w w54 [rowT pv A.length cp3 A, .cel b53 #[vI (lnT t i), vI (min (agT t i) (agT u k))] 83] := hw54.2
              have nb53 := hw54.1
              clear hw54
              obtain ⟨i0, hi0, hz0, hz1, hz2⟩ := infoT
              refine WL.append (news := [vI (lnT t i), vI (min (agT t i) (agT u k))]) 0 1 hH55 113 rfl (by decide) rfl rfl rfl rfl Try.underlying49 hi0 hz0 hz1 hz2 rfl (by decide) rfl rfl rfl rfl (by simp [Value.oneCell']) (by unfold maxLen; omega) (by omega) ?_
              rintro v756 w756 - hA756
              obtain ⟨pv756, cp756, rfl⟩ := own_row (HP.get hA756 0 rfl)
              have e756 : A.length + 1 = (A ++ [(lnT t i, min (agT t i) (agT u k))]).length := (len1 _ _).symm
              rw [tL_push, e756] at hA756
              rw [e756]
              have hH57 : HP Tr w _ [rowT pv756 (A ++ [(lnT t i, min (agT t i) (agT u k))]).length cp756 (A ++ [(lnT t i, min (agT t i) (agT u k))]), .cel b53 #[vI (lnT t i), vI (min (agT t i) (agT u k))] 83] := hA756
              refine WL.z (v := .slice pv756 ((A ++ [(lnT t i, min (agT t i) (agT u k))]).length) cp756) 7 ?_
              refine WL.nil (WQ.then (hK52 _ _ _ ?_))
              refine WC.sub (l' := [(0, .slice (some ⟨g, o, none⟩) t.length cp), (1, .slice (some ⟨g2, o2, none⟩) u.length cp2), (2, .bool may), (7, .slice pv756 ((A ++ [(lnT t i, min (agT t i) (agT u k))]).length) cp756), (8, vI (i : Int)), (9, vI (k : Int)), (10, vI (min (agT t i) (agT u k))), (20, .bool true), (43, .bool false), (70, .bool false), (92, .bool may)]) ⟨rfl, rfl, rfl, rfl, rfl, rfl, rfl, rfl, rfl, rfl, rfl, trivial⟩ ?_
              refine WC.seq fun K58 hK58 => WC.region ?_
              refine WL.z (v := vI (i : Int)) 114 ?_
              refine WL.y (v := vI ((i + 1 : Nat) : Int)) 115 (x_add (Z := ((i + 1 : Nat) : Int)) rfl rfl rfl (by omega) (by omega) (by omega)) ?_
              refine WL.z (v := vI ((i + 1 : Nat) : Int)) 8 ?_
              refine WL.nil (WQ.then (hK58 _ _ _ (WC.region ?_)))
              refine WL.z (v := vI (k : Int)) 116 ?_
              refine WL.y (v := vI ((k + 1 : Nat) : Int)) 117 (x_add (Z := ((k + 1 : Nat) : Int)) rfl rfl rfl (by omega) (by omega) (by omega)) ?_
              refine WL.z (v := vI ((k + 1 : Nat) : Int)) 9 ?_
              refine WL.nil (WQ.inNormal ?_)
              refine WQ.sub (l' := [(0, .slice (some ⟨g, o, none⟩) t.length cp), (1, .slice (some ⟨g2, o2, none⟩) u.length cp2), (2, .bool may), (7, .slice pv756 ((A ++ [(lnT t i, min (agT t i) (agT u k))]).length) cp756), (8, vI ((i + 1 : Nat) : Int)), (9, vI ((k + 1 : Nat) : Int))]) ⟨rfl, rfl, rfl, rfl, rfl, rfl, trivial⟩ ?_
              refine WQ.then (hK7 _ _ _ (by omega) ⟨i + 1, k + 1, (A ++ [(lnT t i, min (agT t i) (agT u k))]), pv756, cp756, rfl, rfl, by omega, by omega, by rw [← hA, rJ_b (t := t) (u := u) (i := i) (k := k) (by omega) (by omega) (by omega) (by omega), hm]; simp, by rw [len1]; omega, (HP.drop hH57 1)⟩)
            ·
              refine WC.no (congrArg (fun b => some (Value.bool b)) hm) ?_
              refine WC.skip (WQ.then (hK48 _ _ _ (WC.seq fun K59 hK59 => WC.region ?_)))
              refine WL.z (v := .slice pv A.length cp3) 104 ?_
              refine WL.z (v := .slice (some ⟨g, o, none⟩) t.length cp) 105 ?_
              refine WL.z (v := vI (i : Int)) 106 ?_
              refine WL.y (v := vP g (o + i * 2)) 107 (x_idx (i) (o + i * 2) rfl rfl rfl Try.underlying49 sz83 (by omega) (by omega) (by omega)) ?_
              refine WL.y (v := vP g (o + i * 2)) 108 (x_idxArr (0) (o + i * 2) rfl rfl rfl Try.underlying83 sz3 (by omega) (by omega) (by omega)) ?_
              refine WL.y (v := vI (lnT t i)) 109 (x_load rfl rfl Try.underlying3 rfl ((HP.oldRange hH47 trivial (hrow i (by omega))) 0 _ rfl)) ?_
              refine WL.z (v := vI (max (agT t i) (agT u k))) 110 ?_
              refine WL.z (v := .agg #[vI (lnT t i), vI (max (agT t i) (agT u k))]) 111 ?_
              refine WL.alloc (c := #[vI (lnT t i), vI (max (agT t i) (agT u k))]) (T := 83) hH47 112 rfl (by decide) rfl rfl (fun b60 => vS b60 1 1) (by kernel_rfl) (fun b60 w61 hw61 => ?_)
              have hH62 : HP Tr w w61 [rowT pv A.length cp3 A, .cel b60 #[vI (lnT t i), vI (max (agT t i) (agT u k))] 83] := hw61.2
              have nb60 := hw61.1
              clear hw61
              obtain ⟨i0, hi0, hz0, hz1, hz2⟩ := infoT
              refine WL.append (news := [vI (lnT t i), vI (max (agT t i) (agT u k))]) 0 1 hH62 113 rfl (by decide) rfl rfl rfl rfl Try.underlying49 hi0 hz0 hz1 hz2 rfl (by decide) rfl rfl rfl rfl (by simp [Value.oneCell']) (by unfold maxLen; omega) (by omega) ?_
              rintro v763 w763 - hA763
              obtain ⟨pv763, cp763, rfl⟩ := own_row (HP.get hA763 0 rfl)
              have e763 : A.length + 1 = (A ++ [(lnT t i, max (agT t i) (agT u k))]).length := (len1 _ _).symm
              rw [tL_push, e763] at hA763
              rw [e763]
              have hH64 : HP Tr w _ [rowT pv763 (A ++ [(lnT t i, max (agT t i) (agT u k))]).length cp763 (A ++ [(lnT t i, max (agT t i) (agT u k))]), .cel b60 #[vI (lnT t i), vI (max (agT t i) (agT u k))] 83] := hA763
              refine WL.z (v := .slice pv763 ((A ++ [(lnT t i, max (agT t i) (agT u k))]).length) cp763) 7 ?_
              refine WL.nil (WQ.then (hK59 _ _ _ ?_))
              refine WC.sub (l' := [(0, .slice (some ⟨g, o, none⟩) t.length cp), (1, .slice (some ⟨g2, o2, none⟩) u.length cp2), (2, .bool may), (7, .slice pv763 ((A ++ [(lnT t i, max (agT t i) (agT u k))]).length) cp763), (8, vI (i : Int)), (9, vI (k : Int)), (10, vI (max (agT t i) (agT u k))), (20, .bool true), (43, .bool false), (70, .bool false), (92, .bool may)]) ⟨rfl, rfl, rfl, rfl, rfl, rfl, rfl, rfl, rfl, rfl, rfl, trivial⟩ ?_
              refine WC.seq fun K65 hK65 => WC.region ?_
              refine WL.z (v := vI (i : Int)) 114 ?_
              refine WL.y (v := vI ((i + 1 : Nat) : Int)) 115 (x_add (Z := ((i + 1 : Nat) : Int)) rfl rfl rfl (by omega) (by omega) (by omega)) ?_
              refine WL.z (v := vI ((i + 1 : Nat) : Int)) 8 ?_
              refine WL.nil (WQ.then (hK65 _ _ _ (WC.region ?_)))
              refine WL.z (v := vI (k : Int)) 116 ?_
              refine WL.y (v := vI ((k + 1 : Nat) : Int)) 117 (x_add (Z := ((k + 1 : Nat) : Int)) rfl rfl rfl (by omega) (by omega) (by omega)) ?_
              refine WL.z (v := vI ((k + 1 : Nat) : Int)) 9 ?_
              refine WL.nil (WQ.inNormal ?_)
              refine WQ.sub (l' := [(0, .slice (some ⟨g, o, none⟩) t.length cp), (1, .slice (some ⟨g2, o2, none⟩) u.length cp2), (2, .bool may), (7, .slice pv763 ((A ++ [(lnT t i, max (agT t i) (agT u k))]).length) cp763), (8, vI ((i + 1 : Nat) : Int)), (9, vI ((k + 1 : Nat) : Int))]) ⟨rfl, rfl, rfl, rfl, rfl, rfl, trivial⟩ ?_
              refine WQ.then (hK7 _ _ _ (by omega) ⟨i + 1, k + 1, (A ++ [(lnT t i, max (agT t i) (agT u k))]), pv763, cp763, rfl, rfl, by omega, by omega, by rw [← hA, rJ_b (t := t) (u := u) (i := i) (k := k) (by omega) (by omega) (by omega) (by omega), hm]; simp, by rw [len1]; omega, (HP.drop hH64 1)⟩)
      ·
        refine WS.y (v := .bool false) 29 (x_lss rfl rfl rfl (dF (h29))) ?_
        refine WS.z (v := .bool false) 30 ?_
        refine WS.p 31 ?_
        refine WS.p 32 ?_
        refine WS.p 33 ?_
        refine WS.p 34 ?_
        refine WS.p 35 ?_
        refine WS.p 36 ?_
        refine WS.p 37 ?_
        refine WS.p 38 ?_
        refine WS.p 39 ?_
        refine WS.p 40 ?_
        refine WS.p 41 ?_
        refine WS.z (v := .bool false) 42 ?_
        refine WS.z (v := .bool false) 43 ?_
        refine WS.nilQ (WQ.then (hK13 _ _ _ ?_))
        refine WC.sub (l' := [(0, .slice p t.length cp), (1, .slice (some ⟨g2, o2, none⟩) u.length cp2), (2, .bool may), (7, .slice pv A.length cp3), (8, vI (i : Int)), (9, vI (k : Int)), (20, .bool true), (43, .bool false)]) ⟨rfl, rfl, rfl, rfl, rfl, rfl, rfl, rfl, trivial⟩ ?_
        refine WC.no rfl (WC.skip (WQ.then (hK12 _ _ _ (WC.seq fun K66 hK66 => WC.seq fun K67 hK67 => ?_))))
        refine WC.still (by kernel_rfl) (by kernel_rfl) ?_
        have hH68 : HP Tr w _ [rowT pv A.length cp3 A] := HP.drew hH14
        refine WS.z (v := vI (i : Int)) 54 ?_
        refine WS.z (v := .slice p t.length cp) 55 ?_
        refine WS.z (v := vI (t.length : Int)) 56 ?_
        refine WS.y (v := .bool true) 57 (x_eql rfl rfl rfl (dT (by omega))) ?_
        refine WS.z (v := .bool true) 58 ?_
        refine WS.p 59 ?_
        refine WS.p 60 ?_
        refine WS.p 61 ?_
        refine WS.p 62 ?_
        refine WS.p 63 ?_
        refine WS.p 64 ?_
        refine WS.p 65 ?_
        refine WS.p 66 ?_
        refine WS.p 67 ?_
        refine WS.p 68 ?_
        refine WS.p 69 ?_
        refine WS.z (v := .bool true) 70 ?_
        refine WS.nilQ (WQ.then (hK67 _ _ _ ?_))
        refine WC.sub (l' := [(0, .slice p t.length cp), (1, .slice (some ⟨g2, o2, none⟩) u.length cp2), (2, .bool may), (7, .slice pv A.length cp3), (8, vI (i : Int)), (9, vI (k : Int)), (20, .bool true), (43, .bool false), (70, .bool true)]) ⟨rfl, rfl, rfl, rfl, rfl, rfl, rfl, rfl, rfl, trivial⟩ ?_
        refine WC.yes rfl (WC.seq fun K69 hK69 => WC.seq fun K70 hK70 => WC.region ?_)
        refine WL.z (v := .bool may) 71 ?_
        refine WL.nil (WQ.then (hK70 _ _ _ ?_))
        rcases Bool.eq_false_or_eq_true (may) with hm | hm
        ·
          refine WC.yes (congrArg (fun b => some (Value.bool b)) hm) ?_
          refine WC.region ?_
          refine WL.z (v := .slice pv A.length cp3) 72 ?_
          refine WL.z (v := .slice (some ⟨g2, o2, none⟩) u.length cp2) 73 ?_
          refine WL.z (v := vI (k : Int)) 74 ?_
          refine WL.y (v := vP g2 (o2 + k * 2)) 75 (x_idx (k) (o2 + k * 2) rfl rfl rfl Try.underlying49 sz83 (by omega) (by omega) (by omega)) ?_
          refine WL.y (v := .agg #[vI (lnT u k), vI (agT u k)]) 76 (x_loadS (cs := [vI (lnT u k), vI (agT u k)]) rfl rfl Try.underlying83 rfl sz83 (HP.oldRange hH68 trivial (hrow2 k (by omega)))) ?_
          refine WL.alloc (c := #[vI (lnT u k), vI (agT u k)]) (T := 83) hH68 77 rfl (by decide) rfl rfl (fun b71 => vS b71 1 1) (by kernel_rfl) (fun b71 w72 hw72 => ?_)
          have hH73 : HP Tr w w72 [rowT pv A.length cp3 A, .cel b71 #[vI (lnT u k), vI (agT u k)] 83] := hw72.2
          have nb71 := hw72.1
          clear hw72
          obtain ⟨i0, hi0, hz0, hz1, hz2⟩ := infoT
          refine WL.append (news := [vI (lnT u k), vI (agT u k)]) 0 1 hH73 78 rfl (by decide) rfl rfl rfl rfl Try.underlying49 hi0 hz0 hz1 hz2 rfl (by decide) rfl rfl rfl rfl (by simp [Value.oneCell']) (by unfold maxLen; omega) (by omega) ?_
          rintro v774 w774 - hA774
          obtain ⟨pv774, cp774, rfl⟩ := own_row (HP.get hA774 0 rfl)
          have e774 : A.length + 1 = (A ++ [(lnT u k, agT u k)]).length := (len1 _ _).symm
          rw [tL_push, e774] at hA774
          rw [e774]
          have hH75 : HP Tr w _ [rowT pv774 (A ++ [(lnT u k, agT u k)]).length cp774 (A ++ [(lnT u k, agT u k)]), .cel b71 #[vI (lnT u k), vI (agT u k)] 83] := hA774
          refine WL.z (v := .slice pv774 ((A ++ [(lnT u k, agT u k)]).length) cp774) 7 ?_
          refine WL.nil (WQ.then (hK69 _ _ _ ?_))
          refine WC.sub (l' := [(0, .slice p t.length cp), (1, .slice (some ⟨g2, o2, none⟩) u.length cp2), (2, .bool may), (7, .slice pv774 ((A ++ [(lnT u k, agT u k)]).length) cp774), (8, vI (i : Int)), (9, vI (k : Int)), (20, .bool true), (43, .bool false), (70, .bool true), (71, .bool may)]) ⟨rfl, rfl, rfl, rfl, rfl, rfl, rfl, rfl, rfl, rfl, trivial⟩ ?_
          refine WC.seq fun K76 hK76 => WC.region ?_
          refine WL.z (v := vI (k : Int)) 79 ?_
          refine WL.y (v := vI ((k + 1 : Nat) : Int)) 80 (x_add (Z := ((k + 1 : Nat) : Int)) rfl rfl rfl (by omega) (by omega) (by omega)) ?_
          refine WL.z (v := vI ((k + 1 : Nat) : Int)) 9 ?_
          refine WL.nil (WQ.then (hK76 _ _ _ (WC.exit (WQ.thenExit (WQ.inExit ?_)))))
          refine WQ.sub (l' := [(0, .slice p t.length cp), (1, .slice (some ⟨g2, o2, none⟩) u.length cp2), (2, .bool may), (7, .slice pv774 ((A ++ [(lnT u k, agT u k)]).length) cp774), (8, vI (i : Int)), (9, vI ((k + 1 : Nat) : Int))]) ⟨rfl, rfl, rfl, rfl, rfl, rfl, trivial⟩ ?_
          refine WQ.then (hK7 _ _ _ (by omega) ⟨i, k + 1, (A ++ [(lnT u k, agT u k)]), pv774, cp774, rfl, rfl, by omega, by omega, by rw [← hA, rJ_r (t := t) (u := u) (i := i) (k := k) (by omega) (by omega), hm]; simp, by rw [len1]; omega, (HP.drop hH75 1)⟩)
        ·
          refine WC.no (congrArg (fun b => some (Value.bool b)) hm) ?_
          refine WC.skip (WQ.then (hK69 _ _ _ (WC.seq fun K77 hK77 => WC.region ?_)))
          refine WL.z (v := vI (k : Int)) 79 ?_
          refine WL.y (v := vI ((k + 1 : Nat) : Int)) 80 (x_add (Z := ((k + 1 : Nat) : Int)) rfl rfl rfl (by omega) (by omega) (by omega)) ?_
          refine WL.z (v := vI ((k + 1 : Nat) : Int)) 9 ?_
          refine WL.nil (WQ.then (hK77 _ _ _ (WC.exit (WQ.thenExit (WQ.inExit ?_)))))
          refine WQ.sub (l' := [(0, .slice p t.length cp), (1, .slice (some ⟨g2, o2, none⟩) u.length cp2), (2, .bool may), (7, .slice pv A.length cp3), (8, vI (i : Int)), (9, vI ((k + 1 : Nat) : Int))]) ⟨rfl, rfl, rfl, rfl, rfl, rfl, trivial⟩ ?_
          refine WQ.then (hK7 _ _ _ (by omega) ⟨i, k + 1, A, pv, cp3, rfl, rfl, by omega, by omega, by rw [← hA, rJ_r (t := t) (u := u) (i := i) (k := k) (by omega) (by omega), hm]; simp, by omega, hH68⟩)
  ·
    refine WL.y (v := .bool false) 14 (x_lss rfl rfl rfl (dF (h14))) ?_
    refine WL.z (v := .bool false) 15 ?_
    refine WL.z (v := vI (k : Int)) 16 ?_
    refine WL.z (v := .slice p2 u.length cp2) 17 ?_
    refine WL.z (v := vI (u.length : Int)) 18 ?_
    by_cases h19 : (k : Int) < (u.length : Int)
    ·
      refine WL.y (v := .bool true) 19 (x_lss rfl rfl rfl (dT (h19))) ?_
      refine WL.z (v := .bool true) 20 ?_
      refine WL.nil (WQ.then (hK11 _ _ _ ?_))
      refine WC.sub (l' := [(0, .slice p t.length cp), (1, .slice p2 u.length cp2), (2, .bool may), (7, .slice pv A.length cp3), (8, vI (i : Int)), (9, vI (k : Int)), (20, .bool true)]) ⟨rfl, rfl, rfl, rfl, rfl, rfl, rfl, trivial⟩ ?_
      refine WC.yes rfl (WC.skip (WQ.then (hK10 _ _ _ (WC.block (WC.seq fun K78 hK78 => WC.seq fun K79 hK79 => ?_)))))
      refine WC.still (by kernel_rfl) (by kernel_rfl) ?_
      have hH80 : HP Tr w _ [rowT pv A.length cp3 A] := HP.drew hH9
      refine WS.z (v := vI (k : Int)) 21 ?_
      refine WS.z (v := .slice p2 u.length cp2) 22 ?_
      refine WS.z (v := vI (u.length : Int)) 23 ?_
      by_cases h24 : (k : Int) = (u.length : Int)
      ·
        obtain ⟨g, o, rfl, hrow⟩ := hT (by omega)
        refine WS.y (v := .bool true) 24 (x_eql rfl rfl rfl (dT (h24))) ?_
        refine WS.z (v := .bool true) 25 ?_
        refine WS.p 26 ?_
        refine WS.p 27 ?_
        refine WS.p 28 ?_
        refine WS.p 29 ?_
        refine WS.p 30 ?_
        refine WS.p 31 ?_
        refine WS.p 32 ?_
        refine WS.p 33 ?_
        refine WS.p 34 ?_
        refine WS.p 35 ?_
        refine WS.p 36 ?_
        refine WS.p 37 ?_
        refine WS.p 38 ?_
        refine WS.p 39 ?_
        refine WS.p 40 ?_
        refine WS.p 41 ?_
        refine WS.p 42 ?_
        refine WS.z (v := .bool true) 43 ?_
        refine WS.nilQ (WQ.then (hK79 _ _ _ ?_))
        refine WC.sub (l' := [(0, .slice (some ⟨g, o, none⟩) t.length cp), (1, .slice p2 u.length cp2), (2, .bool may), (7, .slice pv A.length cp3), (8, vI (i : Int)), (9, vI (k : Int)), (20, .bool true), (43, .bool true)]) ⟨rfl, rfl, rfl, rfl, rfl, rfl, rfl, rfl, trivial⟩ ?_
        refine WC.yes rfl (WC.seq fun K81 hK81 => WC.seq fun K82 hK82 => WC.region ?_)
        refine WL.z (v := .bool may) 44 ?_
        refine WL.nil (WQ.then (hK82 _ _ _ ?_))
        rcases Bool.eq_false_or_eq_true (may) with hm | hm
        ·
          refine WC.yes (congrArg (fun b => some (Value.bool b)) hm) ?_
          refine WC.region ?_
          refine WL.z (v := .slice pv A.length cp3) 45 ?_
          refine WL.z (v := .slice (some ⟨g, o, none⟩) t.length cp) 46 ?_
          refine WL.z (v := vI (i : Int)) 47 ?_
          refine WL.y (v := vP g (o + i * 2)) 48 (x_idx (i) (o + i * 2) rfl rfl rfl Try.underlying49 sz83 (by omega) (by omega) (by omega)) ?_
          refine WL.y (v := .agg #[vI (lnT t i), vI (agT t i)]) 49 (x_loadS (cs := [vI (lnT t i), vI (agT t i)]) rfl rfl Try.underlying83 rfl sz83 (HP.oldRange hH80 trivial (hrow i (by omega)))) ?_
          refine WL.alloc (c := #[vI (lnT t i), vI (agT t i)]) (T := 83) hH80 50 rfl (by decide) rfl rfl (fun b83 => vS b83 1 1) (by kernel_rfl) (fun b83 w84 hw84 => ?_)
          have hH85 : HP Tr w w84 [rowT pv A.length cp3 A, .cel b83 #[vI (lnT t i), vI (agT t i)] 83] := hw84.2
          have nb83 := hw84.1
          clear hw84
          obtain ⟨i0, hi0, hz0, hz1, hz2⟩ := infoT
          refine WL.append (news := [vI (lnT t i), vI (agT t i)]) 0 1 hH85 51 rfl (by decide) rfl rfl rfl rfl Try.underlying49 hi0 hz0 hz1 hz2 rfl (by decide) rfl rfl rfl rfl (by simp [Value.oneCell']) (by unfold maxLen; omega) (by omega) ?_
          rintro v786 w786 - hA786
          obtain ⟨pv786, cp786, rfl⟩ := own_row (HP.get hA786 0 rfl)
          have e786 : A.length + 1 = (A ++ [(lnT t i, agT t i)]).length := (len1 _ _).symm
          rw [tL_push, e786] at hA786
          rw [e786]
          have hH87 : HP Tr w _ [rowT pv786 (A ++ [(lnT t i, agT t i)]).length cp786 (A ++ [(lnT t i, agT t i)]), .cel b83 #[vI (lnT t i), vI (agT t i)] 83] := hA786
          refine WL.z (v := .slice pv786 ((A ++ [(lnT t i, agT t i)]).length) cp786) 7 ?_
          refine WL.nil (WQ.then (hK81 _ _ _ ?_))
          refine WC.sub (l' := [(0, .slice (some ⟨g, o, none⟩) t.length cp), (1, .slice p2 u.length cp2), (2, .bool may), (7, .slice pv786 ((A ++ [(lnT t i, agT t i)]).length) cp786), (8, vI (i : Int)), (9, vI (k : Int)), (20, .bool true), (43, .bool true), (44, .bool may)]) ⟨rfl, rfl, rfl, rfl, rfl, rfl, rfl, rfl, rfl, trivial⟩ ?_
          refine WC.seq fun K88 hK88 => WC.region ?_
          refine WL.z (v := vI (i : Int)) 52 ?_
          refine WL.y (v := vI ((i + 1 : Nat) : Int)) 53 (x_add (Z := ((i + 1 : Nat) : Int)) rfl rfl rfl (by omega) (by omega) (by omega)) ?_
          refine WL.z (v := vI ((i + 1 : Nat) : Int)) 8 ?_
          refine WL.nil (WQ.then (hK88 _ _ _ (WC.exit (WQ.thenExit (WQ.inExit ?_)))))
          refine WQ.sub (l' := [(0, .slice (some ⟨g, o, none⟩) t.length cp), (1, .slice p2 u.length cp2), (2, .bool may), (7, .slice pv786 ((A ++ [(lnT t i, agT t i)]).length) cp786), (8, vI ((i + 1 : Nat) : Int)), (9, vI (k : Int))]) ⟨rfl, rfl, rfl, rfl, rfl, rfl, trivial⟩ ?_
          refine WQ.then (hK7 _ _ _ (by omega) ⟨i + 1, k, (A ++ [(lnT t i, agT t i)]), pv786, cp786, rfl, rfl, by omega, by omega, by rw [← hA, rJ_l (t := t) (u := u) (i := i) (k := k) (by omega) (by omega), hm]; simp, by rw [len1]; omega, (HP.drop hH87 1)⟩)
        ·
          refine WC.no (congrArg (fun b => some (Value.bool b)) hm) ?_
          refine WC.skip (WQ.then (hK81 _ _ _ (WC.seq fun K89 hK89 => WC.region ?_)))
          refine WL.z (v := vI (i : Int)) 52 ?_
          refine WL.y (v := vI ((i + 1 : Nat) : Int)) 53 (x_add (Z := ((i + 1 : Nat) : Int)) rfl rfl rfl (by omega) (by omega) (by omega)) ?_
          refine WL.z (v := vI ((i + 1 : Nat) : Int)) 8 ?_
          refine WL.nil (WQ.then (hK89 _ _ _ (WC.exit (WQ.thenExit (WQ.inExit ?_)))))
          refine WQ.sub (l' := [(0, .slice (some ⟨g, o, none⟩) t.length cp), (1, .slice p2 u.length cp2), (2, .bool may), (7, .slice pv A.length cp3), (8, vI ((i + 1 : Nat) : Int)), (9, vI (k : Int))]) ⟨rfl, rfl, rfl, rfl, rfl, rfl, trivial⟩ ?_
          refine WQ.then (hK7 _ _ _ (by omega) ⟨i + 1, k, A, pv, cp3, rfl, rfl, by omega, by omega, by rw [← hA, rJ_l (t := t) (u := u) (i := i) (k := k) (by omega) (by omega), hm]; simp, by omega, hH80⟩)
      ·
        obtain ⟨g2, o2, rfl, hrow2⟩ := hU (by omega)
        refine WS.y (v := .bool false) 24 (x_eql rfl rfl rfl (dF (h24))) ?_
        refine WS.z (v := .bool false) 25 ?_
        refine WS.z (v := vI (i : Int)) 26 ?_
        refine WS.z (v := .slice p t.length cp) 27 ?_
        refine WS.z (v := vI (t.length : Int)) 28 ?_
        by_cases h29 : (i : Int) < (t.length : Int)
        ·
          obtain ⟨g, o, rfl, hrow⟩ := hT (by omega)
          refine WS.y (v := .bool true) 29 (x_lss rfl rfl rfl (dT (h29))) ?_
          refine WS.z (v := .bool true) 30 ?_
          refine WS.z (v := .slice (some ⟨g, o, none⟩) t.length cp) 31 ?_
          refine WS.z (v := vI (i : Int)) 32 ?_
          refine WS.y (v := vP g (o + i * 2)) 33 (x_idx (i) (o + i * 2) rfl rfl rfl Try.underlying49 sz83 (by omega) (by omega) (by omega)) ?_
          refine WS.y (v := vP g (o + i * 2)) 34 (x_idxArr (0) (o + i * 2) rfl rfl rfl Try.underlying83 sz3 (by omega) (by omega) (by omega)) ?_
          refine WS.y (v := vI (lnT t i)) 35 (x_load rfl rfl Try.underlying3 rfl ((HP.oldRange hH80 trivial (hrow i (by omega))) 0 _ rfl)) ?_
          refine WS.z (v := .slice (some ⟨g2, o2, none⟩) u.length cp2) 36 ?_
          refine WS.z (v := vI (k : Int)) 37 ?_
          refine WS.y (v := vP g2 (o2 + k * 2)) 38 (x_idx (k) (o2 + k * 2) rfl rfl rfl Try.underlying49 sz83 (by omega) (by omega) (by omega)) ?_
          refine WS.y (v := vP g2 (o2 + k * 2)) 39 (x_idxArr (0) (o2 + k * 2) rfl rfl rfl Try.underlying83 sz3 (by omega) (by omega) (by omega)) ?_
          refine WS.y (v := vI (lnT u k)) 40 (x_load rfl rfl Try.underlying3 rfl ((HP.oldRange hH80 trivial (hrow2 k (by omega))) 0 _ rfl)) ?_
          by_cases h41 : lnT t i < lnT u k
          ·
            refine WS.y (v := .bool true) 41 (x_lss rfl rfl rfl (dT (h41))) ?_
            refine WS.z (v := .bool true) 42 ?_
            refine WS.z (v := .bool true) 43 ?_
            refine WS.nilQ (WQ.then (hK79 _ _ _ ?_))
            refine WC.sub (l' := [(0, .slice (some ⟨g, o, none⟩) t.length cp), (1, .slice (some ⟨g2, o2, none⟩) u.length cp2), (2, .bool may), (7, .slice pv A.length cp3), (8, vI (i : Int)), (9, vI (k : Int)), (20, .bool true), (43, .bool true)]) ⟨rfl, rfl, rfl, rfl, rfl, rfl, rfl, rfl, trivial⟩ ?_
            refine WC.yes rfl (WC.seq fun K90 hK90 => WC.seq fun K91 hK91 => WC.region ?_)
            refine WL.z (v := .bool may) 44 ?_
            refine WL.nil (WQ.then (hK91 _ _ _ ?_))
            rcases Bool.eq_false_or_eq_true (may) with hm | hm
            ·
              refine WC.yes (congrArg (fun b => some (Value.bool b)) hm) ?_
              refine WC.region ?_
              refine WL.z (v := .slice pv A.length cp3) 45 ?_
              refine WL.z (v := .slice (some ⟨g, o, none⟩) t.length cp) 46 ?_
              refine WL.z (v := vI (i : Int)) 47 ?_
              refine WL.y (v := vP g (o + i * 2)) 48 (x_idx (i) (o + i * 2) rfl rfl rfl Try.underlying49 sz83 (by omega) (by omega) (by omega)) ?_
              refine WL.y (v := .agg #[vI (lnT t i), vI (agT t i)]) 49 (x_loadS (cs := [vI (lnT t i), vI (agT t i)]) rfl rfl Try.underlying83 rfl sz83 (HP.oldRange hH80 trivial (hrow i (by omega)))) ?_
              refine WL.alloc (c := #[vI (lnT t i), vI (agT t i)]) (T := 83) hH80 50 rfl (by decide) rfl rfl (fun b92 => vS b92 1 1) (by kernel_rfl) (fun b92 w93 hw93 => ?_)
              have hH94 : HP Tr w w93 [rowT pv A.length cp3 A, .cel b92 #[vI (lnT t i), vI (agT t i)] 83] := hw93.2
              have nb92 := hw93.1
              clear hw93
              obtain ⟨i0, hi0, hz0, hz1, hz2⟩ := infoT
              refine WL.append (news := [vI (lnT t i), vI (agT t i)]) 0 1 hH94 51 rfl (by decide) rfl rfl rfl rfl Try.underlying49 hi0 hz0 hz1 hz2 rfl (by decide) rfl rfl rfl rfl (by simp [Value.oneCell']) (by unfold maxLen; omega) (by omega) ?_
              rintro v795 w795 - hA795
              obtain ⟨pv795, cp795, rfl⟩ := own_row (HP.get hA795 0 rfl)
              have e795 : A.length + 1 = (A ++ [(lnT t i, agT t i)]).length := (len1 _ _).symm
              rw [tL_push, e795] at hA795
              rw [e795]
              have hH96 : HP Tr w _ [rowT pv795 (A ++ [(lnT t i, agT t i)]).length cp795 (A ++ [(lnT t i, agT t i)]), .cel b92 #[vI (lnT t i), vI (agT t i)] 83] := hA795
              refine WL.z (v := .slice pv795 ((A ++ [(lnT t i, agT t i)]).length) cp795) 7 ?_
              refine WL.nil (WQ.then (hK90 _ _ _ ?_))
              refine WC.sub (l' := [(0, .slice (some ⟨g, o, none⟩) t.length cp), (1, .slice (some ⟨g2, o2, none⟩) u.length cp2), (2, .bool may), (7, .slice pv795 ((A ++ [(lnT t i, agT t i)]).length) cp795), (8, vI (i : Int)), (9, vI (k : Int)), (20, .bool true), (43, .bool true), (44, .bool may)]) ⟨rfl, rfl, rfl, rfl, rfl, rfl, rfl, rfl, rfl, trivial⟩ ?_
              refine WC.seq fun K97 hK97 => WC.region ?_
              refine WL.z (v := vI (i : Int)) 52 ?_
              refine WL.y (v := vI ((i + 1 : Nat) : Int)) 53 (x_add (Z := ((i + 1 : Nat) : Int)) rfl rfl rfl (by omega) (by omega) (by omega)) ?_
              refine WL.z (v := vI ((i + 1 : Nat) : Int)) 8 ?_
              refine WL.nil (WQ.then (hK97 _ _ _ (WC.exit (WQ.thenExit (WQ.inExit ?_)))))
              refine WQ.sub (l' := [(0, .slice (some ⟨g, o, none⟩) t.length cp), (1, .slice (some ⟨g2, o2, none⟩) u.length cp2), (2, .bool may), (7, .slice pv795 ((A ++ [(lnT t i, agT t i)]).length) cp795), (8, vI ((i + 1 : Nat) : Int)), (9, vI (k : Int))]) ⟨rfl, rfl, rfl, rfl, rfl, rfl, trivial⟩ ?_
              refine WQ.then (hK7 _ _ _ (by omega) ⟨i + 1, k, (A ++ [(lnT t i, agT t i)]), pv795, cp795, rfl, rfl, by omega, by omega, by rw [← hA, rJ_l (t := t) (u := u) (i := i) (k := k) (by omega) (by omega), hm]; simp, by rw [len1]; omega, (HP.drop hH96 1)⟩)
            ·
              refine WC.no (congrArg (fun b => some (Value.bool b)) hm) ?_
              refine WC.skip (WQ.then (hK90 _ _ _ (WC.seq fun K98 hK98 => WC.region ?_)))
              refine WL.z (v := vI (i : Int)) 52 ?_
              refine WL.y (v := vI ((i + 1 : Nat) : Int)) 53 (x_add (Z := ((i + 1 : Nat) : Int)) rfl rfl rfl (by omega) (by omega) (by omega)) ?_
              refine WL.z (v := vI ((i + 1 : Nat) : Int)) 8 ?_
              refine WL.nil (WQ.then (hK98 _ _ _ (WC.exit (WQ.thenExit (WQ.inExit ?_)))))
              refine WQ.sub (l' := [(0, .slice (some ⟨g, o, none⟩) t.length cp), (1, .slice (some ⟨g2, o2, none⟩) u.length cp2), (2, .bool may), (7, .slice pv A.length cp3), (8, vI ((i + 1 : Nat) : Int)), (9, vI (k : Int))]) ⟨rfl, rfl, rfl, rfl, rfl, rfl, trivial⟩ ?_
              refine WQ.then (hK7 _ _ _ (by omega) ⟨i + 1, k, A, pv, cp3, rfl, rfl, by omega, by omega, by rw [← hA, rJ_l (t := t) (u := u) (i := i) (k := k) (by omega) (by omega), hm]; simp, by omega, hH80⟩)
          ·
            refine WS.y (v := .bool false) 41 (x_lss rfl rfl rfl (dF (h41))) ?_
            refine WS.z (v := .bool false) 42 ?_
            refine WS.z (v := .bool false) 43 ?_
            refine WS.nilQ (WQ.then (hK79 _ _ _ ?_))
            refine WC.sub (l' := [(0, .slice (some ⟨g, o, none⟩) t.length cp), (1, .slice (some ⟨g2, o2, none⟩) u.length cp2), (2, .bool may), (7, .slice pv A.length cp3), (8, vI (i : Int)), (9, vI (k : Int)), (20, .bool true), (43, .bool false)]) ⟨rfl, rfl, rfl, rfl, rfl, rfl, rfl, rfl, trivial⟩ ?_
            refine WC.no rfl (WC.skip (WQ.then (hK78 _ _ _ (WC.seq fun K99 hK99 => WC.seq fun K100 hK100 => ?_))))
            refine WC.still (by kernel_rfl) (by kernel_rfl) ?_
            have hH101 : HP Tr w _ [rowT pv A.length cp3 A] := HP.drew hH80
            refine WS.z (v := vI (i : Int)) 54 ?_
            refine WS.z (v := .slice (some ⟨g, o, none⟩) t.length cp) 55 ?_
            refine WS.z (v := vI (t.length : Int)) 56 ?_
            refine WS.y (v := .bool false) 57 (x_eql rfl rfl rfl (dF (by omega))) ?_
            refine WS.z (v := .bool false) 58 ?_
            refine WS.z (v := .slice (some ⟨g2, o2, none⟩) u.length cp2) 59 ?_
            refine WS.z (v := vI (k : Int)) 60 ?_
            refine WS.y (v := vP g2 (o2 + k * 2)) 61 (x_idx (k) (o2 + k * 2) rfl rfl rfl Try.underlying49 sz83 (by omega) (by omega) (by omega)) ?_
            refine WS.y (v := vP g2 (o2 + k * 2)) 62 (x_idxArr (0) (o2 + k * 2) rfl rfl rfl Try.underlying83 sz3 (by omega) (by omega) (by omega)) ?_
            refine WS.y (v := vI (lnT u k)) 63 (x_load rfl rfl Try.underlying3 rfl ((HP.oldRange hH101 trivial (hrow2 k (by omega))) 0 _ rfl)) ?_
            refine WS.z (v := .slice (some ⟨g, o, none⟩) t.length cp) 64 ?_
            refine WS.z (v := vI (i : Int)) 65 ?_
            refine WS.y (v := vP g (o + i * 2)) 66 (x_idx (i) (o + i * 2) rfl rfl rfl Try.underlying49 sz83 (by omega) (by omega) (by omega)) ?_
            refine WS.y (v := vP g (o + i * 2)) 67 (x_idxArr (0) (o + i * 2) rfl rfl rfl Try.underlying83 sz3 (by omega) (by omega) (by omega)) ?_
            refine WS.y (v := vI (lnT t i)) 68 (x_load rfl rfl Try.underlying3 rfl ((HP.oldRange hH101 trivial (hrow i (by omega))) 0 _ rfl)) ?_
            by_cases h69 : lnT u k < lnT t i
            ·
              refine WS.y (v := .bool true) 69 (x_lss rfl rfl rfl (dT (h69))) ?_
              refine WS.z (v := .bool true) 70 ?_
              refine WS.nilQ (WQ.then (hK100 _ _ _ ?_))
              refine WC.sub (l' := [(0, .slice (some ⟨g, o, none⟩) t.length cp), (1, .slice (some ⟨g2, o2, none⟩) u.length cp2), (2, .bool may), (7, .slice pv A.length cp3), (8, vI (i : Int)), (9, vI (k : Int)), (20, .bool true), (43, .bool false), (70, .bool true)]) ⟨rfl, rfl, rfl, rfl, rfl, rfl, rfl, rfl, rfl, trivial⟩ ?_
              refine WC.yes rfl (WC.seq fun K102 hK102 => WC.seq fun K103 hK103 => WC.region ?_)
              refine WL.z (v := .bool may) 71 ?_
              refine WL.nil (WQ.then (hK103 _ _ _ ?_))
              rcases Bool.eq_false_or_eq_true (may) with hm | hm
              ·
                refine WC.yes (congrArg (fun b => some (Value.bool b)) hm) ?_
                refine WC.region ?_
                refine WL.z (v := .slice pv A.length cp3) 72 ?_
                refine WL.z (v := .slice (some ⟨g2, o2, none⟩) u.length cp2) 73 ?_
                refine WL.z (v := vI (k : Int)) 74 ?_
                refine WL.y (v := vP g2 (o2 + k * 2)) 75 (x_idx (k) (o2 + k * 2) rfl rfl rfl Try.underlying49 sz83 (by omega) (by omega) (by omega)) ?_
                refine WL.y (v := .agg #[vI (lnT u k), vI (agT u k)]) 76 (x_loadS (cs := [vI (lnT u k), vI (agT u k)]) rfl rfl Try.underlying83 rfl sz83 (HP.oldRange hH101 trivial (hrow2 k (by omega)))) ?_
                refine WL.alloc (c := #[vI (lnT u k), vI (agT u k)]) (T := 83) hH101 77 rfl (by decide) rfl rfl (fun b104 => vS b104 1 1) (by kernel_rfl) (fun b104 w105 hw105 => ?_)
                have hH106 : HP Tr w w105 [rowT pv A.length cp3 A, .cel b104 #[vI (lnT u k), vI (agT u k)] 83] := hw105.2
                have nb104 := hw105.1
                clear hw105
                obtain ⟨i0, hi0, hz0, hz1, hz2⟩ := infoT
                refine WL.append (news := [vI (lnT u k), vI (agT u k)]) 0 1 hH106 78 rfl (by decide) rfl rfl rfl rfl Try.underlying49 hi0 hz0 hz1 hz2 rfl (by decide) rfl rfl rfl rfl (by simp [Value.oneCell']) (by unfold maxLen; omega) (by omega) ?_
                rintro v7107 w7107 - hA7107
                obtain ⟨pv7107, cp7107, rfl⟩ := own_row (HP.get hA7107 0 rfl)
                have e7107 : A.length + 1 = (A ++ [(lnT u k, agT u k)]).length := (len1 _ _).symm
                rw [tL_push, e7107] at hA7107
                rw [e7107]
                have hH108 : HP Tr w _ [rowT pv7107 (A ++ [(lnT u k, agT u k)]).length cp7107 (A ++ [(lnT u k, agT u k)]), .cel b104 #[vI (lnT u k), vI (agT u k)] 83] := hA7107
                refine WL.z (v := .slice pv7107 ((A ++ [(lnT u k, agT u k)]).length) cp7107) 7 ?_
                refine WL.nil (WQ.then (hK102 _ _ _ ?_))
                refine WC.sub (l' := [(0, .slice (some ⟨g, o, none⟩) t.length cp), (1, .slice (some ⟨g2, o2, none⟩) u.length cp2), (2, .bool may), (7, .slice pv7107 ((A ++ [(lnT u k, agT u k)]).length) cp7107), (8, vI (i : Int)), (9, vI (k : Int)), (20, .bool true), (43, .bool false), (70, .bool true), (71, .bool may)]) ⟨rfl, rfl, rfl, rfl, rfl, rfl, rfl, rfl, rfl, rfl, trivial⟩ ?_
                refine WC.seq fun K109 hK109 => WC.region ?_
                refine WL.z (v := vI (k : Int)) 79 ?_
                refine WL.y (v := vI ((k + 1 : Nat) : Int)) 80 (x_add (Z := ((k + 1 : Nat) : Int)) rfl rfl rfl (by omega) (by omega) (by omega)) ?_
                refine WL.z (v := vI ((k + 1 : Nat) : Int)) 9 ?_
                refine WL.nil (WQ.then (hK109 _ _ _ (WC.exit (WQ.thenExit (WQ.inExit ?_)))))
                refine WQ.sub (l' := [(0, .slice (some ⟨g, o, none⟩) t.length cp), (1, .slice (some ⟨g2, o2, none⟩) u.length cp2), (2, .bool may), (7, .slice pv7107 ((A ++ [(lnT u k, agT u k)]).length) cp7107), (8, vI (i : Int)), (9, vI ((k + 1 : Nat) : Int))]) ⟨rfl, rfl, rfl, rfl, rfl, rfl, trivial⟩ ?_
                refine WQ.then (hK7 _ _ _ (by omega) ⟨i, k + 1, (A ++ [(lnT u k, agT u k)]), pv7107, cp7107, rfl, rfl, by omega, by omega, by rw [← hA, rJ_r (t := t) (u := u) (i := i) (k := k) (by omega) (by omega), hm]; simp, by rw [len1]; omega, (HP.drop hH108 1)⟩)
              ·
                refine WC.no (congrArg (fun b => some (Value.bool b)) hm) ?_
                refine WC.skip (WQ.then (hK102 _ _ _ (WC.seq fun K110 hK110 => WC.region ?_)))
                refine WL.z (v := vI (k : Int)) 79 ?_
                refine WL.y (v := vI ((k + 1 : Nat) : Int)) 80 (x_add (Z := ((k + 1 : Nat) : Int)) rfl rfl rfl (by omega) (by omega) (by omega)) ?_
                refine WL.z (v := vI ((k + 1 : Nat) : Int)) 9 ?_
                refine WL.nil (WQ.then (hK110 _ _ _ (WC.exit (WQ.thenExit (WQ.inExit ?_)))))
                refine WQ.sub (l' := [(0, .slice (some ⟨g, o, none⟩) t.length cp), (1, .slice (some ⟨g2, o2, none⟩) u.length cp2), (2, .bool may), (7, .slice pv A.length cp3), (8, vI (i : Int)), (9, vI ((k + 1 : Nat) : Int))]) ⟨rfl, rfl, rfl, rfl, rfl, rfl, trivial⟩ ?_
                refine WQ.then (hK7 _ _ _ (by omega) ⟨i, k + 1, A, pv, cp3, rfl, rfl, by omega, by omega, by rw [← hA, rJ_r (t := t) (u := u) (i := i) (k := k) (by omega) (by omega), hm]; simp, by omega, hH101⟩)
            ·
              refine WS.y (v := .bool false) 69 (x_lss rfl rfl rfl (dF (h69))) ?_
              refine WS.z (v := .bool false) 70 ?_
              refine WS.nilQ (WQ.then (hK100 _ _ _ ?_))
              refine WC.sub (l' := [(0, .slice (some ⟨g, o, none⟩) t.length cp), (1, .slice (some ⟨g2, o2, none⟩) u.length cp2), (2, .bool may), (7, .slice pv A.length cp3), (8, vI (i : Int)), (9, vI (k : Int)), (20, .bool true), (43, .bool false), (70, .bool false)]) ⟨rfl, rfl, rfl, rfl, rfl, rfl, rfl, rfl, rfl, trivial⟩ ?_
              refine WC.no rfl (WC.skip (WQ.then (hK99 _ _ _ (WC.seq fun K111 hK111 => ?_))))
              refine WC.confG (γ := Unit) [(0, .slice (some ⟨g, o, none⟩) t.length cp), (1, .slice (some ⟨g2, o2, none⟩) u.length cp2), (2, .bool may), (7, .slice pv A.length cp3), (8, vI (i : Int)), (9, vI (k : Int)), (20, .bool true), (43, .bool false), (70, .bool false)] (fun gy => [.slice (some ⟨g, o, none⟩) t.length cp, vI (i : Int), vP g (o + i * 2), vP g (o + i * 2 + 1), vI (agT t i), .slice (some ⟨g2, o2, none⟩) u.length cp2, vI (k : Int), vP g2 (o2 + k * 2), vP g2 (o2 + k * 2 + 1), vI (agT u k), vI (max (agT t i) (agT u k)), vI (max (agT t i) (agT u k))]) (fun gy D wz => HP Tr w wz [rowT pv A.length cp3 A]) () (by kernel_rfl) ⟨rfl, rfl, rfl, rfl, rfl, rfl, rfl, rfl, rfl, trivial⟩ (by kernel_rfl) (by kernel_rfl) (by kernel_rfl) (fun _ => rfl) (by kernel_rfl) (HP.drew hH101) ?_ ?_
              · refine AllOk.cons ?o0 (AllOk.cons ?o1 (AllOk.cons ?o2 (AllOk.cons ?o3 (AllOk.cons ?o4 (AllOk.cons ?o5 (AllOk.cons ?o6 (AllOk.cons ?o7 (AllOk.cons ?o8 (AllOk.cons ?o9 (AllOk.cons ?o10 (AllOk.cons ?o11 (AllOk.nil _))))))))))))
                case o0 =>
                  intro gy D wz hDi hdep hclo hW
                  exact .inl ⟨rfl, rfl, .inl ⟨gy, wz, fun _ _ => rfl, by kernel_rfl, hW⟩⟩
                case o1 =>
                  intro gy D wz hDi hdep hclo hW
                  exact .inl ⟨rfl, rfl, .inl ⟨gy, wz, fun _ _ => rfl, by kernel_rfl, hW⟩⟩
                case o2 =>
                  intro gy D wz hDi hdep hclo hW
                  exact .inl ⟨rfl, rfl, .inl ⟨gy, wz, fun _ _ => rfl, x_idx (i) (o + i * 2) rfl rfl rfl Try.underlying49 sz83 (by omega) (by omega) (by omega), hW⟩⟩
                case o3 =>
                  intro gy D wz hDi hdep hclo hW
                  exact .inl ⟨rfl, rfl, .inl ⟨gy, wz, fun _ _ => rfl, x_idxArr (1) (o + i * 2 + 1) rfl rfl rfl Try.underlying83 sz3 (by omega) (by omega) (by omega), hW⟩⟩
                case o4 =>
                  intro gy D wz hDi hdep hclo hW
                  exact .inl ⟨rfl, rfl, .inl ⟨gy, wz, fun _ _ => rfl, x_load rfl rfl Try.underlying3 rfl ((HP.oldRange hW trivial (hrow i (by omega))) 1 _ rfl), hW⟩⟩
                case o5 =>
                  intro gy D wz hDi hdep hclo hW
                  exact .inl ⟨rfl, rfl, .inl ⟨gy, wz, fun _ _ => rfl, by kernel_rfl, hW⟩⟩
                case o6 =>
                  intro gy D wz hDi hdep hclo hW
                  exact .inl ⟨rfl, rfl, .inl ⟨gy, wz, fun _ _ => rfl, by kernel_rfl, hW⟩⟩
                case o7 =>
                  intro gy D wz hDi hdep hclo hW
                  exact .inl ⟨rfl, rfl, .inl ⟨gy, wz, fun _ _ => rfl, x_idx (k) (o2 + k * 2) rfl rfl rfl Try.underlying49 sz83 (by omega) (by omega) (by omega), hW⟩⟩
                case o8 =>
                  intro gy D wz hDi hdep hclo hW
                  exact .inl ⟨rfl, rfl, .inl ⟨gy, wz, fun _ _ => rfl, x_idxArr (1) (o2 + k * 2 + 1) rfl rfl rfl Try.underlying83 sz3 (by omega) (by omega) (by omega), hW⟩⟩
                case o9 =>
                  intro gy D wz hDi hdep hclo hW
                  exact .inl ⟨rfl, rfl, .inl ⟨gy, wz, fun _ _ => rfl, x_load rfl rfl Try.underlying3 rfl ((HP.oldRange hW trivial (hrow2 k (by omega))) 1 _ rfl), hW⟩⟩
                case o10 =>
                  intro gy D wz hDi hdep hclo hW
                  exact .inl ⟨rfl, rfl, .inl ⟨gy, wz, fun _ _ => rfl, x_max (Z := max (agT t i) (agT u k)) (t := 0) rfl rfl rfl (by simp only [Int.max_def]; split <;> split <;> omega), hW⟩⟩
                case o11 =>
                  intro gy D wz hDi hdep hclo hW
                  exact .inl ⟨rfl, rfl, .inl ⟨gy, wz, fun _ _ => rfl, by kernel_rfl, hW⟩⟩
              rintro gy D w112 hall hH113
              clear hall
              refine WQ.sub (l' := [(0, .slice (some ⟨g, o, none⟩) t.length cp), (1, .slice (some ⟨g2, o2, none⟩) u.length cp2), (2, .bool may), (7, .slice pv A.length cp3), (8, vI (i : Int)), (9, vI (k : Int)), (10, vI (max (agT t i) (agT u k))), (20, .bool true), (43, .bool false), (70, .bool false)]) ⟨rfl, rfl, rfl, rfl, rfl, rfl, rfl, rfl, rfl, rfl, trivial⟩ ?_
              refine WQ.then (hK111 _ _ _ (WC.seq fun K114 hK114 => WC.seq fun K115 hK115 => WC.region ?_))
              refine WL.z (v := .bool may) 92 ?_
              refine WL.nil (WQ.then (hK115 _ _ _ ?_))
              rcases Bool.eq_false_or_eq_true (may) with hm | hm
              ·
                refine WC.yes (congrArg (fun b => some (Value.bool b)) hm) ?_
                refine WC.confG (γ := Unit) [(92, .bool may), (0, .slice (some ⟨g, o, none⟩) t.length cp), (1, .slice (some ⟨g2, o2, none⟩) u.length cp2), (2, .bool may), (7, .slice pv A.length cp3), (8, vI (i : Int)), (9, vI (k : Int)), (20, .bool true), (43, .bool false), (70, .bool false)] (fun gy => [.slice (some ⟨g, o, none⟩) t.length cp, vI (i : Int), vP g (o + i * 2), vP g (o + i * 2 + 1), vI (agT t i), .slice (some ⟨g2, o2, none⟩) u.length cp2, vI (k : Int), vP g2 (o2 + k * 2), vP g2 (o2 + k * 2 + 1), vI (agT u k), vI (min (agT t i) (agT u k)), vI (min (agT t i) (agT u k))]) (fun gy D wz => HP Tr w wz [rowT pv A.length cp3 A]) () (by kernel_rfl) ⟨rfl, rfl, rfl, rfl, rfl, rfl, rfl, rfl, rfl, rfl, trivial⟩ (by kernel_rfl) (by kernel_rfl) (by kernel_rfl) (fun _ => rfl) (by kernel_rfl) (HP.drew hH113) ?_ ?_
                · refine AllOk.cons ?o0 (AllOk.cons ?o1 (AllOk.cons ?o2 (AllOk.cons ?o3 (AllOk.cons ?o4 (AllOk.cons ?o5 (AllOk.cons ?o6 (AllOk.cons ?o7 (AllOk.cons ?o8 (AllOk.cons ?o9 (AllOk.cons ?o10 (AllOk.cons ?o11 (AllOk.nil _))))))))))))
                  case o0 =>
                    intro gy D wz hDi hdep hclo hW
                    exact .inl ⟨rfl, rfl, .inl ⟨gy, wz, fun _ _ => rfl, by kernel_rfl, hW⟩⟩
                  case o1 =>
                    intro gy D wz hDi hdep hclo hW
                    exact .inl ⟨rfl, rfl, .inl ⟨gy, wz, fun _ _ => rfl, by kernel_rfl, hW⟩⟩
                  case o2 =>
                    intro gy D wz hDi hdep hclo hW
                    exact .inl ⟨rfl, rfl, .inl ⟨gy, wz, fun _ _ => rfl, x_idx (i) (o + i * 2) rfl rfl rfl Try.underlying49 sz83 (by omega) (by omega) (by omega), hW⟩⟩
                  case o3 =>
                    intro gy D wz hDi hdep hclo hW
                    exact .inl ⟨rfl, rfl, .inl ⟨gy, wz, fun _ _ => rfl, x_idxArr (1) (o + i * 2 + 1) rfl rfl rfl Try.underlying83 sz3 (by omega) (by omega) (by omega), hW⟩⟩
                  case o4 =>
                    intro gy D wz hDi hdep hclo hW
                    exact .inl ⟨rfl, rfl, .inl ⟨gy, wz, fun _ _ => rfl, x_load rfl rfl Try.underlying3 rfl ((HP.oldRange hW trivial (hrow i (by omega))) 1 _ rfl), hW⟩⟩
                  case o5 =>
                    intro gy D wz hDi hdep hclo hW
                    exact .inl ⟨rfl, rfl, .inl ⟨gy, wz, fun _ _ => rfl, by kernel_rfl, hW⟩⟩
                  case o6 =>
                    intro gy D wz hDi hdep hclo hW
                    exact .inl ⟨rfl, rfl, .inl ⟨gy, wz, fun _ _ => rfl, by kernel_rfl, hW⟩⟩
                  case o7 =>
                    intro gy D wz hDi hdep hclo hW
                    exact .inl ⟨rfl, rfl, .inl ⟨gy, wz, fun _ _ => rfl, x_idx (k) (o2 + k * 2) rfl rfl rfl Try.underlying49 sz83 (by omega) (by omega) (by omega), hW⟩⟩
                  case o8 =>
                    intro gy D wz hDi hdep hclo hW
                    exact .inl ⟨rfl, rfl, .inl ⟨gy, wz, fun _ _ => rfl, x_idxArr (1) (o2 + k * 2 + 1) rfl rfl rfl Try.underlying83 sz3 (by omega) (by omega) (by omega), hW⟩⟩
                  case o9 =>
                    intro gy D wz hDi hdep hclo hW
                    exact .inl ⟨rfl, rfl, .inl ⟨gy, wz, fun _ _ => rfl, x_load rfl rfl Try.underlying3 rfl ((HP.oldRange hW trivial (hrow2 k (by omega))) 1 _ rfl), hW⟩⟩
                  case o10 =>
                    intro gy D wz hDi hdep hclo hW
                    exact .inl ⟨rfl, rfl, .inl ⟨gy, wz, fun _ _ => rfl, x_min (Z := min (agT t i) (agT u k)) (t := 0) rfl rfl rfl (by simp only [Int.min_def]; split <;> split <;> omega), hW⟩⟩
                  case o11 =>
                    intro gy D wz hDi hdep hclo hW
                    exact .inl ⟨rfl, rfl, .inl ⟨gy, wz, fun _ _ => rfl, by kernel_rfl, hW⟩⟩
                rintro gy D w116 hall hH117
                clear hall
                refine WQ.sub (l' := [(0, .slice (some ⟨g, o, none⟩) t.length cp), (1, .slice (some ⟨g2, o2, none⟩) u.length cp2), (2, .bool may), (7, .slice pv A.length cp3), (8, vI (i : Int)), (9, vI (k : Int)), (10, vI (min (agT t i) (agT u k))), (20, .bool true), (43, .bool false), (70, .bool false), (92, .bool may)]) ⟨rfl, rfl, rfl, rfl, rfl, rfl, rfl, rfl, rfl, rfl, rfl, trivial⟩ ?_
                refine WQ.then (hK114 _ _ _ (WC.seq fun K118 hK118 => WC.region ?_))
                refine WL.z (v := .slice pv A.length cp3) 104 ?_
                refine WL.z (v := .slice (some ⟨g, o, none⟩) t.length cp) 105 ?_
                refine WL.z (v := vI (i : Int)) 106 ?_
                refine WL.y (v := vP g (o + i * 2)) 107 (x_idx (i) (o + i * 2) rfl rfl rfl Try.underlying49 sz83 (by omega) (by omega) (by omega)) ?_
                refine WL.y (v := vP g (o + i * 2)) 108 (x_idxArr (0) (o + i * 2) rfl rfl rfl Try.underlying83 sz3 (by omega) (by omega) (by omega)) ?_
                refine WL.y (v := vI (lnT t i)) 109 (x_load rfl rfl Try.underlying3 rfl ((HP.oldRange hH117 trivial (hrow i (by omega))) 0 _ rfl)) ?_
                refine WL.z (v := vI (min (agT t i) (agT u k))) 110 ?_
                refine WL.z (v := .agg #[vI (lnT t i), vI (min (agT t i) (agT u k))]) 111 ?_
                refine WL.alloc (c := #[vI (lnT t i), vI (min (agT t i) (agT u k))]) (T := 83) hH117 112 rfl (by decide) rfl rfl (fun b119 => vS b119 1 1) (by kernel_rfl) (fun b119 w120 hw120 => ?_)
                have hH121 : HP Tr w w120 [rowT pv A.length cp3 A, .cel b119 #[vI (lnT t i), vI (min (agT t i) (agT u k))] 83] := hw120.2
                have nb119 := hw120.1
                clear hw120
                obtain ⟨i0, hi0, hz0, hz1, hz2⟩ := infoT
                refine WL.append (news := [vI (lnT t i), vI (min (agT t i) (agT u k))]) 0 1 hH121 113 rfl (by decide) rfl rfl rfl rfl Try.underlying49 hi0 hz0 hz1 hz2 rfl (by decide) rfl rfl rfl rfl (by simp [Value.oneCell']) (by unfold maxLen; omega) (by omega) ?_
                rintro v7122 w7122 - hA7122
                obtain ⟨pv7122, cp7122, rfl⟩ := own_row (HP.get hA7122 0 rfl)
                have e7122 : A.length + 1 = (A ++ [(lnT t i, min (agT t i) (agT u k))]).length := (len1 _ _).symm
                rw [tL_push, e7122] at hA7122
                rw [e7122]
                have hH123 : HP Tr w _ [rowT pv7122 (A ++ [(lnT t i, min (agT t i) (agT u k))]).length cp7122 (A ++ [(lnT t i, min (agT t i) (agT u k))]), .cel b119 #[vI (lnT t i), vI (min (agT t i) (agT u k))] 83] := hA7122
                refine WL.z (v := .slice pv7122 ((A ++ [(lnT t i, min (agT t i) (agT u k))]).length) cp7122) 7 ?_
                refine WL.nil (WQ.then (hK118 _ _ _ ?_))
                refine WC.sub (l' := [(0, .slice (some ⟨g, o, none⟩) t.length cp), (1, .slice (some ⟨g2, o2, none⟩) u.length cp2), (2, .bool may), (7, .slice pv7122 ((A ++ [(lnT t i, min (agT t i) (agT u k))]).length) cp7122), (8, vI (i : Int)), (9, vI (k : Int)), (10, vI (min (agT t i) (agT u k))), (20, .bool true), (43, .bool false), (70, .bool false), (92, .bool may)]) ⟨rfl, rfl, rfl, rfl, rfl, rfl, rfl, rfl, rfl, rfl, rfl, trivial⟩ ?_
                refine WC.seq fun K124 hK124 => WC.region ?_
                refine WL.z (v := vI (i : Int)) 114 ?_
                refine WL.y (v := vI ((i + 1 : Nat) : Int)) 115 (x_add (Z := ((i + 1 : Nat) : Int)) rfl rfl rfl (by omega) (by omega) (by omega)) ?_
                refine WL.z (v := vI ((i + 1 : Nat) : Int)) 8 ?_
                refine WL.nil (WQ.then (hK124 _ _ _ (WC.region ?_)))
                refine WL.z (v := vI (k : Int)) 116 ?_
                refine WL.y (v := vI ((k + 1 : Nat) : Int)) 117 (x_add (Z := ((k + 1 : Nat) : Int)) rfl rfl rfl (by omega) (by omega) (by omega)) ?_
                refine WL.z (v := vI ((k + 1 : Nat) : Int)) 9 ?_
                refine WL.nil (WQ.inNormal ?_)
                refine WQ.sub (l' := [(0, .slice (some ⟨g, o, none⟩) t.length cp), (1, .slice (some ⟨g2, o2, none⟩) u.length cp2), (2, .bool may), (7, .slice pv7122 ((A ++ [(lnT t i, min (agT t i) (agT u k))]).length) cp7122), (8, vI ((i + 1 : Nat) : Int)), (9, vI ((k + 1 : Nat) : Int))]) ⟨rfl, rfl, rfl, rfl, rfl, rfl, trivial⟩ ?_
                refine WQ.then (hK7 _ _ _ (by omega) ⟨i + 1, k + 1, (A ++ [(lnT t i, min (agT t i) (agT u k))]), pv7122, cp7122, rfl, rfl, by omega, by omega, by rw [← hA, rJ_b (t := t) (u := u) (i := i) (k := k) (by omega) (by omega) (by omega) (by omega), hm]; simp, by rw [len1]; omega, (HP.drop hH123 1)⟩)
              ·
                refine WC.no (congrArg (fun b => some (Value.bool b)) hm) ?_
                refine WC.skip (WQ.then (hK114 _ _ _ (WC.seq fun K125 hK125 => WC.region ?_)))
                refine WL.z (v := .slice pv A.length cp3) 104 ?_
                refine WL.z (v := .slice (some ⟨g, o, none⟩) t.length cp) 105 ?_
                refine WL.z (v := vI (i : Int)) 106 ?_
                refine WL.y (v := vP g (o + i * 2)) 107 (x_idx (i) (o + i * 2) rfl rfl rfl Try.underlying49 sz83 (by omega) (by omega) (by omega)) ?_
                refine WL.y (v := vP g (o + i * 2)) 108 (x_idxArr (0) (o + i * 2) rfl rfl rfl Try.underlying83 sz3 (by omega) (by omega) (by omega)) ?_
                refine WL.y (v := vI (lnT t i)) 109 (x_load rfl rfl Try.underlying3 rfl ((HP.oldRange hH113 trivial (hrow i (by omega))) 0 _ rfl)) ?_
                refine WL.z (v := vI (max (agT t i) (agT u k))) 110 ?_
                refine WL.z (v := .agg #[vI (lnT t i), vI (max (agT t i) (agT u k))]) 111 ?_
                refine WL.alloc (c := #[vI (lnT t i), vI (max (agT t i) (agT u k))]) (T := 83) hH113 112 rfl (by decide) rfl rfl (fun b126 => vS b126 1 1) (by kernel_rfl) (fun b126 w127 hw127 => ?_)
                have hH128 : HP Tr w w127 [rowT pv A.length cp3 A, .cel b126 #[vI (lnT t i), vI (max (agT t i) (agT u k))] 83] := hw127.2
                have nb126 := hw127.1
                clear hw127
                obtain ⟨i0, hi0, hz0, hz1, hz2⟩ := infoT
                refine WL.append (news := [vI (lnT t i), vI (max (agT t i) (agT u k))]) 0 1 hH128 113 rfl (by decide) rfl rfl rfl rfl Try.underlying49 hi0 hz0 hz1 hz2 rfl (by decide) rfl rfl rfl rfl (by simp [Value.oneCell']) (by unfold maxLen; omega) (by omega) ?_
                rintro v7129 w7129 - hA7129
                obtain ⟨pv7129, cp7129, rfl⟩ := own_row (HP.get hA7129 0 rfl)
                have e7129 : A.length + 1 = (A ++ [(lnT t i, max (agT t i) (agT u k))]).length := (len1 _ _).symm
                rw [tL_push, e7129] at hA7129
                rw [e7129]
                have hH130 : HP Tr w _ [rowT pv7129 (A ++ [(lnT t i, max (agT t i) (agT u k))]).length cp7129 (A ++ [(lnT t i, max (agT t i) (agT u k))]), .cel b126 #[vI (lnT t i), vI (max (agT t i) (agT u k))] 83] := hA7129
                refine WL.z (v := .slice pv7129 ((A ++ [(lnT t i, max (agT t i) (agT u k))]).length) cp7129) 7 ?_
                refine WL.nil (WQ.then (hK125 _ _ _ ?_))
                refine WC.sub (l' := [(0, .slice (some ⟨g, o, none⟩) t.length cp), (1, .slice (some ⟨g2, o2, none⟩) u.length cp2), (2, .bool may), (7, .slice pv7129 ((A ++ [(lnT t i, max (agT t i) (agT u k))]).length) cp7129), (8, vI (i : Int)), (9, vI (k : Int)), (10, vI (max (agT t i) (agT u k))), (20, .bool true), (43, .bool false), (70, .bool false), (92, .bool may)]) ⟨rfl, rfl, rfl, rfl, rfl, rfl, rfl, rfl, rfl, rfl, rfl, trivial⟩ ?_
                refine WC.seq fun K131 hK131 => WC.region ?_
                refine WL.z (v := vI (i : Int)) 114 ?_
                refine WL.y (v := vI ((i + 1 : Nat) : Int)) 115 (x_add (Z := ((i + 1 : Nat) : Int)) rfl rfl rfl (by omega) (by omega) (by omega)) ?_
                refine WL.z (v := vI ((i + 1 : Nat) : Int)) 8 ?_
                refine WL.nil (WQ.then (hK131 _ _ _ (WC.region ?_)))
                refine WL.z (v := vI (k : Int)) 116 ?_
                refine WL.y (v := vI ((k + 1 : Nat) : Int)) 117 (x_add (Z := ((k + 1 : Nat) : Int)) rfl rfl rfl (by omega) (by omega) (by omega)) ?_
                refine WL.z (v := vI ((k + 1 : Nat) : Int)) 9 ?_
                refine WL.nil (WQ.inNormal ?_)
                refine WQ.sub (l' := [(0, .slice (some ⟨g, o, none⟩) t.length cp), (1, .slice (some ⟨g2, o2, none⟩) u.length cp2), (2, .bool may), (7, .slice pv7129 ((A ++ [(lnT t i, max (agT t i) (agT u k))]).length) cp7129), (8, vI ((i + 1 : Nat) : Int)), (9, vI ((k + 1 : Nat) : Int))]) ⟨rfl, rfl, rfl, rfl, rfl, rfl, trivial⟩ ?_
                refine WQ.then (hK7 _ _ _ (by omega) ⟨i + 1, k + 1, (A ++ [(lnT t i, max (agT t i) (agT u k))]), pv7129, cp7129, rfl, rfl, by omega, by omega, by rw [← hA, rJ_b (t := t) (u := u) (i := i) (k := k) (by omega) (by omega) (by omega) (by omega), hm]; simp, by rw [len1]; omega, (HP.drop hH130 1)⟩)
        ·
          refine WS.y (v := .bool false) 29 (x_lss rfl rfl rfl (dF (h29))) ?_
          refine WS.z (v := .bool false) 30 ?_
          refine WS.p 31 ?_
          refine WS.p 32 ?_
          refine WS.p 33 ?_
          refine WS.p 34 ?_
          refine WS.p 35 ?_
          refine WS.p 36 ?_
          refine WS.p 37 ?_
          refine WS.p 38 ?_
          refine WS.p 39 ?_
          refine WS.p 40 ?_
          refine WS.p 41 ?_
          refine WS.z (v := .bool false) 42 ?_
          refine WS.z (v := .bool false) 43 ?_
          refine WS.nilQ (WQ.then (hK79 _ _ _ ?_))
          refine WC.sub (l' := [(0, .slice p t.length cp), (1, .slice (some ⟨g2, o2, none⟩) u.length cp2), (2, .bool may), (7, .slice pv A.length cp3), (8, vI (i : Int)), (9, vI (k : Int)), (20, .bool true), (43, .bool false)]) ⟨rfl, rfl, rfl, rfl, rfl, rfl, rfl, rfl, trivial⟩ ?_
          refine WC.no rfl (WC.skip (WQ.then (hK78 _ _ _ (WC.seq fun K132 hK132 => WC.seq fun K133 hK133 => ?_))))
          refine WC.still (by kernel_rfl) (by kernel_rfl) ?_
          have hH134 : HP Tr w _ [rowT pv A.length cp3 A] := HP.drew hH80
          refine WS.z (v := vI (i : Int)) 54 ?_
          refine WS.z (v := .slice p t.length cp) 55 ?_
          refine WS.z (v := vI (t.length : Int)) 56 ?_
          refine WS.y (v := .bool true) 57 (x_eql rfl rfl rfl (dT (by omega))) ?_
          refine WS.z (v := .bool true) 58 ?_
          refine WS.p 59 ?_
          refine WS.p 60 ?_
          refine WS.p 61 ?_
          refine WS.p 62 ?_
          refine WS.p 63 ?_
          refine WS.p 64 ?_
          refine WS.p 65 ?_
          refine WS.p 66 ?_
          refine WS.p 67 ?_
          refine WS.p 68 ?_
          refine WS.p 69 ?_
          refine WS.z (v := .bool true) 70 ?_
          refine WS.nilQ (WQ.then (hK133 _ _ _ ?_))
          refine WC.sub (l' := [(0, .slice p t.length cp), (1, .slice (some ⟨g2, o2, none⟩) u.length cp2), (2, .bool may), (7, .slice pv A.length cp3), (8, vI (i : Int)), (9, vI (k : Int)), (20, .bool true), (43, .bool false), (70, .bool true)]) ⟨rfl, rfl, rfl, rfl, rfl, rfl, rfl, rfl, rfl, trivial⟩ ?_
          refine WC.yes rfl (WC.seq fun K135 hK135 => WC.seq fun K136 hK136 => WC.region ?_)
          refine WL.z (v := .bool may) 71 ?_
          refine WL.nil (WQ.then (hK136 _ _ _ ?_))
          rcases Bool.eq_false_or_eq_true (may) with hm | hm
          ·
            refine WC.yes (congrArg (fun b => some (Value.bool b)) hm) ?_
            refine WC.region ?_
            refine WL.z (v := .slice pv A.length cp3) 72 ?_
            refine WL.z (v := .slice (some ⟨g2, o2, none⟩) u.length cp2) 73 ?_
            refine WL.z (v := vI (k : Int)) 74 ?_
            refine WL.y (v := vP g2 (o2 + k * 2)) 75 (x_idx (k) (o2 + k * 2) rfl rfl rfl Try.underlying49 sz83 (by omega) (by omega) (by omega)) ?_
            refine WL.y (v := .agg #[vI (lnT u k), vI (agT u k)]) 76 (x_loadS (cs := [vI (lnT u k), vI (agT u k)]) rfl rfl Try.underlying83 rfl sz83 (HP.oldRange hH134 trivial (hrow2 k (by omega)))) ?_
            refine WL.alloc (c := #[vI (lnT u k), vI (agT u k)]) (T := 83) hH134 77 rfl (by decide) rfl rfl (fun b137 => vS b137 1 1) (by kernel_rfl) (fun b137 w138 hw138 => ?_)
            have hH139 : HP Tr w w138 [rowT pv A.length cp3 A, .cel b137 #[vI (lnT u k), vI (agT u k)] 83] := hw138.2
            have nb137 := hw138.1
            clear hw138
            obtain ⟨i0, hi0, hz0, hz1, hz2⟩ := infoT
            refine WL.append (news := [vI (lnT u k), vI (agT u k)]) 0 1 hH139 78 rfl (by decide) rfl rfl rfl rfl Try.underlying49 hi0 hz0 hz1 hz2 rfl (by decide) rfl rfl rfl rfl (by simp [Value.oneCell']) (by unfold maxLen; omega) (by omega) ?_
            rintro v7140 w7140 - hA7140
            obtain ⟨pv7140, cp7140, rfl⟩ := own_row (HP.get hA7140 0 rfl)
            have e7140 : A.length + 1 = (A ++ [(lnT u k, agT u k)]).length := (len1 _ _).symm
            rw [tL_push, e7140] at hA7140
            rw [e7140]
            have hH141 : HP Tr w _ [rowT pv7140 (A ++ [(lnT u k, agT u k)]).length cp7140 (A ++ [(lnT u k, agT u k)]), .cel b137 #[vI (lnT u k), vI (agT u k)] 83] := hA7140
            refine WL.z (v := .slice pv7140 ((A ++ [(lnT u k, agT u k)]).length) cp7140) 7 ?_
            refine WL.nil (WQ.then (hK135 _ _ _ ?_))
            refine WC.sub (l' := [(0, .slice p t.length cp), (1, .slice (some ⟨g2, o2, none⟩) u.length cp2), (2, .bool may), (7, .slice pv7140 ((A ++ [(lnT u k, agT u k)]).length) cp7140), (8, vI (i : Int)), (9, vI (k : Int)), (20, .bool true), (43, .bool false), (70, .bool true), (71, .bool may)]) ⟨rfl, rfl, rfl, rfl, rfl, rfl, rfl, rfl, rfl, rfl, trivial⟩ ?_
            refine WC.seq fun K142 hK142 => WC.region ?_
            refine WL.z (v := vI (k : Int)) 79 ?_
            refine WL.y (v := vI ((k + 1 : Nat) : Int)) 80 (x_add (Z := ((k + 1 : Nat) : Int)) rfl rfl rfl (by omega) (by omega) (by omega)) ?_
            refine WL.z (v := vI ((k + 1 : Nat) : Int)) 9 ?_
            refine WL.nil (WQ.then (hK142 _ _ _ (WC.exit (WQ.thenExit (WQ.inExit ?_)))))
            refine WQ.sub (l' := [(0, .slice p t.length cp), (1, .slice (some ⟨g2, o2, none⟩) u.length cp2), (2, .bool may), (7, .slice pv7140 ((A ++ [(lnT u k, agT u k)]).length) cp7140), (8, vI (i : Int)), (9, vI ((k + 1 : Nat) : Int))]) ⟨rfl, rfl, rfl, rfl, rfl, rfl, trivial⟩ ?_
            refine WQ.then (hK7 _ _ _ (by omega) ⟨i, k + 1, (A ++ [(lnT u k, agT u k)]), pv7140, cp7140, rfl, rfl, by omega, by omega, by rw [← hA, rJ_r (t := t) (u := u) (i := i) (k := k) (by omega) (by omega), hm]; simp, by rw [len1]; omega, (HP.drop hH141 1)⟩)
          ·
            refine WC.no (congrArg (fun b => some (Value.bool b)) hm) ?_
            refine WC.skip (WQ.then (hK135 _ _ _ (WC.seq fun K143 hK143 => WC.region ?_)))
            refine WL.z (v := vI (k : Int)) 79 ?_
            refine WL.y (v := vI ((k + 1 : Nat) : Int)) 80 (x_add (Z := ((k + 1 : Nat) : Int)) rfl rfl rfl (by omega) (by omega) (by omega)) ?_
            refine WL.z (v := vI ((k + 1 : Nat) : Int)) 9 ?_
            refine WL.nil (WQ.then (hK143 _ _ _ (WC.exit (WQ.thenExit (WQ.inExit ?_)))))
            refine WQ.sub (l' := [(0, .slice p t.length cp), (1, .slice (some ⟨g2, o2, none⟩) u.length cp2), (2, .bool may), (7, .slice pv A.length cp3), (8, vI (i : Int)), (9, vI ((k + 1 : Nat) : Int))]) ⟨rfl, rfl, rfl, rfl, rfl, rfl, trivial⟩ ?_
            refine WQ.then (hK7 _ _ _ (by omega) ⟨i, k + 1, A, pv, cp3, rfl, rfl, by omega, by omega, by rw [← hA, rJ_r (t := t) (u := u) (i := i) (k := k) (by omega) (by omega), hm]; simp, by omega, hH134⟩)
    ·
      refine WL.y (v := .bool false) 19 (x_lss rfl rfl rfl (dF (h19))) ?_
      refine WL.z (v := .bool false) 20 ?_
      refine WL.nil (WQ.then (hK11 _ _ _ ?_))
      refine WC.sub (l' := [(0, .slice p t.length cp), (1, .slice p2 u.length cp2), (2, .bool may), (7, .slice pv A.length cp3), (8, vI (i : Int)), (9, vI (k : Int)), (20, .bool false)]) ⟨rfl, rfl, rfl, rfl, rfl, rfl, rfl, trivial⟩ ?_
      refine WC.no rfl (WC.exit (WQ.thenExit (WQ.thenExit (WQ.inExit (WQ.then (hK6 _ _ _ (WC.seq fun K144 hK144 => ?_)))))))
      have hR : rJ may t u = A := by rw [← hA, rJ_end (by omega) (by omega), List.append_nil]
      refine WC.region ?_
      refine WL.z (v := .slice pv A.length cp3) 118 ?_
      refine WL.z (v := .slice pv A.length cp3) 6 ?_
      refine WL.nil (WQ.then (hK144 _ _ _ (WC.ret ?_)))
      refine WQ.ret1 6 rfl rfl ?_
      exact ⟨pv, cp3, by rw [hR], by rw [hR]; exact HP.eq hH9 rfl⟩
/-- the lines that are in both -/
def jm1 (u : List T2) (p : T2) : List T2 := match ageT u p.1 with
  | some a => [(p.1, max p.2 a)]
  | none => []
def jM (t u : List T2) : List T2 := t.flatMap (jm1 u)
theorem jM_drop {t u : List T2} {i : Nat} (hi : i < t.length) : jM (t.drop i) u = jm1 u (lnT t i, agT t i) ++ jM (t.drop (i + 1)) u := by rw [drop_t hi]; rfl
theorem jm_yes {u : List T2} {x a c : Int} (h : ageT u x = some c) : jm1 u (x, a) = [(x, max a c)] := by unfold jm1; rw [h]
theorem jm_no {u : List T2} {x a : Int} (h : ageT u x = none) : jm1 u (x, a) = [] := by unfold jm1; rw [h]
theorem find_none {u : List T2} {x : Int} {k : Nat} (hs : sT u) (hk1 : k ≤ u.length) (hk2 : 0 < k → lnT u (k - 1) < x) (hk3 : k < u.length → x ≤ lnT u k) (hq : ¬ (k < u.length ∧ lnT u k = x)) : ageT u x = none :=
  age_no hs hk2 (fun h => by have := hk3 h; by_cases e : lnT u k = x; exact absurd ⟨h, e⟩ hq; omega) hk1
set_option maxRecDepth 20000 in
set_option maxHeartbeats 4000000 in
theorem joinMust_any (p p2 : Option Addr) (t u : List T2) (cp cp2 : Nat) (w : World) (hT : InT w p t) (hU : InT w p2 u) (hn : t.length ≤ 100000) (hn2 : u.length ≤ 100000) (hs : sT u) :
    Calls Try.prog 63 #[.slice p t.length cp, .slice p2 u.length cp2] w fun e w' => ∃ pv cp', e = .returned (.slice pv (jM t u).length cp') ∧ HP Tr w w' [rowT pv (jM t u).length cp' (jM t u)] := by
  refine calls_of Try.func63 rfl (m := 41) rfl [(0, .slice p t.length cp), (1, .slice p2 u.length cp2)] (Fr_enter [.slice p t.length cp, .slice p2 u.length cp2] 41 (Nat.le_of_ble_eq_true rfl)) ?_
  have hH1 : HP Tr w w [] := HP.refl w
  refine WC.seq fun K2 hK2 => WC.region ?_
  refine WL.z (v := .slice none 0 0) 4 ?_
  refine WL.nil (WQ.then (hK2 _ _ _ (WC.seq fun K3 hK3 => WC.region ?_)))
  refine WL.alloc (c := #[]) (T := 83) hH1 10 rfl (by decide) rfl rfl (fun b10 => vS b10 0 0) (by kernel_rfl) (fun b10 w4 hw4 => ?_)
  have hH5 : HP Tr w w4 [.cel b10 #[] 83] := hw4.2
  have nb10 := hw4.1
  clear hw4
  refine WL.z (v := vS b10 0 0) 5 ?_
  refine WL.nil (WQ.then (hK3 _ _ _ (WC.seq fun K6 hK6 => WC.seq fun K7 hK7 => ?_)))
  have hO9 := HP.celToOwn hH5 0 (k := 0) (cap := 0) (s := 2) rfl (Nat.le_refl _) (by decide) rfl
  have hH8 : HP Tr w _ [rowT (some ⟨b10, 0, none⟩) ([] : List T2).length 0 ([] : List T2)] := HP.eq hO9 rfl
  refine WC.region ?_
  refine WL.z (v := .slice p t.length cp) 11 ?_
  refine WL.z (v := vI (t.length : Int)) 12 ?_
  refine WL.z (v := vI 0) 13 ?_
  refine WL.nil (WQ.then (hK7 _ _ _ (WC.block ?_)))
  refine WC.loop (fun kk0 ll0 ww0 => ∃ (i : Nat) (A : List T2) (pv : Option Addr) (cp3 : Nat), ll0 = [(0, .slice p t.length cp), (1, .slice p2 u.length cp2), (5, .slice pv A.length cp3), (11, .slice p t.length cp), (12, vI (t.length : Int)), (13, vI (i : Int))] ∧ kk0 = t.length - i ∧ (i ≤ t.length) ∧ (A ++ jM (t.drop i) u = jM t u) ∧ (A.length ≤ i) ∧ HP Tr w ww0 [rowT pv A.length cp3 A]) (t.length) [(0, .slice p t.length cp), (1, .slice p2 u.length cp2), (5, .slice (some ⟨b10, 0, none⟩) 0 0), (11, .slice p t.length cp), (12, vI (t.length : Int)), (13, vI 0)] ⟨rfl, rfl, rfl, rfl, rfl, rfl, trivial⟩ ⟨0, [], _, 0, rfl, rfl, Nat.zero_le _, rfl, Nat.zero_le _, hH8⟩ ?_
  rintro kk l w10 ⟨i, A, pv, cp3, rfl, hkk, hi, hA, hAl, hH11⟩ K9 hK9
  refine WC.seq fun K12 hK12 => WC.region ?_
  by_cases h14 : (i : Int) < (t.length : Int)
  ·
    refine WL.y (v := .bool true) 14 (x_lss rfl rfl rfl (dT (h14))) ?_
    refine WL.nil (WQ.then (hK12 _ _ _ (WC.seq fun K13 hK13 => WC.yes rfl (WC.skip (WQ.then (hK13 _ _ _ ?_))))))
    refine WC.seq fun K14 hK14 => WC.block (WC.seq fun K15 hK15 => ?_)
    obtain ⟨g, o, rfl, hrow⟩ := hT (by omega)
    refine WC.region ?_
    refine WL.y (v := vP g (o + i * 2)) 15 (x_idx (i) (o + i * 2) rfl rfl rfl Try.underlying88 sz83 (by omega) (by omega) (by omega)) ?_
    refine WL.y (v := .agg #[vI (lnT t i), vI (agT t i)]) 16 (x_loadS (cs := [vI (lnT t i), vI (agT t i)]) rfl rfl Try.underlying83 rfl sz83 (HP.oldRange hH11 trivial (hrow i (by omega)))) ?_
    refine WL.alloc (c := #[vI 0, vI 0]) (T := 83) hH11 7 rfl (by decide) rfl rfl (fun b7 => vP b7 0) (by kernel_rfl) (fun b7 w16 hw16 => ?_)
    have hH17 : HP Tr w w16 [rowT pv A.length cp3 A, .cel b7 #[vI 0, vI 0] 83] := hw16.2
    have nb7 := hw16.1
    clear hw16
    refine WL.storeS (H2 := [rowT pv A.length cp3 A, .cel b7 #[vI (lnT t i), vI (agT t i)] 83]) 1 hH17 rfl rfl rfl rfl rfl rfl sz83 rfl (Nat.le_of_ble_eq_true rfl) rfl rfl ?_
    intro w18 hH19
    refine WL.nil (WQ.then (hK15 _ _ _ (WC.seq fun K20 hK20 => WC.region ?_)))
    refine WL.z (v := .slice p2 u.length cp2) 18 ?_
    refine WL.y (v := vP b7 0) 19 (x_idxArr (0) (0) rfl rfl rfl Try.underlying83 sz3 (by omega) (by omega) (by omega)) ?_
    refine WL.y (v := vI (lnT t i)) 20 (x_load rfl rfl Try.underlying3 rfl (HP.cell hH19 1 rfl rfl)) ?_
    refine WL.call (f := 83) (args := #[.slice p2 u.length cp2, vI (lnT t i)]) 21 rfl (Nat.le_of_ble_eq_true rfl) rfl rfl (by kernel_rfl) ?_
    refine (find_any _ u _ _ (hU.below (HP.below hH19)) (lnT t i) (by omega)).mono ?_
    rintro e w21 ⟨k, fb, rfl, hk1, hk2, hk3, hfb, hb22⟩
    refine ⟨_, rfl, ?_⟩
    have hH23 : HP Tr w _ [rowT pv A.length cp3 A, .cel b7 #[vI (lnT t i), vI (agT t i)] 83] := HP.call hH19 hb22
    refine WL.z (v := .tuple #[vI (k : Int), .bool fb]) 17 ?_
    refine WL.z (v := vI (k : Int)) 22 ?_
    refine WL.z (v := .bool fb) 23 ?_
    refine WL.z (v := vI (k : Int)) 8 ?_
    refine WL.z (v := .bool fb) 9 ?_
    refine WL.nil (WQ.then (hK20 _ _ _ ?_))
    refine WC.sub (l' := [(0, .slice (some ⟨g, o, none⟩) t.length cp), (1, .slice p2 u.length cp2), (5, .slice pv A.length cp3), (7, vP b7 0), (8, vI (k : Int)), (9, .bool fb), (11, .slice (some ⟨g, o, none⟩) t.length cp), (12, vI (t.length : Int)), (13, vI (i : Int)), (14, .bool true)]) ⟨rfl, rfl, rfl, rfl, rfl, rfl, rfl, rfl, rfl, rfl, trivial⟩ ?_
    refine WC.seq fun K24 hK24 => WC.region ?_
    refine WL.z (v := .bool fb) 24 ?_
    refine WL.nil (WQ.then (hK24 _ _ _ ?_))
    rcases Bool.eq_false_or_eq_true (fb) with c_fb | c_fb
    ·
      rw [c_fb] at hfb
      have hq := of_decide_eq_true hfb.symm
      have hag : ageT u (lnT t i) = some (agT u k) := by rw [← hq.2, age_at hs hq.1]
      obtain ⟨g2, o2, rfl, hrow2⟩ := hU (by omega)
      refine WC.yes (congrArg (fun b => some (Value.bool b)) c_fb) ?_
      obtain ⟨i0, hi0, hz0, hz1, hz2⟩ := infoT
      refine WC.confH (γ := Nat × Option Addr × Nat × Unit) [(24, .bool fb), (0, .slice (some ⟨g, o, none⟩) t.length cp), (1, .slice (some ⟨g2, o2, none⟩) u.length cp2), (5, .slice pv A.length cp3), (7, vP b7 0), (8, vI (k : Int)), (9, .bool fb), (11, .slice (some ⟨g, o, none⟩) t.length cp), (12, vI (t.length : Int)), (13, vI (i : Int)), (14, .bool true)] (fun gy => [.slice pv A.length cp3, vP b7 0, vI (lnT t i), vP b7 1, vI (agT t i), .slice (some ⟨g2, o2, none⟩) u.length cp2, vI (k : Int), vP g2 (o2 + k * 2), vP g2 (o2 + k * 2 + 1), vI (agT u k), vI (max (agT t i) (agT u k)), .agg #[vI (lnT t i), vI (max (agT t i) (agT u k))], vS gy.1 1 1, .slice gy.2.1 ((A ++ [(lnT t i, max (agT t i) (agT u k))]).length) gy.2.2.1, .slice gy.2.1 ((A ++ [(lnT t i, max (agT t i) (agT u k))]).length) gy.2.2.1]) (fun gy D wz => HP Tr w wz ([(bif D 13 then rowT gy.2.1 (A ++ [(lnT t i, max (agT t i) (agT u k))]).length gy.2.2.1 (A ++ [(lnT t i, max (agT t i) (agT u k))]) else rowT pv A.length cp3 A), .cel b7 #[vI (lnT t i), vI (agT t i)] 83] ++ ((bif D 12 then [Ent.cel gy.1 #[vI (lnT t i), vI (max (agT t i) (agT u k))] 83] else []) ++ []))) (0, none, 0, ()) (by kernel_rfl) ⟨rfl, rfl, rfl, rfl, rfl, rfl, rfl, rfl, rfl, rfl, rfl, trivial⟩ (by kernel_rfl) (by kernel_rfl) (by kernel_rfl) (fun _ => rfl) (by kernel_rfl) (HP.drew hH23) ?_ ?_
      · refine AllOk.cons ?o0 (AllOk.cons ?o1 (AllOk.cons ?o2 (AllOk.cons ?o3 (AllOk.cons ?o4 (AllOk.cons ?o5 (AllOk.cons ?o6 (AllOk.cons ?o7 (AllOk.cons ?o8 (AllOk.cons ?o9 (AllOk.cons ?o10 (AllOk.cons ?o11 (AllOk.cons ?o12 (AllOk.cons ?o13 (AllOk.cons ?o14 (AllOk.nil _)))))))))))))))
        case o0 =>
          intro gy D wz hDi hdep hclo hW
          exact .inl ⟨rfl, rfl, .inl ⟨gy, wz, fun _ _ => rfl, by kernel_rfl, hW⟩⟩
        case o1 =>
          intro gy D wz hDi hdep hclo hW
          exact .inl ⟨rfl, rfl, .inl ⟨gy, wz, fun _ _ => rfl, x_idxArr (0) (0) rfl rfl rfl Try.underlying83 sz3 (by omega) (by omega) (by omega), hW⟩⟩
        case o2 =>
          intro gy D wz hDi hdep hclo hW
          exact .inl ⟨rfl, rfl, .inl ⟨gy, wz, fun _ _ => rfl, x_load rfl rfl Try.underlying3 rfl (HP.cell hW 1 rfl rfl), hW⟩⟩
        case o3 =>
          intro gy D wz hDi hdep hclo hW
          exact .inl ⟨rfl, rfl, .inl ⟨gy, wz, fun _ _ => rfl, x_idxArr (1) (1) rfl rfl rfl Try.underlying83 sz3 (by omega) (by omega) (by omega), hW⟩⟩
        case o4 =>
          intro gy D wz hDi hdep hclo hW
          exact .inl ⟨rfl, rfl, .inl ⟨gy, wz, fun _ _ => rfl, x_load rfl rfl Try.underlying3 rfl (HP.cell hW 1 rfl rfl), hW⟩⟩
        case o5 =>
          intro gy D wz hDi hdep hclo hW
          exact .inl ⟨rfl, rfl, .inl ⟨gy, wz, fun _ _ => rfl, by kernel_rfl, hW⟩⟩
        case o6 =>
          intro gy D wz hDi hdep hclo hW
          exact .inl ⟨rfl, rfl, .inl ⟨gy, wz, fun _ _ => rfl, by kernel_rfl, hW⟩⟩
        case o7 =>
          intro gy D wz hDi hdep hclo hW
          exact .inl ⟨rfl, rfl, .inl ⟨gy, wz, fun _ _ => rfl, x_idx (k) (o2 + k * 2) rfl rfl rfl Try.underlying88 sz83 (by omega) (hq.1) (by omega), hW⟩⟩
        case o8 =>
          intro gy D wz hDi hdep hclo hW
          exact .inl ⟨rfl, rfl, .inl ⟨gy, wz, fun _ _ => rfl, x_idxArr (1) (o2 + k * 2 + 1) rfl rfl rfl Try.underlying83 sz3 (by omega) (by omega) (by omega), hW⟩⟩
        case o9 =>
          intro gy D wz hDi hdep hclo hW
          exact .inl ⟨rfl, rfl, .inl ⟨gy, wz, fun _ _ => rfl, x_load rfl rfl Try.underlying3 rfl ((HP.oldRange hW trivial (hrow2 k (by omega))) 1 _ rfl), hW⟩⟩
        case o10 =>
          intro gy D wz hDi hdep hclo hW
          exact .inl ⟨rfl, rfl, .inl ⟨gy, wz, fun _ _ => rfl, x_max (Z := max (agT t i) (agT u k)) (t := 0) rfl rfl rfl (by simp only [Int.max_def]; split <;> split <;> omega), hW⟩⟩
        case o11 =>
          intro gy D wz hDi hdep hclo hW
          exact .inl ⟨rfl, rfl, .inl ⟨gy, wz, fun _ _ => rfl, by kernel_rfl, hW⟩⟩
        case o12 =>
          intro gy D wz hDi hdep hclo hW
          have d13 : D 13 = false := by
            cases h : D 13 with
            | false => rfl
            | true => exact absurd (hclo 13 _ rfl h ⟨12, .data⟩ (by simp) rfl) (by rw [hDi]; exact Bool.false_ne_true)
          have hW2 := hW
          try simp only [d13, hDi, cond_true, cond_false, List.append_nil, List.nil_append, List.cons_append] at hW2
          refine cf_alloc (c := #[vI (lnT t i), vI (max (agT t i) (agT u k))]) (T := 83) hW2 (fun b37 => vS b37 1 1) rfl rfl (by kernel_rfl) ?_
          rintro b37 w3 hA
          refine ⟨⟨b37, gy.2.1, gy.2.2.1, ()⟩, fun j hj => ?_, rfl, ?_⟩
          · match j, hj with
            | 0, hj => rfl
            | 1, hj => rfl
            | 2, hj => rfl
            | 3, hj => rfl
            | 4, hj => rfl
            | 5, hj => rfl
            | 6, hj => rfl
            | 7, hj => rfl
            | 8, hj => rfl
            | 9, hj => rfl
            | 10, hj => rfl
            | 11, hj => rfl
            | 12, hj => rw [hDi] at hj; cases hj
            | 13, hj => rfl
            | 14, hj => rfl
            | j + 15, _ => rfl
          · show HP Tr w w3 ([(bif D 13 then rowT gy.2.1 (A ++ [(lnT t i, max (agT t i) (agT u k))]).length gy.2.2.1 (A ++ [(lnT t i, max (agT t i) (agT u k))]) else rowT pv A.length cp3 A), .cel b7 #[vI (lnT t i), vI (agT t i)] 83] ++ ([Ent.cel b37 #[vI (lnT t i), vI (max (agT t i) (agT u k))] 83] ++ []))
            try simp only [d13, cond_true, cond_false, List.append_nil, List.nil_append, List.cons_append]
            exact hA
        case o13 =>
          intro gy D wz hDi hdep hclo hW
          have d12 : D 12 = true := hdep ⟨12, .data⟩ (by simp) rfl
          have d14 : D 14 = false := by
            cases h : D 14 with
            | false => rfl
            | true => exact absurd (hclo 14 _ rfl h ⟨13, .data⟩ (by simp) rfl) (by rw [hDi]; exact Bool.false_ne_true)
          have hW2 := hW
          try simp only [d12, hDi, cond_true, cond_false, List.append_nil, List.nil_append, List.cons_append] at hW2
          refine cf_append (news := [vI (lnT t i), vI (max (agT t i) (agT u k))]) 0 2 hW2 rfl rfl rfl rfl rfl Try.underlying88 hi0 hz0 hz1 hz2 rfl (by decide) rfl rfl rfl rfl (by simp [Value.oneCell']) (by unfold maxLen; omega) (by omega) ?_
          rintro v7 w3 hA
          obtain ⟨pv7, cp7, rfl⟩ := own_row (HP.get hA 0 rfl)
          have e7 : A.length + 1 = (A ++ [(lnT t i, max (agT t i) (agT u k))]).length := (len1 _ _).symm
          rw [tL_push, e7] at hA
          rw [e7]
          refine ⟨⟨gy.1, pv7, cp7, ()⟩, fun j hj => ?_, rfl, ?_⟩
          · match j, hj with
            | 0, hj => rfl
            | 1, hj => rfl
            | 2, hj => rfl
            | 3, hj => rfl
            | 4, hj => rfl
            | 5, hj => rfl
            | 6, hj => rfl
            | 7, hj => rfl
            | 8, hj => rfl
            | 9, hj => rfl
            | 10, hj => rfl
            | 11, hj => rfl
            | 12, hj => rfl
            | 13, hj => rw [hDi] at hj; cases hj
            | 14, hj => exact absurd hj (by rw [d14]; exact Bool.false_ne_true)
            | j + 15, _ => rfl
          · show HP Tr w w3 ([rowT pv7 (A ++ [(lnT t i, max (agT t i) (agT u k))]).length cp7 (A ++ [(lnT t i, max (agT t i) (agT u k))]), .cel b7 #[vI (lnT t i), vI (agT t i)] 83] ++ ((bif D 12 then [Ent.cel gy.1 #[vI (lnT t i), vI (max (agT t i) (agT u k))] 83] else []) ++ []))
            try simp only [d12, cond_true, cond_false, List.append_nil, List.nil_append, List.cons_append]
            exact hA
        case o14 =>
          intro gy D wz hDi hdep hclo hW
          exact .inl ⟨rfl, rfl, .inl ⟨gy, wz, fun _ _ => rfl, by kernel_rfl, hW⟩⟩
      rintro ⟨b37, pv7, cp7, gu⟩ D w28 hall hH29
      simp only [hall 12 (by kernel_rfl), hall 13 (by kernel_rfl), cond_true, List.append_nil, List.nil_append, List.cons_append] at hH29
      clear hall
      refine WQ.sub (l' := [(0, .slice (some ⟨g, o, none⟩) t.length cp), (1, .slice (some ⟨g2, o2, none⟩) u.length cp2), (5, .slice pv7 ((A ++ [(lnT t i, max (agT t i) (agT u k))]).length) cp7), (7, vP b7 0), (8, vI (k : Int)), (9, .bool fb), (11, .slice (some ⟨g, o, none⟩) t.length cp), (12, vI (t.length : Int)), (13, vI (i : Int)), (14, .bool true), (24, .bool fb)]) ⟨rfl, rfl, rfl, rfl, rfl, rfl, rfl, rfl, rfl, rfl, rfl, trivial⟩ ?_
      refine WQ.inNormal (WQ.then (hK14 _ _ _ (WC.region ?_)))
      refine WL.y (v := vI ((i + 1 : Nat) : Int)) 39 (x_add (Z := ((i + 1 : Nat) : Int)) rfl rfl rfl (by omega) (by omega) (by omega)) ?_
      refine WL.z (v := vI ((i + 1 : Nat) : Int)) 13 ?_
      refine WL.nil ?_
      refine WQ.sub (l' := [(0, .slice (some ⟨g, o, none⟩) t.length cp), (1, .slice (some ⟨g2, o2, none⟩) u.length cp2), (5, .slice pv7 ((A ++ [(lnT t i, max (agT t i) (agT u k))]).length) cp7), (11, .slice (some ⟨g, o, none⟩) t.length cp), (12, vI (t.length : Int)), (13, vI ((i + 1 : Nat) : Int))]) ⟨rfl, rfl, rfl, rfl, rfl, rfl, trivial⟩ ?_
      refine WQ.then (hK9 _ _ _ (by omega) ⟨i + 1, (A ++ [(lnT t i, max (agT t i) (agT u k))]), pv7, cp7, rfl, rfl, by omega, by rw [← hA, jM_drop (t := t) (u := u) (i := i) (by omega), jm_yes hag]; simp, by rw [len1]; omega, (HP.drop (HP.drop hH29 2) 1)⟩)
    ·
      rw [c_fb] at hfb
      have hag := find_none hs hk1 hk2 hk3 (of_decide_eq_false hfb.symm)
      refine WC.no (congrArg (fun b => some (Value.bool b)) c_fb) ?_
      refine WC.skip (WQ.inNormal (WQ.then (hK14 _ _ _ (WC.region ?_))))
      refine WL.y (v := vI ((i + 1 : Nat) : Int)) 39 (x_add (Z := ((i + 1 : Nat) : Int)) rfl rfl rfl (by omega) (by omega) (by omega)) ?_
      refine WL.z (v := vI ((i + 1 : Nat) : Int)) 13 ?_
      refine WL.nil ?_
      refine WQ.sub (l' := [(0, .slice (some ⟨g, o, none⟩) t.length cp), (1, .slice p2 u.length cp2), (5, .slice pv A.length cp3), (11, .slice (some ⟨g, o, none⟩) t.length cp), (12, vI (t.length : Int)), (13, vI ((i + 1 : Nat) : Int))]) ⟨rfl, rfl, rfl, rfl, rfl, rfl, trivial⟩ ?_
      refine WQ.then (hK9 _ _ _ (by omega) ⟨i + 1, A, pv, cp3, rfl, rfl, by omega, by rw [← hA, jM_drop (t := t) (u := u) (i := i) (by omega), jm_no hag]; simp, by omega, (HP.drop hH23 1)⟩)
  ·
    refine WL.y (v := .bool false) 14 (x_lss rfl rfl rfl (dF (h14))) ?_
    refine WL.nil (WQ.then (hK12 _ _ _ (WC.seq fun K30 hK30 => WC.no rfl (WC.exit (WQ.thenExit (WQ.thenExit ?_))))))
    refine WQ.inExit (WQ.then (hK6 _ _ _ (WC.seq fun K31 hK31 => ?_)))
    have hR : jM t u = A := by rw [← hA, List.drop_eq_nil_of_le (by omega)]; simp [jM]
    refine WC.region ?_
    refine WL.z (v := .slice pv A.length cp3) 40 ?_
    refine WL.z (v := .slice pv A.length cp3) 4 ?_
    refine WL.nil (WQ.then (hK31 _ _ _ (WC.ret ?_)))
    refine WQ.ret1 4 rfl rfl ?_
    exact ⟨pv, cp3, by rw [hR], by rw [hR]; exact HP.eq hH11 rfl⟩
end Ca
end Go.Proofs.Ytmjnakhpekbenaa
namespace Go.Proofs.Ytmjnakhpekbenaa
namespace Fl
/-- the tree of a list of instructions -/
inductive Tr where
  | nil : Tr
  | one (i : Nat) (r : Tr) : Tr
  | plain (i E : Nat) (b r : Tr) : Tr
  | alt (i a E : Nat) (b1 b2 r : Tr) : Tr
/-- the code's operations, and its shape: else, end, opener -/
structure Cd where
  c : Nat → Int
  e : Nat → Int
  d : Nat → Int
  o : Nat → Int
def Is (C : Cd) : Tr → Nat → Nat → Prop
  | .nil, k, j => k = j
  | .one i r, k, j => i = k ∧ ¬ (29 ≤ C.c k ∧ C.c k ≤ 35) ∧ Is C r (k + 1) j
  | .plain i E b r, k, j => i = k ∧ (29 ≤ C.c k ∧ C.c k ≤ 32) ∧ C.e k = -1 ∧ C.d k = (E : Int) ∧ C.o E = (k : Int) ∧ C.c E = 35 ∧ Is C b (k + 1) E ∧ Is C r (E + 1) j
  | .alt i a E b1 b2 r, k, j => i = k ∧ (C.c k = 29 ∨ C.c k = 33) ∧ C.e k = (a : Int) ∧ C.d k = (E : Int) ∧ C.o a = (k : Int) ∧ C.o E = (k : Int) ∧ C.c a = 34 ∧ C.c E = 35 ∧ Is C b1 (k + 1) a ∧ Is C b2 (a + 1) E ∧ Is C r (E + 1) j
theorem Is.le {C : Cd} : ∀ {R : Tr} {k j : Nat}, Is C R k j → k ≤ j
  | .nil, k, j, h => by have : k = j := h; omega
  | .one i r, k, j, h => by have := Is.le h.2.2; omega
  | .plain i E b r, k, j, h => by obtain ⟨_, _, _, _, _, _, h1, h2⟩ := h; have := Is.le h1; have := Is.le h2; omega
  | .alt i a E b1 b2 r, k, j, h => by obtain ⟨_, _, _, _, _, _, _, _, h1, h2, h3⟩ := h; have := Is.le h1; have := Is.le h2; have := Is.le h3; omega
/-- what is done with states -/
structure Ops (T : Type) where
  J : T → T → T
  F : Nat → T → T
  mu : T → Nat
/-- states that meet -/
structure Lat (T : Type) extends Ops T where
  ok : T → Prop
  le : T → T → Prop
  okJ : ∀ a b, ok a → ok b → ok (J a b)
  okF : ∀ i a, i < 1000 → ok a → ok (F i a)
  rfl : ∀ a, ok a → le a a
  trans : ∀ a b c, ok a → ok b → ok c → le a b → le b c → le a c
  anti : ∀ a b, ok a → ok b → le a b → le b a → a = b
  left : ∀ a b, ok a → ok b → le a (J a b)
  right : ∀ a b, ok a → ok b → le b (J a b)
  lub : ∀ a b c, ok a → ok b → ok c → le a c → le b c → le (J a b) c
  mono : ∀ i a b, i < 1000 → ok a → ok b → le a b → le (F i a) (F i b)
  lt : ∀ a b, ok a → ok b → le a b → a ≠ b → mu b < mu a
variable {T : Type}
section
variable (O : Ops T) (C : Cd)
abbrev Ah (T : Type) := Nat → T
def up (ah : Ah T) (i : Nat) (t : T) : Ah T := fun j => if j = i then t else ah j
def iter [DecidableEq T] (f : T → Ah T → T × Ah T) : Nat → T → Ah T → T × Ah T
  | 0, t, ah => f t ah
  | k + 1, t, ah => if O.J t (f t ah).1 = t then f t ah else iter f k (O.J t (f t ah).1) (f t ah).2
def last (f : T → Ah T → T × Ah T) (q : Nat) (t : T) (ah : Ah T) : T × Ah T := (O.F q (f t ah).1, up (f t ah).2 q (f t ah).1)
def fold (ah : Ah T) : Nat → Nat → T → T
  | _, 0, x => x
  | i, m + 1, x => fold ah (i + 1) m (O.J x (O.F i (ah i)))
def sol [DecidableEq T] : Tr → T → Ah T → T × Ah T
  | .nil, t, ah => (t, ah)
  | .one i r, t, ah => sol r (O.F i t) (up ah i t)
  | .plain i E b r, t, ah =>
    if C.c i = 29 then
      let x := sol b (O.F i t) (up ah i t)
      sol r (O.F E (O.J (O.F i t) x.1)) (up x.2 E (O.J (O.F i t) x.1))
    else if C.c i = 30 then
      let x := iter O (last O (sol b) E) (O.mu (O.F i t)) (O.F i t) (up ah i t)
      sol r (O.J (O.F i t) x.1) x.2
    else
      let x := last O (sol b) E (O.F i t) (up ah i t)
      sol r x.1 x.2
  | .alt i a E b1 b2 r, t, ah =>
    let x := last O (sol b1) a (O.F i t) (up ah i t)
    let y := last O (sol b2) E (if C.c i = 29 then O.F i t else fold O x.2 (i + 1) (a - (i + 1)) (O.F i t)) x.2
    sol r (O.J x.1 y.1) y.2
end
variable (L : Lat T) (C : Cd)
/-- the state at a place, or behind all -/
def V (x : T × Ah T) (j v : Nat) : T := if v < j then x.2 v else x.1
variable {L} {C}
end Fl
end Go.Proofs.Ytmjnakhpekbenaa
namespace Go.Proofs.Ytmjnakhpekbenaa
namespace Ca
theorem sT_uniq {t : List T2} (h : sT t) {p q : T2} (hp : p ∈ t) (hq : q ∈ t) (e : p.1 = q.1) : p = q := by
  obtain ⟨i, hi, rfl⟩ := List.mem_iff_getElem.1 hp
  obtain ⟨j, hj, rfl⟩ := List.mem_iff_getElem.1 hq
  have h2 := List.pairwise_iff_getElem.1 h
  rcases Nat.lt_trichotomy i j with q1 | q1 | q1
  · have := h2 i j hi hj q1; omega
  · subst q1; rfl
  · have := h2 j i hj hi q1; omega
theorem mem_age {t : List T2} (h : sT t) {z a : Int} : (z, a) ∈ t ↔ ageT t z = some a := by
  unfold ageT
  constructor
  · intro hm
    cases hf : t.find? (fun p => p.1 == z) with
    | none => have := List.find?_eq_none.1 hf _ hm; simp at this
    | some q =>
      have h1 := List.mem_of_find?_eq_some hf
      have h2 := List.find?_some hf
      have h3 : q.1 = z := by simpa using h2
      rw [sT_uniq h h1 hm h3]; rfl
  · intro he
    obtain ⟨q, hq, rfl⟩ := Option.map_eq_some_iff.1 he
    have h1 := List.mem_of_find?_eq_some hq
    have h2 := List.find?_some hq
    have h3 : q.1 = z := by simpa using h2
    subst h3; exact h1
theorem sT_ext : ∀ {t u : List T2}, sT t → sT u → (∀ p, p ∈ t ↔ p ∈ u) → t = u
  | [], [], _, _, _ => rfl
  | [], q :: v, _, _, h => by have := (h q).2 (by simp); cases this
  | p :: r, [], _, _, h => by have := (h p).1 (by simp); cases this
  | p :: r, q :: v, ht, hu, h => by
    have t1 := List.pairwise_cons.1 ht
    have u1 := List.pairwise_cons.1 hu
    have e : p = q := by
      rcases List.mem_cons.1 ((h p).1 (by simp)) with e | hp
      · exact e
      · rcases List.mem_cons.1 ((h q).2 (by simp)) with e | hq
        · exact e.symm
        · have := t1.1 q hq; have := u1.1 p hp; omega
    subst e
    rw [sT_ext t1.2 u1.2 fun x => ⟨fun hx => ?_, fun hx => ?_⟩]
    · rcases List.mem_cons.1 ((h x).1 (List.mem_cons_of_mem _ hx)) with e | hx2
      · have := t1.1 x hx; rw [e] at this; omega
      · exact hx2
    · rcases List.mem_cons.1 ((h x).2 (List.mem_cons_of_mem _ hx)) with e | hx2
      · have := u1.1 x hx; rw [e] at this; omega
      · exact hx2
theorem age_ext {t u : List T2} (ht : sT t) (hu : sT u) (h : ∀ z, ageT t z = ageT u z) : t = u :=
  sT_ext ht hu fun p => by
    obtain ⟨z, a⟩ := p
    rw [mem_age ht, mem_age hu, h]
theorem VT_mk {s y l m : Int} {t : List T2} (hg : vG s y l m = true) (hs : sT t) (hm : ∀ p ∈ t, (0 ≤ p.1 ∧ p.1 ≤ 999) ∧ 0 ≤ p.2 ∧ p.2 ≤ y - 1) : VT s y l m t := by
  obtain ⟨⟨a1, a2⟩, ⟨b1, b2⟩, ⟨c1, c2⟩, d1, d2⟩ := vG_iff.1 hg
  have hln : ∀ i, i < t.length → 0 ≤ lnT t i ∧ lnT t i ≤ 999 := fun i hi => by rw [lnT_get hi]; exact (hm _ (List.getElem_mem hi)).1
  have hge : ∀ i, i < t.length → (i : Int) ≤ lnT t i := by
    intro i
    induction i with
    | zero => intro h0; exact (hln 0 h0).1
    | succ i ih => intro h1; have := ih (by omega); have := sT_lt hs (show i < i + 1 by omega) h1; omega
  refine ⟨a1, a2, b1, b2, c1, c2, d1, d2, fun i hi => by rw [agT_get hi]; exact (hm _ (List.getElem_mem hi)).2, hln, hs, ?_⟩
  by_cases h0 : t.length = 0
  · omega
  · have := hge (t.length - 1) (by omega); have := hln (t.length - 1) (by omega); omega
theorem VT.mem {s y l m : Int} {t : List T2} (h : VT s y l m t) {p : T2} (hp : p ∈ t) : (0 ≤ p.1 ∧ p.1 ≤ 999) ∧ 0 ≤ p.2 ∧ p.2 ≤ y - 1 := by
  obtain ⟨i, hi, rfl⟩ := List.mem_iff_getElem.1 hp
  have h1 := h.ln i hi
  have h2 := h.ag i hi
  rw [lnT_get hi] at h1
  rw [agT_get hi] at h2
  exact ⟨h1, h2⟩
theorem VT.geo {s y l m : Int} {t : List T2} (h : VT s y l m t) : vG s y l m = true := vG_iff.2 ⟨⟨h.s1, h.s2⟩, ⟨h.y1, h.y2⟩, ⟨h.l1, h.l2⟩, h.m1, h.m2⟩
theorem VT.nil {s y l m : Int} (hg : vG s y l m = true) : VT s y l m [] := VT_mk hg List.Pairwise.nil fun p hp => by cases hp
theorem VT.age {s y l m : Int} {t : List T2} (h : VT s y l m t) {z a : Int} (ha : ageT t z = some a) : (0 ≤ z ∧ z ≤ 999) ∧ 0 ≤ a ∧ a ≤ y - 1 := h.mem ((mem_age h.so).2 ha)
/-- what touching says of a line -/
def bmp (d a : Int) : Int := if a < d then a + 1 else a
def agS (s y x d z a : Int) : Option Int := if z.tmod s = x.tmod s then (if bmp d a < y then some (bmp d a) else none) else (if a < y then some a else none)
def agA (s y x d z : Int) (o : Option Int) : Option Int := if z = x then some 0 else o.bind (agS s y x d z)
theorem mem_opt {c : Prop} [Decidable c] {z b u v : Int} : (z, b) ∈ (if c then [(u, v)] else ([] : List T2)) ↔ u = z ∧ (if c then some v else none) = some b := by
  by_cases h : c
  · rw [if_pos h, if_pos h, List.mem_singleton]
    exact ⟨fun e => by cases e; exact ⟨rfl, rfl⟩, fun ⟨e1, e2⟩ => by cases e1; cases e2; rfl⟩
  · rw [if_neg h, if_neg h]
    exact ⟨(fun e => by cases e), (fun e => by cases e.2)⟩
theorem mem_stE {s y x d : Int} {q : T2} {z b : Int} : (z, b) ∈ stE s y x d q ↔ q.1 = z ∧ z ≠ x ∧ agS s y x d z q.2 = some b := by
  by_cases h1 : q.1 = x
  · have e : stE s y x d q = [] := by unfold stE; rw [if_pos h1]
    rw [e]
    constructor
    · intro h; cases h
    · rintro ⟨e, h2, _⟩; exact absurd (e ▸ h1) h2
  · by_cases h2 : q.1.tmod s = x.tmod s
    · have e : stE s y x d q = if bmp d q.2 < y then [(q.1, bmp d q.2)] else [] := by unfold stE; rw [if_neg h1, if_pos h2]; rfl
      rw [e, mem_opt]
      constructor
      · rintro ⟨rfl, h⟩; exact ⟨rfl, h1, by unfold agS; rw [if_pos h2]; exact h⟩
      · rintro ⟨rfl, _, h⟩; exact ⟨rfl, by unfold agS at h; rw [if_pos h2] at h; exact h⟩
    · have e : stE s y x d q = if q.2 < y then [(q.1, q.2)] else [] := by unfold stE; rw [if_neg h1, if_neg h2]
      rw [e, mem_opt]
      constructor
      · rintro ⟨rfl, h⟩; exact ⟨rfl, h1, by unfold agS; rw [if_neg h2]; exact h⟩
      · rintro ⟨rfl, _, h⟩; exact ⟨rfl, by unfold agS at h; rw [if_neg h2] at h; exact h⟩
theorem mem_rL {s y x d : Int} {t : List T2} {z b : Int} : (z, b) ∈ rL s y x d t ↔ (z = x ∧ b = 0) ∨ (z ≠ x ∧ ∃ a, (z, a) ∈ t ∧ agS s y x d z a = some b) := by
  rw [(rL_perm t).mem_iff, List.mem_append, List.mem_flatMap, List.mem_singleton]
  constructor
  · rintro (⟨⟨q1, q2⟩, hq, h⟩ | h)
    · obtain ⟨rfl, h2, h3⟩ := mem_stE.1 h
      exact .inr ⟨h2, q2, hq, h3⟩
    · exact .inl (Prod.mk.inj h)
  · rintro (⟨rfl, rfl⟩ | ⟨h2, a, ha, h3⟩)
    · exact .inr rfl
    · exact .inl ⟨(z, a), ha, mem_stE.2 ⟨rfl, h2, h3⟩⟩
theorem age_rL {s y x d : Int} {t : List T2} (h : sT t) (z : Int) : ageT (rL s y x d t) z = agA s y x d z (ageT t z) := by
  have hs : sT (rL s y x d t) := rL_sorted (s := s) (y := y) (x := x) (d := d) h
  unfold agA
  by_cases e : z = x
  · rw [if_pos e, ← mem_age hs, mem_rL]; exact .inl ⟨e, rfl⟩
  · rw [if_neg e]
    cases ha : ageT t z with
    | none =>
      cases hb : ageT (rL s y x d t) z with
      | none => rfl
      | some b =>
        rcases mem_rL.1 ((mem_age hs).2 hb) with ⟨e2, _⟩ | ⟨_, a, ha2, h3⟩
        · exact absurd e2 e
        · rw [(mem_age h).1 ha2] at ha; cases ha
    | some a =>
      show _ = agS s y x d z a
      cases hz : agS s y x d z a with
      | some b => rw [← mem_age hs, mem_rL]; exact .inr ⟨e, a, (mem_age h).2 ha, hz⟩
      | none =>
        cases hb : ageT (rL s y x d t) z with
        | none => rfl
        | some b =>
          rcases mem_rL.1 ((mem_age hs).2 hb) with ⟨e2, _⟩ | ⟨_, a2, ha2, h3⟩
          · exact absurd e2 e
          · rw [(mem_age h).1 ha2] at ha; cases ha; rw [hz] at h3; cases h3
theorem agS_bd {s y x d z a b : Int} (h : agS s y x d z a = some b) (ha : 0 ≤ a) : a ≤ b ∧ b ≤ a + 1 ∧ b ≤ y - 1 := by
  have hb : a ≤ bmp d a ∧ bmp d a ≤ a + 1 := by unfold bmp; split <;> omega
  unfold agS at h
  generalize bmp d a = e at h hb
  split at h
  · split at h
    · cases h; omega
    · cases h
  · split at h
    · cases h; omega
    · cases h
theorem agA_bd {s y x d z : Int} {o : Option Int} {b : Int} (hy : 1 ≤ y) (h : agA s y x d z o = some b) (ho : ∀ a, o = some a → 0 ≤ a) : 0 ≤ b ∧ b ≤ y - 1 ∧ (z = x ∨ ∃ a, o = some a) := by
  unfold agA at h
  split at h
  · next e => cases h; exact ⟨by omega, by omega, .inl e⟩
  · cases o with
    | none => cases h
    | some a =>
      have h0 := ho a rfl
      have := agS_bd (show agS s y x d z a = some b from h) h0
      exact ⟨by omega, by omega, .inr ⟨a, rfl⟩⟩
theorem VT_tc {s y l m x k : Int} {t : List T2} (h : VT s y l m t) (hx : 0 ≤ x ∧ x ≤ 999) : VT s y l m (tcH s y x k t) := by
  have hs : sT (tcH s y x k t) := rL_sorted h.so
  refine VT_mk h.geo hs fun p hp => ?_
  obtain ⟨z, b⟩ := p
  have ha := (mem_age hs).1 hp
  unfold tcH at ha
  rw [age_rL h.so] at ha
  obtain ⟨q1, q2, q3⟩ := agA_bd h.y1 ha fun a e => (h.age e).2.1
  refine ⟨?_, q1, q2⟩
  rcases q3 with e | ⟨a, e⟩
  · show 0 ≤ z ∧ z ≤ 999; omega
  · exact (h.age e).1
/-! Joins. -/
theorem mem_jM {t u : List T2} {z b : Int} : (z, b) ∈ jM t u ↔ ∃ a c, (z, a) ∈ t ∧ ageT u z = some c ∧ b = max a c := by
  unfold jM
  rw [List.mem_flatMap]
  constructor
  · rintro ⟨⟨q1, q2⟩, hq, h⟩
    unfold jm1 at h
    cases hc : ageT u q1 with
    | none => simp only [hc] at h; cases h
    | some c =>
      simp only [hc] at h
      obtain ⟨rfl, rfl⟩ := Prod.mk.inj (List.mem_singleton.1 h)
      exact ⟨q2, c, hq, hc, rfl⟩
  · rintro ⟨a, c, ha, hc, rfl⟩
    exact ⟨(z, a), ha, by unfold jm1; simp [hc]⟩
theorem jM_sorted {t u : List T2} (h : sT t) : sT (jM t u) := by
  induction t with
  | nil => exact List.Pairwise.nil
  | cons p r ih =>
    obtain ⟨h1, h2⟩ := List.pairwise_cons.1 h
    have e : jM (p :: r) u = jm1 u p ++ jM r u := rfl
    have hx : ∀ a ∈ jm1 u p, a.1 = p.1 := fun a ha => by
      unfold jm1 at ha
      split at ha
      · rw [List.mem_singleton.1 ha]
      · cases ha
    rw [e]
    refine List.pairwise_append.2 ⟨?_, ih h2, fun a ha b hb => ?_⟩
    · unfold jm1; split
      · exact List.pairwise_singleton _ _
      · exact List.Pairwise.nil
    · obtain ⟨z, c⟩ := b
      obtain ⟨a', c', ha', _, _⟩ := mem_jM.1 hb
      have := h1 _ ha'
      rw [hx a ha]; exact this
theorem VT_jM {s y l m : Int} {t u : List T2} (ht : VT s y l m t) (hu : VT s y l m u) : VT s y l m (jM t u) := by
  refine VT_mk ht.geo (jM_sorted ht.so) fun p hp => ?_
  obtain ⟨z, b⟩ := p
  obtain ⟨a, c, h1, h2, rfl⟩ := mem_jM.1 hp
  have q1 := ht.mem h1
  have q2 := hu.age h2
  simp only [] at q1
  refine ⟨q1.1, ?_, ?_⟩
  · show 0 ≤ max a c; omega
  · show max a c ≤ y - 1; omega
theorem mem_rJ (may : Bool) : ∀ (t u : List T2), sT t → sT u → (∀ z b, (z, b) ∈ rJ may t u ↔ ((∃ a c, (z, a) ∈ t ∧ (z, c) ∈ u ∧ b = bif may then min a c else max a c) ∨ (may = true ∧ (z, b) ∈ t ∧ ∀ c, (z, c) ∉ u) ∨ (may = true ∧ (z, b) ∈ u ∧ ∀ a, (z, a) ∉ t))) ∧ sT (rJ may t u) ∧ (∀ p ∈ rJ may t u, (∃ a, (p.1, a) ∈ t) ∨ ∃ c, (p.1, c) ∈ u)
  | [], [], _, _ => by
    rw [rJ]
    exact ⟨fun z b => by simp, List.Pairwise.nil, fun p hp => by cases hp⟩
  | p :: r, [], ht, hu => by
    obtain ⟨h1, h2⟩ := List.pairwise_cons.1 ht
    obtain ⟨i1, i2, i3⟩ := mem_rJ may r [] h2 hu
    rw [rJ]
    cases may with
    | false =>
      simp only [cond_false, List.nil_append] at i1 i2 i3 ⊢
      refine ⟨fun z b => by rw [i1]; simp, i2, fun q hq => ?_⟩
      rcases i3 q hq with ⟨a, ha⟩ | ⟨c, hc⟩
      · exact .inl ⟨a, List.mem_cons_of_mem _ ha⟩
      · cases hc
    | true =>
      simp only [cond_true] at i1 i2 i3 ⊢
      refine ⟨fun z b => by rw [List.mem_append, i1]; simp, List.pairwise_append.2 ⟨List.pairwise_singleton _ _, i2, fun a ha b hb => ?_⟩, fun q hq => ?_⟩
      · obtain rfl := List.mem_singleton.1 ha
        rcases i3 b hb with ⟨a', ha'⟩ | ⟨c, hc⟩
        · exact h1 (b.1, a') ha'
        · cases hc
      · rcases List.mem_append.1 hq with hq | hq
        · obtain rfl := List.mem_singleton.1 hq
          exact .inl ⟨q.2, by simp⟩
        · rcases i3 q hq with ⟨a, ha⟩ | ⟨c, hc⟩
          · exact .inl ⟨a, List.mem_cons_of_mem _ ha⟩
          · cases hc
  | [], q :: v, ht, hu => by
    obtain ⟨h1, h2⟩ := List.pairwise_cons.1 hu
    obtain ⟨i1, i2, i3⟩ := mem_rJ may [] v ht h2
    rw [rJ]
    cases may with
    | false =>
      simp only [cond_false, List.nil_append] at i1 i2 i3 ⊢
      refine ⟨fun z b => by rw [i1]; simp, i2, fun x hx => ?_⟩
      rcases i3 x hx with ⟨a, ha⟩ | ⟨c, hc⟩
      · cases ha
      · exact .inr ⟨c, List.mem_cons_of_mem _ hc⟩
    | true =>
      simp only [cond_true] at i1 i2 i3 ⊢
      refine ⟨fun z b => by rw [List.mem_append, i1]; simp, List.pairwise_append.2 ⟨List.pairwise_singleton _ _, i2, fun a ha b hb => ?_⟩, fun x hx => ?_⟩
      · obtain rfl := List.mem_singleton.1 ha
        rcases i3 b hb with ⟨a', ha'⟩ | ⟨c, hc⟩
        · cases ha'
        · exact h1 (b.1, c) hc
      · rcases List.mem_append.1 hx with hx | hx
        · obtain rfl := List.mem_singleton.1 hx
          exact .inr ⟨x.2, by simp⟩
        · rcases i3 x hx with ⟨a, ha⟩ | ⟨c, hc⟩
          · cases ha
          · exact .inr ⟨c, List.mem_cons_of_mem _ hc⟩
  | p :: r, q :: v, ht, hu => by
    obtain ⟨h1, h2⟩ := List.pairwise_cons.1 ht
    obtain ⟨g1, g2⟩ := List.pairwise_cons.1 hu
    rw [rJ]
    by_cases e1 : p.1 < q.1
    · rw [if_pos e1]
      obtain ⟨i1, i2, i3⟩ := mem_rJ may r (q :: v) h2 hu
      have np : ∀ c, (p.1, c) ∉ q :: v := fun c hc => by
        rcases List.mem_cons.1 hc with e | hc
        · rw [← e] at e1; exact absurd e1 (Int.lt_irrefl _)
        · have := g1 _ hc; simp only [] at this; omega
      have nr : ∀ a, (p.1, a) ∉ r := fun a ha => by have := h1 _ ha; simp only [] at this; omega
      have i4 : ∀ x ∈ rJ may r (q :: v), p.1 < x.1 := fun x hx => by
        rcases i3 x hx with ⟨a, ha⟩ | ⟨c, hc⟩
        · exact h1 (x.1, a) ha
        · rcases List.mem_cons.1 hc with e | hc
          · rw [← e] at e1; exact e1
          · have := g1 _ hc; simp only [] at this; omega
      refine ⟨fun z b => ?_, ?_, fun x hx => ?_⟩
      · rw [List.mem_append, i1]
        constructor
        · rintro (h | ⟨a, c, ha, hc, hb⟩ | ⟨hm, hb, hc⟩ | ⟨hm, hb, ha⟩)
          · cases may with
            | false => cases h
            | true =>
              have e := List.mem_singleton.1 h
              have e' : z = p.1 := by rw [← e]
              refine .inr (.inl ⟨rfl, by rw [e]; simp, fun c hc => np c (e' ▸ hc)⟩)
          · exact .inl ⟨a, c, List.mem_cons_of_mem _ ha, hc, hb⟩
          · exact .inr (.inl ⟨hm, List.mem_cons_of_mem _ hb, hc⟩)
          · refine .inr (.inr ⟨hm, hb, fun a ha' => ?_⟩)
            rcases List.mem_cons.1 ha' with e | ha'
            · have e' : z = p.1 := by rw [← e]
              exact np b (e' ▸ hb)
            · exact ha a ha'
        · rintro (⟨a, c, ha, hc, hb⟩ | ⟨hm, hb, hc⟩ | ⟨hm, hb, ha⟩)
          · rcases List.mem_cons.1 ha with e | ha
            · have e' : z = p.1 := by rw [← e]
              exact absurd (e' ▸ hc) (np c)
            · exact .inr (.inl ⟨a, c, ha, hc, hb⟩)
          · rcases List.mem_cons.1 hb with e | hb
            · refine .inl ?_
              rw [hm, e]; simp
            · exact .inr (.inr (.inl ⟨hm, hb, hc⟩))
          · exact .inr (.inr (.inr ⟨hm, hb, fun a ha' => ha a (List.mem_cons_of_mem _ ha')⟩))
      · refine List.pairwise_append.2 ⟨?_, i2, fun a ha b hb => ?_⟩
        · cases may
          · exact List.Pairwise.nil
          · exact List.pairwise_singleton _ _
        · cases may with
          | false => cases ha
          | true => rw [List.mem_singleton.1 ha]; exact i4 b hb
      · rcases List.mem_append.1 hx with h | h
        · cases may with
          | false => cases h
          | true => rw [List.mem_singleton.1 h]; exact .inl ⟨p.2, by simp⟩
        · rcases i3 x h with ⟨a, ha⟩ | hc
          · exact .inl ⟨a, List.mem_cons_of_mem _ ha⟩
          · exact .inr hc
    · rw [if_neg e1]
      by_cases e2 : q.1 < p.1
      · rw [if_pos e2]
        obtain ⟨i1, i2, i3⟩ := mem_rJ may (p :: r) v ht g2
        have nq : ∀ a, (q.1, a) ∉ p :: r := fun a ha => by
          rcases List.mem_cons.1 ha with e | ha
          · rw [← e] at e2; exact absurd e2 (Int.lt_irrefl _)
          · have := h1 _ ha; simp only [] at this; omega
        have i4 : ∀ x ∈ rJ may (p :: r) v, q.1 < x.1 := fun x hx => by
          rcases i3 x hx with ⟨a, ha⟩ | ⟨c, hc⟩
          · rcases List.mem_cons.1 ha with e | ha
            · rw [← e] at e2; exact e2
            · have := h1 _ ha; simp only [] at this; omega
          · exact g1 (x.1, c) hc
        refine ⟨fun z b => ?_, ?_, fun x hx => ?_⟩
        · rw [List.mem_append, i1]
          constructor
          · rintro (h | ⟨a, c, ha, hc, hb⟩ | ⟨hm, hb, hc⟩ | ⟨hm, hb, ha⟩)
            · cases may with
              | false => cases h
              | true =>
                have e := List.mem_singleton.1 h
                have e' : z = q.1 := by rw [← e]
                refine .inr (.inr ⟨rfl, by rw [e]; simp, fun a ha => nq a (e' ▸ ha)⟩)
            · exact .inl ⟨a, c, ha, List.mem_cons_of_mem _ hc, hb⟩
            · refine .inr (.inl ⟨hm, hb, fun c hc' => ?_⟩)
              rcases List.mem_cons.1 hc' with e | hc'
              · have e' : z = q.1 := by rw [← e]
                exact nq b (e' ▸ hb)
              · exact hc c hc'
            · exact .inr (.inr ⟨hm, List.mem_cons_of_mem _ hb, ha⟩)
          · rintro (⟨a, c, ha, hc, hb⟩ | ⟨hm, hb, hc⟩ | ⟨hm, hb, ha⟩)
            · rcases List.mem_cons.1 hc with e | hc
              · have e' : z = q.1 := by rw [← e]
                exact absurd (e' ▸ ha) (nq a)
              · exact .inr (.inl ⟨a, c, ha, hc, hb⟩)
            · exact .inr (.inr (.inl ⟨hm, hb, fun c hc' => hc c (List.mem_cons_of_mem _ hc')⟩))
            · rcases List.mem_cons.1 hb with e | hb
              · refine .inl ?_
                rw [hm, e]; simp
              · exact .inr (.inr (.inr ⟨hm, hb, ha⟩))
        · refine List.pairwise_append.2 ⟨?_, i2, fun a ha b hb => ?_⟩
          · cases may
            · exact List.Pairwise.nil
            · exact List.pairwise_singleton _ _
          · cases may with
            | false => cases ha
            | true => rw [List.mem_singleton.1 ha]; exact i4 b hb
        · rcases List.mem_append.1 hx with h | h
          · cases may with
            | false => cases h
            | true => rw [List.mem_singleton.1 h]; exact .inr ⟨q.2, by simp⟩
          · rcases i3 x h with ha | ⟨c, hc⟩
            · exact .inl ha
            · exact .inr ⟨c, List.mem_cons_of_mem _ hc⟩
      · rw [if_neg e2]
        have e : p.1 = q.1 := by omega
        obtain ⟨i1, i2, i3⟩ := mem_rJ may r v h2 g2
        have nr : ∀ a, (p.1, a) ∉ r := fun a ha => by have := h1 _ ha; simp only [] at this; omega
        have nv : ∀ c, (p.1, c) ∉ v := fun c hc => by have := g1 _ hc; simp only [] at this; omega
        have i4 : ∀ x ∈ rJ may r v, p.1 < x.1 := fun x hx => by
          rcases i3 x hx with ⟨a, ha⟩ | ⟨c, hc⟩
          · exact h1 (x.1, a) ha
          · have := g1 _ hc; simp only [] at this; omega
        refine ⟨fun z b => ?_, List.pairwise_cons.2 ⟨i4, i2⟩, fun x hx => ?_⟩
        · rw [List.mem_cons, i1]
          constructor
          · rintro (h | ⟨a, c, ha, hc, hb⟩ | ⟨hm, hb, hc⟩ | ⟨hm, hb, ha⟩)
            · obtain ⟨rfl, rfl⟩ := Prod.mk.inj h
              exact .inl ⟨p.2, q.2, by simp, by rw [e]; simp, rfl⟩
            · exact .inl ⟨a, c, List.mem_cons_of_mem _ ha, List.mem_cons_of_mem _ hc, hb⟩
            · refine .inr (.inl ⟨hm, List.mem_cons_of_mem _ hb, fun c hc' => ?_⟩)
              rcases List.mem_cons.1 hc' with e' | hc'
              · have e3 : z = p.1 := by rw [e, ← e']
                exact nr b (e3 ▸ hb)
              · exact hc c hc'
            · refine .inr (.inr ⟨hm, List.mem_cons_of_mem _ hb, fun a ha' => ?_⟩)
              rcases List.mem_cons.1 ha' with e' | ha'
              · have e3 : z = p.1 := by rw [← e']
                exact nv b (e3 ▸ hb)
              · exact ha a ha'
          · rintro (⟨a, c, ha, hc, hb⟩ | ⟨hm, hb, hc⟩ | ⟨hm, hb, ha⟩)
            · rcases List.mem_cons.1 ha with e' | ha
              · have e3 : z = p.1 := by rw [← e']
                subst e3
                rcases List.mem_cons.1 hc with e4 | hc
                · left
                  rw [hb, ← e', ← e4]
                · exact absurd hc (nv c)
              · rcases List.mem_cons.1 hc with e4 | hc
                · have e3 : z = p.1 := by rw [e, ← e4]
                  exact absurd (e3 ▸ ha) (nr a)
                · exact .inr (.inl ⟨a, c, ha, hc, hb⟩)
            · rcases List.mem_cons.1 hb with e' | hb
              · have e3 : z = q.1 := by rw [← e, ← e']
                exact absurd (by rw [e3]; simp) (hc q.2)
              · exact .inr (.inr (.inl ⟨hm, hb, fun c hc' => hc c (List.mem_cons_of_mem _ hc')⟩))
            · rcases List.mem_cons.1 hb with e' | hb
              · have e3 : z = p.1 := by rw [e, ← e']
                exact absurd (by rw [e3]; simp) (ha p.2)
              · exact .inr (.inr (.inr ⟨hm, hb, fun a ha' => ha a (List.mem_cons_of_mem _ ha')⟩))
        · rcases List.mem_cons.1 hx with rfl | hx
          · exact .inl ⟨p.2, by simp⟩
          · rcases i3 x hx with ⟨a, ha⟩ | ⟨c, hc⟩
            · exact .inl ⟨a, List.mem_cons_of_mem _ ha⟩
            · exact .inr ⟨c, List.mem_cons_of_mem _ hc⟩
termination_by t u => t.length + u.length
theorem jM_eq {t u : List T2} (ht : sT t) (hu : sT u) : jM t u = rJ false t u := by
  obtain ⟨h1, h2, h3⟩ := mem_rJ false t u ht hu
  refine sT_ext (jM_sorted ht) h2 fun p => ?_
  obtain ⟨z, b⟩ := p
  rw [mem_jM, h1]
  constructor
  · rintro ⟨a, c, ha, hc, hb⟩
    exact .inl ⟨a, c, ha, (mem_age hu).2 hc, hb⟩
  · rintro (⟨a, c, ha, hc, hb⟩ | ⟨h, _⟩ | ⟨h, _⟩)
    · exact ⟨a, c, ha, (mem_age hu).1 hc, hb⟩
    · cases h
    · cases h
end Ca
end Go.Proofs.Ytmjnakhpekbenaa
namespace Go.Proofs.Ytmjnakhpekbenaa
open Fw
namespace Ca
def mO : Option Int → Option Int → Option Int
  | some a, some c => some (min a c)
  | some a, none => some a
  | none, o => o
theorem mO_assoc (a b c : Option Int) : mO (mO a b) c = mO a (mO b c) := by
  cases a <;> cases b <;> cases c <;> simp [mO, Int.min_assoc]
theorem age_rJ {t u : List T2} (ht : sT t) (hu : sT u) (z : Int) : ageT (rJ true t u) z = mO (ageT t z) (ageT u z) := by
  obtain ⟨h1, h2, _⟩ := mem_rJ true t u ht hu
  have k1 : ∀ a, (z, a) ∈ t ↔ ageT t z = some a := fun a => mem_age ht
  have k2 : ∀ a, (z, a) ∈ u ↔ ageT u z = some a := fun a => mem_age hu
  have hx : ∀ b, ageT (rJ true t u) z = some b ↔ mO (ageT t z) (ageT u z) = some b := fun b => by
    rw [← mem_age h2, h1]
    simp only [k1, k2]
    cases e1 : ageT t z <;> cases e2 : ageT u z <;> simp [mO, eq_comm]
  cases e : mO (ageT t z) (ageT u z) with
  | none =>
    cases e2 : ageT (rJ true t u) z with
    | none => rfl
    | some b => rw [(hx b).1 e2] at e; cases e
  | some b => exact (hx b).2 e
theorem sT_rJ {t u : List T2} (ht : sT t) (hu : sT u) : sT (rJ true t u) := (mem_rJ true t u ht hu).2.1
theorem VT_rJ {s y l m : Int} {t u : List T2} (ht : VT s y l m t) (hu : VT s y l m u) : VT s y l m (rJ true t u) :=
  VT_mk ht.geo (sT_rJ ht.so hu.so) fun p hp => by
    obtain ⟨z, b⟩ := p
    have h := (mem_age (sT_rJ ht.so hu.so)).1 hp
    rw [age_rJ ht.so hu.so] at h
    cases e1 : ageT t z with
    | none =>
      rw [e1] at h
      exact hu.age (show ageT u z = some b from h)
    | some a =>
      cases e2 : ageT u z with
      | none => rw [e1, e2] at h; cases h; exact ht.age e1
      | some c =>
        rw [e1, e2] at h; cases h
        obtain ⟨h1, h2, h3⟩ := ht.age e1
        obtain ⟨h4, h5, h6⟩ := hu.age e2
        exact ⟨h1, by show 0 ≤ min a c; omega, by show min a c ≤ _; omega⟩
theorem sT_one (x : T2) : sT [x] := List.pairwise_singleton _ _
theorem age_one (x : T2) (z : Int) : ageT [x] z = if z = x.1 then some x.2 else none := by
  unfold ageT
  by_cases h : z = x.1
  · subst h; simp
  · have h2 : ¬ x.1 = z := fun e => h e.symm
    simp [h, h2]
theorem age_snoc {u : List T2} {x : T2} (h : sT (u ++ [x])) (z : Int) : ageT (u ++ [x]) z = mO (ageT u z) (ageT [x] z) := by
  obtain ⟨h1, h2, h3⟩ := List.pairwise_append.1 h
  rw [age_one]
  unfold ageT
  rw [List.find?_append]
  by_cases e : z = x.1
  · subst e
    have hn : u.find? (fun p => p.1 == x.1) = none := List.find?_eq_none.2 fun p hp => by
      have := h3 p hp x (by simp)
      simp; omega
    rw [hn]; simp [mO]
  · have h2' : ¬ x.1 = z := fun e' => e e'.symm
    cases u.find? (fun p => p.1 == z) <;> simp [e, h2', mO]
theorem rJ_snoc {t u : List T2} {x : T2} (ht : sT t) (h : sT (u ++ [x])) : rJ true t (u ++ [x]) = rJ true (rJ true t u) [x] := by
  have hu : sT u := (List.pairwise_append.1 h).1
  refine age_ext (sT_rJ ht h) (sT_rJ (sT_rJ ht hu) (sT_one x)) fun z => ?_
  rw [age_rJ ht h, age_snoc h, age_rJ (sT_rJ ht hu) (sT_one x), age_rJ ht hu, mO_assoc]
def insT (A : List T2) (k : Nat) (x : T2) : List T2 := A.take k ++ x :: A.drop k
theorem insT_len {A : List T2} {k : Nat} {x : T2} (h : k ≤ A.length) : (insT A k x).length = A.length + 1 := by unfold insT; simp; omega
theorem set_rJ {A : List T2} {k : Nat} {x : T2} (hA : sT A) (hk : k < A.length) (he : lnT A k = x.1) : A.set k (x.1, min (agT A k) x.2) = rJ true A [x] := by
  have e0 : A[k].1 = x.1 := by rw [← lnT_get hk]; exact he
  have hs : sT (A.set k (x.1, min (agT A k) x.2)) := by
    refine List.pairwise_iff_getElem.2 fun i j hi hj hij => ?_
    have hi' : i < A.length := by simpa using hi
    have hj' : j < A.length := by simpa using hj
    have h1 := List.pairwise_iff_getElem.1 hA i j hi' hj' hij
    rw [List.getElem_set, List.getElem_set]
    split <;> split
    · omega
    · rename_i q _; subst q; show x.1 < _; omega
    · rename_i _ q; subst q; show _ < x.1; omega
    · exact h1
  refine sT_ext hs (sT_rJ hA (sT_one x)) fun p => ?_
  obtain ⟨z, b⟩ := p
  rw [(mem_rJ true A [x] hA (sT_one x)).1]
  have ha : (x.1, agT A k) ∈ A := by rw [← he, lnT_get hk, agT_get hk]; exact List.getElem_mem hk
  constructor
  · intro h
    obtain ⟨i, hi, e⟩ := List.mem_iff_getElem.1 h
    have hi' : i < A.length := by simpa using hi
    rw [List.getElem_set] at e
    split at e
    · cases e
      exact .inl ⟨agT A k, x.2, ha, by simp, rfl⟩
    · rename_i q
      have hz : (z, b) ∈ A := by rw [← e]; exact List.getElem_mem hi'
      refine .inr (.inl ⟨rfl, hz, fun c hc => ?_⟩)
      have hc' : z = x.1 := by have := List.mem_singleton.1 hc; rw [← this]
      have h2 := List.pairwise_iff_getElem.1 hA
      have e1 : A[i].1 = A[k].1 := by rw [e, e0]; exact hc'
      rcases Nat.lt_trichotomy i k with q1 | q1 | q1
      · have := h2 i k hi' hk q1; omega
      · exact q q1.symm
      · have := h2 k i hk hi' q1; omega
  · rintro (⟨a, c, ha2, hc, hb⟩ | ⟨-, hb, hc⟩ | ⟨-, hb, hn⟩)
    · have hc' := List.mem_singleton.1 hc
      have hz : z = x.1 := by rw [← hc']
      subst hz
      have hca : c = x.2 := by rw [← hc']
      have hag := (mem_age hA).1 ha
      have hag2 := (mem_age hA).1 ha2
      rw [hag] at hag2
      cases hag2
      rw [hb, hca]
      exact List.mem_iff_getElem.2 ⟨k, by simpa using hk, by simp⟩
    · obtain ⟨i, hi, e⟩ := List.mem_iff_getElem.1 hb
      have hik : k ≠ i := fun q => hc x.2 (by subst q; rw [e] at e0; rw [show z = x.1 from e0]; simp)
      exact List.mem_iff_getElem.2 ⟨i, by simpa using hi, by rw [List.getElem_set_ne hik]; exact e⟩
    · have hz : z = x.1 := by have := List.mem_singleton.1 hb; rw [← this]
      exact absurd (hz ▸ ha) (hn _)
theorem ins_rJ {A : List T2} {k : Nat} {x : T2} (hA : sT A) (hk : k ≤ A.length) (h1 : 0 < k → lnT A (k - 1) < x.1) (h2 : k < A.length → x.1 < lnT A k) : insT A k x = rJ true A [x] := by
  have hlt : ∀ p ∈ A.take k, p.1 < x.1 := fun p hp => by
    obtain ⟨i, hi, rfl⟩ := List.mem_iff_getElem.1 hp
    have hi' : i < k ∧ i < A.length := by simp at hi; omega
    rw [List.getElem_take, ← lnT_get hi'.2]
    by_cases e : i = k - 1
    · rw [e]; exact h1 (by omega)
    · have := sT_lt hA (show i < k - 1 by omega) (by omega); have := h1 (by omega); omega
  have hgt : ∀ p ∈ A.drop k, x.1 < p.1 := fun p hp => by
    obtain ⟨i, hi, rfl⟩ := List.mem_iff_getElem.1 hp
    have hi' : k + i < A.length := by simp at hi; omega
    rw [List.getElem_drop, ← lnT_get hi']
    by_cases e : i = 0
    · subst e; exact h2 (by omega)
    · have := sT_lt hA (show k < k + i by omega) hi'; have := h2 (by omega); omega
  have hs : sT (insT A k x) := by
    refine List.pairwise_append.2 ⟨List.Pairwise.sublist (List.take_sublist k A) hA, List.pairwise_cons.2 ⟨hgt, List.Pairwise.sublist (List.drop_sublist k A) hA⟩, fun a ha c hc => ?_⟩
    rcases List.mem_cons.1 hc with rfl | hc
    · exact hlt a ha
    · have := hlt a ha; have := hgt c hc; omega
  have hno : ∀ a, (x.1, a) ∉ A := fun a ha => by
    rw [← List.take_append_drop k A] at ha
    rcases List.mem_append.1 ha with h | h
    · have := hlt _ h; simp only [] at this; omega
    · have := hgt _ h; simp only [] at this; omega
  refine sT_ext hs (sT_rJ hA (sT_one x)) fun p => ?_
  obtain ⟨z, b⟩ := p
  rw [(mem_rJ true A [x] hA (sT_one x)).1]
  have hm : ∀ p, p ∈ insT A k x ↔ p ∈ A ∨ p = x := fun p => by
    unfold insT
    rw [List.mem_append, List.mem_cons]
    constructor
    · rintro (h | h | h)
      · exact .inl (List.mem_of_mem_take h)
      · exact .inr h
      · exact .inl (List.mem_of_mem_drop h)
    · rintro (h | h)
      · rw [← List.take_append_drop k A] at h
        rcases List.mem_append.1 h with h | h
        · exact .inl h
        · exact .inr (.inr h)
      · exact .inr (.inl h)
  rw [hm]
  constructor
  · rintro (h | h)
    · refine .inr (.inl ⟨rfl, h, fun c hc => ?_⟩)
      have hz : z = x.1 := by have := List.mem_singleton.1 hc; rw [← this]
      exact hno b (hz ▸ h)
    · exact .inr (.inr ⟨rfl, by rw [h]; simp, fun a ha => hno a (by rw [← h]; exact ha)⟩)
  · rintro (⟨a, c, ha, hc, hb⟩ | ⟨-, hb, hc⟩ | ⟨-, hb, hn⟩)
    · have hz : z = x.1 := by have := List.mem_singleton.1 hc; rw [← this]
      exact absurd (hz ▸ ha) (hno a)
    · exact .inl hb
    · exact .inr (List.mem_singleton.1 hb)
section
variable {s y l m : Int}
end
end Ca
end Go.Proofs.Ytmjnakhpekbenaa
namespace Go.Proofs.Ytmjnakhpekbenaa
open Go.RowKit
namespace Fw
section
variable {P : Program} {ops : Array Oper} {Q : Exit → Act → World → Prop} {rest : List Oper} {n : Nat} {l : List (Nat × Value)} {w w0 : World} {S : Nat → Prop} {H H2 : List Ent}
theorem x_sliceAny {t e s m cap : Nat} {a : Option Addr} {I : Int} (i : Nat) (w : World) (hu : P.underlying t = some (.slice e)) (hs : (P.info? e).map (·.size) = some s) (hI : I = (i : Int)) (hle : i ≤ m) (hmc : m ≤ cap) :
    ∃ v, ∀ {ρ : Operand → Value} {o : Oper} {x lo : Operand}, o.op = .slice t x (some lo) none none → ρ x = .slice a m cap → ρ lo = .int .i64 I → (execOp ρ o).run P w = .ok (.value v) w := by
  subst hI
  obtain ⟨inf, hi, rfl⟩ := Option.map_eq_some_iff.1 hs
  have hz : (sizeOf e).run P w = .ok inf.size w := by simp [sizeOf, typeInfo, hi]
  refine ⟨.slice (if cap = i then a else a.map (·.add (i * inf.size))) (m - i) (cap - i), fun ho hx hy => ?_⟩
  unfold execOp; rw [ho]
  simp [hx, hy, Instr.sliceAt, Instr.slice, run_underlying hu, Instr.sliceBounds, Instr.sliceBound, asIntOf, hle, hz, hmc]
theorem run_copy_rows (w : World) (dT sT ty elem sz : Nat) (g o dLen dCap : Nat) (a : Addr) (sLen sCap : Nat) (cur : Array Value) (t : TypeId) (cs : List Value)
    (hu : P.underlying dT = some (.slice elem)) (hs : (P.info? elem).map (·.size) = some sz)
    (hg : w.heap[g]? = some (.cells cur t (0, 0))) (hn : cs.length = Nat.min sLen dLen * sz)
    (hsrc : ∀ j v, cs[j]? = some v → w.cell? (a.add j) = some v) (hfit : o + cs.length ≤ cur.size) (h1 : ∀ v ∈ cs, v.oneCell' = true) :
    (Builtin.copy_ #[dT, sT] ty #[.slice (some ⟨g, o, none⟩) dLen dCap, .slice (some a) sLen sCap]).run P w =
      .ok (goInt (Nat.min sLen dLen)) (w.setRow g (cur.toList.take o ++ cs ++ cur.toList.drop (o + cs.length)).toArray) := by
  have hl := run_loadCells_list (P := P) w a cs hsrc
  have hst := run_storeCells_at P g o t cs 0 cur w hg (by simpa using hfit) h1
  obtain ⟨i, hq, rfl⟩ := Option.map_eq_some_iff.1 hs
  simp [Builtin.copy_, run_underlying hu, Builtin.lenOf, Builtin.firstCells, sizeOf, typeInfo, hq, ← hn, hl, hst]
/-- a copy into a block of the list -/
theorem WL.copyCel {o : Oper} {t t2 e sz : Nat} {x y : Operand} {g off m cp ms cps : Nat} {a : Addr} {cur : Array Value} {T : TypeId} (i : Nat) (hH : HP S w0 w H) (cs : List Value) (d : Nat) (hd : o.dst = some d) (hn : d < n) (hw : wants ops l o = some true)
    (ho : o.op = .call { callee := .builtin .copy, args := #[x, y], argTypes := #[t, t2] }) (hx : ev l x = some (.slice (some ⟨g, off, none⟩) m cp)) (hy : ev l y = some (.slice (some a) ms cps))
    (ht : P.underlying t = some (.slice e)) (hs : (P.info? e).map (·.size) = some sz) (hi : H[i]? = some (.cel g cur T)) (hcs : cs.length = Nat.min ms m * sz)
    (hsrc : ∀ j v, cs[j]? = some v → w.cell? (a.add j) = some v) (hfit : off + cs.length ≤ cur.size) (h1 : ∀ v ∈ cs, v.oneCell' = true)
    (h : ∀ w2, HP S w0 w2 (H.set i (.cel g (cur.toList.take off ++ cs ++ cur.toList.drop (off + cs.length)).toArray T)) → WL P ops Q rest n ((d, goInt (Nat.min ms m)) :: l) w2) : WL P ops Q (o :: rest) n l w := by
  intro b hb
  refine wpList_step fun K hK => ?_
  rw [if_pos (wants_spec hb hw)]
  unfold Oper.wp
  have hr := run_copy_rows (P := P) w t t2 o.type e sz g off m cp a ms cps cur T cs ht hs (hH.get i hi) hcs hsrc hfit h1
  have hx2 : (execOp b.eval o).run P w = .ok (.value (goInt (Nat.min ms m))) (w.setRow g (cur.toList.take off ++ cs ++ cur.toList.drop (off + cs.length)).toArray) := by
    unfold execOp; rw [ho]
    simp [resolve, invoke, builtin, hb.ev hx, hb.ev hy, hr]
  rw [hx2, Oper.upon_value, hd]
  refine hK _ _ (h _ ?_ _ (hb.put hn _))
  exact hH.change i hi rfl rfl rfl (by simp) (fun k _ hne => setRow_other w g k _ fun q => hne (by rw [q]; rfl)) (setRow_heap w g cur _ T (0, 0) (hH.get i hi)) (fun b' hb' => .inl hb')
/-- 'append(s[:i], make(S, k)...)' without room: a new block -/
theorem WL.growZeros {o : Oper} {t tn e : TypeId} {inf : TypeInfo} {z : Value} {sz by' : Nat} {x y : Operand} {g i k cap : Nat} {K : Int} {cur : Array Value} (j : Nat) (hH : HP S w0 w H) (d : Nat) (hd : o.dst = some d) (hn : d < n) (hw : wants ops l o = some true)
    (ho : o.op = .call { callee := .builtin .append, args := #[x, y], argTypes := #[t, tn] }) (hx : ev l x = some (.slice (some ⟨g, 0, none⟩) i cap)) (hy : ev l y = some (.int .i64 K)) (hK : K = (k : Int))
    (ht : P.underlying t = some (.slice e)) (htn : P.underlying tn = some (.int .i64)) (hi' : P.info? e = some inf) (hz : inf.zero = some z) (hsz : inf.size = sz) (hby : inf.bytes = by') (hzs : z.cells.size = sz) (h0 : 0 < sz)
    (hj : H[j]? = some (.cel g cur e)) (hfit : i * sz ≤ cur.size) (hk : 0 < k) (hg : cap < i + k) (h63 : i + k ≤ 9223372036854775807) (hb : (i + k) * by' ≤ 140737488355328)
    (h : ∀ (g' c' : Nat) (cur' : Array Value) w2, HP S w0 w2 (H ++ [.cel g' cur' e]) → cur'.size = c' * sz → i + k ≤ c' → c' ≤ maxLen → cur'.toList.take (i * sz) = cur.toList.take (i * sz) → WL P ops Q rest n ((d, .slice (some ⟨g', 0, none⟩) (i + k) c') :: l) w2) : WL P ops Q (o :: rest) n l w := by
  intro b hfr
  refine wpList_step fun K' hK' => ?_
  rw [if_pos (wants_spec hfr hw)]
  unfold Oper.wp
  subst hK
  have hold : (Builtin.firstCells inf.size i (.slice (some ⟨g, 0, none⟩) i cap)).run P w.drew = .ok (cur.toList.take (i * sz)).toArray w.drew := by
    rw [hsz]
    refine run_firstCells_some w.drew sz i ⟨g, 0, none⟩ i cap (cur.toList.take (i * sz)) (by rw [List.length_take]; simp; omega) (fun q v hq => ?_)
    have hq2 : cur[q]? = some v := by
      rw [List.getElem?_take] at hq
      split at hq
      · simpa using hq
      · cases hq
    rw [Addr.add_lit, Nat.zero_add]
    exact HP.cell hH.drew j hj hq2
  have hik : i * by' + k * by' = (i + k) * by' := (Nat.add_mul _ _ _).symm
  have hr := Lib.run_append_grow_zeros (P := P) w t tn o.type e inf z .i64 .i64 ht htn hi' hz (some ⟨g, 0, none⟩) i cap (cur.toList.take (i * sz)) hold k hk (by omega) hg (by omega) (by rw [hby]; omega) (by rw [hby]; exact growslice_fits hg hb)
  have hx2 : (execOp b.eval o).run P w = .ok (.value (.slice (some ⟨w.heap.size, 0, none⟩) (i + k) (grownCap w (i + k) cap e))) (w.drew.alloc (.cells ((cur.toList.take (i * sz)).toArray ++ Builtin.zeroCells z.cells k ++ Builtin.zeroCells z.cells (grownCap w (i + k) cap e - (i + k))) e)) := by
    unfold execOp; rw [ho]
    simp [resolve, invoke, builtin, hfr.ev hx, hfr.ev hy, hr]
  rw [hx2, Oper.upon_value, hd]
  have hge := grownCap_ge w (i + k) cap e
  have htl : (cur.toList.take (i * sz)).length = i * sz := by rw [List.length_take]; simp; omega
  have hsize : ((cur.toList.take (i * sz)).toArray ++ Builtin.zeroCells z.cells k ++ Builtin.zeroCells z.cells (grownCap w (i + k) cap e - (i + k))).size = grownCap w (i + k) cap e * sz := by
    simp only [Array.size_append, List.size_toArray, htl, size_zeroCells, hzs]
    rw [← Nat.add_mul, ← Nat.add_mul]
    congr 1; omega
  have q := HP.alloc hH.drew ((cur.toList.take (i * sz)).toArray ++ Builtin.zeroCells z.cells k ++ Builtin.zeroCells z.cells (grownCap w (i + k) cap e - (i + k))) e
  refine hK' _ _ (h w.heap.size (grownCap w (i + k) cap e) _ _ q hsize hge (grownCap_le_maxLen w _ _ _ (by unfold maxLen; omega)) ?_ _ (hfr.put hn _))
  simp only [Array.toList_append, List.append_assoc]
  rw [List.take_append_of_le_length (by simp; omega), List.take_of_length_le (by simp; omega)]
theorem append_args {t t2 e e2 ty : TypeId} (ht : P.underlying t = some (.slice e)) (ht2 : P.underlying t2 = some (.slice e2)) (b : Option Addr) (k c : Nat) (b2 : Option Addr) (k2 c2 : Nat) (w : World) : (Builtin.append_ #[t, t2] ty #[.slice b k c, .slice b2 k2 c2]).run P w = (Builtin.append_ #[t, t] ty #[.slice b k c, .slice b2 k2 c2]).run P w := by
  simp [Builtin.append_, run_underlying ht, run_underlying ht2]
/-- append, the second slice of another type of the same elements -/
theorem WL.append2 {o : Oper} {t t2 e e2 : TypeId} {inf : TypeInfo} {z : Value} {sz by' : Nat} {x y : Operand} {v : Value} {k m : Nat} {xs news : List Value} {bn cp : Nat} {cn : Array Value} (i j : Nat) (hH : HP S w0 w H) (d : Nat) (hd : o.dst = some d) (hn : d < n) (hw : wants ops l o = some true)
    (ho : o.op = .call { callee := .builtin .append, args := #[x, y], argTypes := #[t, t2] }) (hx : ev l x = some v) (hy : ev l y = some (.slice (some ⟨bn, 0, none⟩) m cp))
    (ht : P.underlying t = some (.slice e)) (ht2 : P.underlying t2 = some (.slice e2)) (hi' : P.info? e = some inf) (hz : inf.zero = some z) (hsz : inf.size = sz) (hby : inf.bytes = by') (hzs : z.cells.size = sz) (h0 : 0 < sz)
    (hi : H[i]? = some (.own v k xs e sz)) (hj : H[j]? = some (.cel bn cn e)) (hnews : cn.toList.take news.length = news) (hl : news.length = m * sz) (h1 : ∀ u ∈ news, u.oneCell' = true) (h63 : k + m ≤ maxLen) (hb : (k + m) * by' ≤ 140737488355328)
    (h : ∀ v' w2, (v' = .slice none 0 0 ↔ v = .slice none 0 0 ∧ m = 0) → HP S w0 w2 (H.set i (.own v' (k + m) (xs ++ news) e sz)) → WL P ops Q rest n ((d, v') :: l) w2) : WL P ops Q (o :: rest) n l w := by
  intro a ha
  refine wpList_step fun K hK => ?_
  rw [if_pos (wants_spec ha hw)]
  unfold Oper.wp
  obtain ⟨v', w2, hr, g1, g2, g3, g4⟩ := append_ent (P := P) w t o.type e inf z sz by' ht hi' hz hsz hby hzs h0 v k xs (hH.get i hi) ⟨bn, 0, none⟩ m cp news hl (fun q u hu => by
    rw [Addr.add_mid]
    exact hH.range j hj (by simpa using hnews) q u hu) h1 h63 hb
  obtain ⟨pv, kk, cc, rfl⟩ : ∃ pv kk cc, v = .slice pv kk cc := by
    have h2 : w.ownsRow 0 e sz v k xs := hH.get i hi
    rcases h2.2 with ⟨h3, h1⟩ | ⟨g, cap, cur, hv, _⟩
    · exact ⟨_, _, _, h3⟩
    · exact ⟨_, _, _, hv⟩
  have hx2 : (execOp a.eval o).run P w = .ok (.value v') w2 := by
    unfold execOp; rw [ho]
    simp [resolve, invoke, builtin, ha.ev hx, ha.ev hy, append_args ht ht2, hr]
  rw [hx2, Oper.upon_value, hd]
  refine hK _ _ (h v' w2 g3 ?_ _ (ha.put hn v'))
  exact hH.change i hi g2.os g2.tape g2.output g2.size (fun q hq hne => g2.block q hq fun e => hne e.symm) ⟨g1.1, g1.2⟩ g4
theorem own_le {w : World} {pv : Option Addr} {n cp e s : Nat} {xs : List Value} (h : Ent.holds w (.own (.slice pv n cp) n xs e s)) : n ≤ cp ∧ cp ≤ maxLen ∧ (n = 0 ∨ ∃ g, pv = some ⟨g, 0, none⟩) := by
  have h2 : w.ownsRow 0 e s (.slice pv n cp) n xs := h
  rcases h2.2 with ⟨h3, h1⟩ | ⟨g, cap, cur, hv, _, _, hc, hm, _⟩
  · cases h3; exact ⟨Nat.le_refl _, by decide, .inl rfl⟩
  · cases hv; exact ⟨hc, hm, .inr ⟨g, rfl⟩⟩
/-- slices.overlaps of parts of two blocks -/
theorem x_overlaps {o : Oper} {ρ : Operand → Value} {fn : Func} {f tS tR e sz b b2 o1 o2 l1 c1 l2 c2 : Nat} {x y : Operand} {A B : Array Value} {T T2' : TypeId} (i j : Nat) (hH : HP S w0 w H) (ho : o.op = .call { callee := .value (.func f), args := #[x, y], argTypes := #[tS, tS] })
    (hf' : ρ (.func f) = .func (.func f) #[] #[]) (hx : ρ x = .slice (some ⟨b, o1, none⟩) l1 c1) (hy : ρ y = .slice (some ⟨b2, o2, none⟩) l2 c2) (hf : P.funcs[f]? = some fn) (hname : (fn.name == "runtime.NumGoroutine") = false)
    (hbd : fn.body.isNone = true) (hnx : Extern.findNext fn = none) (he : Extern.find fn = some (Extern.SlicesOverlaps.overlaps #[tS, tS] #[tR])) (ht : P.underlying tS = some (.slice e)) (hs : (P.info? e).map (·.size) = some sz)
    (hi : H[i]? = some (.cel b A T)) (hj : H[j]? = some (.cel b2 B T2')) (hne : b ≠ b2) (hB : B.size ≠ 0) :
    (execOp ρ o).run P w = .ok (.value (.bool false)) w := by
  obtain ⟨inf, hq, rfl⟩ := Option.map_eq_some_iff.1 hs
  have hz : ∀ w, (sizeOf e).run P w = .ok inf.size w := fun w => by simp [sizeOf, typeInfo, hq]
  have g1 : w.heap[b]? = some (.cells A T (0, 0)) := hH.get i hi
  have g2 : w.heap[b2]? = some (.cells B T2' (0, 0)) := hH.get j hj
  have hr : (callFunc f #[.slice (some ⟨b, o1, none⟩) l1 c1, .slice (some ⟨b2, o2, none⟩) l2 c2]).run P w = .ok (.value (.bool false)) w := by
    rw [run_callFunc_extern hf hname hbd hnx he, Lib.run_overlaps_apart w tS tR e ht inf.size hz ⟨b, o1, none⟩ ⟨b2, o2, none⟩ l1 c1 l2 c2 hne T T2' A.size B.size
      (by simp [World.shape?, g1]) (by simp [World.shape?, g2]) hB (by simp [World.frozen?, g1]) (by simp [World.frozen?, g1])]
    rfl
  unfold execOp; rw [ho]
  simp [resolve, invoke, Deferred.ofValue, hx, hy, hf', hr, go_sem]
end
end Fw
end Go.Proofs.Ytmjnakhpekbenaa
namespace Go.Proofs.Ytmjnakhpekbenaa
open Go.RowKit Fw
namespace Ca
theorem HP.monoS {S S' : Nat → Prop} {w0 w : World} {H : List Ent} (h : HP S w0 w H) (hk : ∀ b, S' b → S b) : HP S' w0 w H := ⟨h.os, h.tape, h.output, h.size, fun k hl hS => h.keep k hl (hk k hS), h.hold, fun e he b hb hl hS => h.fresh e he b hb hl (hk b hS), h.apart⟩
theorem ins_grow {C X cs : List Value} {a k : Nat} (hX : X.length = 2) (ha : a ≤ C.length) :
    ((C.take a ++ X ++ C.drop (a + X.length)).take (a + 2) ++ cs ++ (C.take a ++ X ++ C.drop (a + X.length)).drop k).take (a + 2 + cs.length) = C.take a ++ X ++ cs := by
  have e1 : (C.take a ++ X ++ C.drop (a + X.length)).take (a + 2) = C.take a ++ X := by
    rw [List.take_append_of_le_length (by simp; omega), List.take_of_length_le (by simp; omega)]
  rw [e1, List.take_append_of_le_length (by simp; omega), List.take_of_length_le (by simp; omega)]
theorem ins_room {C X cs : List Value} {a k : Nat} (hX : X.length = 2) (ha : a + 2 ≤ C.length) :
    ((C.take (a + 2) ++ cs ++ C.drop k).take a ++ X ++ (C.take (a + 2) ++ cs ++ C.drop k).drop (a + X.length)).take (a + 2 + cs.length) = C.take a ++ X ++ cs := by
  have e1 : (C.take (a + 2) ++ cs ++ C.drop k).take a = C.take a := by
    rw [List.append_assoc, List.take_append_of_le_length (by simp; omega), List.take_take, Nat.min_eq_left (by omega)]
  have e2 : (C.take (a + 2) ++ cs ++ C.drop k).drop (a + X.length) = cs ++ C.drop k := by
    rw [hX, List.append_assoc, List.drop_left' (by simp; omega)]
  rw [e1, e2, ← List.append_assoc, List.take_append_of_le_length (by simp; omega), List.take_of_length_le (by simp; omega)]
theorem toL_size {l : List Value} : l.toArray.size = l.length := by simp
theorem app_len {C X : List Value} {a : Nat} (h : a + X.length ≤ C.length) : (C.take a ++ X ++ C.drop (a + X.length)).length = C.length := by simp; omega
theorem cs_mem {C : List Value} {i n : Nat} {v : Value} (hi : i < n) (h : v ∈ (C.drop (i * 2)).take ((n - i) * 2)) : v ∈ C.take (n * 2) := by
  have e : (C.drop (i * 2)).take ((n - i) * 2) = (C.take (n * 2)).drop (i * 2) := by rw [List.drop_take]; congr 1; omega
  rw [e] at h
  exact List.mem_of_mem_drop h
theorem cs_at {C : Array Value} {a k j : Nat} {v : Value} (h : ((C.toList.drop a).take k)[j]? = some v) : C[a + j]? = some v := by
  rw [List.getElem?_take] at h
  split at h
  · rw [List.getElem?_drop] at h; simpa using h
  · cases h
set_option maxRecDepth 20000 in
set_option maxHeartbeats 4000000 in
theorem insC_any (g gb n c i : Nat) (cur : Array Value) (x : T2) (w : World) (hB : OwnB w [Go.Proofs.Ytmjnakhpekbenaa.Fw.Ent.cel g cur 83, Go.Proofs.Ytmjnakhpekbenaa.Fw.Ent.cel gb #[vI x.1, vI x.2] 83]) (hs : cur.size = c * 2) (hone : ∀ v ∈ cur.toList.take (n * 2), v.oneCell' = true) (hne : gb ≠ g) (hnc : n ≤ c) (hm : c ≤ maxLen) (hi : i < n) (hn : n ≤ 1000000) :
    Calls Try.prog 85 #[vS g n c, vI (i : Int), vS gb 1 1] w fun e w' => ∃ g' c' cur', e = .returned (vS g' (n + 1) c') ∧ HP (Out [Go.Proofs.Ytmjnakhpekbenaa.Fw.Ent.cel g cur 83, Go.Proofs.Ytmjnakhpekbenaa.Fw.Ent.cel gb #[vI x.1, vI x.2] 83]) w w' [.cel g' cur' 83] ∧ cur'.size = c' * 2 ∧ n + 1 ≤ c' ∧ c' ≤ maxLen ∧ cur'.toList.take ((n + 1) * 2) = cur.toList.take (i * 2) ++ [vI x.1, vI x.2] ++ (cur.toList.drop (i * 2)).take ((n - i) * 2) := by
  refine calls_of Try.func85 rfl (m := 95) rfl [(0, vS g n c), (1, vI (i : Int)), (2, vS gb 1 1)] (Fr_enter [vS g n c, vI (i : Int), vS gb 1 1] 95 (Nat.le_of_ble_eq_true rfl)) ?_
  refine WC.seq fun K1 hK1 => WC.region ?_
  refine WL.z (v := .slice none 0 0) 6 ?_
  refine WL.nil (WQ.then (hK1 _ _ _ (WC.seq fun K2 hK2 => WC.region ?_)))
  refine WL.z (v := vS g n c) 10 ?_
  refine WL.z (v := vI (i : Int)) 11 ?_
  refine WL.y (v := .slice (some ⟨g, i * 2, none⟩) (n - i) (c - i)) 12 (x_sliceL (i) rfl rfl rfl Try.underlying88 (by omega) (by omega) (by omega) sz83 (by omega) rfl rfl (by omega)) ?_
  refine WL.nil (WQ.then (hK2 _ _ _ (WC.seq fun K3 hK3 => WC.region ?_)))
  refine WL.z (v := vS gb 1 1) 13 ?_
  refine WL.z (v := vI 1) 14 ?_
  refine WL.z (v := vI 1) 7 ?_
  refine WL.nil (WQ.then (hK3 _ _ _ (WC.seq fun K4 hK4 => WC.seq fun K5 hK5 => WC.region ?_)))
  refine WL.z (v := vI 1) 15 ?_
  refine WL.y (v := .bool false) 16 (x_eql rfl rfl rfl (by decide)) ?_
  refine WL.nil (WQ.then (hK5 _ _ _ ?_))
  refine WC.sub (l' := [(0, vS g n c), (1, vI (i : Int)), (2, vS gb 1 1), (6, .slice none 0 0), (7, vI 1), (16, .bool false)]) ⟨rfl, rfl, rfl, rfl, rfl, rfl, trivial⟩ ?_
  refine WC.no rfl (WC.skip (WQ.then (hK4 _ _ _ (WC.seq fun K6 hK6 => WC.region ?_))))
  refine WL.z (v := vS g n c) 18 ?_
  refine WL.z (v := vI (n : Int)) 19 ?_
  refine WL.z (v := vI (n : Int)) 8 ?_
  refine WL.nil (WQ.then (hK6 _ _ _ (WC.seq fun K7 hK7 => WC.seq fun K8 hK8 => WC.region ?_)))
  refine WL.z (v := vI (i : Int)) 20 ?_
  refine WL.z (v := vI (n : Int)) 21 ?_
  refine WL.y (v := .bool false) 22 (x_eql rfl rfl rfl (dF (by omega))) ?_
  refine WL.nil (WQ.then (hK8 _ _ _ (WC.no rfl (WC.skip (WQ.then (hK7 _ _ _ (WC.seq fun K9 hK9 => ?_)))))))
  refine WC.seq fun K10 hK10 => WC.region ?_
  refine WL.z (v := vI (n : Int)) 26 ?_
  refine WL.z (v := vI 1) 27 ?_
  refine WL.y (v := vI ((n + 1 : Nat) : Int)) 28 (x_add (Z := ((n + 1 : Nat) : Int)) rfl rfl rfl (by omega) (by omega) (by omega)) ?_
  refine WL.z (v := vS g n c) 29 ?_
  refine WL.z (v := vI (c : Int)) 30 ?_
  by_cases hgr : (c : Int) < ((n + 1 : Nat) : Int)
  ·
    refine WL.y (v := .bool true) 31 (x_gtr rfl rfl rfl (dT (hgr))) ?_
    refine WL.nil (WQ.then (hK10 _ _ _ ?_))
    refine WC.sub (l' := [(0, vS g n c), (1, vI (i : Int)), (2, vS gb 1 1), (6, .slice none 0 0), (7, vI 1), (8, vI (n : Int)), (16, .bool false), (22, .bool false), (31, .bool true)]) ⟨rfl, rfl, rfl, rfl, rfl, rfl, rfl, rfl, rfl, trivial⟩ ?_
    refine WC.yes rfl (WC.seq fun K11 hK11 => WC.region ?_)
    refine WL.z (v := vS g n c) 32 ?_
    refine WL.z (v := vI (i : Int)) 33 ?_
    refine WL.y (v := vS g i c) 34 (x_sliceH (i) rfl rfl rfl Try.underlying88 (by omega) (by omega) sz83) ?_
    refine WL.z (v := vI (n : Int)) 35 ?_
    refine WL.z (v := vI 1) 36 ?_
    refine WL.y (v := vI ((n + 1 : Nat) : Int)) 37 (x_add (Z := ((n + 1 : Nat) : Int)) rfl rfl rfl (by omega) (by omega) (by omega)) ?_
    refine WL.z (v := vI (i : Int)) 38 ?_
    refine WL.y (v := vI ((n + 1 - i : Nat) : Int)) 39 (x_sub (Z := ((n + 1 - i : Nat) : Int)) rfl rfl rfl (by omega) (by omega) (by omega)) ?_
    obtain ⟨i0, hi0, hz0, hz1, hz2⟩ := infoT
    refine WL.growZeros (k := n + 1 - i) 0 (HP.startB hB) 40 rfl (by decide) rfl rfl rfl rfl rfl Try.underlying88 Try.underlying3 hi0 hz0 hz1 hz2 rfl (by decide) rfl (by omega) (by omega) (by omega) (by omega) (by omega) ?_
    intro g2 c2 cur2 w5 hA5 hs5 hc5 hm5 ht5
    have e5 : i + (n + 1 - i) = n + 1 := by omega
    rw [e5] at hc5 ⊢
    have hH12 : HP (Out [Go.Proofs.Ytmjnakhpekbenaa.Fw.Ent.cel g cur 83, Go.Proofs.Ytmjnakhpekbenaa.Fw.Ent.cel gb #[vI x.1, vI x.2] 83]) w _ [.cel g cur 83, .cel gb #[vI x.1, vI x.2] 83, .cel g2 cur2 83] := hA5
    refine WL.z (v := vS g2 (n + 1) c2) 9 ?_
    refine WL.nil (WQ.then (hK11 _ _ _ ?_))
    refine WC.sub (l' := [(0, vS g n c), (1, vI (i : Int)), (2, vS gb 1 1), (6, .slice none 0 0), (7, vI 1), (8, vI (n : Int)), (9, vS g2 (n + 1) c2), (16, .bool false), (22, .bool false), (31, .bool true)]) ⟨rfl, rfl, rfl, rfl, rfl, rfl, rfl, rfl, rfl, rfl, trivial⟩ ?_
    refine WC.seq fun K13 hK13 => WC.region ?_
    refine WL.z (v := vS g2 (n + 1) c2) 41 ?_
    refine WL.z (v := vI (i : Int)) 42 ?_
    refine WL.y (v := .slice (some ⟨g2, i * 2, none⟩) (n + 1 - i) (c2 - i)) 43 (x_sliceL (i) rfl rfl rfl Try.underlying88 (by omega) (by omega) (by omega) sz83 (by omega) rfl rfl (by omega)) ?_
    refine WL.z (v := vS gb 1 1) 44 ?_
    refine WL.copyCel 2 hH12 [vI x.1, vI x.2] 45 rfl (by decide) rfl rfl rfl rfl Try.underlying88 sz83 rfl (by rw [show Nat.min 1 (n + 1 - i) = 1 from Nat.min_eq_left (by omega)]; rfl) (fun j v hj => by rw [Addr.add_lit]; exact HP.range hH12 1 rfl rfl j v hj) (by simp only [List.length_cons, List.length_nil]; omega) (by simp [Value.oneCell']) ?_
    intro w14 hCw14
    generalize ecur4 : (cur2.toList.take (i * 2) ++ [vI x.1, vI x.2] ++ cur2.toList.drop (i * 2 + [vI x.1, vI x.2].length)).toArray = cur4 at hCw14
    have scur4 : cur4.size = cur2.size := by rw [← ecur4, toL_size, app_len (by simp only [List.length_cons, List.length_nil, Array.length_toList]; omega), Array.length_toList]
    have hH15 : HP (Out [Go.Proofs.Ytmjnakhpekbenaa.Fw.Ent.cel g cur 83, Go.Proofs.Ytmjnakhpekbenaa.Fw.Ent.cel gb #[vI x.1, vI x.2] 83]) w _ [.cel g cur 83, .cel gb #[vI x.1, vI x.2] 83, .cel g2 cur4 83] := hCw14
    refine WL.nil (WQ.then (hK13 _ _ _ (WC.seq fun K16 hK16 => ?_)))
    refine WC.stillTail 8 (by kernel_rfl) (by kernel_rfl) ?_
    have hH17 : HP (Out [Go.Proofs.Ytmjnakhpekbenaa.Fw.Ent.cel g cur 83, Go.Proofs.Ytmjnakhpekbenaa.Fw.Ent.cel gb #[vI x.1, vI x.2] 83]) w _ [.cel g cur 83, .cel gb #[vI x.1, vI x.2] 83, .cel g2 cur4 83] := HP.drew hH15
    refine WS.z (v := vS g2 (n + 1) c2) 46 ?_
    refine WS.z (v := vI (i : Int)) 47 ?_
    refine WS.z (v := vI 1) 48 ?_
    refine WS.y (v := vI ((i + 1 : Nat) : Int)) 49 (x_add (Z := ((i + 1 : Nat) : Int)) rfl rfl rfl (by omega) (by omega) (by omega)) ?_
    refine WS.y (v := .slice (some ⟨g2, (i + 1) * 2, none⟩) (n + 1 - (i + 1)) (c2 - (i + 1))) 50 (x_sliceL (i + 1) rfl rfl rfl Try.underlying88 (by omega) (by omega) (by omega) sz83 (by omega) rfl rfl (by omega)) ?_
    refine WS.z (v := vS g n c) 51 ?_
    refine WS.z (v := vI (i : Int)) 52 ?_
    refine WS.y (v := .slice (some ⟨g, i * 2, none⟩) (n - i) (c - i)) 53 (x_sliceL (i) rfl rfl rfl Try.underlying88 (by omega) (by omega) (by omega) sz83 (by omega) rfl rfl (by omega)) ?_
    refine WS.nilL ?_
    have hcs : ((cur.toList.drop (i * 2)).take ((n - i) * 2)).length = (n - i) * 2 := by rw [List.length_take, List.length_drop, Array.length_toList]; omega
    have hmn : Nat.min (n - i) (n + 1 - (i + 1)) = n - i := by simp only [Nat.min_def]; split <;> omega
    refine WL.copyCel 2 hH17 ((cur.toList.drop (i * 2)).take ((n - i) * 2)) 54 rfl (by decide) rfl rfl rfl rfl Try.underlying88 sz83 rfl (by rw [hmn, hcs]) (fun j v hj => by rw [Addr.add_lit]; exact HP.cell hH17 0 rfl (cs_at hj)) (by rw [hcs]; omega) (fun v hv => hone v (cs_mem hi hv)) ?_
    intro w18 hCw18
    generalize ecur5 : (cur4.toList.take ((i + 1) * 2) ++ ((cur.toList.drop (i * 2)).take ((n - i) * 2)) ++ cur4.toList.drop ((i + 1) * 2 + ((cur.toList.drop (i * 2)).take ((n - i) * 2)).length)).toArray = cur5 at hCw18
    have scur5 : cur5.size = cur4.size := by rw [← ecur5, toL_size, app_len (by rw [hcs, Array.length_toList]; omega), Array.length_toList]
    have hH19 : HP (Out [Go.Proofs.Ytmjnakhpekbenaa.Fw.Ent.cel g cur 83, Go.Proofs.Ytmjnakhpekbenaa.Fw.Ent.cel gb #[vI x.1, vI x.2] 83]) w _ [.cel g cur 83, .cel gb #[vI x.1, vI x.2] 83, .cel g2 cur5 83] := hCw18
    refine WL.nil (WQ.then (hK16 _ _ _ ?_))
    refine WC.sub (l' := [(0, vS g n c), (1, vI (i : Int)), (2, vS gb 1 1), (6, .slice none 0 0), (7, vI 1), (8, vI (n : Int)), (9, vS g2 (n + 1) c2), (16, .bool false), (22, .bool false), (31, .bool true)]) ⟨rfl, rfl, rfl, rfl, rfl, rfl, rfl, rfl, rfl, rfl, trivial⟩ ?_
    refine WC.seq fun K20 hK20 => WC.region ?_
    refine WL.z (v := vS g2 (n + 1) c2) 55 ?_
    refine WL.z (v := vS g2 (n + 1) c2) 6 ?_
    refine WL.nil (WQ.then (hK20 _ _ _ (WC.ret ?_)))
    refine WQ.thenRet ?_
    refine WQ.ret1 6 rfl rfl ?_
    refine ⟨g2, c2, cur5, rfl, HP.drop (HP.drop hH19 0) 0, by omega, hc5, hm5, ?_⟩
    rw [← ecur5, ← ecur4, ← ht5]
    rw [show (i + 1) * 2 = i * 2 + 2 by omega, show (n + 1) * 2 = i * 2 + 2 + ((cur.toList.drop (i * 2)).take ((n - i) * 2)).length by rw [hcs]; omega]
    exact ins_grow rfl (by rw [Array.length_toList]; omega)
  ·
    refine WL.y (v := .bool false) 31 (x_gtr rfl rfl rfl (dF (hgr))) ?_
    refine WL.nil (WQ.then (hK10 _ _ _ ?_))
    refine WC.sub (l' := [(0, vS g n c), (1, vI (i : Int)), (2, vS gb 1 1), (6, .slice none 0 0), (7, vI 1), (8, vI (n : Int)), (16, .bool false), (22, .bool false), (31, .bool false)]) ⟨rfl, rfl, rfl, rfl, rfl, rfl, rfl, rfl, rfl, trivial⟩ ?_
    refine WC.no rfl (WC.skip (WQ.then (hK9 _ _ _ (WC.seq fun K21 hK21 => WC.region ?_))))
    refine WL.z (v := vS g n c) 56 ?_
    refine WL.z (v := vI (n : Int)) 57 ?_
    refine WL.z (v := vI 1) 58 ?_
    refine WL.y (v := vI ((n + 1 : Nat) : Int)) 59 (x_add (Z := ((n + 1 : Nat) : Int)) rfl rfl rfl (by omega) (by omega) (by omega)) ?_
    refine WL.y (v := vS g (n + 1) c) 60 (x_sliceH (n + 1) rfl rfl rfl Try.underlying88 (by omega) (by omega) sz83) ?_
    refine WL.z (v := vS g (n + 1) c) 0 ?_
    refine WL.nil (WQ.then (hK21 _ _ _ ?_))
    refine WC.sub (l' := [(0, vS g (n + 1) c), (1, vI (i : Int)), (2, vS gb 1 1), (6, .slice none 0 0), (7, vI 1), (8, vI (n : Int)), (16, .bool false), (22, .bool false), (31, .bool false)]) ⟨rfl, rfl, rfl, rfl, rfl, rfl, rfl, rfl, rfl, trivial⟩ ?_
    refine WC.seq fun K22 hK22 => WC.seq fun K23 hK23 => WC.region ?_
    refine WL.z (v := vS gb 1 1) 61 ?_
    refine WL.z (v := vS g (n + 1) c) 62 ?_
    refine WL.z (v := vI (i : Int)) 63 ?_
    refine WL.z (v := vI 1) 64 ?_
    refine WL.y (v := vI ((i + 1 : Nat) : Int)) 65 (x_add (Z := ((i + 1 : Nat) : Int)) rfl rfl rfl (by omega) (by omega) (by omega)) ?_
    refine WL.y (v := .slice (some ⟨g, (i + 1) * 2, none⟩) (n + 1 - (i + 1)) (c - (i + 1))) 66 (x_sliceL (i + 1) rfl rfl rfl Try.underlying88 (by omega) (by omega) (by omega) sz83 (by omega) rfl rfl (by omega)) ?_
    refine WL.y (v := .bool false) 67 (x_overlaps (tR := 4) 1 0 (HP.startB hB) rfl rfl rfl rfl Try.func103 (by kernel_rfl) (by kernel_rfl) (by kernel_rfl) (by kernel_rfl) Try.underlying49 sz83 rfl rfl hne (by omega)) ?_
    refine WL.z (v := .bool true) 68 ?_
    refine WL.nil (WQ.then (hK23 _ _ _ ?_))
    refine WC.sub (l' := [(0, vS g (n + 1) c), (1, vI (i : Int)), (2, vS gb 1 1), (6, .slice none 0 0), (7, vI 1), (8, vI (n : Int)), (16, .bool false), (22, .bool false), (31, .bool false), (68, .bool true)]) ⟨rfl, rfl, rfl, rfl, rfl, rfl, rfl, rfl, rfl, rfl, trivial⟩ ?_
    refine WC.yes rfl (WC.seq fun K24 hK24 => ?_)
    refine WC.stillTail 8 (by kernel_rfl) (by kernel_rfl) ?_
    have hH25 : HP (Out [Go.Proofs.Ytmjnakhpekbenaa.Fw.Ent.cel g cur 83, Go.Proofs.Ytmjnakhpekbenaa.Fw.Ent.cel gb #[vI x.1, vI x.2] 83]) w _ [.cel g cur 83, .cel gb #[vI x.1, vI x.2] 83] := HP.drew (HP.startB hB)
    refine WS.z (v := vS g (n + 1) c) 69 ?_
    refine WS.z (v := vI (i : Int)) 70 ?_
    refine WS.z (v := vI 1) 71 ?_
    refine WS.y (v := vI ((i + 1 : Nat) : Int)) 72 (x_add (Z := ((i + 1 : Nat) : Int)) rfl rfl rfl (by omega) (by omega) (by omega)) ?_
    refine WS.y (v := .slice (some ⟨g, (i + 1) * 2, none⟩) (n + 1 - (i + 1)) (c - (i + 1))) 73 (x_sliceL (i + 1) rfl rfl rfl Try.underlying88 (by omega) (by omega) (by omega) sz83 (by omega) rfl rfl (by omega)) ?_
    refine WS.z (v := vS g (n + 1) c) 74 ?_
    refine WS.z (v := vI (i : Int)) 75 ?_
    refine WS.y (v := .slice (some ⟨g, i * 2, none⟩) (n + 1 - i) (c - i)) 76 (x_sliceL (i) rfl rfl rfl Try.underlying88 (by omega) (by omega) (by omega) sz83 (by omega) rfl rfl (by omega)) ?_
    refine WS.nilL ?_
    have hcs : ((cur.toList.drop (i * 2)).take ((n - i) * 2)).length = (n - i) * 2 := by rw [List.length_take, List.length_drop, Array.length_toList]; omega
    have hmn : Nat.min (n + 1 - i) (n + 1 - (i + 1)) = n - i := by simp only [Nat.min_def]; split <;> omega
    refine WL.copyCel 0 hH25 ((cur.toList.drop (i * 2)).take ((n - i) * 2)) 77 rfl (by decide) rfl rfl rfl rfl Try.underlying88 sz83 rfl (by rw [hmn, hcs]) (fun j v hj => by rw [Addr.add_lit]; exact HP.cell hH25 0 rfl (cs_at hj)) (by rw [hcs]; omega) (fun v hv => hone v (cs_mem hi hv)) ?_
    intro w26 hCw26
    generalize ecur6 : (cur.toList.take ((i + 1) * 2) ++ ((cur.toList.drop (i * 2)).take ((n - i) * 2)) ++ cur.toList.drop ((i + 1) * 2 + ((cur.toList.drop (i * 2)).take ((n - i) * 2)).length)).toArray = cur6 at hCw26
    have scur6 : cur6.size = cur.size := by rw [← ecur6, toL_size, app_len (by rw [hcs, Array.length_toList]; omega), Array.length_toList]
    have hH27 : HP (Out [Go.Proofs.Ytmjnakhpekbenaa.Fw.Ent.cel g cur 83, Go.Proofs.Ytmjnakhpekbenaa.Fw.Ent.cel gb #[vI x.1, vI x.2] 83]) w _ [.cel g cur6 83, .cel gb #[vI x.1, vI x.2] 83] := hCw26
    refine WL.nil (WQ.then (hK24 _ _ _ ?_))
    refine WC.sub (l' := [(0, vS g (n + 1) c), (1, vI (i : Int)), (2, vS gb 1 1), (6, .slice none 0 0), (7, vI 1), (8, vI (n : Int)), (16, .bool false), (22, .bool false), (31, .bool false), (68, .bool true)]) ⟨rfl, rfl, rfl, rfl, rfl, rfl, rfl, rfl, rfl, rfl, trivial⟩ ?_
    refine WC.seq fun K28 hK28 => WC.region ?_
    refine WL.z (v := vS g (n + 1) c) 78 ?_
    refine WL.z (v := vI (i : Int)) 79 ?_
    refine WL.y (v := .slice (some ⟨g, i * 2, none⟩) (n + 1 - i) (c - i)) 80 (x_sliceL (i) rfl rfl rfl Try.underlying88 (by omega) (by omega) (by omega) sz83 (by omega) rfl rfl (by omega)) ?_
    refine WL.z (v := vS gb 1 1) 81 ?_
    refine WL.copyCel 0 hH27 [vI x.1, vI x.2] 82 rfl (by decide) rfl rfl rfl rfl Try.underlying88 sz83 rfl (by rw [show Nat.min 1 (n + 1 - i) = 1 from Nat.min_eq_left (by omega)]; rfl) (fun j v hj => by rw [Addr.add_lit]; exact HP.range hH27 1 rfl rfl j v hj) (by simp only [List.length_cons, List.length_nil]; omega) (by simp [Value.oneCell']) ?_
    intro w29 hCw29
    generalize ecur7 : (cur6.toList.take (i * 2) ++ [vI x.1, vI x.2] ++ cur6.toList.drop (i * 2 + [vI x.1, vI x.2].length)).toArray = cur7 at hCw29
    have scur7 : cur7.size = cur6.size := by rw [← ecur7, toL_size, app_len (by simp only [List.length_cons, List.length_nil, Array.length_toList]; omega), Array.length_toList]
    have hH30 : HP (Out [Go.Proofs.Ytmjnakhpekbenaa.Fw.Ent.cel g cur 83, Go.Proofs.Ytmjnakhpekbenaa.Fw.Ent.cel gb #[vI x.1, vI x.2] 83]) w _ [.cel g cur7 83, .cel gb #[vI x.1, vI x.2] 83] := hCw29
    refine WL.nil (WQ.then (hK28 _ _ _ (WC.seq fun K31 hK31 => WC.region ?_)))
    refine WL.z (v := vS g (n + 1) c) 83 ?_
    refine WL.z (v := vS g (n + 1) c) 6 ?_
    refine WL.nil (WQ.then (hK31 _ _ _ ?_))
    refine WC.sub (l' := [(0, vS g (n + 1) c), (1, vI (i : Int)), (2, vS gb 1 1), (6, vS g (n + 1) c), (7, vI 1), (8, vI (n : Int)), (16, .bool false), (22, .bool false), (31, .bool false), (68, .bool true)]) ⟨rfl, rfl, rfl, rfl, rfl, rfl, rfl, rfl, rfl, rfl, trivial⟩ ?_
    refine WC.ret ?_
    refine WQ.thenRet ?_
    refine WQ.ret1 6 rfl rfl ?_
    refine ⟨g, c, cur7, rfl, HP.drop hH30 1, by omega, by omega, hm, ?_⟩
    rw [← ecur7, ← ecur6]
    rw [show (i + 1) * 2 = i * 2 + 2 by omega, show (n + 1) * 2 = i * 2 + 2 + ((cur.toList.drop (i * 2)).take ((n - i) * 2)).length by rw [hcs]; omega]
    exact ins_room rfl (by rw [Array.length_toList]; omega)
set_option maxRecDepth 20000 in
set_option maxHeartbeats 4000000 in
theorem insE_any (pv : Option Addr) (cp gb : Nat) (t : List T2) (x : T2) (w : World) (hB : OwnB w [rowT pv t.length cp t, Go.Proofs.Ytmjnakhpekbenaa.Fw.Ent.cel gb #[vI x.1, vI x.2] 83]) (hn : t.length ≤ 1000000) :
    Calls Try.prog 85 #[.slice pv t.length cp, vI (t.length : Int), vS gb 1 1] w fun e w' => ∃ pv' cp', e = .returned (.slice pv' (t.length + 1) cp') ∧ HP (Out [rowT pv t.length cp t, Go.Proofs.Ytmjnakhpekbenaa.Fw.Ent.cel gb #[vI x.1, vI x.2] 83]) w w' [.own (.slice pv' (t.length + 1) cp') (t.length + 1) (tL (t ++ [(x.1, x.2)])) 83 2] := by
  refine calls_of Try.func85 rfl (m := 95) rfl [(0, .slice pv t.length cp), (1, vI (t.length : Int)), (2, vS gb 1 1)] (Fr_enter [.slice pv t.length cp, vI (t.length : Int), vS gb 1 1] 95 (Nat.le_of_ble_eq_true rfl)) ?_
  refine WC.seq fun K1 hK1 => WC.region ?_
  refine WL.z (v := .slice none 0 0) 6 ?_
  refine WL.nil (WQ.then (hK1 _ _ _ (WC.seq fun K2 hK2 => WC.region ?_)))
  refine WL.z (v := .slice pv t.length cp) 10 ?_
  refine WL.z (v := vI (t.length : Int)) 11 ?_
  obtain ⟨hle, hcm, -⟩ := own_le (HP.get (HP.startB hB) 0 rfl)
  obtain ⟨v12, hv12⟩ := x_sliceAny (P := Try.prog) (s := 2) (a := pv) t.length w Try.underlying88 sz83 rfl (Nat.le_refl _) hle
  refine WL.y (v := v12) 12 (hv12 rfl rfl rfl) ?_
  refine WL.nil (WQ.then (hK2 _ _ _ (WC.seq fun K3 hK3 => WC.region ?_)))
  refine WL.z (v := vS gb 1 1) 13 ?_
  refine WL.z (v := vI 1) 14 ?_
  refine WL.z (v := vI 1) 7 ?_
  refine WL.nil (WQ.then (hK3 _ _ _ (WC.seq fun K4 hK4 => WC.seq fun K5 hK5 => WC.region ?_)))
  refine WL.z (v := vI 1) 15 ?_
  refine WL.y (v := .bool false) 16 (x_eql rfl rfl rfl (by decide)) ?_
  refine WL.nil (WQ.then (hK5 _ _ _ ?_))
  refine WC.sub (l' := [(0, .slice pv t.length cp), (1, vI (t.length : Int)), (2, vS gb 1 1), (6, .slice none 0 0), (7, vI 1), (16, .bool false)]) ⟨rfl, rfl, rfl, rfl, rfl, rfl, trivial⟩ ?_
  refine WC.no rfl (WC.skip (WQ.then (hK4 _ _ _ (WC.seq fun K6 hK6 => WC.region ?_))))
  refine WL.z (v := .slice pv t.length cp) 18 ?_
  refine WL.z (v := vI (t.length : Int)) 19 ?_
  refine WL.z (v := vI (t.length : Int)) 8 ?_
  refine WL.nil (WQ.then (hK6 _ _ _ (WC.seq fun K7 hK7 => WC.seq fun K8 hK8 => WC.region ?_)))
  refine WL.z (v := vI (t.length : Int)) 20 ?_
  refine WL.z (v := vI (t.length : Int)) 21 ?_
  refine WL.y (v := .bool true) 22 (x_eql rfl rfl rfl (dT (rfl))) ?_
  refine WL.nil (WQ.then (hK8 _ _ _ (WC.yes rfl (WC.seq fun K9 hK9 => WC.region ?_))))
  refine WL.z (v := .slice pv t.length cp) 23 ?_
  refine WL.z (v := vS gb 1 1) 24 ?_
  obtain ⟨i0, hi0, hz0, hz1, hz2⟩ := infoT
  refine WL.append2 (news := [vI x.1, vI x.2]) 0 1 (HP.startB hB) 25 rfl (by decide) rfl rfl rfl rfl Try.underlying88 Try.underlying49 hi0 hz0 hz1 hz2 rfl (by decide) rfl rfl rfl rfl (by simp [Value.oneCell']) (by unfold maxLen; omega) (by omega) ?_
  rintro v7 w7 - hA7
  obtain ⟨pv7, cp7, rfl⟩ := own_row (HP.get hA7 0 rfl)
  have e7 : t.length + 1 = (t ++ [(x.1, x.2)]).length := (len1 _ _).symm
  rw [tL_push] at hA7
  have hH10 : HP (Out [rowT pv t.length cp t, Go.Proofs.Ytmjnakhpekbenaa.Fw.Ent.cel gb #[vI x.1, vI x.2] 83]) w _ [.own (.slice pv7 (t.length + 1) cp7) (t.length + 1) (tL (t ++ [(x.1, x.2)])) 83 2, .cel gb #[vI x.1, vI x.2] 83] := hA7
  refine WL.z (v := .slice pv7 (t.length + 1) cp7) 6 ?_
  refine WL.nil (WQ.then (hK9 _ _ _ ?_))
  refine WC.sub (l' := [(0, .slice pv t.length cp), (1, vI (t.length : Int)), (2, vS gb 1 1), (6, .slice pv7 (t.length + 1) cp7), (7, vI 1), (8, vI (t.length : Int)), (16, .bool false), (22, .bool true)]) ⟨rfl, rfl, rfl, rfl, rfl, rfl, rfl, rfl, trivial⟩ ?_
  refine WC.ret ?_
  refine WQ.thenRet ?_
  refine WQ.ret1 6 rfl rfl ?_
  exact ⟨pv7, cp7, rfl, HP.drop hH10 1⟩
theorem tL_take : ∀ (t : List T2) (i : Nat), (tL t).take (i * 2) = tL (t.take i)
  | [], i => by simp [tL]
  | p :: r, 0 => by simp [tL]
  | p :: r, i + 1 => by
    have h := tL_take r i
    rw [List.take_succ_cons, show (i + 1) * 2 = i * 2 + 1 + 1 by omega]
    show (vI p.1 :: vI p.2 :: tL r).take (i * 2 + 1 + 1) = vI p.1 :: vI p.2 :: tL (r.take i)
    rw [List.take_succ_cons, List.take_succ_cons, h]
theorem tL_drop : ∀ (t : List T2) (i : Nat), (tL t).drop (i * 2) = tL (t.drop i)
  | [], i => by simp [tL]
  | p :: r, 0 => by simp [tL]
  | p :: r, i + 1 => by
    have h := tL_drop r i
    rw [List.drop_succ_cons, show (i + 1) * 2 = i * 2 + 1 + 1 by omega]
    show (vI p.1 :: vI p.2 :: tL r).drop (i * 2 + 1 + 1) = tL (r.drop i)
    rw [List.drop_succ_cons, List.drop_succ_cons, h]
theorem tL_app (a c : List T2) : tL (a ++ c) = tL a ++ tL c := by simp [tL]
theorem insT_end (t : List T2) (x : T2) : insT t t.length x = t ++ [(x.1, x.2)] := by simp [insT]
/-- slices.Insert of one element -/
theorem Insert_any (pv : Option Addr) (cp gb i : Nat) (t : List T2) (x : T2) (w : World) (hB : OwnB w [rowT pv t.length cp t, Go.Proofs.Ytmjnakhpekbenaa.Fw.Ent.cel gb #[vI x.1, vI x.2] 83]) (hi : i ≤ t.length) (hn : t.length ≤ 1000000) :
    Calls Try.prog 85 #[.slice pv t.length cp, vI (i : Int), vS gb 1 1] w fun e w' => ∃ pv' cp', e = .returned (.slice pv' (insT t i x).length cp') ∧ HP (Out [rowT pv t.length cp t, Go.Proofs.Ytmjnakhpekbenaa.Fw.Ent.cel gb #[vI x.1, vI x.2] 83]) w w' [rowT pv' (insT t i x).length cp' (insT t i x)] := by
  rw [insT_len hi]
  by_cases he : i = t.length
  · subst he
    rw [insT_end]
    exact insE_any pv cp gb t x w hB hn
  · have h0 := HP.startB hB
    obtain ⟨hle, hcm, hpv⟩ := own_le (HP.get h0 0 rfl)
    obtain ⟨g, rfl⟩ : ∃ g, pv = some ⟨g, 0, none⟩ := by rcases hpv with h | h; omega; exact h
    obtain ⟨cur, hC, hnc, hcm, hcs, htk⟩ := HP.ownToCel h0 0 rfl
    have hne : gb ≠ g := fun e => (List.pairwise_cons.1 hB.2).1 (.cel gb #[vI x.1, vI x.2] 83) (by simp) g rfl (by rw [e]; rfl)
    have hB2 : OwnB w [Go.Proofs.Ytmjnakhpekbenaa.Fw.Ent.cel g cur 83, Go.Proofs.Ytmjnakhpekbenaa.Fw.Ent.cel gb #[vI x.1, vI x.2] 83] := HP.ownB (A := []) hC
    refine (insC_any g gb t.length cp i cur x w hB2 hcs (fun v hv => ?_) hne hnc hcm (by omega) hn).mono fun e w' h => ?_
    · rw [htk] at hv; exact tL_one t v hv
    · obtain ⟨g', c', cur', rfl, h1, h2, h3, h4, h5⟩ := h
      refine ⟨_, _, rfl, ?_⟩
      have e5 : cur'.toList.take ((t.length + 1) * 2) = tL (insT t i x) := by
        rw [h5]
        have e1 : cur.toList.take (i * 2) = tL (t.take i) := by
          rw [← tL_take, ← htk, List.take_take, Nat.min_eq_left (by omega)]
        have e2 : (cur.toList.drop (i * 2)).take ((t.length - i) * 2) = tL (t.drop i) := by
          rw [← tL_drop, ← htk, List.drop_take]
          congr 1; omega
        rw [e1, e2]; unfold insT; rw [tL_app]; simp [tL]
      have h6 := HP.celToOwn h1 0 (k := t.length + 1) (cap := c') (s := 2) rfl h3 h4 h2
      rw [e5] at h6
      refine HP.monoS h6 fun b hb e he' => ?_
      rcases List.mem_cons.1 he' with rfl | he'
      · exact hb (rowT (some ⟨g, 0, none⟩) t.length cp t) (by simp)
      · exact hb e (List.mem_cons_of_mem _ he')
theorem src_T {w : World} {a : Addr} {t : List T2} (h : InT w (some a) t) : ∀ q u, (tL t)[q]? = some u → w.cell? (a.add q) = some u := fun q u hq => by
  have hlt := (List.getElem?_eq_some_iff.1 hq).1
  rw [tL_len] at hlt
  obtain ⟨g, o, e, hr⟩ := h (by omega)
  cases e
  rw [hadd]
  have h2 := tL_at (t := t) (i := q / 2) (by omega)
  have h3 := hr (q / 2) (by omega)
  rcases Nat.mod_two_eq_zero_or_one q with h | h
  · have e : q / 2 * 2 = q := by omega
    rw [e] at h2 h3
    rw [h2.1] at hq
    exact h3 0 u (by simpa using hq)
  · have e : q / 2 * 2 + 1 = q := by omega
    rw [e] at h2
    rw [h2.2] at hq
    have h4 := h3 1 u (by simpa using hq)
    rwa [show o + q / 2 * 2 + 1 = o + q by omega] at h4
set_option maxRecDepth 20000 in
set_option maxHeartbeats 4000000 in
theorem CloneT_any (p : Option Addr) (t : List T2) (cp : Nat) (w : World) (hT : InT w p t) (hn : t.length ≤ 100000) :
    Calls Try.prog 84 #[.slice p t.length cp] w fun e w' => ∃ pv cp', e = .returned (.slice pv t.length cp') ∧ HP Tr w w' [rowT pv t.length cp' t] := by
  refine calls_of Try.func84 rfl (m := 8) rfl [(0, .slice p t.length cp)] (Fr_enter [.slice p t.length cp] 8 (Nat.le_of_ble_eq_true rfl)) ?_
  have hH1 : HP Tr w w [] := HP.refl w
  cases p with
  | none =>
    refine WC.seq fun K2 hK2 => WC.region ?_
    refine WL.z (v := .slice none 0 0) 2 ?_
    refine WL.nil (WQ.then (hK2 _ _ _ (WC.seq fun K3 hK3 => WC.seq fun K4 hK4 => WC.region ?_)))
    refine WL.z (v := .slice none t.length cp) 3 ?_
    refine WL.y (v := .bool true) 4 (x_eqlNil rfl rfl rfl Try.underlying88 (by kernel_rfl) rfl) ?_
    refine WL.nil (WQ.then (hK4 _ _ _ (WC.yes rfl (WC.seq fun K5 hK5 => WC.region ?_))))
    refine WL.z (v := .slice none 0 0) 2 ?_
    refine WL.nil (WQ.then (hK5 _ _ _ (WC.ret ?_)))
    refine WQ.thenRet ?_
    refine WQ.ret1 2 rfl rfl ?_
    obtain rfl : t = [] := by cases t with | nil => rfl | cons q r => obtain ⟨g, o, e, _⟩ := hT (by simp); cases e
    exact ⟨none, 0, rfl, HP.ownNil hH1 83 2⟩
  | some a =>
    refine WC.seq fun K6 hK6 => WC.region ?_
    refine WL.z (v := .slice none 0 0) 2 ?_
    refine WL.nil (WQ.then (hK6 _ _ _ (WC.seq fun K7 hK7 => WC.seq fun K8 hK8 => WC.region ?_)))
    refine WL.z (v := .slice (some a) t.length cp) 3 ?_
    refine WL.y (v := .bool false) 4 (x_eqlNil rfl rfl rfl Try.underlying88 (by kernel_rfl) rfl) ?_
    refine WL.nil (WQ.then (hK8 _ _ _ (WC.no rfl (WC.skip (WQ.then (hK7 _ _ _ (WC.seq fun K9 hK9 => ?_)))))))
    refine WC.region ?_
    refine WL.alloc (c := #[]) (T := 83) hH1 5 rfl (by decide) rfl rfl (fun b5 => vS b5 0 0) (by kernel_rfl) (fun b5 w10 hw10 => ?_)
    have hH11 : HP Tr w w10 [.cel b5 #[] 83] := hw10.2
    have nb5 := hw10.1
    clear hw10
    refine WL.z (v := .slice (some a) t.length cp) 6 ?_
    have hO9 := HP.celToOwn hH11 0 (k := 0) (cap := 0) (s := 2) rfl (Nat.le_refl _) (by decide) rfl
    have hH12 : HP Tr w _ [rowT (some ⟨b5, 0, none⟩) ([] : List T2).length 0 ([] : List T2)] := HP.eq hO9 rfl
    obtain ⟨i0, hi0, hz0, hz1, hz2⟩ := infoT
    refine WL.appendSrc (tL t) 0 hH12 7 rfl (by decide) rfl rfl rfl rfl Try.underlying88 hi0 hz0 hz1 hz2 rfl (by decide) rfl (.inl ⟨a, rfl, src_T (hT.below (HP.below hH12))⟩) (tL_len t) (tL_one t) (by unfold maxLen; simp only [List.length_nil]; omega) (by simp only [List.length_nil]; omega) ?_
    rintro v7 w7 - hA7
    obtain ⟨pv7, cp7, rfl⟩ := own_row (HP.get hA7 0 rfl)
    rw [show ([] : List T2).length + t.length = t.length from Nat.zero_add _, show tL ([] : List T2) ++ tL t = tL t from rfl] at hA7
    rw [show ([] : List T2).length + t.length = t.length from Nat.zero_add _]
    have hH13 : HP Tr w _ [rowT pv7 t.length cp7 t] := hA7
    refine WL.z (v := .slice pv7 t.length cp7) 2 ?_
    refine WL.nil (WQ.then (hK9 _ _ _ (WC.ret ?_)))
    refine WQ.ret1 2 rfl rfl ?_
    exact ⟨pv7, cp7, rfl, hH13⟩
end Ca
end Go.Proofs.Ytmjnakhpekbenaa
namespace Go.Proofs.Ytmjnakhpekbenaa
open Go.RowKit Fw
namespace Ca
theorem rJ_nil : ∀ t : List T2, rJ true t [] = t
  | [] => by rw [rJ]
  | p :: r => by rw [rJ, rJ_nil r]; rfl
theorem take_snoc {u : List T2} {i : Nat} (h : i < u.length) : u.take (i + 1) = u.take i ++ [(lnT u i, agT u i)] := by
  rw [List.take_succ_eq_append_getElem h, lnT_get h, agT_get h]
theorem sT_take {u : List T2} (h : sT u) (i : Nat) : sT (u.take i) := List.Pairwise.sublist (List.take_sublist i u) h
theorem rJ_len : ∀ (may : Bool) (t u : List T2), (rJ may t u).length ≤ t.length + u.length
  | may, [], [] => by rw [rJ]; simp
  | may, p :: r, [] => by
    have := rJ_len may r []
    rw [rJ]; cases may <;> simp at this ⊢ <;> omega
  | may, [], q :: v => by
    have := rJ_len may [] v
    rw [rJ]; cases may <;> simp at this ⊢ <;> omega
  | may, p :: r, q :: v => by
    have h1 := rJ_len may r (q :: v)
    have h2 := rJ_len may (p :: r) v
    have h3 := rJ_len may r v
    rw [rJ]; split
    · cases may <;> simp at h1 ⊢ <;> omega
    · split
      · cases may <;> simp at h2 ⊢ <;> omega
      · simp at h3 ⊢; omega
termination_by _ t u => t.length + u.length
theorem cur_at {cur : Array Value} {t : List T2} {k : Nat} (h : cur.toList.take (t.length * 2) = tL t) (hk : k < t.length) : cur[k * 2 + 1]? = some (vI (agT t k)) := by
  have h2 := (tL_at hk).2
  rw [← h, List.getElem?_take] at h2
  split at h2
  · rw [← Array.getElem?_toList]; exact h2
  · cases h2
theorem cur_set {cur : Array Value} {t : List T2} {k : Nat} {v : Int} (h : cur.toList.take (t.length * 2) = tL t) (hk : k < t.length) : (cur.setIfInBounds (k * 2 + 1) (vI v)).toList.take (t.length * 2) = tL (t.set k (lnT t k, v)) := by
  have e1 : tL (t.set k (lnT t k, v)) = (tL t).set (k * 2 + 1) (vI v) := by
    refine List.ext_getElem? fun j => ?_
    by_cases hj : j / 2 < t.length
    · have g1 := tL_at (t := t) (i := j / 2) hj
      have g2 := tL_at (t := t.set k (lnT t k, v)) (i := j / 2) (by simpa using hj)
      rw [List.getElem?_set]
      have hl : k * 2 + 1 < (tL t).length := by rw [tL_len]; omega
      rcases Nat.mod_two_eq_zero_or_one j with h | h
      · have e : j / 2 * 2 = j := by omega
        rw [e] at g1 g2
        rw [g2.1, if_neg (by omega), g1.1]
        congr 2
        simp only [List.getD_eq_getElem?_getD, List.getElem?_set]
        split
        · rename_i q; subst q; simp [hj, lnT, List.getD_eq_getElem?_getD]
        · rfl
      · have e : j / 2 * 2 + 1 = j := by omega
        rw [e] at g1 g2
        rw [g2.2]
        by_cases q : k = j / 2
        · rw [if_pos (by omega), if_pos (by omega)]
          congr 2
          simp only [List.getD_eq_getElem?_getD, List.getElem?_set]
          rw [if_pos q, if_pos (by omega)]; rfl
        · rw [if_neg (by omega), g1.2]
          congr 2
          simp only [List.getD_eq_getElem?_getD, List.getElem?_set]
          rw [if_neg q]
    · rw [List.getElem?_eq_none (by rw [tL_len, List.length_set]; omega), List.getElem?_eq_none (by rw [List.length_set, tL_len]; omega)]
  rw [e1, ← h, Array.toList_setIfInBounds, List.take_set]
set_option maxRecDepth 20000 in
set_option maxHeartbeats 4000000 in
theorem joinMay_any (p p2 : Option Addr) (t u : List T2) (cp cp2 : Nat) (w : World) (hT : InT w p t) (hU : InT w p2 u) (hn : t.length ≤ 100000) (hn2 : u.length ≤ 100000) (hs : sT t) (hs2 : sT u) :
    Calls Try.prog 65 #[.slice p t.length cp, .slice p2 u.length cp2] w fun e w' => ∃ pv cp', e = .returned (.slice pv (rJ true t u).length cp') ∧ HP Tr w w' [rowT pv (rJ true t u).length cp' (rJ true t u)] := by
  refine calls_of Try.func65 rfl (m := 45) rfl [(0, .slice p t.length cp), (1, .slice p2 u.length cp2)] (Fr_enter [.slice p t.length cp, .slice p2 u.length cp2] 45 (Nat.le_of_ble_eq_true rfl)) ?_
  have hH1 : HP Tr w w [] := HP.refl w
  refine WC.seq fun K2 hK2 => WC.region ?_
  refine WL.z (v := .slice none 0 0) 4 ?_
  refine WL.nil (WQ.then (hK2 _ _ _ (WC.seq fun K3 hK3 => WC.region ?_)))
  refine WL.z (v := .slice p t.length cp) 10 ?_
  refine WL.call (f := 84) (args := #[.slice p t.length cp]) 11 rfl (Nat.le_of_ble_eq_true rfl) rfl rfl (by kernel_rfl) ?_
  refine (CloneT_any p t cp _ (hT.below (HP.below hH1)) hn).mono ?_
  rintro e w3 ⟨pv0, cp0, rfl, hb⟩
  refine ⟨_, rfl, ?_⟩
  have hH4 : HP Tr w _ [rowT pv0 t.length cp0 t] := HP.trans hH1 hb
  refine WL.z (v := .slice pv0 t.length cp0) 5 ?_
  refine WL.nil (WQ.then (hK3 _ _ _ (WC.seq fun K5 hK5 => WC.seq fun K6 hK6 => WC.region ?_)))
  refine WL.z (v := .slice p2 u.length cp2) 12 ?_
  refine WL.z (v := vI (u.length : Int)) 13 ?_
  refine WL.z (v := vI 0) 14 ?_
  refine WL.nil (WQ.then (hK6 _ _ _ (WC.block ?_)))
  refine WC.loop (fun kk0 ll0 ww0 => ∃ (i : Nat) (A : List T2) (pv : Option Addr) (cp3 : Nat), ll0 = [(0, .slice p t.length cp), (1, .slice p2 u.length cp2), (5, .slice pv A.length cp3), (12, .slice p2 u.length cp2), (13, vI (u.length : Int)), (14, vI (i : Int))] ∧ kk0 = u.length - i ∧ (i ≤ u.length) ∧ (A = rJ true t (u.take i)) ∧ HP Tr w ww0 [rowT pv A.length cp3 A]) (u.length) [(0, .slice p t.length cp), (1, .slice p2 u.length cp2), (5, .slice pv0 t.length cp0), (12, .slice p2 u.length cp2), (13, vI (u.length : Int)), (14, vI 0)] ⟨rfl, rfl, rfl, rfl, rfl, rfl, trivial⟩ ⟨0, t, pv0, cp0, rfl, rfl, Nat.zero_le _, by rw [List.take_zero, rJ_nil], hH4⟩ ?_
  rintro kk l w8 ⟨i, A, pv, cp3, rfl, hkk, hi, hA, hH9⟩ K7 hK7
  refine WC.seq fun K10 hK10 => WC.region ?_
  by_cases h15 : (i : Int) < (u.length : Int)
  ·
    refine WL.y (v := .bool true) 15 (x_lss rfl rfl rfl (dT (h15))) ?_
    refine WL.nil (WQ.then (hK10 _ _ _ (WC.seq fun K11 hK11 => WC.yes rfl (WC.skip (WQ.then (hK11 _ _ _ ?_))))))
    refine WC.seq fun K12 hK12 => WC.block (WC.seq fun K13 hK13 => ?_)
    obtain ⟨g2, o2, rfl, hrow2⟩ := hU (by omega)
    refine WC.region ?_
    refine WL.y (v := vP g2 (o2 + i * 2)) 16 (x_idx (i) (o2 + i * 2) rfl rfl rfl Try.underlying88 sz83 (by omega) (by omega) (by omega)) ?_
    refine WL.y (v := .agg #[vI (lnT u i), vI (agT u i)]) 17 (x_loadS (cs := [vI (lnT u i), vI (agT u i)]) rfl rfl Try.underlying83 rfl sz83 (HP.oldRange hH9 trivial (hrow2 i (by omega)))) ?_
    refine WL.alloc (c := #[vI 0, vI 0]) (T := 83) hH9 7 rfl (by decide) rfl rfl (fun b7 => vP b7 0) (by kernel_rfl) (fun b7 w14 hw14 => ?_)
    have hH15 : HP Tr w w14 [rowT pv A.length cp3 A, .cel b7 #[vI 0, vI 0] 83] := hw14.2
    have nb7 := hw14.1
    clear hw14
    refine WL.storeS (H2 := [rowT pv A.length cp3 A, .cel b7 #[vI (lnT u i), vI (agT u i)] 83]) 1 hH15 rfl rfl rfl rfl rfl rfl sz83 rfl (Nat.le_of_ble_eq_true rfl) rfl rfl ?_
    intro w16 hH17
    refine WL.nil (WQ.then (hK13 _ _ _ (WC.seq fun K18 hK18 => WC.region ?_)))
    refine WL.z (v := .slice pv A.length cp3) 19 ?_
    refine WL.y (v := vP b7 0) 20 (x_idxArr (0) (0) rfl rfl rfl Try.underlying83 sz3 (by omega) (by omega) (by omega)) ?_
    refine WL.y (v := vI (lnT u i)) 21 (x_load rfl rfl Try.underlying3 rfl (HP.cell hH17 1 rfl rfl)) ?_
    have hAs : sT A := by rw [hA]; exact sT_rJ hs (sT_take hs2 i)
    have hA9 := rJ_len true t (u.take i)
    rw [← hA, List.length_take] at hA9
    refine WL.call (f := 83) (args := #[.slice pv A.length cp3, vI (lnT u i)]) 22 rfl (Nat.le_of_ble_eq_true rfl) rfl rfl (by kernel_rfl) ?_
    refine (find_any _ A _ _ (InT.own (HP.get hH17 0 rfl)) (lnT u i) (by omega)).mono ?_
    rintro e w19 ⟨k, fb, rfl, hk1, hk2, hk3, hfb, hb20⟩
    refine ⟨_, rfl, ?_⟩
    have hH21 : HP Tr w _ [rowT pv A.length cp3 A, .cel b7 #[vI (lnT u i), vI (agT u i)] 83] := HP.call hH17 hb20
    refine WL.z (v := .tuple #[vI (k : Int), .bool fb]) 18 ?_
    refine WL.z (v := vI (k : Int)) 23 ?_
    refine WL.z (v := .bool fb) 24 ?_
    refine WL.z (v := vI (k : Int)) 8 ?_
    refine WL.z (v := .bool fb) 9 ?_
    refine WL.nil (WQ.then (hK18 _ _ _ ?_))
    refine WC.sub (l' := [(0, .slice p t.length cp), (1, .slice (some ⟨g2, o2, none⟩) u.length cp2), (5, .slice pv A.length cp3), (7, vP b7 0), (8, vI (k : Int)), (9, .bool fb), (12, .slice (some ⟨g2, o2, none⟩) u.length cp2), (13, vI (u.length : Int)), (14, vI (i : Int)), (15, .bool true)]) ⟨rfl, rfl, rfl, rfl, rfl, rfl, rfl, rfl, rfl, rfl, trivial⟩ ?_
    refine WC.seq fun K22 hK22 => WC.seq fun K23 hK23 => WC.region ?_
    refine WL.z (v := .bool fb) 25 ?_
    refine WL.nil (WQ.then (hK23 _ _ _ ?_))
    rcases Bool.eq_false_or_eq_true (fb) with c_fb | c_fb
    ·
      rw [c_fb] at hfb
      obtain ⟨hk4, hk5⟩ := of_decide_eq_true hfb.symm
      obtain ⟨-, -, hpv⟩ := own_le (HP.get hH21 0 rfl)
      obtain ⟨ga, rfl⟩ : ∃ g, pv = some ⟨g, 0, none⟩ := by rcases hpv with h | h; omega; exact h
      obtain ⟨cur, hC9, hnc, hcm, hcs, htk⟩ := HP.ownToCel hH21 0 rfl
      have hcell := cur_at htk hk4
      have hH24 : HP Tr w _ [.cel ga cur 83, .cel b7 #[vI (lnT u i), vI (agT u i)] 83] := hC9
      refine WC.yes (congrArg (fun b => some (Value.bool b)) c_fb) ?_
      refine WC.seq fun K25 hK25 => ?_
      refine WC.confG (γ := Unit) [(25, .bool fb), (0, .slice p t.length cp), (1, .slice (some ⟨g2, o2, none⟩) u.length cp2), (5, vS ga A.length cp3), (7, vP b7 0), (8, vI (k : Int)), (9, .bool fb), (12, .slice (some ⟨g2, o2, none⟩) u.length cp2), (13, vI (u.length : Int)), (14, vI (i : Int)), (15, .bool true)] (fun gy => [vS ga A.length cp3, vI (k : Int), vS ga A.length cp3, vI (k : Int), vP ga (k * 2), vP ga (k * 2 + 1), vI (agT A k), vP b7 1, vI (agT u i), vI (min (agT A k) (agT u i)), vP ga (k * 2), vP ga (k * 2 + 1), undef]) (fun gy D wz => HP Tr w wz [(bif D 12 then Ent.cel ga (cur.setIfInBounds (k * 2 + 1) (vI (min (agT A k) (agT u i)))) 83 else Ent.cel ga cur 83), .cel b7 #[vI (lnT u i), vI (agT u i)] 83]) () (by kernel_rfl) ⟨rfl, rfl, rfl, rfl, rfl, rfl, rfl, rfl, rfl, rfl, rfl, trivial⟩ (by kernel_rfl) (by kernel_rfl) (by kernel_rfl) (fun _ => rfl) (by kernel_rfl) (HP.drew hH24) ?_ ?_
      · refine AllOk.cons ?o0 (AllOk.cons ?o1 (AllOk.cons ?o2 (AllOk.cons ?o3 (AllOk.cons ?o4 (AllOk.cons ?o5 (AllOk.cons ?o6 (AllOk.cons ?o7 (AllOk.cons ?o8 (AllOk.cons ?o9 (AllOk.cons ?o10 (AllOk.cons ?o11 (AllOk.cons ?o12 (AllOk.nil _)))))))))))))
        case o0 =>
          intro gy D wz hDi hdep hclo hW
          exact .inl ⟨rfl, rfl, .inl ⟨gy, wz, fun _ _ => rfl, by kernel_rfl, hW⟩⟩
        case o1 =>
          intro gy D wz hDi hdep hclo hW
          exact .inl ⟨rfl, rfl, .inl ⟨gy, wz, fun _ _ => rfl, by kernel_rfl, hW⟩⟩
        case o2 =>
          intro gy D wz hDi hdep hclo hW
          exact .inl ⟨rfl, rfl, .inl ⟨gy, wz, fun _ _ => rfl, by kernel_rfl, hW⟩⟩
        case o3 =>
          intro gy D wz hDi hdep hclo hW
          exact .inl ⟨rfl, rfl, .inl ⟨gy, wz, fun _ _ => rfl, by kernel_rfl, hW⟩⟩
        case o4 =>
          intro gy D wz hDi hdep hclo hW
          exact .inl ⟨rfl, rfl, .inl ⟨gy, wz, fun _ _ => rfl, x_idx (k) (k * 2) rfl rfl rfl Try.underlying88 sz83 (by omega) (hk4) (by omega), hW⟩⟩
        case o5 =>
          intro gy D wz hDi hdep hclo hW
          exact .inl ⟨rfl, rfl, .inl ⟨gy, wz, fun _ _ => rfl, x_idxArr (1) (k * 2 + 1) rfl rfl rfl Try.underlying83 sz3 (by omega) (by omega) (by omega), hW⟩⟩
        case o6 =>
          intro gy D wz hDi hdep hclo hW
          have d12 : D 12 = false := by
            cases h : D 12 with
            | false => rfl
            | true => exact absurd (hclo 12 _ rfl h ⟨6, .phase⟩ (by simp) rfl) (by rw [hDi]; exact Bool.false_ne_true)
          have hW2 := hW
          simp only [d12, cond_false] at hW2
          exact .inl ⟨rfl, rfl, .inl ⟨gy, wz, fun _ _ => rfl, x_load rfl rfl Try.underlying3 rfl (HP.cell hW2 0 rfl hcell), hW⟩⟩
        case o7 =>
          intro gy D wz hDi hdep hclo hW
          exact .inl ⟨rfl, rfl, .inl ⟨gy, wz, fun _ _ => rfl, x_idxArr (1) (1) rfl rfl rfl Try.underlying83 sz3 (by omega) (by omega) (by omega), hW⟩⟩
        case o8 =>
          intro gy D wz hDi hdep hclo hW
          exact .inl ⟨rfl, rfl, .inl ⟨gy, wz, fun _ _ => rfl, x_load rfl rfl Try.underlying3 rfl (HP.cell hW 1 rfl rfl), hW⟩⟩
        case o9 =>
          intro gy D wz hDi hdep hclo hW
          exact .inl ⟨rfl, rfl, .inl ⟨gy, wz, fun _ _ => rfl, x_min (Z := min (agT A k) (agT u i)) (t := 0) rfl rfl rfl (by simp only [Int.min_def]; split <;> split <;> omega), hW⟩⟩
        case o10 =>
          intro gy D wz hDi hdep hclo hW
          exact .inl ⟨rfl, rfl, .inl ⟨gy, wz, fun _ _ => rfl, x_idx (k) (k * 2) rfl rfl rfl Try.underlying88 sz83 (by omega) (hk4) (by omega), hW⟩⟩
        case o11 =>
          intro gy D wz hDi hdep hclo hW
          exact .inl ⟨rfl, rfl, .inl ⟨gy, wz, fun _ _ => rfl, x_idxArr (1) (k * 2 + 1) rfl rfl rfl Try.underlying83 sz3 (by omega) (by omega) (by omega), hW⟩⟩
        case o12 =>
          intro gy D wz hDi hdep hclo hW
          have hW9 := hW
          simp only [hDi, cond_false] at hW9
          have h4 := HP.set (off := k * 2 + 1) (v := vI (min (agT A k) (agT u i))) hW9 0 rfl
          exact .inl ⟨rfl, rfl, .inr (.inl ⟨_, x_store rfl rfl rfl sz3 rfl (HP.cell hW9 0 rfl hcell) (HP.free hW9 0 rfl), rfl, h4⟩)⟩
      rintro gy D w26 hall hH27
      simp only [hall 12 (by kernel_rfl), cond_true, List.append_nil, List.nil_append, List.cons_append] at hH27
      clear hall
      refine WQ.sub (l' := [(0, .slice p t.length cp), (1, .slice (some ⟨g2, o2, none⟩) u.length cp2), (5, vS ga A.length cp3), (7, vP b7 0), (8, vI (k : Int)), (9, .bool fb), (12, .slice (some ⟨g2, o2, none⟩) u.length cp2), (13, vI (u.length : Int)), (14, vI (i : Int)), (15, .bool true), (25, .bool fb)]) ⟨rfl, rfl, rfl, rfl, rfl, rfl, rfl, rfl, rfl, rfl, rfl, trivial⟩ ?_
      refine WQ.then (hK25 _ _ _ (WC.exit (WQ.thenExit (WQ.inExit (WQ.then (hK12 _ _ _ (WC.region ?_)))))))
      refine WL.y (v := vI ((i + 1 : Nat) : Int)) 43 (x_add (Z := ((i + 1 : Nat) : Int)) rfl rfl rfl (by omega) (by omega) (by omega)) ?_
      refine WL.z (v := vI ((i + 1 : Nat) : Int)) 14 ?_
      refine WL.nil ?_
      have hO9 := HP.celToOwn (HP.drop hH27 1) 0 (k := A.length) (cap := cp3) (s := 2) rfl hnc hcm (by simp; exact hcs)
      rw [cur_set htk hk4] at hO9
      have hl9 : A.length = (A.set k (lnT A k, min (agT A k) (agT u i))).length := by rw [List.length_set]
      rw [show vS ga A.length cp3 = vS ga (A.set k (lnT A k, min (agT A k) (agT u i))).length cp3 by rw [List.length_set]]
      refine WQ.sub (l' := [(0, .slice p t.length cp), (1, .slice (some ⟨g2, o2, none⟩) u.length cp2), (5, .slice (some ⟨ga, 0, none⟩) ((A.set k (lnT A k, min (agT A k) (agT u i))).length) cp3), (12, .slice (some ⟨g2, o2, none⟩) u.length cp2), (13, vI (u.length : Int)), (14, vI ((i + 1 : Nat) : Int))]) ⟨rfl, rfl, rfl, rfl, rfl, rfl, trivial⟩ ?_
      refine WQ.then (hK7 _ _ _ (by omega) ⟨i + 1, (A.set k (lnT A k, min (agT A k) (agT u i))), (some ⟨ga, 0, none⟩), cp3, rfl, rfl, by omega, by rw [take_snoc (by omega), rJ_snoc hs (by rw [← take_snoc (by omega)]; exact sT_take hs2 _), ← hA]; have h9 := set_rJ (x := (lnT u i, agT u i)) hAs hk4 hk5; rw [hk5]; exact h9, (HP.eq hO9 (by rw [List.length_set]; rfl))⟩)
    ·
      rw [c_fb] at hfb
      have hno := of_decide_eq_false hfb.symm
      have hlt9 : k < A.length → lnT u i < lnT A k := fun h9 => by have h8 := hk3 h9; by_cases e : lnT A k = lnT u i; exact absurd ⟨h9, e⟩ hno; omega
      refine WC.no (congrArg (fun b => some (Value.bool b)) c_fb) ?_
      refine WC.skip (WQ.then (hK22 _ _ _ (WC.region ?_)))
      refine WL.z (v := .slice pv A.length cp3) 38 ?_
      refine WL.z (v := vI (k : Int)) 39 ?_
      refine WL.y (v := .agg #[vI (lnT u i), vI (agT u i)]) 40 (x_loadS (cs := [vI (lnT u i), vI (agT u i)]) rfl rfl Try.underlying83 rfl sz83 (HP.range hH21 1 rfl rfl)) ?_
      refine WL.alloc (c := #[vI (lnT u i), vI (agT u i)]) (T := 83) hH21 41 rfl (by decide) rfl rfl (fun b41 => vS b41 1 1) (by kernel_rfl) (fun b41 w28 hw28 => ?_)
      have hH29 : HP Tr w w28 [rowT pv A.length cp3 A, .cel b7 #[vI (lnT u i), vI (agT u i)] 83, .cel b41 #[vI (lnT u i), vI (agT u i)] 83] := hw28.2
      have nb41 := hw28.1
      clear hw28
      have hP9 := HP.perm hH29 (List.Perm.cons _ (List.Perm.swap _ _ _))
      refine WL.call (f := 85) (args := #[.slice pv A.length cp3, vI (k : Int), vS b41 1 1]) 42 rfl (Nat.le_of_ble_eq_true rfl) rfl rfl (by kernel_rfl) ?_
      refine (Insert_any pv cp3 b41 k A (lnT u i, agT u i) _ (HP.ownF (A := [rowT pv A.length cp3 A, Go.Proofs.Ytmjnakhpekbenaa.Fw.Ent.cel b41 #[vI (lnT u i), vI (agT u i)] 83]) (B := [Go.Proofs.Ytmjnakhpekbenaa.Fw.Ent.cel b7 #[vI (lnT u i), vI (agT u i)] 83]) hP9) hk1 (by omega)).mono ?_
      rintro e w6 ⟨pv6, cp6, rfl, hb6⟩
      refine ⟨_, rfl, ?_⟩
      have hH30 : HP Tr w _ [rowT pv6 (insT A k (lnT u i, agT u i)).length cp6 (insT A k (lnT u i, agT u i))] := HP.sub (HP.exchF (A := [rowT pv A.length cp3 A, Go.Proofs.Ytmjnakhpekbenaa.Fw.Ent.cel b41 #[vI (lnT u i), vI (agT u i)] 83]) (B := [Go.Proofs.Ytmjnakhpekbenaa.Fw.Ent.cel b7 #[vI (lnT u i), vI (agT u i)] 83]) hP9 hb6) (List.Sublist.cons_cons _ (List.nil_sublist _))
      refine WL.z (v := .slice pv6 ((insT A k (lnT u i, agT u i)).length) cp6) 5 ?_
      refine WL.nil (WQ.inNormal (WQ.then (hK12 _ _ _ ?_)))
      refine WC.sub (l' := [(0, .slice p t.length cp), (1, .slice (some ⟨g2, o2, none⟩) u.length cp2), (5, .slice pv6 ((insT A k (lnT u i, agT u i)).length) cp6), (7, vP b7 0), (8, vI (k : Int)), (9, .bool fb), (12, .slice (some ⟨g2, o2, none⟩) u.length cp2), (13, vI (u.length : Int)), (14, vI (i : Int)), (15, .bool true), (25, .bool fb)]) ⟨rfl, rfl, rfl, rfl, rfl, rfl, rfl, rfl, rfl, rfl, rfl, trivial⟩ ?_
      refine WC.region ?_
      refine WL.y (v := vI ((i + 1 : Nat) : Int)) 43 (x_add (Z := ((i + 1 : Nat) : Int)) rfl rfl rfl (by omega) (by omega) (by omega)) ?_
      refine WL.z (v := vI ((i + 1 : Nat) : Int)) 14 ?_
      refine WL.nil ?_
      refine WQ.sub (l' := [(0, .slice p t.length cp), (1, .slice (some ⟨g2, o2, none⟩) u.length cp2), (5, .slice pv6 ((insT A k (lnT u i, agT u i)).length) cp6), (12, .slice (some ⟨g2, o2, none⟩) u.length cp2), (13, vI (u.length : Int)), (14, vI ((i + 1 : Nat) : Int))]) ⟨rfl, rfl, rfl, rfl, rfl, rfl, trivial⟩ ?_
      refine WQ.then (hK7 _ _ _ (by omega) ⟨i + 1, (insT A k (lnT u i, agT u i)), pv6, cp6, rfl, rfl, by omega, by rw [take_snoc (by omega), rJ_snoc hs (by rw [← take_snoc (by omega)]; exact sT_take hs2 _), ← hA]; exact ins_rJ (x := (lnT u i, agT u i)) hAs hk1 hk2 hlt9, hH30⟩)
  ·
    refine WL.y (v := .bool false) 15 (x_lss rfl rfl rfl (dF (h15))) ?_
    refine WL.nil (WQ.then (hK10 _ _ _ (WC.seq fun K31 hK31 => WC.no rfl (WC.exit (WQ.thenExit (WQ.thenExit ?_))))))
    refine WQ.inExit (WQ.then (hK5 _ _ _ (WC.seq fun K32 hK32 => ?_)))
    have hR : rJ true t u = A := by rw [hA, List.take_of_length_le (by omega)]
    refine WC.region ?_
    refine WL.z (v := .slice pv A.length cp3) 44 ?_
    refine WL.z (v := .slice pv A.length cp3) 4 ?_
    refine WL.nil (WQ.then (hK32 _ _ _ (WC.ret ?_)))
    refine WQ.ret1 4 rfl rfl ?_
    exact ⟨pv, cp3, by rw [hR], by rw [hR]; exact HP.eq hH9 rfl⟩
/-- what a join answers -/
def JoR (s y l m : Int) (t u J : List T2) (w : World) (e : Ending) (w' : World) : Prop :=
  ((okT s y l m t && okT s y l m u) = false ∧ e = .returned (.tuple #[.slice none 0 0, vI 1]) ∧ Below w.heap.size w w') ∨
  ((okT s y l m t && okT s y l m u) = true ∧ ∃ pv cp', e = .returned (.tuple #[.slice pv J.length cp', vI 0]) ∧ HP Tr w w' [rowT pv J.length cp' J])
set_option maxRecDepth 20000 in
set_option maxHeartbeats 4000000 in
theorem joined0_any (p p2 : Option Addr) (t u : List T2) (cp cp2 : Nat) (s y l m : Int) (w : World) (hT : InT w p t) (hU : InT w p2 u) (hn : t.length ≤ 281474976710656) (hn2 : u.length ≤ 281474976710656) :
    Calls Try.prog 62 #[.agg #[vI s, vI y, vI l, vI m], .slice p t.length cp, .slice p2 u.length cp2, .func (.func 63) #[] #[]] w (JoR s y l m t u (jM t u) w) := by
  refine calls_of Try.func62 rfl (m := 24) rfl [(0, .agg #[vI s, vI y, vI l, vI m]), (1, .slice p t.length cp), (2, .slice p2 u.length cp2), (3, .func (.func 63) #[] #[])] (Fr_enter [.agg #[vI s, vI y, vI l, vI m], .slice p t.length cp, .slice p2 u.length cp2, .func (.func 63) #[] #[]] 24 (Nat.le_of_ble_eq_true rfl)) ?_
  have hH1 : HP Tr w w [] := HP.refl w
  refine WC.seq fun K2 hK2 => WC.region ?_
  refine WL.alloc (c := #[vI s, vI y, vI l, vI m]) (T := 23) hH1 4 rfl (by decide) rfl rfl (fun b4 => vP b4 0) (by kernel_rfl) (fun b4 w3 hw3 => ?_)
  have hH4 : HP Tr w w3 [.cel b4 #[vI s, vI y, vI l, vI m] 23] := hw3.2
  have nb4 := hw3.1
  clear hw3
  refine WL.z (v := .slice none 0 0) 8 ?_
  refine WL.z (v := vI 0) 9 ?_
  refine WL.nil (WQ.then (hK2 _ _ _ (WC.seq fun K5 hK5 => WC.seq fun K6 hK6 => WC.region ?_)))
  refine WL.y (v := .agg #[vI s, vI y, vI l, vI m]) 10 (x_loadS (cs := [vI s, vI y, vI l, vI m]) rfl rfl Try.underlying23 rfl sz23 (HP.range hH4 0 rfl rfl)) ?_
  refine WL.z (v := .slice p t.length cp) 11 ?_
  rcases Bool.eq_false_or_eq_true (okT s y l m t) with hok1 | hok1
  ·
    refine WL.call (f := 66) (args := #[.agg #[vI s, vI y, vI l, vI m], .slice p t.length cp]) 12 rfl (Nat.le_of_ble_eq_true rfl) rfl rfl (by kernel_rfl) ?_
    refine (validTable_any s y l m _ t _ _ (hT.below (HP.below hH4)) hn).mono ?_
    rw [hok1]
    rintro e w7 ⟨rfl, hb9⟩
    refine ⟨_, rfl, ?_⟩
    have hH8 : HP Tr w _ [.cel b4 #[vI s, vI y, vI l, vI m] 23] := HP.call hH4 hb9
    have hV1 := ok_VT hok1
    have hl1 := hV1.len
    refine WL.z (v := .bool false) 13 ?_
    refine WL.z (v := .bool false) 14 ?_
    refine WL.y (v := .agg #[vI s, vI y, vI l, vI m]) 15 (x_loadS (cs := [vI s, vI y, vI l, vI m]) rfl rfl Try.underlying23 rfl sz23 (HP.range hH8 0 rfl rfl)) ?_
    refine WL.z (v := .slice p2 u.length cp2) 16 ?_
    rcases Bool.eq_false_or_eq_true (okT s y l m u) with hok2 | hok2
    ·
      refine WL.call (f := 66) (args := #[.agg #[vI s, vI y, vI l, vI m], .slice p2 u.length cp2]) 17 rfl (Nat.le_of_ble_eq_true rfl) rfl rfl (by kernel_rfl) ?_
      refine (validTable_any s y l m _ u _ _ (hU.below (HP.below hH8)) hn2).mono ?_
      rw [hok2]
      rintro e w9 ⟨rfl, hb9⟩
      refine ⟨_, rfl, ?_⟩
      have hH10 : HP Tr w _ [.cel b4 #[vI s, vI y, vI l, vI m] 23] := HP.call hH8 hb9
      have hV2 := ok_VT hok2
      have hl2 := hV2.len
      refine WL.z (v := .bool false) 18 ?_
      refine WL.z (v := .bool false) 19 ?_
      refine WL.nil (WQ.then (hK6 _ _ _ ?_))
      refine WC.sub (l' := [(0, .agg #[vI s, vI y, vI l, vI m]), (1, .slice p t.length cp), (2, .slice p2 u.length cp2), (3, .func (.func 63) #[] #[]), (4, vP b4 0), (8, .slice none 0 0), (9, vI 0), (19, .bool false)]) ⟨rfl, rfl, rfl, rfl, rfl, rfl, rfl, rfl, trivial⟩ ?_
      refine WC.no rfl (WC.skip (WQ.then (hK5 _ _ _ (WC.seq fun K11 hK11 => WC.region ?_))))
      refine WL.z (v := .func (.func 63) #[] #[]) 20 ?_
      refine WL.z (v := .slice p t.length cp) 21 ?_
      refine WL.z (v := .slice p2 u.length cp2) 22 ?_
      refine WL.call (f := 63) (args := #[.slice p t.length cp, .slice p2 u.length cp2]) 23 rfl (Nat.le_of_ble_eq_true rfl) rfl rfl (by kernel_rfl) ?_
      refine (joinMust_any p p2 t u cp cp2 _ (hT.below (HP.below hH10)) (hU.below (HP.below hH10)) (by omega) (by omega) hV2.so).mono ?_
      rintro e w12 ⟨pv, cp9, rfl, hb13⟩
      refine ⟨_, rfl, ?_⟩
      have hH14 : HP Tr w _ [.cel b4 #[vI s, vI y, vI l, vI m] 23, rowT pv (jM t u).length cp9 (jM t u)] := HP.trans hH10 hb13
      refine WL.z (v := .slice pv ((jM t u).length) cp9) 8 ?_
      refine WL.z (v := vI 0) 9 ?_
      refine WL.nil (WQ.then (hK11 _ _ _ ?_))
      refine WC.sub (l' := [(0, .agg #[vI s, vI y, vI l, vI m]), (1, .slice p t.length cp), (2, .slice p2 u.length cp2), (3, .func (.func 63) #[] #[]), (4, vP b4 0), (8, .slice pv ((jM t u).length) cp9), (9, vI 0), (19, .bool false)]) ⟨rfl, rfl, rfl, rfl, rfl, rfl, rfl, rfl, trivial⟩ ?_
      refine WC.ret ?_
      refine WQ.ret2 8 9 rfl rfl rfl ?_
      exact .inr ⟨by rw [hok1, hok2]; rfl, pv, cp9, rfl, HP.drop hH14 0⟩
    ·
      refine WL.call (f := 66) (args := #[.agg #[vI s, vI y, vI l, vI m], .slice p2 u.length cp2]) 17 rfl (Nat.le_of_ble_eq_true rfl) rfl rfl (by kernel_rfl) ?_
      refine (validTable_any s y l m _ u _ _ (hU.below (HP.below hH8)) hn2).mono ?_
      rw [hok2]
      rintro e w15 ⟨rfl, hb9⟩
      refine ⟨_, rfl, ?_⟩
      have hH16 : HP Tr w _ [.cel b4 #[vI s, vI y, vI l, vI m] 23] := HP.call hH8 hb9
      refine WL.z (v := .bool true) 18 ?_
      refine WL.z (v := .bool true) 19 ?_
      refine WL.nil (WQ.then (hK6 _ _ _ ?_))
      refine WC.sub (l' := [(0, .agg #[vI s, vI y, vI l, vI m]), (1, .slice p t.length cp), (2, .slice p2 u.length cp2), (3, .func (.func 63) #[] #[]), (4, vP b4 0), (8, .slice none 0 0), (9, vI 0), (19, .bool true)]) ⟨rfl, rfl, rfl, rfl, rfl, rfl, rfl, rfl, trivial⟩ ?_
      refine WC.yes rfl (WC.seq fun K17 hK17 => WC.region ?_)
      refine WL.z (v := .slice none 0 0) 8 ?_
      refine WL.z (v := vI 1) 9 ?_
      refine WL.nil (WQ.then (hK17 _ _ _ (WC.ret ?_)))
      refine WQ.thenRet ?_
      refine WQ.ret2 8 9 rfl rfl rfl ?_
      exact .inl ⟨by rw [hok1, hok2]; rfl, rfl, HP.below hH16⟩
  ·
    refine WL.call (f := 66) (args := #[.agg #[vI s, vI y, vI l, vI m], .slice p t.length cp]) 12 rfl (Nat.le_of_ble_eq_true rfl) rfl rfl (by kernel_rfl) ?_
    refine (validTable_any s y l m _ t _ _ (hT.below (HP.below hH4)) hn).mono ?_
    rw [hok1]
    rintro e w18 ⟨rfl, hb9⟩
    refine ⟨_, rfl, ?_⟩
    have hH19 : HP Tr w _ [.cel b4 #[vI s, vI y, vI l, vI m] 23] := HP.call hH4 hb9
    refine WL.z (v := .bool true) 13 ?_
    refine WL.z (v := .bool true) 14 ?_
    refine WL.p 15 ?_
    refine WL.p 16 ?_
    refine WL.p 17 ?_
    refine WL.p 18 ?_
    refine WL.z (v := .bool true) 19 ?_
    refine WL.nil (WQ.then (hK6 _ _ _ ?_))
    refine WC.sub (l' := [(0, .agg #[vI s, vI y, vI l, vI m]), (1, .slice p t.length cp), (2, .slice p2 u.length cp2), (3, .func (.func 63) #[] #[]), (4, vP b4 0), (8, .slice none 0 0), (9, vI 0), (19, .bool true)]) ⟨rfl, rfl, rfl, rfl, rfl, rfl, rfl, rfl, trivial⟩ ?_
    refine WC.yes rfl (WC.seq fun K20 hK20 => WC.region ?_)
    refine WL.z (v := .slice none 0 0) 8 ?_
    refine WL.z (v := vI 1) 9 ?_
    refine WL.nil (WQ.then (hK20 _ _ _ (WC.ret ?_)))
    refine WQ.thenRet ?_
    refine WQ.ret2 8 9 rfl rfl rfl ?_
    exact .inl ⟨by rw [hok1]; rfl, rfl, HP.below hH19⟩
set_option maxRecDepth 20000 in
set_option maxHeartbeats 4000000 in
theorem joined1_any (p p2 : Option Addr) (t u : List T2) (cp cp2 : Nat) (s y l m : Int) (w : World) (hT : InT w p t) (hU : InT w p2 u) (hn : t.length ≤ 281474976710656) (hn2 : u.length ≤ 281474976710656) :
    Calls Try.prog 62 #[.agg #[vI s, vI y, vI l, vI m], .slice p t.length cp, .slice p2 u.length cp2, .func (.func 65) #[] #[]] w (JoR s y l m t u (rJ true t u) w) := by
  refine calls_of Try.func62 rfl (m := 24) rfl [(0, .agg #[vI s, vI y, vI l, vI m]), (1, .slice p t.length cp), (2, .slice p2 u.length cp2), (3, .func (.func 65) #[] #[])] (Fr_enter [.agg #[vI s, vI y, vI l, vI m], .slice p t.length cp, .slice p2 u.length cp2, .func (.func 65) #[] #[]] 24 (Nat.le_of_ble_eq_true rfl)) ?_
  have hH1 : HP Tr w w [] := HP.refl w
  refine WC.seq fun K2 hK2 => WC.region ?_
  refine WL.alloc (c := #[vI s, vI y, vI l, vI m]) (T := 23) hH1 4 rfl (by decide) rfl rfl (fun b4 => vP b4 0) (by kernel_rfl) (fun b4 w3 hw3 => ?_)
  have hH4 : HP Tr w w3 [.cel b4 #[vI s, vI y, vI l, vI m] 23] := hw3.2
  have nb4 := hw3.1
  clear hw3
  refine WL.z (v := .slice none 0 0) 8 ?_
  refine WL.z (v := vI 0) 9 ?_
  refine WL.nil (WQ.then (hK2 _ _ _ (WC.seq fun K5 hK5 => WC.seq fun K6 hK6 => WC.region ?_)))
  refine WL.y (v := .agg #[vI s, vI y, vI l, vI m]) 10 (x_loadS (cs := [vI s, vI y, vI l, vI m]) rfl rfl Try.underlying23 rfl sz23 (HP.range hH4 0 rfl rfl)) ?_
  refine WL.z (v := .slice p t.length cp) 11 ?_
  rcases Bool.eq_false_or_eq_true (okT s y l m t) with hok1 | hok1
  ·
    refine WL.call (f := 66) (args := #[.agg #[vI s, vI y, vI l, vI m], .slice p t.length cp]) 12 rfl (Nat.le_of_ble_eq_true rfl) rfl rfl (by kernel_rfl) ?_
    refine (validTable_any s y l m _ t _ _ (hT.below (HP.below hH4)) hn).mono ?_
    rw [hok1]
    rintro e w7 ⟨rfl, hb9⟩
    refine ⟨_, rfl, ?_⟩
    have hH8 : HP Tr w _ [.cel b4 #[vI s, vI y, vI l, vI m] 23] := HP.call hH4 hb9
    have hV1 := ok_VT hok1
    have hl1 := hV1.len
    refine WL.z (v := .bool false) 13 ?_
    refine WL.z (v := .bool false) 14 ?_
    refine WL.y (v := .agg #[vI s, vI y, vI l, vI m]) 15 (x_loadS (cs := [vI s, vI y, vI l, vI m]) rfl rfl Try.underlying23 rfl sz23 (HP.range hH8 0 rfl rfl)) ?_
    refine WL.z (v := .slice p2 u.length cp2) 16 ?_
    rcases Bool.eq_false_or_eq_true (okT s y l m u) with hok2 | hok2
    ·
      refine WL.call (f := 66) (args := #[.agg #[vI s, vI y, vI l, vI m], .slice p2 u.length cp2]) 17 rfl (Nat.le_of_ble_eq_true rfl) rfl rfl (by kernel_rfl) ?_
      refine (validTable_any s y l m _ u _ _ (hU.below (HP.below hH8)) hn2).mono ?_
      rw [hok2]
      rintro e w9 ⟨rfl, hb9⟩
      refine ⟨_, rfl, ?_⟩
      have hH10 : HP Tr w _ [.cel b4 #[vI s, vI y, vI l, vI m] 23] := HP.call hH8 hb9
      have hV2 := ok_VT hok2
      have hl2 := hV2.len
      refine WL.z (v := .bool false) 18 ?_
      refine WL.z (v := .bool false) 19 ?_
      refine WL.nil (WQ.then (hK6 _ _ _ ?_))
      refine WC.sub (l' := [(0, .agg #[vI s, vI y, vI l, vI m]), (1, .slice p t.length cp), (2, .slice p2 u.length cp2), (3, .func (.func 65) #[] #[]), (4, vP b4 0), (8, .slice none 0 0), (9, vI 0), (19, .bool false)]) ⟨rfl, rfl, rfl, rfl, rfl, rfl, rfl, rfl, trivial⟩ ?_
      refine WC.no rfl (WC.skip (WQ.then (hK5 _ _ _ (WC.seq fun K11 hK11 => WC.region ?_))))
      refine WL.z (v := .func (.func 65) #[] #[]) 20 ?_
      refine WL.z (v := .slice p t.length cp) 21 ?_
      refine WL.z (v := .slice p2 u.length cp2) 22 ?_
      refine WL.call (f := 65) (args := #[.slice p t.length cp, .slice p2 u.length cp2]) 23 rfl (Nat.le_of_ble_eq_true rfl) rfl rfl (by kernel_rfl) ?_
      refine (joinMay_any p p2 t u cp cp2 _ (hT.below (HP.below hH10)) (hU.below (HP.below hH10)) (by omega) (by omega) hV1.so hV2.so).mono ?_
      rintro e w12 ⟨pv, cp9, rfl, hb13⟩
      refine ⟨_, rfl, ?_⟩
      have hH14 : HP Tr w _ [.cel b4 #[vI s, vI y, vI l, vI m] 23, rowT pv (rJ true t u).length cp9 (rJ true t u)] := HP.trans hH10 hb13
      refine WL.z (v := .slice pv ((rJ true t u).length) cp9) 8 ?_
      refine WL.z (v := vI 0) 9 ?_
      refine WL.nil (WQ.then (hK11 _ _ _ ?_))
      refine WC.sub (l' := [(0, .agg #[vI s, vI y, vI l, vI m]), (1, .slice p t.length cp), (2, .slice p2 u.length cp2), (3, .func (.func 65) #[] #[]), (4, vP b4 0), (8, .slice pv ((rJ true t u).length) cp9), (9, vI 0), (19, .bool false)]) ⟨rfl, rfl, rfl, rfl, rfl, rfl, rfl, rfl, trivial⟩ ?_
      refine WC.ret ?_
      refine WQ.ret2 8 9 rfl rfl rfl ?_
      exact .inr ⟨by rw [hok1, hok2]; rfl, pv, cp9, rfl, HP.drop hH14 0⟩
    ·
      refine WL.call (f := 66) (args := #[.agg #[vI s, vI y, vI l, vI m], .slice p2 u.length cp2]) 17 rfl (Nat.le_of_ble_eq_true rfl) rfl rfl (by kernel_rfl) ?_
      refine (validTable_any s y l m _ u _ _ (hU.below (HP.below hH8)) hn2).mono ?_
      rw [hok2]
      rintro e w15 ⟨rfl, hb9⟩
      refine ⟨_, rfl, ?_⟩
      have hH16 : HP Tr w _ [.cel b4 #[vI s, vI y, vI l, vI m] 23] := HP.call hH8 hb9
      refine WL.z (v := .bool true) 18 ?_
      refine WL.z (v := .bool true) 19 ?_
      refine WL.nil (WQ.then (hK6 _ _ _ ?_))
      refine WC.sub (l' := [(0, .agg #[vI s, vI y, vI l, vI m]), (1, .slice p t.length cp), (2, .slice p2 u.length cp2), (3, .func (.func 65) #[] #[]), (4, vP b4 0), (8, .slice none 0 0), (9, vI 0), (19, .bool true)]) ⟨rfl, rfl, rfl, rfl, rfl, rfl, rfl, rfl, trivial⟩ ?_
      refine WC.yes rfl (WC.seq fun K17 hK17 => WC.region ?_)
      refine WL.z (v := .slice none 0 0) 8 ?_
      refine WL.z (v := vI 1) 9 ?_
      refine WL.nil (WQ.then (hK17 _ _ _ (WC.ret ?_)))
      refine WQ.thenRet ?_
      refine WQ.ret2 8 9 rfl rfl rfl ?_
      exact .inl ⟨by rw [hok1, hok2]; rfl, rfl, HP.below hH16⟩
  ·
    refine WL.call (f := 66) (args := #[.agg #[vI s, vI y, vI l, vI m], .slice p t.length cp]) 12 rfl (Nat.le_of_ble_eq_true rfl) rfl rfl (by kernel_rfl) ?_
    refine (validTable_any s y l m _ t _ _ (hT.below (HP.below hH4)) hn).mono ?_
    rw [hok1]
    rintro e w18 ⟨rfl, hb9⟩
    refine ⟨_, rfl, ?_⟩
    have hH19 : HP Tr w _ [.cel b4 #[vI s, vI y, vI l, vI m] 23] := HP.call hH4 hb9
    refine WL.z (v := .bool true) 13 ?_
    refine WL.z (v := .bool true) 14 ?_
    refine WL.p 15 ?_
    refine WL.p 16 ?_
    refine WL.p 17 ?_
    refine WL.p 18 ?_
    refine WL.z (v := .bool true) 19 ?_
    refine WL.nil (WQ.then (hK6 _ _ _ ?_))
    refine WC.sub (l' := [(0, .agg #[vI s, vI y, vI l, vI m]), (1, .slice p t.length cp), (2, .slice p2 u.length cp2), (3, .func (.func 65) #[] #[]), (4, vP b4 0), (8, .slice none 0 0), (9, vI 0), (19, .bool true)]) ⟨rfl, rfl, rfl, rfl, rfl, rfl, rfl, rfl, trivial⟩ ?_
    refine WC.yes rfl (WC.seq fun K20 hK20 => WC.region ?_)
    refine WL.z (v := .slice none 0 0) 8 ?_
    refine WL.z (v := vI 1) 9 ?_
    refine WL.nil (WQ.then (hK20 _ _ _ (WC.ret ?_)))
    refine WQ.thenRet ?_
    refine WQ.ret2 8 9 rfl rfl rfl ?_
    exact .inl ⟨by rw [hok1]; rfl, rfl, HP.below hH19⟩
set_option maxRecDepth 20000 in
set_option maxHeartbeats 4000000 in
theorem JoinMust_any (p p2 : Option Addr) (t u : List T2) (cp cp2 : Nat) (s y l m : Int) (w : World) (hT : InT w p t) (hU : InT w p2 u) (hn : t.length ≤ 281474976710656) (hn2 : u.length ≤ 281474976710656) :
    Calls Try.prog 35 #[.agg #[vI s, vI y, vI l, vI m], .slice p t.length cp, .slice p2 u.length cp2] w (JoR s y l m t u (rJ false t u) w) := by
  refine calls_of Try.func35 rfl (m := 14) rfl [(0, .agg #[vI s, vI y, vI l, vI m]), (1, .slice p t.length cp), (2, .slice p2 u.length cp2)] (Fr_enter [.agg #[vI s, vI y, vI l, vI m], .slice p t.length cp, .slice p2 u.length cp2] 14 (Nat.le_of_ble_eq_true rfl)) ?_
  have hH1 : HP Tr w w [] := HP.refl w
  refine WC.seq fun K2 hK2 => WC.region ?_
  refine WL.alloc (c := #[vI s, vI y, vI l, vI m]) (T := 23) hH1 3 rfl (by decide) rfl rfl (fun b3 => vP b3 0) (by kernel_rfl) (fun b3 w3 hw3 => ?_)
  have hH4 : HP Tr w w3 [.cel b3 #[vI s, vI y, vI l, vI m] 23] := hw3.2
  have nb3 := hw3.1
  clear hw3
  refine WL.z (v := .slice none 0 0) 6 ?_
  refine WL.z (v := vI 0) 7 ?_
  refine WL.nil (WQ.then (hK2 _ _ _ (WC.seq fun K5 hK5 => WC.region ?_)))
  refine WL.y (v := .agg #[vI s, vI y, vI l, vI m]) 8 (x_loadS (cs := [vI s, vI y, vI l, vI m]) rfl rfl Try.underlying23 rfl sz23 (HP.range hH4 0 rfl rfl)) ?_
  refine WL.z (v := .slice p t.length cp) 9 ?_
  refine WL.z (v := .slice p2 u.length cp2) 10 ?_
  refine WL.call (f := 62) (args := #[.agg #[vI s, vI y, vI l, vI m], .slice p t.length cp, .slice p2 u.length cp2, .func (.func 63) #[] #[]]) 11 rfl (Nat.le_of_ble_eq_true rfl) rfl rfl (by kernel_rfl) ?_
  refine (joined0_any p p2 t u cp cp2 s y l m _ (hT.below (HP.below hH4)) (hU.below (HP.below hH4)) hn hn2).mono ?_
  rintro e w4 (⟨hno, rfl, hb4⟩ | ⟨hyes, pv, cp9, rfl, hb4⟩)
  ·
    refine ⟨_, rfl, ?_⟩
    have hH6 : HP Tr w _ [.cel b3 #[vI s, vI y, vI l, vI m] 23] := HP.call hH4 hb4
    refine WL.z (v := .slice none 0 0) 12 ?_
    refine WL.z (v := vI 1) 13 ?_
    refine WL.z (v := .slice none 0 0) 6 ?_
    refine WL.z (v := vI 1) 7 ?_
    refine WL.nil (WQ.then (hK5 _ _ _ ?_))
    refine WC.sub (l' := [(0, .agg #[vI s, vI y, vI l, vI m]), (1, .slice p t.length cp), (2, .slice p2 u.length cp2), (3, vP b3 0), (6, .slice none 0 0), (7, vI 1)]) ⟨rfl, rfl, rfl, rfl, rfl, rfl, trivial⟩ ?_
    refine WC.ret ?_
    refine WQ.ret2 6 7 rfl rfl rfl ?_
    exact .inl ⟨hno, rfl, HP.below hH6⟩
  ·
    refine ⟨_, rfl, ?_⟩
    have hH7 : HP Tr w _ [.cel b3 #[vI s, vI y, vI l, vI m] 23, rowT pv (jM t u).length cp9 (jM t u)] := HP.trans hH4 hb4
    refine WL.z (v := .slice pv ((jM t u).length) cp9) 12 ?_
    refine WL.z (v := vI 0) 13 ?_
    refine WL.z (v := .slice pv ((jM t u).length) cp9) 6 ?_
    refine WL.z (v := vI 0) 7 ?_
    refine WL.nil (WQ.then (hK5 _ _ _ ?_))
    refine WC.sub (l' := [(0, .agg #[vI s, vI y, vI l, vI m]), (1, .slice p t.length cp), (2, .slice p2 u.length cp2), (3, vP b3 0), (6, .slice pv ((jM t u).length) cp9), (7, vI 0)]) ⟨rfl, rfl, rfl, rfl, rfl, rfl, trivial⟩ ?_
    refine WC.ret ?_
    refine WQ.ret2 6 7 rfl rfl rfl ?_
    have e9 : jM t u = rJ false t u := by
      rw [Bool.and_eq_true] at hyes
      exact jM_eq (ok_VT hyes.1).so (ok_VT hyes.2).so
    exact .inr ⟨hyes, pv, cp9, by rw [← e9], by rw [← e9]; exact HP.drop hH7 0⟩
set_option maxRecDepth 20000 in
set_option maxHeartbeats 4000000 in
theorem JoinMay_any (p p2 : Option Addr) (t u : List T2) (cp cp2 : Nat) (s y l m : Int) (w : World) (hT : InT w p t) (hU : InT w p2 u) (hn : t.length ≤ 281474976710656) (hn2 : u.length ≤ 281474976710656) :
    Calls Try.prog 37 #[.agg #[vI s, vI y, vI l, vI m], .slice p t.length cp, .slice p2 u.length cp2] w (JoR s y l m t u (rJ true t u) w) := by
  refine calls_of Try.func37 rfl (m := 14) rfl [(0, .agg #[vI s, vI y, vI l, vI m]), (1, .slice p t.length cp), (2, .slice p2 u.length cp2)] (Fr_enter [.agg #[vI s, vI y, vI l, vI m], .slice p t.length cp, .slice p2 u.length cp2] 14 (Nat.le_of_ble_eq_true rfl)) ?_
  have hH1 : HP Tr w w [] := HP.refl w
  refine WC.seq fun K2 hK2 => WC.region ?_
  refine WL.alloc (c := #[vI s, vI y, vI l, vI m]) (T := 23) hH1 3 rfl (by decide) rfl rfl (fun b3 => vP b3 0) (by kernel_rfl) (fun b3 w3 hw3 => ?_)
  have hH4 : HP Tr w w3 [.cel b3 #[vI s, vI y, vI l, vI m] 23] := hw3.2
  have nb3 := hw3.1
  clear hw3
  refine WL.z (v := .slice none 0 0) 6 ?_
  refine WL.z (v := vI 0) 7 ?_
  refine WL.nil (WQ.then (hK2 _ _ _ (WC.seq fun K5 hK5 => WC.region ?_)))
  refine WL.y (v := .agg #[vI s, vI y, vI l, vI m]) 8 (x_loadS (cs := [vI s, vI y, vI l, vI m]) rfl rfl Try.underlying23 rfl sz23 (HP.range hH4 0 rfl rfl)) ?_
  refine WL.z (v := .slice p t.length cp) 9 ?_
  refine WL.z (v := .slice p2 u.length cp2) 10 ?_
  refine WL.call (f := 62) (args := #[.agg #[vI s, vI y, vI l, vI m], .slice p t.length cp, .slice p2 u.length cp2, .func (.func 65) #[] #[]]) 11 rfl (Nat.le_of_ble_eq_true rfl) rfl rfl (by kernel_rfl) ?_
  refine (joined1_any p p2 t u cp cp2 s y l m _ (hT.below (HP.below hH4)) (hU.below (HP.below hH4)) hn hn2).mono ?_
  rintro e w4 (⟨hno, rfl, hb4⟩ | ⟨hyes, pv, cp9, rfl, hb4⟩)
  ·
    refine ⟨_, rfl, ?_⟩
    have hH6 : HP Tr w _ [.cel b3 #[vI s, vI y, vI l, vI m] 23] := HP.call hH4 hb4
    refine WL.z (v := .slice none 0 0) 12 ?_
    refine WL.z (v := vI 1) 13 ?_
    refine WL.z (v := .slice none 0 0) 6 ?_
    refine WL.z (v := vI 1) 7 ?_
    refine WL.nil (WQ.then (hK5 _ _ _ ?_))
    refine WC.sub (l' := [(0, .agg #[vI s, vI y, vI l, vI m]), (1, .slice p t.length cp), (2, .slice p2 u.length cp2), (3, vP b3 0), (6, .slice none 0 0), (7, vI 1)]) ⟨rfl, rfl, rfl, rfl, rfl, rfl, trivial⟩ ?_
    refine WC.ret ?_
    refine WQ.ret2 6 7 rfl rfl rfl ?_
    exact .inl ⟨hno, rfl, HP.below hH6⟩
  ·
    refine ⟨_, rfl, ?_⟩
    have hH7 : HP Tr w _ [.cel b3 #[vI s, vI y, vI l, vI m] 23, rowT pv (rJ true t u).length cp9 (rJ true t u)] := HP.trans hH4 hb4
    refine WL.z (v := .slice pv ((rJ true t u).length) cp9) 12 ?_
    refine WL.z (v := vI 0) 13 ?_
    refine WL.z (v := .slice pv ((rJ true t u).length) cp9) 6 ?_
    refine WL.z (v := vI 0) 7 ?_
    refine WL.nil (WQ.then (hK5 _ _ _ ?_))
    refine WC.sub (l' := [(0, .agg #[vI s, vI y, vI l, vI m]), (1, .slice p t.length cp), (2, .slice p2 u.length cp2), (3, vP b3 0), (6, .slice pv ((rJ true t u).length) cp9), (7, vI 0)]) ⟨rfl, rfl, rfl, rfl, rfl, rfl, trivial⟩ ?_
    refine WC.ret ?_
    refine WQ.ret2 6 7 rfl rfl rfl ?_
    exact .inr ⟨hyes, pv, cp9, rfl, HP.drop hH7 0⟩
set_option maxRecDepth 20000 in
set_option maxHeartbeats 4000000 in
theorem rJoinMust_any (p p2 : Option Addr) (t u : List T2) (cp cp2 : Nat) (s y l m : Int) (w : World) (hT : InT w p t) (hU : InT w p2 u) (hn : t.length ≤ 281474976710656) (hn2 : u.length ≤ 281474976710656) :
    Calls Try.prog 36 #[.agg #[vI s, vI y, vI l, vI m], .slice p t.length cp, .slice p2 u.length cp2] w (JoR s y l m t u (rJ false t u) w) := by
  refine calls_of Try.func36 rfl (m := 21) rfl [(0, .agg #[vI s, vI y, vI l, vI m]), (1, .slice p t.length cp), (2, .slice p2 u.length cp2)] (Fr_enter [.agg #[vI s, vI y, vI l, vI m], .slice p t.length cp, .slice p2 u.length cp2] 21 (Nat.le_of_ble_eq_true rfl)) ?_
  have hH1 : HP Tr w w [] := HP.refl w
  refine WC.seq fun K2 hK2 => WC.region ?_
  refine WL.alloc (c := #[vI s, vI y, vI l, vI m]) (T := 23) hH1 3 rfl (by decide) rfl rfl (fun b3 => vP b3 0) (by kernel_rfl) (fun b3 w3 hw3 => ?_)
  have hH4 : HP Tr w w3 [.cel b3 #[vI s, vI y, vI l, vI m] 23] := hw3.2
  have nb3 := hw3.1
  clear hw3
  refine WL.z (v := .slice none 0 0) 6 ?_
  refine WL.z (v := vI 0) 7 ?_
  refine WL.nil (WQ.then (hK2 _ _ _ (WC.seq fun K5 hK5 => WC.seq fun K6 hK6 => WC.region ?_)))
  refine WL.y (v := .agg #[vI s, vI y, vI l, vI m]) 8 (x_loadS (cs := [vI s, vI y, vI l, vI m]) rfl rfl Try.underlying23 rfl sz23 (HP.range hH4 0 rfl rfl)) ?_
  refine WL.z (v := .slice p t.length cp) 9 ?_
  rcases Bool.eq_false_or_eq_true (okT s y l m t) with hok1 | hok1
  ·
    refine WL.call (f := 41) (args := #[.agg #[vI s, vI y, vI l, vI m], .slice p t.length cp]) 10 rfl (Nat.le_of_ble_eq_true rfl) rfl rfl (by kernel_rfl) ?_
    refine (IsTable_any s y l m _ t _ _ (hT.below (HP.below hH4)) hn).mono ?_
    rw [hok1]
    rintro e w7 ⟨rfl, hb9⟩
    refine ⟨_, rfl, ?_⟩
    have hH8 : HP Tr w _ [.cel b3 #[vI s, vI y, vI l, vI m] 23] := HP.call hH4 hb9
    have hV1 := ok_VT hok1
    have hl1 := hV1.len
    refine WL.z (v := .bool false) 11 ?_
    refine WL.z (v := .bool false) 12 ?_
    refine WL.y (v := .agg #[vI s, vI y, vI l, vI m]) 13 (x_loadS (cs := [vI s, vI y, vI l, vI m]) rfl rfl Try.underlying23 rfl sz23 (HP.range hH8 0 rfl rfl)) ?_
    refine WL.z (v := .slice p2 u.length cp2) 14 ?_
    rcases Bool.eq_false_or_eq_true (okT s y l m u) with hok2 | hok2
    ·
      refine WL.call (f := 41) (args := #[.agg #[vI s, vI y, vI l, vI m], .slice p2 u.length cp2]) 15 rfl (Nat.le_of_ble_eq_true rfl) rfl rfl (by kernel_rfl) ?_
      refine (IsTable_any s y l m _ u _ _ (hU.below (HP.below hH8)) hn2).mono ?_
      rw [hok2]
      rintro e w9 ⟨rfl, hb9⟩
      refine ⟨_, rfl, ?_⟩
      have hH10 : HP Tr w _ [.cel b3 #[vI s, vI y, vI l, vI m] 23] := HP.call hH8 hb9
      have hV2 := ok_VT hok2
      have hl2 := hV2.len
      refine WL.z (v := .bool false) 16 ?_
      refine WL.z (v := .bool false) 17 ?_
      refine WL.nil (WQ.then (hK6 _ _ _ ?_))
      refine WC.sub (l' := [(0, .agg #[vI s, vI y, vI l, vI m]), (1, .slice p t.length cp), (2, .slice p2 u.length cp2), (3, vP b3 0), (6, .slice none 0 0), (7, vI 0), (17, .bool false)]) ⟨rfl, rfl, rfl, rfl, rfl, rfl, rfl, trivial⟩ ?_
      refine WC.no rfl (WC.skip (WQ.then (hK5 _ _ _ (WC.seq fun K11 hK11 => WC.region ?_))))
      refine WL.z (v := .slice p t.length cp) 18 ?_
      refine WL.z (v := .slice p2 u.length cp2) 19 ?_
      refine WL.call (f := 64) (args := #[.slice p t.length cp, .slice p2 u.length cp2, .bool false]) 20 rfl (Nat.le_of_ble_eq_true rfl) rfl rfl (by kernel_rfl) ?_
      refine (rJoined_any p p2 t u cp cp2 false _ (hT.below (HP.below hH10)) (hU.below (HP.below hH10)) (by omega) (by omega)).mono ?_
      rintro e w12 ⟨pv, cp9, rfl, hb13⟩
      refine ⟨_, rfl, ?_⟩
      have hH14 : HP Tr w _ [.cel b3 #[vI s, vI y, vI l, vI m] 23, rowT pv (rJ false t u).length cp9 (rJ false t u)] := HP.trans hH10 hb13
      refine WL.z (v := .slice pv ((rJ false t u).length) cp9) 6 ?_
      refine WL.z (v := vI 0) 7 ?_
      refine WL.nil (WQ.then (hK11 _ _ _ (WC.ret ?_)))
      refine WQ.ret2 6 7 rfl rfl rfl ?_
      exact .inr ⟨by rw [hok1, hok2]; rfl, pv, cp9, rfl, HP.drop hH14 0⟩
    ·
      refine WL.call (f := 41) (args := #[.agg #[vI s, vI y, vI l, vI m], .slice p2 u.length cp2]) 15 rfl (Nat.le_of_ble_eq_true rfl) rfl rfl (by kernel_rfl) ?_
      refine (IsTable_any s y l m _ u _ _ (hU.below (HP.below hH8)) hn2).mono ?_
      rw [hok2]
      rintro e w15 ⟨rfl, hb9⟩
      refine ⟨_, rfl, ?_⟩
      have hH16 : HP Tr w _ [.cel b3 #[vI s, vI y, vI l, vI m] 23] := HP.call hH8 hb9
      refine WL.z (v := .bool true) 16 ?_
      refine WL.z (v := .bool true) 17 ?_
      refine WL.nil (WQ.then (hK6 _ _ _ ?_))
      refine WC.sub (l' := [(0, .agg #[vI s, vI y, vI l, vI m]), (1, .slice p t.length cp), (2, .slice p2 u.length cp2), (3, vP b3 0), (6, .slice none 0 0), (7, vI 0), (17, .bool true)]) ⟨rfl, rfl, rfl, rfl, rfl, rfl, rfl, trivial⟩ ?_
      refine WC.yes rfl (WC.seq fun K17 hK17 => WC.region ?_)
      refine WL.z (v := .slice none 0 0) 6 ?_
      refine WL.z (v := vI 1) 7 ?_
      refine WL.nil (WQ.then (hK17 _ _ _ (WC.ret ?_)))
      refine WQ.thenRet ?_
      refine WQ.ret2 6 7 rfl rfl rfl ?_
      exact .inl ⟨by rw [hok1, hok2]; rfl, rfl, HP.below hH16⟩
  ·
    refine WL.call (f := 41) (args := #[.agg #[vI s, vI y, vI l, vI m], .slice p t.length cp]) 10 rfl (Nat.le_of_ble_eq_true rfl) rfl rfl (by kernel_rfl) ?_
    refine (IsTable_any s y l m _ t _ _ (hT.below (HP.below hH4)) hn).mono ?_
    rw [hok1]
    rintro e w18 ⟨rfl, hb9⟩
    refine ⟨_, rfl, ?_⟩
    have hH19 : HP Tr w _ [.cel b3 #[vI s, vI y, vI l, vI m] 23] := HP.call hH4 hb9
    refine WL.z (v := .bool true) 11 ?_
    refine WL.z (v := .bool true) 12 ?_
    refine WL.p 13 ?_
    refine WL.p 14 ?_
    refine WL.p 15 ?_
    refine WL.p 16 ?_
    refine WL.z (v := .bool true) 17 ?_
    refine WL.nil (WQ.then (hK6 _ _ _ ?_))
    refine WC.sub (l' := [(0, .agg #[vI s, vI y, vI l, vI m]), (1, .slice p t.length cp), (2, .slice p2 u.length cp2), (3, vP b3 0), (6, .slice none 0 0), (7, vI 0), (17, .bool true)]) ⟨rfl, rfl, rfl, rfl, rfl, rfl, rfl, trivial⟩ ?_
    refine WC.yes rfl (WC.seq fun K20 hK20 => WC.region ?_)
    refine WL.z (v := .slice none 0 0) 6 ?_
    refine WL.z (v := vI 1) 7 ?_
    refine WL.nil (WQ.then (hK20 _ _ _ (WC.ret ?_)))
    refine WQ.thenRet ?_
    refine WQ.ret2 6 7 rfl rfl rfl ?_
    exact .inl ⟨by rw [hok1]; rfl, rfl, HP.below hH19⟩
set_option maxRecDepth 20000 in
set_option maxHeartbeats 4000000 in
theorem rJoinMay_any (p p2 : Option Addr) (t u : List T2) (cp cp2 : Nat) (s y l m : Int) (w : World) (hT : InT w p t) (hU : InT w p2 u) (hn : t.length ≤ 281474976710656) (hn2 : u.length ≤ 281474976710656) :
    Calls Try.prog 38 #[.agg #[vI s, vI y, vI l, vI m], .slice p t.length cp, .slice p2 u.length cp2] w (JoR s y l m t u (rJ true t u) w) := by
  refine calls_of Try.func38 rfl (m := 21) rfl [(0, .agg #[vI s, vI y, vI l, vI m]), (1, .slice p t.length cp), (2, .slice p2 u.length cp2)] (Fr_enter [.agg #[vI s, vI y, vI l, vI m], .slice p t.length cp, .slice p2 u.length cp2] 21 (Nat.le_of_ble_eq_true rfl)) ?_
  have hH1 : HP Tr w w [] := HP.refl w
  refine WC.seq fun K2 hK2 => WC.region ?_
  refine WL.alloc (c := #[vI s, vI y, vI l, vI m]) (T := 23) hH1 3 rfl (by decide) rfl rfl (fun b3 => vP b3 0) (by kernel_rfl) (fun b3 w3 hw3 => ?_)
  have hH4 : HP Tr w w3 [.cel b3 #[vI s, vI y, vI l, vI m] 23] := hw3.2
  have nb3 := hw3.1
  clear hw3
  refine WL.z (v := .slice none 0 0) 6 ?_
  refine WL.z (v := vI 0) 7 ?_
  refine WL.nil (WQ.then (hK2 _ _ _ (WC.seq fun K5 hK5 => WC.seq fun K6 hK6 => WC.region ?_)))
  refine WL.y (v := .agg #[vI s, vI y, vI l, vI m]) 8 (x_loadS (cs := [vI s, vI y, vI l, vI m]) rfl rfl Try.underlying23 rfl sz23 (HP.range hH4 0 rfl rfl)) ?_
  refine WL.z (v := .slice p t.length cp) 9 ?_
  rcases Bool.eq_false_or_eq_true (okT s y l m t) with hok1 | hok1
  ·
    refine WL.call (f := 41) (args := #[.agg #[vI s, vI y, vI l, vI m], .slice p t.length cp]) 10 rfl (Nat.le_of_ble_eq_true rfl) rfl rfl (by kernel_rfl) ?_
    refine (IsTable_any s y l m _ t _ _ (hT.below (HP.below hH4)) hn).mono ?_
    rw [hok1]
    rintro e w7 ⟨rfl, hb9⟩
    refine ⟨_, rfl, ?_⟩
    have hH8 : HP Tr w _ [.cel b3 #[vI s, vI y, vI l, vI m] 23] := HP.call hH4 hb9
    have hV1 := ok_VT hok1
    have hl1 := hV1.len
    refine WL.z (v := .bool false) 11 ?_
    refine WL.z (v := .bool false) 12 ?_
    refine WL.y (v := .agg #[vI s, vI y, vI l, vI m]) 13 (x_loadS (cs := [vI s, vI y, vI l, vI m]) rfl rfl Try.underlying23 rfl sz23 (HP.range hH8 0 rfl rfl)) ?_
    refine WL.z (v := .slice p2 u.length cp2) 14 ?_
    rcases Bool.eq_false_or_eq_true (okT s y l m u) with hok2 | hok2
    ·
      refine WL.call (f := 41) (args := #[.agg #[vI s, vI y, vI l, vI m], .slice p2 u.length cp2]) 15 rfl (Nat.le_of_ble_eq_true rfl) rfl rfl (by kernel_rfl) ?_
      refine (IsTable_any s y l m _ u _ _ (hU.below (HP.below hH8)) hn2).mono ?_
      rw [hok2]
      rintro e w9 ⟨rfl, hb9⟩
      refine ⟨_, rfl, ?_⟩
      have hH10 : HP Tr w _ [.cel b3 #[vI s, vI y, vI l, vI m] 23] := HP.call hH8 hb9
      have hV2 := ok_VT hok2
      have hl2 := hV2.len
      refine WL.z (v := .bool false) 16 ?_
      refine WL.z (v := .bool false) 17 ?_
      refine WL.nil (WQ.then (hK6 _ _ _ ?_))
      refine WC.sub (l' := [(0, .agg #[vI s, vI y, vI l, vI m]), (1, .slice p t.length cp), (2, .slice p2 u.length cp2), (3, vP b3 0), (6, .slice none 0 0), (7, vI 0), (17, .bool false)]) ⟨rfl, rfl, rfl, rfl, rfl, rfl, rfl, trivial⟩ ?_
      refine WC.no rfl (WC.skip (WQ.then (hK5 _ _ _ (WC.seq fun K11 hK11 => WC.region ?_))))
      refine WL.z (v := .slice p t.length cp) 18 ?_
      refine WL.z (v := .slice p2 u.length cp2) 19 ?_
      refine WL.call (f := 64) (args := #[.slice p t.length cp, .slice p2 u.length cp2, .bool true]) 20 rfl (Nat.le_of_ble_eq_true rfl) rfl rfl (by kernel_rfl) ?_
      refine (rJoined_any p p2 t u cp cp2 true _ (hT.below (HP.below hH10)) (hU.below (HP.below hH10)) (by omega) (by omega)).mono ?_
      rintro e w12 ⟨pv, cp9, rfl, hb13⟩
      refine ⟨_, rfl, ?_⟩
      have hH14 : HP Tr w _ [.cel b3 #[vI s, vI y, vI l, vI m] 23, rowT pv (rJ true t u).length cp9 (rJ true t u)] := HP.trans hH10 hb13
      refine WL.z (v := .slice pv ((rJ true t u).length) cp9) 6 ?_
      refine WL.z (v := vI 0) 7 ?_
      refine WL.nil (WQ.then (hK11 _ _ _ (WC.ret ?_)))
      refine WQ.ret2 6 7 rfl rfl rfl ?_
      exact .inr ⟨by rw [hok1, hok2]; rfl, pv, cp9, rfl, HP.drop hH14 0⟩
    ·
      refine WL.call (f := 41) (args := #[.agg #[vI s, vI y, vI l, vI m], .slice p2 u.length cp2]) 15 rfl (Nat.le_of_ble_eq_true rfl) rfl rfl (by kernel_rfl) ?_
      refine (IsTable_any s y l m _ u _ _ (hU.below (HP.below hH8)) hn2).mono ?_
      rw [hok2]
      rintro e w15 ⟨rfl, hb9⟩
      refine ⟨_, rfl, ?_⟩
      have hH16 : HP Tr w _ [.cel b3 #[vI s, vI y, vI l, vI m] 23] := HP.call hH8 hb9
      refine WL.z (v := .bool true) 16 ?_
      refine WL.z (v := .bool true) 17 ?_
      refine WL.nil (WQ.then (hK6 _ _ _ ?_))
      refine WC.sub (l' := [(0, .agg #[vI s, vI y, vI l, vI m]), (1, .slice p t.length cp), (2, .slice p2 u.length cp2), (3, vP b3 0), (6, .slice none 0 0), (7, vI 0), (17, .bool true)]) ⟨rfl, rfl, rfl, rfl, rfl, rfl, rfl, trivial⟩ ?_
      refine WC.yes rfl (WC.seq fun K17 hK17 => WC.region ?_)
      refine WL.z (v := .slice none 0 0) 6 ?_
      refine WL.z (v := vI 1) 7 ?_
      refine WL.nil (WQ.then (hK17 _ _ _ (WC.ret ?_)))
      refine WQ.thenRet ?_
      refine WQ.ret2 6 7 rfl rfl rfl ?_
      exact .inl ⟨by rw [hok1, hok2]; rfl, rfl, HP.below hH16⟩
  ·
    refine WL.call (f := 41) (args := #[.agg #[vI s, vI y, vI l, vI m], .slice p t.length cp]) 10 rfl (Nat.le_of_ble_eq_true rfl) rfl rfl (by kernel_rfl) ?_
    refine (IsTable_any s y l m _ t _ _ (hT.below (HP.below hH4)) hn).mono ?_
    rw [hok1]
    rintro e w18 ⟨rfl, hb9⟩
    refine ⟨_, rfl, ?_⟩
    have hH19 : HP Tr w _ [.cel b3 #[vI s, vI y, vI l, vI m] 23] := HP.call hH4 hb9
    refine WL.z (v := .bool true) 11 ?_
    refine WL.z (v := .bool true) 12 ?_
    refine WL.p 13 ?_
    refine WL.p 14 ?_
    refine WL.p 15 ?_
    refine WL.p 16 ?_
    refine WL.z (v := .bool true) 17 ?_
    refine WL.nil (WQ.then (hK6 _ _ _ ?_))
    refine WC.sub (l' := [(0, .agg #[vI s, vI y, vI l, vI m]), (1, .slice p t.length cp), (2, .slice p2 u.length cp2), (3, vP b3 0), (6, .slice none 0 0), (7, vI 0), (17, .bool true)]) ⟨rfl, rfl, rfl, rfl, rfl, rfl, rfl, trivial⟩ ?_
    refine WC.yes rfl (WC.seq fun K20 hK20 => WC.region ?_)
    refine WL.z (v := .slice none 0 0) 6 ?_
    refine WL.z (v := vI 1) 7 ?_
    refine WL.nil (WQ.then (hK20 _ _ _ (WC.ret ?_)))
    refine WQ.thenRet ?_
    refine WQ.ret2 6 7 rfl rfl rfl ?_
    exact .inl ⟨by rw [hok1]; rfl, rfl, HP.below hH19⟩
end Ca
end Go.Proofs.Ytmjnakhpekbenaa
namespace Go.Proofs.Ytmjnakhpekbenaa
open Go.RowKit Fw
namespace Ca
/-- an inner row as a slice value -/
structure SlI where
  q : Option Addr
  xs : List Int
  c : Nat
abbrev slV (r : SlI) : Value := .slice r.q r.xs.length r.c
structure InR (w : World) (r : SlI) : Prop where
  row : InI w r.q r.xs
  hc : r.xs.length ≤ r.c
  hm : r.c ≤ maxLen
  hw : ∀ x ∈ r.xs, Wi x
/-- rows that can be read -/
structure InS2 (w : World) (p : Option Addr) (S : List SlI) : Prop where
  row : 0 < S.length → ∃ g o, p = some ⟨g, o, none⟩ ∧ ∀ i, i < S.length → w.rangeAt g (o + i) [slV (S.getD i ⟨none, [], 0⟩)]
  inn : ∀ r ∈ S, InR w r
theorem InR.below {w w' : World} {r : SlI} (h : InR w r) (hb : Below w.heap.size w w') : InR w' r := ⟨h.row.below hb, h.hc, h.hm, h.hw⟩
theorem InS2.below {w w' : World} {p : Option Addr} {S : List SlI} (h : InS2 w p S) (hb : Below w.heap.size w w') : InS2 w' p S :=
  ⟨fun h0 => by
    obtain ⟨g, o, hp, hr⟩ := h.row h0
    exact ⟨g, o, hp, fun i hi => HP.oldRange (HP.of_below (S := Tr) hb) trivial (hr i hi)⟩, fun r hr => (h.inn r hr).below hb⟩
/-! Which states are right. -/
def okX (s k : Int) (xs : List Int) (i : Nat) : Bool := wn (xs.getD i 0) 0 999 && (decide ((xs.getD i 0).tmod s = k) && !((xs.take i).contains (xs.getD i 0)))
def okR (s y k : Int) (xs : List Int) : Bool := decide ((xs.length : Int) ≤ y) && (List.range xs.length).all (okX s k xs)
def okSt (s y l m : Int) (X : List (List Int)) : Bool := vG s y l m && (decide ((X.length : Int) = s) && (List.range X.length).all fun k => okR s y (k : Int) (X.getD k []))
theorem okR_iff {s y k : Int} {xs : List Int} : okR s y k xs = true ↔ (xs.length : Int) ≤ y ∧ ∀ i, i < xs.length → okX s k xs i = true := by simp [okR]
theorem okSt_iff {s y l m : Int} {X : List (List Int)} : okSt s y l m X = true ↔ vG s y l m = true ∧ (X.length : Int) = s ∧ ∀ k, k < X.length → okR s y (k : Int) (X.getD k []) = true := by simp [okSt]
theorem okSt_bad {s y l m : Int} {X : List (List Int)} {k : Nat} (hk : k < X.length) (h : okR s y (k : Int) (X.getD k []) = false) : okSt s y l m X = false := by
  cases q : okSt s y l m X with
  | false => rfl
  | true => have := (okSt_iff.1 q).2.2 k hk; rw [h] at this; cases this
theorem okR_bad {s y k : Int} {xs : List Int} {i : Nat} (hi : i < xs.length) (h : okX s k xs i = false) : okR s y k xs = false := by
  cases q : okR s y k xs with
  | false => rfl
  | true => have := (okR_iff.1 q).2 i hi; rw [h] at this; cases this
theorem okR_long {s y k : Int} {xs : List Int} (h : ¬ (xs.length : Int) ≤ y) : okR s y k xs = false := by unfold okR; rw [decide_eq_false h]; rfl
def stX (S : List SlI) : List (List Int) := S.map (·.xs)
theorem stX_at {S : List SlI} {k : Nat} {r : SlI} (h : S[k]? = some r) : (stX S).getD k [] = r.xs ∧ S.getD k ⟨none, [], 0⟩ = r ∧ k < S.length ∧ r ∈ S := by
  have hlt := (List.getElem?_eq_some_iff.1 h).1
  exact ⟨by simp [stX, List.getD_eq_getElem?_getD, h], by simp [List.getD_eq_getElem?_getD, h], hlt, List.mem_of_getElem? h⟩
theorem stX_len (S : List SlI) : (stX S).length = S.length := by simp [stX]
theorem cells_of {w : World} {g o : Nat} {xs : List Int} (h : ∀ i, i < xs.length → w.rangeAt g (o + i) [vI (xs.getD i 0)]) : ∀ j, j < xs.length → w.cell? ⟨g, o + j, none⟩ = some (.int .i64 (xs.getD j 0)) := fun j hj => by
  have := h j hj 0 _ rfl
  simpa using this
end Ca
end Go.Proofs.Ytmjnakhpekbenaa
namespace Go.Proofs.Ytmjnakhpekbenaa
open Go.RowKit Fw
namespace Ca
/-- where a number stands -/
def plc (x : Int) : List Int → Option Nat
  | [] => none
  | a :: r => if a = x then some 0 else (plc x r).map (· + 1)
def plcV (x : Int) (xs : List Int) : Int := match plc x xs with | some k => (k : Int) | none => -1
theorem sz33 : (Try.prog.info? 33).map (·.size) = some 1 := by kernel_rfl
set_option maxRecDepth 20000 in
set_option maxHeartbeats 4000000 in
theorem ValidState_any (s y l m : Int) (p : Option Addr) (S : List SlI) (cp : Nat) (w : World) (hS : InS2 w p S) (hn : S.length ≤ 281474976710656) :
    Calls Try.prog 15 #[.agg #[vI s, vI y, vI l, vI m], .slice p S.length cp] w fun e w' => e = .returned (.bool (okSt s y l m (stX S))) ∧ Below w.heap.size w w' := by
  refine calls_of Try.func15 rfl (m := 58) rfl [(0, .agg #[vI s, vI y, vI l, vI m]), (1, .slice p S.length cp)] (Fr_enter [.agg #[vI s, vI y, vI l, vI m], .slice p S.length cp] 58 (Nat.le_of_ble_eq_true rfl)) ?_
  have hH1 : HP Tr w w [] := HP.refl w
  refine WC.seq fun K2 hK2 => WC.region ?_
  refine WL.alloc (c := #[vI s, vI y, vI l, vI m]) (T := 23) hH1 2 rfl (by decide) rfl rfl (fun b2 => vP b2 0) (by kernel_rfl) (fun b2 w3 hw3 => ?_)
  have hH4 : HP Tr w w3 [.cel b2 #[vI s, vI y, vI l, vI m] 23] := hw3.2
  have nb2 := hw3.1
  clear hw3
  refine WL.z (v := .bool false) 4 ?_
  refine WL.nil (WQ.then (hK2 _ _ _ (WC.seq fun K5 hK5 => WC.seq fun K6 hK6 => WC.region ?_)))
  refine WL.y (v := .agg #[vI s, vI y, vI l, vI m]) 9 (x_loadS (cs := [vI s, vI y, vI l, vI m]) rfl rfl Try.underlying23 rfl sz23 (HP.range hH4 0 rfl rfl)) ?_
  rcases Bool.eq_false_or_eq_true (vG s y l m) with hg | hg
  ·
    refine WL.call (f := 22) (args := #[.agg #[vI s, vI y, vI l, vI m]]) 10 rfl (Nat.le_of_ble_eq_true rfl) rfl rfl (by kernel_rfl) ?_
    refine (Valid_any s y l m _).mono ?_
    rw [hg]
    rintro e w7 ⟨rfl, hb9⟩
    refine ⟨_, rfl, ?_⟩
    have hH8 : HP Tr w _ [.cel b2 #[vI s, vI y, vI l, vI m] 23] := HP.call hH4 hb9
    obtain ⟨⟨hs1, hs2⟩, ⟨hy1, hy2⟩, -, -⟩ := vG_iff.1 hg
    refine WL.z (v := .bool false) 11 ?_
    refine WL.z (v := .bool false) 12 ?_
    refine WL.z (v := .slice p S.length cp) 13 ?_
    refine WL.z (v := vI (S.length : Int)) 14 ?_
    refine WL.z (v := vP b2 0) 15 ?_
    refine WL.y (v := vI s) 16 (x_load rfl rfl Try.underlying3 rfl (HP.cell hH8 0 rfl rfl)) ?_
    by_cases hsl : (S.length : Int) ≠ s
    ·
      refine WL.y (v := .bool true) 17 (x_neq rfl rfl rfl (dT (hsl))) ?_
      refine WL.z (v := .bool true) 18 ?_
      refine WL.nil (WQ.then (hK6 _ _ _ ?_))
      refine WC.sub (l' := [(0, .agg #[vI s, vI y, vI l, vI m]), (1, .slice p S.length cp), (2, vP b2 0), (4, .bool false), (18, .bool true)]) ⟨rfl, rfl, rfl, rfl, rfl, trivial⟩ ?_
      refine WC.yes rfl (WC.seq fun K9 hK9 => WC.region ?_)
      refine WL.z (v := .bool false) 4 ?_
      refine WL.nil (WQ.then (hK9 _ _ _ (WC.ret ?_)))
      refine WQ.thenRet ?_
      refine WQ.ret1 4 rfl rfl ?_
      exact ⟨by unfold okSt; rw [hg, stX_len, decide_eq_false (by omega)]; rfl, HP.below hH8⟩
    ·
      refine WL.y (v := .bool false) 17 (x_neq rfl rfl rfl (dF (hsl))) ?_
      refine WL.z (v := .bool false) 18 ?_
      refine WL.nil (WQ.then (hK6 _ _ _ ?_))
      refine WC.sub (l' := [(0, .agg #[vI s, vI y, vI l, vI m]), (1, .slice p S.length cp), (2, vP b2 0), (4, .bool false), (18, .bool false)]) ⟨rfl, rfl, rfl, rfl, rfl, trivial⟩ ?_
      refine WC.no rfl (WC.skip (WQ.then (hK5 _ _ _ (WC.seq fun K10 hK10 => WC.seq fun K11 hK11 => WC.region ?_))))
      refine WL.z (v := .slice p S.length cp) 19 ?_
      refine WL.z (v := vI (S.length : Int)) 20 ?_
      refine WL.z (v := vI 0) 21 ?_
      refine WL.nil (WQ.then (hK11 _ _ _ (WC.block ?_)))
      refine WC.loop (fun kk0 ll0 ww0 => ∃ (k : Nat), ll0 = [(1, .slice p S.length cp), (2, vP b2 0), (19, .slice p S.length cp), (20, vI (S.length : Int)), (21, vI (k : Int))] ∧ kk0 = S.length - k ∧ (k ≤ S.length) ∧ (∀ j, j < k → okR s y (j : Int) ((stX S).getD j []) = true) ∧ HP Tr w ww0 [.cel b2 #[vI s, vI y, vI l, vI m] 23]) (S.length) [(1, .slice p S.length cp), (2, vP b2 0), (19, .slice p S.length cp), (20, vI (S.length : Int)), (21, vI 0)] ⟨rfl, rfl, rfl, rfl, rfl, trivial⟩ ⟨0, rfl, rfl, Nat.zero_le _, fun j hj => by omega, hH8⟩ ?_
      rintro kk l w13 ⟨k, rfl, hkk, hk, hok, hH14⟩ K12 hK12
      refine WC.seq fun K15 hK15 => WC.region ?_
      by_cases hlt : (k : Int) < (S.length : Int)
      ·
        refine WL.y (v := .bool true) 22 (x_lss rfl rfl rfl (dT (hlt))) ?_
        refine WL.nil (WQ.then (hK15 _ _ _ (WC.seq fun K16 hK16 => WC.yes rfl (WC.skip (WQ.then (hK16 _ _ _ ?_))))))
        refine WC.seq fun K17 hK17 => WC.block (WC.seq fun K18 hK18 => ?_)
        obtain ⟨r, hr⟩ : ∃ r, S[k]? = some r := ⟨S[k]'(by omega), List.getElem?_eq_getElem _⟩
        obtain ⟨hr1, hr2, hr3, hr4⟩ := stX_at hr
        have hIR := hS.inn r hr4
        obtain ⟨q, xs, c⟩ := r
        have hI : InI w q xs := hIR.row
        have hxc : xs.length ≤ c := hIR.hc
        have hcm : c ≤ maxLen := hIR.hm
        unfold maxLen at hcm
        simp only [] at hr1 hr2
        obtain ⟨gS, oS, hpS, hrowS⟩ := hS.row (by omega)
        subst hpS
        refine WC.region ?_
        refine WL.z (v := vI (k : Int)) 23 ?_
        refine WL.y (v := vP gS (oS + k)) 24 (x_idx (k) (oS + k) rfl rfl rfl Try.underlying24 sz33 (by omega) (by omega) (by omega)) ?_
        refine WL.y (v := .slice q xs.length c) 25 (x_load rfl rfl Try.underlying33 rfl ((HP.oldRange hH14 trivial (show w.rangeAt gS (oS + k) [slV ⟨q, xs, c⟩] by have q9 := hrowS k (by omega); rw [hr2] at q9; exact q9)) 0 _ rfl)) ?_
        refine WL.z (v := vI (k : Int)) 5 ?_
        refine WL.z (v := .slice q xs.length c) 6 ?_
        refine WL.nil (WQ.then (hK18 _ _ _ (WC.seq fun K19 hK19 => WC.seq fun K20 hK20 => WC.region ?_)))
        refine WL.z (v := .slice q xs.length c) 26 ?_
        refine WL.z (v := vI (xs.length : Int)) 27 ?_
        refine WL.z (v := vP b2 1) 28 ?_
        refine WL.y (v := vI y) 29 (x_load rfl rfl Try.underlying3 rfl (HP.cell hH14 0 rfl rfl)) ?_
        by_cases hlong : y < (xs.length : Int)
        ·
          refine WL.y (v := .bool true) 30 (x_gtr rfl rfl rfl (dT (hlong))) ?_
          refine WL.nil (WQ.then (hK20 _ _ _ ?_))
          refine WC.sub (l' := [(1, .slice (some ⟨gS, oS, none⟩) S.length cp), (2, vP b2 0), (5, vI (k : Int)), (6, .slice q xs.length c), (19, .slice (some ⟨gS, oS, none⟩) S.length cp), (20, vI (S.length : Int)), (21, vI (k : Int)), (22, .bool true), (30, .bool true)]) ⟨rfl, rfl, rfl, rfl, rfl, rfl, rfl, rfl, rfl, trivial⟩ ?_
          refine WC.yes rfl (WC.seq fun K21 hK21 => ?_)
          have hbad : okR s y (k : Int) ((stX S).getD k []) = false := by rw [hr1]; exact okR_long (by omega)
          refine WC.region ?_
          refine WL.z (v := .bool false) 4 ?_
          refine WL.nil (WQ.then (hK21 _ _ _ (WC.ret ?_)))
          refine WQ.thenRet ?_
          refine WQ.inRet ?_
          refine WQ.thenRet ?_
          refine WQ.thenRet ?_
          refine WQ.inRet ?_
          refine WQ.thenRet ?_
          refine WQ.ret1 4 rfl rfl ?_
          exact ⟨by rw [okSt_bad (by rw [stX_len]; omega) hbad], HP.below hH14⟩
        ·
          refine WL.y (v := .bool false) 30 (x_gtr rfl rfl rfl (dF (hlong))) ?_
          refine WL.nil (WQ.then (hK20 _ _ _ ?_))
          refine WC.sub (l' := [(1, .slice (some ⟨gS, oS, none⟩) S.length cp), (2, vP b2 0), (5, vI (k : Int)), (6, .slice q xs.length c), (19, .slice (some ⟨gS, oS, none⟩) S.length cp), (20, vI (S.length : Int)), (21, vI (k : Int)), (22, .bool true), (30, .bool false)]) ⟨rfl, rfl, rfl, rfl, rfl, rfl, rfl, rfl, rfl, trivial⟩ ?_
          refine WC.no rfl (WC.skip (WQ.then (hK19 _ _ _ (WC.seq fun K22 hK22 => WC.region ?_))))
          refine WL.z (v := .slice q xs.length c) 31 ?_
          refine WL.z (v := vI (xs.length : Int)) 32 ?_
          refine WL.z (v := vI 0) 33 ?_
          refine WL.nil (WQ.then (hK22 _ _ _ (WC.block ?_)))
          refine WC.loop (fun kk0 ll0 ww0 => ∃ (i : Nat), ll0 = [(1, .slice (some ⟨gS, oS, none⟩) S.length cp), (2, vP b2 0), (5, vI (k : Int)), (6, .slice q xs.length c), (19, .slice (some ⟨gS, oS, none⟩) S.length cp), (20, vI (S.length : Int)), (21, vI (k : Int)), (31, .slice q xs.length c), (32, vI (xs.length : Int)), (33, vI (i : Int))] ∧ kk0 = xs.length - i ∧ (i ≤ xs.length) ∧ (∀ j, j < i → okX s (k : Int) xs j = true) ∧ HP Tr w ww0 [.cel b2 #[vI s, vI y, vI l, vI m] 23]) (xs.length) [(1, .slice (some ⟨gS, oS, none⟩) S.length cp), (2, vP b2 0), (5, vI (k : Int)), (6, .slice q xs.length c), (19, .slice (some ⟨gS, oS, none⟩) S.length cp), (20, vI (S.length : Int)), (21, vI (k : Int)), (31, .slice q xs.length c), (32, vI (xs.length : Int)), (33, vI 0)] ⟨rfl, rfl, rfl, rfl, rfl, rfl, rfl, rfl, rfl, rfl, trivial⟩ ⟨0, rfl, rfl, Nat.zero_le _, fun j hj => by omega, hH14⟩ ?_
          rintro kk l w24 ⟨i, rfl, hkk, hi, hokj, hH25⟩ K23 hK23
          refine WC.seq fun K26 hK26 => WC.region ?_
          by_cases hi2 : (i : Int) < (xs.length : Int)
          ·
            refine WL.y (v := .bool true) 34 (x_lss rfl rfl rfl (dT (hi2))) ?_
            refine WL.nil (WQ.then (hK26 _ _ _ (WC.seq fun K27 hK27 => WC.yes rfl (WC.skip (WQ.then (hK27 _ _ _ ?_))))))
            refine WC.seq fun K28 hK28 => WC.block (WC.seq fun K29 hK29 => ?_)
            obtain ⟨g, o, rfl, hrow⟩ := hI (by omega)
            refine WC.region ?_
            refine WL.z (v := vI (i : Int)) 35 ?_
            refine WL.y (v := vP g (o + i)) 36 (x_idx (i) (o + i) rfl rfl rfl Try.underlying33 sz3 (by omega) (by omega) (by omega)) ?_
            refine WL.y (v := vI (xs.getD i 0)) 37 (x_load rfl rfl Try.underlying3 rfl ((HP.oldRange hH25 trivial (hrow i (by omega))) 0 _ rfl)) ?_
            refine WL.z (v := vI (i : Int)) 7 ?_
            refine WL.z (v := vI (xs.getD i 0)) 8 ?_
            refine WL.nil (WQ.then (hK29 _ _ _ (WC.seq fun K30 hK30 => WC.region ?_)))
            refine WL.z (v := vI (xs.getD i 0)) 38 ?_
            rcases Bool.eq_false_or_eq_true (wn (xs.getD i 0) 0 999) with hA | hA
            ·
              refine WL.call (f := 44) (args := #[vI (xs.getD i 0), vI 0, vI 999]) 39 rfl (Nat.le_of_ble_eq_true rfl) rfl rfl (by kernel_rfl) ?_
              refine (within_at hA _).mono ?_
              rintro e w31 ⟨rfl, rfl⟩
              refine ⟨_, rfl, ?_⟩
              refine WL.z (v := .bool false) 40 ?_
              refine WL.z (v := .bool false) 41 ?_
              refine WL.z (v := vI (xs.getD i 0)) 42 ?_
              refine WL.z (v := vP b2 0) 43 ?_
              refine WL.y (v := vI s) 44 (x_load rfl rfl Try.underlying3 rfl (HP.cell hH25 0 rfl rfl)) ?_
              refine WL.y (v := vI ((xs.getD i 0).tmod s)) 45 (x_rem rfl rfl rfl (by omega) rfl) ?_
              refine WL.z (v := vI (k : Int)) 46 ?_
              by_cases h47 : (xs.getD i 0).tmod s ≠ (k : Int)
              ·
                refine WL.y (v := .bool true) 47 (x_neq rfl rfl rfl (dT (h47))) ?_
                refine WL.z (v := .bool true) 48 ?_
                refine WL.z (v := .bool true) 49 ?_
                refine WL.p 50 ?_
                refine WL.p 51 ?_
                refine WL.p 52 ?_
                refine WL.p 53 ?_
                refine WL.p 54 ?_
                refine WL.z (v := .bool true) 55 ?_
                refine WL.nil (WQ.then (hK30 _ _ _ ?_))
                refine WC.sub (l' := [(1, .slice (some ⟨gS, oS, none⟩) S.length cp), (2, vP b2 0), (5, vI (k : Int)), (6, .slice (some ⟨g, o, none⟩) xs.length c), (7, vI (i : Int)), (8, vI (xs.getD i 0)), (19, .slice (some ⟨gS, oS, none⟩) S.length cp), (20, vI (S.length : Int)), (21, vI (k : Int)), (31, .slice (some ⟨g, o, none⟩) xs.length c), (32, vI (xs.length : Int)), (33, vI (i : Int)), (34, .bool true), (55, .bool true)]) ⟨rfl, rfl, rfl, rfl, rfl, rfl, rfl, rfl, rfl, rfl, rfl, rfl, rfl, rfl, trivial⟩ ?_
                refine WC.yes rfl (WC.seq fun K32 hK32 => ?_)
                have hbx : okX s (k : Int) xs i = false := by unfold okX; rw [hA, decide_eq_false h47]; rfl
                have hbad : okR s y (k : Int) ((stX S).getD k []) = false := by rw [hr1]; exact okR_bad (by omega) hbx
                refine WC.region ?_
                refine WL.z (v := .bool false) 4 ?_
                refine WL.nil (WQ.then (hK32 _ _ _ (WC.ret ?_)))
                refine WQ.inRet ?_
                refine WQ.thenRet ?_
                refine WQ.thenRet ?_
                refine WQ.inRet ?_
                refine WQ.inRet ?_
                refine WQ.thenRet ?_
                refine WQ.thenRet ?_
                refine WQ.inRet ?_
                refine WQ.thenRet ?_
                refine WQ.ret1 4 rfl rfl ?_
                exact ⟨by rw [okSt_bad (by rw [stX_len]; omega) hbad], HP.below hH25⟩
              ·
                refine WL.y (v := .bool false) 47 (x_neq rfl rfl rfl (dF (h47))) ?_
                refine WL.z (v := .bool false) 48 ?_
                refine WL.z (v := .bool false) 49 ?_
                refine WL.z (v := .slice (some ⟨g, o, none⟩) xs.length c) 50 ?_
                refine WL.z (v := vI (i : Int)) 51 ?_
                refine WL.y (v := .slice (some ⟨g, o, none⟩) i c) 52 (x_sliceH (i) rfl rfl rfl Try.underlying33 (by omega) (by omega) sz3) ?_
                refine WL.z (v := vI (xs.getD i 0)) 53 ?_
                rcases Bool.eq_false_or_eq_true ((xs.take i).contains (xs.getD i 0)) with hC | hC
                ·
                  refine WL.call (f := 45) (args := #[.slice (some ⟨g, o, none⟩) i c, vI (xs.getD i 0)]) 54 rfl (Nat.le_of_ble_eq_true rfl) rfl rfl (by kernel_rfl) ?_
                  refine (((Try.slices_Contains_int g o i c xs (xs.getD i 0) _ (by omega) (by omega) (cells_of fun j hj => HP.oldRange hH25 trivial (hrow j hj))).mono fun e w' h => (show e = .returned (.bool true) ∧ _ = w' from ⟨by rw [h.1, hC], h.2.symm⟩))).mono ?_
                  rintro e w33 ⟨rfl, rfl⟩
                  refine ⟨_, rfl, ?_⟩
                  refine WL.z (v := .bool true) 55 ?_
                  refine WL.nil (WQ.then (hK30 _ _ _ ?_))
                  refine WC.sub (l' := [(1, .slice (some ⟨gS, oS, none⟩) S.length cp), (2, vP b2 0), (5, vI (k : Int)), (6, .slice (some ⟨g, o, none⟩) xs.length c), (7, vI (i : Int)), (8, vI (xs.getD i 0)), (19, .slice (some ⟨gS, oS, none⟩) S.length cp), (20, vI (S.length : Int)), (21, vI (k : Int)), (31, .slice (some ⟨g, o, none⟩) xs.length c), (32, vI (xs.length : Int)), (33, vI (i : Int)), (34, .bool true), (55, .bool true)]) ⟨rfl, rfl, rfl, rfl, rfl, rfl, rfl, rfl, rfl, rfl, rfl, rfl, rfl, rfl, trivial⟩ ?_
                  refine WC.yes rfl (WC.seq fun K34 hK34 => ?_)
                  have hbx : okX s (k : Int) xs i = false := by unfold okX; rw [hA, decide_eq_true (Classical.not_not.1 h47), hC]; rfl
                  have hbad : okR s y (k : Int) ((stX S).getD k []) = false := by rw [hr1]; exact okR_bad (by omega) hbx
                  refine WC.region ?_
                  refine WL.z (v := .bool false) 4 ?_
                  refine WL.nil (WQ.then (hK34 _ _ _ (WC.ret ?_)))
                  refine WQ.inRet ?_
                  refine WQ.thenRet ?_
                  refine WQ.thenRet ?_
                  refine WQ.inRet ?_
                  refine WQ.inRet ?_
                  refine WQ.thenRet ?_
                  refine WQ.thenRet ?_
                  refine WQ.inRet ?_
                  refine WQ.thenRet ?_
                  refine WQ.ret1 4 rfl rfl ?_
                  exact ⟨by rw [okSt_bad (by rw [stX_len]; omega) hbad], HP.below hH25⟩
                ·
                  refine WL.call (f := 45) (args := #[.slice (some ⟨g, o, none⟩) i c, vI (xs.getD i 0)]) 54 rfl (Nat.le_of_ble_eq_true rfl) rfl rfl (by kernel_rfl) ?_
                  refine (((Try.slices_Contains_int g o i c xs (xs.getD i 0) _ (by omega) (by omega) (cells_of fun j hj => HP.oldRange hH25 trivial (hrow j hj))).mono fun e w' h => (show e = .returned (.bool false) ∧ _ = w' from ⟨by rw [h.1, hC], h.2.symm⟩))).mono ?_
                  rintro e w35 ⟨rfl, rfl⟩
                  refine ⟨_, rfl, ?_⟩
                  refine WL.z (v := .bool false) 55 ?_
                  refine WL.nil (WQ.then (hK30 _ _ _ ?_))
                  refine WC.sub (l' := [(1, .slice (some ⟨gS, oS, none⟩) S.length cp), (2, vP b2 0), (5, vI (k : Int)), (6, .slice (some ⟨g, o, none⟩) xs.length c), (7, vI (i : Int)), (8, vI (xs.getD i 0)), (19, .slice (some ⟨gS, oS, none⟩) S.length cp), (20, vI (S.length : Int)), (21, vI (k : Int)), (31, .slice (some ⟨g, o, none⟩) xs.length c), (32, vI (xs.length : Int)), (33, vI (i : Int)), (34, .bool true), (55, .bool false)]) ⟨rfl, rfl, rfl, rfl, rfl, rfl, rfl, rfl, rfl, rfl, rfl, rfl, rfl, rfl, trivial⟩ ?_
                  refine WC.no rfl (WC.skip (WQ.inNormal (WQ.then (hK28 _ _ _ ?_))))
                  have hokx : okX s (k : Int) xs i = true := by unfold okX; rw [hA, decide_eq_true (Classical.not_not.1 h47), hC]; rfl
                  refine WC.region ?_
                  refine WL.y (v := vI ((i + 1 : Nat) : Int)) 56 (x_add (Z := ((i + 1 : Nat) : Int)) rfl rfl rfl (by omega) (by omega) (by omega)) ?_
                  refine WL.z (v := vI ((i + 1 : Nat) : Int)) 33 ?_
                  refine WL.nil ?_
                  refine WQ.sub (l' := [(1, .slice (some ⟨gS, oS, none⟩) S.length cp), (2, vP b2 0), (5, vI (k : Int)), (6, .slice (some ⟨g, o, none⟩) xs.length c), (19, .slice (some ⟨gS, oS, none⟩) S.length cp), (20, vI (S.length : Int)), (21, vI (k : Int)), (31, .slice (some ⟨g, o, none⟩) xs.length c), (32, vI (xs.length : Int)), (33, vI ((i + 1 : Nat) : Int))]) ⟨rfl, rfl, rfl, rfl, rfl, rfl, rfl, rfl, rfl, rfl, trivial⟩ ?_
                  refine WQ.then (hK23 _ _ _ (by omega) ⟨i + 1, rfl, rfl, by omega, fun j hj => by
                                        by_cases q9 : j = i
                                        · subst q9; exact hokx
                                        · exact hokj j (by omega), hH25⟩)
            ·
              refine WL.call (f := 44) (args := #[vI (xs.getD i 0), vI 0, vI 999]) 39 rfl (Nat.le_of_ble_eq_true rfl) rfl rfl (by kernel_rfl) ?_
              refine (within_at hA _).mono ?_
              rintro e w36 ⟨rfl, rfl⟩
              refine ⟨_, rfl, ?_⟩
              refine WL.z (v := .bool true) 40 ?_
              refine WL.z (v := .bool true) 41 ?_
              refine WL.p 42 ?_
              refine WL.p 43 ?_
              refine WL.p 44 ?_
              refine WL.p 45 ?_
              refine WL.p 46 ?_
              refine WL.p 47 ?_
              refine WL.z (v := .bool true) 48 ?_
              refine WL.z (v := .bool true) 49 ?_
              refine WL.p 50 ?_
              refine WL.p 51 ?_
              refine WL.p 52 ?_
              refine WL.p 53 ?_
              refine WL.p 54 ?_
              refine WL.z (v := .bool true) 55 ?_
              refine WL.nil (WQ.then (hK30 _ _ _ ?_))
              refine WC.sub (l' := [(1, .slice (some ⟨gS, oS, none⟩) S.length cp), (2, vP b2 0), (5, vI (k : Int)), (6, .slice (some ⟨g, o, none⟩) xs.length c), (7, vI (i : Int)), (8, vI (xs.getD i 0)), (19, .slice (some ⟨gS, oS, none⟩) S.length cp), (20, vI (S.length : Int)), (21, vI (k : Int)), (31, .slice (some ⟨g, o, none⟩) xs.length c), (32, vI (xs.length : Int)), (33, vI (i : Int)), (34, .bool true), (55, .bool true)]) ⟨rfl, rfl, rfl, rfl, rfl, rfl, rfl, rfl, rfl, rfl, rfl, rfl, rfl, rfl, trivial⟩ ?_
              refine WC.yes rfl (WC.seq fun K37 hK37 => ?_)
              have hbx : okX s (k : Int) xs i = false := by unfold okX; rw [hA]; rfl
              have hbad : okR s y (k : Int) ((stX S).getD k []) = false := by rw [hr1]; exact okR_bad (by omega) hbx
              refine WC.region ?_
              refine WL.z (v := .bool false) 4 ?_
              refine WL.nil (WQ.then (hK37 _ _ _ (WC.ret ?_)))
              refine WQ.inRet ?_
              refine WQ.thenRet ?_
              refine WQ.thenRet ?_
              refine WQ.inRet ?_
              refine WQ.inRet ?_
              refine WQ.thenRet ?_
              refine WQ.thenRet ?_
              refine WQ.inRet ?_
              refine WQ.thenRet ?_
              refine WQ.ret1 4 rfl rfl ?_
              exact ⟨by rw [okSt_bad (by rw [stX_len]; omega) hbad], HP.below hH25⟩
          ·
            refine WL.y (v := .bool false) 34 (x_lss rfl rfl rfl (dF (hi2))) ?_
            refine WL.nil (WQ.then (hK26 _ _ _ (WC.seq fun K38 hK38 => WC.no rfl (WC.exit (WQ.thenExit (WQ.thenExit ?_))))))
            refine WQ.inExit (WQ.inNormal (WQ.then (hK17 _ _ _ (WC.region ?_))))
            refine WL.y (v := vI ((k + 1 : Nat) : Int)) 57 (x_add (Z := ((k + 1 : Nat) : Int)) rfl rfl rfl (by omega) (by omega) (by omega)) ?_
            refine WL.z (v := vI ((k + 1 : Nat) : Int)) 21 ?_
            refine WL.nil ?_
            have hrk : okR s y (k : Int) ((stX S).getD k []) = true := by rw [hr1]; exact okR_iff.2 ⟨by omega, fun j hj => hokj j (by omega)⟩
            refine WQ.sub (l' := [(1, .slice (some ⟨gS, oS, none⟩) S.length cp), (2, vP b2 0), (19, .slice (some ⟨gS, oS, none⟩) S.length cp), (20, vI (S.length : Int)), (21, vI ((k + 1 : Nat) : Int))]) ⟨rfl, rfl, rfl, rfl, rfl, trivial⟩ ?_
            refine WQ.then (hK12 _ _ _ (by omega) ⟨k + 1, rfl, rfl, by omega, fun j hj => by
                            by_cases q9 : j = k
                            · subst q9; exact hrk
                            · exact hok j (by omega), hH25⟩)
      ·
        refine WL.y (v := .bool false) 22 (x_lss rfl rfl rfl (dF (hlt))) ?_
        refine WL.nil (WQ.then (hK15 _ _ _ (WC.seq fun K39 hK39 => WC.no rfl (WC.exit (WQ.thenExit (WQ.thenExit ?_))))))
        refine WQ.inExit (WQ.then (hK10 _ _ _ (WC.seq fun K40 hK40 => WC.region ?_)))
        refine WL.z (v := .bool true) 4 ?_
        refine WL.nil (WQ.then (hK40 _ _ _ (WC.ret ?_)))
        refine WQ.ret1 4 rfl rfl ?_
        exact ⟨by rw [okSt_iff.2 ⟨hg, by rw [stX_len]; omega, fun j hj => hok j (by rw [stX_len] at hj; omega)⟩], HP.below hH14⟩
  ·
    refine WL.call (f := 22) (args := #[.agg #[vI s, vI y, vI l, vI m]]) 10 rfl (Nat.le_of_ble_eq_true rfl) rfl rfl (by kernel_rfl) ?_
    refine (Valid_any s y l m _).mono ?_
    rw [hg]
    rintro e w41 ⟨rfl, hb9⟩
    refine ⟨_, rfl, ?_⟩
    have hH42 : HP Tr w _ [.cel b2 #[vI s, vI y, vI l, vI m] 23] := HP.call hH4 hb9
    refine WL.z (v := .bool true) 11 ?_
    refine WL.z (v := .bool true) 12 ?_
    refine WL.p 13 ?_
    refine WL.p 14 ?_
    refine WL.p 15 ?_
    refine WL.p 16 ?_
    refine WL.p 17 ?_
    refine WL.z (v := .bool true) 18 ?_
    refine WL.nil (WQ.then (hK6 _ _ _ ?_))
    refine WC.sub (l' := [(0, .agg #[vI s, vI y, vI l, vI m]), (1, .slice p S.length cp), (2, vP b2 0), (4, .bool false), (18, .bool true)]) ⟨rfl, rfl, rfl, rfl, rfl, trivial⟩ ?_
    refine WC.yes rfl (WC.seq fun K43 hK43 => WC.region ?_)
    refine WL.z (v := .bool false) 4 ?_
    refine WL.nil (WQ.then (hK43 _ _ _ (WC.ret ?_)))
    refine WQ.thenRet ?_
    refine WQ.ret1 4 rfl rfl ?_
    exact ⟨by unfold okSt; rw [hg]; rfl, HP.below hH42⟩
end Ca
end Go.Proofs.Ytmjnakhpekbenaa
namespace Go.Proofs.Ytmjnakhpekbenaa
open Go.RowKit Fw
namespace Ca
theorem infoL : ∃ i, Try.prog.info? 33 = some i ∧ i.zero = some (.slice none 0 0) ∧ i.size = 1 ∧ i.bytes = 24 := by
  obtain ⟨i, hi, h⟩ := Option.map_eq_some_iff.1 (show (Try.prog.info? 33).map (fun i => (i.zero, i.size, i.bytes)) = some (some (.slice none 0 0), 1, 24) by kernel_rfl)
  simp only [Prod.mk.injEq] at h
  exact ⟨i, hi, h.1, h.2.1, h.2.2⟩
/-- a row of nil rows -/
def nilR (n : Nat) : Array Value := madeCells (Value.slice none 0 0).cells (n * 1)
theorem makeS2 (n : Nat) (hn : n ≤ 1000) (W : World) : (Instr.makeSlice 24 (.int .i64 (n : Int)) (.int .i64 (n : Int))).run Try.prog W = .ok (.slice (some ⟨W.heap.size, 0, none⟩) n n) (W.alloc (.cells (nilR n) 33)) := by
  obtain ⟨i0, hi0, hz0, hz1, hz2⟩ := infoL
  have hr := run_make (P := Try.prog) W 24 33 i0 _ Try.underlying24 hi0 hz0 .i64 .i64 (n : Int) (n : Int) (by omega) (by omega) (by rw [hz2]; omega) (by omega)
  rw [hz1] at hr
  simpa [nilR] using hr
theorem nilR_at {n j : Nat} (h : j < n) : (nilR n)[j]? = some (.slice none 0 0) := by
  simp [nilR, madeCells, h, Value.cells, Nat.mod_one]
abbrev nilS (n : Nat) : List SlI := List.replicate n ⟨none, [], 0⟩
end Ca
end Go.Proofs.Ytmjnakhpekbenaa
namespace Go.Proofs.Ytmjnakhpekbenaa
open Go.RowKit Fw
namespace Ca
abbrev iR (xs : List Int) : List Value := xs.map (Value.int .i64)
abbrev rowI' (pv : Option Addr) (cp : Nat) (xs : List Int) : Ent := .own (.slice pv xs.length cp) xs.length (iR xs) 3 1
theorem hp_own {w w' : World} {v : Value} {n e s : Nat} {xs : List Value} (hb : Below w.heap.size w w') (h : w'.ownsRow w.heap.size e s v n xs) : HP Tr w w' [.own v n xs e s] := by
  have q := HP.of_below (S := Tr) hb
  refine ⟨q.os, q.tape, q.output, q.size, q.keep, fun x hx => ?_, fun x hx b hbk hlt => ?_, by simp⟩
  · obtain rfl := List.mem_singleton.1 hx
    refine ⟨h.1, ?_⟩
    rcases h.2 with h | ⟨g, cap, cur, hv, _, hr⟩
    · exact .inl h
    · exact .inr ⟨g, cap, cur, hv, Nat.zero_le _, hr⟩
  · obtain rfl := List.mem_singleton.1 hx
    rcases h.2 with ⟨h, _⟩ | ⟨g, cap, cur, hv, hg, _⟩
    · subst h; cases hbk
    · subst hv; simp only [Ent.blk, Value.ownBlock, Option.some.injEq] at hbk; omega
theorem clone_any (r : SlI) (w : World) (hR : InR w r) (hn : r.xs.length ≤ 1000000) :
    Calls Try.prog 72 #[slV r] w fun e w' => ∃ pv cp, e = .returned (.slice pv r.xs.length cp) ∧ HP Tr w w' [rowI' pv cp r.xs] := by
  obtain ⟨q, xs, c⟩ := r
  have hI : InI w q xs := hR.row
  simp only [slV] at hn ⊢
  cases q with
  | none =>
    have hx : xs = [] := by
      cases xs with
      | nil => rfl
      | cons a r => obtain ⟨g, o, h, _⟩ := hI (by simp); cases h
    subst hx
    refine (Try.slices_Clone_int_nil 0 c w).mono ?_
    rintro e w' ⟨rfl, rfl⟩
    exact ⟨none, 0, rfl, HP.eq (HP.ownNil (HP.refl (S := Tr) w') 3 1) rfl⟩
  | some a =>
    by_cases h0 : xs.length = 0
    · have hx : xs = [] := List.length_eq_zero_iff.1 h0
      subst hx
      refine (Try.slices_Clone_int_zero a c w).mono ?_
      rintro e w' ⟨v', rfl, ho, -, hb⟩
      have hh := hp_own hb ho
      obtain ⟨pv, cp, rfl⟩ := own_row (HP.get hh 0 rfl)
      exact ⟨pv, cp, rfl, hh⟩
    · obtain ⟨g, o, hp, hr⟩ := hI (by omega)
      cases hp
      refine (Try.slices_Clone_int g o xs.length c xs w (Nat.le_refl _) (by omega) (cells_of hr)).mono ?_
      rintro e w' ⟨v', rfl, ho, -, hb⟩
      rw [List.take_length] at ho
      have hh := hp_own hb ho
      obtain ⟨pv, cp, rfl⟩ := own_row (HP.get hh 0 rfl)
      exact ⟨pv, cp, rfl, hh⟩
/-- a row of its own can be read -/
theorem row_in {w : World} {pv : Option Addr} {cp : Nat} {xs : List Int} (h : Ent.holds w (rowI' pv cp xs)) : InI w pv xs := fun h0 => by
  have h2 : w.ownsRow 0 3 1 (.slice pv xs.length cp) xs.length (iR xs) := h
  have hc := @World.ownsRow.cells _ _ _ _ _ _ _ h2
  rcases h2.2 with ⟨h0', h1⟩ | ⟨g, cap, cur, hv, hb, hg, hnc, hm, hs, hx⟩
  · omega
  · cases hv
    refine ⟨g, 0, rfl, fun i hi j v hv => ?_⟩
    match j, hv with
    | 0, hv =>
      simp at hv
      subst hv
      have := hc (g := g) rfl i (vI (xs.getD i 0)) (by simp [iR, List.getD_eq_getElem?_getD, hi])
      rw [hadd] at this
      simpa using this
    | j + 1, hv => simp at hv
end Ca
end Go.Proofs.Ytmjnakhpekbenaa
namespace Go.Proofs.Ytmjnakhpekbenaa
open Go.RowKit Fw
namespace Ca
theorem delete_any (pv : Option Addr) (cp : Nat) (xs : List Int) (k : Nat) (w : World) (hB : OwnB w [rowI' pv cp xs]) (hk : k < xs.length) :
    Calls Try.prog 73 #[.slice pv xs.length cp, vI (k : Int), vI ((k + 1 : Nat) : Int)] w fun e w' => e = .returned (.slice pv (xs.eraseIdx k).length cp) ∧ HP (Out [rowI' pv cp xs]) w w' [rowI' pv cp (xs.eraseIdx k)] := by
  have hO := hB.1 _ (List.mem_singleton.2 rfl)
  have h2 : w.ownsRow 0 3 1 (.slice pv xs.length cp) xs.length (iR xs) := hO
  have hc := @World.ownsRow.cells _ _ _ _ _ _ _ h2
  rcases h2.2 with ⟨h0', h1⟩ | ⟨g, cap, cur, hv, hb, hg, hnc, hm, hs, hx⟩
  · omega
  · cases hv
    have hlt := (Array.getElem?_eq_some_iff.1 hg).1
    have hH : Go.Sort.Holds (Value.int .i64) w g 0 xs.toArray := fun j hj => by
      have hj' : j < xs.length := by simpa using hj
      refine ⟨?_, by simp [World.frozen?, hg]⟩
      have := hc (g := g) rfl j (vI (xs.getD j 0)) (by simp [iR, List.getD_eq_getElem?_getD, hj'])
      rw [hadd] at this
      rw [this]
      simp [List.getD_eq_getElem?_getD, hj']
    have hle : (xs.eraseIdx k).length = xs.length - 1 := List.length_eraseIdx_of_lt hk
    refine (Try.slices_Delete_int g 0 cp k (k + 1) xs w hH hnc hm (by omega) (by omega)).mono ?_
    rintro e w' ⟨rfl, q, rfl⟩
    refine ⟨by rw [hle, show k + 1 - k = 1 by omega], ?_⟩
    have hheap : (Go.Sort.putRow (Value.int .i64) (Go.Sort.ahead w q) g 0 (xs.take k ++ xs.drop (k + 1) ++ List.replicate (k + 1 - k) 0).toArray).heap = w.heap.modify g (Go.Sort.onCells (Go.Sort.putCells (Value.int .i64) 0 (xs.take k ++ xs.drop (k + 1) ++ List.replicate (k + 1 - k) 0).toArray)) := rfl
    refine ⟨rfl, rfl, rfl, by rw [hheap]; simp, fun j hj hO => ?_, fun e he => ?_, fun e he b hb' hlt' hO => ?_, by simp⟩
    · have hne : g ≠ j := fun e => hO _ (List.mem_singleton.2 rfl) (by rw [← e]; rfl)
      rw [hheap, Array.getElem?_modify, if_neg hne]
    · obtain rfl := List.mem_singleton.1 he
      refine ⟨by simp [iR], .inr ⟨g, cp, Go.Sort.putCells (Value.int .i64) 0 (xs.take k ++ xs.drop (k + 1) ++ List.replicate (k + 1 - k) 0).toArray cur, rfl, Nat.zero_le _, ?_, by omega, hm, by simp [Go.Sort.putCells, hs], ?_⟩⟩
      · rw [hheap, Array.getElem?_modify, if_pos rfl, hg]; rfl
      · refine List.ext_getElem? fun j => ?_
        rw [List.getElem?_take, Nat.mul_one]
        have hE : xs.eraseIdx k = xs.take k ++ xs.drop (k + 1) := List.eraseIdx_eq_take_drop_succ _ _
        by_cases hj : j < (xs.eraseIdx k).length
        · rw [if_pos hj, Array.getElem?_toList]
          have hcur : j < cur.size := by omega
          have hl : j < (xs.take k ++ xs.drop (k + 1) ++ List.replicate (k + 1 - k) 0).toArray.size := by rw [hE] at hj; simp at hj ⊢; omega
          simp only [Go.Sort.putCells, Array.getElem?_mapIdx, Array.getElem?_eq_getElem hcur, Option.map_some, Nat.zero_le, true_and, Nat.zero_add, hl, if_true, Nat.sub_zero]
          have e1 : (xs.take k ++ xs.drop (k + 1) ++ List.replicate (k + 1 - k) 0).toArray[j]! = (xs.eraseIdx k)[j] := by
            have e0 : ∀ D : List Int, j < D.length → D.toArray[j]! = D.getD j 0 := fun D h => by simp [List.getD_eq_getElem?_getD, h]
            rw [e0 _ (by simpa using hl), ← hE, List.getD_eq_getElem?_getD, List.getElem?_append_left hj, List.getElem?_eq_getElem hj]
            rfl
          rw [e1]
          simp [iR, hj]
        · rw [if_neg hj, List.getElem?_eq_none (by simp [iR]; omega)]
    · obtain rfl := List.mem_singleton.1 he
      exact hO _ (List.mem_singleton.2 rfl) hb'
end Ca
end Go.Proofs.Ytmjnakhpekbenaa
namespace Go.Proofs.Ytmjnakhpekbenaa
open Go.RowKit Fw
namespace Ca
/-- the outer row's cells -/
def sA (S : List SlI) : Array Value := (S.map fun r => slV r).toArray
theorem sA_at {S : List SlI} {k : Nat} {r : SlI} (h : S[k]? = some r) : (sA S)[k]? = some (slV r) := by simp [sA, h]
theorem sA_set {S : List SlI} {k : Nat} {r : SlI} : (sA S).setIfInBounds k (slV r) = sA (S.set k r) := by
  apply Array.ext'
  simp [sA, List.map_set]
theorem sA_size (S : List SlI) : (sA S).size = S.length := by simp [sA]
/-- a row of numbers does not lie in the outer row's block -/
theorem not_outer {w : World} {g : Nat} {S : List SlI} {q : Option Addr} {xs : List Int} (hO : w.heap[g]? = some (.cells (sA S) 33 (0, 0))) {b o : Nat} (hq : q = some ⟨b, o, none⟩) (h0 : 0 < xs.length) (hr : ∀ i, i < xs.length → w.rangeAt b (o + i) [vI (xs.getD i 0)]) : b ≠ g := fun e => by
  subst e
  have := hr 0 h0 0 _ rfl
  rw [cell_of_row w b _ _ 33 (0, 0) hO] at this
  simp only [sA, List.getElem?_toArray, List.getElem?_map] at this
  cases hx : S[o + 0 + 0]? with
  | none => rw [hx] at this; simp at this
  | some r => rw [hx] at this; simp at this
theorem InI.keep {w w' : World} {g : Nat} {S : List SlI} {H : List Ent} {q : Option Addr} {xs : List Int} (h : InI w q xs) (hO : w.heap[g]? = some (.cells (sA S) 33 (0, 0))) (hp : HP (Out [.cel g (sA S) 33]) w w' H) : InI w' q xs := fun h0 => by
  obtain ⟨b, o, hq, hr⟩ := h h0
  have hne := not_outer hO hq h0 hr
  refine ⟨b, o, hq, fun i hi => HP.oldRange hp (fun e he => ?_) (hr i hi)⟩
  obtain rfl := List.mem_singleton.1 he
  exact fun q => hne (Option.some.inj q).symm
theorem InR.keep {w w' : World} {g : Nat} {S : List SlI} {H : List Ent} {r : SlI} (h : InR w r) (hO : w.heap[g]? = some (.cells (sA S) 33 (0, 0))) (hp : HP (Out [.cel g (sA S) 33]) w w' H) : InR w' r := ⟨InI.keep h.row hO hp, h.hc, h.hm, h.hw⟩
theorem index_any (r : SlI) (x : Int) (w : World) (hR : InR w r) (hn : r.xs.length ≤ 1000000) :
    Calls Try.prog 67 #[slV r, vI x] w fun e w' => e = .returned (.int .i64 (Lib.idxOf r.xs x)) ∧ w = w' := by
  obtain ⟨q, xs, c⟩ := r
  have hI : InI w q xs := hR.row
  simp only [slV] at hn ⊢
  by_cases h0 : xs.length = 0
  · have hx : xs = [] := List.length_eq_zero_iff.1 h0
    subst hx
    exact (Try.slices_Index_int_empty q c x w).mono fun e w' h => ⟨h.1, h.2.symm⟩
  · obtain ⟨g, o, rfl, hr⟩ := hI (by omega)
    refine (Try.slices_Index_int g o xs.length c xs x w (Nat.le_refl _) (by omega) (cells_of hr)).mono fun e w' h => ⟨?_, h.2.symm⟩
    rw [h.1, List.take_length]
end Ca
end Go.Proofs.Ytmjnakhpekbenaa
