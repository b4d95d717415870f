/- What the proof of CacheCosts stands on, part 6 of 6. -/
import Derived.BigQuiet
import Derived.BigRegion
import Derived.CallsIn
import Derived.ChangeAlike
import Derived.ChangeArms
import Derived.ChangeKeysEq
import Derived.ChangeSlices
import Derived.Deep.AppendLies
import Derived.Deep.CutRange
import Derived.Deep.DeepCutAuto
import Derived.Deep.Heap
import Derived.Deep.LoopGhost
import Derived.Deep.Matrix
import Derived.Deep.MidRow
import Derived.Deep.QuietTactic
import Derived.Deep.Slices
import Derived.Great.BuildSlice
import Derived.Great.Walk
import Derived.Ground.Names2Prog
import Derived.Ground.SlgnProg
import Derived.Ground.SlsfProg
import Derived.Handy
import Derived.KernelRfl
import Derived.Laws.AppendOwn
import Derived.Laws.AppendOwnNone
import Derived.Laws.CopyRow
import Derived.Laws.Externs
import Derived.Laws.MakeOwn
import Derived.Laws.Rows
import Derived.Laws.StructEq
import Derived.Lib.AppendZerosOnto
import Derived.Lib.Overlaps
import Derived.Lib.QuietBelow
import Derived.Lib.SliceRun
import Derived.Maps.Own
import Derived.Maps.OwnOps
import Derived.Maps.OwnSet
import Derived.Maps.Views
import Derived.OpenShut
import Derived.Orders
import Derived.OrdersIn
import Derived.RangeFuncFrom
import Derived.RangeFuncLeaves
import Derived.RangeFuncWrites
import Derived.RegionTactic
import Derived.Shelf.SlSortCmp.HeapSortK
import Derived.Shelf.SlSortCmp.InsertionK
import Derived.Shelf.SlSortCmp.MedianK
import Derived.Shelf.SlSortCmp.NoneTotal
import Derived.Shelf.SlSortCmp.PartialInsertionK
import Derived.Shelf.SlSortCmp.PartitionEqualK
import Derived.Shelf.SlSortCmp.PartitionK
import Derived.Shelf.SlSortCmp.PdqK
import Derived.Shelf.SlSortCmp.PivotK
import Derived.Shelf.SlSortCmp.ReverseRangeK
import Derived.Shelf.SlSortCmp.SiftDownK
import Derived.Shelf.Slices.Cells
import Derived.Shelf.Slices.Clone
import Derived.Shelf.Slices.Delete
import Derived.Shelf.Slices.Empties
import Derived.Shelf.Slices.SearchI
import Derived.Shelf.Slices.Turned
import Derived.Shelf.SlicesE.Clone
import Derived.Shelf.SlicesE.Delete
import Derived.Shelf.SlicesQ.Reverse
import Derived.Shelf.Small.Bits
import Derived.Shelf.Small.Wraps
import Derived.Shelf.Strconv.Itoa0
import Derived.SizedLaws
import Derived.Sort.AssemblyPlain
import Derived.Still
import Derived.StillTail
import Derived.TacticsIn
import Derived.Test.YtmjnakhpekbenaaProg
import Derived.WalkKit
import Derived.WalkLawsBesides
import Derived.Test.YtmjnakhpekbenaaCacheCostsE
set_option linter.unusedVariables false
set_option linter.unusedSimpArgs false
namespace Go.Proofs.Ytmjnakhpekbenaa
set_option maxRecDepth 20000
set_option maxHeartbeats 4000000
open Go.RowKit Fw
namespace Ca
theorem rJoinedF_any (p p2 : Option Addr) (t u : List T2) (cp cp2 : Nat) (w : World) (hT : InT w p t) (hU : InT w p2 u) (hn : t.length ≤ 100000) (hn2 : u.length ≤ 100000) :
  Calls Try.prog 64 #[.slice p t.length cp, .slice p2 u.length cp2, .bool false] w fun e w' => ∃ pv cp', e = .returned (.slice pv (rJ false t u).length cp') ∧ HP Tr w w' [rowT pv (rJ false t u).length cp' (rJ false t u)] := by
 refine calls_of Try.func64 rfl (m := 119) rfl [(0, .slice p t.length cp), (1, .slice p2 u.length cp2), (2, .bool false)] (Fr_enter [.slice p t.length cp, .slice p2 u.length cp2, .bool false] 119 (Nat.le_of_ble_eq_true rfl)) ?_
 have hH1 : HP Tr w w [] := HP.refl w
 refine WC.seq fun K2 hK2 => WC.region (WL.z (.slice none 0 0) 6 (WL.k hK2 (WC.seq fun K3 hK3 => WC.region (WL.z (.slice none 0 0) 7 (WL.k hK3 ?_)))))
 refine WC.seq fun K4 hK4 => WC.region (WL.z (vI 0) 8 (WL.k hK4 (WC.seq fun K5 hK5 => WC.region (WL.z (vI 0) 9 (WL.k hK5 ?_)))))
 refine WC.seq fun K6 hK6 => WC.block ?_
 refine WC.loop (fun kk0 ll0 ww0 => ∃ (i : Nat) (k : Nat) (A : List T2) (pv : Option Addr) (cp3 : Nat), ll0 = [(0, .slice p t.length cp), (1, .slice p2 u.length cp2), (2, .bool false), (7, .slice pv A.length cp3), (8, vI (i : Int)), (9, vI (k : Int))] ∧ kk0 = t.length - i + (u.length - k) ∧ (i ≤ t.length) ∧ (k ≤ u.length) ∧ (A ++ rJ false (t.drop i) (u.drop k) = rJ false t u) ∧ (A.length ≤ i + k) ∧ HP Tr w ww0 [rowT pv A.length cp3 A]) (t.length + u.length) [(0, .slice p t.length cp), (1, .slice p2 u.length cp2), (2, .bool false), (7, .slice none 0 0), (8, vI 0), (9, vI 0)] ⟨rfl, rfl, rfl, rfl, rfl, rfl, trivial⟩ ⟨0, 0, [], none, 0, rfl, rfl, Nat.zero_le _, Nat.zero_le _, rfl, Nat.zero_le _, HP.ownNil hH1 83 2⟩ ?_
 rintro kk l w8 ⟨i, k, A, pv, cp3, rfl, hkk, hi, hk, hA, hAl, hH9⟩ K7 hK7
 refine WC.seq fun K10 hK10 => WC.seq fun K11 hK11 => WC.region (WL.z (vI (i : Int)) 11 (WL.z (.slice p t.length cp) 12 (WL.z (vI (t.length : Int)) 13 ?_)))
 by_cases h14 : (i : Int) < (t.length : Int)
 ·
  refine WL.y (.bool true) 14 (x_lss rfl rfl rfl (dT (h14))) (WL.z (.bool true) 15 (WL.p 16 (WL.p 17 (WL.p 18 (WL.p 19 (WL.z (.bool true) 20 (WL.k hK11 (WC.sb [(0, .slice p t.length cp), (1, .slice p2 u.length cp2), (2, .bool false), (7, .slice pv A.length cp3), (8, vI (i : Int)), (9, vI (k : Int)), (20, .bool true)] ?_))))))))
  refine WC.yes rfl ?_
  refine WC.skip (WQ.then (hK10 _ _ _ (WC.block (WC.seq fun K12 hK12 => WC.seq fun K13 hK13 => ?_))))
  refine WC.still (by kernel_rfl) (by kernel_rfl) ?_
  have hH14 := HP.drew hH9
  refine WS.z (vI (k : Int)) 21 (WS.z (.slice p2 u.length cp2) 22 (WS.z (vI (u.length : Int)) 23 ?_))
  by_cases h24 : (k : Int) = (u.length : Int)
  ·
   obtain ⟨g, o, rfl, hrow⟩ := hT (by omega)
   refine WS.y (.bool true) 24 (x_eql rfl rfl rfl (dT (h24))) (WS.z (.bool true) 25 (WS.p 26 (WS.p 27 (WS.p 28 (WS.p 29 (WS.p 30 (WS.p 31 (WS.p 32 (WS.p 33 (WS.p 34 (WS.p 35 ?_)))))))))))
   refine WS.p 36 (WS.p 37 (WS.p 38 (WS.p 39 (WS.p 40 (WS.p 41 (WS.p 42 (WS.z (.bool true) 43 (WS.nilQ (WQ.then (hK13 _ _ _ (WC.sb [(0, .slice (some ⟨g, o, none⟩) t.length cp), (1, .slice p2 u.length cp2), (2, .bool false), (7, .slice pv A.length cp3), (8, vI (i : Int)), (9, vI (k : Int)), (20, .bool true), (43, .bool true)] ?_)))))))))))
   refine WC.yes rfl ?_
   refine WC.seq fun K15 hK15 => WC.seq fun K16 hK16 => WC.region (WL.z (.bool false) 44 (WL.k hK16 ?_))
   refine WC.no rfl ?_
   refine WC.skip (WQ.then (hK15 _ _ _ (WC.seq fun K17 hK17 => WC.region (WL.z (vI (i : Int)) 52 (WL.y (vI ((i + 1 : Nat) : Int)) 53 (x_ad (((i + 1 : Nat) : Int))) (WL.z (vI ((i + 1 : Nat) : Int)) 8 (WL.k hK17 (WC.exit ?_))))))))
   refine WQ.thenExit (WQ.inExit (WQ.sb [(0, .slice (some ⟨g, o, none⟩) t.length cp), (1, .slice p2 u.length cp2), (2, .bool false), (7, .slice pv A.length cp3), (8, vI ((i + 1 : Nat) : Int)), (9, vI (k : Int))] ?_))
   refine WQ.then (hK7 _ _ _ (by omega) ⟨i + 1, k, A, pv, cp3, rfl, rfl, by omega, by omega, by rw [← hA, rJ_l (t := t) (u := u) (i := i) (k := k) (by omega) (by omega)]; simp, by omega, hH14⟩)
  ·
   obtain ⟨g2, o2, rfl, hrow2⟩ := hU (by omega)
   refine WS.y (.bool false) 24 (x_eql rfl rfl rfl (dF (h24))) (WS.z (.bool false) 25 (WS.z (vI (i : Int)) 26 (WS.z (.slice p t.length cp) 27 (WS.z (vI (t.length : Int)) 28 ?_))))
   by_cases h29 : (i : Int) < (t.length : Int)
   ·
    obtain ⟨g, o, rfl, hrow⟩ := hT (by omega)
    refine WS.y (.bool true) 29 (x_lss rfl rfl rfl (dT (h29))) (WS.z (.bool true) 30 (WS.z (.slice (some ⟨g, o, none⟩) t.length cp) 31 (WS.z (vI (i : Int)) 32 (WS.y (vP g (o + i * 2)) 33 (x_ix (i) (o + i * 2) Try.underlying49 sz83) (WS.y (vP g (o + i * 2)) 34 (x_idxArr (0) (o + i * 2) rfl rfl rfl Try.underlying83 sz3 (by omega) (by omega) (by omega)) (WS.y (vI (lnT t i)) 35 (x_load rfl rfl Try.underlying3 rfl ((HP.oldRange hH14 trivial (hrow i (by omega))) 0 _ rfl)) (WS.z (.slice (some ⟨g2, o2, none⟩) u.length cp2) 36 (WS.z (vI (k : Int)) 37 (WS.y (vP g2 (o2 + k * 2)) 38 (x_ix (k) (o2 + k * 2) Try.underlying49 sz83) (WS.y (vP g2 (o2 + k * 2)) 39 (x_idxArr (0) (o2 + k * 2) rfl rfl rfl Try.underlying83 sz3 (by omega) (by omega) (by omega)) ?_))))))))))
    refine WS.y (vI (lnT u k)) 40 (x_load rfl rfl Try.underlying3 rfl ((HP.oldRange hH14 trivial (hrow2 k (by omega))) 0 _ rfl)) ?_
    by_cases h41 : lnT t i < lnT u k
    ·
     refine WS.y (.bool true) 41 (x_lss rfl rfl rfl (dT (h41))) (WS.z (.bool true) 42 (WS.z (.bool true) 43 (WS.nilQ (WQ.then (hK13 _ _ _ (WC.sb [(0, .slice (some ⟨g, o, none⟩) t.length cp), (1, .slice (some ⟨g2, o2, none⟩) u.length cp2), (2, .bool false), (7, .slice pv A.length cp3), (8, vI (i : Int)), (9, vI (k : Int)), (20, .bool true), (43, .bool true)] ?_))))))
     refine WC.yes rfl ?_
     refine WC.seq fun K18 hK18 => WC.seq fun K19 hK19 => WC.region (WL.z (.bool false) 44 (WL.k hK19 ?_))
     refine WC.no rfl ?_
     refine WC.skip (WQ.then (hK18 _ _ _ (WC.seq fun K20 hK20 => WC.region (WL.z (vI (i : Int)) 52 (WL.y (vI ((i + 1 : Nat) : Int)) 53 (x_ad (((i + 1 : Nat) : Int))) (WL.z (vI ((i + 1 : Nat) : Int)) 8 (WL.k hK20 (WC.exit ?_))))))))
     refine WQ.thenExit (WQ.inExit (WQ.sb [(0, .slice (some ⟨g, o, none⟩) t.length cp), (1, .slice (some ⟨g2, o2, none⟩) u.length cp2), (2, .bool false), (7, .slice pv A.length cp3), (8, vI ((i + 1 : Nat) : Int)), (9, vI (k : Int))] ?_))
     refine WQ.then (hK7 _ _ _ (by omega) ⟨i + 1, k, A, pv, cp3, rfl, rfl, by omega, by omega, by rw [← hA, rJ_l (t := t) (u := u) (i := i) (k := k) (by omega) (by omega)]; simp, by omega, hH14⟩)
    ·
     refine WS.y (.bool false) 41 (x_lss rfl rfl rfl (dF (h41))) (WS.z (.bool false) 42 (WS.z (.bool false) 43 (WS.nilQ (WQ.then (hK13 _ _ _ (WC.sb [(0, .slice (some ⟨g, o, none⟩) t.length cp), (1, .slice (some ⟨g2, o2, none⟩) u.length cp2), (2, .bool false), (7, .slice pv A.length cp3), (8, vI (i : Int)), (9, vI (k : Int)), (20, .bool true), (43, .bool false)] ?_))))))
     refine WC.no rfl ?_
     refine WC.skip (WQ.then (hK12 _ _ _ (WC.seq fun K21 hK21 => WC.seq fun K22 hK22 => ?_)))
     refine WC.still (by kernel_rfl) (by kernel_rfl) ?_
     have hH23 := HP.drew hH14
     refine WS.z (vI (i : Int)) 54 (WS.z (.slice (some ⟨g, o, none⟩) t.length cp) 55 (WS.z (vI (t.length : Int)) 56 (WS.y (.bool false) 57 (x_eql rfl rfl rfl (dF (by omega))) (WS.z (.bool false) 58 (WS.z (.slice (some ⟨g2, o2, none⟩) u.length cp2) 59 (WS.z (vI (k : Int)) 60 (WS.y (vP g2 (o2 + k * 2)) 61 (x_ix (k) (o2 + k * 2) Try.underlying49 sz83) (WS.y (vP g2 (o2 + k * 2)) 62 (x_idxArr (0) (o2 + k * 2) rfl rfl rfl Try.underlying83 sz3 (by omega) (by omega) (by omega)) (WS.y (vI (lnT u k)) 63 (x_load rfl rfl Try.underlying3 rfl ((HP.oldRange hH23 trivial (hrow2 k (by omega))) 0 _ rfl)) (WS.z (.slice (some ⟨g, o, none⟩) t.length cp) 64 (WS.z (vI (i : Int)) 65 ?_)))))))))))
     refine WS.y (vP g (o + i * 2)) 66 (x_ix (i) (o + i * 2) Try.underlying49 sz83) (WS.y (vP g (o + i * 2)) 67 (x_idxArr (0) (o + i * 2) rfl rfl rfl Try.underlying83 sz3 (by omega) (by omega) (by omega)) (WS.y (vI (lnT t i)) 68 (x_load rfl rfl Try.underlying3 rfl ((HP.oldRange hH23 trivial (hrow i (by omega))) 0 _ rfl)) ?_))
     by_cases h69 : lnT u k < lnT t i
     ·
      refine WS.y (.bool true) 69 (x_lss rfl rfl rfl (dT (h69))) (WS.z (.bool true) 70 (WS.nilQ (WQ.then (hK22 _ _ _ (WC.sb [(0, .slice (some ⟨g, o, none⟩) t.length cp), (1, .slice (some ⟨g2, o2, none⟩) u.length cp2), (2, .bool false), (7, .slice pv A.length cp3), (8, vI (i : Int)), (9, vI (k : Int)), (20, .bool true), (43, .bool false), (70, .bool true)] ?_)))))
      refine WC.yes rfl ?_
      refine WC.seq fun K24 hK24 => WC.seq fun K25 hK25 => WC.region (WL.z (.bool false) 71 (WL.k hK25 ?_))
      refine WC.no rfl ?_
      refine WC.skip (WQ.then (hK24 _ _ _ (WC.seq fun K26 hK26 => WC.region (WL.z (vI (k : Int)) 79 (WL.y (vI ((k + 1 : Nat) : Int)) 80 (x_ad (((k + 1 : Nat) : Int))) (WL.z (vI ((k + 1 : Nat) : Int)) 9 (WL.k hK26 (WC.exit ?_))))))))
      refine WQ.thenExit (WQ.inExit (WQ.sb [(0, .slice (some ⟨g, o, none⟩) t.length cp), (1, .slice (some ⟨g2, o2, none⟩) u.length cp2), (2, .bool false), (7, .slice pv A.length cp3), (8, vI (i : Int)), (9, vI ((k + 1 : Nat) : Int))] ?_))
      refine WQ.then (hK7 _ _ _ (by omega) ⟨i, k + 1, A, pv, cp3, rfl, rfl, by omega, by omega, by rw [← hA, rJ_r (t := t) (u := u) (i := i) (k := k) (by omega) (by omega)]; simp, by omega, hH23⟩)
     ·
      refine WS.y (.bool false) 69 (x_lss rfl rfl rfl (dF (h69))) (WS.z (.bool false) 70 (WS.nilQ (WQ.then (hK22 _ _ _ (WC.sb [(0, .slice (some ⟨g, o, none⟩) t.length cp), (1, .slice (some ⟨g2, o2, none⟩) u.length cp2), (2, .bool false), (7, .slice pv A.length cp3), (8, vI (i : Int)), (9, vI (k : Int)), (20, .bool true), (43, .bool false), (70, .bool false)] ?_)))))
      refine WC.no rfl ?_
      refine WC.skip (WQ.then (hK21 _ _ _ (WC.seq fun K27 hK27 => ?_)))
      refine WC.confG (γ := Unit) [(0, .slice (some ⟨g, o, none⟩) t.length cp), (1, .slice (some ⟨g2, o2, none⟩) u.length cp2), (2, .bool false), (7, .slice pv A.length cp3), (8, vI (i : Int)), (9, vI (k : Int)), (20, .bool true), (43, .bool false), (70, .bool false)] (fun gy => [.slice (some ⟨g, o, none⟩) t.length cp, vI (i : Int), vP g (o + i * 2), vP g (o + i * 2 + 1), vI (agT t i), .slice (some ⟨g2, o2, none⟩) u.length cp2, vI (k : Int), vP g2 (o2 + k * 2), vP g2 (o2 + k * 2 + 1), vI (agT u k), vI (max (agT t i) (agT u k)), vI (max (agT t i) (agT u k))]) (fun gy D wz => HP Tr w wz [rowT pv A.length cp3 A]) () (by kernel_rfl) ⟨rfl, rfl, rfl, rfl, rfl, rfl, rfl, rfl, rfl, trivial⟩ (by kernel_rfl) (by kernel_rfl) (by kernel_rfl) (fun _ => rfl) (by kernel_rfl) (HP.drew hH23) ?_ ?_
      ·
       refine AllOk.cons ?o0 (AllOk.cons ?o1 (AllOk.cons ?o2 (AllOk.cons ?o3 (AllOk.cons ?o4 (AllOk.cons ?o5 (AllOk.cons ?o6 (AllOk.cons ?o7 (AllOk.cons ?o8 (AllOk.cons ?o9 (AllOk.cons ?o10 (AllOk.cons ?o11 (AllOk.nil _))))))))))))
       case o0 =>
        intro gy D wz hDi hdep hclo hW
        exact cfv gy wz (by kernel_rfl) hW
       case o1 =>
        intro gy D wz hDi hdep hclo hW
        exact cfv gy wz (by kernel_rfl) hW
       case o2 =>
        intro gy D wz hDi hdep hclo hW
        exact cfv gy wz (x_ix (i) (o + i * 2) Try.underlying49 sz83) hW
       case o3 =>
        intro gy D wz hDi hdep hclo hW
        exact cfv gy wz (x_idxArr (1) (o + i * 2 + 1) rfl rfl rfl Try.underlying83 sz3 (by omega) (by omega) (by omega)) hW
       case o4 =>
        intro gy D wz hDi hdep hclo hW
        exact cfv gy wz (x_load rfl rfl Try.underlying3 rfl ((HP.oldRange hW trivial (hrow i (by omega))) 1 _ rfl)) hW
       case o5 =>
        intro gy D wz hDi hdep hclo hW
        exact cfv gy wz (by kernel_rfl) hW
       case o6 =>
        intro gy D wz hDi hdep hclo hW
        exact cfv gy wz (by kernel_rfl) hW
       case o7 =>
        intro gy D wz hDi hdep hclo hW
        exact cfv gy wz (x_ix (k) (o2 + k * 2) Try.underlying49 sz83) hW
       case o8 =>
        intro gy D wz hDi hdep hclo hW
        exact cfv gy wz (x_idxArr (1) (o2 + k * 2 + 1) rfl rfl rfl Try.underlying83 sz3 (by omega) (by omega) (by omega)) hW
       case o9 =>
        intro gy D wz hDi hdep hclo hW
        exact cfv gy wz (x_load rfl rfl Try.underlying3 rfl ((HP.oldRange hW trivial (hrow2 k (by omega))) 1 _ rfl)) hW
       case o10 =>
        intro gy D wz hDi hdep hclo hW
        exact cfv gy wz (x_max (Z := max (agT t i) (agT u k)) (t := 0) rfl rfl rfl (by simp only [Int.max_def]; split <;> split <;> omega)) hW
       case o11 =>
        intro gy D wz hDi hdep hclo hW
        exact cfv gy wz (by kernel_rfl) hW
      rintro gy D w28 hall hH29
      clear hall
      refine WQ.sb [(0, .slice (some ⟨g, o, none⟩) t.length cp), (1, .slice (some ⟨g2, o2, none⟩) u.length cp2), (2, .bool false), (7, .slice pv A.length cp3), (8, vI (i : Int)), (9, vI (k : Int)), (10, vI (max (agT t i) (agT u k))), (20, .bool true), (43, .bool false), (70, .bool false)] (WQ.then (hK27 _ _ _ (WC.seq fun K30 hK30 => WC.seq fun K31 hK31 => WC.region (WL.z (.bool false) 92 (WL.k hK31 ?_)))))
      refine WC.no rfl ?_
      refine WC.skip (WQ.then (hK30 _ _ _ (WC.seq fun K32 hK32 => WC.region (WL.z (.slice pv A.length cp3) 104 (WL.z (.slice (some ⟨g, o, none⟩) t.length cp) 105 (WL.z (vI (i : Int)) 106 (WL.y (vP g (o + i * 2)) 107 (x_ix (i) (o + i * 2) Try.underlying49 sz83) (WL.y (vP g (o + i * 2)) 108 (x_idxArr (0) (o + i * 2) rfl rfl rfl Try.underlying83 sz3 (by omega) (by omega) (by omega)) (WL.y (vI (lnT t i)) 109 (x_load rfl rfl Try.underlying3 rfl ((HP.oldRange hH29 trivial (hrow i (by omega))) 0 _ rfl)) (WL.z (vI (max (agT t i) (agT u k))) 110 ?_))))))))))
      refine WL.z (.agg #[vI (lnT t i), vI (max (agT t i) (agT u k))]) 111 ?_
      refine WL.alloc (c := #[vI (lnT t i), vI (max (agT t i) (agT u k))]) (T := 83) hH29 112 rfl (by decide) rfl rfl (fun b33 => vS b33 1 1) (by kernel_rfl) (fun b33 w34 hw34 => ?_)
      have hH35 : HP Tr w w34 [rowT pv A.length cp3 A, .cel b33 #[vI (lnT t i), vI (max (agT t i) (agT u k))] 83] := hw34.2
      have nb33 := hw34.1
      clear hw34
      obtain ⟨i0, hi0, hz0, hz1, hz2⟩ := infoT
      refine WL.append (news := [vI (lnT t i), vI (max (agT t i) (agT u k))]) 0 1 hH35 113 rfl (by decide) rfl rfl rfl rfl Try.underlying49 hi0 hz0 hz1 hz2 rfl (by decide) rfl rfl rfl rfl (by simp [Value.oneCell']) (by unfold maxLen; omega) (by omega) ?_
      rintro v736 w736 - hA736
      obtain ⟨pv736, cp736, rfl⟩ := own_row (HP.get hA736 0 rfl)
      have e736 : A.length + 1 = (A ++ [(lnT t i, max (agT t i) (agT u k))]).length := (len1 _ _).symm
      rw [tL_push, e736] at hA736
      rw [e736]
      have hH37 : HP Tr w _ [rowT pv736 (A ++ [(lnT t i, max (agT t i) (agT u k))]).length cp736 (A ++ [(lnT t i, max (agT t i) (agT u k))]), .cel b33 #[vI (lnT t i), vI (max (agT t i) (agT u k))] 83] := hA736
      refine WL.z (.slice pv736 ((A ++ [(lnT t i, max (agT t i) (agT u k))]).length) cp736) 7 (WL.k hK32 (WC.sb [(0, .slice (some ⟨g, o, none⟩) t.length cp), (1, .slice (some ⟨g2, o2, none⟩) u.length cp2), (2, .bool false), (7, .slice pv736 ((A ++ [(lnT t i, max (agT t i) (agT u k))]).length) cp736), (8, vI (i : Int)), (9, vI (k : Int)), (10, vI (max (agT t i) (agT u k))), (20, .bool true), (43, .bool false), (70, .bool false), (92, .bool false)] (WC.seq fun K38 hK38 => WC.region (WL.z (vI (i : Int)) 114 (WL.y (vI ((i + 1 : Nat) : Int)) 115 (x_ad (((i + 1 : Nat) : Int))) (WL.z (vI ((i + 1 : Nat) : Int)) 8 (WL.nil (WQ.then ?_))))))))
      refine hK38 _ _ _ (WC.region (WL.z (vI (k : Int)) 116 (WL.y (vI ((k + 1 : Nat) : Int)) 117 (x_ad (((k + 1 : Nat) : Int))) (WL.z (vI ((k + 1 : Nat) : Int)) 9 (WL.nil (WQ.inNormal (WQ.sb [(0, .slice (some ⟨g, o, none⟩) t.length cp), (1, .slice (some ⟨g2, o2, none⟩) u.length cp2), (2, .bool false), (7, .slice pv736 ((A ++ [(lnT t i, max (agT t i) (agT u k))]).length) cp736), (8, vI ((i + 1 : Nat) : Int)), (9, vI ((k + 1 : Nat) : Int))] ?_)))))))
      refine WQ.then (hK7 _ _ _ (by omega) ⟨i + 1, k + 1, (A ++ [(lnT t i, max (agT t i) (agT u k))]), pv736, cp736, rfl, rfl, by omega, by omega, by rw [← hA, rJ_b (t := t) (u := u) (i := i) (k := k) (by omega) (by omega) (by omega) (by omega)]; simp, by rw [len1]; omega, (HP.drop hH37 1)⟩)
   ·
    refine WS.y (.bool false) 29 (x_lss rfl rfl rfl (dF (h29))) (WS.z (.bool false) 30 (WS.p 31 (WS.p 32 (WS.p 33 (WS.p 34 (WS.p 35 (WS.p 36 (WS.p 37 (WS.p 38 (WS.p 39 (WS.p 40 ?_)))))))))))
    refine WS.p 41 (WS.z (.bool false) 42 (WS.z (.bool false) 43 (WS.nilQ (WQ.then (hK13 _ _ _ (WC.sb [(0, .slice p t.length cp), (1, .slice (some ⟨g2, o2, none⟩) u.length cp2), (2, .bool false), (7, .slice pv A.length cp3), (8, vI (i : Int)), (9, vI (k : Int)), (20, .bool true), (43, .bool false)] ?_))))))
    refine WC.no rfl ?_
    refine WC.skip (WQ.then (hK12 _ _ _ (WC.seq fun K39 hK39 => WC.seq fun K40 hK40 => ?_)))
    refine WC.still (by kernel_rfl) (by kernel_rfl) ?_
    have hH41 := HP.drew hH14
    refine WS.z (vI (i : Int)) 54 (WS.z (.slice p t.length cp) 55 (WS.z (vI (t.length : Int)) 56 (WS.y (.bool true) 57 (x_eql rfl rfl rfl (dT (by omega))) (WS.z (.bool true) 58 (WS.p 59 (WS.p 60 (WS.p 61 (WS.p 62 (WS.p 63 (WS.p 64 (WS.p 65 ?_)))))))))))
    refine WS.p 66 (WS.p 67 (WS.p 68 (WS.p 69 (WS.z (.bool true) 70 (WS.nilQ (WQ.then (hK40 _ _ _ (WC.sb [(0, .slice p t.length cp), (1, .slice (some ⟨g2, o2, none⟩) u.length cp2), (2, .bool false), (7, .slice pv A.length cp3), (8, vI (i : Int)), (9, vI (k : Int)), (20, .bool true), (43, .bool false), (70, .bool true)] ?_))))))))
    refine WC.yes rfl ?_
    refine WC.seq fun K42 hK42 => WC.seq fun K43 hK43 => WC.region (WL.z (.bool false) 71 (WL.k hK43 ?_))
    refine WC.no rfl ?_
    refine WC.skip (WQ.then (hK42 _ _ _ (WC.seq fun K44 hK44 => WC.region (WL.z (vI (k : Int)) 79 (WL.y (vI ((k + 1 : Nat) : Int)) 80 (x_ad (((k + 1 : Nat) : Int))) (WL.z (vI ((k + 1 : Nat) : Int)) 9 (WL.k hK44 (WC.exit ?_))))))))
    refine WQ.thenExit (WQ.inExit (WQ.sb [(0, .slice p t.length cp), (1, .slice (some ⟨g2, o2, none⟩) u.length cp2), (2, .bool false), (7, .slice pv A.length cp3), (8, vI (i : Int)), (9, vI ((k + 1 : Nat) : Int))] ?_))
    refine WQ.then (hK7 _ _ _ (by omega) ⟨i, k + 1, A, pv, cp3, rfl, rfl, by omega, by omega, by rw [← hA, rJ_r (t := t) (u := u) (i := i) (k := k) (by omega) (by omega)]; simp, by omega, hH41⟩)
 ·
  refine WL.y (.bool false) 14 (x_lss rfl rfl rfl (dF (h14))) (WL.z (.bool false) 15 (WL.z (vI (k : Int)) 16 (WL.z (.slice p2 u.length cp2) 17 (WL.z (vI (u.length : Int)) 18 ?_))))
  by_cases h19 : (k : Int) < (u.length : Int)
  ·
   refine WL.y (.bool true) 19 (x_lss rfl rfl rfl (dT (h19))) (WL.z (.bool true) 20 (WL.k hK11 (WC.sb [(0, .slice p t.length cp), (1, .slice p2 u.length cp2), (2, .bool false), (7, .slice pv A.length cp3), (8, vI (i : Int)), (9, vI (k : Int)), (20, .bool true)] ?_)))
   refine WC.yes rfl ?_
   refine WC.skip (WQ.then (hK10 _ _ _ (WC.block (WC.seq fun K45 hK45 => WC.seq fun K46 hK46 => ?_))))
   refine WC.still (by kernel_rfl) (by kernel_rfl) ?_
   have hH47 := HP.drew hH9
   refine WS.z (vI (k : Int)) 21 (WS.z (.slice p2 u.length cp2) 22 (WS.z (vI (u.length : Int)) 23 ?_))
   by_cases h24 : (k : Int) = (u.length : Int)
   ·
    obtain ⟨g, o, rfl, hrow⟩ := hT (by omega)
    refine WS.y (.bool true) 24 (x_eql rfl rfl rfl (dT (h24))) (WS.z (.bool true) 25 (WS.p 26 (WS.p 27 (WS.p 28 (WS.p 29 (WS.p 30 (WS.p 31 (WS.p 32 (WS.p 33 (WS.p 34 (WS.p 35 ?_)))))))))))
    refine WS.p 36 (WS.p 37 (WS.p 38 (WS.p 39 (WS.p 40 (WS.p 41 (WS.p 42 (WS.z (.bool true) 43 (WS.nilQ (WQ.then (hK46 _ _ _ (WC.sb [(0, .slice (some ⟨g, o, none⟩) t.length cp), (1, .slice p2 u.length cp2), (2, .bool false), (7, .slice pv A.length cp3), (8, vI (i : Int)), (9, vI (k : Int)), (20, .bool true), (43, .bool true)] ?_)))))))))))
    refine WC.yes rfl ?_
    refine WC.seq fun K48 hK48 => WC.seq fun K49 hK49 => WC.region (WL.z (.bool false) 44 (WL.k hK49 ?_))
    refine WC.no rfl ?_
    refine WC.skip (WQ.then (hK48 _ _ _ (WC.seq fun K50 hK50 => WC.region (WL.z (vI (i : Int)) 52 (WL.y (vI ((i + 1 : Nat) : Int)) 53 (x_ad (((i + 1 : Nat) : Int))) (WL.z (vI ((i + 1 : Nat) : Int)) 8 (WL.k hK50 (WC.exit ?_))))))))
    refine WQ.thenExit (WQ.inExit (WQ.sb [(0, .slice (some ⟨g, o, none⟩) t.length cp), (1, .slice p2 u.length cp2), (2, .bool false), (7, .slice pv A.length cp3), (8, vI ((i + 1 : Nat) : Int)), (9, vI (k : Int))] ?_))
    refine WQ.then (hK7 _ _ _ (by omega) ⟨i + 1, k, A, pv, cp3, rfl, rfl, by omega, by omega, by rw [← hA, rJ_l (t := t) (u := u) (i := i) (k := k) (by omega) (by omega)]; simp, by omega, hH47⟩)
   ·
    obtain ⟨g2, o2, rfl, hrow2⟩ := hU (by omega)
    refine WS.y (.bool false) 24 (x_eql rfl rfl rfl (dF (h24))) (WS.z (.bool false) 25 (WS.z (vI (i : Int)) 26 (WS.z (.slice p t.length cp) 27 (WS.z (vI (t.length : Int)) 28 ?_))))
    by_cases h29 : (i : Int) < (t.length : Int)
    ·
     obtain ⟨g, o, rfl, hrow⟩ := hT (by omega)
     refine WS.y (.bool true) 29 (x_lss rfl rfl rfl (dT (h29))) (WS.z (.bool true) 30 (WS.z (.slice (some ⟨g, o, none⟩) t.length cp) 31 (WS.z (vI (i : Int)) 32 (WS.y (vP g (o + i * 2)) 33 (x_ix (i) (o + i * 2) Try.underlying49 sz83) (WS.y (vP g (o + i * 2)) 34 (x_idxArr (0) (o + i * 2) rfl rfl rfl Try.underlying83 sz3 (by omega) (by omega) (by omega)) (WS.y (vI (lnT t i)) 35 (x_load rfl rfl Try.underlying3 rfl ((HP.oldRange hH47 trivial (hrow i (by omega))) 0 _ rfl)) (WS.z (.slice (some ⟨g2, o2, none⟩) u.length cp2) 36 (WS.z (vI (k : Int)) 37 (WS.y (vP g2 (o2 + k * 2)) 38 (x_ix (k) (o2 + k * 2) Try.underlying49 sz83) (WS.y (vP g2 (o2 + k * 2)) 39 (x_idxArr (0) (o2 + k * 2) rfl rfl rfl Try.underlying83 sz3 (by omega) (by omega) (by omega)) ?_))))))))))
     refine WS.y (vI (lnT u k)) 40 (x_load rfl rfl Try.underlying3 rfl ((HP.oldRange hH47 trivial (hrow2 k (by omega))) 0 _ rfl)) ?_
     by_cases h41 : lnT t i < lnT u k
     ·
      refine WS.y (.bool true) 41 (x_lss rfl rfl rfl (dT (h41))) (WS.z (.bool true) 42 (WS.z (.bool true) 43 (WS.nilQ (WQ.then (hK46 _ _ _ (WC.sb [(0, .slice (some ⟨g, o, none⟩) t.length cp), (1, .slice (some ⟨g2, o2, none⟩) u.length cp2), (2, .bool false), (7, .slice pv A.length cp3), (8, vI (i : Int)), (9, vI (k : Int)), (20, .bool true), (43, .bool true)] ?_))))))
      refine WC.yes rfl ?_
      refine WC.seq fun K51 hK51 => WC.seq fun K52 hK52 => WC.region (WL.z (.bool false) 44 (WL.k hK52 ?_))
      refine WC.no rfl ?_
      refine WC.skip (WQ.then (hK51 _ _ _ (WC.seq fun K53 hK53 => WC.region (WL.z (vI (i : Int)) 52 (WL.y (vI ((i + 1 : Nat) : Int)) 53 (x_ad (((i + 1 : Nat) : Int))) (WL.z (vI ((i + 1 : Nat) : Int)) 8 (WL.k hK53 (WC.exit ?_))))))))
      refine WQ.thenExit (WQ.inExit (WQ.sb [(0, .slice (some ⟨g, o, none⟩) t.length cp), (1, .slice (some ⟨g2, o2, none⟩) u.length cp2), (2, .bool false), (7, .slice pv A.length cp3), (8, vI ((i + 1 : Nat) : Int)), (9, vI (k : Int))] ?_))
      refine WQ.then (hK7 _ _ _ (by omega) ⟨i + 1, k, A, pv, cp3, rfl, rfl, by omega, by omega, by rw [← hA, rJ_l (t := t) (u := u) (i := i) (k := k) (by omega) (by omega)]; simp, by omega, hH47⟩)
     ·
      refine WS.y (.bool false) 41 (x_lss rfl rfl rfl (dF (h41))) (WS.z (.bool false) 42 (WS.z (.bool false) 43 (WS.nilQ (WQ.then (hK46 _ _ _ (WC.sb [(0, .slice (some ⟨g, o, none⟩) t.length cp), (1, .slice (some ⟨g2, o2, none⟩) u.length cp2), (2, .bool false), (7, .slice pv A.length cp3), (8, vI (i : Int)), (9, vI (k : Int)), (20, .bool true), (43, .bool false)] ?_))))))
      refine WC.no rfl ?_
      refine WC.skip (WQ.then (hK45 _ _ _ (WC.seq fun K54 hK54 => WC.seq fun K55 hK55 => ?_)))
      refine WC.still (by kernel_rfl) (by kernel_rfl) ?_
      have hH56 := HP.drew hH47
      refine WS.z (vI (i : Int)) 54 (WS.z (.slice (some ⟨g, o, none⟩) t.length cp) 55 (WS.z (vI (t.length : Int)) 56 (WS.y (.bool false) 57 (x_eql rfl rfl rfl (dF (by omega))) (WS.z (.bool false) 58 (WS.z (.slice (some ⟨g2, o2, none⟩) u.length cp2) 59 (WS.z (vI (k : Int)) 60 (WS.y (vP g2 (o2 + k * 2)) 61 (x_ix (k) (o2 + k * 2) Try.underlying49 sz83) (WS.y (vP g2 (o2 + k * 2)) 62 (x_idxArr (0) (o2 + k * 2) rfl rfl rfl Try.underlying83 sz3 (by omega) (by omega) (by omega)) (WS.y (vI (lnT u k)) 63 (x_load rfl rfl Try.underlying3 rfl ((HP.oldRange hH56 trivial (hrow2 k (by omega))) 0 _ rfl)) (WS.z (.slice (some ⟨g, o, none⟩) t.length cp) 64 (WS.z (vI (i : Int)) 65 ?_)))))))))))
      refine WS.y (vP g (o + i * 2)) 66 (x_ix (i) (o + i * 2) Try.underlying49 sz83) (WS.y (vP g (o + i * 2)) 67 (x_idxArr (0) (o + i * 2) rfl rfl rfl Try.underlying83 sz3 (by omega) (by omega) (by omega)) (WS.y (vI (lnT t i)) 68 (x_load rfl rfl Try.underlying3 rfl ((HP.oldRange hH56 trivial (hrow i (by omega))) 0 _ rfl)) ?_))
      by_cases h69 : lnT u k < lnT t i
      ·
       refine WS.y (.bool true) 69 (x_lss rfl rfl rfl (dT (h69))) (WS.z (.bool true) 70 (WS.nilQ (WQ.then (hK55 _ _ _ (WC.sb [(0, .slice (some ⟨g, o, none⟩) t.length cp), (1, .slice (some ⟨g2, o2, none⟩) u.length cp2), (2, .bool false), (7, .slice pv A.length cp3), (8, vI (i : Int)), (9, vI (k : Int)), (20, .bool true), (43, .bool false), (70, .bool true)] ?_)))))
       refine WC.yes rfl ?_
       refine WC.seq fun K57 hK57 => WC.seq fun K58 hK58 => WC.region (WL.z (.bool false) 71 (WL.k hK58 ?_))
       refine WC.no rfl ?_
       refine WC.skip (WQ.then (hK57 _ _ _ (WC.seq fun K59 hK59 => WC.region (WL.z (vI (k : Int)) 79 (WL.y (vI ((k + 1 : Nat) : Int)) 80 (x_ad (((k + 1 : Nat) : Int))) (WL.z (vI ((k + 1 : Nat) : Int)) 9 (WL.k hK59 (WC.exit ?_))))))))
       refine WQ.thenExit (WQ.inExit (WQ.sb [(0, .slice (some ⟨g, o, none⟩) t.length cp), (1, .slice (some ⟨g2, o2, none⟩) u.length cp2), (2, .bool false), (7, .slice pv A.length cp3), (8, vI (i : Int)), (9, vI ((k + 1 : Nat) : Int))] ?_))
       refine WQ.then (hK7 _ _ _ (by omega) ⟨i, k + 1, A, pv, cp3, rfl, rfl, by omega, by omega, by rw [← hA, rJ_r (t := t) (u := u) (i := i) (k := k) (by omega) (by omega)]; simp, by omega, hH56⟩)
      ·
       refine WS.y (.bool false) 69 (x_lss rfl rfl rfl (dF (h69))) (WS.z (.bool false) 70 (WS.nilQ (WQ.then (hK55 _ _ _ (WC.sb [(0, .slice (some ⟨g, o, none⟩) t.length cp), (1, .slice (some ⟨g2, o2, none⟩) u.length cp2), (2, .bool false), (7, .slice pv A.length cp3), (8, vI (i : Int)), (9, vI (k : Int)), (20, .bool true), (43, .bool false), (70, .bool false)] ?_)))))
       refine WC.no rfl ?_
       refine WC.skip (WQ.then (hK54 _ _ _ (WC.seq fun K60 hK60 => ?_)))
       refine WC.confG (γ := Unit) [(0, .slice (some ⟨g, o, none⟩) t.length cp), (1, .slice (some ⟨g2, o2, none⟩) u.length cp2), (2, .bool false), (7, .slice pv A.length cp3), (8, vI (i : Int)), (9, vI (k : Int)), (20, .bool true), (43, .bool false), (70, .bool false)] (fun gy => [.slice (some ⟨g, o, none⟩) t.length cp, vI (i : Int), vP g (o + i * 2), vP g (o + i * 2 + 1), vI (agT t i), .slice (some ⟨g2, o2, none⟩) u.length cp2, vI (k : Int), vP g2 (o2 + k * 2), vP g2 (o2 + k * 2 + 1), vI (agT u k), vI (max (agT t i) (agT u k)), vI (max (agT t i) (agT u k))]) (fun gy D wz => HP Tr w wz [rowT pv A.length cp3 A]) () (by kernel_rfl) ⟨rfl, rfl, rfl, rfl, rfl, rfl, rfl, rfl, rfl, trivial⟩ (by kernel_rfl) (by kernel_rfl) (by kernel_rfl) (fun _ => rfl) (by kernel_rfl) (HP.drew hH56) ?_ ?_
       ·
        refine AllOk.cons ?o0 (AllOk.cons ?o1 (AllOk.cons ?o2 (AllOk.cons ?o3 (AllOk.cons ?o4 (AllOk.cons ?o5 (AllOk.cons ?o6 (AllOk.cons ?o7 (AllOk.cons ?o8 (AllOk.cons ?o9 (AllOk.cons ?o10 (AllOk.cons ?o11 (AllOk.nil _))))))))))))
        case o0 =>
         intro gy D wz hDi hdep hclo hW
         exact cfv gy wz (by kernel_rfl) hW
        case o1 =>
         intro gy D wz hDi hdep hclo hW
         exact cfv gy wz (by kernel_rfl) hW
        case o2 =>
         intro gy D wz hDi hdep hclo hW
         exact cfv gy wz (x_ix (i) (o + i * 2) Try.underlying49 sz83) hW
        case o3 =>
         intro gy D wz hDi hdep hclo hW
         exact cfv gy wz (x_idxArr (1) (o + i * 2 + 1) rfl rfl rfl Try.underlying83 sz3 (by omega) (by omega) (by omega)) hW
        case o4 =>
         intro gy D wz hDi hdep hclo hW
         exact cfv gy wz (x_load rfl rfl Try.underlying3 rfl ((HP.oldRange hW trivial (hrow i (by omega))) 1 _ rfl)) hW
        case o5 =>
         intro gy D wz hDi hdep hclo hW
         exact cfv gy wz (by kernel_rfl) hW
        case o6 =>
         intro gy D wz hDi hdep hclo hW
         exact cfv gy wz (by kernel_rfl) hW
        case o7 =>
         intro gy D wz hDi hdep hclo hW
         exact cfv gy wz (x_ix (k) (o2 + k * 2) Try.underlying49 sz83) hW
        case o8 =>
         intro gy D wz hDi hdep hclo hW
         exact cfv gy wz (x_idxArr (1) (o2 + k * 2 + 1) rfl rfl rfl Try.underlying83 sz3 (by omega) (by omega) (by omega)) hW
        case o9 =>
         intro gy D wz hDi hdep hclo hW
         exact cfv gy wz (x_load rfl rfl Try.underlying3 rfl ((HP.oldRange hW trivial (hrow2 k (by omega))) 1 _ rfl)) hW
        case o10 =>
         intro gy D wz hDi hdep hclo hW
         exact cfv gy wz (x_max (Z := max (agT t i) (agT u k)) (t := 0) rfl rfl rfl (by simp only [Int.max_def]; split <;> split <;> omega)) hW
        case o11 =>
         intro gy D wz hDi hdep hclo hW
         exact cfv gy wz (by kernel_rfl) hW
       rintro gy D w61 hall hH62
       clear hall
       refine WQ.sb [(0, .slice (some ⟨g, o, none⟩) t.length cp), (1, .slice (some ⟨g2, o2, none⟩) u.length cp2), (2, .bool false), (7, .slice pv A.length cp3), (8, vI (i : Int)), (9, vI (k : Int)), (10, vI (max (agT t i) (agT u k))), (20, .bool true), (43, .bool false), (70, .bool false)] (WQ.then (hK60 _ _ _ (WC.seq fun K63 hK63 => WC.seq fun K64 hK64 => WC.region (WL.z (.bool false) 92 (WL.k hK64 ?_)))))
       refine WC.no rfl ?_
       refine WC.skip (WQ.then (hK63 _ _ _ (WC.seq fun K65 hK65 => WC.region (WL.z (.slice pv A.length cp3) 104 (WL.z (.slice (some ⟨g, o, none⟩) t.length cp) 105 (WL.z (vI (i : Int)) 106 (WL.y (vP g (o + i * 2)) 107 (x_ix (i) (o + i * 2) Try.underlying49 sz83) (WL.y (vP g (o + i * 2)) 108 (x_idxArr (0) (o + i * 2) rfl rfl rfl Try.underlying83 sz3 (by omega) (by omega) (by omega)) (WL.y (vI (lnT t i)) 109 (x_load rfl rfl Try.underlying3 rfl ((HP.oldRange hH62 trivial (hrow i (by omega))) 0 _ rfl)) (WL.z (vI (max (agT t i) (agT u k))) 110 ?_))))))))))
       refine WL.z (.agg #[vI (lnT t i), vI (max (agT t i) (agT u k))]) 111 ?_
       refine WL.alloc (c := #[vI (lnT t i), vI (max (agT t i) (agT u k))]) (T := 83) hH62 112 rfl (by decide) rfl rfl (fun b66 => vS b66 1 1) (by kernel_rfl) (fun b66 w67 hw67 => ?_)
       have hH68 : HP Tr w w67 [rowT pv A.length cp3 A, .cel b66 #[vI (lnT t i), vI (max (agT t i) (agT u k))] 83] := hw67.2
       have nb66 := hw67.1
       clear hw67
       obtain ⟨i0, hi0, hz0, hz1, hz2⟩ := infoT
       refine WL.append (news := [vI (lnT t i), vI (max (agT t i) (agT u k))]) 0 1 hH68 113 rfl (by decide) rfl rfl rfl rfl Try.underlying49 hi0 hz0 hz1 hz2 rfl (by decide) rfl rfl rfl rfl (by simp [Value.oneCell']) (by unfold maxLen; omega) (by omega) ?_
       rintro v769 w769 - hA769
       obtain ⟨pv769, cp769, rfl⟩ := own_row (HP.get hA769 0 rfl)
       have e769 : A.length + 1 = (A ++ [(lnT t i, max (agT t i) (agT u k))]).length := (len1 _ _).symm
       rw [tL_push, e769] at hA769
       rw [e769]
       have hH70 : HP Tr w _ [rowT pv769 (A ++ [(lnT t i, max (agT t i) (agT u k))]).length cp769 (A ++ [(lnT t i, max (agT t i) (agT u k))]), .cel b66 #[vI (lnT t i), vI (max (agT t i) (agT u k))] 83] := hA769
       refine WL.z (.slice pv769 ((A ++ [(lnT t i, max (agT t i) (agT u k))]).length) cp769) 7 (WL.k hK65 (WC.sb [(0, .slice (some ⟨g, o, none⟩) t.length cp), (1, .slice (some ⟨g2, o2, none⟩) u.length cp2), (2, .bool false), (7, .slice pv769 ((A ++ [(lnT t i, max (agT t i) (agT u k))]).length) cp769), (8, vI (i : Int)), (9, vI (k : Int)), (10, vI (max (agT t i) (agT u k))), (20, .bool true), (43, .bool false), (70, .bool false), (92, .bool false)] (WC.seq fun K71 hK71 => WC.region (WL.z (vI (i : Int)) 114 (WL.y (vI ((i + 1 : Nat) : Int)) 115 (x_ad (((i + 1 : Nat) : Int))) (WL.z (vI ((i + 1 : Nat) : Int)) 8 (WL.nil (WQ.then ?_))))))))
       refine hK71 _ _ _ (WC.region (WL.z (vI (k : Int)) 116 (WL.y (vI ((k + 1 : Nat) : Int)) 117 (x_ad (((k + 1 : Nat) : Int))) (WL.z (vI ((k + 1 : Nat) : Int)) 9 (WL.nil (WQ.inNormal (WQ.sb [(0, .slice (some ⟨g, o, none⟩) t.length cp), (1, .slice (some ⟨g2, o2, none⟩) u.length cp2), (2, .bool false), (7, .slice pv769 ((A ++ [(lnT t i, max (agT t i) (agT u k))]).length) cp769), (8, vI ((i + 1 : Nat) : Int)), (9, vI ((k + 1 : Nat) : Int))] ?_)))))))
       refine WQ.then (hK7 _ _ _ (by omega) ⟨i + 1, k + 1, (A ++ [(lnT t i, max (agT t i) (agT u k))]), pv769, cp769, rfl, rfl, by omega, by omega, by rw [← hA, rJ_b (t := t) (u := u) (i := i) (k := k) (by omega) (by omega) (by omega) (by omega)]; simp, by rw [len1]; omega, (HP.drop hH70 1)⟩)
    ·
     refine WS.y (.bool false) 29 (x_lss rfl rfl rfl (dF (h29))) (WS.z (.bool false) 30 (WS.p 31 (WS.p 32 (WS.p 33 (WS.p 34 (WS.p 35 (WS.p 36 (WS.p 37 (WS.p 38 (WS.p 39 (WS.p 40 ?_)))))))))))
     refine WS.p 41 (WS.z (.bool false) 42 (WS.z (.bool false) 43 (WS.nilQ (WQ.then (hK46 _ _ _ (WC.sb [(0, .slice p t.length cp), (1, .slice (some ⟨g2, o2, none⟩) u.length cp2), (2, .bool false), (7, .slice pv A.length cp3), (8, vI (i : Int)), (9, vI (k : Int)), (20, .bool true), (43, .bool false)] ?_))))))
     refine WC.no rfl ?_
     refine WC.skip (WQ.then (hK45 _ _ _ (WC.seq fun K72 hK72 => WC.seq fun K73 hK73 => ?_)))
     refine WC.still (by kernel_rfl) (by kernel_rfl) ?_
     have hH74 := HP.drew hH47
     refine WS.z (vI (i : Int)) 54 (WS.z (.slice p t.length cp) 55 (WS.z (vI (t.length : Int)) 56 (WS.y (.bool true) 57 (x_eql rfl rfl rfl (dT (by omega))) (WS.z (.bool true) 58 (WS.p 59 (WS.p 60 (WS.p 61 (WS.p 62 (WS.p 63 (WS.p 64 (WS.p 65 ?_)))))))))))
     refine WS.p 66 (WS.p 67 (WS.p 68 (WS.p 69 (WS.z (.bool true) 70 (WS.nilQ (WQ.then (hK73 _ _ _ (WC.sb [(0, .slice p t.length cp), (1, .slice (some ⟨g2, o2, none⟩) u.length cp2), (2, .bool false), (7, .slice pv A.length cp3), (8, vI (i : Int)), (9, vI (k : Int)), (20, .bool true), (43, .bool false), (70, .bool true)] ?_))))))))
     refine WC.yes rfl ?_
     refine WC.seq fun K75 hK75 => WC.seq fun K76 hK76 => WC.region (WL.z (.bool false) 71 (WL.k hK76 ?_))
     refine WC.no rfl ?_
     refine WC.skip (WQ.then (hK75 _ _ _ (WC.seq fun K77 hK77 => WC.region (WL.z (vI (k : Int)) 79 (WL.y (vI ((k + 1 : Nat) : Int)) 80 (x_ad (((k + 1 : Nat) : Int))) (WL.z (vI ((k + 1 : Nat) : Int)) 9 (WL.k hK77 (WC.exit ?_))))))))
     refine WQ.thenExit (WQ.inExit (WQ.sb [(0, .slice p t.length cp), (1, .slice (some ⟨g2, o2, none⟩) u.length cp2), (2, .bool false), (7, .slice pv A.length cp3), (8, vI (i : Int)), (9, vI ((k + 1 : Nat) : Int))] ?_))
     refine WQ.then (hK7 _ _ _ (by omega) ⟨i, k + 1, A, pv, cp3, rfl, rfl, by omega, by omega, by rw [← hA, rJ_r (t := t) (u := u) (i := i) (k := k) (by omega) (by omega)]; simp, by omega, hH74⟩)
  ·
   refine WL.y (.bool false) 19 (x_lss rfl rfl rfl (dF (h19))) (WL.z (.bool false) 20 (WL.k hK11 (WC.sb [(0, .slice p t.length cp), (1, .slice p2 u.length cp2), (2, .bool false), (7, .slice pv A.length cp3), (8, vI (i : Int)), (9, vI (k : Int)), (20, .bool false)] ?_)))
   refine WC.no rfl ?_
   refine WC.exit (WQ.thenExit (WQ.thenExit (WQ.inExit (WQ.then (hK6 _ _ _ (WC.seq fun K78 hK78 => ?_))))))
   have hR : rJ false t u = A := by rw [← hA, rJ_end (by omega) (by omega), List.append_nil]
   refine WC.region (WL.z (.slice pv A.length cp3) 118 (WL.z (.slice pv A.length cp3) 6 (WL.k hK78 (WC.ret ?_))))
   refine WQ.ret1 6 rfl rfl ?_
   exact ⟨pv, cp3, by rw [hR], by rw [hR]; exact HP.eq hH9 rfl⟩
end Ca
end Go.Proofs.Ytmjnakhpekbenaa
namespace Go.Proofs.Ytmjnakhpekbenaa
set_option maxRecDepth 20000
set_option maxHeartbeats 4000000
open Go.RowKit Fw
namespace Ca
theorem sz49 : (Try.prog.info? 49).map (·.size) = some 1 := by kernel_rfl
theorem rAhead0_any (s y l m : Int) (p : Option Addr) (n cap : Nat) (c A B : Nat → Int) (w : World) (hIn : Ec.InC w p n c A B) (hg0 : vG s y l m = true) (hc : Ec.chk c A B false n = 0) :
  Calls Try.prog 92 #[.agg #[vI s, vI y, vI l, vI m], .slice p n cap, .bool false] w fun e w' => ∃ gt T', e = .returned (vS gt (n + 1) (n + 1)) ∧ HP Tr w w' [.cel gt (aR (n + 1) T') 49] ∧ (∀ i, TbOk s y l m w' (T' i)) ∧ ∀ v, v < n → tabs T' v = (Fl.sol (opsM s y l) (cdOf c n) (trC c n) [] (fun _ => [])).2 v := by
 have hn9 := (Ec.chk_ok hc).1
 have hg := vG_iff.1 hg0
 have hIs0 := trC_is hc
 have G := Fl.sol_good (L := (latM s y l m hg0)) (trC c n) 0 n [] (fun _ => []) hIs0 (by omega) (VT.nil hg0)
 refine calls_of Try.func92 rfl (m := 93) rfl [(0, .agg #[vI s, vI y, vI l, vI m]), (1, .slice p n cap), (2, .bool false)] (Fr_enter [.agg #[vI s, vI y, vI l, vI m], .slice p n cap, .bool false] 93 (Nat.le_of_ble_eq_true rfl)) ?_
 have hH1 : HP Tr w w [] := HP.refl w
 refine WC.seq fun K2 hK2 => WC.region ?_
 refine WL.alloc (c := #[vI s, vI y, vI l, vI m]) (T := 23) hH1 3 rfl (by decide) rfl rfl (fun b3 => vP b3 0) (by kernel_rfl) (fun b3 w3 hw3 => ?_)
 have hH4 : HP Tr w w3 [.cel b3 #[vI s, vI y, vI l, vI m] 23] := hw3.2
 have nb3 := hw3.1
 clear hw3
 refine WL.z (.slice none 0 0) 6 (WL.k hK2 (WC.seq fun K5 hK5 => WC.region (WL.z (.slice p n cap) 15 (WL.z (vI (n : Int)) 16 (WL.y (vI ((n + 1 : Nat) : Int)) 17 (x_ad (((n + 1 : Nat) : Int))) ?_)))))
 refine WL.alloc (c := aR (n + 1) nilT) (T := 49) hH4 18 rfl (by decide) rfl rfl (fun gt => vS gt (n + 1) (n + 1)) (x_makeR rfl rfl rfl (makeT9 (n + 1) (by omega) _)) (fun gt w9 hw9 => ?_)
 have hH6 : HP Tr w w9 [.cel b3 #[vI s, vI y, vI l, vI m] 23, .cel gt (aR (n + 1) nilT) 49] := hw9.2
 clear hw9
 refine WL.z (vS gt (n + 1) (n + 1)) 7 (WL.k hK5 (WC.seq fun K7 hK7 => WC.region (WL.z (.slice p n cap) 19 (WL.z (vI (n : Int)) 20 (WL.y (vI ((n + 1 : Nat) : Int)) 21 (x_ad (((n + 1 : Nat) : Int))) ?_)))))
 refine WL.alloc (c := brow (n + 1) (fun _ => false)) (T := 4) hH6 22 rfl (by decide) rfl rfl (fun gr => vS gr (n + 1) (n + 1)) (x_makeR rfl rfl rfl (makeB (n + 1) (by omega) _)) (fun gr w10 hw9 => ?_)
 have hH8 : HP Tr w w10 [.cel b3 #[vI s, vI y, vI l, vI m] 23, .cel gt (aR (n + 1) nilT) 49, .cel gr (brow (n + 1) (fun _ => false)) 4] := hw9.2
 clear hw9
 refine WL.z (vS gr (n + 1) (n + 1)) 8 (WL.k hK7 (WC.sb [(0, .agg #[vI s, vI y, vI l, vI m]), (1, .slice p n cap), (2, .bool false), (3, vP b3 0), (6, .slice none 0 0), (7, vS gt (n + 1) (n + 1)), (8, vS gr (n + 1) (n + 1))] (WC.seq fun K9 hK9 => WC.region (WL.z (vS gr (n + 1) (n + 1)) 23 (WL.y (vP gr 0) 24 (x_ix (0) (0) Try.underlying39 sz4) ?_)))))
 refine WL.store (c' := brow (n + 1) (upB (fun _ => false) 0 true)) (H2 := _) 2 hH8 rfl rfl rfl rfl rfl rfl sz4 rfl (by rw [size_brow]; omega) (brow_set (n + 1) 0 (fun _ => false) true) rfl ?_
 intro w10 hBw10
 have hH11 : HP Tr w w10 [.cel b3 #[vI s, vI y, vI l, vI m] 23, .cel gt (aR (n + 1) nilT) 49, .cel gr (brow (n + 1) (upB (fun _ => false) 0 true)) 4] := hBw10
 refine WL.k hK9 (WC.seq fun K12 hK12 => WC.region (WL.z (.slice p n cap) 25 ?_))
 refine WL.c 110 #[.slice p n cap] 26 ?_
 refine (rWays_any p n cap c A B _ (hIn.below (HP.below hH11)) hc).mono ?_
 rintro e w13 ⟨pvw, cpw, rfl, hb14, hwl⟩
 refine ⟨_, rfl, ?_⟩
 have hH15 : HP Tr w _ [.cel b3 #[vI s, vI y, vI l, vI m] 23, .cel gt (aR (n + 1) nilT) 49, .cel gr (brow (n + 1) (upB (fun _ => false) 0 true)) 4, rowT pvw (wLs c n n).length cpw (wLs c n n)] := HP.trans hH11 hb14
 refine WL.z (.slice pvw ((wLs c n n).length) cpw) 9 (WL.k hK12 (WC.seq fun K16 hK16 => WC.seq fun K17 hK17 => ?_))
 have hIW0 := InT.own (HP.get hH15 3 rfl)
 have hH18 : HP Tr w _ [.cel b3 #[vI s, vI y, vI l, vI m] 23, .cel gt (aR (n + 1) nilT) 49, .cel gr (brow (n + 1) (upB (fun _ => false) 0 true)) 4] := HP.drop hH15 3
 refine WC.region (WL.z (.bool true) 10 (WL.k hK17 (WC.block ?_)))
 refine WC.loop (fun kk0 ll0 ww0 => ∃ (T0 : Nat → TbI) (f0 : Nat → Bool) (ch : Bool), ll0 = [(1, .slice p n cap), (2, .bool false), (3, vP b3 0), (7, vS gt (n + 1) (n + 1)), (8, vS gr (n + 1) (n + 1)), (9, .slice pvw ((wLs c n n).length) cpw), (10, .bool ch)] ∧ kk0 = (bif ch then Fl.rmu (opsM s y l) 5000 n ⟨tabs T0, f0, true⟩ + 1 else 0) ∧ (∀ i9, TbOk s y l m ww0 (T0 i9)) ∧ (InT ww0 pvw (wLs c n n)) ∧ (Fl.RInv (latM s y l m hg0) n [] (Fl.sol (opsM s y l) (cdOf c n) (trC c n) [] (fun _ => [])) ⟨tabs T0, f0, true⟩) ∧ (ch = false → ∀ i, i < n → ∀ p ∈ Fl.ways (cdOf c n) i, Stab (latM s y l m hg0) T0 f0 p) ∧ HP Tr w ww0 [.cel b3 #[vI s, vI y, vI l, vI m] 23, .cel gt (aR (n + 1) T0) 49, .cel gr (brow (n + 1) f0) 4]) (Fl.rmu (opsM s y l) 5000 n ⟨tabs nilT, (upB (fun _ => false) 0 true), true⟩ + 1) [(1, .slice p n cap), (2, .bool false), (3, vP b3 0), (7, vS gt (n + 1) (n + 1)), (8, vS gr (n + 1) (n + 1)), (9, .slice pvw ((wLs c n n).length) cpw), (10, .bool true)] ⟨rfl, rfl, rfl, rfl, rfl, rfl, rfl, trivial⟩ ⟨nilT, (upB (fun _ => false) 0 true), true, rfl, rfl, (fun i9 => nil_ok hg0), hIW0, (Fl.start_inv G (VT.nil hg0) rfl (fun v hv => by unfold upB at hv; split at hv; assumption; cases hv) rfl), (fun h => by cases h), hH18⟩ ?_
 rintro kk l w20 ⟨T0, f0, ch, rfl, hkk, hT0, hIW, hR0, hst0, hH21⟩ K19 hK19
 refine WC.seq fun K22 hK22 => WC.seq fun K23 hK23 => WC.region (WL.z (.bool ch) 27 (WL.k hK23 ?_))
 rcases Bool.eq_false_or_eq_true (ch) with hch | hch
 ·
  simp only [hch, cond_true] at hkk
  clear hst0
  refine WC.yes (congrArg (fun b => some (Value.bool b)) hch) ?_
  refine WC.skip (WQ.then (hK22 _ _ _ (WC.block (WC.seq fun K24 hK24 => WC.region (WL.z (.bool false) 10 (WL.k hK24 (WC.seq fun K25 hK25 => WC.region ?_)))))))
  refine WL.z (vI 0) 11 (WL.k hK25 (WC.block ?_))
  refine WC.loop (fun kk0 ll0 ww0 => ∃ (i : Nat) (T1 : Nat → TbI) (f1 : Nat → Bool) (cb : Bool), ll0 = [(1, .slice p n cap), (2, .bool false), (3, vP b3 0), (7, vS gt (n + 1) (n + 1)), (8, vS gr (n + 1) (n + 1)), (9, .slice pvw ((wLs c n n).length) cpw), (10, .bool cb), (11, vI (i : Int))] ∧ kk0 = (wLs c n n).length - i ∧ (i ≤ (wLs c n n).length) ∧ (∀ i9, TbOk s y l m ww0 (T1 i9)) ∧ (InT ww0 pvw (wLs c n n)) ∧ (Fl.RInv (latM s y l m hg0) n [] (Fl.sol (opsM s y l) (cdOf c n) (trC c n) [] (fun _ => [])) ⟨tabs T1, f1, true⟩) ∧ (Fl.rmu (opsM s y l) 5000 n ⟨tabs T1, f1, true⟩ + (bif cb then 1 else 0) ≤ Fl.rmu (opsM s y l) 5000 n ⟨tabs T0, f0, true⟩) ∧ (cb = false → ∀ j, j < i → ∀ p, (wsN c n)[j]? = some p → Stab (latM s y l m hg0) T1 f1 p) ∧ HP Tr w ww0 [.cel b3 #[vI s, vI y, vI l, vI m] 23, .cel gt (aR (n + 1) T1) 49, .cel gr (brow (n + 1) f1) 4]) ((wLs c n n).length) [(1, .slice p n cap), (2, .bool false), (3, vP b3 0), (7, vS gt (n + 1) (n + 1)), (8, vS gr (n + 1) (n + 1)), (9, .slice pvw ((wLs c n n).length) cpw), (10, .bool false), (11, vI 0)] ⟨rfl, rfl, rfl, rfl, rfl, rfl, rfl, rfl, trivial⟩ ⟨0, T0, f0, false, rfl, rfl, Nat.zero_le _, hT0, hIW, hR0, Nat.le_refl _, (fun _ j hj => absurd hj (Nat.not_lt_zero _)), hH21⟩ ?_
  rintro kk l w27 ⟨i, T1, f1, cb, rfl, hkk, hi, hT1, hIW1, hR1, hmu, hst, hH28⟩ K26 hK26
  have hInv := hH28
  have hB9 := HP.ownB (A := [.cel b3 #[vI s, vI y, vI l, vI m] 23]) hInv
  have hOi := fun b o x hc => out_ib hB9 (b := b) (o := o) (x := x) hc
  have hgr : World.rangeAt w27 b3 0 [vI s, vI y, vI l, vI m] := HP.range hInv 0 rfl rfl
  have hgo := hOi b3 0 s (hgr 0 _ rfl)
  have hH29 := HP.startB hB9
  refine WC.seq fun K30 hK30 => WC.seq fun K31 hK31 => WC.region (WL.z (vI (i : Int)) 28 (WL.z (.slice pvw ((wLs c n n).length) cpw) 29 (WL.z (vI (((wLs c n n).length : Nat) : Int)) 30 ?_)))
  by_cases hlt : (i : Int) < (((wLs c n n).length : Nat) : Int)
  ·
   refine WL.y (.bool true) 31 (x_lss rfl rfl rfl (dT (hlt))) (WL.k hK31 ?_)
   refine WC.yes rfl ?_
   refine WC.skip (WQ.then (hK30 _ _ _ (WC.seq fun K32 hK32 => WC.block (WC.seq fun K33 hK33 => ?_))))
   obtain ⟨u, v, kw, hpw, hlu, hlv, hkw, hmw⟩ := ws_at (c := c) (n := n) (i := i) (by omega)
   obtain ⟨-, hun, -, hvn, -⟩ := G.way kw (Nat.zero_le _) hkw _ hmw
   simp only [] at hun hvn
   have hun : u < n := hun
   have hvn : v ≤ n := hvn
   obtain ⟨gw, ow, hqw, hrw⟩ := hIW1 (by omega)
   have hri : World.rangeAt w27 gw (ow + i * 2) [vI (u : Int), vI (v : Int)] := by rw [← hlu, ← hlv]; exact hrw i (by omega)
   have hgw := hOi gw _ _ (hri 0 _ rfl)
   subst hqw
   refine WC.region (WL.z (.slice (some ⟨gw, ow, none⟩) ((wLs c n n).length) cpw) 34 (WL.z (vI (i : Int)) 35 (WL.y (vP gw (ow + i * 2)) 36 (x_ix (i) (ow + i * 2) Try.underlying49 sz83) (WL.y (vP gw (ow + i * 2)) 37 (x_idxArr (0) (ow + i * 2) rfl rfl rfl Try.underlying83 sz3 (by omega) (by omega) (by omega)) (WL.y (vI (u : Int)) 38 (x_load rfl rfl Try.underlying3 rfl ((HP.oldRange hH29 hgw hri) 0 _ rfl)) (WL.z (vI (u : Int)) 12 (WL.k hK33 (WC.sb [(1, .slice p n cap), (2, .bool false), (3, vP b3 0), (7, vS gt (n + 1) (n + 1)), (8, vS gr (n + 1) (n + 1)), (9, .slice (some ⟨gw, ow, none⟩) ((wLs c n n).length) cpw), (10, .bool cb), (11, vI (i : Int)), (12, vI (u : Int)), (31, .bool true)] (WC.seq fun K34 hK34 => ?_)))))))))
   refine WC.region (WL.z (.slice (some ⟨gw, ow, none⟩) ((wLs c n n).length) cpw) 39 (WL.z (vI (i : Int)) 40 (WL.y (vP gw (ow + i * 2)) 41 (x_ix (i) (ow + i * 2) Try.underlying49 sz83) (WL.y (vP gw (ow + i * 2 + 1)) 42 (x_idxArr (1) (ow + i * 2 + 1) rfl rfl rfl Try.underlying83 sz3 (by omega) (by omega) (by omega)) (WL.y (vI (v : Int)) 43 (x_load rfl rfl Try.underlying3 rfl ((HP.oldRange hH29 hgw hri) 1 _ rfl)) (WL.z (vI (v : Int)) 13 (WL.k hK34 (WC.seq fun K35 hK35 => WC.seq fun K36 hK36 => ?_))))))))
   refine WC.region (WL.z (vS gr (n + 1) (n + 1)) 44 (WL.z (vI (u : Int)) 45 (WL.y (vP gr u) 46 (x_ix (b := gr) (off := 0) u u Try.underlying39 sz4) (WL.y (.bool (f1 u)) 47 (x_load rfl rfl Try.underlying4 rfl (HP.cell hH29 1 rfl (brow_get (by omega) rfl))) (WL.z (.bool (!(f1 u))) 48 (WL.k hK36 (WC.sb [(1, .slice p n cap), (2, .bool false), (3, vP b3 0), (7, vS gt (n + 1) (n + 1)), (8, vS gr (n + 1) (n + 1)), (9, .slice (some ⟨gw, ow, none⟩) ((wLs c n n).length) cpw), (10, .bool cb), (11, vI (i : Int)), (12, vI (u : Int)), (13, vI (v : Int)), (31, .bool true), (48, .bool (!(f1 u)))] ?_)))))))
   rcases Bool.eq_false_or_eq_true (f1 u) with hfu | hfu
   ·
    refine WC.no (congrArg (fun b => some (Value.bool (!b))) hfu) ?_
    refine WC.skip (WQ.then (hK35 _ _ _ (WC.seq fun K37 hK37 => ?_)))
    have hx9 := line_of (vG_iff.1 hg0).2.2.1 (show u ≤ 999 by omega)
    refine WC.confG (γ := Option Addr × Nat × Unit) [(1, .slice p n cap), (2, .bool false), (3, vP b3 0), (7, vS gt (n + 1) (n + 1)), (8, vS gr (n + 1) (n + 1)), (9, .slice (some ⟨gw, ow, none⟩) ((wLs c n n).length) cpw), (10, .bool cb), (11, vI (i : Int)), (12, vI (u : Int)), (13, vI (v : Int)), (31, .bool true), (48, .bool (!(f1 u)))] (fun gy => [.agg #[vI s, vI y, vI l, vI m], vS gt (n + 1) (n + 1), vI (u : Int), vP gt u, .slice ((T1 u).q) ((T1 u).t.length) ((T1 u).c), vI (u : Int), vP b3 2, vI l, vI ((u : Int) / l), .bool false, .slice gy.1 ((tcH s y ((u : Int) / l) 0 (T1 u).t).length) gy.2.1, .slice gy.1 ((tcH s y ((u : Int) / l) 0 (T1 u).t).length) gy.2.1]) (fun gy D wz => HP (Out [.cel gt (aR (n + 1) T1) 49, .cel gr (brow (n + 1) f1) 4]) w27 wz ([.cel gt (aR (n + 1) T1) 49, .cel gr (brow (n + 1) f1) 4] ++ ((bif D 10 then [rowT gy.1 (tcH s y ((u : Int) / l) 0 (T1 u).t).length gy.2.1 (tcH s y ((u : Int) / l) 0 (T1 u).t)] else []) ++ []))) (none, 0, ()) (by kernel_rfl) ⟨rfl, rfl, rfl, rfl, rfl, rfl, rfl, rfl, rfl, rfl, rfl, rfl, trivial⟩ (by kernel_rfl) (by kernel_rfl) (by kernel_rfl) (fun _ => rfl) (by kernel_rfl) (HP.drew hH29) ?_ ?_
    ·
     refine AllOk.cons ?o0 (AllOk.cons ?o1 (AllOk.cons ?o2 (AllOk.cons ?o3 (AllOk.cons ?o4 (AllOk.cons ?o5 (AllOk.cons ?o6 (AllOk.cons ?o7 (AllOk.cons ?o8 (AllOk.cons ?o9 (AllOk.cons ?o10 (AllOk.cons ?o11 (AllOk.nil _))))))))))))
     case o0 =>
      intro gy D wz hDi hdep hclo hW
      exact cfv gy wz (x_loadS (cs := [vI s, vI y, vI l, vI m]) rfl rfl Try.underlying23 rfl sz23 (HP.oldRange hW hgo hgr)) hW
     case o1 =>
      intro gy D wz hDi hdep hclo hW
      exact cfv gy wz (by kernel_rfl) hW
     case o2 =>
      intro gy D wz hDi hdep hclo hW
      exact cfv gy wz (by kernel_rfl) hW
     case o3 =>
      intro gy D wz hDi hdep hclo hW
      exact cfv gy wz (x_ix (b := gt) (off := 0) u u Try.underlying119 sz49) hW
     case o4 =>
      intro gy D wz hDi hdep hclo hW
      exact cfv gy wz (x_load rfl rfl Try.underlying49 rfl (HP.cell hW 0 rfl (aR_get (by omega)))) hW
     case o5 =>
      intro gy D wz hDi hdep hclo hW
      exact cfv gy wz (by kernel_rfl) hW
     case o6 =>
      intro gy D wz hDi hdep hclo hW
      exact cfv gy wz (by kernel_rfl) hW
     case o7 =>
      intro gy D wz hDi hdep hclo hW
      exact cfv gy wz (x_load rfl rfl Try.underlying3 rfl ((HP.oldRange hW hgo hgr) 2 _ rfl)) hW
     case o8 =>
      intro gy D wz hDi hdep hclo hW
      exact cfv gy wz (x_quo rfl rfl rfl (by omega) (tdiv_pos (by omega) (by omega)) (by have := hx9; omega) (by have := hx9; omega)) hW
     case o9 =>
      intro gy D wz hDi hdep hclo hW
      exact cfv gy wz (by kernel_rfl) hW
     case o10 =>
      intro gy D wz hDi hdep hclo hW
      have d11 : D 11 = false := by
       cases h : D 11 with
       | false => rfl
       | true => exact absurd (hclo 11 _ rfl h ⟨10, .data⟩ (by simp) rfl) (by rw [hDi]; exact Bool.false_ne_true)
      have hW2 := hW
      try simp only [hDi, cond_true, cond_false, List.append_nil, List.nil_append, List.cons_append] at hW2
      refine .inl ⟨rfl, rfl, .inr (.inr ⟨60, #[.agg #[vI s, vI y, vI l, vI m], .slice ((T1 u).q) ((T1 u).t.length) ((T1 u).c), vI ((u : Int) / l), .bool false], by kernel_rfl, (rtouch0_any (T1 u).q (T1 u).t (T1 u).c s y l m ((u : Int) / l) _ (keepT (hT1 u) hOi hW2).inn (hT1 u).ok).mono ?_⟩)⟩
      rintro e w3 ⟨pvt, cpt, rfl, hb9⟩
      have hA := HP.trans hW2 hb9
      refine ⟨⟨pvt, cpt, ()⟩, fun j hj => ?_, rfl, ?_⟩
      ·
       match j, hj with
       | 0, hj => rfl
       | 1, hj => rfl
       | 2, hj => rfl
       | 3, hj => rfl
       | 4, hj => rfl
       | 5, hj => rfl
       | 6, hj => rfl
       | 7, hj => rfl
       | 8, hj => rfl
       | 9, hj => rfl
       | 10, hj => rw [hDi] at hj; cases hj
       | 11, hj => exact absurd hj (by rw [d11]; exact Bool.false_ne_true)
       | j + 12, _ => rfl
      ·
       show HP (Out [.cel gt (aR (n + 1) T1) 49, .cel gr (brow (n + 1) f1) 4]) w27 w3 ([.cel gt (aR (n + 1) T1) 49, .cel gr (brow (n + 1) f1) 4] ++ ([rowT pvt (tcH s y ((u : Int) / l) 0 (T1 u).t).length cpt (tcH s y ((u : Int) / l) 0 (T1 u).t)] ++ []))
       try simp only [cond_true, cond_false, List.append_nil, List.nil_append, List.cons_append]
       exact hA
     case o11 =>
      intro gy D wz hDi hdep hclo hW
      exact cfv gy wz (by kernel_rfl) hW
    rintro ⟨pvt, cpt, gu⟩ D w38 hall hH39
    simp only [hall 10 (by kernel_rfl), cond_true, List.append_nil, List.nil_append, List.cons_append] at hH39
    clear hall
    refine WQ.sb [(1, .slice p n cap), (2, .bool false), (3, vP b3 0), (7, vS gt (n + 1) (n + 1)), (8, vS gr (n + 1) (n + 1)), (9, .slice (some ⟨gw, ow, none⟩) ((wLs c n n).length) cpw), (10, .bool cb), (11, vI (i : Int)), (12, vI (u : Int)), (13, vI (v : Int)), (14, .slice pvt ((tcH s y ((u : Int) / l) 0 (T1 u).t).length) cpt), (31, .bool true), (48, .bool (!(f1 u)))] ?_
    have hVt : VT s y l m (tcH s y ((u : Int) / l) 0 (T1 u).t) := VT_tc (hT1 u).ok hx9
    refine WQ.then (hK37 _ _ _ (WC.seq fun K40 hK40 => WC.seq fun K41 hK41 => WC.region (WL.z (vS gr (n + 1) (n + 1)) 60 (WL.z (vI (v : Int)) 61 (WL.y (vP gr v) 62 (x_ix (b := gr) (off := 0) v v Try.underlying39 sz4) (WL.y (.bool (f1 v)) 63 (x_load rfl rfl Try.underlying4 rfl (HP.cell hH39 1 rfl (brow_get (by omega) rfl))) (WL.k hK41 ?_)))))))
    rcases Bool.eq_false_or_eq_true (f1 v) with hfv | hfv
    ·
     refine WC.yes (congrArg (fun b => some (Value.bool b)) hfv) ?_
     refine WC.region (WL.z (vS gt (n + 1) (n + 1)) 64 (WL.z (vI (v : Int)) 65 (WL.y (vP gt v) 66 (x_ix (b := gt) (off := 0) v v Try.underlying119 sz49) (WL.y (.slice ((T1 v).q) ((T1 v).t.length) ((T1 v).c)) 67 (x_load rfl rfl Try.underlying49 rfl (HP.cell hH39 0 rfl (aR_get (by omega)))) (WL.z (.slice pvt ((tcH s y ((u : Int) / l) 0 (T1 u).t).length) cpt) 68 (WL.z (.bool false) 69 ?_))))))
     refine WL.c 64 #[.slice ((T1 v).q) ((T1 v).t.length) ((T1 v).c), .slice pvt ((tcH s y ((u : Int) / l) 0 (T1 u).t).length) cpt, .bool false] 70 ?_
     refine (rJoinedF_any (T1 v).q pvt (T1 v).t (tcH s y ((u : Int) / l) 0 (T1 u).t) (T1 v).c cpt  _ (keepT (hT1 v) hOi hH39).inn (InT.own (HP.get hH39 2 rfl)) (by have := (hT1 v).ok.len; omega) (by have := hVt.len; omega)).mono ?_
     rintro e w42 ⟨pvj, cpj, rfl, hb43⟩
     refine ⟨_, rfl, ?_⟩
     have hH44 : HP (Out [.cel gt (aR (n + 1) T1) 49, .cel gr (brow (n + 1) f1) 4]) w27 _ [.cel gt (aR (n + 1) T1) 49, .cel gr (brow (n + 1) f1) 4, rowT pvt (tcH s y ((u : Int) / l) 0 (T1 u).t).length cpt (tcH s y ((u : Int) / l) 0 (T1 u).t), rowT pvj (rJ false (T1 v).t (tcH s y ((u : Int) / l) 0 (T1 u).t)).length cpj (rJ false (T1 v).t (tcH s y ((u : Int) / l) 0 (T1 u).t))] := HP.trans hH39 hb43
     have hVj : VT s y l m (rJ false (T1 v).t (tcH s y ((u : Int) / l) 0 (T1 u).t)) := by rw [← jM_eq (hT1 v).ok.so hVt.so]; exact VT_jM (hT1 v).ok hVt
     have hJe : (rJ false (T1 v).t (tcH s y ((u : Int) / l) 0 (T1 u).t)) = (opsM s y l).J (T1 v).t ((opsM s y l).F u (T1 u).t) := (jM_eq (hT1 v).ok.so hVt.so).symm
     refine WL.z (.slice pvj ((rJ false (T1 v).t (tcH s y ((u : Int) / l) 0 (T1 u).t)).length) cpj) 14 (WL.k hK40 (WC.sb [(1, .slice p n cap), (2, .bool false), (3, vP b3 0), (7, vS gt (n + 1) (n + 1)), (8, vS gr (n + 1) (n + 1)), (9, .slice (some ⟨gw, ow, none⟩) ((wLs c n n).length) cpw), (10, .bool cb), (11, vI (i : Int)), (12, vI (u : Int)), (13, vI (v : Int)), (14, .slice pvj ((rJ false (T1 v).t (tcH s y ((u : Int) / l) 0 (T1 u).t)).length) cpj), (31, .bool true), (48, .bool (!(f1 u))), (63, .bool (f1 v))] (WC.seq fun K45 hK45 => WC.region (WL.z (vS gr (n + 1) (n + 1)) 71 (WL.z (vI (v : Int)) 72 (WL.y (vP gr v) 73 (x_ix (b := gr) (off := 0) v v Try.underlying39 sz4) (WL.y (.bool true) 74 (x_load rfl rfl Try.underlying4 rfl (HP.cell hH44 1 rfl (brow_get (by omega) hfv))) ?_)))))))
     refine WL.z (.bool false) 75 (WL.z (.bool false) 76 (WL.z (.slice pvj ((rJ false (T1 v).t (tcH s y ((u : Int) / l) 0 (T1 u).t)).length) cpj) 77 (WL.z (vS gt (n + 1) (n + 1)) 78 (WL.z (vI (v : Int)) 79 (WL.y (vP gt v) 80 (x_ix (b := gt) (off := 0) v v Try.underlying119 sz49) (WL.y (.slice ((T1 v).q) ((T1 v).t.length) ((T1 v).c)) 81 (x_load rfl rfl Try.underlying49 rfl (HP.cell hH44 0 rfl (aR_get (by omega)))) ?_))))))
     refine WL.c 34 #[.slice pvj ((rJ false (T1 v).t (tcH s y ((u : Int) / l) 0 (T1 u).t)).length) cpj, .slice ((T1 v).q) ((T1 v).t.length) ((T1 v).c)] 82 ?_
     refine (SameTableG_any pvj (T1 v).q (rJ false (T1 v).t (tcH s y ((u : Int) / l) 0 (T1 u).t)) (T1 v).t cpj (T1 v).c _ (InT.own (HP.get hH44 3 rfl)) (keepT (hT1 v) hOi hH44).inn (by have := hVj.len; omega)).mono ?_
     rintro e w46 ⟨rfl, hb47⟩
     refine ⟨_, rfl, ?_⟩
     have hH48 := HP.call hH44 hb47
     refine WL.z (.bool (!(decide ((rJ false (T1 v).t (tcH s y ((u : Int) / l) 0 (T1 u).t)) = (T1 v).t)))) 83 (WL.z (.bool (!(decide ((rJ false (T1 v).t (tcH s y ((u : Int) / l) 0 (T1 u).t)) = (T1 v).t)))) 84 (WL.k hK45 (WC.sb [(1, .slice p n cap), (2, .bool false), (3, vP b3 0), (7, vS gt (n + 1) (n + 1)), (8, vS gr (n + 1) (n + 1)), (9, .slice (some ⟨gw, ow, none⟩) ((wLs c n n).length) cpw), (10, .bool cb), (11, vI (i : Int)), (12, vI (u : Int)), (13, vI (v : Int)), (14, .slice pvj ((rJ false (T1 v).t (tcH s y ((u : Int) / l) 0 (T1 u).t)).length) cpj), (31, .bool true), (48, .bool (!(f1 u))), (63, .bool (f1 v)), (84, .bool (!(decide ((rJ false (T1 v).t (tcH s y ((u : Int) / l) 0 (T1 u).t)) = (T1 v).t))))] ?_)))
     rcases Bool.eq_false_or_eq_true (decide ((rJ false (T1 v).t (tcH s y ((u : Int) / l) 0 (T1 u).t)) = (T1 v).t)) with hsm | hsm
     ·
      refine WC.no (congrArg (fun b => some (Value.bool (!b))) hsm) ?_
      refine WC.skip (WQ.inNormal (WQ.then (hK32 _ _ _ (WC.region (WL.z (vI (i : Int)) 32 (WL.y (vI ((i + 1 : Nat) : Int)) 33 (x_ad (((i + 1 : Nat) : Int))) (WL.z (vI ((i + 1 : Nat) : Int)) 11 (WL.nil ?_))))))))
      have hF9 : HP (Out [.cel gt (aR (n + 1) T1) 49, .cel gr (brow (n + 1) f1) 4]) w27 _ [.cel gt (aR (n + 1) T1) 49, .cel gr (brow (n + 1) f1) 4] := (HP.drop (HP.drop hH48 3) 2)
      refine WQ.sb [(1, .slice p n cap), (2, .bool false), (3, vP b3 0), (7, vS gt (n + 1) (n + 1)), (8, vS gr (n + 1) (n + 1)), (9, .slice (some ⟨gw, ow, none⟩) ((wLs c n n).length) cpw), (10, .bool cb), (11, vI ((i + 1 : Nat) : Int))] ?_
      refine WQ.then (hK26 _ _ _ (by omega) ⟨i + 1, T1, f1, cb, rfl, rfl, by omega, (fun i9 => keepT (hT1 i9) hOi hF9), keepI hIW1 hOi hF9, hR1, hmu, stab_succ hpw hst (Fl.step_same G (by omega) (VT.nil hg0) (fun a ha => muM_bd ha) hR1 hkw hmw hfv (hJe.symm.trans (of_decide_eq_true hsm))), (HP.exch (A := [Go.Proofs.Ytmjnakhpekbenaa.Fw.Ent.cel b3 #[vI s, vI y, vI l, vI m] 23]) hInv hF9)⟩)
     ·
      refine WC.yes (congrArg (fun b => some (Value.bool (!b))) hsm) ?_
      refine WC.seq fun K49 hK49 => WC.region (WL.z (.bool true) 10 (WL.k hK49 (WC.seq fun K50 hK50 => WC.region (WL.z (vS gr (n + 1) (n + 1)) 85 (WL.z (vI (v : Int)) 86 (WL.y (vP gr v) 87 (x_ix (b := gr) (off := 0) v v Try.underlying39 sz4) ?_))))))
      refine WL.store (c' := brow (n + 1) (upB f1 v true)) (H2 := _) 1 hH48 rfl rfl rfl rfl rfl rfl sz4 rfl (by rw [size_brow]; omega) (brow_set (n + 1) v f1 true) rfl ?_
      intro w51 hBw51
      have hH52 : HP (Out [.cel gt (aR (n + 1) T1) 49, .cel gr (brow (n + 1) f1) 4]) w27 w51 [.cel gt (aR (n + 1) T1) 49, .cel gr (brow (n + 1) (upB f1 v true)) 4, rowT pvt (tcH s y ((u : Int) / l) 0 (T1 u).t).length cpt (tcH s y ((u : Int) / l) 0 (T1 u).t), rowT pvj (rJ false (T1 v).t (tcH s y ((u : Int) / l) 0 (T1 u).t)).length cpj (rJ false (T1 v).t (tcH s y ((u : Int) / l) 0 (T1 u).t))] := hBw51
      refine WL.k hK50 (WC.region (WL.z (vS gt (n + 1) (n + 1)) 88 (WL.z (vI (v : Int)) 89 (WL.z (.slice pvj ((rJ false (T1 v).t (tcH s y ((u : Int) / l) 0 (T1 u).t)).length) cpj) 90 (WL.y (vP gt v) 91 (x_ix (b := gt) (off := 0) v v Try.underlying119 sz49) ?_)))))
      refine WL.store (c' := aR (n + 1) (upA T1 v ⟨pvj, (rJ false (T1 v).t (tcH s y ((u : Int) / l) 0 (T1 u).t)), cpj⟩)) (H2 := _) 0 hH52 rfl rfl rfl rfl rfl rfl sz49 rfl (by rw [aR_size]; omega) (aR_set (n + 1) v T1 ⟨pvj, (rJ false (T1 v).t (tcH s y ((u : Int) / l) 0 (T1 u).t)), cpj⟩) rfl ?_
      intro w53 hBw53
      have hH54 : HP (Out [.cel gt (aR (n + 1) T1) 49, .cel gr (brow (n + 1) f1) 4]) w27 w53 [.cel gt (aR (n + 1) (upA T1 v ⟨pvj, (rJ false (T1 v).t (tcH s y ((u : Int) / l) 0 (T1 u).t)), cpj⟩)) 49, .cel gr (brow (n + 1) (upB f1 v true)) 4, rowT pvt (tcH s y ((u : Int) / l) 0 (T1 u).t).length cpt (tcH s y ((u : Int) / l) 0 (T1 u).t), rowT pvj (rJ false (T1 v).t (tcH s y ((u : Int) / l) 0 (T1 u).t)).length cpj (rJ false (T1 v).t (tcH s y ((u : Int) / l) 0 (T1 u).t))] := hBw53
      refine WL.nil (WQ.inNormal (WQ.then (hK32 _ _ _ (WC.sb [(1, .slice p n cap), (2, .bool false), (3, vP b3 0), (7, vS gt (n + 1) (n + 1)), (8, vS gr (n + 1) (n + 1)), (9, .slice (some ⟨gw, ow, none⟩) ((wLs c n n).length) cpw), (10, .bool true), (11, vI (i : Int)), (12, vI (u : Int)), (13, vI (v : Int)), (14, .slice pvj ((rJ false (T1 v).t (tcH s y ((u : Int) / l) 0 (T1 u).t)).length) cpj), (31, .bool true), (48, .bool (!(f1 u))), (63, .bool (f1 v)), (84, .bool (!(decide ((rJ false (T1 v).t (tcH s y ((u : Int) / l) 0 (T1 u).t)) = (T1 v).t))))] (WC.region (WL.z (vI (i : Int)) 32 (WL.y (vI ((i + 1 : Nat) : Int)) 33 (x_ad (((i + 1 : Nat) : Int))) (WL.z (vI ((i + 1 : Nat) : Int)) 11 (WL.nil ?_)))))))))
      have hIWn := keepI hIW1 hOi hH54
      have hTn : ∀ i9, TbOk s y l m _ ((upA T1 v ⟨pvj, (rJ false (T1 v).t (tcH s y ((u : Int) / l) 0 (T1 u).t)), cpj⟩) i9) := fun i9 => by
             unfold upA
             split
             · exact ⟨InT.own (HP.get hH54 3 rfl), hVj⟩
             · exact keepT (hT1 i9) hOi hH54
      have hF9 : HP (Out [.cel gt (aR (n + 1) T1) 49, .cel gr (brow (n + 1) f1) 4]) w27 _ [.cel gt (aR (n + 1) (upA T1 v ⟨pvj, (rJ false (T1 v).t (tcH s y ((u : Int) / l) 0 (T1 u).t)), cpj⟩)) 49, .cel gr (brow (n + 1) (upB f1 v true)) 4] := (HP.drop (HP.drop hH54 3) 2)
      obtain ⟨hRn, hmn⟩ := Fl.step_chg G (by omega) (VT.nil hg0) (fun a ha => muM_bd ha) hR1 hkw hmw hfu (X := (rJ false (T1 v).t (tcH s y ((u : Int) / l) 0 (T1 u).t))) (by show (rJ false (T1 v).t (tcH s y ((u : Int) / l) 0 (T1 u).t)) = if f1 v = true then _ else _; rw [if_pos hfv]; exact hJe) (fun q => of_decide_eq_false hsm q.2)
      rw [← upB_up] at hRn hmn
      have hte : tabs (upA T1 v ⟨pvj, (rJ false (T1 v).t (tcH s y ((u : Int) / l) 0 (T1 u).t)), cpj⟩) = Fl.up (tabs T1) v (rJ false (T1 v).t (tcH s y ((u : Int) / l) 0 (T1 u).t)) := tabs_up T1 v ⟨pvj, (rJ false (T1 v).t (tcH s y ((u : Int) / l) 0 (T1 u).t)), cpj⟩
      simp only [] at hRn hmn
      rw [← hte] at hRn hmn
      refine WQ.sb [(1, .slice p n cap), (2, .bool false), (3, vP b3 0), (7, vS gt (n + 1) (n + 1)), (8, vS gr (n + 1) (n + 1)), (9, .slice (some ⟨gw, ow, none⟩) ((wLs c n n).length) cpw), (10, .bool true), (11, vI ((i + 1 : Nat) : Int))] ?_
      refine WQ.then (hK26 _ _ _ (by omega) ⟨i + 1, (upA T1 v ⟨pvj, (rJ false (T1 v).t (tcH s y ((u : Int) / l) 0 (T1 u).t)), cpj⟩), (upB f1 v true), true, rfl, rfl, by omega, hTn, hIWn, hRn, (by have hmn9 : Fl.rmu (opsM s y l) 5000 n ⟨tabs (upA T1 v ⟨pvj, (rJ false (T1 v).t (tcH s y ((u : Int) / l) 0 (T1 u).t)), cpj⟩), (upB f1 v true), true⟩ < Fl.rmu (opsM s y l) 5000 n ⟨tabs T1, f1, true⟩ := hmn; cases cb <;> simp only [cond_true, cond_false] at hmu ⊢ <;> omega), (fun h => by cases h), (HP.exch (A := [Go.Proofs.Ytmjnakhpekbenaa.Fw.Ent.cel b3 #[vI s, vI y, vI l, vI m] 23]) hInv hF9)⟩)
    ·
     refine WC.no (congrArg (fun b => some (Value.bool b)) hfv) ?_
     refine WC.skip (WQ.then (hK40 _ _ _ (WC.seq fun K55 hK55 => WC.region (WL.z (vS gr (n + 1) (n + 1)) 71 (WL.z (vI (v : Int)) 72 (WL.y (vP gr v) 73 (x_ix (b := gr) (off := 0) v v Try.underlying39 sz4) (WL.y (.bool false) 74 (x_load rfl rfl Try.underlying4 rfl (HP.cell hH39 1 rfl (brow_get (by omega) hfv))) (WL.z (.bool true) 75 (WL.z (.bool true) 76 (WL.p 77 ?_))))))))))
     refine WL.p 78 (WL.p 79 (WL.p 80 (WL.p 81 (WL.p 82 (WL.p 83 (WL.z (.bool true) 84 (WL.k hK55 (WC.sb [(1, .slice p n cap), (2, .bool false), (3, vP b3 0), (7, vS gt (n + 1) (n + 1)), (8, vS gr (n + 1) (n + 1)), (9, .slice (some ⟨gw, ow, none⟩) ((wLs c n n).length) cpw), (10, .bool cb), (11, vI (i : Int)), (12, vI (u : Int)), (13, vI (v : Int)), (14, .slice pvt ((tcH s y ((u : Int) / l) 0 (T1 u).t).length) cpt), (31, .bool true), (48, .bool (!(f1 u))), (63, .bool (f1 v)), (84, .bool true)] ?_))))))))
     refine WC.yes rfl ?_
     refine WC.seq fun K56 hK56 => WC.region (WL.z (.bool true) 10 (WL.k hK56 (WC.seq fun K57 hK57 => WC.region (WL.z (vS gr (n + 1) (n + 1)) 85 (WL.z (vI (v : Int)) 86 (WL.y (vP gr v) 87 (x_ix (b := gr) (off := 0) v v Try.underlying39 sz4) ?_))))))
     refine WL.store (c' := brow (n + 1) (upB f1 v true)) (H2 := _) 1 hH39 rfl rfl rfl rfl rfl rfl sz4 rfl (by rw [size_brow]; omega) (brow_set (n + 1) v f1 true) rfl ?_
     intro w58 hBw58
     have hH59 : HP (Out [.cel gt (aR (n + 1) T1) 49, .cel gr (brow (n + 1) f1) 4]) w27 w58 [.cel gt (aR (n + 1) T1) 49, .cel gr (brow (n + 1) (upB f1 v true)) 4, rowT pvt (tcH s y ((u : Int) / l) 0 (T1 u).t).length cpt (tcH s y ((u : Int) / l) 0 (T1 u).t)] := hBw58
     refine WL.k hK57 (WC.region (WL.z (vS gt (n + 1) (n + 1)) 88 (WL.z (vI (v : Int)) 89 (WL.z (.slice pvt ((tcH s y ((u : Int) / l) 0 (T1 u).t).length) cpt) 90 (WL.y (vP gt v) 91 (x_ix (b := gt) (off := 0) v v Try.underlying119 sz49) ?_)))))
     refine WL.store (c' := aR (n + 1) (upA T1 v ⟨pvt, (tcH s y ((u : Int) / l) 0 (T1 u).t), cpt⟩)) (H2 := _) 0 hH59 rfl rfl rfl rfl rfl rfl sz49 rfl (by rw [aR_size]; omega) (aR_set (n + 1) v T1 ⟨pvt, (tcH s y ((u : Int) / l) 0 (T1 u).t), cpt⟩) rfl ?_
     intro w60 hBw60
     have hH61 : HP (Out [.cel gt (aR (n + 1) T1) 49, .cel gr (brow (n + 1) f1) 4]) w27 w60 [.cel gt (aR (n + 1) (upA T1 v ⟨pvt, (tcH s y ((u : Int) / l) 0 (T1 u).t), cpt⟩)) 49, .cel gr (brow (n + 1) (upB f1 v true)) 4, rowT pvt (tcH s y ((u : Int) / l) 0 (T1 u).t).length cpt (tcH s y ((u : Int) / l) 0 (T1 u).t)] := hBw60
     refine WL.nil (WQ.inNormal (WQ.then (hK32 _ _ _ (WC.sb [(1, .slice p n cap), (2, .bool false), (3, vP b3 0), (7, vS gt (n + 1) (n + 1)), (8, vS gr (n + 1) (n + 1)), (9, .slice (some ⟨gw, ow, none⟩) ((wLs c n n).length) cpw), (10, .bool true), (11, vI (i : Int)), (12, vI (u : Int)), (13, vI (v : Int)), (14, .slice pvt ((tcH s y ((u : Int) / l) 0 (T1 u).t).length) cpt), (31, .bool true), (48, .bool (!(f1 u))), (63, .bool (f1 v)), (84, .bool true)] (WC.region (WL.z (vI (i : Int)) 32 (WL.y (vI ((i + 1 : Nat) : Int)) 33 (x_ad (((i + 1 : Nat) : Int))) (WL.z (vI ((i + 1 : Nat) : Int)) 11 (WL.nil ?_)))))))))
     have hIWn := keepI hIW1 hOi hH61
     have hTn : ∀ i9, TbOk s y l m _ ((upA T1 v ⟨pvt, (tcH s y ((u : Int) / l) 0 (T1 u).t), cpt⟩) i9) := fun i9 => by
           unfold upA
           split
           · exact ⟨InT.own (HP.get hH61 2 rfl), hVt⟩
           · exact keepT (hT1 i9) hOi hH61
     have hF9 : HP (Out [.cel gt (aR (n + 1) T1) 49, .cel gr (brow (n + 1) f1) 4]) w27 _ [.cel gt (aR (n + 1) (upA T1 v ⟨pvt, (tcH s y ((u : Int) / l) 0 (T1 u).t), cpt⟩)) 49, .cel gr (brow (n + 1) (upB f1 v true)) 4] := (HP.drop hH61 2)
     obtain ⟨hRn, hmn⟩ := Fl.step_chg G (by omega) (VT.nil hg0) (fun a ha => muM_bd ha) hR1 hkw hmw hfu (X := (tcH s y ((u : Int) / l) 0 (T1 u).t)) (by show (tcH s y ((u : Int) / l) 0 (T1 u).t) = if f1 v = true then _ else _; rw [if_neg (by rw [hfv]; exact Bool.false_ne_true)]; rfl) (fun q => absurd (show f1 v = true from q.1) (by rw [hfv]; exact Bool.false_ne_true))
     rw [← upB_up] at hRn hmn
     have hte : tabs (upA T1 v ⟨pvt, (tcH s y ((u : Int) / l) 0 (T1 u).t), cpt⟩) = Fl.up (tabs T1) v (tcH s y ((u : Int) / l) 0 (T1 u).t) := tabs_up T1 v ⟨pvt, (tcH s y ((u : Int) / l) 0 (T1 u).t), cpt⟩
     simp only [] at hRn hmn
     rw [← hte] at hRn hmn
     refine WQ.sb [(1, .slice p n cap), (2, .bool false), (3, vP b3 0), (7, vS gt (n + 1) (n + 1)), (8, vS gr (n + 1) (n + 1)), (9, .slice (some ⟨gw, ow, none⟩) ((wLs c n n).length) cpw), (10, .bool true), (11, vI ((i + 1 : Nat) : Int))] ?_
     refine WQ.then (hK26 _ _ _ (by omega) ⟨i + 1, (upA T1 v ⟨pvt, (tcH s y ((u : Int) / l) 0 (T1 u).t), cpt⟩), (upB f1 v true), true, rfl, rfl, by omega, hTn, hIWn, hRn, (by have hmn9 : Fl.rmu (opsM s y l) 5000 n ⟨tabs (upA T1 v ⟨pvt, (tcH s y ((u : Int) / l) 0 (T1 u).t), cpt⟩), (upB f1 v true), true⟩ < Fl.rmu (opsM s y l) 5000 n ⟨tabs T1, f1, true⟩ := hmn; cases cb <;> simp only [cond_true, cond_false] at hmu ⊢ <;> omega), (fun h => by cases h), (HP.exch (A := [Go.Proofs.Ytmjnakhpekbenaa.Fw.Ent.cel b3 #[vI s, vI y, vI l, vI m] 23]) hInv hF9)⟩)
   ·
    refine WC.yes (congrArg (fun b => some (Value.bool (!b))) hfu) ?_
    refine WC.exit (WQ.thenExit (WQ.inExit (WQ.then (hK32 _ _ _ (WC.region (WL.z (vI (i : Int)) 32 (WL.y (vI ((i + 1 : Nat) : Int)) 33 (x_ad (((i + 1 : Nat) : Int))) (WL.z (vI ((i + 1 : Nat) : Int)) 11 (WL.nil ?_)))))))))
    have hF9 : HP (Out [.cel gt (aR (n + 1) T1) 49, .cel gr (brow (n + 1) f1) 4]) w27 _ [.cel gt (aR (n + 1) T1) 49, .cel gr (brow (n + 1) f1) 4] := hH29
    refine WQ.sb [(1, .slice p n cap), (2, .bool false), (3, vP b3 0), (7, vS gt (n + 1) (n + 1)), (8, vS gr (n + 1) (n + 1)), (9, .slice (some ⟨gw, ow, none⟩) ((wLs c n n).length) cpw), (10, .bool cb), (11, vI ((i + 1 : Nat) : Int))] ?_
    refine WQ.then (hK26 _ _ _ (by omega) ⟨i + 1, T1, f1, cb, rfl, rfl, by omega, (fun i9 => keepT (hT1 i9) hOi hF9), keepI hIW1 hOi hF9, hR1, hmu, stab_succ hpw hst (fun q => absurd (show f1 u = true from q) (by rw [hfu]; exact Bool.false_ne_true)), (HP.exch (A := [Go.Proofs.Ytmjnakhpekbenaa.Fw.Ent.cel b3 #[vI s, vI y, vI l, vI m] 23]) hInv hF9)⟩)
  ·
   refine WL.y (.bool false) 31 (x_lss rfl rfl rfl (dF (hlt))) (WL.k hK31 ?_)
   refine WC.no rfl ?_
   refine WC.exit (WQ.thenExit (WQ.thenExit (WQ.inExit (WQ.inNormal (WQ.sb [(1, .slice p n cap), (2, .bool false), (3, vP b3 0), (7, vS gt (n + 1) (n + 1)), (8, vS gr (n + 1) (n + 1)), (9, .slice pvw ((wLs c n n).length) cpw), (10, .bool cb)] ?_)))))
   refine WQ.then (hK19 _ _ _ (by cases cb <;> simp only [cond_true, cond_false] at hmu ⊢ <;> omega) ⟨T1, f1, cb, rfl, rfl, hT1, hIW1, hR1, (fun h => ws_all (P := Stab (latM s y l m hg0) T1 f1) (fun j hj p hq => hst h j (by omega) p hq)), hInv⟩)
 ·
  refine WC.no (congrArg (fun b => some (Value.bool b)) hch) ?_
  refine WC.exit (WQ.thenExit (WQ.thenExit (WQ.inExit (WQ.then (hK16 _ _ _ (WC.seq fun K62 hK62 => WC.region (WL.z (vS gt (n + 1) (n + 1)) 92 (WL.z (vS gt (n + 1) (n + 1)) 6 (WL.nil (WQ.then ?_))))))))))
  refine hK62 _ _ _ (WC.ret ?_)
  refine WQ.ret1 6 rfl rfl ?_
  have hfin := Fl.stable_eq G hR0 (hst0 hch)
  exact ⟨gt, T0, rfl, HP.drop (HP.drop hH21 2) 0, hT0, fun v hv => by have := (hfin v (by omega)).2; rw [Fl.V_lt hv] at this; exact this⟩
end Ca
end Go.Proofs.Ytmjnakhpekbenaa
namespace Go.Proofs.Ytmjnakhpekbenaa
set_option maxRecDepth 20000
set_option maxHeartbeats 4000000
open Go.RowKit Fw
namespace Ca
theorem is_of {s y l m : Int} {t : List T2} (h : VT s y l m t) (x : Int) : decide (0 ≤ (ageT t x).getD (-1)) = (ageT t x).isSome := by
  cases e : ageT t x with
  | none => rfl
  | some a =>
    obtain ⟨i, hi, ha⟩ := age_some e
    have := (h.ag i hi).1
    show decide (0 ≤ a) = true
    exact decide_eq_true (by omega)
theorem mkF_at {ah : Nat → List T2} {l : Int} {i n : Nat} (hi : n ≤ i) {f : Nat → Bool} {X : Nat → List T2} (h : ∀ v, v < n → ah v = X v) (hf : ∀ j, f j = (ageT (X j) ((j : Int) / l)).isSome) : ∀ j, j < n → mkF ah l i j = f j := fun j hj => by
  unfold mkF; rw [decide_eq_true (show j < i by omega), Bool.true_and, h j hj, hf j]
theorem marked0_any (s y l m : Int) (p : Option Addr) (n cap : Nat) (c A B : Nat → Int) (w : World) (hIn : Ec.InC w p n c A B) (hg0 : vG s y l m = true) (hc : Ec.chk c A B false n = 0) :
  Calls Try.prog 76 #[.agg #[vI s, vI y, vI l, vI m], .slice p n cap, .bool false] w fun e w' => ∃ go, e = .returned (vS go n n) ∧ HP Tr w w' [.cel go (brow n (mk0 s y l c n (trC c n))) 4] := by
 have hn9 := (Ec.chk_ok hc).1
 have hg := vG_iff.1 hg0
 refine calls_of Try.func76 rfl (m := 37) rfl [(0, .agg #[vI s, vI y, vI l, vI m]), (1, .slice p n cap), (2, .bool false)] (Fr_enter [.agg #[vI s, vI y, vI l, vI m], .slice p n cap, .bool false] 37 (Nat.le_of_ble_eq_true rfl)) ?_
 have hH1 : HP Tr w w [] := HP.refl w
 refine WC.seq fun K2 hK2 => WC.region ?_
 refine WL.alloc (c := #[vI s, vI y, vI l, vI m]) (T := 23) hH1 3 rfl (by decide) rfl rfl (fun b3 => vP b3 0) (by kernel_rfl) (fun b3 w3 hw3 => ?_)
 have hH4 : HP Tr w w3 [.cel b3 #[vI s, vI y, vI l, vI m] 23] := hw3.2
 have nb3 := hw3.1
 clear hw3
 refine WL.z (.slice none 0 0) 6 (WL.k hK2 (WC.seq fun K5 hK5 => WC.region (WL.y (.agg #[vI s, vI y, vI l, vI m]) 10 (x_loadS (cs := [vI s, vI y, vI l, vI m]) rfl rfl Try.underlying23 rfl sz23 (HP.range hH4 0 rfl rfl)) (WL.z (.slice p n cap) 11 (WL.z (.bool false) 12 ?_)))))
 refine WL.c 92 #[.agg #[vI s, vI y, vI l, vI m], .slice p n cap, .bool false] 13 ?_
 refine (rAhead0_any s y l m p n cap c A B _ (hIn.below (HP.below hH4)) hg0 hc).mono ?_
 rintro e w6 ⟨gt, T9, rfl, hb7, hT9, hTe⟩
 refine ⟨_, rfl, ?_⟩
 have hH8 : HP Tr w _ [.cel b3 #[vI s, vI y, vI l, vI m] 23, .cel gt (aR (n + 1) T9) 49] := HP.trans hH4 hb7
 have hT8 := hT9
 refine WL.z (vS gt (n + 1) (n + 1)) 7 (WL.k hK5 (WC.seq fun K9 hK9 => WC.region (WL.z (.slice p n cap) 14 (WL.z (vI (n : Int)) 15 ?_))))
 have hIv0 := hH8
 refine WL.alloc (c := brow n (fun _ => false)) (T := 4) (HP.refl (S := Tr) w6) 16 rfl (by decide) rfl rfl (fun go => vS go n n) (x_makeR rfl rfl rfl (makeB n (by omega) _)) (fun go w10 hw9 => ?_)
 have hal9 := HP.below hw9.2
 have hH10 : HP Tr w w10 [.cel b3 #[vI s, vI y, vI l, vI m] 23, .cel gt (aR (n + 1) T9) 49, .cel go (brow n (fun _ => false)) 4] := HP.trans hIv0 hw9.2
 refine WL.z (vS go n n) 8 (WL.k hK9 (WC.sb [(0, .agg #[vI s, vI y, vI l, vI m]), (1, .slice p n cap), (2, .bool false), (3, vP b3 0), (6, .slice none 0 0), (7, vS gt (n + 1) (n + 1)), (8, vS go n n)] (WC.seq fun K11 hK11 => WC.seq fun K12 hK12 => WC.region (WL.z (vI 0) 9 (WL.k hK12 ?_)))))
 refine WC.block ?_
 refine WC.loop (fun kk0 ll0 ww0 => ∃ (i : Nat), ll0 = [(1, .slice p n cap), (2, .bool false), (3, vP b3 0), (7, vS gt (n + 1) (n + 1)), (8, vS go n n), (9, vI (i : Int))] ∧ kk0 = n - i ∧ (i ≤ n) ∧ (∀ i9, TbOk s y l m ww0 (T9 i9)) ∧ HP Tr w ww0 [.cel b3 #[vI s, vI y, vI l, vI m] 23, .cel gt (aR (n + 1) T9) 49, .cel go (brow n (mkF (tabs T9) l i)) 4]) (n) [(1, .slice p n cap), (2, .bool false), (3, vP b3 0), (7, vS gt (n + 1) (n + 1)), (8, vS go n n), (9, vI 0)] ⟨rfl, rfl, rfl, rfl, rfl, rfl, trivial⟩ ⟨0, rfl, rfl, Nat.zero_le _, (fun i9 => (hT8 i9).below hal9), (by rw [show brow n (mkF (tabs T9) l 0) = brow n (fun _ => false) from brow_congr (fun j _ => mkF_0 (tabs T9) l j)]; exact hH10)⟩ ?_
 rintro kk l w14 ⟨i, rfl, hkk, hi, hTn, hH15⟩ K13 hK13
 have hInv := hH15
 have hB9 := HP.ownB (A := [.cel b3 #[vI s, vI y, vI l, vI m] 23, .cel gt (aR (n + 1) T9) 49]) hInv
 have hH16 := HP.startB hB9
 refine WC.seq fun K17 hK17 => WC.seq fun K18 hK18 => WC.region (WL.z (vI (i : Int)) 17 (WL.z (.slice p n cap) 18 (WL.z (vI (n : Int)) 19 ?_)))
 by_cases hlt : (i : Int) < (n : Int)
 ·
  refine WL.y (.bool true) 20 (x_lss rfl rfl rfl (dT (hlt))) (WL.k hK18 ?_)
  refine WC.yes rfl ?_
  refine WC.skip (WQ.then (hK17 _ _ _ (WC.seq fun K19 hK19 => WC.block ?_)))
  have hx9 := line_of hg.2.2.1 (show i ≤ 999 by omega)
  refine WC.confG (γ := Unit) [(20, .bool true), (19, vI (n : Int)), (18, .slice p n cap), (17, vI (i : Int)), (1, .slice p n cap), (2, .bool false), (3, vP b3 0), (7, vS gt (n + 1) (n + 1)), (8, vS go n n), (9, vI (i : Int))] (fun gy => [vS go n n, vI (i : Int), vS gt (n + 1) (n + 1), vI (i : Int), vP gt i, .slice ((T9 i).q) ((T9 i).t.length) ((T9 i).c), vI (i : Int), vP b3 2, vI l, vI ((i : Int) / l), vI ((ageT (T9 i).t ((i : Int) / l)).getD (-1)), .bool ((ageT (T9 i).t ((i : Int) / l)).isSome), vP go i, undef]) (fun gy D wz => HP (Out [.cel go (brow n (mkF (tabs T9) l i)) 4]) w14 wz [(bif D 13 then Ent.cel go (brow n (upB (mkF (tabs T9) l i) i ((ageT (T9 i).t ((i : Int) / l)).isSome))) 4 else Ent.cel go (brow n (mkF (tabs T9) l i)) 4)]) () (by kernel_rfl) ⟨rfl, rfl, rfl, rfl, rfl, rfl, rfl, rfl, rfl, rfl, trivial⟩ (by kernel_rfl) (by kernel_rfl) (by kernel_rfl) (fun _ => rfl) (by kernel_rfl) (HP.drew hH16) ?_ ?_
  ·
   refine AllOk.cons ?o0 (AllOk.cons ?o1 (AllOk.cons ?o2 (AllOk.cons ?o3 (AllOk.cons ?o4 (AllOk.cons ?o5 (AllOk.cons ?o6 (AllOk.cons ?o7 (AllOk.cons ?o8 (AllOk.cons ?o9 (AllOk.cons ?o10 (AllOk.cons ?o11 (AllOk.cons ?o12 (AllOk.cons ?o13 (AllOk.nil _))))))))))))))
   case o0 =>
    intro gy D wz hDi hdep hclo hW
    exact cfv gy wz (by kernel_rfl) hW
   case o1 =>
    intro gy D wz hDi hdep hclo hW
    exact cfv gy wz (by kernel_rfl) hW
   case o2 =>
    intro gy D wz hDi hdep hclo hW
    exact cfv gy wz (by kernel_rfl) hW
   case o3 =>
    intro gy D wz hDi hdep hclo hW
    exact cfv gy wz (by kernel_rfl) hW
   case o4 =>
    intro gy D wz hDi hdep hclo hW
    exact cfv gy wz (x_ix (b := gt) (off := 0) i i Try.underlying119 sz49) hW
   case o5 =>
    intro gy D wz hDi hdep hclo hW
    exact cfv gy wz (x_load rfl rfl Try.underlying49 rfl (HP.old hW (out1 (ne_of hInv 1 2 (by decide) rfl rfl rfl rfl)) (HP.cell hInv 1 rfl (aR_get (by omega))))) hW
   case o6 =>
    intro gy D wz hDi hdep hclo hW
    exact cfv gy wz (by kernel_rfl) hW
   case o7 =>
    intro gy D wz hDi hdep hclo hW
    exact cfv gy wz (by kernel_rfl) hW
   case o8 =>
    intro gy D wz hDi hdep hclo hW
    exact cfv gy wz (x_load rfl rfl Try.underlying3 rfl (HP.old hW (out1 (ne_of hInv 0 2 (by decide) rfl rfl rfl rfl)) (HP.cell (off := 2) hInv 0 rfl rfl))) hW
   case o9 =>
    intro gy D wz hDi hdep hclo hW
    exact cfv gy wz (x_quo rfl rfl rfl (by omega) (tdiv_pos (by omega) (by omega)) (by have := hx9; omega) (by have := hx9; omega)) hW
   case o10 =>
    intro gy D wz hDi hdep hclo hW
    have hW2 := hW
    exact .inl ⟨rfl, rfl, .inr (.inr ⟨69, #[.slice ((T9 i).q) ((T9 i).t.length) ((T9 i).c), vI ((i : Int) / l)], by kernel_rfl, (rAge_any (T9 i).q (T9 i).t (T9 i).c _ (keepT (hTn i) (fun b o x hc => out_bool hB9 hc) hW).inn ((i : Int) / l) (by have := (hTn i).ok.len; omega)).mono fun e w2 h => ⟨gy, fun _ _ => rfl, h.1, HP.call hW h.2⟩⟩)⟩
   case o11 =>
    intro gy D wz hDi hdep hclo hW
    exact cfv gy wz (x_geq rfl rfl rfl (is_of (hTn i).ok _)) hW
   case o12 =>
    intro gy D wz hDi hdep hclo hW
    exact cfv gy wz (x_ix (i) (i) Try.underlying39 sz4) hW
   case o13 =>
    intro gy D wz hDi hdep hclo hW
    have hW9 := hW
    simp only [hDi, cond_false] at hW9
    have h4 := HP.set (off := i) (v := .bool ((ageT (T9 i).t ((i : Int) / l)).isSome)) hW9 0 rfl
    rw [brow_set] at h4
    exact .inl ⟨rfl, rfl, .inr (.inl ⟨_, x_store rfl rfl rfl sz4 rfl (HP.cell hW9 0 rfl (brow_get (by omega) rfl)) (HP.free hW9 0 rfl), rfl, h4⟩)⟩
  rintro gy D w20 hall hH21
  simp only [hall 13 (by kernel_rfl), cond_true, List.append_nil, List.nil_append, List.cons_append] at hH21
  clear hall
  refine WQ.sb [(1, .slice p n cap), (2, .bool false), (3, vP b3 0), (7, vS gt (n + 1) (n + 1)), (8, vS go n n), (9, vI (i : Int)), (20, .bool true)] (WQ.inNormal (WQ.then (hK19 _ _ _ (WC.region (WL.z (vI (i : Int)) 21 (WL.y (vI ((i + 1 : Nat) : Int)) 22 (x_ad (((i + 1 : Nat) : Int))) (WL.z (vI ((i + 1 : Nat) : Int)) 9 (WL.nil ?_))))))))
  have hnb : brow n (upB (mkF (tabs T9) l i) i (ageT (T9 i).t ((i : Int) / l)).isSome) = brow n (mkF (tabs T9) l (i + 1)) := brow_congr (fun j hj => mkF_step (tabs T9) l i j)
  have hF9 := hH21
  rw [hnb] at hF9
  refine WQ.sb [(1, .slice p n cap), (2, .bool false), (3, vP b3 0), (7, vS gt (n + 1) (n + 1)), (8, vS go n n), (9, vI ((i + 1 : Nat) : Int))] ?_
  refine WQ.then (hK13 _ _ _ (by omega) ⟨i + 1, rfl, rfl, by omega, (fun i9 => keepT (hTn i9) (fun b o x hc => out_bool hB9 hc) hF9), (HP.exch (A := [.cel b3 #[vI s, vI y, vI l, vI m] 23, .cel gt (aR (n + 1) T9) 49]) hInv hF9)⟩)
 ·
  refine WL.y (.bool false) 20 (x_lss rfl rfl rfl (dF (hlt))) (WL.k hK18 ?_)
  refine WC.no rfl ?_
  refine WC.exit (WQ.thenExit (WQ.thenExit (WQ.inExit (WQ.then (hK11 _ _ _ (WC.seq fun K22 hK22 => WC.region (WL.z (vS go n n) 36 (WL.z (vS go n n) 6 (WL.nil (WQ.then ?_))))))))))
  refine hK22 _ _ _ (WC.ret ?_)
  refine WQ.ret1 6 rfl rfl ?_
  rw [brow_congr (mkF_at (by omega) hTe (f := mk0 s y l c n (trC c n)) (fun _ => rfl))] at hInv
  exact ⟨go, rfl, HP.drop (HP.drop hInv 1) 0⟩
def plC (c A B : Nat → Int) (n : Nat) : Bool := decide (Ec.chk c A B false n = 0) && !farB c n
theorem okC_pl (s y l m : Int) (c A B : Nat → Int) (n : Nat) : okC s y l m c A B n = (vG s y l m && plC c A B n) := rfl
theorem Plain_any (p : Option Addr) (n cap : Nat) (c A B : Nat → Int) (w : World) (hIn : Ec.InC w p n c A B) (hn : n ≤ 400) :
  Calls Try.prog 28 #[.slice p n cap] w fun e w' => e = .returned (.bool (plC c A B n)) ∧ Below w.heap.size w w' := by
 refine calls_of Try.func28 rfl (m := 27) rfl [(0, .slice p n cap)] (Fr_enter [.slice p n cap] 27 (Nat.le_of_ble_eq_true rfl)) ?_
 have hH1 : HP Tr w w [] := HP.refl w
 refine WC.seq fun K2 hK2 => WC.region (WL.z (.bool false) 2 (WL.k hK2 (WC.seq fun K3 hK3 => WC.seq fun K4 hK4 => WC.region (WL.z (.slice p n cap) 4 ?_))))
 refine WL.c 54 #[.slice p n cap, .bool false] 5 ?_
 refine (Ec.rCheck_any p n cap c A B false _ (hIn.below (HP.below hH1)) hn).mono ?_
 rintro e w5 ⟨rfl, hb6⟩
 refine ⟨_, rfl, ?_⟩
 have hH7 := HP.call hH1 hb6
 by_cases hck9 : (Ec.chk c A B false n) ≠ 0
 ·
  have hck : ¬ Ec.chk c A B false n = 0 := hck9
  refine WL.y (.bool true) 6 (x_neq rfl rfl rfl (dT (hck9))) (WL.k hK4 ?_)
  refine WC.yes rfl ?_
  refine WC.seq fun K8 hK8 => WC.region (WL.z (.bool false) 2 (WL.k hK8 (WC.ret ?_)))
  refine WQ.thenRet ?_
  refine WQ.ret1 2 rfl rfl ?_
  exact ⟨by rw [show plC c A B n = false from by unfold plC; rw [decide_eq_false hck]; rfl], HP.below hH7⟩
 ·
  have hck : Ec.chk c A B false n = 0 := Decidable.not_not.1 hck9
  refine WL.y (.bool false) 6 (x_neq rfl rfl rfl (dF (hck9))) (WL.k hK4 ?_)
  refine WC.no rfl ?_
  refine WC.skip (WQ.then (hK3 _ _ _ (WC.seq fun K9 hK9 => WC.seq fun K10 hK10 => WC.region (WL.z (vI 0) 3 (WL.k hK10 (WC.block ?_))))))
  refine WC.loop (fun kk0 ll0 ww0 => ∃ (i : Nat), ll0 = [(0, .slice p n cap), (3, vI (i : Int))] ∧ kk0 = n - i ∧ (i ≤ n) ∧ (∀ j, j < i → farO (c j) = false) ∧ HP Tr w ww0 []) (n) [(0, .slice p n cap), (3, vI 0)] ⟨rfl, rfl, trivial⟩ ⟨0, rfl, rfl, Nat.zero_le _, (fun j hj => by omega), hH7⟩ ?_
  rintro kk l w12 ⟨i, rfl, hkk, hi, hall, hH13⟩ K11 hK11
  refine WC.seq fun K14 hK14 => WC.seq fun K15 hK15 => WC.region (WL.z (vI (i : Int)) 7 (WL.z (.slice p n cap) 8 (WL.z (vI (n : Int)) 9 ?_)))
  by_cases hlt : (i : Int) < (n : Int)
  ·
   refine WL.y (.bool true) 10 (x_lss rfl rfl rfl (dT (hlt))) (WL.k hK15 ?_)
   refine WC.yes rfl ?_
   refine WC.skip (WQ.then (hK14 _ _ _ (WC.seq fun K16 hK16 => WC.block (WC.seq fun K17 hK17 => ?_))))
   obtain ⟨bb, oo, rfl, hrow⟩ := hIn (by omega)
   refine WC.region (WL.z (.slice (some ⟨bb, oo, none⟩) n cap) 13 (WL.z (vI (i : Int)) 14 (WL.y (vP bb (oo + i * 3)) 15 (x_ix (i) (oo + i * 3) Try.underlying42 sz75) (WL.z (vP bb (oo + i * 3)) 16 (WL.y (vI (c i)) 17 (x_load rfl rfl Try.underlying3 rfl ((HP.oldRange hH13 trivial (hrow i (by omega))) 0 _ rfl)) ?_)))))
   by_cases h25 : c i = 25
   ·
    refine WL.y (.bool true) 18 (x_eql rfl rfl rfl (dT (h25))) (WL.z (.bool true) 19 (WL.p 20 (WL.p 21 (WL.p 22 (WL.p 23 (WL.p 24 (WL.p 25 (WL.z (.bool true) 26 (WL.k hK17 ?_)))))))))
    refine WC.sb [(0, .slice (some ⟨bb, oo, none⟩) n cap), (3, vI (i : Int)), (10, .bool true), (26, .bool true)] ?_
    refine WC.yes rfl ?_
    refine WC.seq fun K18 hK18 => WC.region (WL.z (.bool false) 2 (WL.k hK18 (WC.ret ?_)))
    refine WQ.inRet ?_
    refine WQ.thenRet ?_
    refine WQ.thenRet ?_
    refine WQ.inRet ?_
    refine WQ.thenRet ?_
    refine WQ.ret1 2 rfl rfl ?_
    exact ⟨by rw [show plC c A B n = false from by unfold plC; rw [farB_yes (show i < n by omega) (by unfold farO; simp [h25])]; simp], HP.below hH13⟩
   ·
    refine WL.y (.bool false) 18 (x_eql rfl rfl rfl (dF (h25))) (WL.z (.bool false) 19 (WL.z (.slice (some ⟨bb, oo, none⟩) n cap) 20 (WL.z (vI (i : Int)) 21 (WL.y (vP bb (oo + i * 3)) 22 (x_ix (i) (oo + i * 3) Try.underlying42 sz75) (WL.z (vP bb (oo + i * 3)) 23 (WL.y (vI (c i)) 24 (x_load rfl rfl Try.underlying3 rfl ((HP.oldRange hH13 trivial (hrow i (by omega))) 0 _ rfl)) ?_))))))
    by_cases h26 : c i = 26
    ·
     refine WL.y (.bool true) 25 (x_eql rfl rfl rfl (dT (h26))) (WL.z (.bool true) 26 (WL.k hK17 (WC.sb [(0, .slice (some ⟨bb, oo, none⟩) n cap), (3, vI (i : Int)), (10, .bool true), (26, .bool true)] ?_)))
     refine WC.yes rfl ?_
     refine WC.seq fun K19 hK19 => WC.region (WL.z (.bool false) 2 (WL.k hK19 (WC.ret ?_)))
     refine WQ.inRet ?_
     refine WQ.thenRet ?_
     refine WQ.thenRet ?_
     refine WQ.inRet ?_
     refine WQ.thenRet ?_
     refine WQ.ret1 2 rfl rfl ?_
     exact ⟨by rw [show plC c A B n = false from by unfold plC; rw [farB_yes (show i < n by omega) (by unfold farO; simp [h26])]; simp], HP.below hH13⟩
    ·
     refine WL.y (.bool false) 25 (x_eql rfl rfl rfl (dF (h26))) (WL.z (.bool false) 26 (WL.k hK17 (WC.sb [(0, .slice (some ⟨bb, oo, none⟩) n cap), (3, vI (i : Int)), (10, .bool true), (26, .bool false)] ?_)))
     refine WC.no rfl ?_
     refine WC.skip (WQ.inNormal (WQ.then (hK16 _ _ _ (WC.region (WL.z (vI (i : Int)) 11 (WL.y (vI ((i + 1 : Nat) : Int)) 12 (x_ad (((i + 1 : Nat) : Int))) (WL.z (vI ((i + 1 : Nat) : Int)) 3 (WL.nil (WQ.sb [(0, .slice (some ⟨bb, oo, none⟩) n cap), (3, vI ((i + 1 : Nat) : Int))] ?_)))))))))
     refine WQ.then (hK11 _ _ _ (by omega) ⟨i + 1, rfl, rfl, by omega, (fun j hj => by
            by_cases q : j = i
            · subst q; unfold farO; rw [decide_eq_false h25, decide_eq_false h26]; rfl
            · exact hall j (by omega)), hH13⟩)
  ·
   refine WL.y (.bool false) 10 (x_lss rfl rfl rfl (dF (hlt))) (WL.k hK15 ?_)
   refine WC.no rfl ?_
   refine WC.exit (WQ.thenExit (WQ.thenExit (WQ.inExit (WQ.then (hK9 _ _ _ (WC.seq fun K20 hK20 => WC.region (WL.z (.bool true) 2 (WL.k hK20 ?_))))))))
   refine WC.ret ?_
   refine WQ.ret1 2 rfl rfl ?_
   exact ⟨by rw [show plC c A B n = true from by unfold plC; rw [farB_no (fun j hj => hall j (by omega)), decide_eq_true hck]; rfl], HP.below hH13⟩
theorem rValid_at {s y l m : Int} {r : Bool} (h : vG s y l m = r) (w : World) : Calls Try.prog 23 #[.agg #[vI s, vI y, vI l, vI m]] w fun e w' => e = .returned (.bool r) ∧ Below w.heap.size w w' := h ▸ rValid_any s y l m w
theorem Plain_at {c A B : Nat → Int} {n : Nat} {r : Bool} (h : plC c A B n = r) (p : Option Addr) (cap : Nat) (w : World) (hIn : Ec.InC w p n c A B) (hn : n ≤ 400) : Calls Try.prog 28 #[.slice p n cap] w fun e w' => e = .returned (.bool r) ∧ Below w.heap.size w w' := h ▸ Plain_any p n cap c A B w hIn hn
theorem rMust_any (s y l m : Int) (p : Option Addr) (n cap : Nat) (c A B : Nat → Int) (w : World) (hIn : Ec.InC w p n c A B) (hn : n ≤ 400) :
  Calls Try.prog 52 #[.agg #[vI s, vI y, vI l, vI m], .slice p n cap] w (MarkR0 s y l m c A B n (trC c n) w) := by
 refine calls_of Try.func52 rfl (m := 17) rfl [(0, .agg #[vI s, vI y, vI l, vI m]), (1, .slice p n cap)] (Fr_enter [.agg #[vI s, vI y, vI l, vI m], .slice p n cap] 17 (Nat.le_of_ble_eq_true rfl)) ?_
 have hH1 : HP Tr w w [] := HP.refl w
 refine WC.seq fun K2 hK2 => WC.region ?_
 refine WL.alloc (c := #[vI s, vI y, vI l, vI m]) (T := 23) hH1 2 rfl (by decide) rfl rfl (fun b2 => vP b2 0) (by kernel_rfl) (fun b2 w3 hw3 => ?_)
 have hH4 : HP Tr w w3 [.cel b2 #[vI s, vI y, vI l, vI m] 23] := hw3.2
 have nb2 := hw3.1
 clear hw3
 refine WL.z (.slice none 0 0) 4 (WL.z (vI 0) 5 (WL.k hK2 (WC.seq fun K5 hK5 => WC.seq fun K6 hK6 => WC.region (WL.y (.agg #[vI s, vI y, vI l, vI m]) 6 (x_loadS (cs := [vI s, vI y, vI l, vI m]) rfl rfl Try.underlying23 rfl sz23 (HP.range hH4 0 rfl rfl)) ?_))))
 rcases Bool.eq_false_or_eq_true (vG s y l m) with hg | hg
 ·
  refine WL.c 23 #[.agg #[vI s, vI y, vI l, vI m]] 7 ?_
  refine (rValid_at hg _).mono ?_
  rintro e w7 ⟨rfl, hb8⟩
  refine ⟨_, rfl, ?_⟩
  have hH9 := HP.call hH4 hb8
  refine WL.z (.bool false) 8 (WL.z (.bool false) 9 (WL.z (.slice p n cap) 10 ?_))
  rcases Bool.eq_false_or_eq_true (plC c A B n) with hpl | hpl
  ·
   refine WL.c 28 #[.slice p n cap] 11 ?_
   refine (Plain_at hpl p cap _ (hIn.below (HP.below hH9)) hn).mono ?_
   rintro e w10 ⟨rfl, hb11⟩
   refine ⟨_, rfl, ?_⟩
   have hH12 := HP.call hH9 hb11
   refine WL.z (.bool false) 12 (WL.z (.bool false) 13 (WL.k hK6 (WC.sb [(0, .agg #[vI s, vI y, vI l, vI m]), (1, .slice p n cap), (2, vP b2 0), (4, .slice none 0 0), (5, vI 0), (13, .bool false)] ?_)))
   refine WC.no rfl ?_
   refine WC.skip (WQ.then (hK5 _ _ _ (WC.seq fun K13 hK13 => WC.region (WL.y (.agg #[vI s, vI y, vI l, vI m]) 14 (x_loadS (cs := [vI s, vI y, vI l, vI m]) rfl rfl Try.underlying23 rfl sz23 (HP.range hH12 0 rfl rfl)) (WL.z (.slice p n cap) 15 ?_)))))
   have hc0 : Ec.chk c A B false n = 0 := by unfold plC at hpl; simp at hpl; exact hpl.1
   refine WL.c 76 #[.agg #[vI s, vI y, vI l, vI m], .slice p n cap, .bool false] 16 ?_
   refine (marked0_any s y l m p n cap c A B _ (hIn.below (HP.below hH12)) hg hc0).mono ?_
   rintro e w14 ⟨go, rfl, hb15⟩
   refine ⟨_, rfl, ?_⟩
   have hH16 : HP Tr w _ [.cel b2 #[vI s, vI y, vI l, vI m] 23, .cel go (brow n (mk0 s y l c n (trC c n))) 4] := HP.trans hH12 hb15
   refine WL.z (vS go n n) 4 (WL.z (vI 0) 5 (WL.k hK13 (WC.ret ?_)))
   refine WQ.ret2 4 5 rfl rfl rfl ?_
   exact .inr ⟨by rw [okC_pl, hg, hpl]; rfl, go, rfl, HP.drop hH16 0⟩
  ·
   refine WL.c 28 #[.slice p n cap] 11 ?_
   refine (Plain_at hpl p cap _ (hIn.below (HP.below hH9)) hn).mono ?_
   rintro e w17 ⟨rfl, hb18⟩
   refine ⟨_, rfl, ?_⟩
   have hH19 := HP.call hH9 hb18
   refine WL.z (.bool true) 12 (WL.z (.bool true) 13 (WL.k hK6 (WC.sb [(0, .agg #[vI s, vI y, vI l, vI m]), (1, .slice p n cap), (2, vP b2 0), (4, .slice none 0 0), (5, vI 0), (13, .bool true)] ?_)))
   refine WC.yes rfl ?_
   refine WC.seq fun K20 hK20 => WC.region (WL.z (.slice none 0 0) 4 (WL.z (vI 1) 5 (WL.k hK20 (WC.ret ?_))))
   refine WQ.thenRet ?_
   refine WQ.ret2 4 5 rfl rfl rfl ?_
   exact .inl ⟨by rw [okC_pl, hg, hpl]; rfl, rfl, HP.below hH19⟩
 ·
  refine WL.c 23 #[.agg #[vI s, vI y, vI l, vI m]] 7 ?_
  refine (rValid_at hg _).mono ?_
  rintro e w21 ⟨rfl, hb22⟩
  refine ⟨_, rfl, ?_⟩
  have hH23 := HP.call hH4 hb22
  refine WL.z (.bool true) 8 (WL.z (.bool true) 9 (WL.p 10 (WL.p 11 (WL.p 12 (WL.z (.bool true) 13 (WL.k hK6 (WC.sb [(0, .agg #[vI s, vI y, vI l, vI m]), (1, .slice p n cap), (2, vP b2 0), (4, .slice none 0 0), (5, vI 0), (13, .bool true)] ?_)))))))
  refine WC.yes rfl ?_
  refine WC.seq fun K24 hK24 => WC.region (WL.z (.slice none 0 0) 4 (WL.z (vI 1) 5 (WL.k hK24 (WC.ret ?_))))
  refine WQ.thenRet ?_
  refine WQ.ret2 4 5 rfl rfl rfl ?_
  exact .inl ⟨by rw [okC_pl, hg]; rfl, rfl, HP.below hH23⟩
end Ca
end Go.Proofs.Ytmjnakhpekbenaa
namespace Go.Proofs.Ytmjnakhpekbenaa
open Go.RowKit Fw
namespace Ca
noncomputable def penU (s y l m : Int) (c A B : Nat → Int) (n : Nat) : Int := if okC s y l m c A B n = true then penV s y l m c A n else 0
noncomputable def relU (s y l m : Int) (c A B : Nat → Int) (n : Nat) : Int := if okC s y l m c A B n = true then m * (lnC l (mk0 s y l c n (trC c n)) n 1000 : Int) else 0
def errU (s y l m : Int) (c A B : Nat → Int) (n : Nat) : Int := if okC s y l m c A B n = true then 0 else 1
theorem uni {P : Program} {f : Nat} {args : Array Value} {w : World} {b : Bool} {x : Int} (h : Calls P f args w fun e w' => ((b = false ∧ e = .returned (.tuple #[vI 0, vI 1])) ∨ (b = true ∧ e = .returned (.tuple #[vI x, vI 0]))) ∧ Below w.heap.size w w') :
    Calls P f args w fun e w' => e = .returned (.tuple #[vI (if b = true then x else 0), vI (if b = true then 0 else 1)]) ∧ Below w.heap.size w w' := h.mono fun e w' h => by
  obtain ⟨⟨h1, h2⟩ | ⟨h1, h2⟩, hb⟩ := h
  · subst h1; exact ⟨h2, hb⟩
  · subst h1; exact ⟨h2, hb⟩
theorem PenaltyU (s y l m : Int) (p : Option Addr) (n cap : Nat) (c A B : Nat → Int) (w : World) (hIn : Ec.InC w p n c A B) (hn : n ≤ 400) :
    Calls Try.prog 24 #[.agg #[vI s, vI y, vI l, vI m], .slice p n cap] w fun e w' => e = .returned (.tuple #[vI (penU s y l m c A B n), vI (errU s y l m c A B n)]) ∧ Below w.heap.size w w' := uni (Penalty_any s y l m p n cap c A B w hIn hn)
theorem rPenaltyU (s y l m : Int) (p : Option Addr) (n cap : Nat) (c A B : Nat → Int) (w : World) (hIn : Ec.InC w p n c A B) (hn : n ≤ 400) :
    Calls Try.prog 25 #[.agg #[vI s, vI y, vI l, vI m], .slice p n cap] w fun e w' => e = .returned (.tuple #[vI (penU s y l m c A B n), vI (errU s y l m c A B n)]) ∧ Below w.heap.size w w' := uni (rPenalty_any s y l m p n cap c A B w hIn hn (fun w' h => rMust_any s y l m p n cap c A B w' h hn))
theorem ReloadU (s y l m : Int) (p : Option Addr) (n cap : Nat) (c A B : Nat → Int) (w : World) (hIn : Ec.InC w p n c A B) (hn : n ≤ 400) :
    Calls Try.prog 26 #[.agg #[vI s, vI y, vI l, vI m], .slice p n cap] w fun e w' => e = .returned (.tuple #[vI (relU s y l m c A B n), vI (errU s y l m c A B n)]) ∧ Below w.heap.size w w' := uni (Reload_any s y l m p n cap c A B w hIn hn)
theorem rReloadU (s y l m : Int) (p : Option Addr) (n cap : Nat) (c A B : Nat → Int) (w : World) (hIn : Ec.InC w p n c A B) (hn : n ≤ 400) :
    Calls Try.prog 27 #[.agg #[vI s, vI y, vI l, vI m], .slice p n cap] w fun e w' => e = .returned (.tuple #[vI (relU s y l m c A B n), vI (errU s y l m c A B n)]) ∧ Below w.heap.size w w' := uni (rReload_any s y l m p n cap c A B w hIn hn (fun w' h => rMust_any s y l m p n cap c A B w' h hn))
end Ca
end Go.Proofs.Ytmjnakhpekbenaa
