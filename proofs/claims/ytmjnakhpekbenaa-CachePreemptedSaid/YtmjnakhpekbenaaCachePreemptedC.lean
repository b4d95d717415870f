/- What the proof of CachePreempted stands on, part 3 of 5. -/
import Derived.BigQuiet
import Derived.BigRegion
import Derived.CallsIn
import Derived.ChangeAlike
import Derived.ChangeArms
import Derived.ChangeKeysEq
import Derived.ChangeSlices
import Derived.Deep.AppendLies
import Derived.Deep.CutRange
import Derived.Deep.DeepCutAuto
import Derived.Deep.Heap
import Derived.Deep.LoopGhost
import Derived.Deep.MidRow
import Derived.Deep.QuietTactic
import Derived.Deep.Slices
import Derived.Great.BuildSlice
import Derived.Great.Walk
import Derived.Ground.Names2Prog
import Derived.Ground.SlgnProg
import Derived.Ground.SlsfProg
import Derived.Handy
import Derived.KernelRfl
import Derived.Laws.AppendOwn
import Derived.Laws.AppendOwnNone
import Derived.Laws.CopyRow
import Derived.Laws.MakeOwn
import Derived.Laws.Rows
import Derived.Laws.StructEq
import Derived.Lib.QuietBelow
import Derived.Lib.SliceRun
import Derived.OpenShut
import Derived.Orders
import Derived.OrdersIn
import Derived.RangeFuncFrom
import Derived.RangeFuncLeaves
import Derived.RangeFuncWrites
import Derived.RegionTactic
import Derived.Shelf.SlSortCmp.HeapSortK
import Derived.Shelf.SlSortCmp.InsertionK
import Derived.Shelf.SlSortCmp.MedianK
import Derived.Shelf.SlSortCmp.NoneTotal
import Derived.Shelf.SlSortCmp.PartialInsertionK
import Derived.Shelf.SlSortCmp.PartitionEqualK
import Derived.Shelf.SlSortCmp.PartitionK
import Derived.Shelf.SlSortCmp.PdqK
import Derived.Shelf.SlSortCmp.PivotK
import Derived.Shelf.SlSortCmp.ReverseRangeK
import Derived.Shelf.SlSortCmp.SiftDownK
import Derived.Shelf.Slices.Cells
import Derived.Shelf.Slices.Clone
import Derived.Shelf.Slices.Delete
import Derived.Shelf.Slices.Empties
import Derived.Shelf.Slices.SearchI
import Derived.Shelf.Slices.Turned
import Derived.Shelf.SlicesE.Clone
import Derived.Shelf.SlicesE.Delete
import Derived.Shelf.SlicesQ.Reverse
import Derived.Shelf.Small.Bits
import Derived.Shelf.Small.Wraps
import Derived.Shelf.Strconv.Itoa0
import Derived.Sort.AssemblyPlain
import Derived.Still
import Derived.StillTail
import Derived.TacticsIn
import Derived.Test.YtmjnakhpekbenaaProg
import Derived.WalkKit
import Derived.WalkLawsBesides
import Derived.Test.YtmjnakhpekbenaaCachePreemptedB
set_option linter.unusedVariables false
set_option linter.unusedSimpArgs false
namespace Go.Proofs.Ytmjnakhpekbenaa
set_option maxRecDepth 20000
set_option maxHeartbeats 4000000
open Go.RowKit Fw
namespace Ca
def jm1 (u : List T2) (p : T2) : List T2 := match ageT u p.1 with
  | some a => [(p.1, max p.2 a)]
  | none => []
def jM (t u : List T2) : List T2 := t.flatMap (jm1 u)
theorem jM_drop {t u : List T2} {i : Nat} (hi : i < t.length) : jM (t.drop i) u = jm1 u (lnT t i, agT t i) ++ jM (t.drop (i + 1)) u := by rw [drop_t hi]; rfl
theorem jm_yes {u : List T2} {x a c : Int} (h : ageT u x = some c) : jm1 u (x, a) = [(x, max a c)] := by unfold jm1; rw [h]
theorem jm_no {u : List T2} {x a : Int} (h : ageT u x = none) : jm1 u (x, a) = [] := by unfold jm1; rw [h]
theorem find_none {u : List T2} {x : Int} {k : Nat} (hs : sT u) (hk1 : k ≤ u.length) (hk2 : 0 < k → lnT u (k - 1) < x) (hk3 : k < u.length → x ≤ lnT u k) (hq : ¬ (k < u.length ∧ lnT u k = x)) : ageT u x = none :=
  age_no hs hk2 (fun h => by have := hk3 h; by_cases e : lnT u k = x; exact absurd ⟨h, e⟩ hq; omega) hk1
theorem joinMust_any (p p2 : Option Addr) (t u : List T2) (cp cp2 : Nat) (w : World) (hT : InT w p t) (hU : InT w p2 u) (hn : t.length ≤ 100000) (hn2 : u.length ≤ 100000) (hs : sT u) :
  Calls Try.prog 63 #[.slice p t.length cp, .slice p2 u.length cp2] w fun e w' => ∃ pv cp', e = .returned (.slice pv (jM t u).length cp') ∧ HP Tr w w' [rowT pv (jM t u).length cp' (jM t u)] := by
 refine calls_of Try.func63 rfl (m := 41) rfl [(0, .slice p t.length cp), (1, .slice p2 u.length cp2)] (Fr_enter [.slice p t.length cp, .slice p2 u.length cp2] 41 (Nat.le_of_ble_eq_true rfl)) ?_
 have hH1 : HP Tr w w [] := HP.refl w
 refine WC.seq fun K2 hK2 => WC.region (WL.z (.slice none 0 0) 4 (WL.k hK2 (WC.seq fun K3 hK3 => WC.region ?_)))
 refine WL.alloc (c := #[]) (T := 83) hH1 10 rfl (by decide) rfl rfl (fun b10 => vS b10 0 0) (by kernel_rfl) (fun b10 w4 hw4 => ?_)
 have hH5 : HP Tr w w4 [.cel b10 #[] 83] := hw4.2
 have nb10 := hw4.1
 clear hw4
 refine WL.z (vS b10 0 0) 5 (WL.k hK3 (WC.seq fun K6 hK6 => WC.seq fun K7 hK7 => ?_))
 have hO9 := HP.celToOwn hH5 0 (k := 0) (cap := 0) (s := 2) rfl (Nat.le_refl _) (by decide) rfl
 have hH8 : HP Tr w _ [rowT (some ⟨b10, 0, none⟩) ([] : List T2).length 0 ([] : List T2)] := HP.eq hO9 rfl
 refine WC.region (WL.z (.slice p t.length cp) 11 (WL.z (vI (t.length : Int)) 12 (WL.z (vI 0) 13 (WL.k hK7 (WC.block ?_)))))
 refine WC.loop (fun kk0 ll0 ww0 => ∃ (i : Nat) (A : List T2) (pv : Option Addr) (cp3 : Nat), ll0 = [(0, .slice p t.length cp), (1, .slice p2 u.length cp2), (5, .slice pv A.length cp3), (11, .slice p t.length cp), (12, vI (t.length : Int)), (13, vI (i : Int))] ∧ kk0 = t.length - i ∧ (i ≤ t.length) ∧ (A ++ jM (t.drop i) u = jM t u) ∧ (A.length ≤ i) ∧ HP Tr w ww0 [rowT pv A.length cp3 A]) (t.length) [(0, .slice p t.length cp), (1, .slice p2 u.length cp2), (5, .slice (some ⟨b10, 0, none⟩) 0 0), (11, .slice p t.length cp), (12, vI (t.length : Int)), (13, vI 0)] ⟨rfl, rfl, rfl, rfl, rfl, rfl, trivial⟩ ⟨0, [], _, 0, rfl, rfl, Nat.zero_le _, rfl, Nat.zero_le _, hH8⟩ ?_
 rintro kk l w10 ⟨i, A, pv, cp3, rfl, hkk, hi, hA, hAl, hH11⟩ K9 hK9
 refine WC.seq fun K12 hK12 => WC.region ?_
 by_cases h14 : (i : Int) < (t.length : Int)
 ·
  refine WL.y (.bool true) 14 (x_lss rfl rfl rfl (dT (h14))) (WL.k hK12 (WC.seq fun K13 hK13 => ?_))
  refine WC.yes rfl ?_
  refine WC.skip (WQ.then (hK13 _ _ _ (WC.seq fun K14 hK14 => WC.block (WC.seq fun K15 hK15 => ?_))))
  obtain ⟨g, o, rfl, hrow⟩ := hT (by omega)
  refine WC.region (WL.y (vP g (o + i * 2)) 15 (x_ix (i) (o + i * 2) Try.underlying88 sz83) (WL.y (.agg #[vI (lnT t i), vI (agT t i)]) 16 (x_loadS (cs := [vI (lnT t i), vI (agT t i)]) rfl rfl Try.underlying83 rfl sz83 (HP.oldRange hH11 trivial (hrow i (by omega)))) ?_))
  refine WL.alloc (c := #[vI 0, vI 0]) (T := 83) hH11 7 rfl (by decide) rfl rfl (fun b7 => vP b7 0) (by kernel_rfl) (fun b7 w16 hw16 => ?_)
  have hH17 : HP Tr w w16 [rowT pv A.length cp3 A, .cel b7 #[vI 0, vI 0] 83] := hw16.2
  have nb7 := hw16.1
  clear hw16
  refine WL.storeS (H2 := [rowT pv A.length cp3 A, .cel b7 #[vI (lnT t i), vI (agT t i)] 83]) 1 hH17 rfl rfl rfl rfl rfl rfl sz83 rfl (Nat.le_of_ble_eq_true rfl) rfl rfl ?_
  intro w18 hH19
  refine WL.k hK15 (WC.seq fun K20 hK20 => WC.region (WL.z (.slice p2 u.length cp2) 18 (WL.y (vP b7 0) 19 (x_idxArr (0) (0) rfl rfl rfl Try.underlying83 sz3 (by omega) (by omega) (by omega)) (WL.y (vI (lnT t i)) 20 (x_load rfl rfl Try.underlying3 rfl (HP.cell hH19 1 rfl rfl)) ?_))))
  refine WL.c 83 #[.slice p2 u.length cp2, vI (lnT t i)] 21 ?_
  refine (find_any _ u _ _ (hU.below (HP.below hH19)) (lnT t i) (by omega)).mono ?_
  rintro e w21 ⟨k, fb, rfl, hk1, hk2, hk3, hfb, hb22⟩
  refine ⟨_, rfl, ?_⟩
  have hH23 := HP.call hH19 hb22
  refine WL.z (.tuple #[vI (k : Int), .bool fb]) 17 (WL.z (vI (k : Int)) 22 (WL.z (.bool fb) 23 (WL.z (vI (k : Int)) 8 (WL.z (.bool fb) 9 (WL.k hK20 (WC.sb [(0, .slice (some ⟨g, o, none⟩) t.length cp), (1, .slice p2 u.length cp2), (5, .slice pv A.length cp3), (7, vP b7 0), (8, vI (k : Int)), (9, .bool fb), (11, .slice (some ⟨g, o, none⟩) t.length cp), (12, vI (t.length : Int)), (13, vI (i : Int)), (14, .bool true)] (WC.seq fun K24 hK24 => WC.region (WL.z (.bool fb) 24 ?_))))))))
  refine WL.k hK24 ?_
  rcases Bool.eq_false_or_eq_true (fb) with c_fb | c_fb
  ·
   rw [c_fb] at hfb
   have hq := of_decide_eq_true hfb.symm
   have hag : ageT u (lnT t i) = some (agT u k) := by rw [← hq.2, age_at hs hq.1]
   obtain ⟨g2, o2, rfl, hrow2⟩ := hU (by omega)
   refine WC.yes (congrArg (fun b => some (Value.bool b)) c_fb) ?_
   obtain ⟨i0, hi0, hz0, hz1, hz2⟩ := infoT
   refine WC.confH (γ := Nat × Option Addr × Nat × Unit) [(24, .bool fb), (0, .slice (some ⟨g, o, none⟩) t.length cp), (1, .slice (some ⟨g2, o2, none⟩) u.length cp2), (5, .slice pv A.length cp3), (7, vP b7 0), (8, vI (k : Int)), (9, .bool fb), (11, .slice (some ⟨g, o, none⟩) t.length cp), (12, vI (t.length : Int)), (13, vI (i : Int)), (14, .bool true)] (fun gy => [.slice pv A.length cp3, vP b7 0, vI (lnT t i), vP b7 1, vI (agT t i), .slice (some ⟨g2, o2, none⟩) u.length cp2, vI (k : Int), vP g2 (o2 + k * 2), vP g2 (o2 + k * 2 + 1), vI (agT u k), vI (max (agT t i) (agT u k)), .agg #[vI (lnT t i), vI (max (agT t i) (agT u k))], vS gy.1 1 1, .slice gy.2.1 ((A ++ [(lnT t i, max (agT t i) (agT u k))]).length) gy.2.2.1, .slice gy.2.1 ((A ++ [(lnT t i, max (agT t i) (agT u k))]).length) gy.2.2.1]) (fun gy D wz => HP Tr w wz ([(bif D 13 then rowT gy.2.1 (A ++ [(lnT t i, max (agT t i) (agT u k))]).length gy.2.2.1 (A ++ [(lnT t i, max (agT t i) (agT u k))]) else rowT pv A.length cp3 A), .cel b7 #[vI (lnT t i), vI (agT t i)] 83] ++ ((bif D 12 then [Ent.cel gy.1 #[vI (lnT t i), vI (max (agT t i) (agT u k))] 83] else []) ++ []))) (0, none, 0, ()) (by kernel_rfl) ⟨rfl, rfl, rfl, rfl, rfl, rfl, rfl, rfl, rfl, rfl, rfl, trivial⟩ (by kernel_rfl) (by kernel_rfl) (by kernel_rfl) (fun _ => rfl) (by kernel_rfl) (HP.drew hH23) ?_ ?_
   ·
    refine AllOk.cons ?o0 (AllOk.cons ?o1 (AllOk.cons ?o2 (AllOk.cons ?o3 (AllOk.cons ?o4 (AllOk.cons ?o5 (AllOk.cons ?o6 (AllOk.cons ?o7 (AllOk.cons ?o8 (AllOk.cons ?o9 (AllOk.cons ?o10 (AllOk.cons ?o11 (AllOk.cons ?o12 (AllOk.cons ?o13 (AllOk.cons ?o14 (AllOk.nil _)))))))))))))))
    case o0 =>
     intro gy D wz hDi hdep hclo hW
     exact cfv gy wz (by kernel_rfl) hW
    case o1 =>
     intro gy D wz hDi hdep hclo hW
     exact cfv gy wz (x_idxArr (0) (0) rfl rfl rfl Try.underlying83 sz3 (by omega) (by omega) (by omega)) hW
    case o2 =>
     intro gy D wz hDi hdep hclo hW
     exact cfv gy wz (x_load rfl rfl Try.underlying3 rfl (HP.cell hW 1 rfl rfl)) hW
    case o3 =>
     intro gy D wz hDi hdep hclo hW
     exact cfv gy wz (x_idxArr (1) (1) rfl rfl rfl Try.underlying83 sz3 (by omega) (by omega) (by omega)) hW
    case o4 =>
     intro gy D wz hDi hdep hclo hW
     exact cfv gy wz (x_load rfl rfl Try.underlying3 rfl (HP.cell hW 1 rfl rfl)) hW
    case o5 =>
     intro gy D wz hDi hdep hclo hW
     exact cfv gy wz (by kernel_rfl) hW
    case o6 =>
     intro gy D wz hDi hdep hclo hW
     exact cfv gy wz (by kernel_rfl) hW
    case o7 =>
     intro gy D wz hDi hdep hclo hW
     exact cfv gy wz (x_idx (k) (o2 + k * 2) rfl rfl rfl Try.underlying88 sz83 (by omega) (hq.1) (by omega)) hW
    case o8 =>
     intro gy D wz hDi hdep hclo hW
     exact cfv gy wz (x_idxArr (1) (o2 + k * 2 + 1) rfl rfl rfl Try.underlying83 sz3 (by omega) (by omega) (by omega)) hW
    case o9 =>
     intro gy D wz hDi hdep hclo hW
     exact cfv gy wz (x_load rfl rfl Try.underlying3 rfl ((HP.oldRange hW trivial (hrow2 k (by omega))) 1 _ rfl)) hW
    case o10 =>
     intro gy D wz hDi hdep hclo hW
     exact cfv gy wz (x_max (Z := max (agT t i) (agT u k)) (t := 0) rfl rfl rfl (by simp only [Int.max_def]; split <;> split <;> omega)) hW
    case o11 =>
     intro gy D wz hDi hdep hclo hW
     exact cfv gy wz (by kernel_rfl) hW
    case o12 =>
     intro gy D wz hDi hdep hclo hW
     have d13 : D 13 = false := by
      cases h : D 13 with
      | false => rfl
      | true => exact absurd (hclo 13 _ rfl h ⟨12, .data⟩ (by simp) rfl) (by rw [hDi]; exact Bool.false_ne_true)
     have hW2 := hW
     try simp only [d13, hDi, cond_true, cond_false, List.append_nil, List.nil_append, List.cons_append] at hW2
     refine cf_alloc (c := #[vI (lnT t i), vI (max (agT t i) (agT u k))]) (T := 83) hW2 (fun b37 => vS b37 1 1) rfl rfl (by kernel_rfl) ?_
     rintro b37 w3 hA
     refine ⟨⟨b37, gy.2.1, gy.2.2.1, ()⟩, fun j hj => ?_, rfl, ?_⟩
     ·
      match j, hj with
      | 0, hj => rfl
      | 1, hj => rfl
      | 2, hj => rfl
      | 3, hj => rfl
      | 4, hj => rfl
      | 5, hj => rfl
      | 6, hj => rfl
      | 7, hj => rfl
      | 8, hj => rfl
      | 9, hj => rfl
      | 10, hj => rfl
      | 11, hj => rfl
      | 12, hj => rw [hDi] at hj; cases hj
      | 13, hj => rfl
      | 14, hj => rfl
      | j + 15, _ => rfl
     ·
      show HP Tr w w3 ([(bif D 13 then rowT gy.2.1 (A ++ [(lnT t i, max (agT t i) (agT u k))]).length gy.2.2.1 (A ++ [(lnT t i, max (agT t i) (agT u k))]) else rowT pv A.length cp3 A), .cel b7 #[vI (lnT t i), vI (agT t i)] 83] ++ ([Ent.cel b37 #[vI (lnT t i), vI (max (agT t i) (agT u k))] 83] ++ []))
      try simp only [d13, cond_true, cond_false, List.append_nil, List.nil_append, List.cons_append]
      exact hA
    case o13 =>
     intro gy D wz hDi hdep hclo hW
     have d12 : D 12 = true := hdep ⟨12, .data⟩ (by simp) rfl
     have d14 : D 14 = false := by
      cases h : D 14 with
      | false => rfl
      | true => exact absurd (hclo 14 _ rfl h ⟨13, .data⟩ (by simp) rfl) (by rw [hDi]; exact Bool.false_ne_true)
     have hW2 := hW
     try simp only [d12, hDi, cond_true, cond_false, List.append_nil, List.nil_append, List.cons_append] at hW2
     refine cf_append (news := [vI (lnT t i), vI (max (agT t i) (agT u k))]) 0 2 hW2 rfl rfl rfl rfl rfl Try.underlying88 hi0 hz0 hz1 hz2 rfl (by decide) rfl rfl rfl rfl (by simp [Value.oneCell']) (by unfold maxLen; omega) (by omega) ?_
     rintro v7 w3 hA
     obtain ⟨pv7, cp7, rfl⟩ := own_row (HP.get hA 0 rfl)
     have e7 : A.length + 1 = (A ++ [(lnT t i, max (agT t i) (agT u k))]).length := (len1 _ _).symm
     rw [tL_push, e7] at hA
     rw [e7]
     refine ⟨⟨gy.1, pv7, cp7, ()⟩, fun j hj => ?_, rfl, ?_⟩
     ·
      match j, hj with
      | 0, hj => rfl
      | 1, hj => rfl
      | 2, hj => rfl
      | 3, hj => rfl
      | 4, hj => rfl
      | 5, hj => rfl
      | 6, hj => rfl
      | 7, hj => rfl
      | 8, hj => rfl
      | 9, hj => rfl
      | 10, hj => rfl
      | 11, hj => rfl
      | 12, hj => rfl
      | 13, hj => rw [hDi] at hj; cases hj
      | 14, hj => exact absurd hj (by rw [d14]; exact Bool.false_ne_true)
      | j + 15, _ => rfl
     ·
      show HP Tr w w3 ([rowT pv7 (A ++ [(lnT t i, max (agT t i) (agT u k))]).length cp7 (A ++ [(lnT t i, max (agT t i) (agT u k))]), .cel b7 #[vI (lnT t i), vI (agT t i)] 83] ++ ((bif D 12 then [Ent.cel gy.1 #[vI (lnT t i), vI (max (agT t i) (agT u k))] 83] else []) ++ []))
      try simp only [d12, cond_true, cond_false, List.append_nil, List.nil_append, List.cons_append]
      exact hA
    case o14 =>
     intro gy D wz hDi hdep hclo hW
     exact cfv gy wz (by kernel_rfl) hW
   rintro ⟨b37, pv7, cp7, gu⟩ D w28 hall hH29
   simp only [hall 12 (by kernel_rfl), hall 13 (by kernel_rfl), cond_true, List.append_nil, List.nil_append, List.cons_append] at hH29
   clear hall
   refine WQ.sb [(0, .slice (some ⟨g, o, none⟩) t.length cp), (1, .slice (some ⟨g2, o2, none⟩) u.length cp2), (5, .slice pv7 ((A ++ [(lnT t i, max (agT t i) (agT u k))]).length) cp7), (7, vP b7 0), (8, vI (k : Int)), (9, .bool fb), (11, .slice (some ⟨g, o, none⟩) t.length cp), (12, vI (t.length : Int)), (13, vI (i : Int)), (14, .bool true), (24, .bool fb)] (WQ.inNormal (WQ.then (hK14 _ _ _ (WC.region (WL.y (vI ((i + 1 : Nat) : Int)) 39 (x_ad (((i + 1 : Nat) : Int))) (WL.z (vI ((i + 1 : Nat) : Int)) 13 (WL.nil (WQ.sb [(0, .slice (some ⟨g, o, none⟩) t.length cp), (1, .slice (some ⟨g2, o2, none⟩) u.length cp2), (5, .slice pv7 ((A ++ [(lnT t i, max (agT t i) (agT u k))]).length) cp7), (11, .slice (some ⟨g, o, none⟩) t.length cp), (12, vI (t.length : Int)), (13, vI ((i + 1 : Nat) : Int))] ?_))))))))
   refine WQ.then (hK9 _ _ _ (by omega) ⟨i + 1, (A ++ [(lnT t i, max (agT t i) (agT u k))]), pv7, cp7, rfl, rfl, by omega, by rw [← hA, jM_drop (t := t) (u := u) (i := i) (by omega), jm_yes hag]; simp, by rw [len1]; omega, (HP.drop (HP.drop hH29 2) 1)⟩)
  ·
   rw [c_fb] at hfb
   have hag := find_none hs hk1 hk2 hk3 (of_decide_eq_false hfb.symm)
   refine WC.no (congrArg (fun b => some (Value.bool b)) c_fb) ?_
   refine WC.skip (WQ.inNormal (WQ.then (hK14 _ _ _ (WC.region (WL.y (vI ((i + 1 : Nat) : Int)) 39 (x_ad (((i + 1 : Nat) : Int))) (WL.z (vI ((i + 1 : Nat) : Int)) 13 (WL.nil (WQ.sb [(0, .slice (some ⟨g, o, none⟩) t.length cp), (1, .slice p2 u.length cp2), (5, .slice pv A.length cp3), (11, .slice (some ⟨g, o, none⟩) t.length cp), (12, vI (t.length : Int)), (13, vI ((i + 1 : Nat) : Int))] ?_))))))))
   refine WQ.then (hK9 _ _ _ (by omega) ⟨i + 1, A, pv, cp3, rfl, rfl, by omega, by rw [← hA, jM_drop (t := t) (u := u) (i := i) (by omega), jm_no hag]; simp, by omega, (HP.drop hH23 1)⟩)
 ·
  refine WL.y (.bool false) 14 (x_lss rfl rfl rfl (dF (h14))) (WL.k hK12 (WC.seq fun K30 hK30 => ?_))
  refine WC.no rfl ?_
  refine WC.exit (WQ.thenExit (WQ.thenExit (WQ.inExit (WQ.then (hK6 _ _ _ (WC.seq fun K31 hK31 => ?_))))))
  have hR : jM t u = A := by rw [← hA, List.drop_eq_nil_of_le (by omega)]; simp [jM]
  refine WC.region (WL.z (.slice pv A.length cp3) 40 (WL.z (.slice pv A.length cp3) 4 (WL.k hK31 (WC.ret ?_))))
  refine WQ.ret1 4 rfl rfl ?_
  exact ⟨pv, cp3, by rw [hR], by rw [hR]; exact HP.eq hH11 rfl⟩
end Ca
end Go.Proofs.Ytmjnakhpekbenaa
namespace Go.Proofs.Ytmjnakhpekbenaa
namespace Fl
inductive Tr where
  | nil : Tr
  | one (i : Nat) (r : Tr) : Tr
  | plain (i E : Nat) (b r : Tr) : Tr
  | alt (i a E : Nat) (b1 b2 r : Tr) : Tr
structure Cd where
  c : Nat → Int
  e : Nat → Int
  d : Nat → Int
  o : Nat → Int
def Is (C : Cd) : Tr → Nat → Nat → Prop
  | .nil, k, j => k = j
  | .one i r, k, j => i = k ∧ ¬ (29 ≤ C.c k ∧ C.c k ≤ 35) ∧ Is C r (k + 1) j
  | .plain i E b r, k, j => i = k ∧ (29 ≤ C.c k ∧ C.c k ≤ 32) ∧ C.e k = -1 ∧ C.d k = (E : Int) ∧ C.o E = (k : Int) ∧ C.c E = 35 ∧ Is C b (k + 1) E ∧ Is C r (E + 1) j
  | .alt i a E b1 b2 r, k, j => i = k ∧ (C.c k = 29 ∨ C.c k = 33) ∧ C.e k = (a : Int) ∧ C.d k = (E : Int) ∧ C.o a = (k : Int) ∧ C.o E = (k : Int) ∧ C.c a = 34 ∧ C.c E = 35 ∧ Is C b1 (k + 1) a ∧ Is C b2 (a + 1) E ∧ Is C r (E + 1) j
theorem Is.le {C : Cd} : ∀ {R : Tr} {k j : Nat}, Is C R k j → k ≤ j
  | .nil, k, j, h => by have : k = j := h; omega
  | .one i r, k, j, h => by have := Is.le h.2.2; omega
  | .plain i E b r, k, j, h => by obtain ⟨_, _, _, _, _, _, h1, h2⟩ := h; have := Is.le h1; have := Is.le h2; omega
  | .alt i a E b1 b2 r, k, j, h => by obtain ⟨_, _, _, _, _, _, _, _, h1, h2, h3⟩ := h; have := Is.le h1; have := Is.le h2; have := Is.le h3; omega
def ways (C : Cd) (i : Nat) : List (Nat × Nat) :=
  if C.c i = 34 then [(i, (C.d (C.o i).toNat).toNat + 1)]
  else if C.c i = 35 then (if C.c (C.o i).toNat = 30 then [(i, (C.o i).toNat + 1)] else []) ++ [(i, i + 1)]
  else if C.c i = 29 then (i, i + 1) :: (if 0 ≤ C.e i then [(i, (C.e i).toNat + 1)] else if C.d i ≠ ((i + 1 : Nat) : Int) then [(i, (C.d i).toNat)] else [])
  else if C.c i = 30 then [(i, i + 1), (i, (C.d i).toNat + 1)]
  else if C.c i = 33 then [(i, i + 1), (i, (C.e i).toNat + 1)] ++ (List.range ((C.e i).toNat - (i + 1))).map fun k => (i + 1 + k, (C.e i).toNat + 1)
  else [(i, i + 1)]
structure Ops (T : Type) where
  J : T → T → T
  F : Nat → T → T
  mu : T → Nat
structure Lat (T : Type) extends Ops T where
  ok : T → Prop
  le : T → T → Prop
  okJ : ∀ a b, ok a → ok b → ok (J a b)
  okF : ∀ i a, i < 1000 → ok a → ok (F i a)
  rfl : ∀ a, ok a → le a a
  trans : ∀ a b c, ok a → ok b → ok c → le a b → le b c → le a c
  anti : ∀ a b, ok a → ok b → le a b → le b a → a = b
  left : ∀ a b, ok a → ok b → le a (J a b)
  right : ∀ a b, ok a → ok b → le b (J a b)
  lub : ∀ a b c, ok a → ok b → ok c → le a c → le b c → le (J a b) c
  mono : ∀ i a b, i < 1000 → ok a → ok b → le a b → le (F i a) (F i b)
  lt : ∀ a b, ok a → ok b → le a b → a ≠ b → mu b < mu a
variable {T : Type}
section
variable (O : Ops T) (C : Cd)
abbrev Ah (T : Type) := Nat → T
def up (ah : Ah T) (i : Nat) (t : T) : Ah T := fun j => if j = i then t else ah j
def iter [DecidableEq T] (f : T → Ah T → T × Ah T) : Nat → T → Ah T → T × Ah T
  | 0, t, ah => f t ah
  | k + 1, t, ah => if O.J t (f t ah).1 = t then f t ah else iter f k (O.J t (f t ah).1) (f t ah).2
def last (f : T → Ah T → T × Ah T) (q : Nat) (t : T) (ah : Ah T) : T × Ah T := (O.F q (f t ah).1, up (f t ah).2 q (f t ah).1)
def fold (ah : Ah T) : Nat → Nat → T → T
  | _, 0, x => x
  | i, m + 1, x => fold ah (i + 1) m (O.J x (O.F i (ah i)))
def sol [DecidableEq T] : Tr → T → Ah T → T × Ah T
  | .nil, t, ah => (t, ah)
  | .one i r, t, ah => sol r (O.F i t) (up ah i t)
  | .plain i E b r, t, ah =>
    if C.c i = 29 then
      let x := sol b (O.F i t) (up ah i t)
      sol r (O.F E (O.J (O.F i t) x.1)) (up x.2 E (O.J (O.F i t) x.1))
    else if C.c i = 30 then
      let x := iter O (last O (sol b) E) (O.mu (O.F i t)) (O.F i t) (up ah i t)
      sol r (O.J (O.F i t) x.1) x.2
    else
      let x := last O (sol b) E (O.F i t) (up ah i t)
      sol r x.1 x.2
  | .alt i a E b1 b2 r, t, ah =>
    let x := last O (sol b1) a (O.F i t) (up ah i t)
    let y := last O (sol b2) E (if C.c i = 29 then O.F i t else fold O x.2 (i + 1) (a - (i + 1)) (O.F i t)) x.2
    sol r (O.J x.1 y.1) y.2
end
variable (L : Lat T) (C : Cd)
def V (x : T × Ah T) (j v : Nat) : T := if v < j then x.2 v else x.1
theorem V_lt {x : T × Ah T} {j v : Nat} (h : v < j) : V x j v = x.2 v := if_pos h
theorem V_end {x : T × Ah T} {j : Nat} : V x j j = x.1 := if_neg (Nat.lt_irrefl _)
structure Good (k j : Nat) (t : T) (ah : Ah T) (x : T × Ah T) : Prop where
  okr : L.ok x.1
  oka : ∀ i, k ≤ i → i < j → L.ok (x.2 i)
  out : ∀ i, (i < k ∨ j ≤ i) → x.2 i = ah i
  fst : V x j k = t
  way : ∀ i, k ≤ i → i < j → ∀ p ∈ ways C i, k ≤ p.1 ∧ p.1 < j ∧ k ≤ p.2 ∧ p.2 ≤ j ∧ L.le (L.F p.1 (x.2 p.1)) (V x j p.2)
  least : ∀ Y : Nat → Option T, (∀ v y, Y v = some y → L.ok y) → (∀ i, k ≤ i → i < j → ∀ p ∈ ways C i, ∀ y, Y p.1 = some y → ∃ z, Y p.2 = some z ∧ L.le (L.F p.1 y) z) →
    ∀ y, Y k = some y → L.le t y → ∀ v, k ≤ v → v ≤ j → ∃ z, Y v = some z ∧ L.le (V x j v) z
variable {L} {C}
theorem Good.nil {k : Nat} {t : T} {ah : Ah T} (ht : L.ok t) : Good L C k k t ah (t, ah) :=
  ⟨ht, fun i h1 h2 => by omega, fun i _ => rfl, V_end, fun i h1 h2 => by omega, fun Y hY hc y hy hl v h1 h2 => by
    obtain rfl : v = k := by omega
    exact ⟨y, hy, by rw [V_end]; exact hl⟩⟩
theorem Good.comp {k m j : Nat} {t tm : T} {ah ahm : Ah T} {x : T × Ah T} (h1 : Good L C k m t ah (tm, ahm)) (h2 : Good L C m j tm ahm x) (hk : k ≤ m) (hm : m ≤ j) : Good L C k j t ah x := by
  have hV : ∀ v, k ≤ v → v ≤ m → V x j v = V (tm, ahm) m v := fun v q1 q2 => by
    by_cases q : v < m
    · rw [V_lt q, V_lt (by omega), h2.out v (.inl q)]
    · obtain rfl : v = m := by omega
      rw [h2.fst, V_end]
  refine ⟨h2.okr, fun i q1 q2 => ?_, fun i q => ?_, ?_, fun i q1 q2 p hp => ?_, fun Y hY hc y hy hl v q1 q2 => ?_⟩
  · by_cases q : i < m
    · rw [h2.out i (.inl q)]; exact h1.oka i q1 q
    · exact h2.oka i (by omega) q2
  · rcases q with q | q
    · rw [h2.out i (.inl (by omega))]; exact h1.out i (.inl q)
    · rw [h2.out i (.inr q)]; exact h1.out i (.inr (by omega))
  · rw [hV k (Nat.le_refl _) hk]; exact h1.fst
  · by_cases q : i < m
    · obtain ⟨a1, a2, a3, a4, a5⟩ := h1.way i q1 q p hp
      refine ⟨a1, by omega, a3, by omega, ?_⟩
      rw [hV _ a3 a4, h2.out p.1 (.inl a2)]; exact a5
    · obtain ⟨a1, a2, a3, a4, a5⟩ := h2.way i (by omega) q2 p hp
      exact ⟨by omega, a2, by omega, a4, a5⟩
  · have g1 := h1.least Y hY (fun i q1 q2 => hc i q1 (by omega)) y hy hl
    by_cases q : v < m
    · obtain ⟨z, hz, hl⟩ := g1 v q1 (by omega)
      exact ⟨z, hz, by rw [hV v q1 (by omega)]; exact hl⟩
    · obtain ⟨z, hz, hl⟩ := g1 m hk (Nat.le_refl _)
      rw [V_end] at hl
      exact h2.least Y hY (fun i q1 q2 => hc i (by omega) q2) z hz hl v (by omega) q2
theorem up_same {ah : Ah T} {i : Nat} {t : T} : up ah i t i = t := by simp [up]
theorem up_ne {ah : Ah T} {i j : Nat} {t : T} (h : j ≠ i) : up ah i t j = ah j := by simp [up, h]
theorem Good.one {k : Nat} {t : T} {ah : Ah T} (ht : L.ok t) (hk : k < 1000) (hc : ¬ (29 ≤ C.c k ∧ C.c k ≤ 35)) : Good L C k (k + 1) t ah (L.F k t, up ah k t) := by
  have hw : ways C k = [(k, k + 1)] := by
    unfold ways
    rw [if_neg (by omega), if_neg (by omega), if_neg (by omega), if_neg (by omega), if_neg (by omega)]
  refine ⟨L.okF k t hk ht, fun i q1 q2 => ?_, fun i q => up_ne (by omega), by rw [V_lt (by omega)]; exact up_same, fun i q1 q2 p hp => ?_, fun Y hY hcl y hy hl v q1 q2 => ?_⟩
  · obtain rfl : i = k := by omega
    show L.ok (up ah i t i); rw [up_same]; exact ht
  · obtain rfl : i = k := by omega
    rw [hw] at hp
    obtain rfl := List.mem_singleton.1 hp
    refine ⟨Nat.le_refl _, by simp, by simp, Nat.le_refl _, ?_⟩
    rw [V_end]
    show L.le (L.F i (up ah i t i)) _
    rw [up_same]; exact L.rfl _ (L.okF i t hk ht)
  · obtain ⟨z, hz, hl2⟩ := hcl k (Nat.le_refl _) (by omega) (k, k + 1) (by rw [hw]; simp) y hy
    by_cases q : v = k
    · subst q
      exact ⟨y, hy, by rw [V_lt (by omega)]; show L.le (up ah v t v) y; rw [up_same]; exact hl⟩
    · obtain rfl : v = k + 1 := by omega
      exact ⟨z, hz, by rw [V_end]; exact L.trans _ _ _ (L.okF k t hk ht) (L.okF k y hk (hY _ _ hy)) (hY _ _ hz) (L.mono k t y hk ht (hY _ _ hy) hl) hl2⟩
theorem iter_spec [DecidableEq T] {f : T → Ah T → T × Ah T} (P : Nat → Prop) (hok : ∀ t ah, L.ok t → L.ok (f t ah).1) (hout : ∀ t ah i, L.ok t → P i → (f t ah).2 i = ah i) : ∀ (n : Nat) (t : T) (ah : Ah T), L.ok t → L.mu t ≤ n →
    ∃ t' ah', iter L.toOps f n t ah = f t' ah' ∧ L.ok t' ∧ L.le t t' ∧ L.J t' (f t' ah').1 = t' ∧ (∀ i, P i → ah' i = ah i) ∧ (∀ Z, L.ok Z → L.le t Z → (∀ u a, L.ok u → L.le u Z → L.le (f u a).1 Z) → L.le t' Z)
  | 0, t, ah, ht, hm => by
    refine ⟨t, ah, rfl, ht, L.rfl t ht, ?_, fun _ _ => rfl, fun Z _ h _ => h⟩
    by_cases q : t = L.J t (f t ah).1
    · exact q.symm
    · have := L.lt t _ ht (L.okJ _ _ ht (hok t ah ht)) (L.left _ _ ht (hok t ah ht)) q
      omega
  | n + 1, t, ah, ht, hm => by
    unfold iter
    by_cases q : L.J t (f t ah).1 = t
    · rw [if_pos q]
      exact ⟨t, ah, rfl, ht, L.rfl t ht, q, fun _ _ => rfl, fun Z _ h _ => h⟩
    · rw [if_neg q]
      have h1 := hok t ah ht
      have h2 := L.okJ _ _ ht h1
      have h3 := L.left _ _ ht h1
      have := L.lt t _ ht h2 h3 (fun e => q e.symm)
      obtain ⟨t', ah', e1, e2, e3, e4, e5, e6⟩ := iter_spec P hok hout n (L.J t (f t ah).1) (f t ah).2 h2 (by omega)
      exact ⟨t', ah', e1, e2, L.trans _ _ _ ht h2 e2 h3 e3, e4, fun i hi => by rw [e5 i hi, hout t ah i ht hi], fun Z hZ hl hs => e6 Z hZ (L.lub _ _ _ ht h1 hZ hl (hs t ah ht hl)) hs⟩
theorem fold_spec {ah : Ah T} : ∀ (m i : Nat) (t : T), i + m ≤ 1000 → L.ok t → (∀ v, i ≤ v → v < i + m → L.ok (ah v)) →
    L.ok (fold L.toOps ah i m t) ∧ L.le t (fold L.toOps ah i m t) ∧ (∀ v, i ≤ v → v < i + m → L.le (L.F v (ah v)) (fold L.toOps ah i m t)) ∧ (∀ Z, L.ok Z → L.le t Z → (∀ v, i ≤ v → v < i + m → L.le (L.F v (ah v)) Z) → L.le (fold L.toOps ah i m t) Z)
  | 0, i, t, _, ht, _ => ⟨ht, L.rfl t ht, fun v h1 h2 => by omega, fun Z _ h _ => h⟩
  | m + 1, i, t, hi, ht, ha => by
    have h0 := L.okF i _ (show i < 1000 by omega) (ha i (Nat.le_refl _) (by omega))
    have h1 := L.okJ _ _ ht h0
    obtain ⟨e1, e2, e3, e4⟩ := fold_spec m (i + 1) (L.J t (L.F i (ah i))) (by omega) h1 (fun v q1 q2 => ha v (by omega) (by omega))
    refine ⟨e1, L.trans _ _ _ ht h1 e1 (L.left _ _ ht h0) e2, fun v q1 q2 => ?_, fun Z hZ hl hs => e4 Z hZ (L.lub _ _ _ ht h0 hZ hl (hs i (Nat.le_refl _) (by omega))) (fun v q1 q2 => hs v (by omega) (by omega))⟩
    by_cases q : v = i
    · subst q; exact L.trans _ _ _ h0 h1 e1 (L.right _ _ ht h0) e2
    · exact e3 v (by omega) (by omega)
theorem ways_plain {k E : Nat} (hc : 29 ≤ C.c k ∧ C.c k ≤ 32) (he : C.e k = -1) (hd : C.d k = (E : Int)) :
    ways C k = (k, k + 1) :: (if C.c k = 29 then (if E ≠ k + 1 then [(k, E)] else []) else if C.c k = 30 then [(k, E + 1)] else []) := by
  unfold ways
  rw [if_neg (by omega), if_neg (by omega), he, hd]
  by_cases q : C.c k = 29
  · rw [if_pos q, if_pos q, if_neg (by omega)]
    by_cases q2 : E = k + 1
    · rw [if_neg (by simp [q2]), if_neg (by simp [q2])]
    · rw [if_pos (by omega), if_pos q2]; rfl
  · rw [if_neg q, if_neg q]
    by_cases q2 : C.c k = 30
    · rw [if_pos q2, if_pos q2]; rfl
    · rw [if_neg q2, if_neg q2, if_neg (by omega)]
theorem ways_end {k E : Nat} (hE : C.c E = 35) (ho : C.o E = (k : Int)) : ways C E = (if C.c k = 30 then [(E, k + 1)] else []) ++ [(E, E + 1)] := by
  unfold ways
  rw [if_neg (by omega), if_pos hE, ho, Int.toNat_natCast]
theorem ways_else {k a E : Nat} (ha : C.c a = 34) (ho : C.o a = (k : Int)) (hd : C.d k = (E : Int)) : ways C a = [(a, E + 1)] := by
  unfold ways
  rw [if_pos ha, ho, Int.toNat_natCast, hd, Int.toNat_natCast]
theorem ways_alt {k a : Nat} (hc : C.c k = 29 ∨ C.c k = 33) (he : C.e k = (a : Int)) :
    ways C k = [(k, k + 1), (k, a + 1)] ++ (if C.c k = 33 then (List.range (a - (k + 1))).map fun v => (k + 1 + v, a + 1) else []) := by
  unfold ways
  rw [if_neg (by omega), if_neg (by omega), he, Int.toNat_natCast]
  rcases hc with q | q
  · rw [if_pos q, if_pos (show (0 : Int) ≤ (a : Int) by omega), if_neg (show ¬ C.c k = 33 by omega)]; rfl
  · rw [if_neg (by omega), if_neg (by omega), if_pos q, if_pos q]
theorem Good.plain {k E : Nat} {t tin m tm : T} {ah ah1 : Ah T} {f : T → Ah T → T × Ah T} (ht : L.ok t) (hE0 : E < 1000) (hkE : k + 1 ≤ E) (hc : 29 ≤ C.c k ∧ C.c k ≤ 32) (he : C.e k = -1) (hd : C.d k = (E : Int)) (ho : C.o E = (k : Int)) (hE : C.c E = 35)
    (hb : ∀ u a, L.ok u → Good L C (k + 1) E u a (f u a)) (hin : L.ok tin) (h1in : L.le (L.F k t) tin) (hah : ∀ i, (i < k ∨ E + 1 ≤ i) → ah1 i = ah i) (hahk : ah1 k = t)
    (hm : L.ok m) (hxm : L.le (f tin ah1).1 m) (hm29 : C.c k = 29 → L.le (L.F k t) m) (hm30 : C.c k = 30 → m = (f tin ah1).1 ∧ L.le (L.F E m) tin)
    (htm : L.ok tm) (hFm : L.le (L.F E m) tm) (ht30 : C.c k = 30 → L.le (L.F k t) tm)
    (l1 : ∀ Z, L.ok Z → L.le (L.F k t) Z → (C.c k = 30 → ∀ u a, L.ok u → L.le u Z → L.le (L.F E (f u a).1) Z) → L.le tin Z)
    (l2 : ∀ Z, L.ok Z → L.le (f tin ah1).1 Z → (C.c k = 29 → L.le (L.F k t) Z) → L.le m Z)
    (l3 : ∀ Z, L.ok Z → L.le (L.F E m) Z → (C.c k = 30 → L.le (L.F k t) Z) → L.le tm Z) :
    Good L C k (E + 1) t ah (tm, up (f tin ah1).2 E m) := by
  have G := hb tin ah1 hin
  have hk : k < 1000 := by omega
  have ok1 := L.okF k t hk ht
  have okFm := L.okF E m hE0 hm
  have vk : (up (f tin ah1).2 E m) k = t := by rw [up_ne (by omega), G.out k (.inl (by omega)), hahk]
  have vb : ∀ v, v ≠ E → (up (f tin ah1).2 E m) v = (f tin ah1).2 v := fun v h => up_ne h
  have vE : (up (f tin ah1).2 E m) E = m := up_same
  have hV : ∀ v, k + 1 ≤ v → v ≤ E → L.ok (V (f tin ah1) E v) ∧ L.ok (V (tm, up (f tin ah1).2 E m) (E + 1) v) ∧ L.le (V (f tin ah1) E v) (V (tm, up (f tin ah1).2 E m) (E + 1) v) := fun v q1 q2 => by
    by_cases q : v < E
    · rw [V_lt q, V_lt (show v < E + 1 by omega)]
      show L.ok ((f tin ah1).2 v) ∧ L.ok ((up (f tin ah1).2 E m) v) ∧ L.le ((f tin ah1).2 v) ((up (f tin ah1).2 E m) v)
      rw [vb v (by omega)]
      have := G.oka v q1 q
      exact ⟨this, this, L.rfl _ this⟩
    · obtain rfl : v = E := by omega
      rw [V_end, V_lt (Nat.lt_succ_self _)]
      show L.ok (f tin ah1).1 ∧ L.ok ((up (f tin ah1).2 v m) v) ∧ L.le (f tin ah1).1 ((up (f tin ah1).2 v m) v)
      rw [vE]
      exact ⟨G.okr, hm, hxm⟩
  have hk1 : L.le tin (V (tm, up (f tin ah1).2 E m) (E + 1) (k + 1)) := by
    have := (hV (k + 1) (Nat.le_refl _) hkE).2.2
    rwa [G.fst] at this
  have wk := ways_plain hc he hd
  have wE := ways_end hE ho
  refine ⟨htm, fun i q1 q2 => ?_, fun i q => ?_, by rw [V_lt (by omega)]; exact vk, fun i q1 q2 p hp => ?_, fun Y hY hcl y hy hl => ?_⟩
  · show L.ok ((up (f tin ah1).2 E m) i)
    by_cases e1 : i = k
    · subst e1; rw [vk]; exact ht
    · by_cases e2 : i = E
      · subst e2; rw [vE]; exact hm
      · rw [vb i e2]; exact G.oka i (by omega) (by omega)
  · show (up (f tin ah1).2 E m) i = ah i
    rw [vb i (by omega), G.out i (by omega), hah i q]
  · show k ≤ p.1 ∧ p.1 < E + 1 ∧ k ≤ p.2 ∧ p.2 ≤ E + 1 ∧ L.le (L.F p.1 ((up (f tin ah1).2 E m) p.1)) _
    by_cases e1 : i = k
    · subst e1
      rw [wk] at hp
      rcases List.mem_cons.1 hp with rfl | hp
      · refine ⟨Nat.le_refl _, by simp; omega, by simp, by simp; omega, ?_⟩
        simp only []
        rw [vk]
        exact L.trans _ _ _ ok1 hin (hV (i + 1) (Nat.le_refl _) hkE).2.1 h1in hk1
      · by_cases q9 : C.c i = 29
        · rw [if_pos q9] at hp
          by_cases q8 : E ≠ i + 1
          · rw [if_pos q8] at hp
            obtain rfl := List.mem_singleton.1 hp
            refine ⟨Nat.le_refl _, by simp; omega, by simp; omega, by simp, ?_⟩
            simp only []
            rw [vk, V_lt (Nat.lt_succ_self _)]
            show L.le _ ((up (f tin ah1).2 E m) E)
            rw [vE]; exact hm29 q9
          · rw [if_neg q8] at hp; cases hp
        · rw [if_neg q9] at hp
          by_cases q8 : C.c i = 30
          · rw [if_pos q8] at hp
            obtain rfl := List.mem_singleton.1 hp
            refine ⟨Nat.le_refl _, by simp; omega, by simp; omega, by simp, ?_⟩
            simp only []
            rw [vk, V_end]; exact ht30 q8
          · rw [if_neg q8] at hp; cases hp
    · by_cases e2 : i = E
      · subst e2
        rw [wE] at hp
        rcases List.mem_append.1 hp with hp | hp
        · by_cases q8 : C.c k = 30
          · rw [if_pos q8] at hp
            obtain rfl := List.mem_singleton.1 hp
            refine ⟨by simp; omega, by simp, by simp, by simp; omega, ?_⟩
            simp only []
            rw [vE]
            exact L.trans _ _ _ okFm hin (hV (k + 1) (Nat.le_refl _) hkE).2.1 (hm30 q8).2 hk1
          · rw [if_neg q8] at hp; cases hp
        · obtain rfl := List.mem_singleton.1 hp
          refine ⟨by simp; omega, by simp, by simp; omega, by simp, ?_⟩
          simp only []
          rw [vE, V_end]; exact hFm
      · obtain ⟨a1, a2, a3, a4, a5⟩ := G.way i (by omega) (by omega) p hp
        refine ⟨by omega, by omega, by omega, by omega, ?_⟩
        rw [vb p.1 (by omega)]
        have := hV p.2 a3 a4
        exact L.trans _ _ _ (L.okF _ _ (by omega) (G.oka p.1 a1 a2)) this.1 this.2.1 a5 this.2.2
  · -- the least
    obtain ⟨z1, hz1, hl1⟩ := hcl k (Nat.le_refl _) (by omega) (k, k + 1) (by rw [wk]; simp) y hy
    have okz1 := hY _ _ hz1
    have t1z : L.le (L.F k t) z1 := L.trans _ _ _ ok1 (L.okF k y hk (hY _ _ hy)) okz1 (L.mono k t y hk ht (hY _ _ hy) hl) hl1
    have bl : ∀ u a, L.ok u → L.le u z1 → ∀ v, k + 1 ≤ v → v ≤ E → ∃ z, Y v = some z ∧ L.le (V (f u a) E v) z := fun u a hu huz => (hb u a hu).least Y hY (fun i q1 q2 => hcl i (by omega) (by omega)) z1 hz1 huz
    have tinz : L.le tin z1 := l1 z1 okz1 t1z fun q8 u a hu huz => by
      obtain ⟨z, hz, hl9⟩ := bl u a hu huz E hkE (Nat.le_refl _)
      rw [V_end] at hl9
      obtain ⟨z2, hz2, hl2⟩ := hcl E (by omega) (by omega) (E, k + 1) (by rw [wE, if_pos q8]; simp) z hz
      rw [hz1] at hz2; cases hz2
      have := (hb u a hu).okr
      exact L.trans _ _ _ (L.okF E _ hE0 this) (L.okF E z hE0 (hY _ _ hz)) okz1 (L.mono E _ z hE0 this (hY _ _ hz) hl9) hl2
    have B := bl tin ah1 hin tinz
    obtain ⟨zE, hzE, hlE⟩ := B E hkE (Nat.le_refl _)
    rw [V_end] at hlE
    have mz : L.le m zE := l2 zE (hY _ _ hzE) hlE fun q9 => by
      by_cases q8 : E = k + 1
      · subst q8; rw [hz1] at hzE; cases hzE; exact t1z
      · obtain ⟨z2, hz2, hl2⟩ := hcl k (Nat.le_refl _) (by omega) (k, E) (by rw [wk, if_pos q9, if_pos q8]; simp) y hy
        rw [hzE] at hz2; cases hz2
        exact L.trans _ _ _ ok1 (L.okF k y hk (hY _ _ hy)) (hY _ _ hzE) (L.mono k t y hk ht (hY _ _ hy) hl) hl2
    obtain ⟨z3, hz3, hl3⟩ := hcl E (by omega) (by omega) (E, E + 1) (by rw [wE]; simp) zE hzE
    have tmz : L.le tm z3 := l3 z3 (hY _ _ hz3) (L.trans _ _ _ okFm (L.okF E zE hE0 (hY _ _ hzE)) (hY _ _ hz3) (L.mono E m zE hE0 hm (hY _ _ hzE) mz) hl3) fun q8 => by
      obtain ⟨z2, hz2, hl2⟩ := hcl k (Nat.le_refl _) (by omega) (k, E + 1) (by rw [wk, if_neg (by omega), if_pos q8]; simp) y hy
      rw [hz3] at hz2; cases hz2
      exact L.trans _ _ _ ok1 (L.okF k y hk (hY _ _ hy)) (hY _ _ hz3) (L.mono k t y hk ht (hY _ _ hy) hl) hl2
    intro v q1 q2
    by_cases e1 : v = k
    · subst e1; exact ⟨y, hy, by rw [V_lt (by omega)]; show L.le ((up (f tin ah1).2 E m) v) y; rw [vk]; exact hl⟩
    · by_cases e2 : v = E
      · subst e2; exact ⟨zE, hzE, by rw [V_lt (by omega)]; show L.le ((up (f tin ah1).2 v m) v) zE; rw [vE]; exact mz⟩
      · by_cases e3 : v = E + 1
        · subst e3; exact ⟨z3, hz3, by rw [V_end]; exact tmz⟩
        · obtain ⟨z, hz, hlz⟩ := B v (by omega) (by omega)
          refine ⟨z, hz, ?_⟩
          rw [V_lt (show v < E by omega)] at hlz
          rw [V_lt (show v < E + 1 by omega)]
          show L.le ((up (f tin ah1).2 E m) v) z
          rw [vb v e2]; exact hlz
theorem Good.alt {k a E : Nat} {t t2 : T} {ah : Ah T} {x1 x2 : T × Ah T} (ht : L.ok t) (hE0 : E < 1000) (hka : k + 1 ≤ a) (haE : a + 1 ≤ E) (hc : C.c k = 29 ∨ C.c k = 33) (he : C.e k = (a : Int)) (hd : C.d k = (E : Int)) (hoa : C.o a = (k : Int)) (ho : C.o E = (k : Int)) (ha : C.c a = 34) (hE : C.c E = 35)
    (G1 : Good L C (k + 1) a (L.F k t) (up ah k t) x1) (h2 : L.ok t2) (h12 : L.le (L.F k t) t2) (h33 : C.c k = 33 → ∀ v, k + 1 ≤ v → v < a → L.le (L.F v (x1.2 v)) t2)
    (l2 : ∀ Z, L.ok Z → L.le (L.F k t) Z → (C.c k = 33 → ∀ v, k + 1 ≤ v → v < a → L.le (L.F v (x1.2 v)) Z) → L.le t2 Z)
    (G2 : Good L C (a + 1) E t2 (up x1.2 a x1.1) x2) :
    Good L C k (E + 1) t ah (L.J (L.F a x1.1) (L.F E x2.1), up x2.2 E x2.1) := by
  have hk : k < 1000 := by omega
  have ok1 := L.okF k t hk ht
  have oka1 := L.okF a _ (show a < 1000 by omega) G1.okr
  have okE1 := L.okF E _ hE0 G2.okr
  have okm := L.okJ _ _ oka1 okE1
  have vE : (up x2.2 E x2.1) E = x2.1 := up_same
  have v2 : ∀ v, v ≠ E → (up x2.2 E x2.1) v = x2.2 v := fun v h => up_ne h
  have va : (up x2.2 E x2.1) a = x1.1 := by rw [v2 a (by omega), G2.out a (.inl (by omega)), up_same]
  have v1 : ∀ v, v < a → (up x2.2 E x2.1) v = x1.2 v := fun v h => by rw [v2 v (by omega), G2.out v (.inl (by omega)), up_ne (by omega)]
  have vk : (up x2.2 E x2.1) k = t := by rw [v1 k (by omega), G1.out k (.inl (by omega)), up_same]
  have hV1 : ∀ v, k + 1 ≤ v → v ≤ a → V (L.J (L.F a x1.1) (L.F E x2.1), up x2.2 E x2.1) (E + 1) v = V x1 a v := fun v q1 q2 => by
    rw [V_lt (show v < E + 1 by omega)]
    show (up x2.2 E x2.1) v = _
    by_cases q : v < a
    · rw [V_lt q, v1 v q]
    · obtain rfl : v = a := by omega
      rw [V_end, va]
  have hV2 : ∀ v, a + 1 ≤ v → v ≤ E → V (L.J (L.F a x1.1) (L.F E x2.1), up x2.2 E x2.1) (E + 1) v = V x2 E v := fun v q1 q2 => by
    rw [V_lt (show v < E + 1 by omega)]
    show (up x2.2 E x2.1) v = _
    by_cases q : v < E
    · rw [V_lt q, v2 v (by omega)]
    · obtain rfl : v = E := by omega
      rw [V_end, vE]
  have wk := ways_alt hc he
  have wa := ways_else ha hoa hd
  have wE : ways C E = [(E, E + 1)] := by rw [ways_end hE ho, if_neg (by omega)]; rfl
  refine ⟨okm, fun i q1 q2 => ?_, fun i q => ?_, by rw [V_lt (by omega)]; exact vk, fun i q1 q2 p hp => ?_, fun Y hY hcl y hy hl => ?_⟩
  · show L.ok ((up x2.2 E x2.1) i)
    by_cases e1 : i = k
    · subst e1; rw [vk]; exact ht
    · by_cases e2 : i < a
      · rw [v1 i e2]; exact G1.oka i (by omega) e2
      · by_cases e3 : i = a
        · subst e3; rw [va]; exact G1.okr
        · by_cases e4 : i = E
          · subst e4; rw [vE]; exact G2.okr
          · rw [v2 i e4]; exact G2.oka i (by omega) (by omega)
  · show (up x2.2 E x2.1) i = ah i
    rw [v2 i (by omega), G2.out i (by omega), up_ne (by omega), G1.out i (by omega), up_ne (by omega)]
  · show k ≤ p.1 ∧ p.1 < E + 1 ∧ k ≤ p.2 ∧ p.2 ≤ E + 1 ∧ L.le (L.F p.1 ((up x2.2 E x2.1) p.1)) _
    by_cases e1 : i = k
    · subst e1
      rw [wk] at hp
      rcases List.mem_append.1 hp with hp | hp
      · simp only [List.mem_cons, List.not_mem_nil, or_false] at hp
        rcases hp with rfl | rfl
        · refine ⟨Nat.le_refl _, by simp; omega, by simp, by simp; omega, ?_⟩
          simp only []
          rw [vk, hV1 (i + 1) (Nat.le_refl _) hka, G1.fst]; exact L.rfl _ ok1
        · refine ⟨Nat.le_refl _, by simp; omega, by simp; omega, by simp; omega, ?_⟩
          simp only []
          rw [vk, hV2 (a + 1) (Nat.le_refl _) haE, G2.fst]; exact h12
      · by_cases q8 : C.c i = 33
        · rw [if_pos q8] at hp
          obtain ⟨v, hv, rfl⟩ := List.mem_map.1 hp
          have hv := List.mem_range.1 hv
          refine ⟨by simp; omega, by simp; omega, by simp; omega, by simp; omega, ?_⟩
          simp only []
          rw [v1 _ (by omega), hV2 (a + 1) (Nat.le_refl _) haE, G2.fst]; exact h33 q8 _ (by omega) (by omega)
        · rw [if_neg q8] at hp; cases hp
    · by_cases e2 : i < a
      · obtain ⟨a1, a2, a3, a4, a5⟩ := G1.way i (by omega) e2 p hp
        refine ⟨by omega, by omega, by omega, by omega, ?_⟩
        rw [v1 _ a2, hV1 _ a3 a4]; exact a5
      · by_cases e3 : i = a
        · subst e3
          rw [wa] at hp
          obtain rfl := List.mem_singleton.1 hp
          refine ⟨by simp; omega, by simp; omega, by simp; omega, by simp, ?_⟩
          simp only []
          rw [va, V_end]; exact L.left _ _ oka1 okE1
        · by_cases e4 : i = E
          · subst e4
            rw [wE] at hp
            obtain rfl := List.mem_singleton.1 hp
            refine ⟨by simp; omega, by simp, by simp; omega, by simp, ?_⟩
            simp only []
            rw [vE, V_end]; exact L.right _ _ oka1 okE1
          · obtain ⟨a1, a2, a3, a4, a5⟩ := G2.way i (by omega) (by omega) p hp
            refine ⟨by omega, by omega, by omega, by omega, ?_⟩
            rw [v2 _ (by omega), hV2 _ a3 a4]; exact a5
  · -- the least
    have tr : ∀ u v x z z2, u < 1000 → L.ok x → Y u = some z → L.le x z → Y v = some z2 → L.le (L.F u z) z2 → L.le (L.F u x) z2 := fun u v x z z2 q1 q2 q3 q4 q5 q6 =>
      L.trans _ _ _ (L.okF u x q1 q2) (L.okF u z q1 (hY _ _ q3)) (hY _ _ q5) (L.mono u x z q1 q2 (hY _ _ q3) q4) q6
    obtain ⟨z1, hz1, hl1⟩ := hcl k (Nat.le_refl _) (by omega) (k, k + 1) (by rw [wk]; simp) y hy
    have t1z := tr k _ t y z1 hk ht hy hl hz1 hl1
    have B1 := G1.least Y hY (fun i q1 q2 => hcl i (by omega) (by omega)) z1 hz1 t1z
    obtain ⟨z2, hz2, hl2⟩ := hcl k (Nat.le_refl _) (by omega) (k, a + 1) (by rw [wk]; simp) y hy
    have t1z2 := tr k _ t y z2 hk ht hy hl hz2 hl2
    have t2z := l2 z2 (hY _ _ hz2) t1z2 fun q8 v q1 q2 => by
      obtain ⟨zv, hzv, hlv⟩ := B1 v q1 (by omega)
      rw [V_lt q2] at hlv
      obtain ⟨z9, hz9, hl9⟩ := hcl k (Nat.le_refl _) (by omega) (v, a + 1) (by
        rw [wk, if_pos q8]
        refine List.mem_append_right _ (List.mem_map.2 ⟨v - (k + 1), List.mem_range.2 (by omega), ?_⟩)
        rw [show k + 1 + (v - (k + 1)) = v by omega]) zv hzv
      rw [hz2] at hz9; cases hz9
      exact tr v _ _ zv z2 (by omega) (G1.oka v q1 q2) hzv hlv hz2 hl9
    have B2 := G2.least Y hY (fun i q1 q2 => hcl i (by omega) (by omega)) z2 hz2 t2z
    obtain ⟨za, hza, hla⟩ := B1 a hka (Nat.le_refl _)
    rw [V_end] at hla
    obtain ⟨zE, hzE, hlE⟩ := B2 E haE (Nat.le_refl _)
    rw [V_end] at hlE
    obtain ⟨z3, hz3, hl3⟩ := hcl a (by omega) (by omega) (a, E + 1) (by rw [wa]; simp) za hza
    obtain ⟨z4, hz4, hl4⟩ := hcl E (by omega) (by omega) (E, E + 1) (by rw [wE]; simp) zE hzE
    rw [hz3] at hz4; cases hz4
    have r3 := tr a _ _ za z3 (by omega) G1.okr hza hla hz3 hl3
    have r4 := tr E _ _ zE z3 (by omega) G2.okr hzE hlE hz3 hl4
    intro v q1 q2
    by_cases e1 : v = k
    · subst e1; exact ⟨y, hy, by rw [V_lt (by omega)]; show L.le ((up x2.2 E x2.1) v) y; rw [vk]; exact hl⟩
    · by_cases e2 : v ≤ a
      · obtain ⟨z, hz, hlz⟩ := B1 v (by omega) e2
        exact ⟨z, hz, by rw [hV1 v (by omega) e2]; exact hlz⟩
      · by_cases e3 : v ≤ E
        · obtain ⟨z, hz, hlz⟩ := B2 v (by omega) e3
          exact ⟨z, hz, by rw [hV2 v (by omega) e3]; exact hlz⟩
        · obtain rfl : v = E + 1 := by omega
          exact ⟨z3, hz3, by rw [V_end]; exact L.lub _ _ _ oka1 okE1 (hY _ _ hz3) r3 r4⟩
theorem sol_good [DecidableEq T] : ∀ (R : Tr) (k j : Nat) (t : T) (ah : Ah T), Is C R k j → j ≤ 1000 → L.ok t → Good L C k j t ah (sol L.toOps C R t ah)
  | .nil, k, j, t, ah, h, hj, ht => by obtain rfl : k = j := h; exact Good.nil ht
  | .one i r, k, j, t, ah, h, hj, ht => by
    obtain ⟨rfl, hc, hr⟩ := h
    have := hr.le
    exact Good.comp (Good.one ht (by omega) hc) (sol_good r (i + 1) j _ _ hr hj (L.okF i t (by omega) ht)) (by omega) this
  | .plain i E b r, k, j, t, ah, h, hj, ht => by
    obtain ⟨rfl, hc, he, hd, ho, hE, hb, hr⟩ := h
    have h1 := hb.le
    have h2 := hr.le
    have hE0 : E < 1000 := by omega
    have ok1 := L.okF i t (by omega) ht
    have IHb : ∀ u a, L.ok u → Good L C (i + 1) E u a (sol L.toOps C b u a) := fun u a hu => sol_good b (i + 1) E u a hb (by omega) hu
    have G := IHb (L.F i t) (up ah i t) ok1
    by_cases q29 : C.c i = 29
    · have okm := L.okJ _ _ ok1 G.okr
      have okF := L.okF E _ hE0 okm
      have e : sol L.toOps C (.plain i E b r) t ah = sol L.toOps C r (L.F E (L.J (L.F i t) (sol L.toOps C b (L.F i t) (up ah i t)).1)) (up (sol L.toOps C b (L.F i t) (up ah i t)).2 E (L.J (L.F i t) (sol L.toOps C b (L.F i t) (up ah i t)).1)) := by
        show (if C.c i = 29 then _ else _) = _
        rw [if_pos q29]
      rw [e]
      exact Good.comp (Good.plain (f := sol L.toOps C b) (tin := L.F i t) (ah1 := up ah i t) ht hE0 h1 hc he hd ho hE IHb ok1 (L.rfl _ ok1) (fun v q => up_ne (by omega)) up_same okm (L.right _ _ ok1 G.okr) (fun _ => L.left _ _ ok1 G.okr) (fun q => by omega) okF (L.rfl _ okF) (fun q => by omega)
        (fun Z _ q _ => q) (fun Z hZ q1 q2 => L.lub _ _ _ ok1 G.okr hZ (q2 q29) q1) (fun Z _ q _ => q)) (sol_good r (E + 1) j _ _ hr hj okF) (by omega) h2
    · by_cases q30 : C.c i = 30
      · have e : sol L.toOps C (.plain i E b r) t ah = sol L.toOps C r (L.J (L.F i t) (iter L.toOps (last L.toOps (sol L.toOps C b) E) (L.mu (L.F i t)) (L.F i t) (up ah i t)).1) (iter L.toOps (last L.toOps (sol L.toOps C b) E) (L.mu (L.F i t)) (L.F i t) (up ah i t)).2 := by
          show (if C.c i = 29 then _ else if C.c i = 30 then _ else _) = _
          rw [if_neg q29, if_pos q30]
        obtain ⟨u, a, e1, e2, e3, e4, e5, e6⟩ := iter_spec (L := L) (f := last L.toOps (sol L.toOps C b) E) (fun v => v ≤ i ∨ E + 1 ≤ v) (fun u a hu => L.okF E _ hE0 (IHb u a hu).okr) (fun u a v hu hv => by
          show (up (sol L.toOps C b u a).2 E _) v = a v
          rw [up_ne (by omega), (IHb u a hu).out v (by omega)]) (L.mu (L.F i t)) (L.F i t) (up ah i t) ok1 (Nat.le_refl _)
        rw [e, e1]
        have Gu := IHb u a e2
        have okb := L.okF E _ hE0 Gu.okr
        have okm := L.okJ _ _ ok1 okb
        refine Good.comp (Good.plain (f := sol L.toOps C b) (tin := u) (ah1 := a) (m := (sol L.toOps C b u a).1) ht hE0 h1 hc he hd ho hE IHb e2 e3 (fun v q => by rw [e5 v (by omega), up_ne (by omega)]) (by rw [e5 i (.inl (Nat.le_refl _)), up_same]) Gu.okr (L.rfl _ Gu.okr) (fun q => by omega) (fun _ => ⟨rfl, ?_⟩) okm (L.right _ _ ok1 okb) (fun _ => L.left _ _ ok1 okb)
          (fun Z hZ q1 q2 => e6 Z hZ q1 fun u' a' hu' hl' => q2 q30 u' a' hu' hl') (fun Z _ q _ => q) (fun Z hZ q1 q2 => L.lub _ _ _ ok1 okb hZ (q2 q30) q1)) (sol_good r (E + 1) j _ _ hr hj okm) (by omega) h2
        have := L.right u _ e2 okb
        have e4' : L.J u (L.F E (sol L.toOps C b u a).1) = u := e4
        rwa [e4'] at this
      · have e : sol L.toOps C (.plain i E b r) t ah = sol L.toOps C r (L.F E (sol L.toOps C b (L.F i t) (up ah i t)).1) (up (sol L.toOps C b (L.F i t) (up ah i t)).2 E (sol L.toOps C b (L.F i t) (up ah i t)).1) := by
          show (if C.c i = 29 then _ else if C.c i = 30 then _ else _) = _
          rw [if_neg q29, if_neg q30]; rfl
        rw [e]
        have okF := L.okF E _ hE0 G.okr
        exact Good.comp (Good.plain (f := sol L.toOps C b) (tin := L.F i t) (ah1 := up ah i t) ht hE0 h1 hc he hd ho hE IHb ok1 (L.rfl _ ok1) (fun v q => up_ne (by omega)) up_same G.okr (L.rfl _ G.okr) (fun q => absurd q q29) (fun q => absurd q q30) okF (L.rfl _ okF) (fun q => absurd q q30)
          (fun Z _ q _ => q) (fun Z _ q _ => q) (fun Z _ q _ => q)) (sol_good r (E + 1) j _ _ hr hj okF) (by omega) h2
  | .alt i a E b1 b2 r, k, j, t, ah, h, hj, ht => by
    obtain ⟨rfl, hc, he, hd, hoa, ho, ha, hE, hb1, hb2, hr⟩ := h
    have h1 := hb1.le
    have h2 := hb2.le
    have h3 := hr.le
    have hE0 : E < 1000 := by omega
    have ok1 := L.okF i t (by omega) ht
    have G1 := sol_good b1 (i + 1) a (L.F i t) (up ah i t) hb1 (by omega) ok1
    have main : ∀ t2, L.ok t2 → L.le (L.F i t) t2 → (C.c i = 33 → ∀ v, i + 1 ≤ v → v < a → L.le (L.F v ((sol L.toOps C b1 (L.F i t) (up ah i t)).2 v)) t2) →
        (∀ Z, L.ok Z → L.le (L.F i t) Z → (C.c i = 33 → ∀ v, i + 1 ≤ v → v < a → L.le (L.F v ((sol L.toOps C b1 (L.F i t) (up ah i t)).2 v)) Z) → L.le t2 Z) →
        sol L.toOps C (.alt i a E b1 b2 r) t ah = sol L.toOps C r (L.J (L.F a (sol L.toOps C b1 (L.F i t) (up ah i t)).1) (last L.toOps (sol L.toOps C b2) E t2 (up (sol L.toOps C b1 (L.F i t) (up ah i t)).2 a (sol L.toOps C b1 (L.F i t) (up ah i t)).1)).1) (last L.toOps (sol L.toOps C b2) E t2 (up (sol L.toOps C b1 (L.F i t) (up ah i t)).2 a (sol L.toOps C b1 (L.F i t) (up ah i t)).1)).2 →
        Good L C i j t ah (sol L.toOps C (.alt i a E b1 b2 r) t ah) := fun t2 q1 q2 q3 q4 q5 => by
      have G2 := sol_good b2 (a + 1) E t2 (up (sol L.toOps C b1 (L.F i t) (up ah i t)).2 a (sol L.toOps C b1 (L.F i t) (up ah i t)).1) hb2 (by omega) q1
      rw [q5]
      exact Good.comp (Good.alt ht hE0 h1 h2 hc he hd hoa ho ha hE G1 q1 q2 q3 q4 G2) (sol_good r (E + 1) j _ _ hr hj (L.okJ _ _ (L.okF a _ (by omega) G1.okr) (L.okF E _ hE0 G2.okr))) (by omega) h3
    by_cases q29 : C.c i = 29
    · refine main (L.F i t) ok1 (L.rfl _ ok1) (fun q => by omega) (fun Z _ q _ => q) ?_
      show sol L.toOps C r (L.J _ (last L.toOps (sol L.toOps C b2) E (if C.c i = 29 then _ else _) _).1) _ = _
      rw [if_pos q29]; rfl
    · obtain ⟨f1, f2, f3, f4⟩ := fold_spec (L := L) (ah := up (sol L.toOps C b1 (L.F i t) (up ah i t)).2 a (sol L.toOps C b1 (L.F i t) (up ah i t)).1) (a - (i + 1)) (i + 1) (L.F i t) (by omega) ok1 (fun v p1 p2 => by rw [up_ne (by omega)]; exact G1.oka v p1 (by omega))
      refine main (fold L.toOps (up (sol L.toOps C b1 (L.F i t) (up ah i t)).2 a (sol L.toOps C b1 (L.F i t) (up ah i t)).1) (i + 1) (a - (i + 1)) (L.F i t)) f1 f2 (fun _ v p1 p2 => ?_) (fun Z hZ q1 q2 => f4 Z hZ q1 fun v p1 p2 => ?_) ?_
      · have := f3 v p1 (by omega)
        rwa [up_ne (by omega)] at this
      · rw [up_ne (by omega)]; exact q2 (by omega) v p1 (by omega)
      · show sol L.toOps C r (L.J _ (last L.toOps (sol L.toOps C b2) E (if C.c i = 29 then _ else _) _).1) _ = _
        rw [if_neg q29]; rfl
end Fl
end Go.Proofs.Ytmjnakhpekbenaa
namespace Go.Proofs.Ytmjnakhpekbenaa
namespace Ca
theorem sT_uniq {t : List T2} (h : sT t) {p q : T2} (hp : p ∈ t) (hq : q ∈ t) (e : p.1 = q.1) : p = q := by
  obtain ⟨i, hi, rfl⟩ := List.mem_iff_getElem.1 hp
  obtain ⟨j, hj, rfl⟩ := List.mem_iff_getElem.1 hq
  have h2 := List.pairwise_iff_getElem.1 h
  rcases Nat.lt_trichotomy i j with q1 | q1 | q1
  · have := h2 i j hi hj q1; omega
  · subst q1; rfl
  · have := h2 j i hj hi q1; omega
theorem mem_age {t : List T2} (h : sT t) {z a : Int} : (z, a) ∈ t ↔ ageT t z = some a := by
  unfold ageT
  constructor
  · intro hm
    cases hf : t.find? (fun p => p.1 == z) with
    | none => have := List.find?_eq_none.1 hf _ hm; simp at this
    | some q =>
      have h1 := List.mem_of_find?_eq_some hf
      have h2 := List.find?_some hf
      have h3 : q.1 = z := by simpa using h2
      rw [sT_uniq h h1 hm h3]; rfl
  · intro he
    obtain ⟨q, hq, rfl⟩ := Option.map_eq_some_iff.1 he
    have h1 := List.mem_of_find?_eq_some hq
    have h2 := List.find?_some hq
    have h3 : q.1 = z := by simpa using h2
    subst h3; exact h1
theorem sT_ext : ∀ {t u : List T2}, sT t → sT u → (∀ p, p ∈ t ↔ p ∈ u) → t = u
  | [], [], _, _, _ => rfl
  | [], q :: v, _, _, h => by have := (h q).2 (by simp); cases this
  | p :: r, [], _, _, h => by have := (h p).1 (by simp); cases this
  | p :: r, q :: v, ht, hu, h => by
    have t1 := List.pairwise_cons.1 ht
    have u1 := List.pairwise_cons.1 hu
    have e : p = q := by
      rcases List.mem_cons.1 ((h p).1 (by simp)) with e | hp
      · exact e
      · rcases List.mem_cons.1 ((h q).2 (by simp)) with e | hq
        · exact e.symm
        · have := t1.1 q hq; have := u1.1 p hp; omega
    subst e
    rw [sT_ext t1.2 u1.2 fun x => ⟨fun hx => ?_, fun hx => ?_⟩]
    · rcases List.mem_cons.1 ((h x).1 (List.mem_cons_of_mem _ hx)) with e | hx2
      · have := t1.1 x hx; rw [e] at this; omega
      · exact hx2
    · rcases List.mem_cons.1 ((h x).2 (List.mem_cons_of_mem _ hx)) with e | hx2
      · have := u1.1 x hx; rw [e] at this; omega
      · exact hx2
theorem age_ext {t u : List T2} (ht : sT t) (hu : sT u) (h : ∀ z, ageT t z = ageT u z) : t = u :=
  sT_ext ht hu fun p => by
    obtain ⟨z, a⟩ := p
    rw [mem_age ht, mem_age hu, h]
theorem VT_mk {s y l m : Int} {t : List T2} (hg : vG s y l m = true) (hs : sT t) (hm : ∀ p ∈ t, (0 ≤ p.1 ∧ p.1 ≤ 999) ∧ 0 ≤ p.2 ∧ p.2 ≤ y - 1) : VT s y l m t := by
  obtain ⟨⟨a1, a2⟩, ⟨b1, b2⟩, ⟨c1, c2⟩, d1, d2⟩ := vG_iff.1 hg
  have hln : ∀ i, i < t.length → 0 ≤ lnT t i ∧ lnT t i ≤ 999 := fun i hi => by rw [lnT_get hi]; exact (hm _ (List.getElem_mem hi)).1
  have hge : ∀ i, i < t.length → (i : Int) ≤ lnT t i := by
    intro i
    induction i with
    | zero => intro h0; exact (hln 0 h0).1
    | succ i ih => intro h1; have := ih (by omega); have := sT_lt hs (show i < i + 1 by omega) h1; omega
  refine ⟨a1, a2, b1, b2, c1, c2, d1, d2, fun i hi => by rw [agT_get hi]; exact (hm _ (List.getElem_mem hi)).2, hln, hs, ?_⟩
  by_cases h0 : t.length = 0
  · omega
  · have := hge (t.length - 1) (by omega); have := hln (t.length - 1) (by omega); omega
theorem VT.mem {s y l m : Int} {t : List T2} (h : VT s y l m t) {p : T2} (hp : p ∈ t) : (0 ≤ p.1 ∧ p.1 ≤ 999) ∧ 0 ≤ p.2 ∧ p.2 ≤ y - 1 := by
  obtain ⟨i, hi, rfl⟩ := List.mem_iff_getElem.1 hp
  have h1 := h.ln i hi
  have h2 := h.ag i hi
  rw [lnT_get hi] at h1
  rw [agT_get hi] at h2
  exact ⟨h1, h2⟩
theorem VT.geo {s y l m : Int} {t : List T2} (h : VT s y l m t) : vG s y l m = true := vG_iff.2 ⟨⟨h.s1, h.s2⟩, ⟨h.y1, h.y2⟩, ⟨h.l1, h.l2⟩, h.m1, h.m2⟩
theorem VT.nil {s y l m : Int} (hg : vG s y l m = true) : VT s y l m [] := VT_mk hg List.Pairwise.nil fun p hp => by cases hp
theorem VT.age {s y l m : Int} {t : List T2} (h : VT s y l m t) {z a : Int} (ha : ageT t z = some a) : (0 ≤ z ∧ z ≤ 999) ∧ 0 ≤ a ∧ a ≤ y - 1 := h.mem ((mem_age h.so).2 ha)
def bmp (d a : Int) : Int := if a < d then a + 1 else a
def agS (s y x d z a : Int) : Option Int := if z.tmod s = x.tmod s then (if bmp d a < y then some (bmp d a) else none) else (if a < y then some a else none)
def agA (s y x d z : Int) (o : Option Int) : Option Int := if z = x then some 0 else o.bind (agS s y x d z)
theorem mem_opt {c : Prop} [Decidable c] {z b u v : Int} : (z, b) ∈ (if c then [(u, v)] else ([] : List T2)) ↔ u = z ∧ (if c then some v else none) = some b := by
  by_cases h : c
  · rw [if_pos h, if_pos h, List.mem_singleton]
    exact ⟨fun e => by cases e; exact ⟨rfl, rfl⟩, fun ⟨e1, e2⟩ => by cases e1; cases e2; rfl⟩
  · rw [if_neg h, if_neg h]
    exact ⟨(fun e => by cases e), (fun e => by cases e.2)⟩
theorem mem_stE {s y x d : Int} {q : T2} {z b : Int} : (z, b) ∈ stE s y x d q ↔ q.1 = z ∧ z ≠ x ∧ agS s y x d z q.2 = some b := by
  by_cases h1 : q.1 = x
  · have e : stE s y x d q = [] := by unfold stE; rw [if_pos h1]
    rw [e]
    constructor
    · intro h; cases h
    · rintro ⟨e, h2, _⟩; exact absurd (e ▸ h1) h2
  · by_cases h2 : q.1.tmod s = x.tmod s
    · have e : stE s y x d q = if bmp d q.2 < y then [(q.1, bmp d q.2)] else [] := by unfold stE; rw [if_neg h1, if_pos h2]; rfl
      rw [e, mem_opt]
      constructor
      · rintro ⟨rfl, h⟩; exact ⟨rfl, h1, by unfold agS; rw [if_pos h2]; exact h⟩
      · rintro ⟨rfl, _, h⟩; exact ⟨rfl, by unfold agS at h; rw [if_pos h2] at h; exact h⟩
    · have e : stE s y x d q = if q.2 < y then [(q.1, q.2)] else [] := by unfold stE; rw [if_neg h1, if_neg h2]
      rw [e, mem_opt]
      constructor
      · rintro ⟨rfl, h⟩; exact ⟨rfl, h1, by unfold agS; rw [if_neg h2]; exact h⟩
      · rintro ⟨rfl, _, h⟩; exact ⟨rfl, by unfold agS at h; rw [if_neg h2] at h; exact h⟩
theorem mem_rL {s y x d : Int} {t : List T2} {z b : Int} : (z, b) ∈ rL s y x d t ↔ (z = x ∧ b = 0) ∨ (z ≠ x ∧ ∃ a, (z, a) ∈ t ∧ agS s y x d z a = some b) := by
  rw [(rL_perm t).mem_iff, List.mem_append, List.mem_flatMap, List.mem_singleton]
  constructor
  · rintro (⟨⟨q1, q2⟩, hq, h⟩ | h)
    · obtain ⟨rfl, h2, h3⟩ := mem_stE.1 h
      exact .inr ⟨h2, q2, hq, h3⟩
    · exact .inl (Prod.mk.inj h)
  · rintro (⟨rfl, rfl⟩ | ⟨h2, a, ha, h3⟩)
    · exact .inr rfl
    · exact .inl ⟨(z, a), ha, mem_stE.2 ⟨rfl, h2, h3⟩⟩
theorem age_rL {s y x d : Int} {t : List T2} (h : sT t) (z : Int) : ageT (rL s y x d t) z = agA s y x d z (ageT t z) := by
  have hs : sT (rL s y x d t) := rL_sorted (s := s) (y := y) (x := x) (d := d) h
  unfold agA
  by_cases e : z = x
  · rw [if_pos e, ← mem_age hs, mem_rL]; exact .inl ⟨e, rfl⟩
  · rw [if_neg e]
    cases ha : ageT t z with
    | none =>
      cases hb : ageT (rL s y x d t) z with
      | none => rfl
      | some b =>
        rcases mem_rL.1 ((mem_age hs).2 hb) with ⟨e2, _⟩ | ⟨_, a, ha2, h3⟩
        · exact absurd e2 e
        · rw [(mem_age h).1 ha2] at ha; cases ha
    | some a =>
      show _ = agS s y x d z a
      cases hz : agS s y x d z a with
      | some b => rw [← mem_age hs, mem_rL]; exact .inr ⟨e, a, (mem_age h).2 ha, hz⟩
      | none =>
        cases hb : ageT (rL s y x d t) z with
        | none => rfl
        | some b =>
          rcases mem_rL.1 ((mem_age hs).2 hb) with ⟨e2, _⟩ | ⟨_, a2, ha2, h3⟩
          · exact absurd e2 e
          · rw [(mem_age h).1 ha2] at ha; cases ha; rw [hz] at h3; cases h3
theorem agS_bd {s y x d z a b : Int} (h : agS s y x d z a = some b) (ha : 0 ≤ a) : a ≤ b ∧ b ≤ a + 1 ∧ b ≤ y - 1 := by
  have hb : a ≤ bmp d a ∧ bmp d a ≤ a + 1 := by unfold bmp; split <;> omega
  unfold agS at h
  generalize bmp d a = e at h hb
  split at h
  · split at h
    · cases h; omega
    · cases h
  · split at h
    · cases h; omega
    · cases h
theorem agA_bd {s y x d z : Int} {o : Option Int} {b : Int} (hy : 1 ≤ y) (h : agA s y x d z o = some b) (ho : ∀ a, o = some a → 0 ≤ a) : 0 ≤ b ∧ b ≤ y - 1 ∧ (z = x ∨ ∃ a, o = some a) := by
  unfold agA at h
  split at h
  · next e => cases h; exact ⟨by omega, by omega, .inl e⟩
  · cases o with
    | none => cases h
    | some a =>
      have h0 := ho a rfl
      have := agS_bd (show agS s y x d z a = some b from h) h0
      exact ⟨by omega, by omega, .inr ⟨a, rfl⟩⟩
theorem VT_tc {s y l m x k : Int} {t : List T2} (h : VT s y l m t) (hx : 0 ≤ x ∧ x ≤ 999) : VT s y l m (tcH s y x k t) := by
  have hs : sT (tcH s y x k t) := rL_sorted h.so
  refine VT_mk h.geo hs fun p hp => ?_
  obtain ⟨z, b⟩ := p
  have ha := (mem_age hs).1 hp
  unfold tcH at ha
  rw [age_rL h.so] at ha
  obtain ⟨q1, q2, q3⟩ := agA_bd h.y1 ha fun a e => (h.age e).2.1
  refine ⟨?_, q1, q2⟩
  rcases q3 with e | ⟨a, e⟩
  · show 0 ≤ z ∧ z ≤ 999; omega
  · exact (h.age e).1
theorem mem_jM {t u : List T2} {z b : Int} : (z, b) ∈ jM t u ↔ ∃ a c, (z, a) ∈ t ∧ ageT u z = some c ∧ b = max a c := by
  unfold jM
  rw [List.mem_flatMap]
  constructor
  · rintro ⟨⟨q1, q2⟩, hq, h⟩
    unfold jm1 at h
    cases hc : ageT u q1 with
    | none => simp only [hc] at h; cases h
    | some c =>
      simp only [hc] at h
      obtain ⟨rfl, rfl⟩ := Prod.mk.inj (List.mem_singleton.1 h)
      exact ⟨q2, c, hq, hc, rfl⟩
  · rintro ⟨a, c, ha, hc, rfl⟩
    exact ⟨(z, a), ha, by unfold jm1; simp [hc]⟩
theorem jM_sorted {t u : List T2} (h : sT t) : sT (jM t u) := by
  induction t with
  | nil => exact List.Pairwise.nil
  | cons p r ih =>
    obtain ⟨h1, h2⟩ := List.pairwise_cons.1 h
    have e : jM (p :: r) u = jm1 u p ++ jM r u := rfl
    have hx : ∀ a ∈ jm1 u p, a.1 = p.1 := fun a ha => by
      unfold jm1 at ha
      split at ha
      · rw [List.mem_singleton.1 ha]
      · cases ha
    rw [e]
    refine List.pairwise_append.2 ⟨?_, ih h2, fun a ha b hb => ?_⟩
    · unfold jm1; split
      · exact List.pairwise_singleton _ _
      · exact List.Pairwise.nil
    · obtain ⟨z, c⟩ := b
      obtain ⟨a', c', ha', _, _⟩ := mem_jM.1 hb
      have := h1 _ ha'
      rw [hx a ha]; exact this
theorem age_jM {t u : List T2} (ht : sT t) (z : Int) : ageT (jM t u) z = match ageT t z, ageT u z with | some a, some c => some (max a c) | _, _ => none := by
  have hs := jM_sorted (u := u) ht
  cases ha : ageT t z with
  | none =>
    cases hb : ageT (jM t u) z with
    | none => rfl
    | some b =>
      obtain ⟨a, c, h1, _, _⟩ := mem_jM.1 ((mem_age hs).2 hb)
      rw [(mem_age ht).1 h1] at ha; cases ha
  | some a =>
    cases hc : ageT u z with
    | none =>
      cases hb : ageT (jM t u) z with
      | none => rfl
      | some b =>
        obtain ⟨a, c, h1, h2, _⟩ := mem_jM.1 ((mem_age hs).2 hb)
        rw [hc] at h2; cases h2
    | some c => exact (mem_age hs).1 (mem_jM.2 ⟨a, c, (mem_age ht).2 ha, hc, rfl⟩)
theorem VT_jM {s y l m : Int} {t u : List T2} (ht : VT s y l m t) (hu : VT s y l m u) : VT s y l m (jM t u) := by
  refine VT_mk ht.geo (jM_sorted ht.so) fun p hp => ?_
  obtain ⟨z, b⟩ := p
  obtain ⟨a, c, h1, h2, rfl⟩ := mem_jM.1 hp
  have q1 := ht.mem h1
  have q2 := hu.age h2
  simp only [] at q1
  refine ⟨q1.1, ?_, ?_⟩
  · show 0 ≤ max a c; omega
  · show max a c ≤ y - 1; omega
end Ca
end Go.Proofs.Ytmjnakhpekbenaa
namespace Go.Proofs.Ytmjnakhpekbenaa
open Fw
namespace Ca
def leM (a b : List T2) : Prop := ∀ z c, ageT b z = some c → ∃ a', ageT a z = some a' ∧ a' ≤ c
def muM (y : Int) (t : List T2) : Nat := ((List.range 1000).map fun z => match ageT t ((z : Nat) : Int) with | some a => (y - a).toNat | none => 0).sum
theorem sum_le {f g : Nat → Nat} : ∀ {n : Nat}, (∀ i, i < n → f i ≤ g i) → ((List.range n).map f).sum ≤ ((List.range n).map g).sum
  | 0, _ => Nat.le_refl _
  | n + 1, h => by
    rw [List.range_succ, List.map_append, List.map_append, List.sum_append, List.sum_append]
    have := sum_le (f := f) (g := g) (n := n) fun i hi => h i (by omega)
    have := h n (by omega)
    simp; omega
theorem sum_lt {f g : Nat → Nat} {v : Nat} : ∀ {n : Nat}, v < n → (∀ i, i < n → f i ≤ g i) → f v < g v → ((List.range n).map f).sum < ((List.range n).map g).sum
  | 0, h, _, _ => by omega
  | n + 1, hv, h, hl => by
    rw [List.range_succ, List.map_append, List.map_append, List.sum_append, List.sum_append]
    by_cases e : v = n
    · subst e
      have := sum_le (f := f) (g := g) (n := v) fun i hi => h i (by omega)
      simp; omega
    · have := sum_lt (f := f) (g := g) (v := v) (n := n) (by omega) (fun i hi => h i (by omega)) hl
      have := h n (by omega)
      simp; omega
def opsM (s y l : Int) : Fl.Ops (List T2) := ⟨jM, fun i t => tcH s y ((i : Int) / l) 0 t, muM y⟩
section
variable {s y l m : Int}
theorem ln_bd (hg : vG s y l m = true) {i : Nat} (hi : i < 1000) : 0 ≤ (i : Int) / l ∧ (i : Int) / l ≤ 999 := by
  obtain ⟨-, -, ⟨c1, c2⟩, -⟩ := vG_iff.1 hg
  exact ⟨Int.ediv_nonneg (by omega) (by omega), Int.le_trans (Int.ediv_le_self _ (by omega)) (by omega)⟩
theorem age_tc {t : List T2} (h : VT s y l m t) (x k z : Int) : ageT (tcH s y x k t) z = agA s y x ((ageT t x).getD y + k) z (ageT t z) := age_rL h.so z
theorem leM_refl (a : List T2) : leM a a := fun z c h => ⟨c, h, Int.le_refl _⟩
theorem leM_trans {a b c : List T2} (h1 : leM a b) (h2 : leM b c) : leM a c := fun z x hx => by
  obtain ⟨x1, g1, g2⟩ := h2 z x hx
  obtain ⟨x2, g3, g4⟩ := h1 z x1 g1
  exact ⟨x2, g3, by omega⟩
theorem le_ages {a b : List T2} (h1 : ∀ z c, ageT b z = some c → ∃ a', ageT a z = some a' ∧ a' ≤ c) (h2 : ∀ z c, ageT a z = some c → ∃ a', ageT b z = some a' ∧ a' ≤ c) (z : Int) : ageT a z = ageT b z := by
  cases e1 : ageT a z with
  | none =>
    cases e2 : ageT b z with
    | none => rfl
    | some c => obtain ⟨a', g, _⟩ := h1 z c e2; rw [e1] at g; cases g
  | some c =>
    obtain ⟨a', g, g2⟩ := h2 z c e1
    obtain ⟨a2, g3, g4⟩ := h1 z a' g
    rw [e1] at g3; cases g3
    rw [g]; congr 1; omega
theorem leM_anti {a b : List T2} (ha : sT a) (hb : sT b) (h1 : leM a b) (h2 : leM b a) : a = b := age_ext ha hb (le_ages h1 h2)
theorem jM_left {a b : List T2} (ha : sT a) : leM a (jM a b) := fun z c h => by
  rw [age_jM ha] at h
  cases e1 : ageT a z with
  | none => rw [e1] at h; cases h
  | some x =>
    cases e2 : ageT b z with
    | none => rw [e1, e2] at h; cases h
    | some x2 => rw [e1, e2] at h; cases h; exact ⟨x, rfl, by omega⟩
theorem jM_right {a b : List T2} (ha : sT a) : leM b (jM a b) := fun z c h => by
  rw [age_jM ha] at h
  cases e1 : ageT a z with
  | none => rw [e1] at h; cases h
  | some x =>
    cases e2 : ageT b z with
    | none => rw [e1, e2] at h; cases h
    | some x2 => rw [e1, e2] at h; cases h; exact ⟨x2, rfl, by omega⟩
theorem jM_lub {a b c : List T2} (ha : sT a) (h1 : leM a c) (h2 : leM b c) : leM (jM a b) c := fun z x hx => by
  obtain ⟨x1, g1, g2⟩ := h1 z x hx
  obtain ⟨x2, g3, g4⟩ := h2 z x hx
  exact ⟨max x1 x2, by rw [age_jM ha, g1, g3], by omega⟩
theorem bmp_mono {d d' a a' : Int} (h1 : d ≤ d') (h2 : a ≤ a') : bmp d a ≤ bmp d' a' := by unfold bmp; split <;> split <;> omega
theorem agS_mono {x d d' z a a' b : Int} (h1 : d ≤ d') (h2 : a ≤ a') (h : agS s y x d' z a' = some b) : ∃ b', agS s y x d z a = some b' ∧ b' ≤ b := by
  unfold agS at h ⊢
  have := bmp_mono h1 h2
  by_cases e : z.tmod s = x.tmod s
  · rw [if_pos e] at h ⊢
    split at h
    · cases h; exact ⟨_, by rw [if_pos (by omega)], by omega⟩
    · cases h
  · rw [if_neg e] at h ⊢
    split at h
    · cases h; exact ⟨a, by rw [if_pos (by omega)], by omega⟩
    · cases h
theorem getD_M {a b : List T2} (ha : VT s y l m a) (h : leM a b) (x : Int) : (ageT a x).getD y ≤ (ageT b x).getD y := by
  cases e : ageT b x with
  | none =>
    cases e2 : ageT a x with
    | none => exact Int.le_refl _
    | some c => have := (ha.age e2).2; simp; omega
  | some c => obtain ⟨c', g1, g2⟩ := h x c e; rw [g1]; exact g2
theorem tc_monoM {a b : List T2} (ha : VT s y l m a) (hb : VT s y l m b) (h : leM a b) (x k : Int) : leM (tcH s y x k a) (tcH s y x k b) := fun z c hc => by
  rw [age_tc hb] at hc
  rw [age_tc ha]
  unfold agA at hc ⊢
  by_cases e : z = x
  · rw [if_pos e] at hc ⊢; cases hc; exact ⟨0, rfl, Int.le_refl _⟩
  · rw [if_neg e] at hc ⊢
    obtain ⟨c0, g1, g2⟩ := Option.bind_eq_some_iff.1 hc
    obtain ⟨a0, g3, g4⟩ := h z c0 g1
    have hd := getD_M ha h x
    obtain ⟨b', g5, g6⟩ := agS_mono (d := (ageT a x).getD y + k) (by omega) g4 g2
    exact ⟨b', by rw [g3]; exact g5, g6⟩
theorem ex_diff {a b : List T2} (ha : VT s y l m a) (hb : VT s y l m b) (hne : a ≠ b) : ∃ z : Nat, z < 1000 ∧ ageT a (z : Int) ≠ ageT b (z : Int) := by
  apply Classical.byContradiction
  intro hno
  apply hne
  refine age_ext ha.so hb.so fun z => ?_
  by_cases hz : 0 ≤ z ∧ z ≤ 999
  · have h2 : (z.toNat : Int) = z := Int.toNat_of_nonneg hz.1
    apply Classical.byContradiction
    intro h3
    exact hno ⟨z.toNat, by omega, by rw [h2]; exact h3⟩
  · have h1 : ageT a z = none := by
      cases e : ageT a z with
      | none => rfl
      | some c => exact absurd (ha.age e).1 hz
    have h2 : ageT b z = none := by
      cases e : ageT b z with
      | none => rfl
      | some c => exact absurd (hb.age e).1 hz
    rw [h1, h2]
theorem muM_lt {a b : List T2} (ha : VT s y l m a) (hb : VT s y l m b) (h : leM a b) (hne : a ≠ b) : muM y b < muM y a := by
  have hle : ∀ z : Nat, (match ageT b (z : Int) with | some a => (y - a).toNat | none => 0) ≤ (match ageT a (z : Int) with | some a => (y - a).toNat | none => 0) := fun z => by
    cases e : ageT b (z : Int) with
    | none => exact Nat.zero_le _
    | some c => obtain ⟨c', g1, g2⟩ := h _ c e; rw [g1]; show (y - c).toNat ≤ (y - c').toNat; omega
  obtain ⟨v, hv, hd⟩ := ex_diff ha hb hne
  refine sum_lt hv (fun i _ => hle i) ?_
  cases e : ageT b (v : Int) with
  | none =>
    cases e2 : ageT a (v : Int) with
    | none => rw [e, e2] at hd; exact absurd rfl hd
    | some c => have := (ha.age e2).2; show 0 < (y - c).toNat; omega
  | some c =>
    obtain ⟨c', g1, g2⟩ := h _ c e
    have := (hb.age e).2
    rw [g1] at hd ⊢
    rw [e] at hd
    show (y - c).toNat < (y - c').toNat
    have : c' ≠ c := fun q => hd (by rw [q])
    omega
theorem tc_okM (hg : vG s y l m = true) (i : Nat) (a : List T2) (hi : i < 1000) (ha : VT s y l m a) : VT s y l m ((opsM s y l).F i a) := VT_tc (x := (i : Int) / l) (k := 0) ha (ln_bd hg hi)
theorem mu_ltM (a b : List T2) (ha : VT s y l m a) (hb : VT s y l m b) (h : leM a b) (hne : a ≠ b) : (opsM s y l).mu b < (opsM s y l).mu a := by
  have h1 := muM_lt ha hb h hne
  dsimp only [opsM]; exact h1
def latM (s y l m : Int) (hg : vG s y l m = true) : Fl.Lat (List T2) :=
  { toOps := opsM s y l, ok := VT s y l m, le := leM,
    okJ := fun a b ha hb => VT_jM ha hb, okF := tc_okM hg,
    rfl := fun a _ => leM_refl a, trans := fun a b c _ _ _ h1 h2 => leM_trans h1 h2, anti := fun a b ha hb h1 h2 => leM_anti ha.so hb.so h1 h2,
    left := fun a b ha _ => jM_left ha.so, right := fun a b ha _ => jM_right ha.so, lub := fun a b c ha _ _ h1 h2 => jM_lub ha.so h1 h2,
    mono := fun i a b _ ha hb h => tc_monoM ha hb h _ _, lt := mu_ltM }
end
end Ca
end Go.Proofs.Ytmjnakhpekbenaa
namespace Go.Proofs.Ytmjnakhpekbenaa
set_option maxRecDepth 20000
set_option maxHeartbeats 4000000
open Go.RowKit Fw
namespace Ec
def ParC (p : Option Addr) (n cap : Nat) (c A B : Nat → Int) (at' : Nat) : Prop := ∀ w, InC w p n c A B → Calls Try.prog 79 #[.slice p n cap, vI (at' : Int)] w fun e w' =>
  ∃ (nx : Nat) (d : Int), e = .returned (.tuple #[.int .i64 (nx : Int), .int .i64 d]) ∧ PR c n at' nx d ∧ Below w.heap.size w w'
def BraC (p : Option Addr) (n cap : Nat) (c A B : Nat → Int) (k : Nat) : Prop := ∀ w, InC w p n c A B → Calls Try.prog 80 #[.slice p n cap, vI (k : Int)] w fun e w' =>
  ∃ (a : Int) (en : Nat) (d : Int), e = .returned (.tuple #[.int .i64 a, .int .i64 (en : Int), .int .i64 d]) ∧ BR c n k a en d ∧ Below w.heap.size w w'
theorem PR_bad {c : Nat → Int} {n k nx : Nat} {d : Int} (h : PR c n k nx d) (hd : d < 0) : Fail c n k := by
  rcases h with ⟨_, _, h⟩ | ⟨h, _⟩
  · exact h
  · omega
theorem PR_ok {c : Nat → Int} {n k nx : Nat} {d : Int} (h : PR c n k nx d) (hd : ¬ d < 0) : ∃ d2 : Nat, d = (d2 : Int) ∧ d2 + k ≤ nx ∧ nx ≤ n ∧ (nx < n → c nx = 34 ∨ c nx = 35) ∧ ParS c k nx d2 := by
  rcases h with ⟨h, _, _⟩ | ⟨h, h1, h2, h3, h4⟩
  · omega
  · exact ⟨d.toNat, by omega, by omega, h2, h3, h4⟩
theorem BR_bad {c : Nat → Int} {n k e : Nat} {a d : Int} (h : BR c n k a e d) (hd : d < 0) : Fail c n k := by
  rcases h with ⟨_, _, _, h⟩ | ⟨h, _⟩
  · exact h
  · omega
theorem BR_ok {c : Nat → Int} {n k e : Nat} {a d : Int} (h : BR c n k a e d) (hd : ¬ d < 0) : ∃ d2 : Nat, d = (d2 : Int) ∧ d2 + k < e ∧ e < n ∧ BraS c k a e d2 := by
  rcases h with ⟨_, _, h, _⟩ | ⟨h, h1, h2, h3⟩
  · omega
  · exact ⟨d.toNat, by omega, by omega, h2, h3⟩
theorem nend {c : Nat → Int} {k n nx d : Nat} (h : ParS c k nx d) (e : nx = n) : ParS c k n d := e ▸ h
theorem bra_any (p : Option Addr) (n cap : Nat) (c A B : Nat → Int) (k : Nat) (hn : n ≤ 400) (hk : k < n) (hO : opn (c k) = true) (hp : ∀ at', k < at' → at' ≤ n → ParC p n cap c A B at') (w : World) (hIn : InC w p n c A B) :
  Calls Try.prog 80 #[.slice p n cap, vI (k : Int)] w fun e w' => ∃ (a : Int) (en : Nat) (d : Int), e = .returned (.tuple #[.int .i64 a, .int .i64 (en : Int), .int .i64 d]) ∧ BR c n k a en d ∧ Below w.heap.size w w' := by
 refine calls_of Try.func80 rfl (m := 84) rfl [(0, .slice p n cap), (1, vI (k : Int))] (Fr_enter [.slice p n cap, vI (k : Int)] 84 (Nat.le_of_ble_eq_true rfl)) ?_
 have hH1 : HP Tr w w [] := HP.refl w
 refine WC.seq fun K2 hK2 => WC.region (WL.z (vI 0) 4 (WL.z (vI 0) 5 (WL.z (vI 0) 6 (WL.k hK2 (WC.seq fun K3 hK3 => WC.region (WL.z (vI (-1)) 7 (WL.nil ?_)))))))
 refine WQ.then (hK3 _ _ _ (WC.seq fun K4 hK4 => WC.region (WL.z (.slice p n cap) 13 (WL.z (vI (k : Int)) 14 (WL.y (vI ((k + 1 : Nat) : Int)) 15 (x_ad (((k + 1 : Nat) : Int))) ?_)))))
 refine WL.c 79 #[.slice p n cap, vI ((k + 1 : Nat) : Int)] 16 ?_
 refine (hp (k + 1) (by omega) (by omega) _ (hIn.below (HP.below hH1))).mono ?_
 rintro e w5 ⟨nx1, e1, rfl, hP1, hb6⟩
 refine ⟨_, rfl, ?_⟩
 have hH7 := HP.call hH1 hb6
 refine WL.z (.tuple #[vI (nx1 : Int), vI e1]) 12 (WL.z (vI (nx1 : Int)) 17 (WL.z (vI e1) 18 (WL.z (vI (nx1 : Int)) 8 (WL.z (vI e1) 9 (WL.k hK4 (WC.sb [(0, .slice p n cap), (1, vI (k : Int)), (4, vI 0), (5, vI 0), (6, vI 0), (7, vI (-1)), (8, vI (nx1 : Int)), (9, vI e1)] (WC.seq fun K8 hK8 => WC.seq fun K9 hK9 => WC.region ?_)))))))
 refine WL.z (vI e1) 19 ?_
 by_cases hd1 : e1 < 0
 ·
  refine WL.y (.bool true) 20 (x_lss rfl rfl rfl (dT (hd1))) (WL.z (.bool true) 21 (WL.p 22 (WL.p 23 (WL.p 24 (WL.p 25 (WL.z (.bool true) 26 (WL.k hK9 (WC.sb [(0, .slice p n cap), (1, vI (k : Int)), (4, vI 0), (5, vI 0), (6, vI 0), (7, vI (-1)), (8, vI (nx1 : Int)), (9, vI e1), (26, .bool true)] ?_))))))))
  refine WC.yes rfl ?_
  refine WC.seq fun K10 hK10 => WC.region (WL.z (vI 0) 4 (WL.z (vI 0) 5 (WL.z (vI (-1)) 6 (WL.k hK10 (WC.ret ?_)))))
  refine WQ.thenRet ?_
  refine WQ.ret3 4 5 6 rfl rfl rfl rfl ?_
  exact ⟨0, 0, -1, rfl, .inl ⟨rfl, rfl, rfl, Fail_open hO (PR_bad hP1 hd1)⟩, HP.below hH7⟩
 ·
  obtain ⟨d1, rfl, hx1, hn1, ht1, hS1⟩ := PR_ok hP1 hd1
  refine WL.y (.bool false) 20 (x_lss rfl rfl rfl (dF (hd1))) (WL.z (.bool false) 21 (WL.z (vI (nx1 : Int)) 22 (WL.z (.slice p n cap) 23 (WL.z (vI (n : Int)) 24 ?_))))
  by_cases hnx : (n : Int) ≤ (nx1 : Int)
  ·
   refine WL.y (.bool true) 25 (x_geq rfl rfl rfl (dT (hnx))) (WL.z (.bool true) 26 (WL.k hK9 (WC.sb [(0, .slice p n cap), (1, vI (k : Int)), (4, vI 0), (5, vI 0), (6, vI 0), (7, vI (-1)), (8, vI (nx1 : Int)), (9, vI (d1 : Int)), (26, .bool true)] ?_)))
   refine WC.yes rfl ?_
   refine WC.seq fun K11 hK11 => WC.region (WL.z (vI 0) 4 (WL.z (vI 0) 5 (WL.z (vI (-1)) 6 (WL.k hK11 (WC.ret ?_)))))
   refine WQ.thenRet ?_
   refine WQ.ret3 4 5 6 rfl rfl rfl rfl ?_
   exact ⟨0, 0, -1, rfl, .inl ⟨rfl, rfl, rfl, Fail_end hO (d := d1) (nend hS1 (by omega))⟩, HP.below hH7⟩
  ·
   refine WL.y (.bool false) 25 (x_geq rfl rfl rfl (dF (hnx))) (WL.z (.bool false) 26 (WL.k hK9 (WC.sb [(0, .slice p n cap), (1, vI (k : Int)), (4, vI 0), (5, vI 0), (6, vI 0), (7, vI (-1)), (8, vI (nx1 : Int)), (9, vI (d1 : Int)), (26, .bool false)] ?_)))
   refine WC.no rfl ?_
   refine WC.skip (WQ.then (hK8 _ _ _ (WC.seq fun K12 hK12 => WC.seq fun K13 hK13 => ?_)))
   obtain ⟨bb, oo, rfl, hrow⟩ := hIn (by omega)
   refine WC.region (WL.z (.slice (some ⟨bb, oo, none⟩) n cap) 27 (WL.z (vI (nx1 : Int)) 28 (WL.y (vP bb (oo + nx1 * 3)) 29 (x_ix (nx1) (oo + nx1 * 3) Try.underlying42 sz75) (WL.z (vP bb (oo + nx1 * 3)) 30 (WL.y (vI (c nx1)) 31 (x_load rfl rfl Try.underlying3 rfl ((HP.oldRange hH7 trivial (hrow nx1 (by omega))) 0 _ rfl)) ?_)))))
   by_cases h34 : c nx1 = 34
   ·
    refine WL.y (.bool true) 32 (x_eql rfl rfl rfl (dT (h34))) (WL.k hK13 ?_)
    refine WC.yes rfl ?_
    refine WC.seq fun K14 hK14 => WC.seq fun K15 hK15 => WC.region (WL.z (.slice (some ⟨bb, oo, none⟩) n cap) 33 (WL.z (vI (k : Int)) 34 (WL.y (vP bb (oo + k * 3)) 35 (x_ix (k) (oo + k * 3) Try.underlying42 sz75) (WL.z (vP bb (oo + k * 3)) 36 (WL.y (vI (c k)) 37 (x_load rfl rfl Try.underlying3 rfl ((HP.oldRange hH7 trivial (hrow k (by omega))) 0 _ rfl)) ?_)))))
    by_cases h29 : c k ≠ 29
    ·
     refine WL.y (.bool true) 38 (x_neq rfl rfl rfl (dT (h29))) (WL.z (.bool true) 39 (WL.z (.slice (some ⟨bb, oo, none⟩) n cap) 40 (WL.z (vI (k : Int)) 41 (WL.y (vP bb (oo + k * 3)) 42 (x_ix (k) (oo + k * 3) Try.underlying42 sz75) (WL.z (vP bb (oo + k * 3)) 43 (WL.y (vI (c k)) 44 (x_load rfl rfl Try.underlying3 rfl ((HP.oldRange hH7 trivial (hrow k (by omega))) 0 _ rfl)) ?_))))))
     by_cases h33 : c k ≠ 33
     ·
      refine WL.y (.bool true) 45 (x_neq rfl rfl rfl (dT (h33))) (WL.z (.bool true) 46 (WL.k hK15 (WC.sb [(0, .slice (some ⟨bb, oo, none⟩) n cap), (1, vI (k : Int)), (4, vI 0), (5, vI 0), (6, vI 0), (7, vI (-1)), (8, vI (nx1 : Int)), (9, vI (d1 : Int)), (26, .bool false), (32, .bool true), (46, .bool true)] ?_)))
      refine WC.yes rfl ?_
      refine WC.seq fun K16 hK16 => WC.region (WL.z (vI 0) 4 (WL.z (vI 0) 5 (WL.z (vI (-1)) 6 (WL.k hK16 (WC.ret ?_)))))
      refine WQ.thenRet ?_
      refine WQ.thenRet ?_
      refine WQ.ret3 4 5 6 rfl rfl rfl rfl ?_
      exact ⟨0, 0, -1, rfl, .inl ⟨rfl, rfl, rfl, Fail_two hO hS1 h34 (by omega) (two_no h29 h33)⟩, HP.below hH7⟩
     ·
      refine WL.y (.bool false) 45 (x_neq rfl rfl rfl (dF (h33))) (WL.z (.bool false) 46 (WL.k hK15 (WC.sb [(0, .slice (some ⟨bb, oo, none⟩) n cap), (1, vI (k : Int)), (4, vI 0), (5, vI 0), (6, vI 0), (7, vI (-1)), (8, vI (nx1 : Int)), (9, vI (d1 : Int)), (26, .bool false), (32, .bool true), (46, .bool false)] ?_)))
      refine WC.no rfl ?_
      refine WC.skip (WQ.then (hK14 _ _ _ (WC.seq fun K17 hK17 => WC.region (WL.z (vI (nx1 : Int)) 47 (WL.z (vI (nx1 : Int)) 7 (WL.k hK17 (WC.seq fun K18 hK18 => WC.region ?_)))))))
      refine WL.z (.slice (some ⟨bb, oo, none⟩) n cap) 49 (WL.z (vI (nx1 : Int)) 50 (WL.y (vI ((nx1 + 1 : Nat) : Int)) 51 (x_ad (((nx1 + 1 : Nat) : Int))) ?_))
      refine WL.c 79 #[.slice (some ⟨bb, oo, none⟩) n cap, vI ((nx1 + 1 : Nat) : Int)] 52 ?_
      refine (hp (nx1 + 1) (by omega) (by omega) _ (hIn.below (HP.below hH7))).mono ?_
      rintro e w19 ⟨nx2, e2, rfl, hP2, hb20⟩
      refine ⟨_, rfl, ?_⟩
      have hH21 := HP.call hH7 hb20
      refine WL.z (.tuple #[vI (nx2 : Int), vI e2]) 48 (WL.z (vI (nx2 : Int)) 53 (WL.z (vI e2) 54 (WL.z (vI (nx2 : Int)) 10 (WL.z (vI e2) 11 (WL.k hK18 (WC.sb [(0, .slice (some ⟨bb, oo, none⟩) n cap), (1, vI (k : Int)), (4, vI 0), (5, vI 0), (6, vI 0), (7, vI (nx1 : Int)), (8, vI (nx1 : Int)), (9, vI (d1 : Int)), (10, vI (nx2 : Int)), (11, vI e2), (26, .bool false), (32, .bool true), (46, .bool false)] (WC.seq fun K22 hK22 => WC.seq fun K23 hK23 => WC.region ?_)))))))
      refine WL.z (vI e2) 55 ?_
      by_cases hd2 : e2 < 0
      ·
       refine WL.y (.bool true) 56 (x_lss rfl rfl rfl (dT (hd2))) (WL.z (.bool true) 57 (WL.p 58 (WL.p 59 (WL.p 60 (WL.p 61 (WL.z (.bool true) 62 (WL.z (.bool true) 63 (WL.p 64 (WL.p 65 (WL.p 66 (WL.p 67 ?_)))))))))))
       refine WL.p 68 (WL.p 69 (WL.z (.bool true) 70 (WL.k hK23 (WC.sb [(0, .slice (some ⟨bb, oo, none⟩) n cap), (1, vI (k : Int)), (4, vI 0), (5, vI 0), (6, vI 0), (7, vI (nx1 : Int)), (8, vI (nx1 : Int)), (9, vI (d1 : Int)), (10, vI (nx2 : Int)), (11, vI e2), (26, .bool false), (32, .bool true), (46, .bool false), (70, .bool true)] ?_))))
       refine WC.yes rfl ?_
       refine WC.seq fun K24 hK24 => WC.region (WL.z (vI 0) 4 (WL.z (vI 0) 5 (WL.z (vI (-1)) 6 (WL.k hK24 (WC.ret ?_)))))
       refine WQ.thenRet ?_
       refine WQ.thenRet ?_
       refine WQ.ret3 4 5 6 rfl rfl rfl rfl ?_
       exact ⟨0, 0, -1, rfl, .inl ⟨rfl, rfl, rfl, Fail_alt (two_yes (by omega)) hS1 (by omega) h34 (PR_bad hP2 hd2)⟩, HP.below hH21⟩
      ·
       obtain ⟨d2, rfl, hx2, hn2, ht2, hS2⟩ := PR_ok hP2 hd2
       refine WL.y (.bool false) 56 (x_lss rfl rfl rfl (dF (hd2))) (WL.z (.bool false) 57 (WL.z (vI (nx2 : Int)) 58 (WL.z (.slice (some ⟨bb, oo, none⟩) n cap) 59 (WL.z (vI (n : Int)) 60 ?_))))
       by_cases hnx2 : (n : Int) ≤ (nx2 : Int)
       ·
        refine WL.y (.bool true) 61 (x_geq rfl rfl rfl (dT (hnx2))) (WL.z (.bool true) 62 (WL.z (.bool true) 63 (WL.p 64 (WL.p 65 (WL.p 66 (WL.p 67 (WL.p 68 (WL.p 69 (WL.z (.bool true) 70 (WL.nil (WQ.then ?_)))))))))))
        refine hK23 _ _ _ (WC.sb [(0, .slice (some ⟨bb, oo, none⟩) n cap), (1, vI (k : Int)), (4, vI 0), (5, vI 0), (6, vI 0), (7, vI (nx1 : Int)), (8, vI (nx1 : Int)), (9, vI (d1 : Int)), (10, vI (nx2 : Int)), (11, vI (d2 : Int)), (26, .bool false), (32, .bool true), (46, .bool false), (70, .bool true)] ?_)
        refine WC.yes rfl ?_
        refine WC.seq fun K25 hK25 => WC.region (WL.z (vI 0) 4 (WL.z (vI 0) 5 (WL.z (vI (-1)) 6 (WL.k hK25 (WC.ret ?_)))))
        refine WQ.thenRet ?_
        refine WQ.thenRet ?_
        refine WQ.ret3 4 5 6 rfl rfl rfl rfl ?_
        exact ⟨0, 0, -1, rfl, .inl ⟨rfl, rfl, rfl, Fail_alt_end (d2 := d2) (two_yes (by omega)) hS1 (by omega) h34 (nend hS2 (by omega))⟩, HP.below hH21⟩
       ·
        refine WL.y (.bool false) 61 (x_geq rfl rfl rfl (dF (hnx2))) (WL.z (.bool false) 62 (WL.z (.bool false) 63 (WL.z (.slice (some ⟨bb, oo, none⟩) n cap) 64 (WL.z (vI (nx2 : Int)) 65 (WL.y (vP bb (oo + nx2 * 3)) 66 (x_ix (nx2) (oo + nx2 * 3) Try.underlying42 sz75) (WL.z (vP bb (oo + nx2 * 3)) 67 (WL.y (vI (c nx2)) 68 (x_load rfl rfl Try.underlying3 rfl ((HP.oldRange hH21 trivial (hrow nx2 (by omega))) 0 _ rfl)) ?_)))))))
        by_cases h35 : c nx2 ≠ 35
        ·
         refine WL.y (.bool true) 69 (x_neq rfl rfl rfl (dT (h35))) (WL.z (.bool true) 70 (WL.k hK23 (WC.sb [(0, .slice (some ⟨bb, oo, none⟩) n cap), (1, vI (k : Int)), (4, vI 0), (5, vI 0), (6, vI 0), (7, vI (nx1 : Int)), (8, vI (nx1 : Int)), (9, vI (d1 : Int)), (10, vI (nx2 : Int)), (11, vI (d2 : Int)), (26, .bool false), (32, .bool true), (46, .bool false), (70, .bool true)] ?_)))
         refine WC.yes rfl ?_
         refine WC.seq fun K26 hK26 => WC.region (WL.z (vI 0) 4 (WL.z (vI 0) 5 (WL.z (vI (-1)) 6 (WL.k hK26 (WC.ret ?_)))))
         refine WQ.thenRet ?_
         refine WQ.thenRet ?_
         refine WQ.ret3 4 5 6 rfl rfl rfl rfl ?_
         exact ⟨0, 0, -1, rfl, .inl ⟨rfl, rfl, rfl, Fail_alt_else (two_yes (by omega)) hS1 (by omega) h34 hS2 (by omega) (by have := ht2 (by omega); omega) (by omega)⟩, HP.below hH21⟩
        ·
         refine WL.y (.bool false) 69 (x_neq rfl rfl rfl (dF (h35))) (WL.z (.bool false) 70 (WL.k hK23 (WC.sb [(0, .slice (some ⟨bb, oo, none⟩) n cap), (1, vI (k : Int)), (4, vI 0), (5, vI 0), (6, vI 0), (7, vI (nx1 : Int)), (8, vI (nx1 : Int)), (9, vI (d1 : Int)), (10, vI (nx2 : Int)), (11, vI (d2 : Int)), (26, .bool false), (32, .bool true), (46, .bool false), (70, .bool false)] ?_)))
         refine WC.no rfl ?_
         refine WC.skip (WQ.then (hK22 _ _ _ (WC.seq fun K27 hK27 => WC.region (WL.z (vI (nx2 : Int)) 71 (WL.z (vI (nx2 : Int)) 8 (WL.k hK27 (WC.region (WL.z (vI (d1 : Int)) 72 ?_))))))))
         refine WL.z (vI (d2 : Int)) 73 (WL.y (vI ((max d1 d2 : Nat) : Int)) 74 (x_max (Z := ((max d1 d2 : Nat) : Int)) (t := 0) rfl rfl rfl (by split <;> omega)) (WL.z (vI ((max d1 d2 : Nat) : Int)) 9 (WL.k hK12 (WC.sb [(0, .slice (some ⟨bb, oo, none⟩) n cap), (1, vI (k : Int)), (4, vI 0), (5, vI 0), (6, vI 0), (7, vI (nx1 : Int)), (8, vI (nx2 : Int)), (9, vI ((max d1 d2 : Nat) : Int)), (10, vI (nx2 : Int)), (11, vI (d2 : Int)), (26, .bool false), (32, .bool true), (46, .bool false), (70, .bool false)] (WC.seq fun K28 hK28 => WC.region (WL.z (vI (nx1 : Int)) 81 (WL.z (vI (nx2 : Int)) 82 (WL.z (vI ((max d1 d2 : Nat) : Int)) 83 ?_))))))))
         refine WL.z (vI (nx1 : Int)) 4 (WL.z (vI (nx2 : Int)) 5 (WL.z (vI ((max d1 d2 : Nat) : Int)) 6 (WL.k hK28 (WC.sb [(0, .slice (some ⟨bb, oo, none⟩) n cap), (1, vI (k : Int)), (4, vI (nx1 : Int)), (5, vI (nx2 : Int)), (6, vI ((max d1 d2 : Nat) : Int)), (7, vI (nx1 : Int)), (8, vI (nx2 : Int)), (9, vI ((max d1 d2 : Nat) : Int)), (10, vI (nx2 : Int)), (11, vI (d2 : Int)), (26, .bool false), (32, .bool true), (46, .bool false), (70, .bool false)] (WC.ret ?_)))))
         refine WQ.ret3 4 5 6 rfl rfl rfl rfl ?_
         exact ⟨(nx1 : Int), nx2, ((max d1 d2 : Nat) : Int), rfl, .inr ⟨by omega, by omega, by omega, by simpa using BraS_alt (two_yes (by omega)) hS1 (by omega) h34 hS2 (by omega) (by omega)⟩, HP.below hH21⟩
    ·
     refine WL.y (.bool false) 38 (x_neq rfl rfl rfl (dF (h29))) (WL.z (.bool false) 39 (WL.p 40 (WL.p 41 (WL.p 42 (WL.p 43 (WL.p 44 (WL.p 45 (WL.z (.bool false) 46 (WL.k hK15 ?_)))))))))
     refine WC.sb [(0, .slice (some ⟨bb, oo, none⟩) n cap), (1, vI (k : Int)), (4, vI 0), (5, vI 0), (6, vI 0), (7, vI (-1)), (8, vI (nx1 : Int)), (9, vI (d1 : Int)), (26, .bool false), (32, .bool true), (46, .bool false)] ?_
     refine WC.no rfl ?_
     refine WC.skip (WQ.then (hK14 _ _ _ (WC.seq fun K29 hK29 => WC.region (WL.z (vI (nx1 : Int)) 47 (WL.z (vI (nx1 : Int)) 7 (WL.k hK29 (WC.seq fun K30 hK30 => WC.region ?_)))))))
     refine WL.z (.slice (some ⟨bb, oo, none⟩) n cap) 49 (WL.z (vI (nx1 : Int)) 50 (WL.y (vI ((nx1 + 1 : Nat) : Int)) 51 (x_ad (((nx1 + 1 : Nat) : Int))) ?_))
     refine WL.c 79 #[.slice (some ⟨bb, oo, none⟩) n cap, vI ((nx1 + 1 : Nat) : Int)] 52 ?_
     refine (hp (nx1 + 1) (by omega) (by omega) _ (hIn.below (HP.below hH7))).mono ?_
     rintro e w31 ⟨nx2, e2, rfl, hP2, hb32⟩
     refine ⟨_, rfl, ?_⟩
     have hH33 := HP.call hH7 hb32
     refine WL.z (.tuple #[vI (nx2 : Int), vI e2]) 48 (WL.z (vI (nx2 : Int)) 53 (WL.z (vI e2) 54 (WL.z (vI (nx2 : Int)) 10 (WL.z (vI e2) 11 (WL.k hK30 (WC.sb [(0, .slice (some ⟨bb, oo, none⟩) n cap), (1, vI (k : Int)), (4, vI 0), (5, vI 0), (6, vI 0), (7, vI (nx1 : Int)), (8, vI (nx1 : Int)), (9, vI (d1 : Int)), (10, vI (nx2 : Int)), (11, vI e2), (26, .bool false), (32, .bool true), (46, .bool false)] (WC.seq fun K34 hK34 => WC.seq fun K35 hK35 => WC.region ?_)))))))
     refine WL.z (vI e2) 55 ?_
     by_cases hd2 : e2 < 0
     ·
      refine WL.y (.bool true) 56 (x_lss rfl rfl rfl (dT (hd2))) (WL.z (.bool true) 57 (WL.p 58 (WL.p 59 (WL.p 60 (WL.p 61 (WL.z (.bool true) 62 (WL.z (.bool true) 63 (WL.p 64 (WL.p 65 (WL.p 66 (WL.p 67 ?_)))))))))))
      refine WL.p 68 (WL.p 69 (WL.z (.bool true) 70 (WL.k hK35 (WC.sb [(0, .slice (some ⟨bb, oo, none⟩) n cap), (1, vI (k : Int)), (4, vI 0), (5, vI 0), (6, vI 0), (7, vI (nx1 : Int)), (8, vI (nx1 : Int)), (9, vI (d1 : Int)), (10, vI (nx2 : Int)), (11, vI e2), (26, .bool false), (32, .bool true), (46, .bool false), (70, .bool true)] ?_))))
      refine WC.yes rfl ?_
      refine WC.seq fun K36 hK36 => WC.region (WL.z (vI 0) 4 (WL.z (vI 0) 5 (WL.z (vI (-1)) 6 (WL.k hK36 (WC.ret ?_)))))
      refine WQ.thenRet ?_
      refine WQ.thenRet ?_
      refine WQ.ret3 4 5 6 rfl rfl rfl rfl ?_
      exact ⟨0, 0, -1, rfl, .inl ⟨rfl, rfl, rfl, Fail_alt (two_yes (by omega)) hS1 (by omega) h34 (PR_bad hP2 hd2)⟩, HP.below hH33⟩
     ·
      obtain ⟨d2, rfl, hx2, hn2, ht2, hS2⟩ := PR_ok hP2 hd2
      refine WL.y (.bool false) 56 (x_lss rfl rfl rfl (dF (hd2))) (WL.z (.bool false) 57 (WL.z (vI (nx2 : Int)) 58 (WL.z (.slice (some ⟨bb, oo, none⟩) n cap) 59 (WL.z (vI (n : Int)) 60 ?_))))
      by_cases hnx2 : (n : Int) ≤ (nx2 : Int)
      ·
       refine WL.y (.bool true) 61 (x_geq rfl rfl rfl (dT (hnx2))) (WL.z (.bool true) 62 (WL.z (.bool true) 63 (WL.p 64 (WL.p 65 (WL.p 66 (WL.p 67 (WL.p 68 (WL.p 69 (WL.z (.bool true) 70 (WL.nil (WQ.then ?_)))))))))))
       refine hK35 _ _ _ (WC.sb [(0, .slice (some ⟨bb, oo, none⟩) n cap), (1, vI (k : Int)), (4, vI 0), (5, vI 0), (6, vI 0), (7, vI (nx1 : Int)), (8, vI (nx1 : Int)), (9, vI (d1 : Int)), (10, vI (nx2 : Int)), (11, vI (d2 : Int)), (26, .bool false), (32, .bool true), (46, .bool false), (70, .bool true)] ?_)
       refine WC.yes rfl ?_
       refine WC.seq fun K37 hK37 => WC.region (WL.z (vI 0) 4 (WL.z (vI 0) 5 (WL.z (vI (-1)) 6 (WL.k hK37 (WC.ret ?_)))))
       refine WQ.thenRet ?_
       refine WQ.thenRet ?_
       refine WQ.ret3 4 5 6 rfl rfl rfl rfl ?_
       exact ⟨0, 0, -1, rfl, .inl ⟨rfl, rfl, rfl, Fail_alt_end (d2 := d2) (two_yes (by omega)) hS1 (by omega) h34 (nend hS2 (by omega))⟩, HP.below hH33⟩
      ·
       refine WL.y (.bool false) 61 (x_geq rfl rfl rfl (dF (hnx2))) (WL.z (.bool false) 62 (WL.z (.bool false) 63 (WL.z (.slice (some ⟨bb, oo, none⟩) n cap) 64 (WL.z (vI (nx2 : Int)) 65 (WL.y (vP bb (oo + nx2 * 3)) 66 (x_ix (nx2) (oo + nx2 * 3) Try.underlying42 sz75) (WL.z (vP bb (oo + nx2 * 3)) 67 (WL.y (vI (c nx2)) 68 (x_load rfl rfl Try.underlying3 rfl ((HP.oldRange hH33 trivial (hrow nx2 (by omega))) 0 _ rfl)) ?_)))))))
       by_cases h35 : c nx2 ≠ 35
       ·
        refine WL.y (.bool true) 69 (x_neq rfl rfl rfl (dT (h35))) (WL.z (.bool true) 70 (WL.k hK35 (WC.sb [(0, .slice (some ⟨bb, oo, none⟩) n cap), (1, vI (k : Int)), (4, vI 0), (5, vI 0), (6, vI 0), (7, vI (nx1 : Int)), (8, vI (nx1 : Int)), (9, vI (d1 : Int)), (10, vI (nx2 : Int)), (11, vI (d2 : Int)), (26, .bool false), (32, .bool true), (46, .bool false), (70, .bool true)] ?_)))
        refine WC.yes rfl ?_
        refine WC.seq fun K38 hK38 => WC.region (WL.z (vI 0) 4 (WL.z (vI 0) 5 (WL.z (vI (-1)) 6 (WL.k hK38 (WC.ret ?_)))))
        refine WQ.thenRet ?_
        refine WQ.thenRet ?_
        refine WQ.ret3 4 5 6 rfl rfl rfl rfl ?_
        exact ⟨0, 0, -1, rfl, .inl ⟨rfl, rfl, rfl, Fail_alt_else (two_yes (by omega)) hS1 (by omega) h34 hS2 (by omega) (by have := ht2 (by omega); omega) (by omega)⟩, HP.below hH33⟩
       ·
        refine WL.y (.bool false) 69 (x_neq rfl rfl rfl (dF (h35))) (WL.z (.bool false) 70 (WL.k hK35 (WC.sb [(0, .slice (some ⟨bb, oo, none⟩) n cap), (1, vI (k : Int)), (4, vI 0), (5, vI 0), (6, vI 0), (7, vI (nx1 : Int)), (8, vI (nx1 : Int)), (9, vI (d1 : Int)), (10, vI (nx2 : Int)), (11, vI (d2 : Int)), (26, .bool false), (32, .bool true), (46, .bool false), (70, .bool false)] ?_)))
        refine WC.no rfl ?_
        refine WC.skip (WQ.then (hK34 _ _ _ (WC.seq fun K39 hK39 => WC.region (WL.z (vI (nx2 : Int)) 71 (WL.z (vI (nx2 : Int)) 8 (WL.k hK39 (WC.region (WL.z (vI (d1 : Int)) 72 ?_))))))))
        refine WL.z (vI (d2 : Int)) 73 (WL.y (vI ((max d1 d2 : Nat) : Int)) 74 (x_max (Z := ((max d1 d2 : Nat) : Int)) (t := 0) rfl rfl rfl (by split <;> omega)) (WL.z (vI ((max d1 d2 : Nat) : Int)) 9 (WL.k hK12 (WC.sb [(0, .slice (some ⟨bb, oo, none⟩) n cap), (1, vI (k : Int)), (4, vI 0), (5, vI 0), (6, vI 0), (7, vI (nx1 : Int)), (8, vI (nx2 : Int)), (9, vI ((max d1 d2 : Nat) : Int)), (10, vI (nx2 : Int)), (11, vI (d2 : Int)), (26, .bool false), (32, .bool true), (46, .bool false), (70, .bool false)] (WC.seq fun K40 hK40 => WC.region (WL.z (vI (nx1 : Int)) 81 (WL.z (vI (nx2 : Int)) 82 (WL.z (vI ((max d1 d2 : Nat) : Int)) 83 ?_))))))))
        refine WL.z (vI (nx1 : Int)) 4 (WL.z (vI (nx2 : Int)) 5 (WL.z (vI ((max d1 d2 : Nat) : Int)) 6 (WL.k hK40 (WC.sb [(0, .slice (some ⟨bb, oo, none⟩) n cap), (1, vI (k : Int)), (4, vI (nx1 : Int)), (5, vI (nx2 : Int)), (6, vI ((max d1 d2 : Nat) : Int)), (7, vI (nx1 : Int)), (8, vI (nx2 : Int)), (9, vI ((max d1 d2 : Nat) : Int)), (10, vI (nx2 : Int)), (11, vI (d2 : Int)), (26, .bool false), (32, .bool true), (46, .bool false), (70, .bool false)] (WC.ret ?_)))))
        refine WQ.ret3 4 5 6 rfl rfl rfl rfl ?_
        exact ⟨(nx1 : Int), nx2, ((max d1 d2 : Nat) : Int), rfl, .inr ⟨by omega, by omega, by omega, by simpa using BraS_alt (two_yes (by omega)) hS1 (by omega) h34 hS2 (by omega) (by omega)⟩, HP.below hH33⟩
   ·
    refine WL.y (.bool false) 32 (x_eql rfl rfl rfl (dF (h34))) (WL.k hK13 ?_)
    refine WC.no rfl ?_
    refine WC.seq fun K41 hK41 => WC.region (WL.z (.slice (some ⟨bb, oo, none⟩) n cap) 75 (WL.z (vI (k : Int)) 76 (WL.y (vP bb (oo + k * 3)) 77 (x_ix (k) (oo + k * 3) Try.underlying42 sz75) (WL.z (vP bb (oo + k * 3)) 78 (WL.y (vI (c k)) 79 (x_load rfl rfl Try.underlying3 rfl ((HP.oldRange hH7 trivial (hrow k (by omega))) 0 _ rfl)) ?_)))))
    by_cases h33 : c k = 33
    ·
     refine WL.y (.bool true) 80 (x_eql rfl rfl rfl (dT (h33))) (WL.k hK41 (WC.sb [(0, .slice (some ⟨bb, oo, none⟩) n cap), (1, vI (k : Int)), (4, vI 0), (5, vI 0), (6, vI 0), (7, vI (-1)), (8, vI (nx1 : Int)), (9, vI (d1 : Int)), (26, .bool false), (32, .bool false), (80, .bool true)] ?_))
     refine WC.yes rfl ?_
     refine WC.seq fun K42 hK42 => WC.region (WL.z (vI 0) 4 (WL.z (vI 0) 5 (WL.z (vI (-1)) 6 (WL.k hK42 (WC.ret ?_)))))
     refine WQ.thenRet ?_
     refine WQ.ret3 4 5 6 rfl rfl rfl rfl ?_
     exact ⟨0, 0, -1, rfl, .inl ⟨rfl, rfl, rfl, Fail_try hO hS1 (by omega) (by have := ht1 (by omega); omega) (by omega) h33⟩, HP.below hH7⟩
    ·
     refine WL.y (.bool false) 80 (x_eql rfl rfl rfl (dF (h33))) (WL.k hK41 (WC.sb [(0, .slice (some ⟨bb, oo, none⟩) n cap), (1, vI (k : Int)), (4, vI 0), (5, vI 0), (6, vI 0), (7, vI (-1)), (8, vI (nx1 : Int)), (9, vI (d1 : Int)), (26, .bool false), (32, .bool false), (80, .bool false)] ?_))
     refine WC.no rfl ?_
     refine WC.skip (WQ.then (hK12 _ _ _ (WC.seq fun K43 hK43 => WC.region (WL.z (vI (-1)) 81 (WL.z (vI (nx1 : Int)) 82 (WL.z (vI (d1 : Int)) 83 (WL.z (vI (-1)) 4 (WL.z (vI (nx1 : Int)) 5 (WL.z (vI (d1 : Int)) 6 (WL.nil ?_))))))))))
     refine WQ.then (hK43 _ _ _ (WC.sb [(0, .slice (some ⟨bb, oo, none⟩) n cap), (1, vI (k : Int)), (4, vI (-1)), (5, vI (nx1 : Int)), (6, vI (d1 : Int)), (7, vI (-1)), (8, vI (nx1 : Int)), (9, vI (d1 : Int)), (26, .bool false), (32, .bool false), (80, .bool false)] (WC.ret ?_)))
     refine WQ.ret3 4 5 6 rfl rfl rfl rfl ?_
     exact ⟨-1, nx1, (d1 : Int), rfl, .inr ⟨by omega, by omega, by omega, by simpa using BraS_plain hO hS1 (by omega) (by have := ht1 (by omega); omega) (by omega)⟩, HP.below hH7⟩
theorem par_any (p : Option Addr) (n cap : Nat) (c A B : Nat → Int) (at' : Nat) (hn : n ≤ 400) (hat : at' ≤ n) (hb : ∀ k, at' ≤ k → k < n → opn (c k) = true → BraC p n cap c A B k) (w : World) (hIn : InC w p n c A B) :
  Calls Try.prog 79 #[.slice p n cap, vI (at' : Int)] w fun e w' => ∃ (nx : Nat) (d : Int), e = .returned (.tuple #[.int .i64 (nx : Int), .int .i64 d]) ∧ PR c n at' nx d ∧ Below w.heap.size w w' := by
 refine calls_of Try.func79 rfl (m := 56) rfl [(0, .slice p n cap), (1, vI (at' : Int))] (Fr_enter [.slice p n cap, vI (at' : Int)] 56 (Nat.le_of_ble_eq_true rfl)) ?_
 have hH1 : HP Tr w w [] := HP.refl w
 refine WC.seq fun K2 hK2 => WC.region (WL.z (vI 0) 4 (WL.z (vI 0) 5 (WL.k hK2 (WC.seq fun K3 hK3 => WC.region (WL.z (vI 0) 6 (WL.nil (WQ.then ?_)))))))
 refine hK3 _ _ _ (WC.seq fun K4 hK4 => WC.block ?_)
 refine WC.loop (fun kk0 ll0 ww0 => ∃ (j : Nat) (d : Nat), ll0 = [(0, .slice p n cap), (1, vI (j : Int)), (6, vI (d : Int))] ∧ kk0 = n - j ∧ (at' ≤ j) ∧ (j ≤ n) ∧ (d + at' ≤ j) ∧ (ParS c at' j d) ∧ HP Tr w ww0 []) (n - at') [(0, .slice p n cap), (1, vI (at' : Int)), (6, vI (0 : Int))] ⟨rfl, rfl, rfl, trivial⟩ ⟨at', 0, rfl, rfl, Nat.le_refl _, hat, by omega, ParS_nil _ _, hH1⟩ ?_
 rintro kk l w6 ⟨j, d, rfl, hkk, hj1, hj2, hjd, hP, hH7⟩ K5 hK5
 refine WC.seq fun K8 hK8 => WC.seq fun K9 hK9 => WC.region (WL.z (vI (j : Int)) 10 (WL.z (.slice p n cap) 11 (WL.z (vI (n : Int)) 12 ?_)))
 by_cases hlt : (j : Int) < (n : Int)
 ·
  obtain ⟨bb, oo, rfl, hrow⟩ := hIn (by omega)
  refine WL.y (.bool true) 13 (x_lss rfl rfl rfl (dT (hlt))) (WL.z (.bool true) 14 (WL.z (.slice (some ⟨bb, oo, none⟩) n cap) 15 (WL.z (vI (j : Int)) 16 (WL.y (vP bb (oo + j * 3)) 17 (x_ix (j) (oo + j * 3) Try.underlying42 sz75) (WL.z (vP bb (oo + j * 3)) 18 (WL.y (vI (c j)) 19 (x_load rfl rfl Try.underlying3 rfl ((HP.oldRange hH7 trivial (hrow j (by omega))) 0 _ rfl)) ?_))))))
  by_cases h34 : c j ≠ 34
  ·
   refine WL.y (.bool true) 20 (x_neq rfl rfl rfl (dT (h34))) (WL.z (.bool true) 21 (WL.z (.bool true) 22 (WL.z (.slice (some ⟨bb, oo, none⟩) n cap) 23 (WL.z (vI (j : Int)) 24 (WL.y (vP bb (oo + j * 3)) 25 (x_ix (j) (oo + j * 3) Try.underlying42 sz75) (WL.z (vP bb (oo + j * 3)) 26 (WL.y (vI (c j)) 27 (x_load rfl rfl Try.underlying3 rfl ((HP.oldRange hH7 trivial (hrow j (by omega))) 0 _ rfl)) ?_)))))))
   by_cases h35 : c j ≠ 35
   ·
    refine WL.y (.bool true) 28 (x_neq rfl rfl rfl (dT (h35))) (WL.z (.bool true) 29 (WL.k hK9 (WC.sb [(0, .slice (some ⟨bb, oo, none⟩) n cap), (1, vI (j : Int)), (6, vI (d : Int)), (29, .bool true)] ?_)))
    refine WC.yes rfl ?_
    refine WC.skip (WQ.then (hK8 _ _ _ (WC.block (WC.seq fun K10 hK10 => WC.seq fun K11 hK11 => WC.region (WL.z (.slice (some ⟨bb, oo, none⟩) n cap) 30 (WL.z (vI (j : Int)) 31 (WL.y (vP bb (oo + j * 3)) 32 (x_ix (j) (oo + j * 3) Try.underlying42 sz75) (WL.z (vP bb (oo + j * 3)) 33 (WL.y (vI (c j)) 34 (x_load rfl rfl Try.underlying3 rfl ((HP.oldRange hH7 trivial (hrow j (by omega))) 0 _ rfl)) ?_)))))))))
    refine WL.c 77 #[vI (c j)] 35 ?_
    refine (rOpens_any _ _).mono ?_
    rintro e w12 ⟨rfl, rfl⟩
    refine ⟨_, rfl, ?_⟩
    refine WL.z (.bool (!(opn (c j)))) 36 (WL.k hK11 (WC.sb [(0, .slice (some ⟨bb, oo, none⟩) n cap), (1, vI (j : Int)), (6, vI (d : Int)), (29, .bool true), (36, .bool (!(opn (c j))))] ?_))
    rcases Bool.eq_false_or_eq_true (opn (c j)) with hO | hO
    ·
     refine WC.no (congrArg (fun b => some (Value.bool (!b))) hO) ?_
     refine WC.skip (WQ.then (hK10 _ _ _ (WC.seq fun K13 hK13 => WC.region (WL.z (.slice (some ⟨bb, oo, none⟩) n cap) 40 (WL.z (vI (j : Int)) 41 ?_)))))
     refine WL.c 80 #[.slice (some ⟨bb, oo, none⟩) n cap, vI (j : Int)] 42 ?_
     refine (hb j (by omega) (by omega) hO _ (hIn.below (HP.below hH7))).mono ?_
     rintro e w14 ⟨a1, e1, x1, rfl, hBR, hb15⟩
     refine ⟨_, rfl, ?_⟩
     have hH16 := HP.call hH7 hb15
     refine WL.z (.tuple #[vI a1, vI (e1 : Int), vI x1]) 39 (WL.z (vI a1) 43 (WL.z (vI (e1 : Int)) 44 (WL.z (vI x1) 45 (WL.z (vI a1) 7 (WL.z (vI (e1 : Int)) 8 (WL.z (vI x1) 9 (WL.k hK13 (WC.sb [(0, .slice (some ⟨bb, oo, none⟩) n cap), (1, vI (j : Int)), (6, vI (d : Int)), (8, vI (e1 : Int)), (9, vI x1), (29, .bool true), (36, .bool (!(opn (c j))))] (WC.seq fun K17 hK17 => ?_)))))))))
     refine WC.seq fun K18 hK18 => WC.region (WL.z (vI x1) 46 ?_)
     by_cases hd : x1 < 0
     ·
      refine WL.y (.bool true) 47 (x_lss rfl rfl rfl (dT (hd))) (WL.k hK18 ?_)
      refine WC.yes rfl ?_
      refine WC.seq fun K19 hK19 => WC.region (WL.z (vI 0) 4 (WL.z (vI (-1)) 5 (WL.k hK19 (WC.ret ?_))))
      refine WQ.thenRet ?_
      refine WQ.inRet ?_
      refine WQ.thenRet ?_
      refine WQ.inRet ?_
      refine WQ.thenRet ?_
      refine WQ.ret2 4 5 rfl rfl rfl ?_
      exact ⟨0, -1, rfl, .inl ⟨rfl, rfl, Fail_par hP (BR_bad hBR hd)⟩, HP.below hH16⟩
     ·
      obtain ⟨d2, rfl, h1, h2, hBS⟩ := BR_ok hBR hd
      refine WL.y (.bool false) 47 (x_lss rfl rfl rfl (dF (hd))) (WL.k hK18 ?_)
      refine WC.no rfl ?_
      refine WC.skip (WQ.then (hK17 _ _ _ (WC.seq fun K20 hK20 => WC.region (WL.z (vI (d : Int)) 48 (WL.z (vI (d2 : Int)) 49 (WL.y (vI ((d2 + 1 : Nat) : Int)) 50 (x_ad (((d2 + 1 : Nat) : Int))) (WL.y (vI ((max d (d2 + 1) : Nat) : Int)) 51 (x_max (Z := ((max d (d2 + 1) : Nat) : Int)) (t := 0) rfl rfl rfl (by split <;> omega)) (WL.z (vI ((max d (d2 + 1) : Nat) : Int)) 6 (WL.nil (WQ.then ?_))))))))))
      refine hK20 _ _ _ (WC.sb [(0, .slice (some ⟨bb, oo, none⟩) n cap), (1, vI (j : Int)), (6, vI ((max d (d2 + 1) : Nat) : Int)), (8, vI (e1 : Int)), (9, vI (d2 : Int)), (29, .bool true), (36, .bool (!(opn (c j)))), (47, .bool false)] (WC.region (WL.z (vI (e1 : Int)) 52 (WL.y (vI ((e1 + 1 : Nat) : Int)) 53 (x_ad (((e1 + 1 : Nat) : Int))) (WL.z (vI ((e1 + 1 : Nat) : Int)) 1 (WL.nil (WQ.inNormal (WQ.sb [(0, .slice (some ⟨bb, oo, none⟩) n cap), (1, vI ((e1 + 1 : Nat) : Int)), (6, vI ((max d (d2 + 1) : Nat) : Int))] ?_))))))))
      refine WQ.then (hK5 _ _ _ (by omega) ⟨e1 + 1, max d (d2 + 1), rfl, rfl, by omega, by omega, by omega, ParS_bra hP (by omega) hBS, hH16⟩)
    ·
     refine WC.yes (congrArg (fun b => some (Value.bool (!b))) hO) ?_
     refine WC.seq fun K21 hK21 => WC.region (WL.z (vI (j : Int)) 37 (WL.y (vI ((j + 1 : Nat) : Int)) 38 (x_ad (((j + 1 : Nat) : Int))) (WL.z (vI ((j + 1 : Nat) : Int)) 1 (WL.k hK21 (WC.exit (WQ.thenExit (WQ.inExit (WQ.sb [(0, .slice (some ⟨bb, oo, none⟩) n cap), (1, vI ((j + 1 : Nat) : Int)), (6, vI (d : Int))] ?_))))))))
     refine WQ.then (hK5 _ _ _ (by omega) ⟨j + 1, d, rfl, rfl, by omega, by omega, by omega, ParS_other hP (by omega) hO h34 h35, hH7⟩)
   ·
    refine WL.y (.bool false) 28 (x_neq rfl rfl rfl (dF (h35))) (WL.z (.bool false) 29 (WL.k hK9 (WC.sb [(0, .slice (some ⟨bb, oo, none⟩) n cap), (1, vI (j : Int)), (6, vI (d : Int)), (29, .bool false)] ?_)))
    refine WC.no rfl ?_
    refine WC.exit (WQ.thenExit (WQ.thenExit (WQ.inExit (WQ.then (hK4 _ _ _ (WC.seq fun K22 hK22 => WC.region (WL.z (vI (j : Int)) 54 (WL.z (vI (d : Int)) 55 (WL.z (vI (j : Int)) 4 (WL.z (vI (d : Int)) 5 ?_))))))))))
    refine WL.k hK22 (WC.ret ?_)
    refine WQ.ret2 4 5 rfl rfl rfl ?_
    exact ⟨j, (d : Int), rfl, .inr ⟨by omega, by omega, by omega, fun hq => by omega, by simpa using hP⟩, HP.below hH7⟩
  ·
   refine WL.y (.bool false) 20 (x_neq rfl rfl rfl (dF (h34))) (WL.z (.bool false) 21 (WL.z (.bool false) 22 (WL.p 23 (WL.p 24 (WL.p 25 (WL.p 26 (WL.p 27 (WL.p 28 (WL.z (.bool false) 29 (WL.nil (WQ.then ?_)))))))))))
   refine hK9 _ _ _ (WC.sb [(0, .slice (some ⟨bb, oo, none⟩) n cap), (1, vI (j : Int)), (6, vI (d : Int)), (29, .bool false)] ?_)
   refine WC.no rfl ?_
   refine WC.exit (WQ.thenExit (WQ.thenExit (WQ.inExit (WQ.then (hK4 _ _ _ (WC.seq fun K23 hK23 => WC.region (WL.z (vI (j : Int)) 54 (WL.z (vI (d : Int)) 55 (WL.z (vI (j : Int)) 4 (WL.z (vI (d : Int)) 5 ?_))))))))))
   refine WL.k hK23 (WC.ret ?_)
   refine WQ.ret2 4 5 rfl rfl rfl ?_
   exact ⟨j, (d : Int), rfl, .inr ⟨by omega, by omega, by omega, fun hq => by omega, by simpa using hP⟩, HP.below hH7⟩
 ·
  refine WL.y (.bool false) 13 (x_lss rfl rfl rfl (dF (hlt))) (WL.z (.bool false) 14 (WL.p 15 (WL.p 16 (WL.p 17 (WL.p 18 (WL.p 19 (WL.p 20 (WL.z (.bool false) 21 (WL.z (.bool false) 22 (WL.p 23 (WL.p 24 ?_)))))))))))
  refine WL.p 25 (WL.p 26 (WL.p 27 (WL.p 28 (WL.z (.bool false) 29 (WL.k hK9 (WC.sb [(0, .slice p n cap), (1, vI (j : Int)), (6, vI (d : Int)), (29, .bool false)] ?_))))))
  refine WC.no rfl ?_
  refine WC.exit (WQ.thenExit (WQ.thenExit (WQ.inExit (WQ.then (hK4 _ _ _ (WC.seq fun K24 hK24 => WC.region (WL.z (vI (j : Int)) 54 (WL.z (vI (d : Int)) 55 (WL.z (vI (j : Int)) 4 (WL.z (vI (d : Int)) 5 ?_))))))))))
  refine WL.k hK24 (WC.ret ?_)
  refine WQ.ret2 4 5 rfl rfl rfl ?_
  exact ⟨j, (d : Int), rfl, .inr ⟨by omega, by omega, by omega, fun hq => by omega, by simpa using hP⟩, HP.below hH7⟩
theorem both (p : Option Addr) (n cap : Nat) (c A B : Nat → Int) (hn : n ≤ 400) : ∀ (f at' : Nat), n - at' ≤ f → at' ≤ n → ParC p n cap c A B at'
  | 0, at', hf, hat => par_any p n cap c A B at' hn hat (fun k h1 h2 _ => absurd h1 (by omega))
  | f + 1, at', hf, hat => par_any p n cap c A B at' hn hat (fun k h1 h2 hO => bra_any p n cap c A B k hn h2 hO (fun a ha1 ha2 => both p n cap c A B hn f a (by omega) ha2))
theorem parts_any (p : Option Addr) (n cap : Nat) (c A B : Nat → Int) (hn : n ≤ 400) (at' : Nat) (h : at' ≤ n) : ParC p n cap c A B at' := both p n cap c A B hn n at' (by omega) h
theorem bracket_any (p : Option Addr) (n cap : Nat) (c A B : Nat → Int) (hn : n ≤ 400) (k : Nat) (h : k < n) (hO : opn (c k) = true) : BraC p n cap c A B k := bra_any p n cap c A B k hn h hO (fun a _ ha => parts_any p n cap c A B hn a ha)
end Ec
end Go.Proofs.Ytmjnakhpekbenaa
namespace Go.Proofs.Ytmjnakhpekbenaa
open Go.RowKit Go.Sort
namespace Ec
set_option maxHeartbeats 4000000 in
theorem rValid_0 (a b : Int) (p : Bool) (w : World) :
    Calls Try.prog 78 #[.agg #[.int .i64 0, .int .i64 a, .int .i64 b], .bool p] w fun e w' => e = .returned (.bool (vld 0 a b p)) ∧ Below w.heap.size w w' := by
  have HV := hide (vld_nat 0 (by omega) a b p)
  have s1 : (sp 0).a = 0 := rfl
  have s2 : (sp 0).b = 0 := rfl
  rw [s1, s2] at HV
  clear s1 s2
  by_cases hb : b = 0
  · subst hb
    by_cases ha : a = 0
    · subst ha
      go_enter Try.func78, Try.ntmps78
      go_wp2_with (first | (go_at_call 93; refine (rOperands_0 _).mono ?_; rintro e ws ⟨rfl, rfl⟩) | (go_at_call 94; refine (rin_any _ _ _ _).mono ?_; rintro e ws ⟨rfl, rfl⟩) | (go_at_call 95; refine (rmost_10 _ _).mono ?_; rintro e ws ⟨rfl, rfl⟩) | (go_at_call 95; refine (rmost_7 _ _).mono ?_; rintro e ws ⟨rfl, rfl⟩) | (go_at_call 95; refine (rmost_16 _ _).mono ?_; rintro e ws ⟨rfl, rfl⟩))
      go_ret
      exact ⟨ret_b (Eq.trans (by first | (simp [rng, mosts, rmo]; done) | (simp [rng, mosts, rmo]; omega) | (rw [Bool.eq_iff_iff]; simp [rng, mosts, rmo] <;> omega)) HV.out.symm), by go_grown⟩
    · have ha2 : (a == 0) = false := by simpa using ha
      have ha3 : (a != 0) = true := by simpa using ha
      go_enter Try.func78, Try.ntmps78
      go_wp2_with (first | (go_at_call 93; refine (rOperands_0 _).mono ?_; rintro e ws ⟨rfl, rfl⟩) | (go_at_call 94; refine (rin_any _ _ _ _).mono ?_; rintro e ws ⟨rfl, rfl⟩) | (go_at_call 95; refine (rmost_10 _ _).mono ?_; rintro e ws ⟨rfl, rfl⟩) | (go_at_call 95; refine (rmost_7 _ _).mono ?_; rintro e ws ⟨rfl, rfl⟩) | (go_at_call 95; refine (rmost_16 _ _).mono ?_; rintro e ws ⟨rfl, rfl⟩))
      go_ret
      exact ⟨ret_b (Eq.trans (by first | (simp [rng, mosts, rmo, ha]; done) | (simp [rng, mosts, rmo, ha]; omega) | (rw [Bool.eq_iff_iff]; simp [rng, mosts, rmo, ha] <;> omega)) HV.out.symm), by go_grown⟩
  · have hb2 : (b == 0) = false := by simpa using hb
    have hb3 : (b != 0) = true := by simpa using hb
    go_enter Try.func78, Try.ntmps78
    go_wp2_with (first | (go_at_call 93; refine (rOperands_0 _).mono ?_; rintro e ws ⟨rfl, rfl⟩) | (go_at_call 94; refine (rin_any _ _ _ _).mono ?_; rintro e ws ⟨rfl, rfl⟩) | (go_at_call 95; refine (rmost_10 _ _).mono ?_; rintro e ws ⟨rfl, rfl⟩) | (go_at_call 95; refine (rmost_7 _ _).mono ?_; rintro e ws ⟨rfl, rfl⟩) | (go_at_call 95; refine (rmost_16 _ _).mono ?_; rintro e ws ⟨rfl, rfl⟩))
    go_ret
    exact ⟨ret_b (Eq.trans (by first | (simp [rng, mosts, rmo, hb]; done) | (simp [rng, mosts, rmo, hb]; omega) | (rw [Bool.eq_iff_iff]; simp [rng, mosts, rmo, hb] <;> omega)) HV.out.symm), by go_grown⟩
set_option maxHeartbeats 4000000 in
theorem rValid_1 (a b : Int) (p : Bool) (w : World) :
    Calls Try.prog 78 #[.agg #[.int .i64 1, .int .i64 a, .int .i64 b], .bool p] w fun e w' => e = .returned (.bool (vld 1 a b p)) ∧ Below w.heap.size w w' := by
  have HV := hide (vld_nat 1 (by omega) a b p)
  have s1 : (sp 1).a = 1 := rfl
  have s2 : (sp 1).b = 0 := rfl
  rw [s1, s2] at HV
  clear s1 s2
  by_cases hb : b = 0
  · subst hb
    go_enter Try.func78, Try.ntmps78
    go_wp2_with (first | (go_at_call 93; refine (rOperands_1 _).mono ?_; rintro e ws ⟨rfl, rfl⟩) | (go_at_call 94; refine (rin_any _ _ _ _).mono ?_; rintro e ws ⟨rfl, rfl⟩) | (go_at_call 95; refine (rmost_10 _ _).mono ?_; rintro e ws ⟨rfl, rfl⟩) | (go_at_call 95; refine (rmost_7 _ _).mono ?_; rintro e ws ⟨rfl, rfl⟩) | (go_at_call 95; refine (rmost_16 _ _).mono ?_; rintro e ws ⟨rfl, rfl⟩))
    go_ret
    exact ⟨ret_b (Eq.trans (by first | (simp [rng, mosts, rmo]; done) | (simp [rng, mosts, rmo]; omega) | (rw [Bool.eq_iff_iff]; simp [rng, mosts, rmo] <;> omega)) HV.out.symm), by go_grown⟩
  · have hb2 : (b == 0) = false := by simpa using hb
    have hb3 : (b != 0) = true := by simpa using hb
    go_enter Try.func78, Try.ntmps78
    go_wp2_with (first | (go_at_call 93; refine (rOperands_1 _).mono ?_; rintro e ws ⟨rfl, rfl⟩) | (go_at_call 94; refine (rin_any _ _ _ _).mono ?_; rintro e ws ⟨rfl, rfl⟩) | (go_at_call 95; refine (rmost_10 _ _).mono ?_; rintro e ws ⟨rfl, rfl⟩) | (go_at_call 95; refine (rmost_7 _ _).mono ?_; rintro e ws ⟨rfl, rfl⟩) | (go_at_call 95; refine (rmost_16 _ _).mono ?_; rintro e ws ⟨rfl, rfl⟩))
    go_ret
    exact ⟨ret_b (Eq.trans (by first | (simp [rng, mosts, rmo, hb]; done) | (simp [rng, mosts, rmo, hb]; omega) | (rw [Bool.eq_iff_iff]; simp [rng, mosts, rmo, hb] <;> omega)) HV.out.symm), by go_grown⟩
set_option maxHeartbeats 4000000 in
theorem rValid_2 (a b : Int) (p : Bool) (w : World) :
    Calls Try.prog 78 #[.agg #[.int .i64 2, .int .i64 a, .int .i64 b], .bool p] w fun e w' => e = .returned (.bool (vld 2 a b p)) ∧ Below w.heap.size w w' := by
  have HV := hide (vld_nat 2 (by omega) a b p)
  have s1 : (sp 2).a = 2 := rfl
  have s2 : (sp 2).b = 0 := rfl
  rw [s1, s2] at HV
  clear s1 s2
  by_cases hb : b = 0
  · subst hb
    go_enter Try.func78, Try.ntmps78
    go_wp2_with (first | (go_at_call 93; refine (rOperands_2 _).mono ?_; rintro e ws ⟨rfl, rfl⟩) | (go_at_call 94; refine (rin_any _ _ _ _).mono ?_; rintro e ws ⟨rfl, rfl⟩) | (go_at_call 95; refine (rmost_10 _ _).mono ?_; rintro e ws ⟨rfl, rfl⟩) | (go_at_call 95; refine (rmost_7 _ _).mono ?_; rintro e ws ⟨rfl, rfl⟩) | (go_at_call 95; refine (rmost_16 _ _).mono ?_; rintro e ws ⟨rfl, rfl⟩))
    go_ret
    exact ⟨ret_b (Eq.trans (by first | (simp [rng, mosts, rmo]; done) | (simp [rng, mosts, rmo]; omega) | (rw [Bool.eq_iff_iff]; simp [rng, mosts, rmo] <;> omega)) HV.out.symm), by go_grown⟩
  · have hb2 : (b == 0) = false := by simpa using hb
    have hb3 : (b != 0) = true := by simpa using hb
    go_enter Try.func78, Try.ntmps78
    go_wp2_with (first | (go_at_call 93; refine (rOperands_2 _).mono ?_; rintro e ws ⟨rfl, rfl⟩) | (go_at_call 94; refine (rin_any _ _ _ _).mono ?_; rintro e ws ⟨rfl, rfl⟩) | (go_at_call 95; refine (rmost_10 _ _).mono ?_; rintro e ws ⟨rfl, rfl⟩) | (go_at_call 95; refine (rmost_7 _ _).mono ?_; rintro e ws ⟨rfl, rfl⟩) | (go_at_call 95; refine (rmost_16 _ _).mono ?_; rintro e ws ⟨rfl, rfl⟩))
    go_ret
    exact ⟨ret_b (Eq.trans (by first | (simp [rng, mosts, rmo, hb]; done) | (simp [rng, mosts, rmo, hb]; omega) | (rw [Bool.eq_iff_iff]; simp [rng, mosts, rmo, hb] <;> omega)) HV.out.symm), by go_grown⟩
set_option maxHeartbeats 4000000 in
theorem rValid_3 (a b : Int) (p : Bool) (w : World) :
    Calls Try.prog 78 #[.agg #[.int .i64 3, .int .i64 a, .int .i64 b], .bool p] w fun e w' => e = .returned (.bool (vld 3 a b p)) ∧ Below w.heap.size w w' := by
  have HV := hide (vld_nat 3 (by omega) a b p)
  have s1 : (sp 3).a = 2 := rfl
  have s2 : (sp 3).b = 0 := rfl
  rw [s1, s2] at HV
  clear s1 s2
  by_cases hb : b = 0
  · subst hb
    go_enter Try.func78, Try.ntmps78
    go_wp2_with (first | (go_at_call 93; refine (rOperands_3 _).mono ?_; rintro e ws ⟨rfl, rfl⟩) | (go_at_call 94; refine (rin_any _ _ _ _).mono ?_; rintro e ws ⟨rfl, rfl⟩) | (go_at_call 95; refine (rmost_10 _ _).mono ?_; rintro e ws ⟨rfl, rfl⟩) | (go_at_call 95; refine (rmost_7 _ _).mono ?_; rintro e ws ⟨rfl, rfl⟩) | (go_at_call 95; refine (rmost_16 _ _).mono ?_; rintro e ws ⟨rfl, rfl⟩))
    go_ret
    exact ⟨ret_b (Eq.trans (by first | (simp [rng, mosts, rmo]; done) | (simp [rng, mosts, rmo]; omega) | (rw [Bool.eq_iff_iff]; simp [rng, mosts, rmo] <;> omega)) HV.out.symm), by go_grown⟩
  · have hb2 : (b == 0) = false := by simpa using hb
    have hb3 : (b != 0) = true := by simpa using hb
    go_enter Try.func78, Try.ntmps78
    go_wp2_with (first | (go_at_call 93; refine (rOperands_3 _).mono ?_; rintro e ws ⟨rfl, rfl⟩) | (go_at_call 94; refine (rin_any _ _ _ _).mono ?_; rintro e ws ⟨rfl, rfl⟩) | (go_at_call 95; refine (rmost_10 _ _).mono ?_; rintro e ws ⟨rfl, rfl⟩) | (go_at_call 95; refine (rmost_7 _ _).mono ?_; rintro e ws ⟨rfl, rfl⟩) | (go_at_call 95; refine (rmost_16 _ _).mono ?_; rintro e ws ⟨rfl, rfl⟩))
    go_ret
    exact ⟨ret_b (Eq.trans (by first | (simp [rng, mosts, rmo, hb]; done) | (simp [rng, mosts, rmo, hb]; omega) | (rw [Bool.eq_iff_iff]; simp [rng, mosts, rmo, hb] <;> omega)) HV.out.symm), by go_grown⟩
set_option maxHeartbeats 4000000 in
theorem rValid_4 (a b : Int) (p : Bool) (w : World) :
    Calls Try.prog 78 #[.agg #[.int .i64 4, .int .i64 a, .int .i64 b], .bool p] w fun e w' => e = .returned (.bool (vld 4 a b p)) ∧ Below w.heap.size w w' := by
  have HV := hide (vld_nat 4 (by omega) a b p)
  have s1 : (sp 4).a = 0 := rfl
  have s2 : (sp 4).b = 0 := rfl
  rw [s1, s2] at HV
  clear s1 s2
  by_cases hb : b = 0
  · subst hb
    by_cases ha : a = 0
    · subst ha
      go_enter Try.func78, Try.ntmps78
      go_wp2_with (first | (go_at_call 93; refine (rOperands_4 _).mono ?_; rintro e ws ⟨rfl, rfl⟩) | (go_at_call 94; refine (rin_any _ _ _ _).mono ?_; rintro e ws ⟨rfl, rfl⟩) | (go_at_call 95; refine (rmost_10 _ _).mono ?_; rintro e ws ⟨rfl, rfl⟩) | (go_at_call 95; refine (rmost_7 _ _).mono ?_; rintro e ws ⟨rfl, rfl⟩) | (go_at_call 95; refine (rmost_16 _ _).mono ?_; rintro e ws ⟨rfl, rfl⟩))
      go_ret
      exact ⟨ret_b (Eq.trans (by first | (simp [rng, mosts, rmo]; done) | (simp [rng, mosts, rmo]; omega) | (rw [Bool.eq_iff_iff]; simp [rng, mosts, rmo] <;> omega)) HV.out.symm), by go_grown⟩
    · have ha2 : (a == 0) = false := by simpa using ha
      have ha3 : (a != 0) = true := by simpa using ha
      go_enter Try.func78, Try.ntmps78
      go_wp2_with (first | (go_at_call 93; refine (rOperands_4 _).mono ?_; rintro e ws ⟨rfl, rfl⟩) | (go_at_call 94; refine (rin_any _ _ _ _).mono ?_; rintro e ws ⟨rfl, rfl⟩) | (go_at_call 95; refine (rmost_10 _ _).mono ?_; rintro e ws ⟨rfl, rfl⟩) | (go_at_call 95; refine (rmost_7 _ _).mono ?_; rintro e ws ⟨rfl, rfl⟩) | (go_at_call 95; refine (rmost_16 _ _).mono ?_; rintro e ws ⟨rfl, rfl⟩))
      go_ret
      exact ⟨ret_b (Eq.trans (by first | (simp [rng, mosts, rmo, ha]; done) | (simp [rng, mosts, rmo, ha]; omega) | (rw [Bool.eq_iff_iff]; simp [rng, mosts, rmo, ha] <;> omega)) HV.out.symm), by go_grown⟩
  · have hb2 : (b == 0) = false := by simpa using hb
    have hb3 : (b != 0) = true := by simpa using hb
    go_enter Try.func78, Try.ntmps78
    go_wp2_with (first | (go_at_call 93; refine (rOperands_4 _).mono ?_; rintro e ws ⟨rfl, rfl⟩) | (go_at_call 94; refine (rin_any _ _ _ _).mono ?_; rintro e ws ⟨rfl, rfl⟩) | (go_at_call 95; refine (rmost_10 _ _).mono ?_; rintro e ws ⟨rfl, rfl⟩) | (go_at_call 95; refine (rmost_7 _ _).mono ?_; rintro e ws ⟨rfl, rfl⟩) | (go_at_call 95; refine (rmost_16 _ _).mono ?_; rintro e ws ⟨rfl, rfl⟩))
    go_ret
    exact ⟨ret_b (Eq.trans (by first | (simp [rng, mosts, rmo, hb]; done) | (simp [rng, mosts, rmo, hb]; omega) | (rw [Bool.eq_iff_iff]; simp [rng, mosts, rmo, hb] <;> omega)) HV.out.symm), by go_grown⟩
set_option maxHeartbeats 4000000 in
theorem rValid_5 (a b : Int) (p : Bool) (w : World) :
    Calls Try.prog 78 #[.agg #[.int .i64 5, .int .i64 a, .int .i64 b], .bool p] w fun e w' => e = .returned (.bool (vld 5 a b p)) ∧ Below w.heap.size w w' := by
  have HV := hide (vld_nat 5 (by omega) a b p)
  have s1 : (sp 5).a = 0 := rfl
  have s2 : (sp 5).b = 0 := rfl
  rw [s1, s2] at HV
  clear s1 s2
  by_cases hb : b = 0
  · subst hb
    by_cases ha : a = 0
    · subst ha
      go_enter Try.func78, Try.ntmps78
      go_wp2_with (first | (go_at_call 93; refine (rOperands_5 _).mono ?_; rintro e ws ⟨rfl, rfl⟩) | (go_at_call 94; refine (rin_any _ _ _ _).mono ?_; rintro e ws ⟨rfl, rfl⟩) | (go_at_call 95; refine (rmost_10 _ _).mono ?_; rintro e ws ⟨rfl, rfl⟩) | (go_at_call 95; refine (rmost_7 _ _).mono ?_; rintro e ws ⟨rfl, rfl⟩) | (go_at_call 95; refine (rmost_16 _ _).mono ?_; rintro e ws ⟨rfl, rfl⟩))
      go_ret
      exact ⟨ret_b (Eq.trans (by first | (simp [rng, mosts, rmo]; done) | (simp [rng, mosts, rmo]; omega) | (rw [Bool.eq_iff_iff]; simp [rng, mosts, rmo] <;> omega)) HV.out.symm), by go_grown⟩
    · have ha2 : (a == 0) = false := by simpa using ha
      have ha3 : (a != 0) = true := by simpa using ha
      go_enter Try.func78, Try.ntmps78
      go_wp2_with (first | (go_at_call 93; refine (rOperands_5 _).mono ?_; rintro e ws ⟨rfl, rfl⟩) | (go_at_call 94; refine (rin_any _ _ _ _).mono ?_; rintro e ws ⟨rfl, rfl⟩) | (go_at_call 95; refine (rmost_10 _ _).mono ?_; rintro e ws ⟨rfl, rfl⟩) | (go_at_call 95; refine (rmost_7 _ _).mono ?_; rintro e ws ⟨rfl, rfl⟩) | (go_at_call 95; refine (rmost_16 _ _).mono ?_; rintro e ws ⟨rfl, rfl⟩))
      go_ret
      exact ⟨ret_b (Eq.trans (by first | (simp [rng, mosts, rmo, ha]; done) | (simp [rng, mosts, rmo, ha]; omega) | (rw [Bool.eq_iff_iff]; simp [rng, mosts, rmo, ha] <;> omega)) HV.out.symm), by go_grown⟩
  · have hb2 : (b == 0) = false := by simpa using hb
    have hb3 : (b != 0) = true := by simpa using hb
    go_enter Try.func78, Try.ntmps78
    go_wp2_with (first | (go_at_call 93; refine (rOperands_5 _).mono ?_; rintro e ws ⟨rfl, rfl⟩) | (go_at_call 94; refine (rin_any _ _ _ _).mono ?_; rintro e ws ⟨rfl, rfl⟩) | (go_at_call 95; refine (rmost_10 _ _).mono ?_; rintro e ws ⟨rfl, rfl⟩) | (go_at_call 95; refine (rmost_7 _ _).mono ?_; rintro e ws ⟨rfl, rfl⟩) | (go_at_call 95; refine (rmost_16 _ _).mono ?_; rintro e ws ⟨rfl, rfl⟩))
    go_ret
    exact ⟨ret_b (Eq.trans (by first | (simp [rng, mosts, rmo, hb]; done) | (simp [rng, mosts, rmo, hb]; omega) | (rw [Bool.eq_iff_iff]; simp [rng, mosts, rmo, hb] <;> omega)) HV.out.symm), by go_grown⟩
set_option maxHeartbeats 4000000 in
theorem rValid_6 (a b : Int) (p : Bool) (w : World) :
    Calls Try.prog 78 #[.agg #[.int .i64 6, .int .i64 a, .int .i64 b], .bool p] w fun e w' => e = .returned (.bool (vld 6 a b p)) ∧ Below w.heap.size w w' := by
  have HV := hide (vld_nat 6 (by omega) a b p)
  have s1 : (sp 6).a = 0 := rfl
  have s2 : (sp 6).b = 0 := rfl
  rw [s1, s2] at HV
  clear s1 s2
  by_cases hb : b = 0
  · subst hb
    by_cases ha : a = 0
    · subst ha
      go_enter Try.func78, Try.ntmps78
      go_wp2_with (first | (go_at_call 93; refine (rOperands_6 _).mono ?_; rintro e ws ⟨rfl, rfl⟩) | (go_at_call 94; refine (rin_any _ _ _ _).mono ?_; rintro e ws ⟨rfl, rfl⟩) | (go_at_call 95; refine (rmost_10 _ _).mono ?_; rintro e ws ⟨rfl, rfl⟩) | (go_at_call 95; refine (rmost_7 _ _).mono ?_; rintro e ws ⟨rfl, rfl⟩) | (go_at_call 95; refine (rmost_16 _ _).mono ?_; rintro e ws ⟨rfl, rfl⟩))
      go_ret
      exact ⟨ret_b (Eq.trans (by first | (simp [rng, mosts, rmo]; done) | (simp [rng, mosts, rmo]; omega) | (rw [Bool.eq_iff_iff]; simp [rng, mosts, rmo] <;> omega)) HV.out.symm), by go_grown⟩
    · have ha2 : (a == 0) = false := by simpa using ha
      have ha3 : (a != 0) = true := by simpa using ha
      go_enter Try.func78, Try.ntmps78
      go_wp2_with (first | (go_at_call 93; refine (rOperands_6 _).mono ?_; rintro e ws ⟨rfl, rfl⟩) | (go_at_call 94; refine (rin_any _ _ _ _).mono ?_; rintro e ws ⟨rfl, rfl⟩) | (go_at_call 95; refine (rmost_10 _ _).mono ?_; rintro e ws ⟨rfl, rfl⟩) | (go_at_call 95; refine (rmost_7 _ _).mono ?_; rintro e ws ⟨rfl, rfl⟩) | (go_at_call 95; refine (rmost_16 _ _).mono ?_; rintro e ws ⟨rfl, rfl⟩))
      go_ret
      exact ⟨ret_b (Eq.trans (by first | (simp [rng, mosts, rmo, ha]; done) | (simp [rng, mosts, rmo, ha]; omega) | (rw [Bool.eq_iff_iff]; simp [rng, mosts, rmo, ha] <;> omega)) HV.out.symm), by go_grown⟩
  · have hb2 : (b == 0) = false := by simpa using hb
    have hb3 : (b != 0) = true := by simpa using hb
    go_enter Try.func78, Try.ntmps78
    go_wp2_with (first | (go_at_call 93; refine (rOperands_6 _).mono ?_; rintro e ws ⟨rfl, rfl⟩) | (go_at_call 94; refine (rin_any _ _ _ _).mono ?_; rintro e ws ⟨rfl, rfl⟩) | (go_at_call 95; refine (rmost_10 _ _).mono ?_; rintro e ws ⟨rfl, rfl⟩) | (go_at_call 95; refine (rmost_7 _ _).mono ?_; rintro e ws ⟨rfl, rfl⟩) | (go_at_call 95; refine (rmost_16 _ _).mono ?_; rintro e ws ⟨rfl, rfl⟩))
    go_ret
    exact ⟨ret_b (Eq.trans (by first | (simp [rng, mosts, rmo, hb]; done) | (simp [rng, mosts, rmo, hb]; omega) | (rw [Bool.eq_iff_iff]; simp [rng, mosts, rmo, hb] <;> omega)) HV.out.symm), by go_grown⟩
set_option maxHeartbeats 4000000 in
theorem rValid_7 (a b : Int) (p : Bool) (w : World) :
    Calls Try.prog 78 #[.agg #[.int .i64 7, .int .i64 a, .int .i64 b], .bool p] w fun e w' => e = .returned (.bool (vld 7 a b p)) ∧ Below w.heap.size w w' := by
  have HV := hide (vld_nat 7 (by omega) a b p)
  have s1 : (sp 7).a = 0 := rfl
  have s2 : (sp 7).b = 0 := rfl
  rw [s1, s2] at HV
  clear s1 s2
  by_cases hb : b = 0
  · subst hb
    by_cases ha : a = 0
    · subst ha
      go_enter Try.func78, Try.ntmps78
      go_wp2_with (first | (go_at_call 93; refine (rOperands_7 _).mono ?_; rintro e ws ⟨rfl, rfl⟩) | (go_at_call 94; refine (rin_any _ _ _ _).mono ?_; rintro e ws ⟨rfl, rfl⟩) | (go_at_call 95; refine (rmost_10 _ _).mono ?_; rintro e ws ⟨rfl, rfl⟩) | (go_at_call 95; refine (rmost_7 _ _).mono ?_; rintro e ws ⟨rfl, rfl⟩) | (go_at_call 95; refine (rmost_16 _ _).mono ?_; rintro e ws ⟨rfl, rfl⟩))
      go_ret
      exact ⟨ret_b (Eq.trans (by first | (simp [rng, mosts, rmo]; done) | (simp [rng, mosts, rmo]; omega) | (rw [Bool.eq_iff_iff]; simp [rng, mosts, rmo] <;> omega)) HV.out.symm), by go_grown⟩
    · have ha2 : (a == 0) = false := by simpa using ha
      have ha3 : (a != 0) = true := by simpa using ha
      go_enter Try.func78, Try.ntmps78
      go_wp2_with (first | (go_at_call 93; refine (rOperands_7 _).mono ?_; rintro e ws ⟨rfl, rfl⟩) | (go_at_call 94; refine (rin_any _ _ _ _).mono ?_; rintro e ws ⟨rfl, rfl⟩) | (go_at_call 95; refine (rmost_10 _ _).mono ?_; rintro e ws ⟨rfl, rfl⟩) | (go_at_call 95; refine (rmost_7 _ _).mono ?_; rintro e ws ⟨rfl, rfl⟩) | (go_at_call 95; refine (rmost_16 _ _).mono ?_; rintro e ws ⟨rfl, rfl⟩))
      go_ret
      exact ⟨ret_b (Eq.trans (by first | (simp [rng, mosts, rmo, ha]; done) | (simp [rng, mosts, rmo, ha]; omega) | (rw [Bool.eq_iff_iff]; simp [rng, mosts, rmo, ha] <;> omega)) HV.out.symm), by go_grown⟩
  · have hb2 : (b == 0) = false := by simpa using hb
    have hb3 : (b != 0) = true := by simpa using hb
    go_enter Try.func78, Try.ntmps78
    go_wp2_with (first | (go_at_call 93; refine (rOperands_7 _).mono ?_; rintro e ws ⟨rfl, rfl⟩) | (go_at_call 94; refine (rin_any _ _ _ _).mono ?_; rintro e ws ⟨rfl, rfl⟩) | (go_at_call 95; refine (rmost_10 _ _).mono ?_; rintro e ws ⟨rfl, rfl⟩) | (go_at_call 95; refine (rmost_7 _ _).mono ?_; rintro e ws ⟨rfl, rfl⟩) | (go_at_call 95; refine (rmost_16 _ _).mono ?_; rintro e ws ⟨rfl, rfl⟩))
    go_ret
    exact ⟨ret_b (Eq.trans (by first | (simp [rng, mosts, rmo, hb]; done) | (simp [rng, mosts, rmo, hb]; omega) | (rw [Bool.eq_iff_iff]; simp [rng, mosts, rmo, hb] <;> omega)) HV.out.symm), by go_grown⟩
set_option maxHeartbeats 4000000 in
theorem rValid_8 (a b : Int) (p : Bool) (w : World) :
    Calls Try.prog 78 #[.agg #[.int .i64 8, .int .i64 a, .int .i64 b], .bool p] w fun e w' => e = .returned (.bool (vld 8 a b p)) ∧ Below w.heap.size w w' := by
  have HV := hide (vld_nat 8 (by omega) a b p)
  have s1 : (sp 8).a = 0 := rfl
  have s2 : (sp 8).b = 0 := rfl
  rw [s1, s2] at HV
  clear s1 s2
  by_cases hb : b = 0
  · subst hb
    by_cases ha : a = 0
    · subst ha
      go_enter Try.func78, Try.ntmps78
      go_wp2_with (first | (go_at_call 93; refine (rOperands_8 _).mono ?_; rintro e ws ⟨rfl, rfl⟩) | (go_at_call 94; refine (rin_any _ _ _ _).mono ?_; rintro e ws ⟨rfl, rfl⟩) | (go_at_call 95; refine (rmost_10 _ _).mono ?_; rintro e ws ⟨rfl, rfl⟩) | (go_at_call 95; refine (rmost_7 _ _).mono ?_; rintro e ws ⟨rfl, rfl⟩) | (go_at_call 95; refine (rmost_16 _ _).mono ?_; rintro e ws ⟨rfl, rfl⟩))
      go_ret
      exact ⟨ret_b (Eq.trans (by first | (simp [rng, mosts, rmo]; done) | (simp [rng, mosts, rmo]; omega) | (rw [Bool.eq_iff_iff]; simp [rng, mosts, rmo] <;> omega)) HV.out.symm), by go_grown⟩
    · have ha2 : (a == 0) = false := by simpa using ha
      have ha3 : (a != 0) = true := by simpa using ha
      go_enter Try.func78, Try.ntmps78
      go_wp2_with (first | (go_at_call 93; refine (rOperands_8 _).mono ?_; rintro e ws ⟨rfl, rfl⟩) | (go_at_call 94; refine (rin_any _ _ _ _).mono ?_; rintro e ws ⟨rfl, rfl⟩) | (go_at_call 95; refine (rmost_10 _ _).mono ?_; rintro e ws ⟨rfl, rfl⟩) | (go_at_call 95; refine (rmost_7 _ _).mono ?_; rintro e ws ⟨rfl, rfl⟩) | (go_at_call 95; refine (rmost_16 _ _).mono ?_; rintro e ws ⟨rfl, rfl⟩))
      go_ret
      exact ⟨ret_b (Eq.trans (by first | (simp [rng, mosts, rmo, ha]; done) | (simp [rng, mosts, rmo, ha]; omega) | (rw [Bool.eq_iff_iff]; simp [rng, mosts, rmo, ha] <;> omega)) HV.out.symm), by go_grown⟩
  · have hb2 : (b == 0) = false := by simpa using hb
    have hb3 : (b != 0) = true := by simpa using hb
    go_enter Try.func78, Try.ntmps78
    go_wp2_with (first | (go_at_call 93; refine (rOperands_8 _).mono ?_; rintro e ws ⟨rfl, rfl⟩) | (go_at_call 94; refine (rin_any _ _ _ _).mono ?_; rintro e ws ⟨rfl, rfl⟩) | (go_at_call 95; refine (rmost_10 _ _).mono ?_; rintro e ws ⟨rfl, rfl⟩) | (go_at_call 95; refine (rmost_7 _ _).mono ?_; rintro e ws ⟨rfl, rfl⟩) | (go_at_call 95; refine (rmost_16 _ _).mono ?_; rintro e ws ⟨rfl, rfl⟩))
    go_ret
    exact ⟨ret_b (Eq.trans (by first | (simp [rng, mosts, rmo, hb]; done) | (simp [rng, mosts, rmo, hb]; omega) | (rw [Bool.eq_iff_iff]; simp [rng, mosts, rmo, hb] <;> omega)) HV.out.symm), by go_grown⟩
set_option maxHeartbeats 4000000 in
theorem rValid_9 (a b : Int) (p : Bool) (w : World) :
    Calls Try.prog 78 #[.agg #[.int .i64 9, .int .i64 a, .int .i64 b], .bool p] w fun e w' => e = .returned (.bool (vld 9 a b p)) ∧ Below w.heap.size w w' := by
  have HV := hide (vld_nat 9 (by omega) a b p)
  have s1 : (sp 9).a = 0 := rfl
  have s2 : (sp 9).b = 0 := rfl
  rw [s1, s2] at HV
  clear s1 s2
  by_cases hb : b = 0
  · subst hb
    by_cases ha : a = 0
    · subst ha
      go_enter Try.func78, Try.ntmps78
      go_wp2_with (first | (go_at_call 93; refine (rOperands_9 _).mono ?_; rintro e ws ⟨rfl, rfl⟩) | (go_at_call 94; refine (rin_any _ _ _ _).mono ?_; rintro e ws ⟨rfl, rfl⟩) | (go_at_call 95; refine (rmost_10 _ _).mono ?_; rintro e ws ⟨rfl, rfl⟩) | (go_at_call 95; refine (rmost_7 _ _).mono ?_; rintro e ws ⟨rfl, rfl⟩) | (go_at_call 95; refine (rmost_16 _ _).mono ?_; rintro e ws ⟨rfl, rfl⟩))
      go_ret
      exact ⟨ret_b (Eq.trans (by first | (simp [rng, mosts, rmo]; done) | (simp [rng, mosts, rmo]; omega) | (rw [Bool.eq_iff_iff]; simp [rng, mosts, rmo] <;> omega)) HV.out.symm), by go_grown⟩
    · have ha2 : (a == 0) = false := by simpa using ha
      have ha3 : (a != 0) = true := by simpa using ha
      go_enter Try.func78, Try.ntmps78
      go_wp2_with (first | (go_at_call 93; refine (rOperands_9 _).mono ?_; rintro e ws ⟨rfl, rfl⟩) | (go_at_call 94; refine (rin_any _ _ _ _).mono ?_; rintro e ws ⟨rfl, rfl⟩) | (go_at_call 95; refine (rmost_10 _ _).mono ?_; rintro e ws ⟨rfl, rfl⟩) | (go_at_call 95; refine (rmost_7 _ _).mono ?_; rintro e ws ⟨rfl, rfl⟩) | (go_at_call 95; refine (rmost_16 _ _).mono ?_; rintro e ws ⟨rfl, rfl⟩))
      go_ret
      exact ⟨ret_b (Eq.trans (by first | (simp [rng, mosts, rmo, ha]; done) | (simp [rng, mosts, rmo, ha]; omega) | (rw [Bool.eq_iff_iff]; simp [rng, mosts, rmo, ha] <;> omega)) HV.out.symm), by go_grown⟩
  · have hb2 : (b == 0) = false := by simpa using hb
    have hb3 : (b != 0) = true := by simpa using hb
    go_enter Try.func78, Try.ntmps78
    go_wp2_with (first | (go_at_call 93; refine (rOperands_9 _).mono ?_; rintro e ws ⟨rfl, rfl⟩) | (go_at_call 94; refine (rin_any _ _ _ _).mono ?_; rintro e ws ⟨rfl, rfl⟩) | (go_at_call 95; refine (rmost_10 _ _).mono ?_; rintro e ws ⟨rfl, rfl⟩) | (go_at_call 95; refine (rmost_7 _ _).mono ?_; rintro e ws ⟨rfl, rfl⟩) | (go_at_call 95; refine (rmost_16 _ _).mono ?_; rintro e ws ⟨rfl, rfl⟩))
    go_ret
    exact ⟨ret_b (Eq.trans (by first | (simp [rng, mosts, rmo, hb]; done) | (simp [rng, mosts, rmo, hb]; omega) | (rw [Bool.eq_iff_iff]; simp [rng, mosts, rmo, hb] <;> omega)) HV.out.symm), by go_grown⟩
set_option maxHeartbeats 4000000 in
theorem rValid_10 (a b : Int) (p : Bool) (w : World) :
    Calls Try.prog 78 #[.agg #[.int .i64 10, .int .i64 a, .int .i64 b], .bool p] w fun e w' => e = .returned (.bool (vld 10 a b p)) ∧ Below w.heap.size w w' := by
  have HV := hide (vld_nat 10 (by omega) a b p)
  have s1 : (sp 10).a = 0 := rfl
  have s2 : (sp 10).b = 0 := rfl
  rw [s1, s2] at HV
  clear s1 s2
  by_cases hb : b = 0
  · subst hb
    by_cases ha : a = 0
    · subst ha
      go_enter Try.func78, Try.ntmps78
      go_wp2_with (first | (go_at_call 93; refine (rOperands_10 _).mono ?_; rintro e ws ⟨rfl, rfl⟩) | (go_at_call 94; refine (rin_any _ _ _ _).mono ?_; rintro e ws ⟨rfl, rfl⟩) | (go_at_call 95; refine (rmost_10 _ _).mono ?_; rintro e ws ⟨rfl, rfl⟩) | (go_at_call 95; refine (rmost_7 _ _).mono ?_; rintro e ws ⟨rfl, rfl⟩) | (go_at_call 95; refine (rmost_16 _ _).mono ?_; rintro e ws ⟨rfl, rfl⟩))
      go_ret
      exact ⟨ret_b (Eq.trans (by first | (simp [rng, mosts, rmo]; done) | (simp [rng, mosts, rmo]; omega) | (rw [Bool.eq_iff_iff]; simp [rng, mosts, rmo] <;> omega)) HV.out.symm), by go_grown⟩
    · have ha2 : (a == 0) = false := by simpa using ha
      have ha3 : (a != 0) = true := by simpa using ha
      go_enter Try.func78, Try.ntmps78
      go_wp2_with (first | (go_at_call 93; refine (rOperands_10 _).mono ?_; rintro e ws ⟨rfl, rfl⟩) | (go_at_call 94; refine (rin_any _ _ _ _).mono ?_; rintro e ws ⟨rfl, rfl⟩) | (go_at_call 95; refine (rmost_10 _ _).mono ?_; rintro e ws ⟨rfl, rfl⟩) | (go_at_call 95; refine (rmost_7 _ _).mono ?_; rintro e ws ⟨rfl, rfl⟩) | (go_at_call 95; refine (rmost_16 _ _).mono ?_; rintro e ws ⟨rfl, rfl⟩))
      go_ret
      exact ⟨ret_b (Eq.trans (by first | (simp [rng, mosts, rmo, ha]; done) | (simp [rng, mosts, rmo, ha]; omega) | (rw [Bool.eq_iff_iff]; simp [rng, mosts, rmo, ha] <;> omega)) HV.out.symm), by go_grown⟩
  · have hb2 : (b == 0) = false := by simpa using hb
    have hb3 : (b != 0) = true := by simpa using hb
    go_enter Try.func78, Try.ntmps78
    go_wp2_with (first | (go_at_call 93; refine (rOperands_10 _).mono ?_; rintro e ws ⟨rfl, rfl⟩) | (go_at_call 94; refine (rin_any _ _ _ _).mono ?_; rintro e ws ⟨rfl, rfl⟩) | (go_at_call 95; refine (rmost_10 _ _).mono ?_; rintro e ws ⟨rfl, rfl⟩) | (go_at_call 95; refine (rmost_7 _ _).mono ?_; rintro e ws ⟨rfl, rfl⟩) | (go_at_call 95; refine (rmost_16 _ _).mono ?_; rintro e ws ⟨rfl, rfl⟩))
    go_ret
    exact ⟨ret_b (Eq.trans (by first | (simp [rng, mosts, rmo, hb]; done) | (simp [rng, mosts, rmo, hb]; omega) | (rw [Bool.eq_iff_iff]; simp [rng, mosts, rmo, hb] <;> omega)) HV.out.symm), by go_grown⟩
set_option maxHeartbeats 4000000 in
theorem rValid_11 (a b : Int) (p : Bool) (w : World) :
    Calls Try.prog 78 #[.agg #[.int .i64 11, .int .i64 a, .int .i64 b], .bool p] w fun e w' => e = .returned (.bool (vld 11 a b p)) ∧ Below w.heap.size w w' := by
  have HV := hide (vld_nat 11 (by omega) a b p)
  have s1 : (sp 11).a = 0 := rfl
  have s2 : (sp 11).b = 0 := rfl
  rw [s1, s2] at HV
  clear s1 s2
  by_cases hb : b = 0
  · subst hb
    by_cases ha : a = 0
    · subst ha
      go_enter Try.func78, Try.ntmps78
      go_wp2_with (first | (go_at_call 93; refine (rOperands_11 _).mono ?_; rintro e ws ⟨rfl, rfl⟩) | (go_at_call 94; refine (rin_any _ _ _ _).mono ?_; rintro e ws ⟨rfl, rfl⟩) | (go_at_call 95; refine (rmost_10 _ _).mono ?_; rintro e ws ⟨rfl, rfl⟩) | (go_at_call 95; refine (rmost_7 _ _).mono ?_; rintro e ws ⟨rfl, rfl⟩) | (go_at_call 95; refine (rmost_16 _ _).mono ?_; rintro e ws ⟨rfl, rfl⟩))
      go_ret
      exact ⟨ret_b (Eq.trans (by first | (simp [rng, mosts, rmo]; done) | (simp [rng, mosts, rmo]; omega) | (rw [Bool.eq_iff_iff]; simp [rng, mosts, rmo] <;> omega)) HV.out.symm), by go_grown⟩
    · have ha2 : (a == 0) = false := by simpa using ha
      have ha3 : (a != 0) = true := by simpa using ha
      go_enter Try.func78, Try.ntmps78
      go_wp2_with (first | (go_at_call 93; refine (rOperands_11 _).mono ?_; rintro e ws ⟨rfl, rfl⟩) | (go_at_call 94; refine (rin_any _ _ _ _).mono ?_; rintro e ws ⟨rfl, rfl⟩) | (go_at_call 95; refine (rmost_10 _ _).mono ?_; rintro e ws ⟨rfl, rfl⟩) | (go_at_call 95; refine (rmost_7 _ _).mono ?_; rintro e ws ⟨rfl, rfl⟩) | (go_at_call 95; refine (rmost_16 _ _).mono ?_; rintro e ws ⟨rfl, rfl⟩))
      go_ret
      exact ⟨ret_b (Eq.trans (by first | (simp [rng, mosts, rmo, ha]; done) | (simp [rng, mosts, rmo, ha]; omega) | (rw [Bool.eq_iff_iff]; simp [rng, mosts, rmo, ha] <;> omega)) HV.out.symm), by go_grown⟩
  · have hb2 : (b == 0) = false := by simpa using hb
    have hb3 : (b != 0) = true := by simpa using hb
    go_enter Try.func78, Try.ntmps78
    go_wp2_with (first | (go_at_call 93; refine (rOperands_11 _).mono ?_; rintro e ws ⟨rfl, rfl⟩) | (go_at_call 94; refine (rin_any _ _ _ _).mono ?_; rintro e ws ⟨rfl, rfl⟩) | (go_at_call 95; refine (rmost_10 _ _).mono ?_; rintro e ws ⟨rfl, rfl⟩) | (go_at_call 95; refine (rmost_7 _ _).mono ?_; rintro e ws ⟨rfl, rfl⟩) | (go_at_call 95; refine (rmost_16 _ _).mono ?_; rintro e ws ⟨rfl, rfl⟩))
    go_ret
    exact ⟨ret_b (Eq.trans (by first | (simp [rng, mosts, rmo, hb]; done) | (simp [rng, mosts, rmo, hb]; omega) | (rw [Bool.eq_iff_iff]; simp [rng, mosts, rmo, hb] <;> omega)) HV.out.symm), by go_grown⟩
set_option maxHeartbeats 4000000 in
theorem rValid_13 (a b : Int) (p : Bool) (w : World) :
    Calls Try.prog 78 #[.agg #[.int .i64 13, .int .i64 a, .int .i64 b], .bool p] w fun e w' => e = .returned (.bool (vld 13 a b p)) ∧ Below w.heap.size w w' := by
  have HV := hide (vld_nat 13 (by omega) a b p)
  have s1 : (sp 13).a = 0 := rfl
  have s2 : (sp 13).b = 0 := rfl
  rw [s1, s2] at HV
  clear s1 s2
  by_cases hb : b = 0
  · subst hb
    by_cases ha : a = 0
    · subst ha
      go_enter Try.func78, Try.ntmps78
      go_wp2_with (first | (go_at_call 93; refine (rOperands_13 _).mono ?_; rintro e ws ⟨rfl, rfl⟩) | (go_at_call 94; refine (rin_any _ _ _ _).mono ?_; rintro e ws ⟨rfl, rfl⟩) | (go_at_call 95; refine (rmost_10 _ _).mono ?_; rintro e ws ⟨rfl, rfl⟩) | (go_at_call 95; refine (rmost_7 _ _).mono ?_; rintro e ws ⟨rfl, rfl⟩) | (go_at_call 95; refine (rmost_16 _ _).mono ?_; rintro e ws ⟨rfl, rfl⟩))
      go_ret
      exact ⟨ret_b (Eq.trans (by first | (simp [rng, mosts, rmo]; done) | (simp [rng, mosts, rmo]; omega) | (rw [Bool.eq_iff_iff]; simp [rng, mosts, rmo] <;> omega)) HV.out.symm), by go_grown⟩
    · have ha2 : (a == 0) = false := by simpa using ha
      have ha3 : (a != 0) = true := by simpa using ha
      go_enter Try.func78, Try.ntmps78
      go_wp2_with (first | (go_at_call 93; refine (rOperands_13 _).mono ?_; rintro e ws ⟨rfl, rfl⟩) | (go_at_call 94; refine (rin_any _ _ _ _).mono ?_; rintro e ws ⟨rfl, rfl⟩) | (go_at_call 95; refine (rmost_10 _ _).mono ?_; rintro e ws ⟨rfl, rfl⟩) | (go_at_call 95; refine (rmost_7 _ _).mono ?_; rintro e ws ⟨rfl, rfl⟩) | (go_at_call 95; refine (rmost_16 _ _).mono ?_; rintro e ws ⟨rfl, rfl⟩))
      go_ret
      exact ⟨ret_b (Eq.trans (by first | (simp [rng, mosts, rmo, ha]; done) | (simp [rng, mosts, rmo, ha]; omega) | (rw [Bool.eq_iff_iff]; simp [rng, mosts, rmo, ha] <;> omega)) HV.out.symm), by go_grown⟩
  · have hb2 : (b == 0) = false := by simpa using hb
    have hb3 : (b != 0) = true := by simpa using hb
    go_enter Try.func78, Try.ntmps78
    go_wp2_with (first | (go_at_call 93; refine (rOperands_13 _).mono ?_; rintro e ws ⟨rfl, rfl⟩) | (go_at_call 94; refine (rin_any _ _ _ _).mono ?_; rintro e ws ⟨rfl, rfl⟩) | (go_at_call 95; refine (rmost_10 _ _).mono ?_; rintro e ws ⟨rfl, rfl⟩) | (go_at_call 95; refine (rmost_7 _ _).mono ?_; rintro e ws ⟨rfl, rfl⟩) | (go_at_call 95; refine (rmost_16 _ _).mono ?_; rintro e ws ⟨rfl, rfl⟩))
    go_ret
    exact ⟨ret_b (Eq.trans (by first | (simp [rng, mosts, rmo, hb]; done) | (simp [rng, mosts, rmo, hb]; omega) | (rw [Bool.eq_iff_iff]; simp [rng, mosts, rmo, hb] <;> omega)) HV.out.symm), by go_grown⟩
set_option maxHeartbeats 4000000 in
theorem rValid_14 (a b : Int) (p : Bool) (w : World) :
    Calls Try.prog 78 #[.agg #[.int .i64 14, .int .i64 a, .int .i64 b], .bool p] w fun e w' => e = .returned (.bool (vld 14 a b p)) ∧ Below w.heap.size w w' := by
  have HV := hide (vld_nat 14 (by omega) a b p)
  have s1 : (sp 14).a = 4 := rfl
  have s2 : (sp 14).b = 0 := rfl
  rw [s1, s2] at HV
  clear s1 s2
  by_cases hb : b = 0
  · subst hb
    cases p
    case false =>
      go_enter Try.func78, Try.ntmps78
      go_wp2_with (first | (go_at_call 93; refine (rOperands_14 _).mono ?_; rintro e ws ⟨rfl, rfl⟩) | (go_at_call 94; refine (rin_any _ _ _ _).mono ?_; rintro e ws ⟨rfl, rfl⟩) | (go_at_call 95; refine (rmost_10 _ _).mono ?_; rintro e ws ⟨rfl, rfl⟩) | (go_at_call 95; refine (rmost_7 _ _).mono ?_; rintro e ws ⟨rfl, rfl⟩) | (go_at_call 95; refine (rmost_16 _ _).mono ?_; rintro e ws ⟨rfl, rfl⟩))
      go_quiet ((first | (go_at_call 95; with_reducible exact Calls.quiet_of_same ((rmost_10 false _).mono (fun _ _ h => ⟨h.1, h.2.symm⟩))) | (go_at_call 94; with_reducible exact Calls.quiet_of_same ((rin_any a 0 (rmo 10 false) _).mono (fun _ _ h => ⟨h.1, h.2.symm⟩)))))
      go_wp2_with fail
      go_ret
      exact ⟨ret_b (Eq.trans (by first | (simp [rng, mosts, rmo]; done) | (simp [rng, mosts, rmo]; omega) | (rw [Bool.eq_iff_iff]; simp [rng, mosts, rmo] <;> omega)) HV.out.symm), drewN_below (by go_grown) _⟩
    case true =>
      go_enter Try.func78, Try.ntmps78
      go_wp2_with (first | (go_at_call 93; refine (rOperands_14 _).mono ?_; rintro e ws ⟨rfl, rfl⟩) | (go_at_call 94; refine (rin_any _ _ _ _).mono ?_; rintro e ws ⟨rfl, rfl⟩) | (go_at_call 95; refine (rmost_10 _ _).mono ?_; rintro e ws ⟨rfl, rfl⟩) | (go_at_call 95; refine (rmost_7 _ _).mono ?_; rintro e ws ⟨rfl, rfl⟩) | (go_at_call 95; refine (rmost_16 _ _).mono ?_; rintro e ws ⟨rfl, rfl⟩))
      go_quiet ((first | (go_at_call 95; with_reducible exact Calls.quiet_of_same ((rmost_10 true _).mono (fun _ _ h => ⟨h.1, h.2.symm⟩))) | (go_at_call 94; with_reducible exact Calls.quiet_of_same ((rin_any a 0 (rmo 10 true) _).mono (fun _ _ h => ⟨h.1, h.2.symm⟩)))))
      go_wp2_with fail
      go_ret
      exact ⟨ret_b (Eq.trans (by first | (simp [rng, mosts, rmo]; done) | (simp [rng, mosts, rmo]; omega) | (rw [Bool.eq_iff_iff]; simp [rng, mosts, rmo] <;> omega)) HV.out.symm), drewN_below (by go_grown) _⟩
  · have hb2 : (b == 0) = false := by simpa using hb
    have hb3 : (b != 0) = true := by simpa using hb
    go_enter Try.func78, Try.ntmps78
    go_wp2_with (first | (go_at_call 93; refine (rOperands_14 _).mono ?_; rintro e ws ⟨rfl, rfl⟩) | (go_at_call 94; refine (rin_any _ _ _ _).mono ?_; rintro e ws ⟨rfl, rfl⟩) | (go_at_call 95; refine (rmost_10 _ _).mono ?_; rintro e ws ⟨rfl, rfl⟩) | (go_at_call 95; refine (rmost_7 _ _).mono ?_; rintro e ws ⟨rfl, rfl⟩) | (go_at_call 95; refine (rmost_16 _ _).mono ?_; rintro e ws ⟨rfl, rfl⟩))
    go_ret
    exact ⟨ret_b (Eq.trans (by first | (simp [rng, mosts, rmo, hb]; done) | (simp [rng, mosts, rmo, hb]; omega) | (rw [Bool.eq_iff_iff]; simp [rng, mosts, rmo, hb] <;> omega)) HV.out.symm), by go_grown⟩
set_option maxHeartbeats 4000000 in
theorem rValid_15 (a b : Int) (p : Bool) (w : World) :
    Calls Try.prog 78 #[.agg #[.int .i64 15, .int .i64 a, .int .i64 b], .bool p] w fun e w' => e = .returned (.bool (vld 15 a b p)) ∧ Below w.heap.size w w' := by
  have HV := hide (vld_nat 15 (by omega) a b p)
  have s1 : (sp 15).a = 5 := rfl
  have s2 : (sp 15).b = 0 := rfl
  rw [s1, s2] at HV
  clear s1 s2
  by_cases hb : b = 0
  · subst hb
    go_enter Try.func78, Try.ntmps78
    go_wp2_with (first | (go_at_call 93; refine (rOperands_15 _).mono ?_; rintro e ws ⟨rfl, rfl⟩) | (go_at_call 94; refine (rin_any _ _ _ _).mono ?_; rintro e ws ⟨rfl, rfl⟩) | (go_at_call 95; refine (rmost_10 _ _).mono ?_; rintro e ws ⟨rfl, rfl⟩) | (go_at_call 95; refine (rmost_7 _ _).mono ?_; rintro e ws ⟨rfl, rfl⟩) | (go_at_call 95; refine (rmost_16 _ _).mono ?_; rintro e ws ⟨rfl, rfl⟩))
    go_ret
    exact ⟨ret_b (Eq.trans (by first | (simp [rng, mosts, rmo]; done) | (simp [rng, mosts, rmo]; omega) | (rw [Bool.eq_iff_iff]; simp [rng, mosts, rmo] <;> omega)) HV.out.symm), by go_grown⟩
  · have hb2 : (b == 0) = false := by simpa using hb
    have hb3 : (b != 0) = true := by simpa using hb
    go_enter Try.func78, Try.ntmps78
    go_wp2_with (first | (go_at_call 93; refine (rOperands_15 _).mono ?_; rintro e ws ⟨rfl, rfl⟩) | (go_at_call 94; refine (rin_any _ _ _ _).mono ?_; rintro e ws ⟨rfl, rfl⟩) | (go_at_call 95; refine (rmost_10 _ _).mono ?_; rintro e ws ⟨rfl, rfl⟩) | (go_at_call 95; refine (rmost_7 _ _).mono ?_; rintro e ws ⟨rfl, rfl⟩) | (go_at_call 95; refine (rmost_16 _ _).mono ?_; rintro e ws ⟨rfl, rfl⟩))
    go_ret
    exact ⟨ret_b (Eq.trans (by first | (simp [rng, mosts, rmo, hb]; done) | (simp [rng, mosts, rmo, hb]; omega) | (rw [Bool.eq_iff_iff]; simp [rng, mosts, rmo, hb] <;> omega)) HV.out.symm), by go_grown⟩
set_option maxHeartbeats 4000000 in
theorem rValid_17 (a b : Int) (p : Bool) (w : World) :
    Calls Try.prog 78 #[.agg #[.int .i64 17, .int .i64 a, .int .i64 b], .bool p] w fun e w' => e = .returned (.bool (vld 17 a b p)) ∧ Below w.heap.size w w' := by
  have HV := hide (vld_nat 17 (by omega) a b p)
  have s1 : (sp 17).a = 6 := rfl
  have s2 : (sp 17).b = 0 := rfl
  rw [s1, s2] at HV
  clear s1 s2
  by_cases hb : b = 0
  · subst hb
    cases p
    case false =>
      go_enter Try.func78, Try.ntmps78
      go_wp2_with (first | (go_at_call 93; refine (rOperands_17 _).mono ?_; rintro e ws ⟨rfl, rfl⟩) | (go_at_call 94; refine (rin_any _ _ _ _).mono ?_; rintro e ws ⟨rfl, rfl⟩) | (go_at_call 95; refine (rmost_10 _ _).mono ?_; rintro e ws ⟨rfl, rfl⟩) | (go_at_call 95; refine (rmost_7 _ _).mono ?_; rintro e ws ⟨rfl, rfl⟩) | (go_at_call 95; refine (rmost_16 _ _).mono ?_; rintro e ws ⟨rfl, rfl⟩))
      go_quiet ((first | (go_at_call 95; with_reducible exact Calls.quiet_of_same ((rmost_7 false _).mono (fun _ _ h => ⟨h.1, h.2.symm⟩))) | (go_at_call 94; with_reducible exact Calls.quiet_of_same ((rin_any a 0 (rmo 7 false) _).mono (fun _ _ h => ⟨h.1, h.2.symm⟩)))))
      go_wp2_with fail
      go_ret
      exact ⟨ret_b (Eq.trans (by first | (simp [rng, mosts, rmo]; done) | (simp [rng, mosts, rmo]; omega) | (rw [Bool.eq_iff_iff]; simp [rng, mosts, rmo] <;> omega)) HV.out.symm), drewN_below (by go_grown) _⟩
    case true =>
      go_enter Try.func78, Try.ntmps78
      go_wp2_with (first | (go_at_call 93; refine (rOperands_17 _).mono ?_; rintro e ws ⟨rfl, rfl⟩) | (go_at_call 94; refine (rin_any _ _ _ _).mono ?_; rintro e ws ⟨rfl, rfl⟩) | (go_at_call 95; refine (rmost_10 _ _).mono ?_; rintro e ws ⟨rfl, rfl⟩) | (go_at_call 95; refine (rmost_7 _ _).mono ?_; rintro e ws ⟨rfl, rfl⟩) | (go_at_call 95; refine (rmost_16 _ _).mono ?_; rintro e ws ⟨rfl, rfl⟩))
      go_quiet ((first | (go_at_call 95; with_reducible exact Calls.quiet_of_same ((rmost_7 true _).mono (fun _ _ h => ⟨h.1, h.2.symm⟩))) | (go_at_call 94; with_reducible exact Calls.quiet_of_same ((rin_any a 0 (rmo 7 true) _).mono (fun _ _ h => ⟨h.1, h.2.symm⟩)))))
      go_wp2_with fail
      go_ret
      exact ⟨ret_b (Eq.trans (by first | (simp [rng, mosts, rmo]; done) | (simp [rng, mosts, rmo]; omega) | (rw [Bool.eq_iff_iff]; simp [rng, mosts, rmo] <;> omega)) HV.out.symm), drewN_below (by go_grown) _⟩
  · have hb2 : (b == 0) = false := by simpa using hb
    have hb3 : (b != 0) = true := by simpa using hb
    go_enter Try.func78, Try.ntmps78
    go_wp2_with (first | (go_at_call 93; refine (rOperands_17 _).mono ?_; rintro e ws ⟨rfl, rfl⟩) | (go_at_call 94; refine (rin_any _ _ _ _).mono ?_; rintro e ws ⟨rfl, rfl⟩) | (go_at_call 95; refine (rmost_10 _ _).mono ?_; rintro e ws ⟨rfl, rfl⟩) | (go_at_call 95; refine (rmost_7 _ _).mono ?_; rintro e ws ⟨rfl, rfl⟩) | (go_at_call 95; refine (rmost_16 _ _).mono ?_; rintro e ws ⟨rfl, rfl⟩))
    go_ret
    exact ⟨ret_b (Eq.trans (by first | (simp [rng, mosts, rmo, hb]; done) | (simp [rng, mosts, rmo, hb]; omega) | (rw [Bool.eq_iff_iff]; simp [rng, mosts, rmo, hb] <;> omega)) HV.out.symm), by go_grown⟩
set_option maxHeartbeats 4000000 in
theorem rValid_18 (a b : Int) (p : Bool) (w : World) :
    Calls Try.prog 78 #[.agg #[.int .i64 18, .int .i64 a, .int .i64 b], .bool p] w fun e w' => e = .returned (.bool (vld 18 a b p)) ∧ Below w.heap.size w w' := by
  have HV := hide (vld_nat 18 (by omega) a b p)
  have s1 : (sp 18).a = 6 := rfl
  have s2 : (sp 18).b = 0 := rfl
  rw [s1, s2] at HV
  clear s1 s2
  by_cases hb : b = 0
  · subst hb
    cases p
    case false =>
      go_enter Try.func78, Try.ntmps78
      go_wp2_with (first | (go_at_call 93; refine (rOperands_18 _).mono ?_; rintro e ws ⟨rfl, rfl⟩) | (go_at_call 94; refine (rin_any _ _ _ _).mono ?_; rintro e ws ⟨rfl, rfl⟩) | (go_at_call 95; refine (rmost_10 _ _).mono ?_; rintro e ws ⟨rfl, rfl⟩) | (go_at_call 95; refine (rmost_7 _ _).mono ?_; rintro e ws ⟨rfl, rfl⟩) | (go_at_call 95; refine (rmost_16 _ _).mono ?_; rintro e ws ⟨rfl, rfl⟩))
      go_quiet ((first | (go_at_call 95; with_reducible exact Calls.quiet_of_same ((rmost_7 false _).mono (fun _ _ h => ⟨h.1, h.2.symm⟩))) | (go_at_call 94; with_reducible exact Calls.quiet_of_same ((rin_any a 0 (rmo 7 false) _).mono (fun _ _ h => ⟨h.1, h.2.symm⟩)))))
      go_wp2_with fail
      go_ret
      exact ⟨ret_b (Eq.trans (by first | (simp [rng, mosts, rmo]; done) | (simp [rng, mosts, rmo]; omega) | (rw [Bool.eq_iff_iff]; simp [rng, mosts, rmo] <;> omega)) HV.out.symm), drewN_below (by go_grown) _⟩
    case true =>
      go_enter Try.func78, Try.ntmps78
      go_wp2_with (first | (go_at_call 93; refine (rOperands_18 _).mono ?_; rintro e ws ⟨rfl, rfl⟩) | (go_at_call 94; refine (rin_any _ _ _ _).mono ?_; rintro e ws ⟨rfl, rfl⟩) | (go_at_call 95; refine (rmost_10 _ _).mono ?_; rintro e ws ⟨rfl, rfl⟩) | (go_at_call 95; refine (rmost_7 _ _).mono ?_; rintro e ws ⟨rfl, rfl⟩) | (go_at_call 95; refine (rmost_16 _ _).mono ?_; rintro e ws ⟨rfl, rfl⟩))
      go_quiet ((first | (go_at_call 95; with_reducible exact Calls.quiet_of_same ((rmost_7 true _).mono (fun _ _ h => ⟨h.1, h.2.symm⟩))) | (go_at_call 94; with_reducible exact Calls.quiet_of_same ((rin_any a 0 (rmo 7 true) _).mono (fun _ _ h => ⟨h.1, h.2.symm⟩)))))
      go_wp2_with fail
      go_ret
      exact ⟨ret_b (Eq.trans (by first | (simp [rng, mosts, rmo]; done) | (simp [rng, mosts, rmo]; omega) | (rw [Bool.eq_iff_iff]; simp [rng, mosts, rmo] <;> omega)) HV.out.symm), drewN_below (by go_grown) _⟩
  · have hb2 : (b == 0) = false := by simpa using hb
    have hb3 : (b != 0) = true := by simpa using hb
    go_enter Try.func78, Try.ntmps78
    go_wp2_with (first | (go_at_call 93; refine (rOperands_18 _).mono ?_; rintro e ws ⟨rfl, rfl⟩) | (go_at_call 94; refine (rin_any _ _ _ _).mono ?_; rintro e ws ⟨rfl, rfl⟩) | (go_at_call 95; refine (rmost_10 _ _).mono ?_; rintro e ws ⟨rfl, rfl⟩) | (go_at_call 95; refine (rmost_7 _ _).mono ?_; rintro e ws ⟨rfl, rfl⟩) | (go_at_call 95; refine (rmost_16 _ _).mono ?_; rintro e ws ⟨rfl, rfl⟩))
    go_ret
    exact ⟨ret_b (Eq.trans (by first | (simp [rng, mosts, rmo, hb]; done) | (simp [rng, mosts, rmo, hb]; omega) | (rw [Bool.eq_iff_iff]; simp [rng, mosts, rmo, hb] <;> omega)) HV.out.symm), by go_grown⟩
end Ec
end Go.Proofs.Ytmjnakhpekbenaa
namespace Go.Proofs.Ytmjnakhpekbenaa
open Go.RowKit Go.Sort
namespace Ec
set_option maxHeartbeats 4000000 in
theorem rValid_19 (a b : Int) (p : Bool) (w : World) :
    Calls Try.prog 78 #[.agg #[.int .i64 19, .int .i64 a, .int .i64 b], .bool p] w fun e w' => e = .returned (.bool (vld 19 a b p)) ∧ Below w.heap.size w w' := by
  have HV := hide (vld_nat 19 (by omega) a b p)
  have s1 : (sp 19).a = 0 := rfl
  have s2 : (sp 19).b = 0 := rfl
  rw [s1, s2] at HV
  clear s1 s2
  by_cases hb : b = 0
  · subst hb
    by_cases ha : a = 0
    · subst ha
      go_enter Try.func78, Try.ntmps78
      go_wp2_with (first | (go_at_call 93; refine (rOperands_19 _).mono ?_; rintro e ws ⟨rfl, rfl⟩) | (go_at_call 94; refine (rin_any _ _ _ _).mono ?_; rintro e ws ⟨rfl, rfl⟩) | (go_at_call 95; refine (rmost_10 _ _).mono ?_; rintro e ws ⟨rfl, rfl⟩) | (go_at_call 95; refine (rmost_7 _ _).mono ?_; rintro e ws ⟨rfl, rfl⟩) | (go_at_call 95; refine (rmost_16 _ _).mono ?_; rintro e ws ⟨rfl, rfl⟩))
      go_ret
      exact ⟨ret_b (Eq.trans (by first | (simp [rng, mosts, rmo]; done) | (simp [rng, mosts, rmo]; omega) | (rw [Bool.eq_iff_iff]; simp [rng, mosts, rmo] <;> omega)) HV.out.symm), by go_grown⟩
    · have ha2 : (a == 0) = false := by simpa using ha
      have ha3 : (a != 0) = true := by simpa using ha
      go_enter Try.func78, Try.ntmps78
      go_wp2_with (first | (go_at_call 93; refine (rOperands_19 _).mono ?_; rintro e ws ⟨rfl, rfl⟩) | (go_at_call 94; refine (rin_any _ _ _ _).mono ?_; rintro e ws ⟨rfl, rfl⟩) | (go_at_call 95; refine (rmost_10 _ _).mono ?_; rintro e ws ⟨rfl, rfl⟩) | (go_at_call 95; refine (rmost_7 _ _).mono ?_; rintro e ws ⟨rfl, rfl⟩) | (go_at_call 95; refine (rmost_16 _ _).mono ?_; rintro e ws ⟨rfl, rfl⟩))
      go_ret
      exact ⟨ret_b (Eq.trans (by first | (simp [rng, mosts, rmo, ha]; done) | (simp [rng, mosts, rmo, ha]; omega) | (rw [Bool.eq_iff_iff]; simp [rng, mosts, rmo, ha] <;> omega)) HV.out.symm), by go_grown⟩
  · have hb2 : (b == 0) = false := by simpa using hb
    have hb3 : (b != 0) = true := by simpa using hb
    go_enter Try.func78, Try.ntmps78
    go_wp2_with (first | (go_at_call 93; refine (rOperands_19 _).mono ?_; rintro e ws ⟨rfl, rfl⟩) | (go_at_call 94; refine (rin_any _ _ _ _).mono ?_; rintro e ws ⟨rfl, rfl⟩) | (go_at_call 95; refine (rmost_10 _ _).mono ?_; rintro e ws ⟨rfl, rfl⟩) | (go_at_call 95; refine (rmost_7 _ _).mono ?_; rintro e ws ⟨rfl, rfl⟩) | (go_at_call 95; refine (rmost_16 _ _).mono ?_; rintro e ws ⟨rfl, rfl⟩))
    go_ret
    exact ⟨ret_b (Eq.trans (by first | (simp [rng, mosts, rmo, hb]; done) | (simp [rng, mosts, rmo, hb]; omega) | (rw [Bool.eq_iff_iff]; simp [rng, mosts, rmo, hb] <;> omega)) HV.out.symm), by go_grown⟩
set_option maxHeartbeats 4000000 in
theorem rValid_20 (a b : Int) (p : Bool) (w : World) :
    Calls Try.prog 78 #[.agg #[.int .i64 20, .int .i64 a, .int .i64 b], .bool p] w fun e w' => e = .returned (.bool (vld 20 a b p)) ∧ Below w.heap.size w w' := by
  have HV := hide (vld_nat 20 (by omega) a b p)
  have s1 : (sp 20).a = 0 := rfl
  have s2 : (sp 20).b = 0 := rfl
  rw [s1, s2] at HV
  clear s1 s2
  by_cases hb : b = 0
  · subst hb
    by_cases ha : a = 0
    · subst ha
      go_enter Try.func78, Try.ntmps78
      go_wp2_with (first | (go_at_call 93; refine (rOperands_20 _).mono ?_; rintro e ws ⟨rfl, rfl⟩) | (go_at_call 94; refine (rin_any _ _ _ _).mono ?_; rintro e ws ⟨rfl, rfl⟩) | (go_at_call 95; refine (rmost_10 _ _).mono ?_; rintro e ws ⟨rfl, rfl⟩) | (go_at_call 95; refine (rmost_7 _ _).mono ?_; rintro e ws ⟨rfl, rfl⟩) | (go_at_call 95; refine (rmost_16 _ _).mono ?_; rintro e ws ⟨rfl, rfl⟩))
      go_ret
      exact ⟨ret_b (Eq.trans (by first | (simp [rng, mosts, rmo]; done) | (simp [rng, mosts, rmo]; omega) | (rw [Bool.eq_iff_iff]; simp [rng, mosts, rmo] <;> omega)) HV.out.symm), by go_grown⟩
    · have ha2 : (a == 0) = false := by simpa using ha
      have ha3 : (a != 0) = true := by simpa using ha
      go_enter Try.func78, Try.ntmps78
      go_wp2_with (first | (go_at_call 93; refine (rOperands_20 _).mono ?_; rintro e ws ⟨rfl, rfl⟩) | (go_at_call 94; refine (rin_any _ _ _ _).mono ?_; rintro e ws ⟨rfl, rfl⟩) | (go_at_call 95; refine (rmost_10 _ _).mono ?_; rintro e ws ⟨rfl, rfl⟩) | (go_at_call 95; refine (rmost_7 _ _).mono ?_; rintro e ws ⟨rfl, rfl⟩) | (go_at_call 95; refine (rmost_16 _ _).mono ?_; rintro e ws ⟨rfl, rfl⟩))
      go_ret
      exact ⟨ret_b (Eq.trans (by first | (simp [rng, mosts, rmo, ha]; done) | (simp [rng, mosts, rmo, ha]; omega) | (rw [Bool.eq_iff_iff]; simp [rng, mosts, rmo, ha] <;> omega)) HV.out.symm), by go_grown⟩
  · have hb2 : (b == 0) = false := by simpa using hb
    have hb3 : (b != 0) = true := by simpa using hb
    go_enter Try.func78, Try.ntmps78
    go_wp2_with (first | (go_at_call 93; refine (rOperands_20 _).mono ?_; rintro e ws ⟨rfl, rfl⟩) | (go_at_call 94; refine (rin_any _ _ _ _).mono ?_; rintro e ws ⟨rfl, rfl⟩) | (go_at_call 95; refine (rmost_10 _ _).mono ?_; rintro e ws ⟨rfl, rfl⟩) | (go_at_call 95; refine (rmost_7 _ _).mono ?_; rintro e ws ⟨rfl, rfl⟩) | (go_at_call 95; refine (rmost_16 _ _).mono ?_; rintro e ws ⟨rfl, rfl⟩))
    go_ret
    exact ⟨ret_b (Eq.trans (by first | (simp [rng, mosts, rmo, hb]; done) | (simp [rng, mosts, rmo, hb]; omega) | (rw [Bool.eq_iff_iff]; simp [rng, mosts, rmo, hb] <;> omega)) HV.out.symm), by go_grown⟩
set_option maxHeartbeats 4000000 in
theorem rValid_21 (a b : Int) (p : Bool) (w : World) :
    Calls Try.prog 78 #[.agg #[.int .i64 21, .int .i64 a, .int .i64 b], .bool p] w fun e w' => e = .returned (.bool (vld 21 a b p)) ∧ Below w.heap.size w w' := by
  have HV := hide (vld_nat 21 (by omega) a b p)
  have s1 : (sp 21).a = 0 := rfl
  have s2 : (sp 21).b = 0 := rfl
  rw [s1, s2] at HV
  clear s1 s2
  by_cases hb : b = 0
  · subst hb
    by_cases ha : a = 0
    · subst ha
      go_enter Try.func78, Try.ntmps78
      go_wp2_with (first | (go_at_call 93; refine (rOperands_21 _).mono ?_; rintro e ws ⟨rfl, rfl⟩) | (go_at_call 94; refine (rin_any _ _ _ _).mono ?_; rintro e ws ⟨rfl, rfl⟩) | (go_at_call 95; refine (rmost_10 _ _).mono ?_; rintro e ws ⟨rfl, rfl⟩) | (go_at_call 95; refine (rmost_7 _ _).mono ?_; rintro e ws ⟨rfl, rfl⟩) | (go_at_call 95; refine (rmost_16 _ _).mono ?_; rintro e ws ⟨rfl, rfl⟩))
      go_ret
      exact ⟨ret_b (Eq.trans (by first | (simp [rng, mosts, rmo]; done) | (simp [rng, mosts, rmo]; omega) | (rw [Bool.eq_iff_iff]; simp [rng, mosts, rmo] <;> omega)) HV.out.symm), by go_grown⟩
    · have ha2 : (a == 0) = false := by simpa using ha
      have ha3 : (a != 0) = true := by simpa using ha
      go_enter Try.func78, Try.ntmps78
      go_wp2_with (first | (go_at_call 93; refine (rOperands_21 _).mono ?_; rintro e ws ⟨rfl, rfl⟩) | (go_at_call 94; refine (rin_any _ _ _ _).mono ?_; rintro e ws ⟨rfl, rfl⟩) | (go_at_call 95; refine (rmost_10 _ _).mono ?_; rintro e ws ⟨rfl, rfl⟩) | (go_at_call 95; refine (rmost_7 _ _).mono ?_; rintro e ws ⟨rfl, rfl⟩) | (go_at_call 95; refine (rmost_16 _ _).mono ?_; rintro e ws ⟨rfl, rfl⟩))
      go_ret
      exact ⟨ret_b (Eq.trans (by first | (simp [rng, mosts, rmo, ha]; done) | (simp [rng, mosts, rmo, ha]; omega) | (rw [Bool.eq_iff_iff]; simp [rng, mosts, rmo, ha] <;> omega)) HV.out.symm), by go_grown⟩
  · have hb2 : (b == 0) = false := by simpa using hb
    have hb3 : (b != 0) = true := by simpa using hb
    go_enter Try.func78, Try.ntmps78
    go_wp2_with (first | (go_at_call 93; refine (rOperands_21 _).mono ?_; rintro e ws ⟨rfl, rfl⟩) | (go_at_call 94; refine (rin_any _ _ _ _).mono ?_; rintro e ws ⟨rfl, rfl⟩) | (go_at_call 95; refine (rmost_10 _ _).mono ?_; rintro e ws ⟨rfl, rfl⟩) | (go_at_call 95; refine (rmost_7 _ _).mono ?_; rintro e ws ⟨rfl, rfl⟩) | (go_at_call 95; refine (rmost_16 _ _).mono ?_; rintro e ws ⟨rfl, rfl⟩))
    go_ret
    exact ⟨ret_b (Eq.trans (by first | (simp [rng, mosts, rmo, hb]; done) | (simp [rng, mosts, rmo, hb]; omega) | (rw [Bool.eq_iff_iff]; simp [rng, mosts, rmo, hb] <;> omega)) HV.out.symm), by go_grown⟩
set_option maxHeartbeats 4000000 in
theorem rValid_22 (a b : Int) (p : Bool) (w : World) :
    Calls Try.prog 78 #[.agg #[.int .i64 22, .int .i64 a, .int .i64 b], .bool p] w fun e w' => e = .returned (.bool (vld 22 a b p)) ∧ Below w.heap.size w w' := by
  have HV := hide (vld_nat 22 (by omega) a b p)
  have s1 : (sp 22).a = 7 := rfl
  have s2 : (sp 22).b = 0 := rfl
  rw [s1, s2] at HV
  clear s1 s2
  by_cases hb : b = 0
  · subst hb
    cases p
    case false =>
      go_enter Try.func78, Try.ntmps78
      go_wp2_with (first | (go_at_call 93; refine (rOperands_22 _).mono ?_; rintro e ws ⟨rfl, rfl⟩) | (go_at_call 94; refine (rin_any _ _ _ _).mono ?_; rintro e ws ⟨rfl, rfl⟩) | (go_at_call 95; refine (rmost_10 _ _).mono ?_; rintro e ws ⟨rfl, rfl⟩) | (go_at_call 95; refine (rmost_7 _ _).mono ?_; rintro e ws ⟨rfl, rfl⟩) | (go_at_call 95; refine (rmost_16 _ _).mono ?_; rintro e ws ⟨rfl, rfl⟩))
      go_quiet ((first | (go_at_call 95; with_reducible exact Calls.quiet_of_same ((rmost_10 false _).mono (fun _ _ h => ⟨h.1, h.2.symm⟩))) | (go_at_call 94; with_reducible exact Calls.quiet_of_same ((rin_any a 0 (rmo 10 false) _).mono (fun _ _ h => ⟨h.1, h.2.symm⟩)))))
      go_wp2_with fail
      go_ret
      exact ⟨ret_b (Eq.trans (by first | (simp [rng, mosts, rmo]; done) | (simp [rng, mosts, rmo]; omega) | (rw [Bool.eq_iff_iff]; simp [rng, mosts, rmo] <;> omega)) HV.out.symm), drewN_below (by go_grown) _⟩
    case true =>
      go_enter Try.func78, Try.ntmps78
      go_wp2_with (first | (go_at_call 93; refine (rOperands_22 _).mono ?_; rintro e ws ⟨rfl, rfl⟩) | (go_at_call 94; refine (rin_any _ _ _ _).mono ?_; rintro e ws ⟨rfl, rfl⟩) | (go_at_call 95; refine (rmost_10 _ _).mono ?_; rintro e ws ⟨rfl, rfl⟩) | (go_at_call 95; refine (rmost_7 _ _).mono ?_; rintro e ws ⟨rfl, rfl⟩) | (go_at_call 95; refine (rmost_16 _ _).mono ?_; rintro e ws ⟨rfl, rfl⟩))
      go_quiet ((first | (go_at_call 95; with_reducible exact Calls.quiet_of_same ((rmost_10 true _).mono (fun _ _ h => ⟨h.1, h.2.symm⟩))) | (go_at_call 94; with_reducible exact Calls.quiet_of_same ((rin_any a 0 (rmo 10 true) _).mono (fun _ _ h => ⟨h.1, h.2.symm⟩)))))
      go_wp2_with fail
      go_ret
      exact ⟨ret_b (Eq.trans (by first | (simp [rng, mosts, rmo]; done) | (simp [rng, mosts, rmo]; omega) | (rw [Bool.eq_iff_iff]; simp [rng, mosts, rmo] <;> omega)) HV.out.symm), drewN_below (by go_grown) _⟩
  · have hb2 : (b == 0) = false := by simpa using hb
    have hb3 : (b != 0) = true := by simpa using hb
    go_enter Try.func78, Try.ntmps78
    go_wp2_with (first | (go_at_call 93; refine (rOperands_22 _).mono ?_; rintro e ws ⟨rfl, rfl⟩) | (go_at_call 94; refine (rin_any _ _ _ _).mono ?_; rintro e ws ⟨rfl, rfl⟩) | (go_at_call 95; refine (rmost_10 _ _).mono ?_; rintro e ws ⟨rfl, rfl⟩) | (go_at_call 95; refine (rmost_7 _ _).mono ?_; rintro e ws ⟨rfl, rfl⟩) | (go_at_call 95; refine (rmost_16 _ _).mono ?_; rintro e ws ⟨rfl, rfl⟩))
    go_ret
    exact ⟨ret_b (Eq.trans (by first | (simp [rng, mosts, rmo, hb]; done) | (simp [rng, mosts, rmo, hb]; omega) | (rw [Bool.eq_iff_iff]; simp [rng, mosts, rmo, hb] <;> omega)) HV.out.symm), by go_grown⟩
set_option maxHeartbeats 4000000 in
theorem rValid_23 (a b : Int) (p : Bool) (w : World) :
    Calls Try.prog 78 #[.agg #[.int .i64 23, .int .i64 a, .int .i64 b], .bool p] w fun e w' => e = .returned (.bool (vld 23 a b p)) ∧ Below w.heap.size w w' := by
  have HV := hide (vld_nat 23 (by omega) a b p)
  have s1 : (sp 23).a = 7 := rfl
  have s2 : (sp 23).b = 0 := rfl
  rw [s1, s2] at HV
  clear s1 s2
  by_cases hb : b = 0
  · subst hb
    cases p
    case false =>
      go_enter Try.func78, Try.ntmps78
      go_wp2_with (first | (go_at_call 93; refine (rOperands_23 _).mono ?_; rintro e ws ⟨rfl, rfl⟩) | (go_at_call 94; refine (rin_any _ _ _ _).mono ?_; rintro e ws ⟨rfl, rfl⟩) | (go_at_call 95; refine (rmost_10 _ _).mono ?_; rintro e ws ⟨rfl, rfl⟩) | (go_at_call 95; refine (rmost_7 _ _).mono ?_; rintro e ws ⟨rfl, rfl⟩) | (go_at_call 95; refine (rmost_16 _ _).mono ?_; rintro e ws ⟨rfl, rfl⟩))
      go_quiet ((first | (go_at_call 95; with_reducible exact Calls.quiet_of_same ((rmost_10 false _).mono (fun _ _ h => ⟨h.1, h.2.symm⟩))) | (go_at_call 94; with_reducible exact Calls.quiet_of_same ((rin_any a 0 (rmo 10 false) _).mono (fun _ _ h => ⟨h.1, h.2.symm⟩)))))
      go_wp2_with fail
      go_ret
      exact ⟨ret_b (Eq.trans (by first | (simp [rng, mosts, rmo]; done) | (simp [rng, mosts, rmo]; omega) | (rw [Bool.eq_iff_iff]; simp [rng, mosts, rmo] <;> omega)) HV.out.symm), drewN_below (by go_grown) _⟩
    case true =>
      go_enter Try.func78, Try.ntmps78
      go_wp2_with (first | (go_at_call 93; refine (rOperands_23 _).mono ?_; rintro e ws ⟨rfl, rfl⟩) | (go_at_call 94; refine (rin_any _ _ _ _).mono ?_; rintro e ws ⟨rfl, rfl⟩) | (go_at_call 95; refine (rmost_10 _ _).mono ?_; rintro e ws ⟨rfl, rfl⟩) | (go_at_call 95; refine (rmost_7 _ _).mono ?_; rintro e ws ⟨rfl, rfl⟩) | (go_at_call 95; refine (rmost_16 _ _).mono ?_; rintro e ws ⟨rfl, rfl⟩))
      go_quiet ((first | (go_at_call 95; with_reducible exact Calls.quiet_of_same ((rmost_10 true _).mono (fun _ _ h => ⟨h.1, h.2.symm⟩))) | (go_at_call 94; with_reducible exact Calls.quiet_of_same ((rin_any a 0 (rmo 10 true) _).mono (fun _ _ h => ⟨h.1, h.2.symm⟩)))))
      go_wp2_with fail
      go_ret
      exact ⟨ret_b (Eq.trans (by first | (simp [rng, mosts, rmo]; done) | (simp [rng, mosts, rmo]; omega) | (rw [Bool.eq_iff_iff]; simp [rng, mosts, rmo] <;> omega)) HV.out.symm), drewN_below (by go_grown) _⟩
  · have hb2 : (b == 0) = false := by simpa using hb
    have hb3 : (b != 0) = true := by simpa using hb
    go_enter Try.func78, Try.ntmps78
    go_wp2_with (first | (go_at_call 93; refine (rOperands_23 _).mono ?_; rintro e ws ⟨rfl, rfl⟩) | (go_at_call 94; refine (rin_any _ _ _ _).mono ?_; rintro e ws ⟨rfl, rfl⟩) | (go_at_call 95; refine (rmost_10 _ _).mono ?_; rintro e ws ⟨rfl, rfl⟩) | (go_at_call 95; refine (rmost_7 _ _).mono ?_; rintro e ws ⟨rfl, rfl⟩) | (go_at_call 95; refine (rmost_16 _ _).mono ?_; rintro e ws ⟨rfl, rfl⟩))
    go_ret
    exact ⟨ret_b (Eq.trans (by first | (simp [rng, mosts, rmo, hb]; done) | (simp [rng, mosts, rmo, hb]; omega) | (rw [Bool.eq_iff_iff]; simp [rng, mosts, rmo, hb] <;> omega)) HV.out.symm), by go_grown⟩
set_option maxHeartbeats 4000000 in
theorem rValid_24 (a b : Int) (p : Bool) (w : World) :
    Calls Try.prog 78 #[.agg #[.int .i64 24, .int .i64 a, .int .i64 b], .bool p] w fun e w' => e = .returned (.bool (vld 24 a b p)) ∧ Below w.heap.size w w' := by
  have HV := hide (vld_nat 24 (by omega) a b p)
  have s1 : (sp 24).a = 4 := rfl
  have s2 : (sp 24).b = 0 := rfl
  rw [s1, s2] at HV
  clear s1 s2
  by_cases hb : b = 0
  · subst hb
    cases p
    case false =>
      go_enter Try.func78, Try.ntmps78
      go_wp2_with (first | (go_at_call 93; refine (rOperands_24 _).mono ?_; rintro e ws ⟨rfl, rfl⟩) | (go_at_call 94; refine (rin_any _ _ _ _).mono ?_; rintro e ws ⟨rfl, rfl⟩) | (go_at_call 95; refine (rmost_10 _ _).mono ?_; rintro e ws ⟨rfl, rfl⟩) | (go_at_call 95; refine (rmost_7 _ _).mono ?_; rintro e ws ⟨rfl, rfl⟩) | (go_at_call 95; refine (rmost_16 _ _).mono ?_; rintro e ws ⟨rfl, rfl⟩))
      go_quiet ((first | (go_at_call 95; with_reducible exact Calls.quiet_of_same ((rmost_10 false _).mono (fun _ _ h => ⟨h.1, h.2.symm⟩))) | (go_at_call 94; with_reducible exact Calls.quiet_of_same ((rin_any a 0 (rmo 10 false) _).mono (fun _ _ h => ⟨h.1, h.2.symm⟩)))))
      go_wp2_with fail
      go_ret
      exact ⟨ret_b (Eq.trans (by first | (simp [rng, mosts, rmo]; done) | (simp [rng, mosts, rmo]; omega) | (rw [Bool.eq_iff_iff]; simp [rng, mosts, rmo] <;> omega)) HV.out.symm), drewN_below (by go_grown) _⟩
    case true =>
      go_enter Try.func78, Try.ntmps78
      go_wp2_with (first | (go_at_call 93; refine (rOperands_24 _).mono ?_; rintro e ws ⟨rfl, rfl⟩) | (go_at_call 94; refine (rin_any _ _ _ _).mono ?_; rintro e ws ⟨rfl, rfl⟩) | (go_at_call 95; refine (rmost_10 _ _).mono ?_; rintro e ws ⟨rfl, rfl⟩) | (go_at_call 95; refine (rmost_7 _ _).mono ?_; rintro e ws ⟨rfl, rfl⟩) | (go_at_call 95; refine (rmost_16 _ _).mono ?_; rintro e ws ⟨rfl, rfl⟩))
      go_quiet ((first | (go_at_call 95; with_reducible exact Calls.quiet_of_same ((rmost_10 true _).mono (fun _ _ h => ⟨h.1, h.2.symm⟩))) | (go_at_call 94; with_reducible exact Calls.quiet_of_same ((rin_any a 0 (rmo 10 true) _).mono (fun _ _ h => ⟨h.1, h.2.symm⟩)))))
      go_wp2_with fail
      go_ret
      exact ⟨ret_b (Eq.trans (by first | (simp [rng, mosts, rmo]; done) | (simp [rng, mosts, rmo]; omega) | (rw [Bool.eq_iff_iff]; simp [rng, mosts, rmo] <;> omega)) HV.out.symm), drewN_below (by go_grown) _⟩
  · have hb2 : (b == 0) = false := by simpa using hb
    have hb3 : (b != 0) = true := by simpa using hb
    go_enter Try.func78, Try.ntmps78
    go_wp2_with (first | (go_at_call 93; refine (rOperands_24 _).mono ?_; rintro e ws ⟨rfl, rfl⟩) | (go_at_call 94; refine (rin_any _ _ _ _).mono ?_; rintro e ws ⟨rfl, rfl⟩) | (go_at_call 95; refine (rmost_10 _ _).mono ?_; rintro e ws ⟨rfl, rfl⟩) | (go_at_call 95; refine (rmost_7 _ _).mono ?_; rintro e ws ⟨rfl, rfl⟩) | (go_at_call 95; refine (rmost_16 _ _).mono ?_; rintro e ws ⟨rfl, rfl⟩))
    go_ret
    exact ⟨ret_b (Eq.trans (by first | (simp [rng, mosts, rmo, hb]; done) | (simp [rng, mosts, rmo, hb]; omega) | (rw [Bool.eq_iff_iff]; simp [rng, mosts, rmo, hb] <;> omega)) HV.out.symm), by go_grown⟩
set_option maxHeartbeats 4000000 in
theorem rValid_25 (a b : Int) (p : Bool) (w : World) :
    Calls Try.prog 78 #[.agg #[.int .i64 25, .int .i64 a, .int .i64 b], .bool p] w fun e w' => e = .returned (.bool (vld 25 a b p)) ∧ Below w.heap.size w w' := by
  have HV := hide (vld_nat 25 (by omega) a b p)
  have s1 : (sp 25).a = 8 := rfl
  have s2 : (sp 25).b = 0 := rfl
  rw [s1, s2] at HV
  clear s1 s2
  by_cases hb : b = 0
  · subst hb
    cases p
    case false =>
      go_enter Try.func78, Try.ntmps78
      go_wp2_with (first | (go_at_call 93; refine (rOperands_25 _).mono ?_; rintro e ws ⟨rfl, rfl⟩) | (go_at_call 94; refine (rin_any _ _ _ _).mono ?_; rintro e ws ⟨rfl, rfl⟩) | (go_at_call 95; refine (rmost_10 _ _).mono ?_; rintro e ws ⟨rfl, rfl⟩) | (go_at_call 95; refine (rmost_7 _ _).mono ?_; rintro e ws ⟨rfl, rfl⟩) | (go_at_call 95; refine (rmost_16 _ _).mono ?_; rintro e ws ⟨rfl, rfl⟩))
      go_quiet ((first | (go_at_call 95; with_reducible exact Calls.quiet_of_same ((rmost_16 false _).mono (fun _ _ h => ⟨h.1, h.2.symm⟩))) | (go_at_call 94; with_reducible exact Calls.quiet_of_same ((rin_any a 0 (rmo 16 false) _).mono (fun _ _ h => ⟨h.1, h.2.symm⟩)))))
      go_wp2_with fail
      go_ret
      exact ⟨ret_b (Eq.trans (by first | (simp [rng, mosts, rmo]; done) | (simp [rng, mosts, rmo]; omega) | (rw [Bool.eq_iff_iff]; simp [rng, mosts, rmo] <;> omega)) HV.out.symm), drewN_below (by go_grown) _⟩
    case true =>
      go_enter Try.func78, Try.ntmps78
      go_wp2_with (first | (go_at_call 93; refine (rOperands_25 _).mono ?_; rintro e ws ⟨rfl, rfl⟩) | (go_at_call 94; refine (rin_any _ _ _ _).mono ?_; rintro e ws ⟨rfl, rfl⟩) | (go_at_call 95; refine (rmost_10 _ _).mono ?_; rintro e ws ⟨rfl, rfl⟩) | (go_at_call 95; refine (rmost_7 _ _).mono ?_; rintro e ws ⟨rfl, rfl⟩) | (go_at_call 95; refine (rmost_16 _ _).mono ?_; rintro e ws ⟨rfl, rfl⟩))
      go_quiet ((first | (go_at_call 95; with_reducible exact Calls.quiet_of_same ((rmost_16 true _).mono (fun _ _ h => ⟨h.1, h.2.symm⟩))) | (go_at_call 94; with_reducible exact Calls.quiet_of_same ((rin_any a 0 (rmo 16 true) _).mono (fun _ _ h => ⟨h.1, h.2.symm⟩)))))
      go_wp2_with fail
      go_ret
      exact ⟨ret_b (Eq.trans (by first | (simp [rng, mosts, rmo]; done) | (simp [rng, mosts, rmo]; omega) | (rw [Bool.eq_iff_iff]; simp [rng, mosts, rmo] <;> omega)) HV.out.symm), drewN_below (by go_grown) _⟩
  · have hb2 : (b == 0) = false := by simpa using hb
    have hb3 : (b != 0) = true := by simpa using hb
    go_enter Try.func78, Try.ntmps78
    go_wp2_with (first | (go_at_call 93; refine (rOperands_25 _).mono ?_; rintro e ws ⟨rfl, rfl⟩) | (go_at_call 94; refine (rin_any _ _ _ _).mono ?_; rintro e ws ⟨rfl, rfl⟩) | (go_at_call 95; refine (rmost_10 _ _).mono ?_; rintro e ws ⟨rfl, rfl⟩) | (go_at_call 95; refine (rmost_7 _ _).mono ?_; rintro e ws ⟨rfl, rfl⟩) | (go_at_call 95; refine (rmost_16 _ _).mono ?_; rintro e ws ⟨rfl, rfl⟩))
    go_ret
    exact ⟨ret_b (Eq.trans (by first | (simp [rng, mosts, rmo, hb]; done) | (simp [rng, mosts, rmo, hb]; omega) | (rw [Bool.eq_iff_iff]; simp [rng, mosts, rmo, hb] <;> omega)) HV.out.symm), by go_grown⟩
set_option maxHeartbeats 4000000 in
theorem rValid_26 (a b : Int) (p : Bool) (w : World) :
    Calls Try.prog 78 #[.agg #[.int .i64 26, .int .i64 a, .int .i64 b], .bool p] w fun e w' => e = .returned (.bool (vld 26 a b p)) ∧ Below w.heap.size w w' := by
  have HV := hide (vld_nat 26 (by omega) a b p)
  have s1 : (sp 26).a = 9 := rfl
  have s2 : (sp 26).b = 0 := rfl
  rw [s1, s2] at HV
  clear s1 s2
  by_cases hb : b = 0
  · subst hb
    cases p
    case false =>
      go_enter Try.func78, Try.ntmps78
      go_wp2_with (first | (go_at_call 93; refine (rOperands_26 _).mono ?_; rintro e ws ⟨rfl, rfl⟩) | (go_at_call 94; refine (rin_any _ _ _ _).mono ?_; rintro e ws ⟨rfl, rfl⟩) | (go_at_call 95; refine (rmost_10 _ _).mono ?_; rintro e ws ⟨rfl, rfl⟩) | (go_at_call 95; refine (rmost_7 _ _).mono ?_; rintro e ws ⟨rfl, rfl⟩) | (go_at_call 95; refine (rmost_16 _ _).mono ?_; rintro e ws ⟨rfl, rfl⟩))
      go_quiet ((first | (go_at_call 95; with_reducible exact Calls.quiet_of_same ((rmost_16 false _).mono (fun _ _ h => ⟨h.1, h.2.symm⟩))) | (go_at_call 94; with_reducible exact Calls.quiet_of_same ((rin_any a 0 (rmo 16 false) _).mono (fun _ _ h => ⟨h.1, h.2.symm⟩)))))
      go_wp2_with fail
      go_ret
      exact ⟨ret_b (Eq.trans (by first | (simp [rng, mosts, rmo]; done) | (simp [rng, mosts, rmo]; omega) | (rw [Bool.eq_iff_iff]; simp [rng, mosts, rmo] <;> omega)) HV.out.symm), drewN_below (by go_grown) _⟩
    case true =>
      go_enter Try.func78, Try.ntmps78
      go_wp2_with (first | (go_at_call 93; refine (rOperands_26 _).mono ?_; rintro e ws ⟨rfl, rfl⟩) | (go_at_call 94; refine (rin_any _ _ _ _).mono ?_; rintro e ws ⟨rfl, rfl⟩) | (go_at_call 95; refine (rmost_10 _ _).mono ?_; rintro e ws ⟨rfl, rfl⟩) | (go_at_call 95; refine (rmost_7 _ _).mono ?_; rintro e ws ⟨rfl, rfl⟩) | (go_at_call 95; refine (rmost_16 _ _).mono ?_; rintro e ws ⟨rfl, rfl⟩))
      go_quiet ((first | (go_at_call 95; with_reducible exact Calls.quiet_of_same ((rmost_16 true _).mono (fun _ _ h => ⟨h.1, h.2.symm⟩))) | (go_at_call 94; with_reducible exact Calls.quiet_of_same ((rin_any a 0 (rmo 16 true) _).mono (fun _ _ h => ⟨h.1, h.2.symm⟩)))))
      go_wp2_with fail
      go_ret
      exact ⟨ret_b (Eq.trans (by first | (simp [rng, mosts, rmo]; done) | (simp [rng, mosts, rmo]; omega) | (rw [Bool.eq_iff_iff]; simp [rng, mosts, rmo] <;> omega)) HV.out.symm), drewN_below (by go_grown) _⟩
  · have hb2 : (b == 0) = false := by simpa using hb
    have hb3 : (b != 0) = true := by simpa using hb
    go_enter Try.func78, Try.ntmps78
    go_wp2_with (first | (go_at_call 93; refine (rOperands_26 _).mono ?_; rintro e ws ⟨rfl, rfl⟩) | (go_at_call 94; refine (rin_any _ _ _ _).mono ?_; rintro e ws ⟨rfl, rfl⟩) | (go_at_call 95; refine (rmost_10 _ _).mono ?_; rintro e ws ⟨rfl, rfl⟩) | (go_at_call 95; refine (rmost_7 _ _).mono ?_; rintro e ws ⟨rfl, rfl⟩) | (go_at_call 95; refine (rmost_16 _ _).mono ?_; rintro e ws ⟨rfl, rfl⟩))
    go_ret
    exact ⟨ret_b (Eq.trans (by first | (simp [rng, mosts, rmo, hb]; done) | (simp [rng, mosts, rmo, hb]; omega) | (rw [Bool.eq_iff_iff]; simp [rng, mosts, rmo, hb] <;> omega)) HV.out.symm), by go_grown⟩
set_option maxHeartbeats 4000000 in
theorem rValid_27 (a b : Int) (p : Bool) (w : World) :
    Calls Try.prog 78 #[.agg #[.int .i64 27, .int .i64 a, .int .i64 b], .bool p] w fun e w' => e = .returned (.bool (vld 27 a b p)) ∧ Below w.heap.size w w' := by
  have HV := hide (vld_nat 27 (by omega) a b p)
  have s1 : (sp 27).a = 10 := rfl
  have s2 : (sp 27).b = 0 := rfl
  rw [s1, s2] at HV
  clear s1 s2
  by_cases hb : b = 0
  · subst hb
    go_enter Try.func78, Try.ntmps78
    go_wp2_with (first | (go_at_call 93; refine (rOperands_27 _).mono ?_; rintro e ws ⟨rfl, rfl⟩) | (go_at_call 94; refine (rin_any _ _ _ _).mono ?_; rintro e ws ⟨rfl, rfl⟩) | (go_at_call 95; refine (rmost_10 _ _).mono ?_; rintro e ws ⟨rfl, rfl⟩) | (go_at_call 95; refine (rmost_7 _ _).mono ?_; rintro e ws ⟨rfl, rfl⟩) | (go_at_call 95; refine (rmost_16 _ _).mono ?_; rintro e ws ⟨rfl, rfl⟩))
    go_ret
    exact ⟨ret_b (Eq.trans (by first | (simp [rng, mosts, rmo]; done) | (simp [rng, mosts, rmo]; omega) | (rw [Bool.eq_iff_iff]; simp [rng, mosts, rmo] <;> omega)) HV.out.symm), by go_grown⟩
  · have hb2 : (b == 0) = false := by simpa using hb
    have hb3 : (b != 0) = true := by simpa using hb
    go_enter Try.func78, Try.ntmps78
    go_wp2_with (first | (go_at_call 93; refine (rOperands_27 _).mono ?_; rintro e ws ⟨rfl, rfl⟩) | (go_at_call 94; refine (rin_any _ _ _ _).mono ?_; rintro e ws ⟨rfl, rfl⟩) | (go_at_call 95; refine (rmost_10 _ _).mono ?_; rintro e ws ⟨rfl, rfl⟩) | (go_at_call 95; refine (rmost_7 _ _).mono ?_; rintro e ws ⟨rfl, rfl⟩) | (go_at_call 95; refine (rmost_16 _ _).mono ?_; rintro e ws ⟨rfl, rfl⟩))
    go_ret
    exact ⟨ret_b (Eq.trans (by first | (simp [rng, mosts, rmo, hb]; done) | (simp [rng, mosts, rmo, hb]; omega) | (rw [Bool.eq_iff_iff]; simp [rng, mosts, rmo, hb] <;> omega)) HV.out.symm), by go_grown⟩
set_option maxHeartbeats 4000000 in
theorem rValid_28 (a b : Int) (p : Bool) (w : World) :
    Calls Try.prog 78 #[.agg #[.int .i64 28, .int .i64 a, .int .i64 b], .bool p] w fun e w' => e = .returned (.bool (vld 28 a b p)) ∧ Below w.heap.size w w' := by
  have HV := hide (vld_nat 28 (by omega) a b p)
  have s1 : (sp 28).a = 11 := rfl
  have s2 : (sp 28).b = 0 := rfl
  rw [s1, s2] at HV
  clear s1 s2
  by_cases hb : b = 0
  · subst hb
    go_enter Try.func78, Try.ntmps78
    go_wp2_with (first | (go_at_call 93; refine (rOperands_28 _).mono ?_; rintro e ws ⟨rfl, rfl⟩) | (go_at_call 94; refine (rin_any _ _ _ _).mono ?_; rintro e ws ⟨rfl, rfl⟩) | (go_at_call 95; refine (rmost_10 _ _).mono ?_; rintro e ws ⟨rfl, rfl⟩) | (go_at_call 95; refine (rmost_7 _ _).mono ?_; rintro e ws ⟨rfl, rfl⟩) | (go_at_call 95; refine (rmost_16 _ _).mono ?_; rintro e ws ⟨rfl, rfl⟩))
    go_ret
    exact ⟨ret_b (Eq.trans (by first | (simp [rng, mosts, rmo]; done) | (simp [rng, mosts, rmo]; omega) | (rw [Bool.eq_iff_iff]; simp [rng, mosts, rmo] <;> omega)) HV.out.symm), by go_grown⟩
  · have hb2 : (b == 0) = false := by simpa using hb
    have hb3 : (b != 0) = true := by simpa using hb
    go_enter Try.func78, Try.ntmps78
    go_wp2_with (first | (go_at_call 93; refine (rOperands_28 _).mono ?_; rintro e ws ⟨rfl, rfl⟩) | (go_at_call 94; refine (rin_any _ _ _ _).mono ?_; rintro e ws ⟨rfl, rfl⟩) | (go_at_call 95; refine (rmost_10 _ _).mono ?_; rintro e ws ⟨rfl, rfl⟩) | (go_at_call 95; refine (rmost_7 _ _).mono ?_; rintro e ws ⟨rfl, rfl⟩) | (go_at_call 95; refine (rmost_16 _ _).mono ?_; rintro e ws ⟨rfl, rfl⟩))
    go_ret
    exact ⟨ret_b (Eq.trans (by first | (simp [rng, mosts, rmo, hb]; done) | (simp [rng, mosts, rmo, hb]; omega) | (rw [Bool.eq_iff_iff]; simp [rng, mosts, rmo, hb] <;> omega)) HV.out.symm), by go_grown⟩
set_option maxHeartbeats 4000000 in
theorem rValid_29 (a b : Int) (p : Bool) (w : World) :
    Calls Try.prog 78 #[.agg #[.int .i64 29, .int .i64 a, .int .i64 b], .bool p] w fun e w' => e = .returned (.bool (vld 29 a b p)) ∧ Below w.heap.size w w' := by
  have HV := hide (vld_nat 29 (by omega) a b p)
  have s1 : (sp 29).a = 0 := rfl
  have s2 : (sp 29).b = 0 := rfl
  rw [s1, s2] at HV
  clear s1 s2
  by_cases hb : b = 0
  · subst hb
    by_cases ha : a = 0
    · subst ha
      go_enter Try.func78, Try.ntmps78
      go_wp2_with (first | (go_at_call 93; refine (rOperands_29 _).mono ?_; rintro e ws ⟨rfl, rfl⟩) | (go_at_call 94; refine (rin_any _ _ _ _).mono ?_; rintro e ws ⟨rfl, rfl⟩) | (go_at_call 95; refine (rmost_10 _ _).mono ?_; rintro e ws ⟨rfl, rfl⟩) | (go_at_call 95; refine (rmost_7 _ _).mono ?_; rintro e ws ⟨rfl, rfl⟩) | (go_at_call 95; refine (rmost_16 _ _).mono ?_; rintro e ws ⟨rfl, rfl⟩))
      go_ret
      exact ⟨ret_b (Eq.trans (by first | (simp [rng, mosts, rmo]; done) | (simp [rng, mosts, rmo]; omega) | (rw [Bool.eq_iff_iff]; simp [rng, mosts, rmo] <;> omega)) HV.out.symm), by go_grown⟩
    · have ha2 : (a == 0) = false := by simpa using ha
      have ha3 : (a != 0) = true := by simpa using ha
      go_enter Try.func78, Try.ntmps78
      go_wp2_with (first | (go_at_call 93; refine (rOperands_29 _).mono ?_; rintro e ws ⟨rfl, rfl⟩) | (go_at_call 94; refine (rin_any _ _ _ _).mono ?_; rintro e ws ⟨rfl, rfl⟩) | (go_at_call 95; refine (rmost_10 _ _).mono ?_; rintro e ws ⟨rfl, rfl⟩) | (go_at_call 95; refine (rmost_7 _ _).mono ?_; rintro e ws ⟨rfl, rfl⟩) | (go_at_call 95; refine (rmost_16 _ _).mono ?_; rintro e ws ⟨rfl, rfl⟩))
      go_ret
      exact ⟨ret_b (Eq.trans (by first | (simp [rng, mosts, rmo, ha]; done) | (simp [rng, mosts, rmo, ha]; omega) | (rw [Bool.eq_iff_iff]; simp [rng, mosts, rmo, ha] <;> omega)) HV.out.symm), by go_grown⟩
  · have hb2 : (b == 0) = false := by simpa using hb
    have hb3 : (b != 0) = true := by simpa using hb
    go_enter Try.func78, Try.ntmps78
    go_wp2_with (first | (go_at_call 93; refine (rOperands_29 _).mono ?_; rintro e ws ⟨rfl, rfl⟩) | (go_at_call 94; refine (rin_any _ _ _ _).mono ?_; rintro e ws ⟨rfl, rfl⟩) | (go_at_call 95; refine (rmost_10 _ _).mono ?_; rintro e ws ⟨rfl, rfl⟩) | (go_at_call 95; refine (rmost_7 _ _).mono ?_; rintro e ws ⟨rfl, rfl⟩) | (go_at_call 95; refine (rmost_16 _ _).mono ?_; rintro e ws ⟨rfl, rfl⟩))
    go_ret
    exact ⟨ret_b (Eq.trans (by first | (simp [rng, mosts, rmo, hb]; done) | (simp [rng, mosts, rmo, hb]; omega) | (rw [Bool.eq_iff_iff]; simp [rng, mosts, rmo, hb] <;> omega)) HV.out.symm), by go_grown⟩
set_option maxHeartbeats 4000000 in
theorem rValid_31 (a b : Int) (p : Bool) (w : World) :
    Calls Try.prog 78 #[.agg #[.int .i64 31, .int .i64 a, .int .i64 b], .bool p] w fun e w' => e = .returned (.bool (vld 31 a b p)) ∧ Below w.heap.size w w' := by
  have HV := hide (vld_nat 31 (by omega) a b p)
  have s1 : (sp 31).a = 13 := rfl
  have s2 : (sp 31).b = 0 := rfl
  rw [s1, s2] at HV
  clear s1 s2
  by_cases hb : b = 0
  · subst hb
    go_enter Try.func78, Try.ntmps78
    go_wp2_with (first | (go_at_call 93; refine (rOperands_31 _).mono ?_; rintro e ws ⟨rfl, rfl⟩) | (go_at_call 94; refine (rin_any _ _ _ _).mono ?_; rintro e ws ⟨rfl, rfl⟩) | (go_at_call 95; refine (rmost_10 _ _).mono ?_; rintro e ws ⟨rfl, rfl⟩) | (go_at_call 95; refine (rmost_7 _ _).mono ?_; rintro e ws ⟨rfl, rfl⟩) | (go_at_call 95; refine (rmost_16 _ _).mono ?_; rintro e ws ⟨rfl, rfl⟩))
    go_ret
    exact ⟨ret_b (Eq.trans (by first | (simp [rng, mosts, rmo]; done) | (simp [rng, mosts, rmo]; omega) | (rw [Bool.eq_iff_iff]; simp [rng, mosts, rmo] <;> omega)) HV.out.symm), by go_grown⟩
  · have hb2 : (b == 0) = false := by simpa using hb
    have hb3 : (b != 0) = true := by simpa using hb
    go_enter Try.func78, Try.ntmps78
    go_wp2_with (first | (go_at_call 93; refine (rOperands_31 _).mono ?_; rintro e ws ⟨rfl, rfl⟩) | (go_at_call 94; refine (rin_any _ _ _ _).mono ?_; rintro e ws ⟨rfl, rfl⟩) | (go_at_call 95; refine (rmost_10 _ _).mono ?_; rintro e ws ⟨rfl, rfl⟩) | (go_at_call 95; refine (rmost_7 _ _).mono ?_; rintro e ws ⟨rfl, rfl⟩) | (go_at_call 95; refine (rmost_16 _ _).mono ?_; rintro e ws ⟨rfl, rfl⟩))
    go_ret
    exact ⟨ret_b (Eq.trans (by first | (simp [rng, mosts, rmo, hb]; done) | (simp [rng, mosts, rmo, hb]; omega) | (rw [Bool.eq_iff_iff]; simp [rng, mosts, rmo, hb] <;> omega)) HV.out.symm), by go_grown⟩
set_option maxHeartbeats 4000000 in
theorem rValid_32 (a b : Int) (p : Bool) (w : World) :
    Calls Try.prog 78 #[.agg #[.int .i64 32, .int .i64 a, .int .i64 b], .bool p] w fun e w' => e = .returned (.bool (vld 32 a b p)) ∧ Below w.heap.size w w' := by
  have HV := hide (vld_nat 32 (by omega) a b p)
  have s1 : (sp 32).a = 14 := rfl
  have s2 : (sp 32).b = 0 := rfl
  rw [s1, s2] at HV
  clear s1 s2
  by_cases hb : b = 0
  · subst hb
    go_enter Try.func78, Try.ntmps78
    go_wp2_with (first | (go_at_call 93; refine (rOperands_32 _).mono ?_; rintro e ws ⟨rfl, rfl⟩) | (go_at_call 94; refine (rin_any _ _ _ _).mono ?_; rintro e ws ⟨rfl, rfl⟩) | (go_at_call 95; refine (rmost_10 _ _).mono ?_; rintro e ws ⟨rfl, rfl⟩) | (go_at_call 95; refine (rmost_7 _ _).mono ?_; rintro e ws ⟨rfl, rfl⟩) | (go_at_call 95; refine (rmost_16 _ _).mono ?_; rintro e ws ⟨rfl, rfl⟩))
    go_ret
    exact ⟨ret_b (Eq.trans (by first | (simp [rng, mosts, rmo]; done) | (simp [rng, mosts, rmo]; omega) | (rw [Bool.eq_iff_iff]; simp [rng, mosts, rmo] <;> omega)) HV.out.symm), by go_grown⟩
  · have hb2 : (b == 0) = false := by simpa using hb
    have hb3 : (b != 0) = true := by simpa using hb
    go_enter Try.func78, Try.ntmps78
    go_wp2_with (first | (go_at_call 93; refine (rOperands_32 _).mono ?_; rintro e ws ⟨rfl, rfl⟩) | (go_at_call 94; refine (rin_any _ _ _ _).mono ?_; rintro e ws ⟨rfl, rfl⟩) | (go_at_call 95; refine (rmost_10 _ _).mono ?_; rintro e ws ⟨rfl, rfl⟩) | (go_at_call 95; refine (rmost_7 _ _).mono ?_; rintro e ws ⟨rfl, rfl⟩) | (go_at_call 95; refine (rmost_16 _ _).mono ?_; rintro e ws ⟨rfl, rfl⟩))
    go_ret
    exact ⟨ret_b (Eq.trans (by first | (simp [rng, mosts, rmo, hb]; done) | (simp [rng, mosts, rmo, hb]; omega) | (rw [Bool.eq_iff_iff]; simp [rng, mosts, rmo, hb] <;> omega)) HV.out.symm), by go_grown⟩
set_option maxHeartbeats 4000000 in
theorem rValid_33 (a b : Int) (p : Bool) (w : World) :
    Calls Try.prog 78 #[.agg #[.int .i64 33, .int .i64 a, .int .i64 b], .bool p] w fun e w' => e = .returned (.bool (vld 33 a b p)) ∧ Below w.heap.size w w' := by
  have HV := hide (vld_nat 33 (by omega) a b p)
  have s1 : (sp 33).a = 0 := rfl
  have s2 : (sp 33).b = 0 := rfl
  rw [s1, s2] at HV
  clear s1 s2
  by_cases hb : b = 0
  · subst hb
    by_cases ha : a = 0
    · subst ha
      go_enter Try.func78, Try.ntmps78
      go_wp2_with (first | (go_at_call 93; refine (rOperands_33 _).mono ?_; rintro e ws ⟨rfl, rfl⟩) | (go_at_call 94; refine (rin_any _ _ _ _).mono ?_; rintro e ws ⟨rfl, rfl⟩) | (go_at_call 95; refine (rmost_10 _ _).mono ?_; rintro e ws ⟨rfl, rfl⟩) | (go_at_call 95; refine (rmost_7 _ _).mono ?_; rintro e ws ⟨rfl, rfl⟩) | (go_at_call 95; refine (rmost_16 _ _).mono ?_; rintro e ws ⟨rfl, rfl⟩))
      go_ret
      exact ⟨ret_b (Eq.trans (by first | (simp [rng, mosts, rmo]; done) | (simp [rng, mosts, rmo]; omega) | (rw [Bool.eq_iff_iff]; simp [rng, mosts, rmo] <;> omega)) HV.out.symm), by go_grown⟩
    · have ha2 : (a == 0) = false := by simpa using ha
      have ha3 : (a != 0) = true := by simpa using ha
      go_enter Try.func78, Try.ntmps78
      go_wp2_with (first | (go_at_call 93; refine (rOperands_33 _).mono ?_; rintro e ws ⟨rfl, rfl⟩) | (go_at_call 94; refine (rin_any _ _ _ _).mono ?_; rintro e ws ⟨rfl, rfl⟩) | (go_at_call 95; refine (rmost_10 _ _).mono ?_; rintro e ws ⟨rfl, rfl⟩) | (go_at_call 95; refine (rmost_7 _ _).mono ?_; rintro e ws ⟨rfl, rfl⟩) | (go_at_call 95; refine (rmost_16 _ _).mono ?_; rintro e ws ⟨rfl, rfl⟩))
      go_ret
      exact ⟨ret_b (Eq.trans (by first | (simp [rng, mosts, rmo, ha]; done) | (simp [rng, mosts, rmo, ha]; omega) | (rw [Bool.eq_iff_iff]; simp [rng, mosts, rmo, ha] <;> omega)) HV.out.symm), by go_grown⟩
  · have hb2 : (b == 0) = false := by simpa using hb
    have hb3 : (b != 0) = true := by simpa using hb
    go_enter Try.func78, Try.ntmps78
    go_wp2_with (first | (go_at_call 93; refine (rOperands_33 _).mono ?_; rintro e ws ⟨rfl, rfl⟩) | (go_at_call 94; refine (rin_any _ _ _ _).mono ?_; rintro e ws ⟨rfl, rfl⟩) | (go_at_call 95; refine (rmost_10 _ _).mono ?_; rintro e ws ⟨rfl, rfl⟩) | (go_at_call 95; refine (rmost_7 _ _).mono ?_; rintro e ws ⟨rfl, rfl⟩) | (go_at_call 95; refine (rmost_16 _ _).mono ?_; rintro e ws ⟨rfl, rfl⟩))
    go_ret
    exact ⟨ret_b (Eq.trans (by first | (simp [rng, mosts, rmo, hb]; done) | (simp [rng, mosts, rmo, hb]; omega) | (rw [Bool.eq_iff_iff]; simp [rng, mosts, rmo, hb] <;> omega)) HV.out.symm), by go_grown⟩
set_option maxHeartbeats 4000000 in
theorem rValid_34 (a b : Int) (p : Bool) (w : World) :
    Calls Try.prog 78 #[.agg #[.int .i64 34, .int .i64 a, .int .i64 b], .bool p] w fun e w' => e = .returned (.bool (vld 34 a b p)) ∧ Below w.heap.size w w' := by
  have HV := hide (vld_nat 34 (by omega) a b p)
  have s1 : (sp 34).a = 0 := rfl
  have s2 : (sp 34).b = 0 := rfl
  rw [s1, s2] at HV
  clear s1 s2
  by_cases hb : b = 0
  · subst hb
    by_cases ha : a = 0
    · subst ha
      go_enter Try.func78, Try.ntmps78
      go_wp2_with (first | (go_at_call 93; refine (rOperands_34 _).mono ?_; rintro e ws ⟨rfl, rfl⟩) | (go_at_call 94; refine (rin_any _ _ _ _).mono ?_; rintro e ws ⟨rfl, rfl⟩) | (go_at_call 95; refine (rmost_10 _ _).mono ?_; rintro e ws ⟨rfl, rfl⟩) | (go_at_call 95; refine (rmost_7 _ _).mono ?_; rintro e ws ⟨rfl, rfl⟩) | (go_at_call 95; refine (rmost_16 _ _).mono ?_; rintro e ws ⟨rfl, rfl⟩))
      go_ret
      exact ⟨ret_b (Eq.trans (by first | (simp [rng, mosts, rmo]; done) | (simp [rng, mosts, rmo]; omega) | (rw [Bool.eq_iff_iff]; simp [rng, mosts, rmo] <;> omega)) HV.out.symm), by go_grown⟩
    · have ha2 : (a == 0) = false := by simpa using ha
      have ha3 : (a != 0) = true := by simpa using ha
      go_enter Try.func78, Try.ntmps78
      go_wp2_with (first | (go_at_call 93; refine (rOperands_34 _).mono ?_; rintro e ws ⟨rfl, rfl⟩) | (go_at_call 94; refine (rin_any _ _ _ _).mono ?_; rintro e ws ⟨rfl, rfl⟩) | (go_at_call 95; refine (rmost_10 _ _).mono ?_; rintro e ws ⟨rfl, rfl⟩) | (go_at_call 95; refine (rmost_7 _ _).mono ?_; rintro e ws ⟨rfl, rfl⟩) | (go_at_call 95; refine (rmost_16 _ _).mono ?_; rintro e ws ⟨rfl, rfl⟩))
      go_ret
      exact ⟨ret_b (Eq.trans (by first | (simp [rng, mosts, rmo, ha]; done) | (simp [rng, mosts, rmo, ha]; omega) | (rw [Bool.eq_iff_iff]; simp [rng, mosts, rmo, ha] <;> omega)) HV.out.symm), by go_grown⟩
  · have hb2 : (b == 0) = false := by simpa using hb
    have hb3 : (b != 0) = true := by simpa using hb
    go_enter Try.func78, Try.ntmps78
    go_wp2_with (first | (go_at_call 93; refine (rOperands_34 _).mono ?_; rintro e ws ⟨rfl, rfl⟩) | (go_at_call 94; refine (rin_any _ _ _ _).mono ?_; rintro e ws ⟨rfl, rfl⟩) | (go_at_call 95; refine (rmost_10 _ _).mono ?_; rintro e ws ⟨rfl, rfl⟩) | (go_at_call 95; refine (rmost_7 _ _).mono ?_; rintro e ws ⟨rfl, rfl⟩) | (go_at_call 95; refine (rmost_16 _ _).mono ?_; rintro e ws ⟨rfl, rfl⟩))
    go_ret
    exact ⟨ret_b (Eq.trans (by first | (simp [rng, mosts, rmo, hb]; done) | (simp [rng, mosts, rmo, hb]; omega) | (rw [Bool.eq_iff_iff]; simp [rng, mosts, rmo, hb] <;> omega)) HV.out.symm), by go_grown⟩
set_option maxHeartbeats 4000000 in
theorem rValid_35 (a b : Int) (p : Bool) (w : World) :
    Calls Try.prog 78 #[.agg #[.int .i64 35, .int .i64 a, .int .i64 b], .bool p] w fun e w' => e = .returned (.bool (vld 35 a b p)) ∧ Below w.heap.size w w' := by
  have HV := hide (vld_nat 35 (by omega) a b p)
  have s1 : (sp 35).a = 0 := rfl
  have s2 : (sp 35).b = 0 := rfl
  rw [s1, s2] at HV
  clear s1 s2
  by_cases hb : b = 0
  · subst hb
    by_cases ha : a = 0
    · subst ha
      go_enter Try.func78, Try.ntmps78
      go_wp2_with (first | (go_at_call 93; refine (rOperands_35 _).mono ?_; rintro e ws ⟨rfl, rfl⟩) | (go_at_call 94; refine (rin_any _ _ _ _).mono ?_; rintro e ws ⟨rfl, rfl⟩) | (go_at_call 95; refine (rmost_10 _ _).mono ?_; rintro e ws ⟨rfl, rfl⟩) | (go_at_call 95; refine (rmost_7 _ _).mono ?_; rintro e ws ⟨rfl, rfl⟩) | (go_at_call 95; refine (rmost_16 _ _).mono ?_; rintro e ws ⟨rfl, rfl⟩))
      go_ret
      exact ⟨ret_b (Eq.trans (by first | (simp [rng, mosts, rmo]; done) | (simp [rng, mosts, rmo]; omega) | (rw [Bool.eq_iff_iff]; simp [rng, mosts, rmo] <;> omega)) HV.out.symm), by go_grown⟩
    · have ha2 : (a == 0) = false := by simpa using ha
      have ha3 : (a != 0) = true := by simpa using ha
      go_enter Try.func78, Try.ntmps78
      go_wp2_with (first | (go_at_call 93; refine (rOperands_35 _).mono ?_; rintro e ws ⟨rfl, rfl⟩) | (go_at_call 94; refine (rin_any _ _ _ _).mono ?_; rintro e ws ⟨rfl, rfl⟩) | (go_at_call 95; refine (rmost_10 _ _).mono ?_; rintro e ws ⟨rfl, rfl⟩) | (go_at_call 95; refine (rmost_7 _ _).mono ?_; rintro e ws ⟨rfl, rfl⟩) | (go_at_call 95; refine (rmost_16 _ _).mono ?_; rintro e ws ⟨rfl, rfl⟩))
      go_ret
      exact ⟨ret_b (Eq.trans (by first | (simp [rng, mosts, rmo, ha]; done) | (simp [rng, mosts, rmo, ha]; omega) | (rw [Bool.eq_iff_iff]; simp [rng, mosts, rmo, ha] <;> omega)) HV.out.symm), by go_grown⟩
  · have hb2 : (b == 0) = false := by simpa using hb
    have hb3 : (b != 0) = true := by simpa using hb
    go_enter Try.func78, Try.ntmps78
    go_wp2_with (first | (go_at_call 93; refine (rOperands_35 _).mono ?_; rintro e ws ⟨rfl, rfl⟩) | (go_at_call 94; refine (rin_any _ _ _ _).mono ?_; rintro e ws ⟨rfl, rfl⟩) | (go_at_call 95; refine (rmost_10 _ _).mono ?_; rintro e ws ⟨rfl, rfl⟩) | (go_at_call 95; refine (rmost_7 _ _).mono ?_; rintro e ws ⟨rfl, rfl⟩) | (go_at_call 95; refine (rmost_16 _ _).mono ?_; rintro e ws ⟨rfl, rfl⟩))
    go_ret
    exact ⟨ret_b (Eq.trans (by first | (simp [rng, mosts, rmo, hb]; done) | (simp [rng, mosts, rmo, hb]; omega) | (rw [Bool.eq_iff_iff]; simp [rng, mosts, rmo, hb] <;> omega)) HV.out.symm), by go_grown⟩
end Ec
end Go.Proofs.Ytmjnakhpekbenaa
namespace Go.Proofs.Ytmjnakhpekbenaa
open Go.RowKit Go.Sort
namespace Ec
set_option maxHeartbeats 4000000 in
theorem rin_b (n lo hi : Int) (v : Bool) (h : (decide (lo ≤ n) && decide (n ≤ hi)) = v) (w : World) : Calls Try.prog 94 #[.int .i64 n, .int .i64 lo, .int .i64 hi] w fun e w' => e = .returned (.bool v) ∧ w = w' := by
  subst h; exact rin_any n lo hi w
set_option maxHeartbeats 4000000 in
theorem rValid_30 (a b : Int) (p : Bool) (w : World) :
    Calls Try.prog 78 #[.agg #[.int .i64 30, .int .i64 a, .int .i64 b], .bool p] w fun e w' => e = .returned (.bool (vld 30 a b p)) ∧ Below w.heap.size w w' := by
  have HV := hide (vld_nat 30 (by omega) a b p)
  have s1 : (sp 30).a = 12 := rfl
  have s2 : (sp 30).b = 2 := rfl
  rw [s1, s2] at HV
  clear s1 s2
  by_cases ha : 0 ≤ a ∧ a ≤ 50
  · obtain ⟨h1, h2⟩ := ha
    go_enter Try.func78, Try.ntmps78
    go_wp2_with (first | (go_at_call 93; refine (rOperands_30 _).mono ?_; rintro e ws ⟨rfl, rfl⟩) | (go_at_call 94; refine (rin_any _ _ _ _).mono ?_; rintro e ws ⟨rfl, rfl⟩))
    go_ret
    exact ⟨ret_b (Eq.trans (by first | (simp [rng, mosts, rmo, h1, h2]; done) | (simp [rng, mosts, rmo, h1, h2]; omega) | (rw [Bool.eq_iff_iff]; simp [rng, mosts, rmo, h1, h2] <;> omega)) HV.out.symm), by go_grown⟩
  · have hc : ¬ 0 ≤ a ∨ (0 ≤ a ∧ ¬ a ≤ 50) := by omega
    rcases hc with h1 | ⟨h1, h2⟩
    all_goals
      go_enter Try.func78, Try.ntmps78
      go_wp2_with (first | (go_at_call 93; refine (rOperands_30 _).mono ?_; rintro e ws ⟨rfl, rfl⟩) | (go_at_call 94; refine (rin_any _ _ _ _).mono ?_; rintro e ws ⟨rfl, rfl⟩))
      go_ret
      exact ⟨ret_b (Eq.trans (by first | (simp [rng, mosts, rmo]; done) | (simp [rng, mosts, rmo]; omega) | (rw [Bool.eq_iff_iff]; simp [rng, mosts, rmo] <;> omega)) HV.out.symm), by go_grown⟩
set_option maxHeartbeats 4000000 in
theorem rValid_16 (a b : Int) (p : Bool) (w : World) :
    Calls Try.prog 78 #[.agg #[.int .i64 16, .int .i64 a, .int .i64 b], .bool p] w fun e w' => e = .returned (.bool (vld 16 a b p)) ∧ Below w.heap.size w w' := by
  have HV := hide (vld_nat 16 (by omega) a b p)
  have s1 : (sp 16).a = 5 := rfl
  have s2 : (sp 16).b = 4 := rfl
  rw [s1, s2] at HV
  clear s1 s2
  cases p
  case false =>
    by_cases ha : 0 ≤ a ∧ a ≤ 48
    · obtain ⟨h1, h2⟩ := ha
      have hA : (decide (0 ≤ a) && decide (a ≤ 48)) = true := by simp [h1, h2]
      go_enter Try.func78, Try.ntmps78
      go_wp2_with (first | (go_at_call 93; refine (rOperands_16 _).mono ?_; rintro e ws ⟨rfl, rfl⟩) | (go_at_call 94; refine (rin_any _ _ _ _).mono ?_; rintro e ws ⟨rfl, rfl⟩))
      go_quiet ((first | (go_at_call 94; with_reducible exact Calls.quiet_of_same ((rin_b a 0 48 true hA _).mono (fun _ _ h => ⟨h.1, h.2.symm⟩))) | (go_at_call 95; with_reducible exact Calls.quiet_of_same ((rmost_10 false _).mono (fun _ _ h => ⟨h.1, h.2.symm⟩))) | (go_at_call 94; with_reducible exact Calls.quiet_of_same ((rin_any b 0 (rmo 10 false) _).mono (fun _ _ h => ⟨h.1, h.2.symm⟩)))))
      go_wp2_with fail
      go_ret
      exact ⟨ret_b (Eq.trans (by first | (simp [rng, mosts, rmo, h1, h2]; done) | (simp [rng, mosts, rmo, h1, h2]; omega) | (rw [Bool.eq_iff_iff]; simp [rng, mosts, rmo, h1, h2] <;> omega)) HV.out.symm), drewN_below (by go_grown) _⟩
    · have hA : (decide (0 ≤ a) && decide (a ≤ 48)) = false := by simp; omega
      have hB : rng a 5 false = false := by simp [rng, mosts]; omega
      go_enter Try.func78, Try.ntmps78
      go_wp2_with (first | (go_at_call 93; refine (rOperands_16 _).mono ?_; rintro e ws ⟨rfl, rfl⟩) | (go_at_call 94; refine (rin_any _ _ _ _).mono ?_; rintro e ws ⟨rfl, rfl⟩))
      go_quiet ((first | (go_at_call 94; with_reducible exact Calls.quiet_of_same ((rin_b a 0 48 false hA _).mono (fun _ _ h => ⟨h.1, h.2.symm⟩)))))
      go_wp2_with fail
      go_ret
      exact ⟨ret_b (Eq.trans (by first | (simp [rng, mosts, rmo, hB]; done) | (simp [rng, mosts, rmo, hB]; omega) | (rw [Bool.eq_iff_iff]; simp [rng, mosts, rmo, hB] <;> omega)) HV.out.symm), drewN_below (by go_grown) _⟩
  case true =>
    by_cases ha : 0 ≤ a ∧ a ≤ 48
    · obtain ⟨h1, h2⟩ := ha
      have hA : (decide (0 ≤ a) && decide (a ≤ 48)) = true := by simp [h1, h2]
      go_enter Try.func78, Try.ntmps78
      go_wp2_with (first | (go_at_call 93; refine (rOperands_16 _).mono ?_; rintro e ws ⟨rfl, rfl⟩) | (go_at_call 94; refine (rin_any _ _ _ _).mono ?_; rintro e ws ⟨rfl, rfl⟩))
      go_quiet ((first | (go_at_call 94; with_reducible exact Calls.quiet_of_same ((rin_b a 0 48 true hA _).mono (fun _ _ h => ⟨h.1, h.2.symm⟩))) | (go_at_call 95; with_reducible exact Calls.quiet_of_same ((rmost_10 true _).mono (fun _ _ h => ⟨h.1, h.2.symm⟩))) | (go_at_call 94; with_reducible exact Calls.quiet_of_same ((rin_any b 0 (rmo 10 true) _).mono (fun _ _ h => ⟨h.1, h.2.symm⟩)))))
      go_wp2_with fail
      go_ret
      exact ⟨ret_b (Eq.trans (by first | (simp [rng, mosts, rmo, h1, h2]; done) | (simp [rng, mosts, rmo, h1, h2]; omega) | (rw [Bool.eq_iff_iff]; simp [rng, mosts, rmo, h1, h2] <;> omega)) HV.out.symm), drewN_below (by go_grown) _⟩
    · have hA : (decide (0 ≤ a) && decide (a ≤ 48)) = false := by simp; omega
      have hB : rng a 5 true = false := by simp [rng, mosts]; omega
      go_enter Try.func78, Try.ntmps78
      go_wp2_with (first | (go_at_call 93; refine (rOperands_16 _).mono ?_; rintro e ws ⟨rfl, rfl⟩) | (go_at_call 94; refine (rin_any _ _ _ _).mono ?_; rintro e ws ⟨rfl, rfl⟩))
      go_quiet ((first | (go_at_call 94; with_reducible exact Calls.quiet_of_same ((rin_b a 0 48 false hA _).mono (fun _ _ h => ⟨h.1, h.2.symm⟩)))))
      go_wp2_with fail
      go_ret
      exact ⟨ret_b (Eq.trans (by first | (simp [rng, mosts, rmo, hB]; done) | (simp [rng, mosts, rmo, hB]; omega) | (rw [Bool.eq_iff_iff]; simp [rng, mosts, rmo, hB] <;> omega)) HV.out.symm), drewN_below (by go_grown) _⟩
set_option maxHeartbeats 4000000 in
theorem rValid_12 (a b : Int) (p : Bool) (w : World) :
    Calls Try.prog 78 #[.agg #[.int .i64 12, .int .i64 a, .int .i64 b], .bool p] w fun e w' => e = .returned (.bool (vld 12 a b p)) ∧ Below w.heap.size w w' := by
  have HV := hide (vld_nat 12 (by omega) a b p)
  have s1 : (sp 12).a = 3 := rfl
  have s2 : (sp 12).b = 4 := rfl
  rw [s1, s2] at HV
  clear s1 s2
  by_cases ha3 : a = 3
  · subst ha3
    cases p
    all_goals
      go_enter Try.func78, Try.ntmps78
      go_wp2_with (first | (go_at_call 93; refine (rOperands_12 _).mono ?_; rintro e ws ⟨rfl, rfl⟩) | (go_at_call 94; refine (rin_any _ _ _ _).mono ?_; rintro e ws ⟨rfl, rfl⟩))
      go_ret
      exact ⟨ret_b (Eq.trans (by first | (simp [rng, mosts, rmo]; done) | (simp [rng, mosts, rmo]; omega) | (rw [Bool.eq_iff_iff]; simp [rng, mosts, rmo] <;> omega)) HV.out.symm), by go_grown⟩
  · have ha4 : (a == 3) = false := by simpa using ha3
    cases p
    case false =>
      by_cases ha : 2 ≤ a ∧ a ≤ 4
      · obtain ⟨h1, h2⟩ := ha
        have hA : (decide (2 ≤ a) && decide (a ≤ 4)) = true := by simp [h1, h2]
        go_enter Try.func78, Try.ntmps78
        go_wp2_with (first | (go_at_call 93; refine (rOperands_12 _).mono ?_; rintro e ws ⟨rfl, rfl⟩) | (go_at_call 94; refine (rin_any _ _ _ _).mono ?_; rintro e ws ⟨rfl, rfl⟩))
        go_quiet ((first | (go_at_call 94; with_reducible exact Calls.quiet_of_same ((rin_b a 2 4 true hA _).mono (fun _ _ h => ⟨h.1, h.2.symm⟩))) | (go_at_call 95; with_reducible exact Calls.quiet_of_same ((rmost_10 false _).mono (fun _ _ h => ⟨h.1, h.2.symm⟩))) | (go_at_call 94; with_reducible exact Calls.quiet_of_same ((rin_any b 0 (rmo 10 false) _).mono (fun _ _ h => ⟨h.1, h.2.symm⟩)))))
        go_wp2_with fail
        go_ret
        exact ⟨ret_b (Eq.trans (by first | (simp [rng, mosts, rmo, h1, h2, ha3, ha4]; done) | (simp [rng, mosts, rmo, h1, h2, ha3, ha4]; omega) | (rw [Bool.eq_iff_iff]; simp [rng, mosts, rmo, h1, h2, ha3, ha4] <;> omega)) HV.out.symm), drewN_below (by go_grown) _⟩
      · have hA : (decide (2 ≤ a) && decide (a ≤ 4)) = false := by simp; omega
        have hB : rng a 3 false = false := by simp [rng, mosts]; omega
        go_enter Try.func78, Try.ntmps78
        go_wp2_with (first | (go_at_call 93; refine (rOperands_12 _).mono ?_; rintro e ws ⟨rfl, rfl⟩) | (go_at_call 94; refine (rin_any _ _ _ _).mono ?_; rintro e ws ⟨rfl, rfl⟩))
        go_quiet ((first | (go_at_call 94; with_reducible exact Calls.quiet_of_same ((rin_b a 2 4 false hA _).mono (fun _ _ h => ⟨h.1, h.2.symm⟩)))))
        go_wp2_with fail
        go_ret
        exact ⟨ret_b (Eq.trans (by first | (simp [rng, mosts, rmo, hB]; done) | (simp [rng, mosts, rmo, hB]; omega) | (rw [Bool.eq_iff_iff]; simp [rng, mosts, rmo, hB] <;> omega)) HV.out.symm), drewN_below (by go_grown) _⟩
    case true =>
      by_cases ha : 2 ≤ a ∧ a ≤ 4
      · obtain ⟨h1, h2⟩ := ha
        have hA : (decide (2 ≤ a) && decide (a ≤ 4)) = true := by simp [h1, h2]
        go_enter Try.func78, Try.ntmps78
        go_wp2_with (first | (go_at_call 93; refine (rOperands_12 _).mono ?_; rintro e ws ⟨rfl, rfl⟩) | (go_at_call 94; refine (rin_any _ _ _ _).mono ?_; rintro e ws ⟨rfl, rfl⟩))
        go_quiet ((first | (go_at_call 94; with_reducible exact Calls.quiet_of_same ((rin_b a 2 4 true hA _).mono (fun _ _ h => ⟨h.1, h.2.symm⟩))) | (go_at_call 95; with_reducible exact Calls.quiet_of_same ((rmost_10 true _).mono (fun _ _ h => ⟨h.1, h.2.symm⟩))) | (go_at_call 94; with_reducible exact Calls.quiet_of_same ((rin_any b 0 (rmo 10 true) _).mono (fun _ _ h => ⟨h.1, h.2.symm⟩)))))
        go_wp2_with fail
        go_ret
        exact ⟨ret_b (Eq.trans (by first | (simp [rng, mosts, rmo, h1, h2, ha3, ha4]; done) | (simp [rng, mosts, rmo, h1, h2, ha3, ha4]; omega) | (rw [Bool.eq_iff_iff]; simp [rng, mosts, rmo, h1, h2, ha3, ha4] <;> omega)) HV.out.symm), drewN_below (by go_grown) _⟩
      · have hA : (decide (2 ≤ a) && decide (a ≤ 4)) = false := by simp; omega
        have hB : rng a 3 true = false := by simp [rng, mosts]; omega
        go_enter Try.func78, Try.ntmps78
        go_wp2_with (first | (go_at_call 93; refine (rOperands_12 _).mono ?_; rintro e ws ⟨rfl, rfl⟩) | (go_at_call 94; refine (rin_any _ _ _ _).mono ?_; rintro e ws ⟨rfl, rfl⟩))
        go_quiet ((first | (go_at_call 94; with_reducible exact Calls.quiet_of_same ((rin_b a 2 4 false hA _).mono (fun _ _ h => ⟨h.1, h.2.symm⟩)))))
        go_wp2_with fail
        go_ret
        exact ⟨ret_b (Eq.trans (by first | (simp [rng, mosts, rmo, hB]; done) | (simp [rng, mosts, rmo, hB]; omega) | (rw [Bool.eq_iff_iff]; simp [rng, mosts, rmo, hB] <;> omega)) HV.out.symm), drewN_below (by go_grown) _⟩
end Ec
end Go.Proofs.Ytmjnakhpekbenaa
namespace Go.Proofs.Ytmjnakhpekbenaa
open Go.RowKit Go.Sort
namespace Ec
theorem rValid_any (op a b : Int) (p : Bool) (w : World) :
    Calls Try.prog 78 #[.agg #[.int .i64 op, .int .i64 a, .int .i64 b], .bool p] w fun e w' => e = .returned (.bool (vld op a b p)) ∧ Below w.heap.size w w' := by
  by_cases hop : 0 ≤ op ∧ op < 36
  · have hc : op = 0 ∨ op = 1 ∨ op = 2 ∨ op = 3 ∨ op = 4 ∨ op = 5 ∨ op = 6 ∨ op = 7 ∨ op = 8 ∨ op = 9 ∨ op = 10 ∨ op = 11 ∨ op = 12 ∨ op = 13 ∨ op = 14 ∨ op = 15 ∨ op = 16 ∨ op = 17 ∨ op = 18 ∨ op = 19 ∨ op = 20 ∨ op = 21 ∨ op = 22 ∨ op = 23 ∨ op = 24 ∨ op = 25 ∨ op = 26 ∨ op = 27 ∨ op = 28 ∨ op = 29 ∨ op = 30 ∨ op = 31 ∨ op = 32 ∨ op = 33 ∨ op = 34 ∨ op = 35 := by omega
    rcases hc with rfl | rfl | rfl | rfl | rfl | rfl | rfl | rfl | rfl | rfl | rfl | rfl | rfl | rfl | rfl | rfl | rfl | rfl | rfl | rfl | rfl | rfl | rfl | rfl | rfl | rfl | rfl | rfl | rfl | rfl | rfl | rfl | rfl | rfl | rfl | rfl
    · exact rValid_0 a b p w
    · exact rValid_1 a b p w
    · exact rValid_2 a b p w
    · exact rValid_3 a b p w
    · exact rValid_4 a b p w
    · exact rValid_5 a b p w
    · exact rValid_6 a b p w
    · exact rValid_7 a b p w
    · exact rValid_8 a b p w
    · exact rValid_9 a b p w
    · exact rValid_10 a b p w
    · exact rValid_11 a b p w
    · exact rValid_12 a b p w
    · exact rValid_13 a b p w
    · exact rValid_14 a b p w
    · exact rValid_15 a b p w
    · exact rValid_16 a b p w
    · exact rValid_17 a b p w
    · exact rValid_18 a b p w
    · exact rValid_19 a b p w
    · exact rValid_20 a b p w
    · exact rValid_21 a b p w
    · exact rValid_22 a b p w
    · exact rValid_23 a b p w
    · exact rValid_24 a b p w
    · exact rValid_25 a b p w
    · exact rValid_26 a b p w
    · exact rValid_27 a b p w
    · exact rValid_28 a b p w
    · exact rValid_29 a b p w
    · exact rValid_30 a b p w
    · exact rValid_31 a b p w
    · exact rValid_32 a b p w
    · exact rValid_33 a b p w
    · exact rValid_34 a b p w
    · exact rValid_35 a b p w
  · have HV := hide (vld_bad (op := op) (a := a) (b := b) (p := p) (by omega))
    have hop2 : op < 0 ∨ (¬ op < 0 ∧ 35 < op) := by omega
    have Hop := hide (fun w => rOperands_bad op hop2 w)
    clear hop hop2
    go_enter Try.func78, Try.ntmps78
    go_wp2_with (go_at_call 93; refine (Hop.out _).mono ?_; rintro e ws ⟨rfl, rfl⟩)
    go_ret
    exact ⟨ret_b (by rw [HV.out]), by go_grown⟩
end Ec
end Go.Proofs.Ytmjnakhpekbenaa
namespace Go.Proofs.Ytmjnakhpekbenaa
set_option maxRecDepth 20000
set_option maxHeartbeats 4000000
open Go.RowKit Fw
namespace Ec
theorem allV_no {c A B : Nat → Int} {pl : Bool} {n k : Nat} (hk : k < n) (h : vld (c k) (A k) (B k) pl = false) : allV c A B pl n = false := by
  cases q : allV c A B pl n
  · rfl
  · rw [allV_spec.1 q k hk] at h; cases h
theorem chk_2 {c A B : Nat → Int} {pl : Bool} {n : Nat} (h : (120 : Int) < n) : chk c A B pl n = 2 := by unfold chk; rw [if_pos (by omega)]
theorem chk_1 {c A B : Nat → Int} {pl : Bool} {n k : Nat} (h : ¬ (120 : Int) < n) (hk : k < n) (hv : vld (c k) (A k) (B k) pl = false) : chk c A B pl n = 1 := by unfold chk; rw [if_neg (by omega), allV_no hk hv]; rfl
theorem chk_7 {c A B : Nat → Int} {pl : Bool} {n : Nat} (h : ¬ (120 : Int) < n) (hv : ∀ i, i < n → vld (c i) (A i) (B i) pl = true) (ho : okS c n = false) : chk c A B pl n = 7 := by unfold chk; rw [if_neg (by omega), allV_spec.2 hv, ho]; rfl
theorem chk_0 {c A B : Nat → Int} {pl : Bool} {n : Nat} (h : ¬ (120 : Int) < n) (hv : ∀ i, i < n → vld (c i) (A i) (B i) pl = true) (ho : okS c n = true) : chk c A B pl n = 0 := by unfold chk; rw [if_neg (by omega), allV_spec.2 hv, ho]; rfl
theorem chk_bal {c A B : Nat → Int} {pl : Bool} {n : Nat} (h : chk c A B pl n = 0) : Bal c n (shD c n) := okS_bal (chk_ok h).2.2
theorem idE_bad {c A B : Nat → Int} {n : Nat} {at' : Int} (h : chk c A B false n ≠ 0) : idE c A B n at' = chk c A B false n := by unfold idE; rw [if_neg h]
theorem idE_out {c A B : Nat → Int} {n : Nat} {at' : Int} (h : chk c A B false n = 0) (h2 : ¬ (0 ≤ at' ∧ at' < n)) : idE c A B n at' = 1 := by unfold idE; rw [if_pos h, if_neg h2]
theorem idE_in {c A B : Nat → Int} {n : Nat} {at' : Int} (h : chk c A B false n = 0) (h2 : 0 ≤ at' ∧ at' < n) : idE c A B n at' = 0 := by unfold idE; rw [if_pos h, if_pos h2]
def opF (c A B : Nat → Int) (n : Nat) (at' : Int) : Int := if idE c A B n at' ≠ 0 then idE c A B n at' else if (shD c n).o at'.toNat < 0 then 3 else 0
def opO (c A B : Nat → Int) (n : Nat) (at' : Int) : Int := if opF c A B n at' = 0 then (shD c n).o at'.toNat else 0
theorem op_bad {c A B : Nat → Int} {n : Nat} {at' er : Int} (h : er ≠ 0) (hE : idE c A B n at' = er) : opF c A B n at' = er ∧ opO c A B n at' = 0 := by
  have e : opF c A B n at' = er := by unfold opF; rw [hE, if_pos h]
  exact ⟨e, by unfold opO; rw [e, if_neg h]⟩
theorem op_none {c A B : Nat → Int} {n k : Nat} (hE : idE c A B n (k : Int) = 0) (h : (shD c n).o k < 0) : opF c A B n (k : Int) = 3 ∧ opO c A B n (k : Int) = 0 := by
  have e : opF c A B n (k : Int) = 3 := by unfold opF; rw [hE, if_neg (by simp), if_pos (by simpa using h)]
  exact ⟨e, by unfold opO; rw [e]; rfl⟩
theorem op_ok {c A B : Nat → Int} {n k : Nat} (hE : idE c A B n (k : Int) = 0) (h : ¬ (shD c n).o k < 0) : opF c A B n (k : Int) = 0 ∧ opO c A B n (k : Int) = (shD c n).o k := by
  have e : opF c A B n (k : Int) = 0 := by unfold opF; rw [hE, if_neg (by simp), if_neg (by simpa using h)]
  exact ⟨e, by unfold opO; rw [e, if_pos rfl]; simp⟩
theorem rCheck_any (p : Option Addr) (n cap : Nat) (c A B : Nat → Int) (pl : Bool) (w : World) (hIn : InC w p n c A B) (hn : n ≤ 400) :
  Calls Try.prog 54 #[.slice p n cap, .bool pl] w fun e w' => e = .returned (.int .i64 (chk c A B pl n)) ∧ Below w.heap.size w w' := by
 refine calls_of Try.func54 rfl (m := 41) rfl [(0, .slice p n cap), (1, .bool pl)] (Fr_enter [.slice p n cap, .bool pl] 41 (Nat.le_of_ble_eq_true rfl)) ?_
 have hH1 : HP Tr w w [] := HP.refl w
 refine WC.seq fun K2 hK2 => WC.region (WL.z (vI 0) 4 (WL.k hK2 (WC.seq fun K3 hK3 => WC.seq fun K4 hK4 => WC.region (WL.z (.slice p n cap) 8 (WL.z (vI (n : Int)) 9 ?_)))))
 by_cases hl : (120 : Int) < (n : Int)
 ·
  refine WL.y (.bool true) 10 (x_gtr rfl rfl rfl (dT (hl))) (WL.k hK4 ?_)
  refine WC.yes rfl ?_
  refine WC.seq fun K5 hK5 => WC.region (WL.z (vI 2) 4 (WL.k hK5 (WC.ret ?_)))
  refine WQ.thenRet ?_
  refine WQ.ret1 4 rfl rfl ?_
  exact ⟨by rw [show chk c A B pl n = 2 from chk_2 hl], HP.below hH1⟩
 ·
  refine WL.y (.bool false) 10 (x_gtr rfl rfl rfl (dF (hl))) (WL.k hK4 ?_)
  refine WC.no rfl ?_
  refine WC.skip (WQ.then (hK3 _ _ _ (WC.seq fun K6 hK6 => WC.seq fun K7 hK7 => WC.region (WL.z (vI 0) 5 (WL.k hK7 (WC.block ?_))))))
  refine WC.loop (fun kk0 ll0 ww0 => ∃ (k : Nat), ll0 = [(0, .slice p n cap), (1, .bool pl), (5, vI (k : Int))] ∧ kk0 = n - k ∧ (k ≤ n) ∧ (∀ i, i < k → vld (c i) (A i) (B i) pl = true) ∧ HP Tr w ww0 []) (n) [(0, .slice p n cap), (1, .bool pl), (5, vI 0)] ⟨rfl, rfl, rfl, trivial⟩ ⟨0, rfl, rfl, Nat.zero_le n, fun i hi => absurd hi (Nat.not_lt_zero i), hH1⟩ ?_
  rintro kk l w9 ⟨k, rfl, hkk, hk, hv, hH10⟩ K8 hK8
  refine WC.seq fun K11 hK11 => WC.seq fun K12 hK12 => WC.region (WL.z (vI (k : Int)) 11 (WL.z (.slice p n cap) 12 (WL.z (vI (n : Int)) 13 ?_)))
  by_cases hlt : (k : Int) < (n : Int)
  ·
   refine WL.y (.bool true) 14 (x_lss rfl rfl rfl (dT (hlt))) (WL.k hK12 ?_)
   refine WC.yes rfl ?_
   refine WC.skip (WQ.then (hK11 _ _ _ (WC.seq fun K13 hK13 => WC.block (WC.seq fun K14 hK14 => ?_))))
   obtain ⟨bb, oo, rfl, hrow⟩ := hIn (by omega)
   refine WC.region (WL.z (.slice (some ⟨bb, oo, none⟩) n cap) 17 (WL.z (vI (k : Int)) 18 (WL.y (vP bb (oo + k * 3)) 19 (x_ix (k) (oo + k * 3) Try.underlying42 sz75) (WL.y (.agg #[vI (c k), vI (A k), vI (B k)]) 20 (x_loadS (cs := [vI (c k), vI (A k), vI (B k)]) rfl rfl Try.underlying75 rfl sz75 (HP.oldRange hH10 trivial (hrow k (by omega)))) (WL.z (.bool pl) 21 ?_)))))
   refine WL.c 78 #[.agg #[vI (c k), vI (A k), vI (B k)], .bool pl] 22 ?_
   refine (rValid_any _ _ _ _ _).mono ?_
   rintro e w15 ⟨rfl, hb16⟩
   refine ⟨_, rfl, ?_⟩
   have hH17 := HP.call hH10 hb16
   refine WL.z (.bool (!(vld (c k) (A k) (B k) pl))) 23 (WL.k hK14 (WC.sb [(0, .slice (some ⟨bb, oo, none⟩) n cap), (1, .bool pl), (5, vI (k : Int)), (14, .bool true), (23, .bool (!(vld (c k) (A k) (B k) pl)))] ?_))
   rcases Bool.eq_false_or_eq_true (vld (c k) (A k) (B k) pl) with hA | hA
   ·
    refine WC.no (congrArg (fun b => some (Value.bool (!b))) hA) ?_
    refine WC.skip (WQ.inNormal (WQ.then (hK13 _ _ _ (WC.region (WL.z (vI (k : Int)) 15 (WL.y (vI ((k + 1 : Nat) : Int)) 16 (x_ad (((k + 1 : Nat) : Int))) (WL.z (vI ((k + 1 : Nat) : Int)) 5 (WL.nil (WQ.sb [(0, .slice (some ⟨bb, oo, none⟩) n cap), (1, .bool pl), (5, vI ((k + 1 : Nat) : Int))] ?_)))))))))
    refine WQ.then (hK8 _ _ _ (by omega) ⟨k + 1, rfl, rfl, by omega, fun i hi => (Nat.lt_succ_iff_lt_or_eq.1 hi).elim (hv i) (fun e => e ▸ hA), hH17⟩)
   ·
    refine WC.yes (congrArg (fun b => some (Value.bool (!b))) hA) ?_
    refine WC.seq fun K18 hK18 => WC.region (WL.z (vI 1) 4 (WL.k hK18 (WC.ret ?_)))
    refine WQ.inRet ?_
    refine WQ.thenRet ?_
    refine WQ.thenRet ?_
    refine WQ.inRet ?_
    refine WQ.thenRet ?_
    refine WQ.ret1 4 rfl rfl ?_
    exact ⟨by rw [show chk c A B pl n = 1 from chk_1 hl (by omega) hA], HP.below hH17⟩
  ·
   refine WL.y (.bool false) 14 (x_lss rfl rfl rfl (dF (hlt))) (WL.k hK12 ?_)
   refine WC.no rfl ?_
   refine WC.exit (WQ.thenExit (WQ.thenExit (WQ.inExit (WQ.then (hK6 _ _ _ (WC.seq fun K19 hK19 => WC.region (WL.z (.slice p n cap) 25 ?_)))))))
   refine WL.c 79 #[.slice p n cap, vI 0] 26 ?_
   refine (parts_any p n cap c A B hn 0 (by omega) _ (hIn.below (HP.below hH10))).mono ?_
   rintro e w20 ⟨nx, d, rfl, hPR, hb21⟩
   refine ⟨_, rfl, ?_⟩
   have hH22 := HP.call hH10 hb21
   have hV : ∀ i, i < n → vld (c i) (A i) (B i) pl = true := fun i hi => hv i (by omega)
   refine WL.z (.tuple #[vI (nx : Int), vI d]) 24 (WL.z (vI (nx : Int)) 27 (WL.z (vI d) 28 (WL.z (vI (nx : Int)) 6 (WL.z (vI d) 7 (WL.k hK19 (WC.sb [(0, .slice p n cap), (1, .bool pl), (5, vI (k : Int)), (6, vI (nx : Int)), (7, vI d), (14, .bool false)] (WC.seq fun K23 hK23 => WC.seq fun K24 hK24 => WC.region ?_)))))))
   refine WL.z (vI d) 29 ?_
   by_cases hd : d < 0
   ·
    refine WL.y (.bool true) 30 (x_lss rfl rfl rfl (dT (hd))) (WL.z (.bool true) 31 (WL.p 32 (WL.p 33 (WL.p 34 (WL.p 35 (WL.z (.bool true) 36 (WL.z (.bool true) 37 (WL.p 38 (WL.p 39 (WL.z (.bool true) 40 (WL.nil ?_)))))))))))
    refine WQ.then (hK24 _ _ _ (WC.sb [(0, .slice p n cap), (1, .bool pl), (5, vI (k : Int)), (6, vI (nx : Int)), (7, vI d), (14, .bool false), (40, .bool true)] ?_))
    refine WC.yes rfl ?_
    refine WC.seq fun K25 hK25 => WC.region (WL.z (vI 7) 4 (WL.k hK25 (WC.ret ?_)))
    refine WQ.thenRet ?_
    refine WQ.ret1 4 rfl rfl ?_
    exact ⟨by rw [show chk c A B pl n = 7 from chk_7 hl hV (PR_fail1 hPR hd)], HP.below hH22⟩
   ·
    refine WL.y (.bool false) 30 (x_lss rfl rfl rfl (dF (hd))) (WL.z (.bool false) 31 (WL.z (vI (nx : Int)) 32 (WL.z (.slice p n cap) 33 (WL.z (vI (n : Int)) 34 ?_))))
    by_cases hnx : (nx : Int) < (n : Int)
    ·
     refine WL.y (.bool true) 35 (x_lss rfl rfl rfl (dT (hnx))) (WL.z (.bool true) 36 (WL.z (.bool true) 37 (WL.p 38 (WL.p 39 (WL.z (.bool true) 40 (WL.k hK24 (WC.sb [(0, .slice p n cap), (1, .bool pl), (5, vI (k : Int)), (6, vI (nx : Int)), (7, vI d), (14, .bool false), (40, .bool true)] ?_)))))))
     refine WC.yes rfl ?_
     refine WC.seq fun K26 hK26 => WC.region (WL.z (vI 7) 4 (WL.k hK26 (WC.ret ?_)))
     refine WQ.thenRet ?_
     refine WQ.ret1 4 rfl rfl ?_
     exact ⟨by rw [show chk c A B pl n = 7 from chk_7 hl hV (PR_fail2 hPR hd hnx)], HP.below hH22⟩
    ·
     refine WL.y (.bool false) 35 (x_lss rfl rfl rfl (dF (hnx))) (WL.z (.bool false) 36 (WL.z (.bool false) 37 (WL.z (vI d) 38 ?_)))
     by_cases hm : (6 : Int) < d
     ·
      refine WL.y (.bool true) 39 (x_gtr rfl rfl rfl (dT (hm))) (WL.z (.bool true) 40 (WL.k hK24 (WC.sb [(0, .slice p n cap), (1, .bool pl), (5, vI (k : Int)), (6, vI (nx : Int)), (7, vI d), (14, .bool false), (40, .bool true)] ?_)))
      refine WC.yes rfl ?_
      refine WC.seq fun K27 hK27 => WC.region (WL.z (vI 7) 4 (WL.k hK27 (WC.ret ?_)))
      refine WQ.thenRet ?_
      refine WQ.ret1 4 rfl rfl ?_
      exact ⟨by rw [show chk c A B pl n = 7 from chk_7 hl hV (PR_deep hPR hd hnx hm)], HP.below hH22⟩
     ·
      refine WL.y (.bool false) 39 (x_gtr rfl rfl rfl (dF (hm))) (WL.z (.bool false) 40 (WL.k hK24 (WC.sb [(0, .slice p n cap), (1, .bool pl), (5, vI (k : Int)), (6, vI (nx : Int)), (7, vI d), (14, .bool false), (40, .bool false)] ?_)))
      refine WC.no rfl ?_
      refine WC.skip (WQ.then (hK23 _ _ _ (WC.seq fun K28 hK28 => WC.region (WL.z (vI 0) 4 (WL.k hK28 (WC.ret ?_))))))
      refine WQ.ret1 4 rfl rfl ?_
      exact ⟨by rw [show chk c A B pl n = 0 from chk_0 hl hV (PR_good hPR hd hnx hm)], HP.below hH22⟩
theorem rMatch_any (p : Option Addr) (n cap : Nat) (c A B : Nat → Int) (at' : Int) (w : World) (hIn : InC w p n c A B) (hn : n ≤ 400) (h1 : -9223372036854775808 ≤ at') (h2 : at' ≤ 9223372036854775807) :
  Calls Try.prog 56 #[.slice p n cap, vI at'] w fun e w' => e = .returned (mtc c A B n at') ∧ Below w.heap.size w w' := by
 refine calls_of Try.func56 rfl (m := 40) rfl [(0, .slice p n cap), (1, vI at')] (Fr_enter [.slice p n cap, vI at'] 40 (Nat.le_of_ble_eq_true rfl)) ?_
 have hH1 : HP Tr w w [] := HP.refl w
 refine WC.seq fun K2 hK2 => WC.region (WL.z (vI 0) 4 (WL.z (vI 0) 5 (WL.z (vI 0) 6 (WL.k hK2 (WC.seq fun K3 hK3 => WC.region (WL.z (.slice p n cap) 11 ?_))))))
 refine WL.c 54 #[.slice p n cap, .bool false] 12 ?_
 refine (rCheck_any _ _ _ c A B false _ (hIn.below (HP.below hH1)) hn).mono ?_
 rintro e w4 ⟨rfl, hb5⟩
 refine ⟨_, rfl, ?_⟩
 have hH6 := HP.call hH1 hb5
 refine WL.z (vI (chk c A B false n)) 7 (WL.k hK3 (WC.seq fun K7 hK7 => WC.seq fun K8 hK8 => WC.region (WL.z (vI (chk c A B false n)) 13 ?_)))
 by_cases hc : chk c A B false n ≠ 0
 ·
  refine WL.y (.bool true) 14 (x_neq rfl rfl rfl (dT (hc))) (WL.k hK8 ?_)
  refine WC.yes rfl ?_
  refine WC.seq fun K9 hK9 => WC.region (WL.z (vI (chk c A B false n)) 15 (WL.z (vI 0) 4 (WL.z (vI 0) 5 (WL.z (vI (chk c A B false n)) 6 (WL.k hK9 (WC.sb [(0, .slice p n cap), (1, vI at'), (4, vI 0), (5, vI 0), (6, vI (chk c A B false n)), (7, vI (chk c A B false n)), (14, .bool true)] (WC.ret ?_)))))))
  refine WQ.thenRet ?_
  refine WQ.ret3 4 5 6 rfl rfl rfl rfl ?_
  exact ⟨by rw [mtc_bad hc (idE_bad hc)], HP.below hH6⟩
 ·
  refine WL.y (.bool false) 14 (x_neq rfl rfl rfl (dF (hc))) (WL.k hK8 ?_)
  refine WC.no rfl ?_
  refine WC.skip (WQ.then (hK7 _ _ _ (WC.seq fun K10 hK10 => WC.seq fun K11 hK11 => WC.region (WL.z (vI at') 16 ?_))))
  by_cases hlo : at' < 0
  ·
   refine WL.y (.bool true) 17 (x_lss rfl rfl rfl (dT (hlo))) (WL.z (.bool true) 18 (WL.p 19 (WL.p 20 (WL.p 21 (WL.p 22 (WL.z (.bool true) 23 (WL.k hK11 (WC.sb [(0, .slice p n cap), (1, vI at'), (4, vI 0), (5, vI 0), (6, vI 0), (7, vI (chk c A B false n)), (14, .bool false), (23, .bool true)] ?_))))))))
   refine WC.yes rfl ?_
   refine WC.seq fun K12 hK12 => WC.region (WL.z (vI 0) 4 (WL.z (vI 0) 5 (WL.z (vI 1) 6 (WL.k hK12 (WC.ret ?_)))))
   refine WQ.thenRet ?_
   refine WQ.ret3 4 5 6 rfl rfl rfl rfl ?_
   exact ⟨by rw [mtc_bad (er := 1) (by decide) (idE_out (by omega) (by omega))], HP.below hH6⟩
  ·
   refine WL.y (.bool false) 17 (x_lss rfl rfl rfl (dF (hlo))) (WL.z (.bool false) 18 (WL.z (vI at') 19 (WL.z (.slice p n cap) 20 (WL.z (vI (n : Int)) 21 ?_))))
   by_cases hhi : (n : Int) ≤ at'
   ·
    refine WL.y (.bool true) 22 (x_geq rfl rfl rfl (dT (hhi))) (WL.z (.bool true) 23 (WL.k hK11 (WC.sb [(0, .slice p n cap), (1, vI at'), (4, vI 0), (5, vI 0), (6, vI 0), (7, vI (chk c A B false n)), (14, .bool false), (23, .bool true)] ?_)))
    refine WC.yes rfl ?_
    refine WC.seq fun K13 hK13 => WC.region (WL.z (vI 0) 4 (WL.z (vI 0) 5 (WL.z (vI 1) 6 (WL.k hK13 (WC.ret ?_)))))
    refine WQ.thenRet ?_
    refine WQ.ret3 4 5 6 rfl rfl rfl rfl ?_
    exact ⟨by rw [mtc_bad (er := 1) (by decide) (idE_out (by omega) (by omega))], HP.below hH6⟩
   ·
    refine WL.y (.bool false) 22 (x_geq rfl rfl rfl (dF (hhi))) (WL.z (.bool false) 23 (WL.k hK11 (WC.sb [(0, .slice p n cap), (1, vI at'), (4, vI 0), (5, vI 0), (6, vI 0), (7, vI (chk c A B false n)), (14, .bool false), (23, .bool false)] ?_)))
    refine WC.no rfl ?_
    refine WC.skip (WQ.then (hK10 _ _ _ (WC.seq fun K14 hK14 => WC.seq fun K15 hK15 => ?_)))
    obtain ⟨k, rfl⟩ : ∃ k : Nat, at' = (k : Int) := ⟨at'.toNat, by omega⟩
    obtain ⟨bb, oo, rfl, hrow⟩ := hIn (by omega)
    have hE : idE c A B n (k : Int) = 0 := idE_in (by omega) (by omega)
    have hB := chk_bal (show chk c A B false n = 0 by omega)
    refine WC.region (WL.z (.slice (some ⟨bb, oo, none⟩) n cap) 24 (WL.z (vI (k : Int)) 25 (WL.y (vP bb (oo + k * 3)) 26 (x_ix (k) (oo + k * 3) Try.underlying42 sz75) (WL.z (vP bb (oo + k * 3)) 27 (WL.y (vI (c k)) 28 (x_load rfl rfl Try.underlying3 rfl ((HP.oldRange hH6 trivial (hrow k (by omega))) 0 _ rfl)) ?_)))))
    refine WL.c 77 #[vI (c k)] 29 ?_
    refine (rOpens_any _ _).mono ?_
    rintro e w16 ⟨rfl, rfl⟩
    refine ⟨_, rfl, ?_⟩
    refine WL.z (.bool (!(opn (c k)))) 30 (WL.k hK15 (WC.sb [(0, .slice (some ⟨bb, oo, none⟩) n cap), (1, vI (k : Int)), (4, vI 0), (5, vI 0), (6, vI 0), (7, vI (chk c A B false n)), (14, .bool false), (23, .bool false), (30, .bool (!(opn (c k))))] ?_))
    rcases Bool.eq_false_or_eq_true (opn (c k)) with hO | hO
    ·
     refine WC.no (congrArg (fun b => some (Value.bool (!b))) hO) ?_
     refine WC.skip (WQ.then (hK14 _ _ _ (WC.seq fun K17 hK17 => WC.region (WL.z (.slice (some ⟨bb, oo, none⟩) n cap) 32 (WL.z (vI (k : Int)) 33 ?_)))))
     refine WL.c 80 #[.slice (some ⟨bb, oo, none⟩) n cap, vI (k : Int)] 34 ?_
     refine (bracket_any (some ⟨bb, oo, none⟩) n cap c A B hn k (by omega) hO _ (hIn.below (HP.below hH6))).mono ?_
     rintro e w18 ⟨a1, e1, x1, rfl, hBR, hb19⟩
     refine ⟨_, rfl, ?_⟩
     have hH20 := HP.call hH6 hb19
     obtain ⟨ha1, he1, hen⟩ := bra_final hB (show k < n by omega) hBR
     refine WL.z (.tuple #[vI a1, vI (e1 : Int), vI x1]) 31 (WL.z (vI a1) 35 (WL.z (vI (e1 : Int)) 36 (WL.z (vI x1) 37 (WL.z (vI a1) 8 (WL.z (vI (e1 : Int)) 9 (WL.z (vI x1) 10 (WL.k hK17 (WC.sb [(0, .slice (some ⟨bb, oo, none⟩) n cap), (1, vI (k : Int)), (4, vI 0), (5, vI 0), (6, vI 0), (7, vI (chk c A B false n)), (8, vI a1), (9, vI (e1 : Int)), (14, .bool false), (23, .bool false), (30, .bool (!(opn (c k))))] (WC.seq fun K21 hK21 => ?_)))))))))
     refine WC.region (WL.z (vI a1) 38 (WL.z (vI (e1 : Int)) 39 (WL.z (vI a1) 4 (WL.z (vI (e1 : Int)) 5 (WL.z (vI 0) 6 (WL.k hK21 (WC.ret ?_)))))))
     refine WQ.ret3 4 5 6 rfl rfl rfl rfl ?_
     exact ⟨by rw [mtc_ok hE hO hB.hs, ha1, he1], HP.below hH20⟩
    ·
     refine WC.yes (congrArg (fun b => some (Value.bool (!b))) hO) ?_
     refine WC.seq fun K22 hK22 => WC.region (WL.z (vI 0) 4 (WL.z (vI 0) 5 (WL.z (vI 3) 6 (WL.k hK22 (WC.ret ?_)))))
     refine WQ.thenRet ?_
     refine WQ.ret3 4 5 6 rfl rfl rfl rfl ?_
     exact ⟨by rw [mtc_none hE hO], HP.below hH6⟩
theorem around_any (p : Option Addr) (n cap : Nat) (c A B : Nat → Int) (k : Nat) (w : World) (hIn : InC w p n c A B) (hn : n ≤ 400) (hk : k < n) (hB : Bal c n (shD c n)) :
  Calls Try.prog 96 #[.slice p n cap, vI (k : Int)] w fun e w' => e = .returned (.int .i64 ((shD c n).o k)) ∧ Below w.heap.size w w' := by
 refine calls_of Try.func96 rfl (m := 32) rfl [(0, .slice p n cap), (1, vI (k : Int))] (Fr_enter [.slice p n cap, vI (k : Int)] 32 (Nat.le_of_ble_eq_true rfl)) ?_
 have hH1 : HP Tr w w [] := HP.refl w
 refine WC.seq fun K2 hK2 => WC.region (WL.z (vI 0) 4 (WL.k hK2 (WC.seq fun K3 hK3 => WC.seq fun K4 hK4 => WC.region (WL.z (vI (k : Int)) 9 (WL.y (vI ((k : Int) - 1)) 10 (x_sub (Z := (k : Int) - 1) rfl rfl rfl (by omega) (by omega) (by omega)) (WL.z (vI ((k : Int) - 1)) 5 ?_))))))
 refine WL.k hK4 (WC.block ?_)
 refine WC.loop (fun kk0 ll0 ww0 => ∃ (i : Int), ll0 = [(0, .slice p n cap), (1, vI (k : Int)), (5, vI i)] ∧ kk0 = (i + 1).toNat ∧ (-1 ≤ i) ∧ (i < k) ∧ (∀ x : Nat, i < x → x < k → opn (c x) = true → (shD c n).d x < k) ∧ HP Tr w ww0 []) (((k : Int) - 1 + 1).toNat) [(0, .slice p n cap), (1, vI (k : Int)), (5, vI ((k : Int) - 1))] ⟨rfl, rfl, rfl, trivial⟩ ⟨(k : Int) - 1, rfl, rfl, by omega, by omega, fun x h1 h2 => by omega, hH1⟩ ?_
 rintro kk l w6 ⟨i, rfl, hkk, hi1, hi2, hv, hH7⟩ K5 hK5
 refine WC.seq fun K8 hK8 => WC.seq fun K9 hK9 => WC.region (WL.z (vI i) 11 ?_)
 by_cases hge : (0 : Int) ≤ i
 ·
  refine WL.y (.bool true) 12 (x_geq rfl rfl rfl (dT (hge))) (WL.k hK9 ?_)
  refine WC.yes rfl ?_
  refine WC.skip (WQ.then (hK8 _ _ _ (WC.seq fun K10 hK10 => WC.block (WC.seq fun K11 hK11 => ?_))))
  obtain ⟨j, rfl⟩ : ∃ j : Nat, i = (j : Int) := ⟨i.toNat, by omega⟩
  obtain ⟨bb, oo, rfl, hrow⟩ := hIn (by omega)
  refine WC.region (WL.z (.slice (some ⟨bb, oo, none⟩) n cap) 15 (WL.z (vI (j : Int)) 16 (WL.y (vP bb (oo + j * 3)) 17 (x_ix (j) (oo + j * 3) Try.underlying42 sz75) (WL.z (vP bb (oo + j * 3)) 18 (WL.y (vI (c j)) 19 (x_load rfl rfl Try.underlying3 rfl ((HP.oldRange hH7 trivial (hrow j (by omega))) 0 _ rfl)) ?_)))))
  refine WL.c 77 #[vI (c j)] 20 ?_
  refine (rOpens_any _ _).mono ?_
  rintro e w12 ⟨rfl, rfl⟩
  refine ⟨_, rfl, ?_⟩
  refine WL.k hK11 (WC.sb [(0, .slice (some ⟨bb, oo, none⟩) n cap), (1, vI (k : Int)), (5, vI (j : Int)), (12, .bool true), (20, .bool (opn (c j)))] ?_)
  rcases Bool.eq_false_or_eq_true (opn (c j)) with hO | hO
  ·
   refine WC.yes (congrArg (fun b => some (Value.bool b)) hO) ?_
   refine WC.seq fun K13 hK13 => WC.region (WL.z (.slice (some ⟨bb, oo, none⟩) n cap) 22 (WL.z (vI (j : Int)) 23 ?_))
   refine WL.c 80 #[.slice (some ⟨bb, oo, none⟩) n cap, vI (j : Int)] 24 ?_
   refine (bracket_any (some ⟨bb, oo, none⟩) n cap c A B hn j (by omega) hO _ (hIn.below (HP.below hH7))).mono ?_
   rintro e w14 ⟨a1, e1, x1, rfl, hBR, hb15⟩
   refine ⟨_, rfl, ?_⟩
   have hH16 := HP.call hH7 hb15
   obtain ⟨ha1, he1, hen⟩ := bra_final hB (show j < n by omega) hBR
   refine WL.z (.tuple #[vI a1, vI (e1 : Int), vI x1]) 21 (WL.z (vI a1) 25 (WL.z (vI (e1 : Int)) 26 (WL.z (vI x1) 27 (WL.z (vI a1) 6 (WL.z (vI (e1 : Int)) 7 (WL.z (vI x1) 8 (WL.k hK13 (WC.sb [(0, .slice (some ⟨bb, oo, none⟩) n cap), (1, vI (k : Int)), (5, vI (j : Int)), (7, vI (e1 : Int)), (12, .bool true), (20, .bool (opn (c j)))] (WC.seq fun K17 hK17 => ?_)))))))))
   refine WC.region (WL.z (vI (e1 : Int)) 28 (WL.z (vI (k : Int)) 29 ?_))
   by_cases hge2 : (k : Int) ≤ (e1 : Int)
   ·
    refine WL.y (.bool true) 30 (x_geq rfl rfl rfl (dT (hge2))) (WL.k hK17 ?_)
    refine WC.yes rfl ?_
    refine WC.seq fun K18 hK18 => WC.region (WL.z (vI (j : Int)) 31 (WL.z (vI (j : Int)) 4 (WL.k hK18 (WC.ret ?_))))
    refine WQ.inRet ?_
    refine WQ.thenRet ?_
    refine WQ.thenRet ?_
    refine WQ.inRet ?_
    refine WQ.thenRet ?_
    refine WQ.ret1 4 rfl rfl ?_
    exact ⟨by rw [opener_some hB hk (show j < k by omega) hO (by omega) (fun x h1 h2 h3 => hv x (by omega) h2 h3)], HP.below hH16⟩
   ·
    refine WL.y (.bool false) 30 (x_geq rfl rfl rfl (dF (hge2))) (WL.k hK17 ?_)
    refine WC.no rfl ?_
    refine WC.skip (WQ.inNormal (WQ.then (hK10 _ _ _ (WC.region (WL.z (vI (j : Int)) 13 (WL.y (vI ((j : Int) - 1)) 14 (x_sub (Z := (j : Int) - 1) rfl rfl rfl (by omega) (by omega) (by omega)) (WL.z (vI ((j : Int) - 1)) 5 (WL.nil (WQ.sb [(0, .slice (some ⟨bb, oo, none⟩) n cap), (1, vI (k : Int)), (5, vI ((j : Int) - 1))] ?_)))))))))
    refine WQ.then (hK5 _ _ _ (by omega) ⟨(j : Int) - 1, rfl, rfl, by omega, by omega, fun x h1 h2 h3 => (Decidable.em (x = j)).elim (fun e => by rw [e]; omega) (fun e => hv x (by omega) h2 h3), hH16⟩)
  ·
   refine WC.no (congrArg (fun b => some (Value.bool b)) hO) ?_
   refine WC.skip (WQ.inNormal (WQ.then (hK10 _ _ _ (WC.region (WL.z (vI (j : Int)) 13 (WL.y (vI ((j : Int) - 1)) 14 (x_sub (Z := (j : Int) - 1) rfl rfl rfl (by omega) (by omega) (by omega)) (WL.z (vI ((j : Int) - 1)) 5 (WL.nil (WQ.sb [(0, .slice (some ⟨bb, oo, none⟩) n cap), (1, vI (k : Int)), (5, vI ((j : Int) - 1))] ?_)))))))))
   refine WQ.then (hK5 _ _ _ (by omega) ⟨(j : Int) - 1, rfl, rfl, by omega, by omega, fun x h1 h2 h3 => (Decidable.em (x = j)).elim (fun e => absurd (e ▸ h3) (by rw [hO]; exact Bool.false_ne_true)) (fun e => hv x (by omega) h2 h3), hH7⟩)
 ·
  refine WL.y (.bool false) 12 (x_geq rfl rfl rfl (dF (hge))) (WL.k hK9 ?_)
  refine WC.no rfl ?_
  refine WC.exit (WQ.thenExit (WQ.thenExit (WQ.inExit (WQ.then (hK3 _ _ _ (WC.seq fun K19 hK19 => WC.region (WL.z (vI (-1)) 4 (WL.k hK19 ?_))))))))
  refine WC.ret ?_
  refine WQ.ret1 4 rfl rfl ?_
  exact ⟨by rw [opener_none hB hk (fun x h1 h2 => hv x (by omega) h1 h2)], HP.below hH7⟩
theorem rOpener_any (p : Option Addr) (n cap : Nat) (c A B : Nat → Int) (at' : Int) (w : World) (hIn : InC w p n c A B) (hn : n ≤ 400) (h1 : -9223372036854775808 ≤ at') (h2 : at' ≤ 9223372036854775807) :
  Calls Try.prog 81 #[.slice p n cap, vI at'] w fun e w' => e = .returned (.tuple #[.int .i64 (opO c A B n at'), .int .i64 (opF c A B n at')]) ∧ Below w.heap.size w w' := by
 refine calls_of Try.func81 rfl (m := 31) rfl [(0, .slice p n cap), (1, vI at')] (Fr_enter [.slice p n cap, vI at'] 31 (Nat.le_of_ble_eq_true rfl)) ?_
 have hH1 : HP Tr w w [] := HP.refl w
 refine WC.seq fun K2 hK2 => WC.region (WL.z (vI 0) 4 (WL.z (vI 0) 5 (WL.k hK2 (WC.seq fun K3 hK3 => WC.region (WL.z (.slice p n cap) 8 ?_)))))
 refine WL.c 54 #[.slice p n cap, .bool false] 9 ?_
 refine (rCheck_any _ _ _ c A B false _ (hIn.below (HP.below hH1)) hn).mono ?_
 rintro e w4 ⟨rfl, hb5⟩
 refine ⟨_, rfl, ?_⟩
 have hH6 := HP.call hH1 hb5
 refine WL.z (vI (chk c A B false n)) 6 (WL.k hK3 (WC.seq fun K7 hK7 => WC.seq fun K8 hK8 => WC.region (WL.z (vI (chk c A B false n)) 10 ?_)))
 by_cases hc0 : chk c A B false n = 0
 ·
  refine WL.y (.bool true) 11 (x_eql rfl rfl rfl (dT (hc0))) (WL.z (.bool true) 12 (WL.z (vI at') 13 ?_))
  by_cases hlo : at' < 0
  ·
   refine WL.y (.bool true) 14 (x_lss rfl rfl rfl (dT (hlo))) (WL.z (.bool true) 15 (WL.p 16 (WL.p 17 (WL.p 18 (WL.p 19 (WL.z (.bool true) 20 (WL.z (.bool true) 21 (WL.k hK8 (WC.sb [(0, .slice p n cap), (1, vI at'), (4, vI 0), (5, vI 0), (6, vI (chk c A B false n)), (21, .bool true)] ?_)))))))))
   refine WC.yes rfl ?_
   refine WC.region (WL.z (vI 1) 6 (WL.k hK7 (WC.seq fun K9 hK9 => WC.seq fun K10 hK10 => WC.region (WL.z (vI 1) 22 (WL.y (.bool true) 23 (x_neq rfl rfl rfl (by decide)) (WL.nil (WQ.then ?_)))))))
   refine hK10 _ _ _ (WC.yes rfl ?_)
   refine WC.seq fun K11 hK11 => WC.region (WL.z (vI 1) 24 (WL.z (vI 0) 4 (WL.z (vI 1) 5 (WL.k hK11 (WC.ret ?_)))))
   refine WQ.thenRet ?_
   refine WQ.ret2 4 5 rfl rfl rfl ?_
   have q : opF c A B n at' = 1 ∧ opO c A B n at' = 0 := op_bad (er := 1) (by decide) (idE_out (by omega) (by omega))
   exact ⟨by rw [q.1, q.2], HP.below hH6⟩
  ·
   refine WL.y (.bool false) 14 (x_lss rfl rfl rfl (dF (hlo))) (WL.z (.bool false) 15 (WL.z (vI at') 16 (WL.z (.slice p n cap) 17 (WL.z (vI (n : Int)) 18 ?_))))
   by_cases hhi : (n : Int) ≤ at'
   ·
    refine WL.y (.bool true) 19 (x_geq rfl rfl rfl (dT (hhi))) (WL.z (.bool true) 20 (WL.z (.bool true) 21 (WL.k hK8 (WC.sb [(0, .slice p n cap), (1, vI at'), (4, vI 0), (5, vI 0), (6, vI (chk c A B false n)), (21, .bool true)] ?_))))
    refine WC.yes rfl ?_
    refine WC.region (WL.z (vI 1) 6 (WL.k hK7 (WC.seq fun K12 hK12 => WC.seq fun K13 hK13 => WC.region (WL.z (vI 1) 22 (WL.y (.bool true) 23 (x_neq rfl rfl rfl (by decide)) (WL.nil (WQ.then ?_)))))))
    refine hK13 _ _ _ (WC.yes rfl ?_)
    refine WC.seq fun K14 hK14 => WC.region (WL.z (vI 1) 24 (WL.z (vI 0) 4 (WL.z (vI 1) 5 (WL.k hK14 (WC.ret ?_)))))
    refine WQ.thenRet ?_
    refine WQ.ret2 4 5 rfl rfl rfl ?_
    have q : opF c A B n at' = 1 ∧ opO c A B n at' = 0 := op_bad (er := 1) (by decide) (idE_out (by omega) (by omega))
    exact ⟨by rw [q.1, q.2], HP.below hH6⟩
   ·
    refine WL.y (.bool false) 19 (x_geq rfl rfl rfl (dF (hhi))) (WL.z (.bool false) 20 (WL.z (.bool false) 21 (WL.k hK8 (WC.sb [(0, .slice p n cap), (1, vI at'), (4, vI 0), (5, vI 0), (6, vI (chk c A B false n)), (21, .bool false)] ?_))))
    refine WC.no rfl ?_
    refine WC.skip (WQ.then (hK7 _ _ _ (WC.seq fun K15 hK15 => WC.seq fun K16 hK16 => WC.region (WL.z (vI (chk c A B false n)) 22 (WL.y (.bool false) 23 (x_neq rfl rfl rfl (dF (fun h => h hc0))) (WL.k hK16 ?_))))))
    refine WC.no rfl ?_
    refine WC.skip (WQ.then (hK15 _ _ _ (WC.seq fun K17 hK17 => ?_)))
    obtain ⟨k, rfl⟩ : ∃ k : Nat, at' = (k : Int) := ⟨at'.toNat, by omega⟩
    obtain ⟨bb, oo, rfl, hrow⟩ := hIn (by omega)
    have hE : idE c A B n (k : Int) = 0 := idE_in (by omega) (by omega)
    have hB := chk_bal (show chk c A B false n = 0 by omega)
    refine WC.region (WL.z (.slice (some ⟨bb, oo, none⟩) n cap) 25 (WL.z (vI (k : Int)) 26 ?_))
    refine WL.c 96 #[.slice (some ⟨bb, oo, none⟩) n cap, vI (k : Int)] 27 ?_
    refine (around_any _ _ _ c A B k _ (hIn.below (HP.below hH6)) hn (by omega) hB).mono ?_
    rintro e w18 ⟨rfl, hb19⟩
    refine ⟨_, rfl, ?_⟩
    have hH20 := HP.call hH6 hb19
    refine WL.z (vI ((shD c n).o k)) 7 (WL.k hK17 (WC.seq fun K21 hK21 => WC.seq fun K22 hK22 => WC.region (WL.z (vI ((shD c n).o k)) 28 ?_)))
    by_cases hneg : (shD c n).o k < 0
    ·
     refine WL.y (.bool true) 29 (x_lss rfl rfl rfl (dT (hneg))) (WL.k hK22 ?_)
     refine WC.yes rfl ?_
     refine WC.seq fun K23 hK23 => WC.region (WL.z (vI 0) 4 (WL.z (vI 3) 5 (WL.k hK23 (WC.sb [(0, .slice (some ⟨bb, oo, none⟩) n cap), (1, vI (k : Int)), (4, vI 0), (5, vI 3), (6, vI (chk c A B false n)), (7, vI ((shD c n).o k)), (21, .bool false), (23, .bool false), (29, .bool true)] (WC.ret ?_)))))
     refine WQ.thenRet ?_
     refine WQ.ret2 4 5 rfl rfl rfl ?_
     have q : opF c A B n (k : Int) = 3 ∧ opO c A B n (k : Int) = 0 := op_none hE hneg
     exact ⟨by rw [q.1, q.2], HP.below hH20⟩
    ·
     refine WL.y (.bool false) 29 (x_lss rfl rfl rfl (dF (hneg))) (WL.k hK22 ?_)
     refine WC.no rfl ?_
     refine WC.skip (WQ.then (hK21 _ _ _ (WC.seq fun K24 hK24 => WC.region (WL.z (vI ((shD c n).o k)) 30 (WL.z (vI ((shD c n).o k)) 4 (WL.z (vI 0) 5 (WL.k hK24 (WC.sb [(0, .slice (some ⟨bb, oo, none⟩) n cap), (1, vI (k : Int)), (4, vI ((shD c n).o k)), (5, vI 0), (6, vI (chk c A B false n)), (7, vI ((shD c n).o k)), (21, .bool false), (23, .bool false), (29, .bool false)] ?_))))))))
     refine WC.ret ?_
     refine WQ.ret2 4 5 rfl rfl rfl ?_
     have q : opF c A B n (k : Int) = 0 ∧ opO c A B n (k : Int) = (shD c n).o k := op_ok hE hneg
     exact ⟨by rw [q.1, q.2], HP.below hH20⟩
 ·
  have hc := hc0
  refine WL.y (.bool false) 11 (x_eql rfl rfl rfl (dF (hc0))) (WL.z (.bool false) 12 (WL.p 13 (WL.p 14 (WL.p 15 (WL.p 16 (WL.p 17 (WL.p 18 (WL.p 19 (WL.p 20 (WL.z (.bool false) 21 (WL.nil ?_)))))))))))
  refine WQ.then (hK8 _ _ _ (WC.sb [(0, .slice p n cap), (1, vI at'), (4, vI 0), (5, vI 0), (6, vI (chk c A B false n)), (21, .bool false)] ?_))
  refine WC.no rfl ?_
  refine WC.skip (WQ.then (hK7 _ _ _ (WC.seq fun K25 hK25 => WC.seq fun K26 hK26 => WC.region (WL.z (vI (chk c A B false n)) 22 (WL.y (.bool true) 23 (x_neq rfl rfl rfl (dT (hc0))) (WL.k hK26 ?_))))))
  refine WC.yes rfl ?_
  refine WC.seq fun K27 hK27 => WC.region (WL.z (vI (chk c A B false n)) 24 (WL.z (vI 0) 4 (WL.z (vI (chk c A B false n)) 5 (WL.k hK27 (WC.ret ?_)))))
  refine WQ.thenRet ?_
  refine WQ.ret2 4 5 rfl rfl rfl ?_
  have q : opF c A B n at' = chk c A B false n ∧ opO c A B n at' = 0 := op_bad hc (idE_bad hc)
  exact ⟨by rw [q.1, q.2], HP.below hH6⟩
end Ec
end Go.Proofs.Ytmjnakhpekbenaa
namespace Go.Proofs.Ytmjnakhpekbenaa
open Go.RowKit Go.ChangeShapes Go.WideShapes Fw
namespace Ec
theorem cells3 : Try.prog.cellsOf 75 = 3 := by kernel_rfl
theorem cells1i : Try.prog.cellsOf 3 = 1 := by kernel_rfl
set_option maxRecDepth 100000 in
theorem elem3 {H : Type} {enc : TypeId × Value → H} {W : World} {base : Nat} {sp : Nat → Bool} {hd : Bool} {n : Nat} {cs : List Value} {y : DataW H × List MemPlace} (h : DataW.trod enc Try.prog W base sp hd n 75 cs = some y) :
    ∃ o : In, cs = [.int .i64 o.op, .int .i64 o.a, .int .i64 o.b] := by
  obtain ⟨xs, k, hk, hx, hl, hxl, hf⟩ := DataW.trod_struct Try.underlying75 h
  rw [cells3] at hl
  simp at hxl
  match xs, hxl, cs, hl with
  | [y0, y1, y2], _, [v0, v1, v2], _ =>
    have g0 := hf 0 _ rfl
    have g1 := hf 1 _ rfl
    have g2 := hf 2 _ rfl
    simp [cells1i] at g0 g1 g2
    obtain ⟨z0, h0, -⟩ := DataW.trod_int Try.underlying3 g0
    obtain ⟨z1, h1, -⟩ := DataW.trod_int Try.underlying3 g1
    obtain ⟨z2, h2, -⟩ := DataW.trod_int Try.underlying3 g2
    simp only [List.cons.injEq, and_true] at h0 h1 h2
    exact ⟨⟨z0, z1, z2⟩, by rw [h0, h1, h2]⟩
structure RowIn (W : World) (p : Option Addr) (n cap : Nat) (c A B : Nat → Int) : Prop where
  inC : InC W p n c A B
  nil : p = none → n = 0 ∧ cap = 0
  hn : n ≤ cap
  hc : cap ≤ maxLen
theorem choose3 {m : Nat} {Q : Nat → In → Prop} (h : ∀ i, i < m → ∃ o, Q i o) : ∃ f : Nat → In, ∀ i, i < m → Q i (f i) := by
  refine ⟨fun i => if hi : i < m then (h i hi).choose else ⟨0, 0, 0⟩, fun i hi => ?_⟩
  simp only [hi, dif_pos]
  exact (h i hi).choose_spec
theorem rows3 {H : Type} {enc : TypeId × Value → H} {W : World} {p : Option Addr} {n cap : Nat} {d : DataW H} {pl : List MemPlace}
    (h : DataW.Trod enc Try.prog W 0 (fun _ => true) true 42 (.slice p n cap) d pl) (lt : ∀ x ∈ pl, x.block < W.heap.size) : ∃ c A B, RowIn W p n cap c A B := by
  obtain ⟨fuel, hf⟩ := h
  rcases Go.Deep.open_slice Try.underlying42 hf with ⟨hc, -⟩ | ⟨a, len, cap', m, k, D, Pl, hc, -, hl, hm, hmm, hx, hall⟩
  · simp [Value.cells] at hc
    obtain ⟨rfl, rfl, rfl⟩ := hc
    exact ⟨fun _ => 0, fun _ => 0, fun _ => 0, fun h => absurd h (by omega), fun _ => ⟨rfl, rfl⟩, Nat.le_refl _, by omega⟩
  · simp [Value.cells] at hc
    obtain ⟨rfl, rfl, rfl⟩ := hc
    simp only [if_true] at hmm
    have add0 : ∀ a : Addr, a.add 0 = a := fun a => by unfold Addr.add; rw [if_pos rfl]
    have each : ∀ i, i < m → ∃ o : In, W.cell? (a.add (i * 3)) = some (.int .i64 o.op) ∧ W.cell? ((a.add (i * 3)).add 1) = some (.int .i64 o.a) ∧ W.cell? ((a.add (i * 3)).add 2) = some (.int .i64 o.b) := by
      intro i hi
      obtain ⟨cs', h1, h2⟩ := hall i hi
      rw [cells3] at h1
      obtain ⟨o, rfl⟩ := elem3 h2
      obtain ⟨_, hlen, hcell⟩ := World.cells?_some h1
      have e0 := hcell 0 (by omega)
      rw [add0] at e0
      exact ⟨o, by simpa using e0, by simpa using hcell 1 (by omega), by simpa using hcell 2 (by omega)⟩
    obtain ⟨f, hf⟩ := choose3 each
    refine ⟨fun i => (f i).op, fun i => (f i).a, fun i => (f i).b, fun h0 => ?_, fun q => (by cases q), hl, hm⟩
    obtain ⟨g0, g1, g2⟩ := hf 0 (by omega)
    rw [Nat.zero_mul, add0] at g0
    have hsp : a.spot = none := by
      unfold World.cell? at g0
      cases hsp : a.spot with
      | none => rfl
      | some q => rw [hsp] at g0; simp at g0; split at g0 <;> simp at g0
    obtain ⟨bb, oo, sp⟩ := a
    simp only at hsp
    subst hsp
    have hadd : ∀ k, (⟨bb, oo, none⟩ : Addr).add k = ⟨bb, oo + k, none⟩ := fun k => by unfold Addr.add; split <;> simp_all
    have hadd2 : ∀ o k, (⟨bb, o, none⟩ : Addr).add k = ⟨bb, o + k, none⟩ := fun o k => by unfold Addr.add; split <;> simp_all
    refine ⟨bb, oo, rfl, fun i hi j v hv => ?_⟩
    obtain ⟨e0, e1, e2⟩ := hf i (by omega)
    simp only [hadd, hadd2] at e0 e1 e2
    match j, hv with
    | 0, hv => simp at hv; subst hv; exact e0
    | 1, hv => simp at hv; subst hv; exact e1
    | 2, hv => simp at hv; subst hv; exact e2
    | j + 3, hv => simp at hv
def maF (c A B : Nat → Int) (n : Nat) (at' : Int) : Int := if idE c A B n at' ≠ 0 then idE c A B n at' else if opn (c at'.toNat) = false then 3 else 0
def maA (c A B : Nat → Int) (n : Nat) (at' : Int) : Int := if maF c A B n at' = 0 then (shD c n).e at'.toNat else 0
def maE (c A B : Nat → Int) (n : Nat) (at' : Int) : Int := if maF c A B n at' = 0 then (shD c n).d at'.toNat else 0
theorem mtc_eq (c A B : Nat → Int) (n : Nat) (at' : Int) : mtc c A B n at' = .tuple #[vI (maA c A B n at'), vI (maE c A B n at'), vI (maF c A B n at')] := by
  unfold mtc maA maE maF
  by_cases h1 : idE c A B n at' ≠ 0
  · simp [h1]
  · by_cases h2 : opn (c at'.toNat) = false
    · simp at h1; simp [h1, h2]
    · simp at h1 h2; simp [h1, h2]
abbrev MaV (c A B : Nat → Int) (n : Nat) (at' : Int) : Value := .tuple #[vI (maA c A B n at'), vI (maE c A B n at'), vI (maF c A B n at')]
theorem Match2_any (p : Option Addr) (n cap : Nat) (c A B : Nat → Int) (at' : Int) (w : World) (hIn : InC w p n c A B) (hn : n ≤ 400) (h1 : -9223372036854775808 ≤ at') (h2 : at' ≤ 9223372036854775807) :
    Calls Try.prog 75 #[.slice p n cap, vI at'] w fun e w' => e = .returned (MaV c A B n at') ∧ Below w.heap.size w w' := by
  have q := Match_any p n cap c A B at' w hIn hn h1 h2
  rw [mtc_eq] at q; exact q
theorem rMatch2_any (p : Option Addr) (n cap : Nat) (c A B : Nat → Int) (at' : Int) (w : World) (hIn : InC w p n c A B) (hn : n ≤ 400) (h1 : -9223372036854775808 ≤ at') (h2 : at' ≤ 9223372036854775807) :
    Calls Try.prog 56 #[.slice p n cap, vI at'] w fun e w' => e = .returned (MaV c A B n at') ∧ Below w.heap.size w w' := by
  have q := rMatch_any p n cap c A B at' w hIn hn h1 h2
  rw [mtc_eq] at q; exact q
end Ec
end Go.Proofs.Ytmjnakhpekbenaa
namespace Go.Proofs.Ytmjnakhpekbenaa
open Go.RowKit Fw
namespace Ec
theorem hadd (bb o k : Nat) : (⟨bb, o, none⟩ : Addr).add k = ⟨bb, o + k, none⟩ := by unfold Addr.add; split <;> simp_all
theorem infoR : (Try.prog.info? 75).map (fun i => (i.zero, i.size, i.bytes)) = some (some (.agg #[.int .i64 0, .int .i64 0, .int .i64 0]), 3, 24) := by kernel_rfl
theorem infoR' : ∃ i, Try.prog.info? 75 = some i ∧ i.zero = some (.agg #[.int .i64 0, .int .i64 0, .int .i64 0]) ∧ i.size = 3 ∧ i.bytes = 24 := by
  obtain ⟨i, hi, h⟩ := Option.map_eq_some_iff.1 infoR
  simp only [Prod.mk.injEq] at h
  exact ⟨i, hi, h.1, h.2.1, h.2.2⟩
end Ec
end Go.Proofs.Ytmjnakhpekbenaa
namespace Go.Proofs.Ytmjnakhpekbenaa
open Go.RowKit Fw
namespace Ca
structure SlI where
  q : Option Addr
  xs : List Int
  c : Nat
abbrev slV (r : SlI) : Value := .slice r.q r.xs.length r.c
structure InR (w : World) (r : SlI) : Prop where
  row : InI w r.q r.xs
  hc : r.xs.length ≤ r.c
  hm : r.c ≤ maxLen
  hw : ∀ x ∈ r.xs, Wi x
structure InS2 (w : World) (p : Option Addr) (S : List SlI) : Prop where
  row : 0 < S.length → ∃ g o, p = some ⟨g, o, none⟩ ∧ ∀ i, i < S.length → w.rangeAt g (o + i) [slV (S.getD i ⟨none, [], 0⟩)]
  inn : ∀ r ∈ S, InR w r
theorem InR.below {w w' : World} {r : SlI} (h : InR w r) (hb : Below w.heap.size w w') : InR w' r := ⟨h.row.below hb, h.hc, h.hm, h.hw⟩
theorem InS2.below {w w' : World} {p : Option Addr} {S : List SlI} (h : InS2 w p S) (hb : Below w.heap.size w w') : InS2 w' p S :=
  ⟨fun h0 => by
    obtain ⟨g, o, hp, hr⟩ := h.row h0
    exact ⟨g, o, hp, fun i hi => HP.oldRange (HP.of_below (S := Tr) hb) trivial (hr i hi)⟩, fun r hr => (h.inn r hr).below hb⟩
def okX (s k : Int) (xs : List Int) (i : Nat) : Bool := wn (xs.getD i 0) 0 999 && (decide ((xs.getD i 0).tmod s = k) && !((xs.take i).contains (xs.getD i 0)))
def okR (s y k : Int) (xs : List Int) : Bool := decide ((xs.length : Int) ≤ y) && (List.range xs.length).all (okX s k xs)
def okSt (s y l m : Int) (X : List (List Int)) : Bool := vG s y l m && (decide ((X.length : Int) = s) && (List.range X.length).all fun k => okR s y (k : Int) (X.getD k []))
theorem okR_iff {s y k : Int} {xs : List Int} : okR s y k xs = true ↔ (xs.length : Int) ≤ y ∧ ∀ i, i < xs.length → okX s k xs i = true := by simp [okR]
theorem okSt_iff {s y l m : Int} {X : List (List Int)} : okSt s y l m X = true ↔ vG s y l m = true ∧ (X.length : Int) = s ∧ ∀ k, k < X.length → okR s y (k : Int) (X.getD k []) = true := by simp [okSt]
theorem okSt_bad {s y l m : Int} {X : List (List Int)} {k : Nat} (hk : k < X.length) (h : okR s y (k : Int) (X.getD k []) = false) : okSt s y l m X = false := by
  cases q : okSt s y l m X with
  | false => rfl
  | true => have := (okSt_iff.1 q).2.2 k hk; rw [h] at this; cases this
theorem okR_bad {s y k : Int} {xs : List Int} {i : Nat} (hi : i < xs.length) (h : okX s k xs i = false) : okR s y k xs = false := by
  cases q : okR s y k xs with
  | false => rfl
  | true => have := (okR_iff.1 q).2 i hi; rw [h] at this; cases this
theorem okR_long {s y k : Int} {xs : List Int} (h : ¬ (xs.length : Int) ≤ y) : okR s y k xs = false := by unfold okR; rw [decide_eq_false h]; rfl
def stX (S : List SlI) : List (List Int) := S.map (·.xs)
theorem stX_at {S : List SlI} {k : Nat} {r : SlI} (h : S[k]? = some r) : (stX S).getD k [] = r.xs ∧ S.getD k ⟨none, [], 0⟩ = r ∧ k < S.length ∧ r ∈ S := by
  have hlt := (List.getElem?_eq_some_iff.1 h).1
  exact ⟨by simp [stX, List.getD_eq_getElem?_getD, h], by simp [List.getD_eq_getElem?_getD, h], hlt, List.mem_of_getElem? h⟩
theorem stX_len (S : List SlI) : (stX S).length = S.length := by simp [stX]
theorem cells_of {w : World} {g o : Nat} {xs : List Int} (h : ∀ i, i < xs.length → w.rangeAt g (o + i) [vI (xs.getD i 0)]) : ∀ j, j < xs.length → w.cell? ⟨g, o + j, none⟩ = some (.int .i64 (xs.getD j 0)) := fun j hj => by
  have := h j hj 0 _ rfl
  simpa using this
end Ca
end Go.Proofs.Ytmjnakhpekbenaa
namespace Go.Proofs.Ytmjnakhpekbenaa
set_option maxRecDepth 20000
set_option maxHeartbeats 4000000
open Go.RowKit Fw
namespace Ca
def plc (x : Int) : List Int → Option Nat
  | [] => none
  | a :: r => if a = x then some 0 else (plc x r).map (· + 1)
theorem plc_none {x : Int} : ∀ {xs : List Int}, (∀ i, i < xs.length → xs.getD i 0 ≠ x) → plc x xs = none
  | [], _ => rfl
  | a :: r, h => by
    have h0 := h 0 (by simp)
    have := plc_none (x := x) (xs := r) fun i hi => by have := h (i + 1) (by simpa using hi); simpa using this
    simp only [plc]; rw [if_neg (by simpa using h0), this]; rfl
theorem plc_some {x : Int} : ∀ {xs : List Int} {k : Nat}, k < xs.length → xs.getD k 0 = x → (∀ i, i < k → xs.getD i 0 ≠ x) → plc x xs = some k
  | [], k, hk, _, _ => by simp at hk
  | a :: r, 0, _, h, _ => by simp only [plc]; rw [if_pos (by simpa using h)]
  | a :: r, k + 1, hk, h, hn => by
    have h0 := hn 0 (by omega)
    have := plc_some (x := x) (xs := r) (k := k) (by simpa using hk) (by simpa using h) fun i hi => by have := hn (i + 1) (by omega); simpa using this
    simp only [plc]; rw [if_neg (by simpa using h0), this]; rfl
def plcV (x : Int) (xs : List Int) : Int := match plc x xs with | some k => (k : Int) | none => -1
theorem plcV_ge {x : Int} : ∀ {xs : List Int}, 0 ≤ plcV x xs ↔ xs.contains x = true := by
  intro xs
  have key : ∀ xs : List Int, (plc x xs).isSome = xs.contains x := by
    intro xs
    induction xs with
    | nil => rfl
    | cons a r ih =>
      simp only [plc, List.contains_cons]
      by_cases h : a = x
      · rw [if_pos h]; subst h; simp
      · rw [if_neg h, Option.isSome_map, ih]
        have : (x == a) = false := by simpa using fun e => h e.symm
        rw [this, Bool.false_or]
  unfold plcV
  have := key xs
  cases h : plc x xs with
  | none => rw [h] at this; simp at this ⊢; exact this
  | some k => rw [h] at this; simp at this ⊢; exact this
theorem take_row {w : World} {g o i : Nat} {xs : List Int} (hi : i ≤ xs.length) (h : ∀ j, j < xs.length → w.rangeAt g (o + j) [vI (xs.getD j 0)]) : InI w (some ⟨g, o, none⟩) (xs.take i) := fun _ => by
  refine ⟨g, o, rfl, fun j hj => ?_⟩
  have hj' : j < i := by simp at hj; omega
  have := h j (by omega)
  have e : (xs.take i).getD j 0 = xs.getD j 0 := by simp [List.getD_eq_getElem?_getD, List.getElem?_take, hj']
  rw [e]; exact this
theorem sz33 : (Try.prog.info? 33).map (·.size) = some 1 := by kernel_rfl
theorem place_any (q : Option Addr) (xs : List Int) (c : Nat) (w : World) (hI : InI w q xs) (hn : xs.length ≤ 281474976710656) (x : Int) :
  Calls Try.prog 42 #[.slice q xs.length c, vI x] w fun e w' => e = .returned (.int .i64 (plcV x xs)) ∧ Below w.heap.size w w' := by
 refine calls_of Try.func42 rfl (m := 19) rfl [(0, .slice q xs.length c), (1, vI x)] (Fr_enter [.slice q xs.length c, vI x] 19 (Nat.le_of_ble_eq_true rfl)) ?_
 have hH1 : HP Tr w w [] := HP.refl w
 refine WC.seq fun K2 hK2 => WC.region (WL.z (vI 0) 4 (WL.k hK2 (WC.seq fun K3 hK3 => WC.seq fun K4 hK4 => WC.region (WL.z (vI 0) 5 (WL.nil (WQ.then ?_))))))
 refine hK4 _ _ _ (WC.block ?_)
 refine WC.loop (fun kk0 ll0 ww0 => ∃ (i : Nat), ll0 = [(0, .slice q xs.length c), (1, vI x), (5, vI (i : Int))] ∧ kk0 = xs.length - i ∧ (i ≤ xs.length) ∧ (∀ j, j < i → xs.getD j 0 ≠ x) ∧ HP Tr w ww0 []) (xs.length) [(0, .slice q xs.length c), (1, vI x), (5, vI 0)] ⟨rfl, rfl, rfl, trivial⟩ ⟨0, rfl, rfl, Nat.zero_le _, fun j hj => by omega, hH1⟩ ?_
 rintro kk l w6 ⟨i, rfl, hkk, hi, hno, hH7⟩ K5 hK5
 refine WC.seq fun K8 hK8 => WC.seq fun K9 hK9 => WC.region (WL.z (vI (i : Int)) 6 (WL.z (.slice q xs.length c) 7 (WL.z (vI (xs.length : Int)) 8 ?_)))
 by_cases hlt : (i : Int) < (xs.length : Int)
 ·
  refine WL.y (.bool true) 9 (x_lss rfl rfl rfl (dT (hlt))) (WL.k hK9 ?_)
  refine WC.yes rfl ?_
  refine WC.skip (WQ.then (hK8 _ _ _ (WC.seq fun K10 hK10 => WC.block (WC.seq fun K11 hK11 => ?_))))
  obtain ⟨g, o, rfl, hrow⟩ := hI (by omega)
  refine WC.region (WL.z (.slice (some ⟨g, o, none⟩) xs.length c) 12 (WL.z (vI (i : Int)) 13 (WL.y (vP g (o + i)) 14 (x_ix (i) (o + i) Try.underlying33 sz3) (WL.y (vI (xs.getD i 0)) 15 (x_load rfl rfl Try.underlying3 rfl ((HP.oldRange hH7 trivial (hrow i (by omega))) 0 _ rfl)) (WL.z (vI x) 16 ?_)))))
  by_cases heq : xs.getD i 0 = x
  ·
   refine WL.y (.bool true) 17 (x_eql rfl rfl rfl (dT (heq))) (WL.k hK11 (WC.sb [(0, .slice (some ⟨g, o, none⟩) xs.length c), (1, vI x), (5, vI (i : Int)), (9, .bool true), (17, .bool true)] ?_))
   refine WC.yes rfl ?_
   refine WC.seq fun K12 hK12 => WC.region (WL.z (vI (i : Int)) 18 (WL.z (vI (i : Int)) 4 (WL.k hK12 (WC.ret ?_))))
   refine WQ.inRet ?_
   refine WQ.thenRet ?_
   refine WQ.thenRet ?_
   refine WQ.inRet ?_
   refine WQ.thenRet ?_
   refine WQ.ret1 4 rfl rfl ?_
   exact ⟨by unfold plcV; rw [plc_some (show i < xs.length by omega) heq hno], HP.below hH7⟩
  ·
   refine WL.y (.bool false) 17 (x_eql rfl rfl rfl (dF (heq))) (WL.k hK11 (WC.sb [(0, .slice (some ⟨g, o, none⟩) xs.length c), (1, vI x), (5, vI (i : Int)), (9, .bool true), (17, .bool false)] ?_))
   refine WC.no rfl ?_
   refine WC.skip (WQ.inNormal (WQ.then (hK10 _ _ _ (WC.region (WL.z (vI (i : Int)) 10 (WL.y (vI ((i + 1 : Nat) : Int)) 11 (x_ad (((i + 1 : Nat) : Int))) (WL.z (vI ((i + 1 : Nat) : Int)) 5 (WL.nil (WQ.sb [(0, .slice (some ⟨g, o, none⟩) xs.length c), (1, vI x), (5, vI ((i + 1 : Nat) : Int))] ?_)))))))))
   refine WQ.then (hK5 _ _ _ (by omega) ⟨i + 1, rfl, rfl, by omega, fun j hj => by
        by_cases q9 : j = i
        · subst q9; exact heq
        · exact hno j (by omega), hH7⟩)
 ·
  refine WL.y (.bool false) 9 (x_lss rfl rfl rfl (dF (hlt))) (WL.k hK9 ?_)
  refine WC.no rfl ?_
  refine WC.exit (WQ.thenExit (WQ.thenExit (WQ.inExit (WQ.then (hK3 _ _ _ (WC.seq fun K13 hK13 => WC.region (WL.z (vI (-1)) 4 (WL.k hK13 ?_))))))))
  refine WC.ret ?_
  refine WQ.ret1 4 rfl rfl ?_
  exact ⟨by unfold plcV; rw [plc_none (fun j hj => hno j (by omega))], HP.below hH7⟩
theorem ValidState_any (s y l m : Int) (p : Option Addr) (S : List SlI) (cp : Nat) (w : World) (hS : InS2 w p S) (hn : S.length ≤ 281474976710656) :
  Calls Try.prog 15 #[.agg #[vI s, vI y, vI l, vI m], .slice p S.length cp] w fun e w' => e = .returned (.bool (okSt s y l m (stX S))) ∧ Below w.heap.size w w' := by
 refine calls_of Try.func15 rfl (m := 58) rfl [(0, .agg #[vI s, vI y, vI l, vI m]), (1, .slice p S.length cp)] (Fr_enter [.agg #[vI s, vI y, vI l, vI m], .slice p S.length cp] 58 (Nat.le_of_ble_eq_true rfl)) ?_
 have hH1 : HP Tr w w [] := HP.refl w
 refine WC.seq fun K2 hK2 => WC.region ?_
 refine WL.alloc (c := #[vI s, vI y, vI l, vI m]) (T := 23) hH1 2 rfl (by decide) rfl rfl (fun b2 => vP b2 0) (by kernel_rfl) (fun b2 w3 hw3 => ?_)
 have hH4 : HP Tr w w3 [.cel b2 #[vI s, vI y, vI l, vI m] 23] := hw3.2
 have nb2 := hw3.1
 clear hw3
 refine WL.z (.bool false) 4 (WL.k hK2 (WC.seq fun K5 hK5 => WC.seq fun K6 hK6 => WC.region (WL.y (.agg #[vI s, vI y, vI l, vI m]) 9 (x_loadS (cs := [vI s, vI y, vI l, vI m]) rfl rfl Try.underlying23 rfl sz23 (HP.range hH4 0 rfl rfl)) ?_)))
 rcases Bool.eq_false_or_eq_true (vG s y l m) with hg | hg
 ·
  refine WL.c 22 #[.agg #[vI s, vI y, vI l, vI m]] 10 ?_
  refine (Valid_any s y l m _).mono ?_
  rw [hg]
  rintro e w7 ⟨rfl, hb9⟩
  refine ⟨_, rfl, ?_⟩
  have hH8 := HP.call hH4 hb9
  obtain ⟨⟨hs1, hs2⟩, ⟨hy1, hy2⟩, -, -⟩ := vG_iff.1 hg
  refine WL.z (.bool false) 11 (WL.z (.bool false) 12 (WL.z (.slice p S.length cp) 13 (WL.z (vI (S.length : Int)) 14 (WL.z (vP b2 0) 15 (WL.y (vI s) 16 (x_load rfl rfl Try.underlying3 rfl (HP.cell hH8 0 rfl rfl)) ?_)))))
  by_cases hsl : (S.length : Int) ≠ s
  ·
   refine WL.y (.bool true) 17 (x_neq rfl rfl rfl (dT (hsl))) (WL.z (.bool true) 18 (WL.k hK6 (WC.sb [(0, .agg #[vI s, vI y, vI l, vI m]), (1, .slice p S.length cp), (2, vP b2 0), (4, .bool false), (18, .bool true)] ?_)))
   refine WC.yes rfl ?_
   refine WC.seq fun K9 hK9 => WC.region (WL.z (.bool false) 4 (WL.k hK9 (WC.ret ?_)))
   refine WQ.thenRet ?_
   refine WQ.ret1 4 rfl rfl ?_
   exact ⟨by unfold okSt; rw [hg, stX_len, decide_eq_false (by omega)]; rfl, HP.below hH8⟩
  ·
   refine WL.y (.bool false) 17 (x_neq rfl rfl rfl (dF (hsl))) (WL.z (.bool false) 18 (WL.k hK6 (WC.sb [(0, .agg #[vI s, vI y, vI l, vI m]), (1, .slice p S.length cp), (2, vP b2 0), (4, .bool false), (18, .bool false)] ?_)))
   refine WC.no rfl ?_
   refine WC.skip (WQ.then (hK5 _ _ _ (WC.seq fun K10 hK10 => WC.seq fun K11 hK11 => WC.region (WL.z (.slice p S.length cp) 19 (WL.z (vI (S.length : Int)) 20 (WL.z (vI 0) 21 (WL.k hK11 ?_)))))))
   refine WC.block ?_
   refine WC.loop (fun kk0 ll0 ww0 => ∃ (k : Nat), ll0 = [(1, .slice p S.length cp), (2, vP b2 0), (19, .slice p S.length cp), (20, vI (S.length : Int)), (21, vI (k : Int))] ∧ kk0 = S.length - k ∧ (k ≤ S.length) ∧ (∀ j, j < k → okR s y (j : Int) ((stX S).getD j []) = true) ∧ HP Tr w ww0 [.cel b2 #[vI s, vI y, vI l, vI m] 23]) (S.length) [(1, .slice p S.length cp), (2, vP b2 0), (19, .slice p S.length cp), (20, vI (S.length : Int)), (21, vI 0)] ⟨rfl, rfl, rfl, rfl, rfl, trivial⟩ ⟨0, rfl, rfl, Nat.zero_le _, fun j hj => by omega, hH8⟩ ?_
   rintro kk l w13 ⟨k, rfl, hkk, hk, hok, hH14⟩ K12 hK12
   refine WC.seq fun K15 hK15 => WC.region ?_
   by_cases hlt : (k : Int) < (S.length : Int)
   ·
    refine WL.y (.bool true) 22 (x_lss rfl rfl rfl (dT (hlt))) (WL.k hK15 (WC.seq fun K16 hK16 => ?_))
    refine WC.yes rfl ?_
    refine WC.skip (WQ.then (hK16 _ _ _ (WC.seq fun K17 hK17 => WC.block (WC.seq fun K18 hK18 => ?_))))
    obtain ⟨r, hr⟩ : ∃ r, S[k]? = some r := ⟨S[k]'(by omega), List.getElem?_eq_getElem _⟩
    obtain ⟨hr1, hr2, hr3, hr4⟩ := stX_at hr
    have hIR := hS.inn r hr4
    obtain ⟨q, xs, c⟩ := r
    have hI : InI w q xs := hIR.row
    have hxc : xs.length ≤ c := hIR.hc
    have hcm : c ≤ maxLen := hIR.hm
    unfold maxLen at hcm
    simp only [] at hr1 hr2
    obtain ⟨gS, oS, hpS, hrowS⟩ := hS.row (by omega)
    subst hpS
    refine WC.region (WL.z (vI (k : Int)) 23 (WL.y (vP gS (oS + k)) 24 (x_ix (k) (oS + k) Try.underlying24 sz33) (WL.y (.slice q xs.length c) 25 (x_load rfl rfl Try.underlying33 rfl ((HP.oldRange hH14 trivial (show w.rangeAt gS (oS + k) [slV ⟨q, xs, c⟩] by have q9 := hrowS k (by omega); rw [hr2] at q9; exact q9)) 0 _ rfl)) (WL.z (vI (k : Int)) 5 (WL.z (.slice q xs.length c) 6 (WL.k hK18 (WC.seq fun K19 hK19 => WC.seq fun K20 hK20 => WC.region ?_)))))))
    refine WL.z (.slice q xs.length c) 26 (WL.z (vI (xs.length : Int)) 27 (WL.z (vP b2 1) 28 (WL.y (vI y) 29 (x_load rfl rfl Try.underlying3 rfl (HP.cell hH14 0 rfl rfl)) ?_)))
    by_cases hlong : y < (xs.length : Int)
    ·
     refine WL.y (.bool true) 30 (x_gtr rfl rfl rfl (dT (hlong))) (WL.k hK20 (WC.sb [(1, .slice (some ⟨gS, oS, none⟩) S.length cp), (2, vP b2 0), (5, vI (k : Int)), (6, .slice q xs.length c), (19, .slice (some ⟨gS, oS, none⟩) S.length cp), (20, vI (S.length : Int)), (21, vI (k : Int)), (22, .bool true), (30, .bool true)] ?_))
     refine WC.yes rfl ?_
     refine WC.seq fun K21 hK21 => ?_
     have hbad : okR s y (k : Int) ((stX S).getD k []) = false := by rw [hr1]; exact okR_long (by omega)
     refine WC.region (WL.z (.bool false) 4 (WL.k hK21 (WC.ret ?_)))
     refine WQ.thenRet ?_
     refine WQ.inRet ?_
     refine WQ.thenRet ?_
     refine WQ.thenRet ?_
     refine WQ.inRet ?_
     refine WQ.thenRet ?_
     refine WQ.ret1 4 rfl rfl ?_
     exact ⟨by rw [okSt_bad (by rw [stX_len]; omega) hbad], HP.below hH14⟩
    ·
     refine WL.y (.bool false) 30 (x_gtr rfl rfl rfl (dF (hlong))) (WL.k hK20 (WC.sb [(1, .slice (some ⟨gS, oS, none⟩) S.length cp), (2, vP b2 0), (5, vI (k : Int)), (6, .slice q xs.length c), (19, .slice (some ⟨gS, oS, none⟩) S.length cp), (20, vI (S.length : Int)), (21, vI (k : Int)), (22, .bool true), (30, .bool false)] ?_))
     refine WC.no rfl ?_
     refine WC.skip (WQ.then (hK19 _ _ _ (WC.seq fun K22 hK22 => WC.region (WL.z (.slice q xs.length c) 31 (WL.z (vI (xs.length : Int)) 32 (WL.z (vI 0) 33 (WL.k hK22 (WC.block ?_))))))))
     refine WC.loop (fun kk0 ll0 ww0 => ∃ (i : Nat), ll0 = [(1, .slice (some ⟨gS, oS, none⟩) S.length cp), (2, vP b2 0), (5, vI (k : Int)), (6, .slice q xs.length c), (19, .slice (some ⟨gS, oS, none⟩) S.length cp), (20, vI (S.length : Int)), (21, vI (k : Int)), (31, .slice q xs.length c), (32, vI (xs.length : Int)), (33, vI (i : Int))] ∧ kk0 = xs.length - i ∧ (i ≤ xs.length) ∧ (∀ j, j < i → okX s (k : Int) xs j = true) ∧ HP Tr w ww0 [.cel b2 #[vI s, vI y, vI l, vI m] 23]) (xs.length) [(1, .slice (some ⟨gS, oS, none⟩) S.length cp), (2, vP b2 0), (5, vI (k : Int)), (6, .slice q xs.length c), (19, .slice (some ⟨gS, oS, none⟩) S.length cp), (20, vI (S.length : Int)), (21, vI (k : Int)), (31, .slice q xs.length c), (32, vI (xs.length : Int)), (33, vI 0)] ⟨rfl, rfl, rfl, rfl, rfl, rfl, rfl, rfl, rfl, rfl, trivial⟩ ⟨0, rfl, rfl, Nat.zero_le _, fun j hj => by omega, hH14⟩ ?_
     rintro kk l w24 ⟨i, rfl, hkk, hi, hokj, hH25⟩ K23 hK23
     refine WC.seq fun K26 hK26 => WC.region ?_
     by_cases hi2 : (i : Int) < (xs.length : Int)
     ·
      refine WL.y (.bool true) 34 (x_lss rfl rfl rfl (dT (hi2))) (WL.k hK26 (WC.seq fun K27 hK27 => ?_))
      refine WC.yes rfl ?_
      refine WC.skip (WQ.then (hK27 _ _ _ (WC.seq fun K28 hK28 => WC.block (WC.seq fun K29 hK29 => ?_))))
      obtain ⟨g, o, rfl, hrow⟩ := hI (by omega)
      refine WC.region (WL.z (vI (i : Int)) 35 (WL.y (vP g (o + i)) 36 (x_ix (i) (o + i) Try.underlying33 sz3) (WL.y (vI (xs.getD i 0)) 37 (x_load rfl rfl Try.underlying3 rfl ((HP.oldRange hH25 trivial (hrow i (by omega))) 0 _ rfl)) (WL.z (vI (i : Int)) 7 (WL.z (vI (xs.getD i 0)) 8 (WL.k hK29 (WC.seq fun K30 hK30 => WC.region (WL.z (vI (xs.getD i 0)) 38 ?_))))))))
      rcases Bool.eq_false_or_eq_true (wn (xs.getD i 0) 0 999) with hA | hA
      ·
       refine WL.c 44 #[vI (xs.getD i 0), vI 0, vI 999] 39 ?_
       refine (within_at hA _).mono ?_
       rintro e w31 ⟨rfl, rfl⟩
       refine ⟨_, rfl, ?_⟩
       refine WL.z (.bool false) 40 (WL.z (.bool false) 41 (WL.z (vI (xs.getD i 0)) 42 (WL.z (vP b2 0) 43 (WL.y (vI s) 44 (x_load rfl rfl Try.underlying3 rfl (HP.cell hH25 0 rfl rfl)) (WL.y (vI ((xs.getD i 0).tmod s)) 45 (x_rem rfl rfl rfl (by omega) rfl) (WL.z (vI (k : Int)) 46 ?_))))))
       by_cases h47 : (xs.getD i 0).tmod s ≠ (k : Int)
       ·
        refine WL.y (.bool true) 47 (x_neq rfl rfl rfl (dT (h47))) (WL.z (.bool true) 48 (WL.z (.bool true) 49 (WL.p 50 (WL.p 51 (WL.p 52 (WL.p 53 (WL.p 54 (WL.z (.bool true) 55 (WL.k hK30 ?_)))))))))
        refine WC.sb [(1, .slice (some ⟨gS, oS, none⟩) S.length cp), (2, vP b2 0), (5, vI (k : Int)), (6, .slice (some ⟨g, o, none⟩) xs.length c), (7, vI (i : Int)), (8, vI (xs.getD i 0)), (19, .slice (some ⟨gS, oS, none⟩) S.length cp), (20, vI (S.length : Int)), (21, vI (k : Int)), (31, .slice (some ⟨g, o, none⟩) xs.length c), (32, vI (xs.length : Int)), (33, vI (i : Int)), (34, .bool true), (55, .bool true)] ?_
        refine WC.yes rfl ?_
        refine WC.seq fun K32 hK32 => ?_
        have hbx : okX s (k : Int) xs i = false := by unfold okX; rw [hA, decide_eq_false h47]; rfl
        have hbad : okR s y (k : Int) ((stX S).getD k []) = false := by rw [hr1]; exact okR_bad (by omega) hbx
        refine WC.region (WL.z (.bool false) 4 (WL.k hK32 (WC.ret ?_)))
        refine WQ.inRet ?_
        refine WQ.thenRet ?_
        refine WQ.thenRet ?_
        refine WQ.inRet ?_
        refine WQ.inRet ?_
        refine WQ.thenRet ?_
        refine WQ.thenRet ?_
        refine WQ.inRet ?_
        refine WQ.thenRet ?_
        refine WQ.ret1 4 rfl rfl ?_
        exact ⟨by rw [okSt_bad (by rw [stX_len]; omega) hbad], HP.below hH25⟩
       ·
        refine WL.y (.bool false) 47 (x_neq rfl rfl rfl (dF (h47))) (WL.z (.bool false) 48 (WL.z (.bool false) 49 (WL.z (.slice (some ⟨g, o, none⟩) xs.length c) 50 (WL.z (vI (i : Int)) 51 (WL.y (.slice (some ⟨g, o, none⟩) i c) 52 (x_sliceH (i) rfl rfl rfl Try.underlying33 (by omega) (by omega) sz3) (WL.z (vI (xs.getD i 0)) 53 ?_))))))
        rcases Bool.eq_false_or_eq_true ((xs.take i).contains (xs.getD i 0)) with hC | hC
        ·
         refine WL.c 45 #[.slice (some ⟨g, o, none⟩) i c, vI (xs.getD i 0)] 54 ?_
         refine (((Try.slices_Contains_int g o i c xs (xs.getD i 0) _ (by omega) (by omega) (cells_of fun j hj => HP.oldRange hH25 trivial (hrow j hj))).mono fun e w' h => (show e = .returned (.bool true) ∧ _ = w' from ⟨by rw [h.1, hC], h.2.symm⟩))).mono ?_
         rintro e w33 ⟨rfl, rfl⟩
         refine ⟨_, rfl, ?_⟩
         refine WL.z (.bool true) 55 (WL.k hK30 (WC.sb [(1, .slice (some ⟨gS, oS, none⟩) S.length cp), (2, vP b2 0), (5, vI (k : Int)), (6, .slice (some ⟨g, o, none⟩) xs.length c), (7, vI (i : Int)), (8, vI (xs.getD i 0)), (19, .slice (some ⟨gS, oS, none⟩) S.length cp), (20, vI (S.length : Int)), (21, vI (k : Int)), (31, .slice (some ⟨g, o, none⟩) xs.length c), (32, vI (xs.length : Int)), (33, vI (i : Int)), (34, .bool true), (55, .bool true)] ?_))
         refine WC.yes rfl ?_
         refine WC.seq fun K34 hK34 => ?_
         have hbx : okX s (k : Int) xs i = false := by unfold okX; rw [hA, decide_eq_true (Classical.not_not.1 h47), hC]; rfl
         have hbad : okR s y (k : Int) ((stX S).getD k []) = false := by rw [hr1]; exact okR_bad (by omega) hbx
         refine WC.region (WL.z (.bool false) 4 (WL.k hK34 (WC.ret ?_)))
         refine WQ.inRet ?_
         refine WQ.thenRet ?_
         refine WQ.thenRet ?_
         refine WQ.inRet ?_
         refine WQ.inRet ?_
         refine WQ.thenRet ?_
         refine WQ.thenRet ?_
         refine WQ.inRet ?_
         refine WQ.thenRet ?_
         refine WQ.ret1 4 rfl rfl ?_
         exact ⟨by rw [okSt_bad (by rw [stX_len]; omega) hbad], HP.below hH25⟩
        ·
         refine WL.c 45 #[.slice (some ⟨g, o, none⟩) i c, vI (xs.getD i 0)] 54 ?_
         refine (((Try.slices_Contains_int g o i c xs (xs.getD i 0) _ (by omega) (by omega) (cells_of fun j hj => HP.oldRange hH25 trivial (hrow j hj))).mono fun e w' h => (show e = .returned (.bool false) ∧ _ = w' from ⟨by rw [h.1, hC], h.2.symm⟩))).mono ?_
         rintro e w35 ⟨rfl, rfl⟩
         refine ⟨_, rfl, ?_⟩
         refine WL.z (.bool false) 55 (WL.k hK30 (WC.sb [(1, .slice (some ⟨gS, oS, none⟩) S.length cp), (2, vP b2 0), (5, vI (k : Int)), (6, .slice (some ⟨g, o, none⟩) xs.length c), (7, vI (i : Int)), (8, vI (xs.getD i 0)), (19, .slice (some ⟨gS, oS, none⟩) S.length cp), (20, vI (S.length : Int)), (21, vI (k : Int)), (31, .slice (some ⟨g, o, none⟩) xs.length c), (32, vI (xs.length : Int)), (33, vI (i : Int)), (34, .bool true), (55, .bool false)] ?_))
         refine WC.no rfl ?_
         refine WC.skip (WQ.inNormal (WQ.then (hK28 _ _ _ ?_)))
         have hokx : okX s (k : Int) xs i = true := by unfold okX; rw [hA, decide_eq_true (Classical.not_not.1 h47), hC]; rfl
         refine WC.region (WL.y (vI ((i + 1 : Nat) : Int)) 56 (x_ad (((i + 1 : Nat) : Int))) (WL.z (vI ((i + 1 : Nat) : Int)) 33 (WL.nil (WQ.sb [(1, .slice (some ⟨gS, oS, none⟩) S.length cp), (2, vP b2 0), (5, vI (k : Int)), (6, .slice (some ⟨g, o, none⟩) xs.length c), (19, .slice (some ⟨gS, oS, none⟩) S.length cp), (20, vI (S.length : Int)), (21, vI (k : Int)), (31, .slice (some ⟨g, o, none⟩) xs.length c), (32, vI (xs.length : Int)), (33, vI ((i + 1 : Nat) : Int))] ?_))))
         refine WQ.then (hK23 _ _ _ (by omega) ⟨i + 1, rfl, rfl, by omega, fun j hj => by
                    by_cases q9 : j = i
                    · subst q9; exact hokx
                    · exact hokj j (by omega), hH25⟩)
      ·
       refine WL.c 44 #[vI (xs.getD i 0), vI 0, vI 999] 39 ?_
       refine (within_at hA _).mono ?_
       rintro e w36 ⟨rfl, rfl⟩
       refine ⟨_, rfl, ?_⟩
       refine WL.z (.bool true) 40 (WL.z (.bool true) 41 (WL.p 42 (WL.p 43 (WL.p 44 (WL.p 45 (WL.p 46 (WL.p 47 (WL.z (.bool true) 48 (WL.z (.bool true) 49 (WL.p 50 (WL.p 51 ?_)))))))))))
       refine WL.p 52 (WL.p 53 (WL.p 54 (WL.z (.bool true) 55 (WL.k hK30 (WC.sb [(1, .slice (some ⟨gS, oS, none⟩) S.length cp), (2, vP b2 0), (5, vI (k : Int)), (6, .slice (some ⟨g, o, none⟩) xs.length c), (7, vI (i : Int)), (8, vI (xs.getD i 0)), (19, .slice (some ⟨gS, oS, none⟩) S.length cp), (20, vI (S.length : Int)), (21, vI (k : Int)), (31, .slice (some ⟨g, o, none⟩) xs.length c), (32, vI (xs.length : Int)), (33, vI (i : Int)), (34, .bool true), (55, .bool true)] ?_)))))
       refine WC.yes rfl ?_
       refine WC.seq fun K37 hK37 => ?_
       have hbx : okX s (k : Int) xs i = false := by unfold okX; rw [hA]; rfl
       have hbad : okR s y (k : Int) ((stX S).getD k []) = false := by rw [hr1]; exact okR_bad (by omega) hbx
       refine WC.region (WL.z (.bool false) 4 (WL.k hK37 (WC.ret ?_)))
       refine WQ.inRet ?_
       refine WQ.thenRet ?_
       refine WQ.thenRet ?_
       refine WQ.inRet ?_
       refine WQ.inRet ?_
       refine WQ.thenRet ?_
       refine WQ.thenRet ?_
       refine WQ.inRet ?_
       refine WQ.thenRet ?_
       refine WQ.ret1 4 rfl rfl ?_
       exact ⟨by rw [okSt_bad (by rw [stX_len]; omega) hbad], HP.below hH25⟩
     ·
      refine WL.y (.bool false) 34 (x_lss rfl rfl rfl (dF (hi2))) (WL.k hK26 (WC.seq fun K38 hK38 => ?_))
      refine WC.no rfl ?_
      refine WC.exit (WQ.thenExit (WQ.thenExit (WQ.inExit (WQ.inNormal (WQ.then (hK17 _ _ _ (WC.region (WL.y (vI ((k + 1 : Nat) : Int)) 57 (x_ad (((k + 1 : Nat) : Int))) (WL.z (vI ((k + 1 : Nat) : Int)) 21 (WL.nil ?_))))))))))
      have hrk : okR s y (k : Int) ((stX S).getD k []) = true := by rw [hr1]; exact okR_iff.2 ⟨by omega, fun j hj => hokj j (by omega)⟩
      refine WQ.sb [(1, .slice (some ⟨gS, oS, none⟩) S.length cp), (2, vP b2 0), (19, .slice (some ⟨gS, oS, none⟩) S.length cp), (20, vI (S.length : Int)), (21, vI ((k + 1 : Nat) : Int))] ?_
      refine WQ.then (hK12 _ _ _ (by omega) ⟨k + 1, rfl, rfl, by omega, fun j hj => by
              by_cases q9 : j = k
              · subst q9; exact hrk
              · exact hok j (by omega), hH25⟩)
   ·
    refine WL.y (.bool false) 22 (x_lss rfl rfl rfl (dF (hlt))) (WL.k hK15 (WC.seq fun K39 hK39 => ?_))
    refine WC.no rfl ?_
    refine WC.exit (WQ.thenExit (WQ.thenExit (WQ.inExit (WQ.then (hK10 _ _ _ (WC.seq fun K40 hK40 => WC.region (WL.z (.bool true) 4 (WL.k hK40 ?_))))))))
    refine WC.ret ?_
    refine WQ.ret1 4 rfl rfl ?_
    exact ⟨by rw [okSt_iff.2 ⟨hg, by rw [stX_len]; omega, fun j hj => hok j (by rw [stX_len] at hj; omega)⟩], HP.below hH14⟩
 ·
  refine WL.c 22 #[.agg #[vI s, vI y, vI l, vI m]] 10 ?_
  refine (Valid_any s y l m _).mono ?_
  rw [hg]
  rintro e w41 ⟨rfl, hb9⟩
  refine ⟨_, rfl, ?_⟩
  have hH42 := HP.call hH4 hb9
  refine WL.z (.bool true) 11 (WL.z (.bool true) 12 (WL.p 13 (WL.p 14 (WL.p 15 (WL.p 16 (WL.p 17 (WL.z (.bool true) 18 (WL.k hK6 (WC.sb [(0, .agg #[vI s, vI y, vI l, vI m]), (1, .slice p S.length cp), (2, vP b2 0), (4, .bool false), (18, .bool true)] ?_)))))))))
  refine WC.yes rfl ?_
  refine WC.seq fun K43 hK43 => WC.region (WL.z (.bool false) 4 (WL.k hK43 (WC.ret ?_)))
  refine WQ.thenRet ?_
  refine WQ.ret1 4 rfl rfl ?_
  exact ⟨by unfold okSt; rw [hg]; rfl, HP.below hH42⟩
theorem rValidState_any (s y l m : Int) (p : Option Addr) (S : List SlI) (cp : Nat) (w : World) (hS : InS2 w p S) (hn : S.length ≤ 281474976710656) :
  Calls Try.prog 19 #[.agg #[vI s, vI y, vI l, vI m], .slice p S.length cp] w fun e w' => e = .returned (.bool (okSt s y l m (stX S))) ∧ Below w.heap.size w w' := by
 refine calls_of Try.func19 rfl (m := 73) rfl [(0, .agg #[vI s, vI y, vI l, vI m]), (1, .slice p S.length cp)] (Fr_enter [.agg #[vI s, vI y, vI l, vI m], .slice p S.length cp] 73 (Nat.le_of_ble_eq_true rfl)) ?_
 have hH1 : HP Tr w w [] := HP.refl w
 refine WC.seq fun K2 hK2 => WC.region ?_
 refine WL.alloc (c := #[vI s, vI y, vI l, vI m]) (T := 23) hH1 2 rfl (by decide) rfl rfl (fun b2 => vP b2 0) (by kernel_rfl) (fun b2 w3 hw3 => ?_)
 have hH4 : HP Tr w w3 [.cel b2 #[vI s, vI y, vI l, vI m] 23] := hw3.2
 have nb2 := hw3.1
 clear hw3
 refine WL.z (.bool false) 4 (WL.k hK2 (WC.seq fun K5 hK5 => WC.seq fun K6 hK6 => WC.region (WL.y (.agg #[vI s, vI y, vI l, vI m]) 8 (x_loadS (cs := [vI s, vI y, vI l, vI m]) rfl rfl Try.underlying23 rfl sz23 (HP.range hH4 0 rfl rfl)) ?_)))
 rcases Bool.eq_false_or_eq_true (vG s y l m) with hg | hg
 ·
  refine WL.c 23 #[.agg #[vI s, vI y, vI l, vI m]] 9 ?_
  refine (rValid_any s y l m _).mono ?_
  rw [hg]
  rintro e w7 ⟨rfl, hb9⟩
  refine ⟨_, rfl, ?_⟩
  have hH8 := HP.call hH4 hb9
  obtain ⟨⟨hs1, hs2⟩, ⟨hy1, hy2⟩, -, -⟩ := vG_iff.1 hg
  refine WL.z (.bool false) 10 (WL.z (.bool false) 11 (WL.z (.slice p S.length cp) 12 (WL.z (vI (S.length : Int)) 13 (WL.z (vP b2 0) 14 (WL.y (vI s) 15 (x_load rfl rfl Try.underlying3 rfl (HP.cell hH8 0 rfl rfl)) ?_)))))
  by_cases hsl : (S.length : Int) ≠ s
  ·
   refine WL.y (.bool true) 16 (x_neq rfl rfl rfl (dT (hsl))) (WL.z (.bool true) 17 (WL.k hK6 (WC.sb [(0, .agg #[vI s, vI y, vI l, vI m]), (1, .slice p S.length cp), (2, vP b2 0), (4, .bool false), (17, .bool true)] ?_)))
   refine WC.yes rfl ?_
   refine WC.seq fun K9 hK9 => WC.region (WL.z (.bool false) 4 (WL.k hK9 (WC.ret ?_)))
   refine WQ.thenRet ?_
   refine WQ.ret1 4 rfl rfl ?_
   exact ⟨by unfold okSt; rw [hg, stX_len, decide_eq_false (by omega)]; rfl, HP.below hH8⟩
  ·
   refine WL.y (.bool false) 16 (x_neq rfl rfl rfl (dF (hsl))) (WL.z (.bool false) 17 (WL.k hK6 (WC.sb [(0, .agg #[vI s, vI y, vI l, vI m]), (1, .slice p S.length cp), (2, vP b2 0), (4, .bool false), (17, .bool false)] ?_)))
   refine WC.no rfl ?_
   refine WC.skip (WQ.then (hK5 _ _ _ (WC.seq fun K10 hK10 => WC.seq fun K11 hK11 => WC.region (WL.z (vI 0) 5 (WL.k hK11 (WC.block ?_))))))
   refine WC.loop (fun kk0 ll0 ww0 => ∃ (k : Nat), ll0 = [(1, .slice p S.length cp), (2, vP b2 0), (5, vI (k : Int))] ∧ kk0 = S.length - k ∧ (k ≤ S.length) ∧ (∀ j, j < k → okR s y (j : Int) ((stX S).getD j []) = true) ∧ HP Tr w ww0 [.cel b2 #[vI s, vI y, vI l, vI m] 23]) (S.length) [(1, .slice p S.length cp), (2, vP b2 0), (5, vI 0)] ⟨rfl, rfl, rfl, trivial⟩ ⟨0, rfl, rfl, Nat.zero_le _, fun j hj => by omega, hH8⟩ ?_
   rintro kk l w13 ⟨k, rfl, hkk, hk, hok, hH14⟩ K12 hK12
   refine WC.seq fun K15 hK15 => WC.seq fun K16 hK16 => WC.region (WL.z (vI (k : Int)) 18 (WL.z (.slice p S.length cp) 19 (WL.z (vI (S.length : Int)) 20 ?_)))
   by_cases hlt : (k : Int) < (S.length : Int)
   ·
    refine WL.y (.bool true) 21 (x_lss rfl rfl rfl (dT (hlt))) (WL.k hK16 ?_)
    refine WC.yes rfl ?_
    refine WC.skip (WQ.then (hK15 _ _ _ (WC.seq fun K17 hK17 => WC.block (WC.seq fun K18 hK18 => WC.seq fun K19 hK19 => ?_))))
    obtain ⟨r, hr⟩ : ∃ r, S[k]? = some r := ⟨S[k]'(by omega), List.getElem?_eq_getElem _⟩
    obtain ⟨hr1, hr2, hr3, hr4⟩ := stX_at hr
    have hIR := hS.inn r hr4
    obtain ⟨q, xs, c⟩ := r
    have hI : InI w q xs := hIR.row
    have hxc : xs.length ≤ c := hIR.hc
    have hcm : c ≤ maxLen := hIR.hm
    unfold maxLen at hcm
    simp only [] at hr1 hr2
    obtain ⟨gS, oS, hpS, hrowS⟩ := hS.row (by omega)
    subst hpS
    refine WC.still (by kernel_rfl) (by kernel_rfl) ?_
    have hH20 := HP.drew hH14
    refine WS.z (.slice (some ⟨gS, oS, none⟩) S.length cp) 24 (WS.z (vI (k : Int)) 25 (WS.y (vP gS (oS + k)) 26 (x_ix (k) (oS + k) Try.underlying24 sz33) (WS.y (.slice q xs.length c) 27 (x_load rfl rfl Try.underlying33 rfl ((HP.oldRange hH20 trivial (show w.rangeAt gS (oS + k) [slV ⟨q, xs, c⟩] by have q9 := hrowS k (by omega); rw [hr2] at q9; exact q9)) 0 _ rfl)) (WS.z (vI (xs.length : Int)) 28 (WS.z (vP b2 1) 29 (WS.y (vI y) 30 (x_load rfl rfl Try.underlying3 rfl (HP.cell hH20 0 rfl rfl)) ?_))))))
    by_cases hlong : y < (xs.length : Int)
    ·
     refine WS.y (.bool true) 31 (x_gtr rfl rfl rfl (dT (hlong))) (WS.nilQ (WQ.then (hK19 _ _ _ (WC.sb [(1, .slice (some ⟨gS, oS, none⟩) S.length cp), (2, vP b2 0), (5, vI (k : Int)), (21, .bool true), (31, .bool true)] ?_))))
     refine WC.yes rfl ?_
     refine WC.seq fun K21 hK21 => ?_
     have hbad : okR s y (k : Int) ((stX S).getD k []) = false := by rw [hr1]; exact okR_long (by omega)
     refine WC.region (WL.z (.bool false) 4 (WL.k hK21 (WC.ret ?_)))
     refine WQ.thenRet ?_
     refine WQ.inRet ?_
     refine WQ.thenRet ?_
     refine WQ.thenRet ?_
     refine WQ.inRet ?_
     refine WQ.thenRet ?_
     refine WQ.ret1 4 rfl rfl ?_
     exact ⟨by rw [okSt_bad (by rw [stX_len]; omega) hbad], HP.below hH20⟩
    ·
     refine WS.y (.bool false) 31 (x_gtr rfl rfl rfl (dF (hlong))) (WS.nilQ (WQ.then (hK19 _ _ _ (WC.sb [(1, .slice (some ⟨gS, oS, none⟩) S.length cp), (2, vP b2 0), (5, vI (k : Int)), (21, .bool true), (31, .bool false)] ?_))))
     refine WC.no rfl ?_
     refine WC.skip (WQ.then (hK18 _ _ _ (WC.seq fun K22 hK22 => WC.region (WL.z (vI 0) 6 (WL.k hK22 (WC.block ?_))))))
     refine WC.loop (fun kk0 ll0 ww0 => ∃ (i : Nat), ll0 = [(1, .slice (some ⟨gS, oS, none⟩) S.length cp), (2, vP b2 0), (5, vI (k : Int)), (6, vI (i : Int))] ∧ kk0 = xs.length - i ∧ (i ≤ xs.length) ∧ (∀ j, j < i → okX s (k : Int) xs j = true) ∧ HP Tr w ww0 [.cel b2 #[vI s, vI y, vI l, vI m] 23]) (xs.length) [(1, .slice (some ⟨gS, oS, none⟩) S.length cp), (2, vP b2 0), (5, vI (k : Int)), (6, vI 0)] ⟨rfl, rfl, rfl, rfl, trivial⟩ ⟨0, rfl, rfl, Nat.zero_le _, fun j hj => by omega, hH20⟩ ?_
     rintro kk l w24 ⟨i, rfl, hkk, hi, hokj, hH25⟩ K23 hK23
     refine WC.seq fun K26 hK26 => WC.seq fun K27 hK27 => WC.region (WL.z (vI (i : Int)) 32 (WL.z (.slice (some ⟨gS, oS, none⟩) S.length cp) 33 (WL.z (vI (k : Int)) 34 (WL.y (vP gS (oS + k)) 35 (x_ix (k) (oS + k) Try.underlying24 sz33) (WL.y (.slice q xs.length c) 36 (x_load rfl rfl Try.underlying33 rfl ((HP.oldRange hH25 trivial (show w.rangeAt gS (oS + k) [slV ⟨q, xs, c⟩] by have q9 := hrowS k (by omega); rw [hr2] at q9; exact q9)) 0 _ rfl)) (WL.z (vI (xs.length : Int)) 37 ?_))))))
     by_cases hi2 : (i : Int) < (xs.length : Int)
     ·
      refine WL.y (.bool true) 38 (x_lss rfl rfl rfl (dT (hi2))) (WL.k hK27 (WC.sb [(1, .slice (some ⟨gS, oS, none⟩) S.length cp), (2, vP b2 0), (5, vI (k : Int)), (6, vI (i : Int)), (38, .bool true)] ?_))
      refine WC.yes rfl ?_
      refine WC.skip (WQ.then (hK26 _ _ _ (WC.seq fun K28 hK28 => WC.block (WC.seq fun K29 hK29 => ?_))))
      obtain ⟨g, o, rfl, hrow⟩ := hI (by omega)
      refine WC.region (WL.z (.slice (some ⟨gS, oS, none⟩) S.length cp) 41 (WL.z (vI (k : Int)) 42 (WL.y (vP gS (oS + k)) 43 (x_ix (k) (oS + k) Try.underlying24 sz33) (WL.y (.slice (some ⟨g, o, none⟩) xs.length c) 44 (x_load rfl rfl Try.underlying33 rfl ((HP.oldRange hH25 trivial (show w.rangeAt gS (oS + k) [slV ⟨(some ⟨g, o, none⟩), xs, c⟩] by have q9 := hrowS k (by omega); rw [hr2] at q9; exact q9)) 0 _ rfl)) (WL.z (vI (i : Int)) 45 (WL.y (vP g (o + i)) 46 (x_ix (i) (o + i) Try.underlying33 sz3) (WL.y (vI (xs.getD i 0)) 47 (x_load rfl rfl Try.underlying3 rfl ((HP.oldRange hH25 trivial (hrow i (by omega))) 0 _ rfl)) (WL.z (vI (xs.getD i 0)) 7 (WL.k hK29 ?_)))))))))
      refine WC.sb [(1, .slice (some ⟨gS, oS, none⟩) S.length cp), (2, vP b2 0), (5, vI (k : Int)), (6, vI (i : Int)), (7, vI (xs.getD i 0)), (38, .bool true)] (WC.seq fun K30 hK30 => WC.region (WL.z (vI (xs.getD i 0)) 48 ?_))
      by_cases hlo9 : xs.getD i 0 < 0
      ·
       refine WL.y (.bool true) 49 (x_lss rfl rfl rfl (dT (hlo9))) (WL.z (.bool true) 50 (WL.p 51 (WL.p 52 (WL.z (.bool true) 53 (WL.z (.bool true) 54 (WL.p 55 (WL.p 56 (WL.p 57 (WL.p 58 (WL.p 59 (WL.p 60 ?_)))))))))))
       refine WL.z (.bool true) 61 (WL.z (.bool true) 62 (WL.p 63 (WL.p 64 (WL.p 65 (WL.p 66 (WL.p 67 (WL.p 68 (WL.p 69 (WL.p 70 (WL.p 71 (WL.z (.bool true) 72 ?_)))))))))))
       refine WL.k hK30 (WC.sb [(1, .slice (some ⟨gS, oS, none⟩) S.length cp), (2, vP b2 0), (5, vI (k : Int)), (6, vI (i : Int)), (7, vI (xs.getD i 0)), (38, .bool true), (72, .bool true)] ?_)
       refine WC.yes rfl ?_
       refine WC.seq fun K31 hK31 => ?_
       have hbx : okX s (k : Int) xs i = false := by unfold okX; rw [show wn (xs.getD i 0) 0 999 = false from wn_no2 (by omega)]; rfl
       have hbad : okR s y (k : Int) ((stX S).getD k []) = false := by rw [hr1]; exact okR_bad (by omega) hbx
       refine WC.region (WL.z (.bool false) 4 (WL.k hK31 (WC.ret ?_)))
       refine WQ.inRet ?_
       refine WQ.thenRet ?_
       refine WQ.thenRet ?_
       refine WQ.inRet ?_
       refine WQ.inRet ?_
       refine WQ.thenRet ?_
       refine WQ.thenRet ?_
       refine WQ.inRet ?_
       refine WQ.thenRet ?_
       refine WQ.ret1 4 rfl rfl ?_
       exact ⟨by rw [okSt_bad (by rw [stX_len]; omega) hbad], HP.below hH25⟩
      ·
       refine WL.y (.bool false) 49 (x_lss rfl rfl rfl (dF (hlo9))) (WL.z (.bool false) 50 (WL.z (vI (xs.getD i 0)) 51 ?_))
       by_cases hhi9 : (999 : Int) < xs.getD i 0
       ·
        refine WL.y (.bool true) 52 (x_gtr rfl rfl rfl (dT (hhi9))) (WL.z (.bool true) 53 (WL.z (.bool true) 54 (WL.p 55 (WL.p 56 (WL.p 57 (WL.p 58 (WL.p 59 (WL.p 60 (WL.z (.bool true) 61 (WL.z (.bool true) 62 (WL.p 63 ?_)))))))))))
        refine WL.p 64 (WL.p 65 (WL.p 66 (WL.p 67 (WL.p 68 (WL.p 69 (WL.p 70 (WL.p 71 (WL.z (.bool true) 72 (WL.k hK30 ?_)))))))))
        refine WC.sb [(1, .slice (some ⟨gS, oS, none⟩) S.length cp), (2, vP b2 0), (5, vI (k : Int)), (6, vI (i : Int)), (7, vI (xs.getD i 0)), (38, .bool true), (72, .bool true)] ?_
        refine WC.yes rfl ?_
        refine WC.seq fun K32 hK32 => ?_
        have hbx : okX s (k : Int) xs i = false := by unfold okX; rw [show wn (xs.getD i 0) 0 999 = false from wn_no2 (by omega)]; rfl
        have hbad : okR s y (k : Int) ((stX S).getD k []) = false := by rw [hr1]; exact okR_bad (by omega) hbx
        refine WC.region (WL.z (.bool false) 4 (WL.k hK32 (WC.ret ?_)))
        refine WQ.inRet ?_
        refine WQ.thenRet ?_
        refine WQ.thenRet ?_
        refine WQ.inRet ?_
        refine WQ.inRet ?_
        refine WQ.thenRet ?_
        refine WQ.thenRet ?_
        refine WQ.inRet ?_
        refine WQ.thenRet ?_
        refine WQ.ret1 4 rfl rfl ?_
        exact ⟨by rw [okSt_bad (by rw [stX_len]; omega) hbad], HP.below hH25⟩
       ·
        refine WL.y (.bool false) 52 (x_gtr rfl rfl rfl (dF (hhi9))) (WL.z (.bool false) 53 (WL.z (.bool false) 54 (WL.z (vI (xs.getD i 0)) 55 (WL.z (vP b2 0) 56 (WL.y (vI s) 57 (x_load rfl rfl Try.underlying3 rfl (HP.cell hH25 0 rfl rfl)) (WL.y (vI ((xs.getD i 0).tmod s)) 58 (x_rem rfl rfl rfl (by omega) rfl) (WL.z (vI (k : Int)) 59 ?_)))))))
        by_cases h47 : (xs.getD i 0).tmod s ≠ (k : Int)
        ·
         refine WL.y (.bool true) 60 (x_neq rfl rfl rfl (dT (h47))) (WL.z (.bool true) 61 (WL.z (.bool true) 62 (WL.p 63 (WL.p 64 (WL.p 65 (WL.p 66 (WL.p 67 (WL.p 68 (WL.p 69 (WL.p 70 (WL.p 71 ?_)))))))))))
         refine WL.z (.bool true) 72 (WL.k hK30 (WC.sb [(1, .slice (some ⟨gS, oS, none⟩) S.length cp), (2, vP b2 0), (5, vI (k : Int)), (6, vI (i : Int)), (7, vI (xs.getD i 0)), (38, .bool true), (72, .bool true)] ?_))
         refine WC.yes rfl ?_
         refine WC.seq fun K33 hK33 => ?_
         have hbx : okX s (k : Int) xs i = false := by unfold okX; rw [show wn (xs.getD i 0) 0 999 = true from wn_iff.2 ⟨by omega, by omega⟩, decide_eq_false h47]; rfl
         have hbad : okR s y (k : Int) ((stX S).getD k []) = false := by rw [hr1]; exact okR_bad (by omega) hbx
         refine WC.region (WL.z (.bool false) 4 (WL.k hK33 (WC.ret ?_)))
         refine WQ.inRet ?_
         refine WQ.thenRet ?_
         refine WQ.thenRet ?_
         refine WQ.inRet ?_
         refine WQ.inRet ?_
         refine WQ.thenRet ?_
         refine WQ.thenRet ?_
         refine WQ.inRet ?_
         refine WQ.thenRet ?_
         refine WQ.ret1 4 rfl rfl ?_
         exact ⟨by rw [okSt_bad (by rw [stX_len]; omega) hbad], HP.below hH25⟩
        ·
         refine WL.y (.bool false) 60 (x_neq rfl rfl rfl (dF (h47))) (WL.z (.bool false) 61 (WL.z (.bool false) 62 (WL.z (.slice (some ⟨gS, oS, none⟩) S.length cp) 63 (WL.z (vI (k : Int)) 64 (WL.y (vP gS (oS + k)) 65 (x_ix (k) (oS + k) Try.underlying24 sz33) (WL.y (.slice (some ⟨g, o, none⟩) xs.length c) 66 (x_load rfl rfl Try.underlying33 rfl ((HP.oldRange hH25 trivial (show w.rangeAt gS (oS + k) [slV ⟨(some ⟨g, o, none⟩), xs, c⟩] by have q9 := hrowS k (by omega); rw [hr2] at q9; exact q9)) 0 _ rfl)) (WL.z (vI (i : Int)) 67 (WL.y (.slice (some ⟨g, o, none⟩) i c) 68 (x_sliceH (i) rfl rfl rfl Try.underlying33 (by omega) (by omega) sz3) (WL.z (vI (xs.getD i 0)) 69 ?_)))))))))
         refine WL.c 42 #[.slice (some ⟨g, o, none⟩) i c, vI (xs.getD i 0)] 70 ?_
         have q9 := place_any (some ⟨g, o, none⟩) (xs.take i) c _ (take_row (show i ≤ xs.length by omega) fun j hj => HP.oldRange hH25 trivial (hrow j hj)) (by simp; omega) (xs.getD i 0)
         rw [List.length_take_of_le (show i ≤ xs.length by omega)] at q9
         refine q9.mono ?_
         rintro e w34 ⟨rfl, hb9⟩
         refine ⟨_, rfl, ?_⟩
         have hH35 := HP.call hH25 hb9
         by_cases hpl : (0 : Int) ≤ plcV (xs.getD i 0) (xs.take i)
         ·
          refine WL.y (.bool true) 71 (x_geq rfl rfl rfl (dT (hpl))) (WL.z (.bool true) 72 (WL.k hK30 (WC.sb [(1, .slice (some ⟨gS, oS, none⟩) S.length cp), (2, vP b2 0), (5, vI (k : Int)), (6, vI (i : Int)), (7, vI (xs.getD i 0)), (38, .bool true), (72, .bool true)] ?_)))
          refine WC.yes rfl ?_
          refine WC.seq fun K36 hK36 => ?_
          have hbx : okX s (k : Int) xs i = false := by unfold okX; rw [show wn (xs.getD i 0) 0 999 = true from wn_iff.2 ⟨by omega, by omega⟩, decide_eq_true (Classical.not_not.1 h47), show (xs.take i).contains (xs.getD i 0) = true from plcV_ge.1 hpl]; rfl
          have hbad : okR s y (k : Int) ((stX S).getD k []) = false := by rw [hr1]; exact okR_bad (by omega) hbx
          refine WC.region (WL.z (.bool false) 4 (WL.k hK36 (WC.ret ?_)))
          refine WQ.inRet ?_
          refine WQ.thenRet ?_
          refine WQ.thenRet ?_
          refine WQ.inRet ?_
          refine WQ.inRet ?_
          refine WQ.thenRet ?_
          refine WQ.thenRet ?_
          refine WQ.inRet ?_
          refine WQ.thenRet ?_
          refine WQ.ret1 4 rfl rfl ?_
          exact ⟨by rw [okSt_bad (by rw [stX_len]; omega) hbad], HP.below hH35⟩
         ·
          refine WL.y (.bool false) 71 (x_geq rfl rfl rfl (dF (hpl))) (WL.z (.bool false) 72 (WL.k hK30 (WC.sb [(1, .slice (some ⟨gS, oS, none⟩) S.length cp), (2, vP b2 0), (5, vI (k : Int)), (6, vI (i : Int)), (7, vI (xs.getD i 0)), (38, .bool true), (72, .bool false)] ?_)))
          refine WC.no rfl ?_
          refine WC.skip (WQ.inNormal (WQ.then (hK28 _ _ _ ?_)))
          have hokx : okX s (k : Int) xs i = true := by unfold okX; rw [show wn (xs.getD i 0) 0 999 = true from wn_iff.2 ⟨by omega, by omega⟩, decide_eq_true (Classical.not_not.1 h47), show (xs.take i).contains (xs.getD i 0) = false from by cases q : (xs.take i).contains (xs.getD i 0) with | false => rfl | true => exact absurd (plcV_ge.2 q) hpl]; rfl
          refine WC.region (WL.z (vI (i : Int)) 39 (WL.y (vI ((i + 1 : Nat) : Int)) 40 (x_ad (((i + 1 : Nat) : Int))) (WL.z (vI ((i + 1 : Nat) : Int)) 6 (WL.nil (WQ.sb [(1, .slice (some ⟨gS, oS, none⟩) S.length cp), (2, vP b2 0), (5, vI (k : Int)), (6, vI ((i + 1 : Nat) : Int))] ?_)))))
          refine WQ.then (hK23 _ _ _ (by omega) ⟨i + 1, rfl, rfl, by omega, fun j hj => by
                      by_cases q9 : j = i
                      · subst q9; exact hokx
                      · exact hokj j (by omega), hH35⟩)
     ·
      refine WL.y (.bool false) 38 (x_lss rfl rfl rfl (dF (hi2))) (WL.k hK27 (WC.sb [(1, .slice (some ⟨gS, oS, none⟩) S.length cp), (2, vP b2 0), (5, vI (k : Int)), (6, vI (i : Int)), (38, .bool false)] ?_))
      refine WC.no rfl ?_
      refine WC.exit (WQ.thenExit (WQ.thenExit (WQ.inExit (WQ.inNormal (WQ.then (hK17 _ _ _ (WC.region (WL.z (vI (k : Int)) 22 (WL.y (vI ((k + 1 : Nat) : Int)) 23 (x_ad (((k + 1 : Nat) : Int))) (WL.z (vI ((k + 1 : Nat) : Int)) 5 (WL.nil ?_)))))))))))
      have hrk : okR s y (k : Int) ((stX S).getD k []) = true := by rw [hr1]; exact okR_iff.2 ⟨by omega, fun j hj => hokj j (by omega)⟩
      refine WQ.sb [(1, .slice (some ⟨gS, oS, none⟩) S.length cp), (2, vP b2 0), (5, vI ((k + 1 : Nat) : Int))] ?_
      refine WQ.then (hK12 _ _ _ (by omega) ⟨k + 1, rfl, rfl, by omega, fun j hj => by
              by_cases q9 : j = k
              · subst q9; exact hrk
              · exact hok j (by omega), hH25⟩)
   ·
    refine WL.y (.bool false) 21 (x_lss rfl rfl rfl (dF (hlt))) (WL.k hK16 ?_)
    refine WC.no rfl ?_
    refine WC.exit (WQ.thenExit (WQ.thenExit (WQ.inExit (WQ.then (hK10 _ _ _ (WC.seq fun K37 hK37 => WC.region (WL.z (.bool true) 4 (WL.k hK37 ?_))))))))
    refine WC.ret ?_
    refine WQ.ret1 4 rfl rfl ?_
    exact ⟨by rw [okSt_iff.2 ⟨hg, by rw [stX_len]; omega, fun j hj => hok j (by rw [stX_len] at hj; omega)⟩], HP.below hH14⟩
 ·
  refine WL.c 23 #[.agg #[vI s, vI y, vI l, vI m]] 9 ?_
  refine (rValid_any s y l m _).mono ?_
  rw [hg]
  rintro e w38 ⟨rfl, hb9⟩
  refine ⟨_, rfl, ?_⟩
  have hH39 := HP.call hH4 hb9
  refine WL.z (.bool true) 10 (WL.z (.bool true) 11 (WL.p 12 (WL.p 13 (WL.p 14 (WL.p 15 (WL.p 16 (WL.z (.bool true) 17 (WL.k hK6 (WC.sb [(0, .agg #[vI s, vI y, vI l, vI m]), (1, .slice p S.length cp), (2, vP b2 0), (4, .bool false), (17, .bool true)] ?_)))))))))
  refine WC.yes rfl ?_
  refine WC.seq fun K40 hK40 => WC.region (WL.z (.bool false) 4 (WL.k hK40 (WC.ret ?_)))
  refine WQ.thenRet ?_
  refine WQ.ret1 4 rfl rfl ?_
  exact ⟨by unfold okSt; rw [hg]; rfl, HP.below hH39⟩
end Ca
end Go.Proofs.Ytmjnakhpekbenaa
