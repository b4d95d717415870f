/- What the proof of CacheCosts stands on, part 5 of 6. -/
import Derived.BigQuiet
import Derived.BigRegion
import Derived.CallsIn
import Derived.ChangeAlike
import Derived.ChangeArms
import Derived.ChangeKeysEq
import Derived.ChangeSlices
import Derived.Deep.AppendLies
import Derived.Deep.CutRange
import Derived.Deep.DeepCutAuto
import Derived.Deep.Heap
import Derived.Deep.LoopGhost
import Derived.Deep.MidRow
import Derived.Deep.QuietTactic
import Derived.Deep.Slices
import Derived.Great.BuildSlice
import Derived.Great.Walk
import Derived.Ground.Names2Prog
import Derived.Ground.SlgnProg
import Derived.Ground.SlsfProg
import Derived.Handy
import Derived.KernelRfl
import Derived.Laws.AppendOwn
import Derived.Laws.AppendOwnNone
import Derived.Laws.CopyRow
import Derived.Laws.Externs
import Derived.Laws.MakeOwn
import Derived.Laws.Rows
import Derived.Laws.StructEq
import Derived.Lib.AppendZerosOnto
import Derived.Lib.Overlaps
import Derived.Lib.QuietBelow
import Derived.Lib.SliceRun
import Derived.Maps.Own
import Derived.Maps.OwnOps
import Derived.Maps.OwnSet
import Derived.Maps.Views
import Derived.OpenShut
import Derived.Orders
import Derived.OrdersIn
import Derived.RangeFuncFrom
import Derived.RangeFuncLeaves
import Derived.RangeFuncWrites
import Derived.RegionTactic
import Derived.Shelf.SlSortCmp.HeapSortK
import Derived.Shelf.SlSortCmp.InsertionK
import Derived.Shelf.SlSortCmp.MedianK
import Derived.Shelf.SlSortCmp.NoneTotal
import Derived.Shelf.SlSortCmp.PartialInsertionK
import Derived.Shelf.SlSortCmp.PartitionEqualK
import Derived.Shelf.SlSortCmp.PartitionK
import Derived.Shelf.SlSortCmp.PdqK
import Derived.Shelf.SlSortCmp.PivotK
import Derived.Shelf.SlSortCmp.ReverseRangeK
import Derived.Shelf.SlSortCmp.SiftDownK
import Derived.Shelf.Slices.Cells
import Derived.Shelf.Slices.Clone
import Derived.Shelf.Slices.Delete
import Derived.Shelf.Slices.Empties
import Derived.Shelf.Slices.SearchI
import Derived.Shelf.Slices.Turned
import Derived.Shelf.SlicesE.Clone
import Derived.Shelf.SlicesE.Delete
import Derived.Shelf.SlicesQ.Reverse
import Derived.Shelf.Small.Bits
import Derived.Shelf.Small.Wraps
import Derived.Shelf.Strconv.Itoa0
import Derived.Sort.AssemblyPlain
import Derived.Still
import Derived.StillTail
import Derived.TacticsIn
import Derived.Test.YtmjnakhpekbenaaProg
import Derived.WalkKit
import Derived.WalkLawsBesides
import Derived.Test.YtmjnakhpekbenaaCacheCostsD
set_option linter.unusedVariables false
set_option linter.unusedSimpArgs false
namespace Go.Proofs.Ytmjnakhpekbenaa
set_option maxRecDepth 20000
set_option maxHeartbeats 4000000
open Go.RowKit Fw
namespace Ca
def farO (x : Int) : Bool := decide (x = 25) || decide (x = 26)
def farB (c : Nat → Int) (n : Nat) : Bool := (List.range n).any fun i => farO (c i)
theorem farB_no {c : Nat → Int} {n : Nat} (h : ∀ i, i < n → farO (c i) = false) : farB c n = false := by
  unfold farB; rw [List.any_eq_false]; intro i hi; rw [h i (List.mem_range.1 hi)]; exact Bool.false_ne_true
theorem farB_yes {c : Nat → Int} {n i : Nat} (hi : i < n) (h : farO (c i) = true) : farB c n = true := by
  unfold farB; rw [List.any_eq_true]; exact ⟨i, List.mem_range.2 hi, h⟩
def okC (s y l m : Int) (c A B : Nat → Int) (n : Nat) : Bool := vG s y l m && (decide (Ec.chk c A B false n = 0) && !farB c n)
theorem okC_iff {s y l m : Int} {c A B : Nat → Int} {n : Nat} : okC s y l m c A B n = true ↔ vG s y l m = true ∧ Ec.chk c A B false n = 0 ∧ farB c n = false := by simp [okC]
theorem sz4 : (Try.prog.info? 4).map (·.size) = some 1 := by kernel_rfl
theorem sz110 : (Try.prog.info? 110).map (·.size) = some 1 := by kernel_rfl
theorem far1_any (op a b : Int) (w : World) :
  Calls Try.prog 105 #[.agg #[vI op, vI a, vI b]] w fun e w' => e = .returned (.bool (farO op)) ∧ Below w.heap.size w w' := by
 refine calls_of Try.func105 rfl (m := 11) rfl [(0, .agg #[vI op, vI a, vI b])] (Fr_enter [.agg #[vI op, vI a, vI b]] 11 (Nat.le_of_ble_eq_true rfl)) ?_
 have hH1 : HP Tr w w [] := HP.refl w
 refine WC.seq fun K2 hK2 => WC.region ?_
 refine WL.alloc (c := #[vI op, vI a, vI b]) (T := 75) hH1 1 rfl (by decide) rfl rfl (fun b1 => vP b1 0) (by kernel_rfl) (fun b1 w3 hw3 => ?_)
 have hH4 : HP Tr w w3 [.cel b1 #[vI op, vI a, vI b] 75] := hw3.2
 have nb1 := hw3.1
 clear hw3
 refine WL.z (.bool false) 2 (WL.k hK2 (WC.seq fun K5 hK5 => WC.region (WL.z (vP b1 0) 3 (WL.y (vI op) 4 (x_load rfl rfl Try.underlying3 rfl (HP.cell hH4 0 rfl rfl)) ?_))))
 by_cases h5 : op = 25
 ·
  refine WL.y (.bool true) 5 (x_eql rfl rfl rfl (dT (h5))) (WL.z (.bool true) 6 (WL.p 7 (WL.p 8 (WL.p 9 (WL.z (.bool true) 10 (WL.z (.bool true) 2 (WL.k hK5 (WC.sb [(0, .agg #[vI op, vI a, vI b]), (1, vP b1 0), (2, .bool true)] (WC.ret ?_)))))))))
  refine WQ.ret1 2 rfl rfl ?_
  exact ⟨by rw [show farO op = true by unfold farO; simp [h5]], HP.below hH4⟩
 ·
  refine WL.y (.bool false) 5 (x_eql rfl rfl rfl (dF (h5))) (WL.z (.bool false) 6 (WL.z (vP b1 0) 7 (WL.y (vI op) 8 (x_load rfl rfl Try.underlying3 rfl (HP.cell hH4 0 rfl rfl)) ?_)))
  by_cases h9 : op = 26
  ·
   refine WL.y (.bool true) 9 (x_eql rfl rfl rfl (dT (h9))) (WL.z (.bool true) 10 (WL.z (.bool true) 2 (WL.k hK5 (WC.sb [(0, .agg #[vI op, vI a, vI b]), (1, vP b1 0), (2, .bool true)] (WC.ret ?_)))))
   refine WQ.ret1 2 rfl rfl ?_
   exact ⟨by rw [show farO op = true by unfold farO; simp [h5, h9]], HP.below hH4⟩
  ·
   refine WL.y (.bool false) 9 (x_eql rfl rfl rfl (dF (h9))) (WL.z (.bool false) 10 (WL.z (.bool false) 2 (WL.k hK5 (WC.sb [(0, .agg #[vI op, vI a, vI b]), (1, vP b1 0), (2, .bool false)] (WC.ret ?_)))))
   refine WQ.ret1 2 rfl rfl ?_
   exact ⟨by rw [show farO op = false by unfold farO; simp [h5, h9]], HP.below hH4⟩
theorem farI_any (p : Option Addr) (n cap : Nat) (c A B : Nat → Int) (w : World) (hIn : Ec.InC w p n c A B) (hn : n ≤ 400) :
  Calls Try.prog 118 #[.slice p n cap, .func (.func 105) #[] #[]] w fun e w' => ∃ r : Int, e = .returned (.int .i64 r) ∧ (decide (0 ≤ r) = farB c n) ∧ Below w.heap.size w w' := by
 refine calls_of Try.func118 rfl (m := 19) rfl [(0, .slice p n cap), (1, .func (.func 105) #[] #[])] (Fr_enter [.slice p n cap, .func (.func 105) #[] #[]] 19 (Nat.le_of_ble_eq_true rfl)) ?_
 have hH1 : HP Tr w w [] := HP.refl w
 refine WC.seq fun K2 hK2 => WC.region (WL.z (vI 0) 4 (WL.k hK2 (WC.seq fun K3 hK3 => WC.seq fun K4 hK4 => WC.region (WL.z (.slice p n cap) 6 (WL.z (vI (n : Int)) 7 (WL.z (vI 0) 8 ?_))))))
 refine WL.k hK4 (WC.block ?_)
 refine WC.loop (fun kk0 ll0 ww0 => ∃ (i : Nat), ll0 = [(0, .slice p n cap), (1, .func (.func 105) #[] #[]), (7, vI (n : Int)), (8, vI (i : Int))] ∧ kk0 = n - i ∧ (i ≤ n) ∧ (∀ j, j < i → farO (c j) = false) ∧ HP Tr w ww0 []) (n) [(0, .slice p n cap), (1, .func (.func 105) #[] #[]), (7, vI (n : Int)), (8, vI 0)] ⟨rfl, rfl, rfl, rfl, trivial⟩ ⟨0, rfl, rfl, Nat.zero_le _, (fun j hj => by omega), hH1⟩ ?_
 rintro kk l w6 ⟨i, rfl, hkk, hi, hall, hH7⟩ K5 hK5
 refine WC.seq fun K8 hK8 => WC.region ?_
 by_cases hlt : (i : Int) < (n : Int)
 ·
  refine WL.y (.bool true) 9 (x_lss rfl rfl rfl (dT (hlt))) (WL.k hK8 (WC.seq fun K9 hK9 => ?_))
  refine WC.yes rfl ?_
  refine WC.skip (WQ.then (hK9 _ _ _ (WC.seq fun K10 hK10 => WC.block (WC.seq fun K11 hK11 => WC.region (WL.z (vI (i : Int)) 10 (WL.z (vI (i : Int)) 5 (WL.k hK11 ?_)))))))
  refine WC.seq fun K12 hK12 => ?_
  obtain ⟨bb, oo, rfl, hrow⟩ := hIn (by omega)
  refine WC.region (WL.z (.func (.func 105) #[] #[]) 11 (WL.z (.slice (some ⟨bb, oo, none⟩) n cap) 12 (WL.z (vI (i : Int)) 13 (WL.y (vP bb (oo + i * 3)) 14 (x_ix (i) (oo + i * 3) Try.underlying42 sz75) (WL.y (.agg #[vI (c i), vI (A i), vI (B i)]) 15 (x_loadS (cs := [vI (c i), vI (A i), vI (B i)]) rfl rfl Try.underlying75 rfl sz75 (HP.oldRange hH7 trivial (hrow i (by omega)))) ?_)))))
  refine WL.c 105 #[.agg #[vI (c i), vI (A i), vI (B i)]] 16 ?_
  refine (far1_any _ _ _ _).mono ?_
  rintro e w13 ⟨rfl, hb14⟩
  refine ⟨_, rfl, ?_⟩
  have hH15 := HP.call hH7 hb14
  refine WL.k hK12 (WC.sb [(0, .slice (some ⟨bb, oo, none⟩) n cap), (1, .func (.func 105) #[] #[]), (5, vI (i : Int)), (7, vI (n : Int)), (8, vI (i : Int)), (9, .bool true), (16, .bool (farO (c i)))] ?_)
  rcases Bool.eq_false_or_eq_true (farO (c i)) with hA | hA
  ·
   refine WC.yes (congrArg (fun b => some (Value.bool b)) hA) ?_
   refine WC.seq fun K16 hK16 => WC.region (WL.z (vI (i : Int)) 17 (WL.z (vI (i : Int)) 4 (WL.k hK16 (WC.ret ?_))))
   refine WQ.inRet ?_
   refine WQ.thenRet ?_
   refine WQ.thenRet ?_
   refine WQ.inRet ?_
   refine WQ.thenRet ?_
   refine WQ.ret1 4 rfl rfl ?_
   exact ⟨(i : Int), rfl, by rw [farB_yes (show i < n by omega) hA]; simp, HP.below hH15⟩
  ·
   refine WC.no (congrArg (fun b => some (Value.bool b)) hA) ?_
   refine WC.skip (WQ.inNormal (WQ.then (hK10 _ _ _ (WC.region (WL.y (vI ((i + 1 : Nat) : Int)) 18 (x_ad (((i + 1 : Nat) : Int))) (WL.z (vI ((i + 1 : Nat) : Int)) 8 (WL.nil (WQ.sb [(0, .slice (some ⟨bb, oo, none⟩) n cap), (1, .func (.func 105) #[] #[]), (7, vI (n : Int)), (8, vI ((i + 1 : Nat) : Int))] ?_))))))))
   refine WQ.then (hK5 _ _ _ (by omega) ⟨i + 1, rfl, rfl, by omega, (fun j hj => by
        by_cases q : j = i
        · subst q; exact hA
        · exact hall j (by omega)), hH15⟩)
 ·
  refine WL.y (.bool false) 9 (x_lss rfl rfl rfl (dF (hlt))) (WL.k hK8 (WC.seq fun K17 hK17 => ?_))
  refine WC.no rfl ?_
  refine WC.exit (WQ.thenExit (WQ.thenExit (WQ.inExit (WQ.then (hK3 _ _ _ (WC.seq fun K18 hK18 => WC.region (WL.z (vI (-1)) 4 (WL.k hK18 ?_))))))))
  refine WC.ret ?_
  refine WQ.ret1 4 rfl rfl ?_
  exact ⟨-1, rfl, by rw [farB_no (fun j hj => hall j (by omega))]; decide, HP.below hH7⟩
theorem farC_any (p : Option Addr) (n cap : Nat) (c A B : Nat → Int) (w : World) (hIn : Ec.InC w p n c A B) (hn : n ≤ 400) :
    Calls Try.prog 107 #[.slice p n cap, .func (.func 105) #[] #[]] w fun e w' => e = .returned (.bool (farB c n)) ∧ Below w.heap.size w w' := by
  refine calls_of Try.func107 rfl (m := 9) rfl [(0, .slice p n cap), (1, .func (.func 105) #[] #[])] (Fr_enter [.slice p n cap, .func (.func 105) #[] #[]] 9 (Nat.le_of_ble_eq_true rfl)) ?_
  have hH1 : HP Tr w w [] := HP.refl w
  refine WC.seq fun K2 hK2 => WC.region (WL.z (.bool false) 4 (WL.k hK2 (WC.seq fun K3 hK3 => WC.region (WL.z (.slice p n cap) 5 (WL.z (.func (.func 105) #[] #[]) 6 ?_)))))
  refine WL.c 118 #[.slice p n cap, .func (.func 105) #[] #[]] 7 ?_
  refine (farI_any p n cap c A B _ (hIn.below (HP.below hH1)) hn).mono ?_
  rintro e w4 ⟨r, rfl, hr, hb5⟩
  refine ⟨_, rfl, ?_⟩
  have hH6 := HP.call hH1 hb5
  refine WL.y (.bool (farB c n)) 8 (x_geq rfl rfl rfl hr) (WL.z (.bool (farB c n)) 4 (WL.k hK3 (WC.ret ?_)))
  refine WQ.ret1 4 rfl rfl ?_
  exact ⟨rfl, HP.below hH6⟩
theorem Valid_at {s y l m : Int} {r : Bool} (h : vG s y l m = r) (w : World) : Calls Try.prog 22 #[.agg #[vI s, vI y, vI l, vI m]] w fun e w' => e = .returned (.bool r) ∧ Below w.heap.size w w' := h ▸ Valid_any s y l m w
theorem farC_at {c A B : Nat → Int} {n : Nat} {r : Bool} (h : farB c n = r) (p : Option Addr) (cap : Nat) (w : World) (hIn : Ec.InC w p n c A B) (hn : n ≤ 400) : Calls Try.prog 107 #[.slice p n cap, .func (.func 105) #[] #[]] w fun e w' => e = .returned (.bool r) ∧ Below w.heap.size w w' := h ▸ farC_any p n cap c A B w hIn hn
theorem checked_any (s y l m : Int) (p : Option Addr) (n cap : Nat) (c A B : Nat → Int) (w : World) (hIn : Ec.InC w p n c A B) (hn : n ≤ 400) :
  Calls Try.prog 86 #[.agg #[vI s, vI y, vI l, vI m], .slice p n cap] w fun e w' => e = .returned (.bool (okC s y l m c A B n)) ∧ Below w.heap.size w w' := by
 refine calls_of Try.func86 rfl (m := 19) rfl [(0, .agg #[vI s, vI y, vI l, vI m]), (1, .slice p n cap)] (Fr_enter [.agg #[vI s, vI y, vI l, vI m], .slice p n cap] 19 (Nat.le_of_ble_eq_true rfl)) ?_
 have hH1 : HP Tr w w [] := HP.refl w
 refine WC.seq fun K2 hK2 => WC.region ?_
 refine WL.alloc (c := #[vI s, vI y, vI l, vI m]) (T := 23) hH1 2 rfl (by decide) rfl rfl (fun b2 => vP b2 0) (by kernel_rfl) (fun b2 w3 hw3 => ?_)
 have hH4 : HP Tr w w3 [.cel b2 #[vI s, vI y, vI l, vI m] 23] := hw3.2
 have nb2 := hw3.1
 clear hw3
 refine WL.z (.bool false) 4 (WL.k hK2 (WC.seq fun K5 hK5 => WC.region (WL.z (.func (.func 105) #[] #[]) 5 (WL.k hK5 (WC.seq fun K6 hK6 => WC.region ?_)))))
 refine WL.y (.agg #[vI s, vI y, vI l, vI m]) 6 (x_loadS (cs := [vI s, vI y, vI l, vI m]) rfl rfl Try.underlying23 rfl sz23 (HP.range hH4 0 rfl rfl)) ?_
 rcases Bool.eq_false_or_eq_true (vG s y l m) with hg | hg
 ·
  refine WL.c 22 #[.agg #[vI s, vI y, vI l, vI m]] 7 ?_
  refine (Valid_at hg _).mono ?_
  rintro e w7 ⟨rfl, hb8⟩
  refine ⟨_, rfl, ?_⟩
  have hH9 := HP.call hH4 hb8
  refine WL.z (.bool true) 8 (WL.z (.slice p n cap) 9 ?_)
  refine WL.c 106 #[.slice p n cap, .bool false] 10 ?_
  refine (Ec.Check_any p n cap c A B false _ (hIn.below (HP.below hH9)) hn).mono ?_
  rintro e w10 ⟨rfl, hb11⟩
  refine ⟨_, rfl, ?_⟩
  have hH12 := HP.call hH9 hb11
  by_cases hck : (Ec.chk c A B false n) = 0
  ·
   refine WL.y (.bool true) 11 (x_eql rfl rfl rfl (dT (hck))) (WL.z (.bool true) 12 (WL.z (.bool true) 13 (WL.z (.slice p n cap) 14 (WL.z (.func (.func 105) #[] #[]) 15 ?_))))
   rcases Bool.eq_false_or_eq_true (farB c n) with hf | hf
   ·
    refine WL.c 107 #[.slice p n cap, .func (.func 105) #[] #[]] 16 ?_
    refine (farC_at hf p cap _ (hIn.below (HP.below hH12)) hn).mono ?_
    rintro e w13 ⟨rfl, hb14⟩
    refine ⟨_, rfl, ?_⟩
    have hH15 := HP.call hH12 hb14
    refine WL.z (.bool false) 17 (WL.z (.bool false) 18 (WL.z (.bool false) 4 (WL.k hK6 (WC.sb [(0, .agg #[vI s, vI y, vI l, vI m]), (1, .slice p n cap), (2, vP b2 0), (4, .bool false), (5, .func (.func 105) #[] #[])] (WC.ret ?_)))))
    refine WQ.ret1 4 rfl rfl ?_
    exact ⟨by rw [show okC s y l m c A B n = false by unfold okC; simp [hg, hck, hf]], HP.below hH15⟩
   ·
    refine WL.c 107 #[.slice p n cap, .func (.func 105) #[] #[]] 16 ?_
    refine (farC_at hf p cap _ (hIn.below (HP.below hH12)) hn).mono ?_
    rintro e w16 ⟨rfl, hb17⟩
    refine ⟨_, rfl, ?_⟩
    have hH18 := HP.call hH12 hb17
    refine WL.z (.bool true) 17 (WL.z (.bool true) 18 (WL.z (.bool true) 4 (WL.k hK6 (WC.sb [(0, .agg #[vI s, vI y, vI l, vI m]), (1, .slice p n cap), (2, vP b2 0), (4, .bool true), (5, .func (.func 105) #[] #[])] (WC.ret ?_)))))
    refine WQ.ret1 4 rfl rfl ?_
    exact ⟨by rw [show okC s y l m c A B n = true by unfold okC; simp [hg, hck, hf]], HP.below hH18⟩
  ·
   refine WL.y (.bool false) 11 (x_eql rfl rfl rfl (dF (hck))) (WL.z (.bool false) 12 (WL.z (.bool false) 13 (WL.p 14 (WL.p 15 (WL.p 16 (WL.p 17 (WL.z (.bool false) 18 (WL.z (.bool false) 4 (WL.k hK6 ?_)))))))))
   refine WC.sb [(0, .agg #[vI s, vI y, vI l, vI m]), (1, .slice p n cap), (2, vP b2 0), (4, .bool false), (5, .func (.func 105) #[] #[])] (WC.ret ?_)
   refine WQ.ret1 4 rfl rfl ?_
   exact ⟨by rw [show okC s y l m c A B n = false by unfold okC; simp [hg, hck]], HP.below hH12⟩
 ·
  refine WL.c 22 #[.agg #[vI s, vI y, vI l, vI m]] 7 ?_
  refine (Valid_at hg _).mono ?_
  rintro e w19 ⟨rfl, hb20⟩
  refine ⟨_, rfl, ?_⟩
  have hH21 := HP.call hH4 hb20
  refine WL.z (.bool false) 8 (WL.p 9 (WL.p 10 (WL.p 11 (WL.z (.bool false) 12 (WL.z (.bool false) 13 (WL.p 14 (WL.p 15 (WL.p 16 (WL.p 17 (WL.z (.bool false) 18 (WL.z (.bool false) 4 ?_)))))))))))
  refine WL.k hK6 (WC.sb [(0, .agg #[vI s, vI y, vI l, vI m]), (1, .slice p n cap), (2, vP b2 0), (4, .bool false), (5, .func (.func 105) #[] #[])] (WC.ret ?_))
  refine WQ.ret1 4 rfl rfl ?_
  exact ⟨by rw [show okC s y l m c A B n = false by unfold okC; simp [hg]], HP.below hH21⟩
theorem checked_at {s y l m : Int} {c A B : Nat → Int} {n : Nat} {r : Bool} (h : okC s y l m c A B n = r) (p : Option Addr) (cap : Nat) (w : World) (hIn : Ec.InC w p n c A B) (hn : n ≤ 400) : Calls Try.prog 86 #[.agg #[vI s, vI y, vI l, vI m], .slice p n cap] w fun e w' => e = .returned (.bool r) ∧ Below w.heap.size w w' := h ▸ checked_any s y l m p n cap c A B w hIn hn
theorem ne_of {S : Nat → Prop} {w0 w : World} {H : List Ent} (h : HP S w0 w H) (i j : Nat) {e e' : Ent} {b b' : Nat} (hij : i < j) (h1 : H[i]? = some e) (h2 : H[j]? = some e') (h3 : e.blk = some b) (h4 : e'.blk = some b') : b ≠ b' := fun q => by
  obtain ⟨l1, g1⟩ := List.getElem?_eq_some_iff.1 h1
  obtain ⟨l2, g2⟩ := List.getElem?_eq_some_iff.1 h2
  have := List.pairwise_iff_getElem.1 h.apart i j l1 l2 hij
  rw [g1, g2] at this
  exact this b h3 (q ▸ h4)
theorem out1 {b g : Nat} {c : Array Value} {T : TypeId} (h : b ≠ g) : Out [.cel g c T] b := fun e he hb => by
  obtain rfl := List.mem_singleton.1 he
  exact h (Option.some.inj hb).symm
def upB (f : Nat → Bool) (i : Nat) (v : Bool) : Nat → Bool := fun j => if j = i then v else f j
def brow (n : Nat) (f : Nat → Bool) : Array Value := (Array.range n).map fun i => .bool (f i)
theorem size_brow (n : Nat) (f : Nat → Bool) : (brow n f).size = n := by simp [brow]
theorem brow_get {n j : Nat} {f : Nat → Bool} {v : Bool} (hj : j < n) (hv : f j = v) : (brow n f)[j]? = some (.bool v) := by simp [brow, hj, hv]
theorem brow_set (n i : Nat) (f : Nat → Bool) (v : Bool) : (brow n f).setIfInBounds i (.bool v) = brow n (upB f i v) := by
  apply Array.ext
  · simp [brow]
  · intro j h1 h2
    rw [Array.getElem_setIfInBounds (by simpa using h1)]
    by_cases e : i = j
    · subst e; simp [brow, upB]
    · rw [if_neg e]; simp [brow, upB, Ne.symm e]
theorem brow_congr {n : Nat} {f g : Nat → Bool} (h : ∀ i, i < n → f i = g i) : brow n f = brow n g := by
  unfold brow
  apply Array.ext
  · simp
  · intro i h1 h2
    have hi : i < n := by simpa using h1
    simp [h i hi]
theorem infoB : ∃ i, Try.prog.info? 4 = some i ∧ i.zero = some (.bool false) ∧ i.size = 1 ∧ i.bytes = 1 := by
  obtain ⟨i, hi, h⟩ := Option.map_eq_some_iff.1 (show (Try.prog.info? 4).map (fun i => (i.zero, i.size, i.bytes)) = some (some (.bool false), 1, 1) by kernel_rfl)
  simp only [Prod.mk.injEq] at h
  exact ⟨i, hi, h.1, h.2.1, h.2.2⟩
theorem made_brow (n : Nat) : madeCells (Value.bool false).cells (n * 1) = brow n (fun _ => false) := by
  apply Array.ext
  · simp [madeCells, brow]
  · intro i h1 h2
    simp [madeCells, brow, Value.cells, Nat.mod_one]
theorem makeB (n : Nat) (hn : n ≤ 1000) (W : World) : (Instr.makeSlice 39 (.int .i64 (n : Int)) (.int .i64 (n : Int))).run Try.prog W = .ok (.slice (some ⟨W.heap.size, 0, none⟩) n n) (W.alloc (.cells (brow n (fun _ => false)) 4)) := by
  obtain ⟨i0, hi0, hz0, hz1, hz2⟩ := infoB
  have hr := run_make (P := Try.prog) W 39 4 i0 _ Try.underlying39 hi0 hz0 .i64 .i64 (n : Int) (n : Int) (by omega) (by omega) (by rw [hz2]; omega) (by omega)
  rw [hz1, made_brow] at hr
  simpa using hr
theorem out_bool {w : World} {g n : Nat} {f : Nat → Bool} (hB : OwnB w [.cel g (brow n f) 4]) {b o : Nat} {x : Int} (hc : w.cell? ⟨b, o, none⟩ = some (vI x)) : Out [.cel g (brow n f) 4] b := out1 fun e => by
  subst e
  have h2 := hB.1 (.cel b (brow n f) 4) (by simp)
  rw [cell_of_row w b o _ 4 (0, 0) h2] at hc
  have hi : o < n := by
    have := (Array.getElem?_eq_some_iff.1 hc).1
    simpa [brow] using this
  rw [brow_get hi rfl] at hc
  cases hc
def mkF (ah : Nat → List T2) (l : Int) (i : Nat) : Nat → Bool := fun j => decide (j < i) && (ageT (ah j) ((j : Int) / l)).isSome
theorem mkF_0 (ah : Nat → List T2) (l : Int) (j : Nat) : mkF ah l 0 j = false := by simp [mkF]
theorem mkF_step (ah : Nat → List T2) (l : Int) (i j : Nat) : upB (mkF ah l i) i (ageT (ah i) ((i : Int) / l)).isSome j = mkF ah l (i + 1) j := by
  unfold upB mkF
  by_cases e : j = i
  · subst e; rw [if_pos rfl, decide_eq_true (Nat.lt_succ_self j), Bool.true_and]
  · rw [if_neg e]
    by_cases q : j < i
    · rw [decide_eq_true q, decide_eq_true (show j < i + 1 by omega)]
    · rw [decide_eq_false q, decide_eq_false (show ¬ j < i + 1 by omega)]
theorem find2_any (p : Option Addr) (t : List T2) (cp : Nat) (w : World) (hT : InT w p t) (x : Int) (hn : t.length ≤ 281474976710656) (hs : sT t) :
    Calls Try.prog 83 #[.slice p t.length cp, vI x] w fun e w' => ∃ k : Nat, e = .returned (.tuple #[vI (k : Int), .bool (ageT t x).isSome]) ∧ Below w.heap.size w w' :=
  (find_any p t cp w hT x hn).mono fun e w' ⟨k, fb, h1, h2, h3, h4, h5, h6⟩ => ⟨k, by
    rw [h1, h5]
    by_cases q : k < t.length ∧ lnT t k = x
    · rw [decide_eq_true q, ← q.2, age_at hs q.1]; rfl
    · rw [decide_eq_false q, find_none hs h2 h3 h4 q]; rfl, h6⟩
theorem nil_ok {s y l m : Int} {w : World} (hg : vG s y l m = true) : TbOk s y l m w ⟨none, [], 0⟩ := ⟨fun h => absurd h (by simp), VT.nil hg⟩
abbrev pE0 (pb : Nat) (cq : Option Addr) (n cap b6 b4 fj : Nat) : Ent := .cel pb #[.slice cq n cap, .func (.func 87) #[] #[vP b6 0, vP b4 0], .func (.func fj) #[] #[], .func (.func 88) #[] #[], .func (.func 89) #[] #[], .slice none 0 0] 112
theorem out_int0 {w : World} {pb n cap b6 b4 fj : Nat} {cq : Option Addr} (hB : OwnB w [pE0 pb cq n cap b6 b4 fj]) {b o : Nat} {x : Int} (hc : w.cell? ⟨b, o, none⟩ = some (vI x)) : Out [pE0 pb cq n cap b6 b4 fj] b := fun e he hb => by
  obtain rfl := List.mem_singleton.1 he
  cases hb
  have h2 := hB.1 (pE0 pb cq n cap b6 b4 fj) (by simp)
  rw [cell_of_row w pb o _ 112 (0, 0) h2] at hc
  match o, hc with
  | 0, hc => simp at hc
  | 1, hc => simp at hc
  | 2, hc => simp at hc
  | 3, hc => simp at hc
  | 4, hc => simp at hc
  | 5, hc => simp at hc
  | o + 6, hc => simp at hc
def nilT : Nat → TbI := fun _ => ⟨none, [], 0⟩
theorem info88 : ∃ i, Try.prog.info? 88 = some i ∧ i.zero = some (.slice none 0 0) ∧ i.size = 1 ∧ i.bytes = 24 := by
  obtain ⟨i, hi, h⟩ := Option.map_eq_some_iff.1 (show (Try.prog.info? 88).map (fun i => (i.zero, i.size, i.bytes)) = some (some (.slice none 0 0), 1, 24) by kernel_rfl)
  simp only [Prod.mk.injEq] at h
  exact ⟨i, hi, h.1, h.2.1, h.2.2⟩
theorem made_aR (n : Nat) : madeCells (Value.slice none 0 0).cells (n * 1) = aR n nilT := by
  apply Array.ext
  · simp [madeCells, aR]
  · intro i h1 h2
    simp [madeCells, aR, nilT, Value.cells, Nat.mod_one]
theorem makeT (n : Nat) (hn : n ≤ 1000) (W : World) : (Instr.makeSlice 110 (.int .i64 (n : Int)) (.int .i64 (n : Int))).run Try.prog W = .ok (.slice (some ⟨W.heap.size, 0, none⟩) n n) (W.alloc (.cells (aR n nilT) 88)) := by
  obtain ⟨i0, hi0, hz0, hz1, hz2⟩ := info88
  have hr := run_make (P := Try.prog) W 110 88 i0 _ Try.underlying110 hi0 hz0 .i64 .i64 (n : Int) (n : Int) (by omega) (by omega) (by rw [hz2]; omega) (by omega)
  rw [hz1, made_aR] at hr
  simpa using hr
theorem solve0_any (s y l m : Int) (pb : Nat) (cq : Option Addr) (n cap b6 b4 : Nat) (c A B : Nat → Int) (hg0 : vG s y l m = true) (hc : Ec.chk c A B false n = 0) (R : Fl.Tr) (hIs0 : Fl.Is (cdOf c n) R 0 n) (hbr0 : ∀ ga, BrAll (BrP0 s y l m pb cq n cap b6 b4 ga c A B) (BrA0 s y l m pb cq n cap b6 b4 ga c A B) R) (w : World) (hB : OwnB w [pE0 pb cq n cap b6 b4 63]) (hcode : Ec.InC w cq n c A B) (geo : w.rangeAt b4 0 [vI s, vI y, vI l, vI m]) (how : w.cell? ⟨b6, 0, none⟩ = some (.func (.func 59) #[] #[])) (nb : b6 ≠ pb) :
  Calls Try.prog 90 #[vP pb 0, .slice none 0 0] w fun e w' => ∃ ga T' r', e = .returned (.tuple #[vS ga n n, tbV r']) ∧ HP (Out [pE0 pb cq n cap b6 b4 63]) w w' [pE pb cq n cap b6 b4 63 ga, aE ga n T'] ∧ (∀ i, TbOk s y l m w' (T' i)) ∧ (r'.t, tabs T') = Fl.sol (ops0 s y l) (cdOf c n) R [] (fun _ => []) := by
 have hn9 := (Ec.chk_ok hc).1
 refine calls_of Try.func90 rfl (m := 29) rfl [(0, vP pb 0), (1, .slice none 0 0)] (Fr_enter [vP pb 0, .slice none 0 0] 29 (Nat.le_of_ble_eq_true rfl)) ?_
 refine WC.seq fun K1 hK1 => WC.region (WL.z (.slice none 0 0) 4 (WL.z (.slice none 0 0) 5 (WL.k hK1 (WC.seq fun K2 hK2 => WC.region (WL.z (vP pb 0) 7 (WL.z (vP pb 0) 8 (WL.z (vP pb 0) 9 ?_)))))))
 refine WL.z (vP pb 0) 10 (WL.y (.slice cq n cap) 11 (x_load rfl rfl Try.underlying42 rfl (HP.cell (HP.startB hB) 0 rfl rfl)) (WL.z (vI (n : Int)) 12 ?_))
 refine WL.alloc (c := aR n nilT) (T := 88) (HP.startB hB) 13 rfl (by decide) rfl rfl (fun ga => vS ga n n) (x_makeR rfl rfl rfl (makeT n (by omega) _)) (fun ga w9 hw9 => ?_)
 have hga := hw9.1
 have hH3 : HP (Out [pE0 pb cq n cap b6 b4 63]) w w9 [.cel pb #[.slice cq n cap, .func (.func 87) #[] #[vP b6 0, vP b4 0], .func (.func 63) #[] #[], .func (.func 88) #[] #[], .func (.func 89) #[] #[], .slice none 0 0] 112, .cel ga (aR n nilT) 88] := hw9.2
 refine WL.z (vP pb 0) 14 (WL.z (vP pb 5) 15 ?_)
 refine WL.store (H2 := [.cel pb #[.slice cq n cap, .func (.func 87) #[] #[vP b6 0, vP b4 0], .func (.func 63) #[] #[], .func (.func 88) #[] #[], .func (.func 89) #[] #[], vS ga n n] 112, .cel ga (aR n nilT) 88]) 0 hH3 rfl rfl rfl rfl rfl rfl sz110 rfl (Nat.le_of_ble_eq_true rfl) rfl rfl ?_
 intro w4 hH5
 refine WL.k hK2 (WC.sb [(0, vP pb 0), (1, .slice none 0 0), (4, .slice none 0 0), (5, .slice none 0 0)] (WC.seq fun K6 hK6 => WC.region (WL.z (vP pb 0) 16 (WL.z (vP pb 0) 17 (WL.z (vP pb 0) 18 (WL.z (vP pb 0) 19 (WL.y (.slice cq n cap) 20 (x_load rfl rfl Try.underlying42 rfl (HP.cell hH5 0 rfl rfl)) (WL.z (vI (n : Int)) 21 ?_))))))))
 refine WL.z (.slice none 0 0) 22 ?_
 have hI9 : Ec.InC _ cq n c A B := fun h0 => by
   obtain ⟨g9, o9, hq9, hr9⟩ := hcode h0
   exact ⟨g9, o9, hq9, fun i9 h9 => HP.oldRange hH5 (out_int0 hB (hr9 i9 h9 0 _ rfl)) (hr9 i9 h9)⟩
 have hb6l := World.block_lt_of_cell? w _ how
 have hE9 : Env s y l m pb cq n cap b6 b4 59 63 ga c A B _ nilT := ⟨HP.ownF (A := [pE pb cq n cap b6 b4 63 ga, aE ga n nilT]) (B := []) hH5, hI9, HP.oldRange hH5 (out_int0 hB (geo 0 _ rfl)) geo, HP.old hH5 (fun e he hb => by obtain rfl := List.mem_singleton.1 he; cases hb; exact nb rfl) how, nb, by simp only [] at hb6l; omega⟩
 refine WL.c 108 #[vP pb 0, vI 0, vI (n : Int), .slice none 0 0] 23 ?_
 refine (list0_any s y l m pb cq n cap b6 b4 ga c A B hg0 hc R 0 n hIs0 (Nat.le_refl _) (hbr0 ga) _ nilT ⟨none, [], 0⟩ hE9 (nil_ok hg0) (fun _ => nil_ok hg0)).mono ?_
 rintro e w9 ⟨r9, T9, rfl, hb9, hr9, hT9, hX9⟩
 refine ⟨_, rfl, ?_⟩
 have hH7 : HP (Out [pE0 pb cq n cap b6 b4 63]) w _ [.cel pb #[.slice cq n cap, .func (.func 87) #[] #[vP b6 0, vP b4 0], .func (.func 63) #[] #[], .func (.func 88) #[] #[], .func (.func 89) #[] #[], vS ga n n] 112, .cel ga (aR n T9) 88] := HP.exch (A := []) hH5 hb9
 refine WL.z (.slice r9.q r9.t.length r9.c) 6 (WL.k hK6 (WC.sb [(0, vP pb 0), (1, .slice none 0 0), (4, .slice none 0 0), (5, .slice none 0 0), (6, .slice r9.q r9.t.length r9.c)] (WC.seq fun K8 hK8 => WC.region (WL.z (vP pb 0) 24 (WL.z (vP pb 0) 25 (WL.z (vP pb 5) 26 (WL.y (vS ga n n) 27 (x_load rfl rfl Try.underlying110 rfl (HP.cell hH7 0 rfl rfl)) (WL.z (.slice r9.q r9.t.length r9.c) 28 ?_))))))))
 refine WL.z (vS ga n n) 4 (WL.z (.slice r9.q r9.t.length r9.c) 5 (WL.k hK8 (WC.sb [(0, vP pb 0), (1, .slice none 0 0), (4, vS ga n n), (5, .slice r9.q r9.t.length r9.c), (6, .slice r9.q r9.t.length r9.c)] (WC.ret ?_))))
 refine WQ.ret2 4 5 rfl rfl rfl ?_
 exact ⟨ga, T9, r9, rfl, hH7, hT9, hX9⟩
def mk0 (s y l : Int) (c : Nat → Int) (n : Nat) (R : Fl.Tr) (i : Nat) : Bool := (ageT ((Fl.sol (ops0 s y l) (cdOf c n) R [] (fun _ => [])).2 i) ((i : Int) / l)).isSome
def MarkR0 (s y l m : Int) (c A B : Nat → Int) (n : Nat) (R : Fl.Tr) (w : World) (e : Ending) (w' : World) : Prop :=
  (okC s y l m c A B n = false ∧ e = .returned (.tuple #[.slice none 0 0, vI 1]) ∧ Below w.heap.size w w') ∨
  (okC s y l m c A B n = true ∧ ∃ go, e = .returned (.tuple #[vS go n n, vI 0]) ∧ HP Tr w w' [.cel go (brow n (mk0 s y l c n R)) 4])
theorem mkF_end0 {s y l : Int} {c : Nat → Int} {n : Nat} {R : Fl.Tr} {T : Nat → TbI} (h : tabs T = (Fl.sol (ops0 s y l) (cdOf c n) R [] (fun _ => [])).2) {i : Nat} (hi : n ≤ i) : ∀ j, j < n → mkF (tabs T) l i j = mk0 s y l c n R j := fun j hj => by
  unfold mkF mk0; rw [decide_eq_true (show j < i by omega), Bool.true_and, h]
theorem marks0_any (s y l m : Int) (p : Option Addr) (n cap : Nat) (c A B : Nat → Int) (R : Fl.Tr) (hR : okC s y l m c A B n = true → Fl.Is (cdOf c n) R 0 n ∧ ∀ (pb : Nat) (cq : Option Addr) (cap b6 b4 ga : Nat), BrAll (BrP0 s y l m pb cq n cap b6 b4 ga c A B) (BrA0 s y l m pb cq n cap b6 b4 ga c A B) R) (w : World) (hIn : Ec.InC w p n c A B) (hn : n ≤ 400) :
  Calls Try.prog 70 #[.agg #[vI s, vI y, vI l, vI m], .slice p n cap, .func (.func 59) #[] #[], .func (.func 63) #[] #[]] w (MarkR0 s y l m c A B n R w) := by
 refine calls_of Try.func70 rfl (m := 54) rfl [(0, .agg #[vI s, vI y, vI l, vI m]), (1, .slice p n cap), (2, .func (.func 59) #[] #[]), (3, .func (.func 63) #[] #[])] (Fr_enter [.agg #[vI s, vI y, vI l, vI m], .slice p n cap, .func (.func 59) #[] #[], .func (.func 63) #[] #[]] 54 (Nat.le_of_ble_eq_true rfl)) ?_
 have hH1 : HP Tr w w [] := HP.refl w
 refine WC.seq fun K2 hK2 => WC.region ?_
 refine WL.alloc (c := #[vI s, vI y, vI l, vI m]) (T := 23) hH1 4 rfl (by decide) rfl rfl (fun b4 => vP b4 0) (by kernel_rfl) (fun b4 w3 hw3 => ?_)
 have hH4 : HP Tr w w3 [.cel b4 #[vI s, vI y, vI l, vI m] 23] := hw3.2
 have nb4 := hw3.1
 clear hw3
 refine WL.alloc (c := #[.func (.func 59) #[] #[]]) (T := 81) hH4 6 rfl (by decide) rfl rfl (fun b6 => vP b6 0) (by kernel_rfl) (fun b6 w5 hw5 => ?_)
 have hH6 : HP Tr w w5 [.cel b4 #[vI s, vI y, vI l, vI m] 23, .cel b6 #[.func (.func 59) #[] #[]] 81] := hw5.2
 have nb6 := hw5.1
 clear hw5
 refine WL.z (.slice none 0 0) 8 (WL.z (vI 0) 9 (WL.k hK2 (WC.seq fun K7 hK7 => WC.seq fun K8 hK8 => WC.region (WL.y (.agg #[vI s, vI y, vI l, vI m]) 15 (x_loadS (cs := [vI s, vI y, vI l, vI m]) rfl rfl Try.underlying23 rfl sz23 (HP.range hH6 0 rfl rfl)) (WL.z (.slice p n cap) 16 ?_)))))
 rcases Bool.eq_false_or_eq_true (okC s y l m c A B n) with hok | hok
 ·
  obtain ⟨hg0, hc0, hf0⟩ := okC_iff.1 hok
  obtain ⟨hIs0, hbr0⟩ := hR hok
  have hg := vG_iff.1 hg0
  have hn9 := (Ec.chk_ok hc0).1
  refine WL.c 86 #[.agg #[vI s, vI y, vI l, vI m], .slice p n cap] 17 ?_
  refine (checked_at hok p cap _ (hIn.below (HP.below hH6)) hn).mono ?_
  rintro e w9 ⟨rfl, hb10⟩
  refine ⟨_, rfl, ?_⟩
  have hH11 := HP.call hH6 hb10
  refine WL.z (.bool false) 18 (WL.k hK8 ?_)
  refine WC.no rfl ?_
  refine WC.skip (WQ.then (hK7 _ _ _ (WC.seq fun K12 hK12 => WC.region (WL.z (.slice p n cap) 19 (WL.z (.func (.func 87) #[] #[vP b6 0, vP b4 0]) 20 (WL.z (.func (.func 63) #[] #[]) 21 (WL.z (.agg #[.slice p n cap, .func (.func 87) #[] #[vP b6 0, vP b4 0], .func (.func 63) #[] #[], .func (.func 88) #[] #[], .func (.func 89) #[] #[], .slice none 0 0]) 22 ?_)))))))
  refine WL.alloc (c := #[.slice p n cap, .func (.func 87) #[] #[vP b6 0, vP b4 0], .func (.func 63) #[] #[], .func (.func 88) #[] #[], .func (.func 89) #[] #[], .slice none 0 0]) (T := 112) hH11 23 rfl (by decide) rfl rfl (fun b23 => vP b23 0) (by kernel_rfl) (fun b23 w13 hw13 => ?_)
  have hH14 : HP Tr w w13 [.cel b4 #[vI s, vI y, vI l, vI m] 23, .cel b6 #[.func (.func 59) #[] #[]] 81, .cel b23 #[.slice p n cap, .func (.func 87) #[] #[vP b6 0, vP b4 0], .func (.func 63) #[] #[], .func (.func 88) #[] #[], .func (.func 89) #[] #[], .slice none 0 0] 112] := hw13.2
  have nb23 := hw13.1
  clear hw13
  refine WL.z (vP b23 0) 10 (WL.k hK12 (WC.sb [(0, .agg #[vI s, vI y, vI l, vI m]), (1, .slice p n cap), (2, .func (.func 59) #[] #[]), (3, .func (.func 63) #[] #[]), (4, vP b4 0), (6, vP b6 0), (8, .slice none 0 0), (9, vI 0), (10, vP b23 0), (18, .bool false)] (WC.seq fun K15 hK15 => WC.region (WL.z (vP b23 0) 25 ?_))))
  refine WL.c 90 #[vP b23 0, .slice none 0 0] 26 ?_
  refine (solve0_any s y l m b23 p n cap b6 b4 c A B hg0 hc0 R hIs0 (hbr0 b23 p cap b6 b4) _ (HP.ownB (A := [Go.Proofs.Ytmjnakhpekbenaa.Fw.Ent.cel b4 #[vI s, vI y, vI l, vI m] 23, Go.Proofs.Ytmjnakhpekbenaa.Fw.Ent.cel b6 #[.func (.func 59) #[] #[]] 81]) hH14) (hIn.below (HP.below hH14)) (HP.range hH14 0 rfl rfl) (HP.cell hH14 1 rfl rfl) (ne_of hH14 1 2 (by decide) rfl rfl rfl rfl)).mono ?_
  rintro e w9 ⟨ga, T9, r9, rfl, hb9, hT9, hX9⟩
  refine ⟨_, rfl, ?_⟩
  have hsT : tabs T9 = (Fl.sol (ops0 s y l) (cdOf c n) R [] (fun _ => [])).2 := congrArg Prod.snd hX9
  have hH16 : HP Tr w _ [.cel b4 #[vI s, vI y, vI l, vI m] 23, .cel b6 #[.func (.func 59) #[] #[]] 81, .cel b23 #[.slice p n cap, .func (.func 87) #[] #[vP b6 0, vP b4 0], .func (.func 63) #[] #[], .func (.func 88) #[] #[], .func (.func 89) #[] #[], vS ga n n] 112, .cel ga (aR n T9) 88] := HP.exch (A := [Go.Proofs.Ytmjnakhpekbenaa.Fw.Ent.cel b4 #[vI s, vI y, vI l, vI m] 23, Go.Proofs.Ytmjnakhpekbenaa.Fw.Ent.cel b6 #[.func (.func 59) #[] #[]] 81]) hH14 hb9
  refine WL.z (.tuple #[vS ga n n, .slice r9.q r9.t.length r9.c]) 24 (WL.z (vS ga n n) 27 (WL.z (.slice r9.q r9.t.length r9.c) 28 (WL.z (vS ga n n) 11 (WL.z (.slice r9.q r9.t.length r9.c) 12 (WL.k hK15 (WC.sb [(0, .agg #[vI s, vI y, vI l, vI m]), (1, .slice p n cap), (2, .func (.func 59) #[] #[]), (3, .func (.func 63) #[] #[]), (4, vP b4 0), (6, vP b6 0), (8, .slice none 0 0), (9, vI 0), (10, vP b23 0), (11, vS ga n n), (18, .bool false)] (WC.seq fun K17 hK17 => ?_)))))))
  have hInvS := hH16
  refine WC.region (WL.z (.slice p n cap) 29 (WL.z (vI (n : Int)) 30 ?_))
  have hT8 := hT9
  refine WL.alloc (c := brow n (fun _ => false)) (T := 4) (HP.refl (S := Tr) w9) 31 rfl (by decide) rfl rfl (fun go => vS go n n) (x_makeR rfl rfl rfl (makeB n (by omega) _)) (fun go w10 hw9 => ?_)
  have hH18 : HP Tr w9 w10 [.cel go (brow n (fun _ => false)) 4] := hw9.2
  refine WL.z (vS go n n) 13 (WL.k hK17 (WC.seq fun K19 hK19 => WC.seq fun K20 hK20 => ?_))
  have hal9 := HP.below hH18
  have hH21 : HP Tr w _ [.cel b4 #[vI s, vI y, vI l, vI m] 23, .cel b6 #[.func (.func 59) #[] #[]] 81, .cel b23 #[.slice p n cap, .func (.func 87) #[] #[vP b6 0, vP b4 0], .func (.func 63) #[] #[], .func (.func 88) #[] #[], .func (.func 89) #[] #[], vS ga n n] 112, .cel ga (aR n T9) 88, .cel go (brow n (fun _ => false)) 4] := HP.trans hInvS hH18
  refine WC.region (WL.z (.slice p n cap) 32 (WL.z (vI (n : Int)) 33 (WL.z (vI 0) 34 (WL.k hK20 (WC.block ?_)))))
  refine WC.loop (fun kk0 ll0 ww0 => ∃ (i : Nat), ll0 = [(4, vP b4 0), (11, vS ga n n), (13, vS go n n), (33, vI (n : Int)), (34, vI (i : Int))] ∧ kk0 = n - i ∧ (i ≤ n) ∧ (∀ i9, TbOk s y l m ww0 (T9 i9)) ∧ HP Tr w ww0 [.cel b4 #[vI s, vI y, vI l, vI m] 23, .cel b6 #[.func (.func 59) #[] #[]] 81, .cel b23 #[.slice p n cap, .func (.func 87) #[] #[vP b6 0, vP b4 0], .func (.func 63) #[] #[], .func (.func 88) #[] #[], .func (.func 89) #[] #[], vS ga n n] 112, .cel ga (aR n T9) 88, .cel go (brow n (mkF (tabs T9) l i)) 4]) (n) [(4, vP b4 0), (11, vS ga n n), (13, vS go n n), (33, vI (n : Int)), (34, vI 0)] ⟨rfl, rfl, rfl, rfl, rfl, trivial⟩ ⟨0, rfl, rfl, Nat.zero_le _, (fun i9 => (hT8 i9).below hal9), (by rw [show brow n (mkF (tabs T9) l 0) = brow n (fun _ => false) from brow_congr (fun j _ => mkF_0 (tabs T9) l j)]; exact hH21)⟩ ?_
  rintro kk l w23 ⟨i, rfl, hkk, hi, hTn, hH24⟩ K22 hK22
  have hInv := hH24
  have hB9 := HP.ownB (A := [Go.Proofs.Ytmjnakhpekbenaa.Fw.Ent.cel b4 #[vI s, vI y, vI l, vI m] 23, Go.Proofs.Ytmjnakhpekbenaa.Fw.Ent.cel b6 #[.func (.func 59) #[] #[]] 81, Go.Proofs.Ytmjnakhpekbenaa.Fw.Ent.cel b23 #[.slice p n cap, .func (.func 87) #[] #[vP b6 0, vP b4 0], .func (.func 63) #[] #[], .func (.func 88) #[] #[], .func (.func 89) #[] #[], vS ga n n] 112, Go.Proofs.Ytmjnakhpekbenaa.Fw.Ent.cel ga (aR n T9) 88]) hInv
  have hH25 := HP.startB hB9
  refine WC.seq fun K26 hK26 => WC.region ?_
  by_cases hlt : (i : Int) < (n : Int)
  ·
   refine WL.y (.bool true) 35 (x_lss rfl rfl rfl (dT (hlt))) (WL.k hK26 (WC.seq fun K27 hK27 => ?_))
   refine WC.yes rfl ?_
   refine WC.skip (WQ.then (hK27 _ _ _ (WC.seq fun K28 hK28 => WC.block (WC.seq fun K29 hK29 => WC.region (WL.z (vI (i : Int)) 36 (WL.z (vI (i : Int)) 14 (WL.k hK29 ?_)))))))
   have hx9 := line_of hg.2.2.1 (show i ≤ 999 by omega)
   refine WC.confG (γ := Nat × Unit) [(14, vI (i : Int)), (36, vI (i : Int)), (35, .bool true), (4, vP b4 0), (11, vS ga n n), (13, vS go n n), (33, vI (n : Int)), (34, vI (i : Int))] (fun gy => [vS go n n, vI (i : Int), vS ga n n, vI (i : Int), vP ga i, .slice ((T9 i).q) ((T9 i).t.length) ((T9 i).c), vI (i : Int), vP b4 2, vI l, vI ((i : Int) / l), .tuple #[vI (gy.1 : Int), .bool ((ageT (T9 i).t ((i : Int) / l)).isSome)], .tuple #[vI (gy.1 : Int), .bool ((ageT (T9 i).t ((i : Int) / l)).isSome)], vI (gy.1 : Int), .bool ((ageT (T9 i).t ((i : Int) / l)).isSome), vP go i, undef]) (fun gy D wz => HP (Out [Go.Proofs.Ytmjnakhpekbenaa.Fw.Ent.cel go (brow n (mkF (tabs T9) l i)) 4]) w23 wz [(bif D 15 then Ent.cel go (brow n (upB (mkF (tabs T9) l i) i ((ageT (T9 i).t ((i : Int) / l)).isSome))) 4 else Ent.cel go (brow n (mkF (tabs T9) l i)) 4)]) (0, ()) (by kernel_rfl) ⟨rfl, rfl, rfl, rfl, rfl, rfl, rfl, rfl, trivial⟩ (by kernel_rfl) (by kernel_rfl) (by kernel_rfl) (fun _ => rfl) (by kernel_rfl) (HP.drew hH25) ?_ ?_
   ·
    refine AllOk.cons ?o0 (AllOk.cons ?o1 (AllOk.cons ?o2 (AllOk.cons ?o3 (AllOk.cons ?o4 (AllOk.cons ?o5 (AllOk.cons ?o6 (AllOk.cons ?o7 (AllOk.cons ?o8 (AllOk.cons ?o9 (AllOk.cons ?o10 (AllOk.cons ?o11 (AllOk.cons ?o12 (AllOk.cons ?o13 (AllOk.cons ?o14 (AllOk.cons ?o15 (AllOk.nil _))))))))))))))))
    case o0 =>
     intro gy D wz hDi hdep hclo hW
     exact cfv gy wz (by kernel_rfl) hW
    case o1 =>
     intro gy D wz hDi hdep hclo hW
     exact cfv gy wz (by kernel_rfl) hW
    case o2 =>
     intro gy D wz hDi hdep hclo hW
     exact cfv gy wz (by kernel_rfl) hW
    case o3 =>
     intro gy D wz hDi hdep hclo hW
     exact cfv gy wz (by kernel_rfl) hW
    case o4 =>
     intro gy D wz hDi hdep hclo hW
     exact cfv gy wz (x_ix (b := ga) (off := 0) i i Try.underlying110 sz88) hW
    case o5 =>
     intro gy D wz hDi hdep hclo hW
     exact cfv gy wz (x_load rfl rfl Try.underlying88 rfl (HP.old hW (out1 (ne_of hInv 3 4 (by decide) rfl rfl rfl rfl)) (HP.cell hInv 3 rfl (aR_get (by omega))))) hW
    case o6 =>
     intro gy D wz hDi hdep hclo hW
     exact cfv gy wz (by kernel_rfl) hW
    case o7 =>
     intro gy D wz hDi hdep hclo hW
     exact cfv gy wz (by kernel_rfl) hW
    case o8 =>
     intro gy D wz hDi hdep hclo hW
     exact cfv gy wz (x_load rfl rfl Try.underlying3 rfl (HP.old hW (out1 (ne_of hInv 0 4 (by decide) rfl rfl rfl rfl)) (HP.cell (off := 2) hInv 0 rfl rfl))) hW
    case o9 =>
     intro gy D wz hDi hdep hclo hW
     exact cfv gy wz (x_quo rfl rfl rfl (by omega) (tdiv_pos (by omega) (by omega)) (by have := hx9; omega) (by have := hx9; omega)) hW
    case o10 =>
     intro gy D wz hDi hdep hclo hW
     have d15 : D 15 = false := by
      cases h : D 15 with
      | false => rfl
      | true => exact absurd (hclo 15 _ rfl h ⟨10, .chain⟩ (by simp) rfl) (by rw [hDi]; exact Bool.false_ne_true)
     have d11 : D 11 = false := by
      cases h : D 11 with
      | false => rfl
      | true => exact absurd (hclo 11 _ rfl h ⟨10, .data⟩ (by simp) rfl) (by rw [hDi]; exact Bool.false_ne_true)
     have d12 : D 12 = false := by
      cases h : D 12 with
      | false => rfl
      | true => exact absurd (hclo 12 _ rfl h ⟨11, .data⟩ (by simp) rfl) (by rw [d11]; exact Bool.false_ne_true)
     have hW2 := hW
     try simp only [d15, hDi, cond_true, cond_false, List.append_nil, List.nil_append, List.cons_append] at hW2
     refine .inl ⟨rfl, rfl, .inr (.inr ⟨83, #[.slice ((T9 i).q) ((T9 i).t.length) ((T9 i).c), vI ((i : Int) / l)], by kernel_rfl, (find2_any (T9 i).q (T9 i).t (T9 i).c _ (keepT (hTn i) (fun b o x hc => out_bool hB9 hc) hW2).inn ((i : Int) / l) (by have := (hTn i).ok.len; omega) (hTn i).ok.so).mono ?_⟩)⟩
     rintro e w3 ⟨k9, rfl, hb9⟩
     have hA := HP.call hW2 hb9
     refine ⟨⟨k9, ()⟩, fun j hj => ?_, rfl, ?_⟩
     ·
      match j, hj with
      | 0, hj => rfl
      | 1, hj => rfl
      | 2, hj => rfl
      | 3, hj => rfl
      | 4, hj => rfl
      | 5, hj => rfl
      | 6, hj => rfl
      | 7, hj => rfl
      | 8, hj => rfl
      | 9, hj => rfl
      | 10, hj => rw [hDi] at hj; cases hj
      | 11, hj => exact absurd hj (by rw [d11]; exact Bool.false_ne_true)
      | 12, hj => exact absurd hj (by rw [d12]; exact Bool.false_ne_true)
      | 13, hj => rfl
      | 14, hj => rfl
      | 15, hj => rfl
      | j + 16, _ => rfl
     ·
      show HP (Out [Go.Proofs.Ytmjnakhpekbenaa.Fw.Ent.cel go (brow n (mkF (tabs T9) l i)) 4]) w23 w3 [(bif D 15 then Ent.cel go (brow n (upB (mkF (tabs T9) l i) i ((ageT (T9 i).t ((i : Int) / l)).isSome))) 4 else Ent.cel go (brow n (mkF (tabs T9) l i)) 4)]
      try simp only [d15, cond_true, cond_false, List.append_nil, List.nil_append, List.cons_append]
      exact hA
    case o11 =>
     intro gy D wz hDi hdep hclo hW
     exact cfv gy wz (by kernel_rfl) hW
    case o12 =>
     intro gy D wz hDi hdep hclo hW
     exact cfv gy wz (by kernel_rfl) hW
    case o13 =>
     intro gy D wz hDi hdep hclo hW
     exact cfv gy wz (by kernel_rfl) hW
    case o14 =>
     intro gy D wz hDi hdep hclo hW
     exact cfv gy wz (x_ix (i) (i) Try.underlying39 sz4) hW
    case o15 =>
     intro gy D wz hDi hdep hclo hW
     have hW9 := hW
     simp only [hDi, cond_false] at hW9
     have h4 := HP.set (off := i) (v := .bool ((ageT (T9 i).t ((i : Int) / l)).isSome)) hW9 0 rfl
     rw [brow_set] at h4
     exact .inl ⟨rfl, rfl, .inr (.inl ⟨_, x_store rfl rfl rfl sz4 rfl (HP.cell hW9 0 rfl (brow_get (by omega) rfl)) (HP.free hW9 0 rfl), rfl, h4⟩)⟩
   rintro ⟨k9, gu⟩ D w30 hall hH31
   simp only [hall 15 (by kernel_rfl), cond_true, List.append_nil, List.nil_append, List.cons_append] at hH31
   clear hall
   refine WQ.sb [(4, vP b4 0), (11, vS ga n n), (13, vS go n n), (14, vI (i : Int)), (33, vI (n : Int)), (34, vI (i : Int)), (35, .bool true)] (WQ.inNormal (WQ.then (hK28 _ _ _ (WC.region (WL.y (vI ((i + 1 : Nat) : Int)) 52 (x_ad (((i + 1 : Nat) : Int))) (WL.z (vI ((i + 1 : Nat) : Int)) 34 (WL.nil ?_)))))))
   have hnb : brow n (upB (mkF (tabs T9) l i) i (ageT (T9 i).t ((i : Int) / l)).isSome) = brow n (mkF (tabs T9) l (i + 1)) := brow_congr (fun j hj => mkF_step (tabs T9) l i j)
   have hF9 := hH31
   rw [hnb] at hF9
   refine WQ.sb [(4, vP b4 0), (11, vS ga n n), (13, vS go n n), (33, vI (n : Int)), (34, vI ((i + 1 : Nat) : Int))] ?_
   refine WQ.then (hK22 _ _ _ (by omega) ⟨i + 1, rfl, rfl, by omega, (fun i9 => keepT (hTn i9) (fun b o x hc => out_bool hB9 hc) hF9), (HP.exch (A := [Go.Proofs.Ytmjnakhpekbenaa.Fw.Ent.cel b4 #[vI s, vI y, vI l, vI m] 23, Go.Proofs.Ytmjnakhpekbenaa.Fw.Ent.cel b6 #[.func (.func 59) #[] #[]] 81, Go.Proofs.Ytmjnakhpekbenaa.Fw.Ent.cel b23 #[.slice p n cap, .func (.func 87) #[] #[vP b6 0, vP b4 0], .func (.func 63) #[] #[], .func (.func 88) #[] #[], .func (.func 89) #[] #[], vS ga n n] 112, Go.Proofs.Ytmjnakhpekbenaa.Fw.Ent.cel ga (aR n T9) 88]) hInv hF9)⟩)
  ·
   refine WL.y (.bool false) 35 (x_lss rfl rfl rfl (dF (hlt))) (WL.k hK26 (WC.seq fun K32 hK32 => ?_))
   refine WC.no rfl ?_
   refine WC.exit (WQ.thenExit (WQ.thenExit (WQ.inExit (WQ.then (hK19 _ _ _ (WC.seq fun K33 hK33 => WC.region (WL.z (vS go n n) 53 (WL.z (vS go n n) 8 (WL.z (vI 0) 9 (WL.nil ?_))))))))))
   refine WQ.then (hK33 _ _ _ (WC.ret ?_))
   refine WQ.ret2 8 9 rfl rfl rfl ?_
   exact .inr ⟨hok, go, rfl, by rw [brow_congr (mkF_end0 hsT (by omega))] at hInv; exact HP.drop (HP.drop (HP.drop (HP.drop hInv 3) 2) 1) 0⟩
 ·
  refine WL.c 86 #[.agg #[vI s, vI y, vI l, vI m], .slice p n cap] 17 ?_
  refine (checked_at hok p cap _ (hIn.below (HP.below hH6)) hn).mono ?_
  rintro e w34 ⟨rfl, hb35⟩
  refine ⟨_, rfl, ?_⟩
  have hH36 := HP.call hH6 hb35
  refine WL.z (.bool true) 18 (WL.k hK8 ?_)
  refine WC.yes rfl ?_
  refine WC.seq fun K37 hK37 => WC.region (WL.z (.slice none 0 0) 8 (WL.z (vI 1) 9 (WL.k hK37 (WC.ret ?_))))
  refine WQ.thenRet ?_
  refine WQ.ret2 8 9 rfl rfl rfl ?_
  exact .inl ⟨hok, rfl, HP.below hH36⟩
end Ca
end Go.Proofs.Ytmjnakhpekbenaa
namespace Go.Proofs.Ytmjnakhpekbenaa
set_option maxRecDepth 20000
set_option maxHeartbeats 4000000
open Go.RowKit Fw
namespace Ca
theorem Must_any (s y l m : Int) (p : Option Addr) (n cap : Nat) (c A B : Nat → Int) (R : Fl.Tr) (hR : okC s y l m c A B n = true → Fl.Is (cdOf c n) R 0 n ∧ ∀ (pb : Nat) (cq : Option Addr) (cap b6 b4 ga : Nat), BrAll (BrP0 s y l m pb cq n cap b6 b4 ga c A B) (BrA0 s y l m pb cq n cap b6 b4 ga c A B) R) (w : World) (hIn : Ec.InC w p n c A B) (hn : n ≤ 400) :
  Calls Try.prog 46 #[.agg #[vI s, vI y, vI l, vI m], .slice p n cap] w (MarkR0 s y l m c A B n R w) := by
 refine calls_of Try.func46 rfl (m := 11) rfl [(0, .agg #[vI s, vI y, vI l, vI m]), (1, .slice p n cap)] (Fr_enter [.agg #[vI s, vI y, vI l, vI m], .slice p n cap] 11 (Nat.le_of_ble_eq_true rfl)) ?_
 have hH1 : HP Tr w w [] := HP.refl w
 refine WC.seq fun K2 hK2 => WC.region ?_
 refine WL.alloc (c := #[vI s, vI y, vI l, vI m]) (T := 23) hH1 2 rfl (by decide) rfl rfl (fun b2 => vP b2 0) (by kernel_rfl) (fun b2 w3 hw3 => ?_)
 have hH4 : HP Tr w w3 [.cel b2 #[vI s, vI y, vI l, vI m] 23] := hw3.2
 have nb2 := hw3.1
 clear hw3
 refine WL.z (.slice none 0 0) 4 (WL.z (vI 0) 5 (WL.k hK2 (WC.seq fun K5 hK5 => WC.region (WL.y (.agg #[vI s, vI y, vI l, vI m]) 6 (x_loadS (cs := [vI s, vI y, vI l, vI m]) rfl rfl Try.underlying23 rfl sz23 (HP.range hH4 0 rfl rfl)) (WL.z (.slice p n cap) 7 ?_)))))
 refine WL.c 70 #[.agg #[vI s, vI y, vI l, vI m], .slice p n cap, .func (.func 59) #[] #[], .func (.func 63) #[] #[]] 8 ?_
 refine (marks0_any s y l m p n cap c A B R hR _ (hIn.below (HP.below hH4)) hn).mono ?_
 rintro e w4 (⟨hno, rfl, hb⟩ | ⟨hyes, go, rfl, hb⟩)
 ·
  refine ⟨_, rfl, ?_⟩
  have hH6 := HP.call hH4 hb
  refine WL.z (.slice none 0 0) 9 (WL.z (vI 1) 10 (WL.z (.slice none 0 0) 4 (WL.z (vI 1) 5 (WL.k hK5 (WC.sb [(0, .agg #[vI s, vI y, vI l, vI m]), (1, .slice p n cap), (2, vP b2 0), (4, .slice none 0 0), (5, vI 1)] (WC.ret ?_))))))
  refine WQ.ret2 4 5 rfl rfl rfl ?_
  exact .inl ⟨hno, rfl, HP.below hH6⟩
 ·
  refine ⟨_, rfl, ?_⟩
  have hH7 : HP Tr w _ [.cel b2 #[vI s, vI y, vI l, vI m] 23, .cel go (brow n (mk0 s y l c n R)) 4] := HP.trans hH4 hb
  refine WL.z (vS go n n) 9 (WL.z (vI 0) 10 (WL.z (vS go n n) 4 (WL.z (vI 0) 5 (WL.k hK5 (WC.sb [(0, .agg #[vI s, vI y, vI l, vI m]), (1, .slice p n cap), (2, vP b2 0), (4, vS go n n), (5, vI 0)] (WC.ret ?_))))))
  refine WQ.ret2 4 5 rfl rfl rfl ?_
  exact .inr ⟨hyes, go, rfl, HP.drop hH7 0⟩
def c0 : Nat → Int := fun _ => 0
def R5 : Fl.Tr := .one 0 (.one 1 (.one 2 (.one 3 (.one 4 .nil))))
theorem ok5 : okC 1 2 4 1 c0 c0 c0 5 = true := by kernel_rfl
theorem mk5 : brow 5 (mk0 1 2 4 c0 5 R5) = #[.bool false, .bool true, .bool true, .bool true, .bool false] := by kernel_rfl
theorem is5 : Fl.Is (cdOf c0 5) R5 0 5 := ⟨rfl, fun h => absurd (show (29 : Int) ≤ 0 from h.1) (by decide), rfl, fun h => absurd (show (29 : Int) ≤ 0 from h.1) (by decide), rfl, fun h => absurd (show (29 : Int) ≤ 0 from h.1) (by decide), rfl, fun h => absurd (show (29 : Int) ≤ 0 from h.1) (by decide), rfl, fun h => absurd (show (29 : Int) ≤ 0 from h.1) (by decide), rfl⟩
theorem must5_any (gc : Nat) (w : World) (hIn : Ec.InC w (some ⟨gc, 0, none⟩) 5 c0 c0 c0) :
    Calls Try.prog 46 #[.agg #[vI 1, vI 2, vI 4, vI 1], vS gc 5 5] w fun e w' => ∃ go, e = .returned (.tuple #[vS go 5 5, vI 0]) ∧ HP Tr w w' [.cel go #[.bool false, .bool true, .bool true, .bool true, .bool false] 4] :=
  (Must_any 1 2 4 1 (some ⟨gc, 0, none⟩) 5 5 c0 c0 c0 R5 (fun _ => ⟨is5, fun _ _ _ _ _ _ => trivial⟩) w hIn (by decide)).mono fun e w' h => by
    rcases h with ⟨h, _⟩ | ⟨_, go, h1, h2⟩
    · rw [ok5] at h; cases h
    · exact ⟨go, h1, by rw [mk5] at h2; exact h2⟩
theorem touch5_any (q : Option Addr) (cp : Nat) (b10 : Nat) (w : World) (hS : InS2 w q [⟨some ⟨b10, 0, none⟩, [], 0⟩]) :
    Calls Try.prog 12 #[.agg #[vI 1, vI 2, vI 4, vI 1], .slice q 1 cp, vI 1] w fun e w' => ∃ pv cp' r, e = .returned (.tuple #[.slice pv 1 cp', .bool false, vI 0]) ∧ r.xs = [0] ∧ InS2 w' pv [r] ∧ Below w.heap.size w w' :=
  (Touch_any 1 2 4 1 1 q [⟨some ⟨b10, 0, none⟩, [], 0⟩] cp w hS (by simp)).mono fun e w' h => by
    rcases h with ⟨h, _⟩ | ⟨_, pv, cp', S', h1, h2, h3, h4⟩
    · have e0 : stX [⟨some ⟨b10, 0, none⟩, [], 0⟩] = [[]] := rfl
      rw [e0] at h; exact absurd h (by decide +kernel)
    · have e1 : stp 1 2 4 1 (stX [⟨some ⟨b10, 0, none⟩, [], 0⟩]) = [[0]] := by kernel_rfl
      have e2 : hitN 1 4 1 (stX [⟨some ⟨b10, 0, none⟩, [], 0⟩]) = 0 := by kernel_rfl
      rw [e1] at h2
      rw [e2] at h1
      match S', h2, h1, h3 with
      | [], h2, _, _ => cases h2
      | [r], h2, h1, h3 => exact ⟨pv, cp', r, h1, by simpa [stX] using h2, h3, h4⟩
      | r :: r2 :: S', h2, _, _ => simp [stX] at h2
theorem info75 : ∃ i, Try.prog.info? 75 = some i ∧ i.zero = some (.agg #[.int .i64 0, .int .i64 0, .int .i64 0]) ∧ i.size = 3 ∧ i.bytes = 24 := Ec.infoR'
theorem make5 (W : World) : (Instr.makeSlice 42 (.int .i64 5) (.int .i64 5)).run Try.prog W = .ok (.slice (some ⟨W.heap.size, 0, none⟩) 5 5) (W.alloc (.cells (madeCells #[.int .i64 0, .int .i64 0, .int .i64 0] (5 * 3)) 75)) := by
  obtain ⟨i0, hi0, hz0, hz1, hz2⟩ := info75
  have hr := run_make (P := Try.prog) W 42 75 i0 _ Try.underlying42 hi0 hz0 .i64 .i64 5 5 (by omega) (by omega) (by rw [hz2]; omega) (by omega)
  rw [hz1] at hr
  exact hr
theorem made15 {k : Nat} (hk : k < 15) : (madeCells #[Value.int .i64 0, .int .i64 0, .int .i64 0] (5 * 3))[k]? = some (Value.int .i64 0) := by
  have h : k % 3 = 0 ∨ k % 3 = 1 ∨ k % 3 = 2 := by omega
  unfold madeCells
  rcases h with h | h | h <;> simp [hk, h]
theorem in5 {w : World} {g : Nat} (h : Ent.holds w (.cel g (madeCells #[.int .i64 0, .int .i64 0, .int .i64 0] (5 * 3)) 75)) : Ec.InC w (some ⟨g, 0, none⟩) 5 c0 c0 c0 := fun _ => ⟨g, 0, rfl, fun i hi j v hv => by
  have h2 : w.heap[g]? = some (.cells _ 75 (0, 0)) := h
  rw [cell_of_row w g _ _ 75 (0, 0) h2]
  have hv2 : v = .int .i64 0 ∧ j < 3 := by
    match j, hv with
    | 0, hv => simp [c0] at hv; exact ⟨hv.symm, by omega⟩
    | 1, hv => simp [c0] at hv; exact ⟨hv.symm, by omega⟩
    | 2, hv => simp [c0] at hv; exact ⟨hv.symm, by omega⟩
    | j + 3, hv => simp at hv
  obtain ⟨rfl, hj⟩ := hv2
  have hlt : 0 + i * 3 + j < 15 := by omega
  generalize 0 + i * 3 + j = k at hlt
  exact made15 hlt⟩
theorem sane_any (w : World) :
  Calls Try.prog 16 #[] w fun e w' => e = .returned (.bool true) ∧ Below w.heap.size w w' := by
 refine calls_of Try.func16 rfl (m := 74) rfl [] (Fr_enter [] 74 (Nat.le_of_ble_eq_true rfl)) ?_
 have hH1 : HP Tr w w [] := HP.refl w
 refine WC.seq fun K2 hK2 => WC.region (WL.z (.bool false) 0 (WL.k hK2 (WC.seq fun K3 hK3 => WC.region (WL.z (.agg #[vI 1, vI 2, vI 4, vI 1]) 7 ?_))))
 refine WL.alloc (c := #[vI 0, vI 0, vI 0, vI 0]) (T := 23) hH1 1 rfl (by decide) rfl rfl (fun b1 => vP b1 0) (by kernel_rfl) (fun b1 w4 hw4 => ?_)
 have hH5 : HP Tr w w4 [.cel b1 #[vI 0, vI 0, vI 0, vI 0] 23] := hw4.2
 have nb1 := hw4.1
 clear hw4
 refine WL.storeS (H2 := [.cel b1 #[vI 1, vI 2, vI 4, vI 1] 23]) 0 hH5 rfl rfl rfl rfl rfl rfl sz23 rfl (Nat.le_of_ble_eq_true rfl) rfl rfl ?_
 intro w6 hH7
 refine WL.k hK3 (WC.seq fun K8 hK8 => WC.region (WL.y (.agg #[vI 1, vI 2, vI 4, vI 1]) 9 (x_loadS (cs := [vI 1, vI 2, vI 4, vI 1]) rfl rfl Try.underlying23 rfl sz23 (HP.range hH7 0 rfl rfl)) ?_))
 refine WL.alloc (c := #[]) (T := 3) hH7 10 rfl (by decide) rfl rfl (fun b10 => vS b10 0 0) (by kernel_rfl) (fun b10 w9 hw9 => ?_)
 have hH10 : HP Tr w w9 [.cel b1 #[vI 1, vI 2, vI 4, vI 1] 23, .cel b10 #[] 3] := hw9.2
 have nb10 := hw9.1
 clear hw9
 refine WL.alloc (c := #[vS b10 0 0]) (T := 33) hH10 11 rfl (by decide) rfl rfl (fun b11 => vS b11 1 1) (by kernel_rfl) (fun b11 w11 hw11 => ?_)
 have hH12 : HP Tr w w11 [.cel b1 #[vI 1, vI 2, vI 4, vI 1] 23, .cel b10 #[] 3, .cel b11 #[vS b10 0 0] 33] := hw11.2
 have nb11 := hw11.1
 clear hw11
 have hS9 : InS2 _ (some ⟨b11, 0, none⟩) [⟨some ⟨b10, 0, none⟩, [], 0⟩] := ⟨fun _ => ⟨b11, 0, rfl, fun i hi j v hv => by
    have hi : i < 1 := hi
    obtain rfl : i = 0 := by omega
    match j, hv with
    | 0, hv => cases hv; exact HP.cell hH12 2 rfl rfl
    | j + 1, hv => simp at hv⟩, fun r hr => by obtain rfl := List.mem_singleton.1 hr; exact ⟨fun h => absurd h (by simp), Nat.le_refl _, Nat.zero_le _, fun x hx => by cases hx⟩⟩
 refine WL.c 12 #[.agg #[vI 1, vI 2, vI 4, vI 1], vS b11 1 1, vI 1] 12 ?_
 refine (touch5_any (some ⟨b11, 0, none⟩) 1 b10 _ hS9).mono ?_
 rintro e w13 ⟨pvt, cpt, rt, rfl, hrx, hIt, hb14⟩
 refine ⟨_, rfl, ?_⟩
 have hH15 := HP.call hH12 hb14
 refine WL.z (.tuple #[.slice pvt 1 cpt, .bool false, vI 0]) 8 (WL.z (.slice pvt 1 cpt) 13 (WL.z (.bool false) 14 (WL.z (vI 0) 15 (WL.z (.slice pvt 1 cpt) 2 (WL.z (.bool false) 3 (WL.z (vI 0) 4 (WL.k hK8 (WC.sb [(0, .bool false), (1, vP b1 0), (2, .slice pvt 1 cpt), (3, .bool false), (4, vI 0)] (WC.seq fun K16 hK16 => ?_)))))))))
 have hInv := hH15
 have hb1r : ∀ i9, i9 < 1 → World.rangeAt w13 b1 i9 [vI 1, vI 2, vI 4, vI 1] := fun i9 h9 => match i9, h9 with | 0, _ => HP.range hInv 0 rfl rfl | n + 1, h9 => absurd h9 (by omega)
 have hH17 : HP Tr w13 w13 [] := HP.refl w13
 refine WC.confG (γ := Nat × Nat × Unit) [(0, .bool false), (1, vP b1 0), (2, .slice pvt 1 cpt), (3, .bool false), (4, vI 0)] (fun gy => [.agg #[vI 1, vI 2, vI 4, vI 1], vS gy.1 5 5, .tuple #[vS gy.2.1 5 5, vI 0], .tuple #[vS gy.2.1 5 5, vI 0], vS gy.2.1 5 5, vI 0, vS gy.2.1 5 5, vI 0]) (fun gy D wz => HP Tr w13 wz ([] ++ ((bif D 1 then [Ent.cel gy.1 (madeCells #[.int .i64 0, .int .i64 0, .int .i64 0] (5 * 3)) 75] else []) ++ ((bif D 2 then [Ent.cel gy.2.1 #[.bool false, .bool true, .bool true, .bool true, .bool false] 4] else []) ++ [])))) (0, 0, ()) (by kernel_rfl) ⟨rfl, rfl, rfl, rfl, rfl, trivial⟩ (by kernel_rfl) (by kernel_rfl) (by kernel_rfl) (fun _ => rfl) (by kernel_rfl) (HP.drew hH17) ?_ ?_
 ·
  refine AllOk.cons ?o0 (AllOk.cons ?o1 (AllOk.cons ?o2 (AllOk.cons ?o3 (AllOk.cons ?o4 (AllOk.cons ?o5 (AllOk.cons ?o6 (AllOk.cons ?o7 (AllOk.nil _))))))))
  case o0 =>
   intro gy D wz hDi hdep hclo hW
   exact cfv gy wz (x_loadS (cs := [vI 1, vI 2, vI 4, vI 1]) rfl rfl Try.underlying23 rfl sz23 (HP.oldRange hW trivial (hb1r 0 (by omega)))) hW
  case o1 =>
   intro gy D wz hDi hdep hclo hW
   have d2 : D 2 = false := by
    cases h : D 2 with
    | false => rfl
    | true => exact absurd (hclo 2 _ rfl h ⟨1, .data⟩ (by simp) rfl) (by rw [hDi]; exact Bool.false_ne_true)
   have hW2 := hW
   try simp only [d2, hDi, cond_true, cond_false, List.append_nil, List.nil_append, List.cons_append] at hW2
   refine cf_alloc (c := (madeCells #[.int .i64 0, .int .i64 0, .int .i64 0] (5 * 3))) (T := 75) hW2 (fun b18 => vS b18 5 5) rfl rfl (x_makeR rfl rfl rfl (make5 _)) ?_
   rintro b18 w3 hA
   refine ⟨⟨b18, gy.2.1, ()⟩, fun j hj => ?_, rfl, ?_⟩
   ·
    match j, hj with
    | 0, hj => rfl
    | 1, hj => rw [hDi] at hj; cases hj
    | 2, hj => rfl
    | 3, hj => rfl
    | 4, hj => rfl
    | 5, hj => rfl
    | 6, hj => rfl
    | 7, hj => rfl
    | j + 8, _ => rfl
   ·
    show HP Tr w13 w3 ([] ++ ([Ent.cel b18 (madeCells #[.int .i64 0, .int .i64 0, .int .i64 0] (5 * 3)) 75] ++ ((bif D 2 then [Ent.cel gy.2.1 #[.bool false, .bool true, .bool true, .bool true, .bool false] 4] else []) ++ [])))
    try simp only [d2, cond_true, cond_false, List.append_nil, List.nil_append, List.cons_append]
    exact hA
  case o2 =>
   intro gy D wz hDi hdep hclo hW
   have d1 : D 1 = true := hdep ⟨1, .data⟩ (by simp) rfl
   have d3 : D 3 = false := by
    cases h : D 3 with
    | false => rfl
    | true => exact absurd (hclo 3 _ rfl h ⟨2, .data⟩ (by simp) rfl) (by rw [hDi]; exact Bool.false_ne_true)
   have d4 : D 4 = false := by
    cases h : D 4 with
    | false => rfl
    | true => exact absurd (hclo 4 _ rfl h ⟨3, .data⟩ (by simp) rfl) (by rw [d3]; exact Bool.false_ne_true)
   have d6 : D 6 = false := by
    cases h : D 6 with
    | false => rfl
    | true => exact absurd (hclo 6 _ rfl h ⟨2, .chain⟩ (by simp) rfl) (by rw [hDi]; exact Bool.false_ne_true)
   have hW2 := hW
   try simp only [d1, hDi, cond_true, cond_false, List.append_nil, List.nil_append, List.cons_append] at hW2
   refine .inl ⟨rfl, rfl, .inr (.inr ⟨46, #[.agg #[vI 1, vI 2, vI 4, vI 1], vS gy.1 5 5], by kernel_rfl, (must5_any gy.1 _ (in5 (HP.get hW2 0 rfl))).mono ?_⟩)⟩
   rintro e w3 ⟨go, rfl, hb9⟩
   have hA := HP.trans hW2 hb9
   refine ⟨⟨gy.1, go, ()⟩, fun j hj => ?_, rfl, ?_⟩
   ·
    match j, hj with
    | 0, hj => rfl
    | 1, hj => rfl
    | 2, hj => rw [hDi] at hj; cases hj
    | 3, hj => exact absurd hj (by rw [d3]; exact Bool.false_ne_true)
    | 4, hj => exact absurd hj (by rw [d4]; exact Bool.false_ne_true)
    | 5, hj => rfl
    | 6, hj => exact absurd hj (by rw [d6]; exact Bool.false_ne_true)
    | 7, hj => rfl
    | j + 8, _ => rfl
   ·
    show HP Tr w13 w3 ([] ++ ((bif D 1 then [Ent.cel gy.1 (madeCells #[.int .i64 0, .int .i64 0, .int .i64 0] (5 * 3)) 75] else []) ++ ([Ent.cel go #[.bool false, .bool true, .bool true, .bool true, .bool false] 4] ++ [])))
    try simp only [d1, cond_true, cond_false, List.append_nil, List.nil_append, List.cons_append]
    exact hA
  case o3 =>
   intro gy D wz hDi hdep hclo hW
   exact cfv gy wz (by kernel_rfl) hW
  case o4 =>
   intro gy D wz hDi hdep hclo hW
   exact cfv gy wz (by kernel_rfl) hW
  case o5 =>
   intro gy D wz hDi hdep hclo hW
   exact cfv gy wz (by kernel_rfl) hW
  case o6 =>
   intro gy D wz hDi hdep hclo hW
   exact cfv gy wz (by kernel_rfl) hW
  case o7 =>
   intro gy D wz hDi hdep hclo hW
   exact cfv gy wz (by kernel_rfl) hW
 rintro ⟨b18, go, gu⟩ D w18 hall hH19
 simp only [hall 1 (by kernel_rfl), hall 2 (by kernel_rfl), cond_true, List.append_nil, List.nil_append, List.cons_append] at hH19
 clear hall
 refine WQ.sb [(0, .bool false), (1, vP b1 0), (2, .slice pvt 1 cpt), (3, .bool false), (4, vI 0), (5, vS go 5 5), (6, vI 0)] (WQ.then (hK16 _ _ _ (WC.seq fun K20 hK20 => ?_)))
 obtain ⟨gt, ot, rfl, hrt⟩ := hIt.row (by simp)
 obtain ⟨gr, orr, hqr, hrr⟩ := (hIt.inn rt (by simp)).row (by simp [hrx])
 refine WC.region (WL.z (vI 0) 22 (WL.y (.bool true) 23 (x_eql rfl rfl rfl (by decide)) (WL.z (.bool true) 24 (WL.z (.bool false) 25 (WL.z (.bool true) 26 (WL.z (.bool true) 27 (WL.z (.bool true) 28 (WL.z (.slice (some ⟨gt, ot, none⟩) 1 cpt) 29 (WL.z (vI 1) 30 (WL.y (.bool true) 31 (x_eql rfl rfl rfl (by decide)) (WL.z (.bool true) 32 ?_)))))))))))
 refine WL.z (.bool true) 33 (WL.z (.slice (some ⟨gt, ot, none⟩) 1 cpt) 34 (WL.y (vP gt ot) 35 (x_ix (0) (ot) Try.underlying24 sz33) (WL.y (.slice (some ⟨gr, orr, none⟩) 1 rt.c) 36 (x_load rfl rfl Try.underlying33 rfl (by have q9 := (hrt 0 (by simp)) 0 _ rfl; simp only [List.getD_cons_zero, slV, hqr, hrx, List.length_cons, List.length_nil] at q9; exact HP.old hH19 trivial q9)) (WL.z (vI 1) 37 (WL.y (.bool true) 38 (x_eql rfl rfl rfl (by decide)) (WL.z (.bool true) 39 (WL.z (.bool true) 40 (WL.z (.slice (some ⟨gt, ot, none⟩) 1 cpt) 41 (WL.y (vP gt ot) 42 (x_ix (0) (ot) Try.underlying24 sz33) (WL.y (.slice (some ⟨gr, orr, none⟩) 1 rt.c) 43 (x_load rfl rfl Try.underlying33 rfl (by have q9 := (hrt 0 (by simp)) 0 _ rfl; simp only [List.getD_cons_zero, slV, hqr, hrx, List.length_cons, List.length_nil] at q9; exact HP.old hH19 trivial q9)) ?_))))))))))
 refine WL.y (vP gr orr) 44 (x_ix (0) (orr) Try.underlying33 sz3) (WL.y (vI 0) 45 (x_load rfl rfl Try.underlying3 rfl (by have q9 := (hrr 0 (by simp [hrx])) 0 _ rfl; rw [hrx] at q9; exact HP.old hH19 trivial q9)) (WL.y (.bool true) 46 (x_eql rfl rfl rfl (by decide)) (WL.z (.bool true) 47 (WL.z (.bool true) 48 (WL.z (vI 0) 49 (WL.y (.bool true) 50 (x_eql rfl rfl rfl (by decide)) (WL.z (.bool true) 51 (WL.z (.bool true) 52 (WL.z (vS go 5 5) 53 (WL.z (vI 5) 54 (WL.y (.bool true) 55 (x_eql rfl rfl rfl (by decide)) ?_)))))))))))
 refine WL.z (.bool true) 56 (WL.z (.bool true) 57 (WL.z (vS go 5 5) 58 (WL.y (vP go 0) 59 (x_ix (0) (0) Try.underlying39 sz4) (WL.y (.bool false) 60 (x_load rfl rfl Try.underlying4 rfl (HP.cell hH19 1 rfl rfl)) (WL.z (.bool true) 61 (WL.z (.bool true) 62 (WL.z (.bool true) 63 (WL.z (vS go 5 5) 64 (WL.y (vP go 1) 65 (x_ix (1) (1) Try.underlying39 sz4) (WL.y (.bool true) 66 (x_load rfl rfl Try.underlying4 rfl (HP.cell hH19 1 rfl rfl)) (WL.z (.bool true) 67 ?_)))))))))))
 refine WL.z (.bool true) 68 (WL.z (vS go 5 5) 69 (WL.y (vP go 4) 70 (x_ix (4) (4) Try.underlying39 sz4) (WL.y (.bool false) 71 (x_load rfl rfl Try.underlying4 rfl (HP.cell hH19 1 rfl rfl)) (WL.z (.bool true) 72 (WL.z (.bool true) 73 (WL.z (.bool true) 0 (WL.k hK20 (WC.sb [(0, .bool true), (1, vP b1 0), (2, .slice (some ⟨gt, ot, none⟩) 1 cpt), (3, .bool false), (4, vI 0), (5, vS go 5 5), (6, vI 0)] (WC.ret ?_)))))))))
 refine WQ.ret1 0 rfl rfl ?_
 exact ⟨rfl, HP.below (HP.trans hInv hH19)⟩
end Ca
end Go.Proofs.Ytmjnakhpekbenaa
namespace Go.Proofs.Ytmjnakhpekbenaa
set_option maxRecDepth 20000
set_option maxHeartbeats 4000000
open Go.RowKit Fw
namespace Ca
theorem eqTg (x y x' y' : Int) (w : World) : (Op.equalIn 10000 83 (.agg #[.int .i64 x, .int .i64 y]) (.agg #[.int .i64 x', .int .i64 y'])).run Try.prog w = .ok (decide (x = x' ∧ y = y')) w := by
  have hi1 : ∀ (a a' : Int) (w : World), (Op.equalIn 9999 3 (.int .i64 a) (.int .i64 a')).run Try.prog w = .ok (decide (a = a')) w := fun a a' w => by
    rw [show (9999 : Nat) = 9998 + 1 from rfl, run_equalIn_int w 9998 3 .i64 .i64 a a' Try.underlying3]; by_cases h : a = a' <;> simp [h]
  obtain ⟨i, hi⟩ : ∃ i, Try.prog.info? 3 = some i := Option.map_eq_some_iff.1 (show (Try.prog.info? 3).map (·.size) = some 1 by kernel_rfl) |>.imp fun _ h => h.1
  have hp : Try.prog.plainKey 3 = true := by kernel_rfl
  have hc : Try.prog.cellsOf 3 = 1 := by kernel_rfl
  rw [show (10000 : Nat) = 9999 + 1 from rfl, run_equalIn_array w 9999 _ _ Try.underlying83 hi, hc]
  have p0 : ∀ (x y : Int) (w : World), (part 3 #[Value.int .i64 x, .int .i64 y] (0 * 1)).run Try.prog w = .ok (.int .i64 x) w := fun x y w => run_part_plain w hp rfl
  have p1 : ∀ (x y : Int) (w : World), (part 3 #[Value.int .i64 x, .int .i64 y] (1 * 1)).run Try.prog w = .ok (.int .i64 y) w := fun x y w => run_part_plain w hp rfl
  have e2 : List.range 2 = [0, 1] := rfl
  rw [e2]
  by_cases h1 : x = x'
  · by_cases h2 : y = y'
    · simp [Op.eqItems, Sem.run_bind, p0, p1, hi1, Result.andThen_ok, h1, h2]
    · simp [Op.eqItems, Sem.run_bind, p0, p1, hi1, Result.andThen_ok, h1, h2]
  · simp [Op.eqItems, Sem.run_bind, p0, p1, hi1, Result.andThen_ok, h1]
theorem tab_eq {t u : List T2} (hl : t.length = u.length) (h : ∀ i, i < t.length → lnT t i = lnT u i ∧ agT t i = agT u i) : t = u :=
  List.ext_getElem hl fun i h1 h2 => by
    have := h i h1
    rw [lnT_get h1, lnT_get h2, agT_get h1, agT_get h2] at this
    exact Prod.ext this.1 this.2
theorem Equal_any (p p2 : Option Addr) (t u : List T2) (cp cp2 : Nat) (w : World) (hT : InT w p t) (hU : InT w p2 u) (hn : t.length ≤ 281474976710656) :
  Calls Try.prog 88 #[.slice p t.length cp, .slice p2 u.length cp2] w fun e w' => e = .returned (.bool (decide (t = u))) ∧ Below w.heap.size w w' := by
 refine calls_of Try.func88 rfl (m := 26) rfl [(0, .slice p t.length cp), (1, .slice p2 u.length cp2)] (Fr_enter [.slice p t.length cp, .slice p2 u.length cp2] 26 (Nat.le_of_ble_eq_true rfl)) ?_
 have hH1 : HP Tr w w [] := HP.refl w
 refine WC.seq fun K2 hK2 => WC.region (WL.z (.bool false) 4 (WL.k hK2 (WC.seq fun K3 hK3 => WC.seq fun K4 hK4 => WC.region (WL.z (.slice p t.length cp) 6 (WL.z (vI (t.length : Int)) 7 (WL.z (.slice p2 u.length cp2) 8 ?_))))))
 refine WL.z (vI (u.length : Int)) 9 ?_
 by_cases hlen0 : (t.length : Int) ≠ (u.length : Int)
 ·
  have hlen : ¬ t.length = u.length := by omega
  refine WL.y (.bool true) 10 (x_neq rfl rfl rfl (dT (hlen0))) (WL.k hK4 ?_)
  refine WC.yes rfl ?_
  refine WC.seq fun K5 hK5 => WC.region (WL.z (.bool false) 4 (WL.k hK5 (WC.ret ?_)))
  refine WQ.thenRet ?_
  refine WQ.ret1 4 rfl rfl ?_
  exact ⟨by rw [decide_eq_false (fun e => hlen (by subst e; rfl))], HP.below hH1⟩
 ·
  have hlen : t.length = u.length := by omega
  refine WL.y (.bool false) 10 (x_neq rfl rfl rfl (dF (hlen0))) (WL.k hK4 ?_)
  refine WC.no rfl ?_
  refine WC.skip (WQ.then (hK3 _ _ _ (WC.seq fun K6 hK6 => WC.seq fun K7 hK7 => WC.region (WL.z (.slice p t.length cp) 11 (WL.z (vI (t.length : Int)) 12 (WL.z (vI 0) 13 (WL.k hK7 ?_)))))))
  refine WC.block ?_
  refine WC.loop (fun kk0 ll0 ww0 => ∃ (i : Nat), ll0 = [(0, .slice p t.length cp), (1, .slice p2 u.length cp2), (12, vI (t.length : Int)), (13, vI (i : Int))] ∧ kk0 = t.length - i ∧ (i ≤ t.length) ∧ (∀ j, j < i → lnT t j = lnT u j ∧ agT t j = agT u j) ∧ HP Tr w ww0 []) (t.length) [(0, .slice p t.length cp), (1, .slice p2 u.length cp2), (12, vI (t.length : Int)), (13, vI 0)] ⟨rfl, rfl, rfl, rfl, trivial⟩ ⟨0, rfl, rfl, Nat.zero_le _, fun j hj => by omega, hH1⟩ ?_
  rintro kk l w9 ⟨i, rfl, hkk, hi, hall, hH10⟩ K8 hK8
  refine WC.seq fun K11 hK11 => WC.region ?_
  by_cases hlt : (i : Int) < (t.length : Int)
  ·
   refine WL.y (.bool true) 14 (x_lss rfl rfl rfl (dT (hlt))) (WL.k hK11 (WC.seq fun K12 hK12 => ?_))
   refine WC.yes rfl ?_
   refine WC.skip (WQ.then (hK12 _ _ _ (WC.seq fun K13 hK13 => WC.block (WC.seq fun K14 hK14 => WC.region (WL.z (vI (i : Int)) 15 (WL.z (vI (i : Int)) 5 (WL.k hK14 ?_)))))))
   refine WC.seq fun K15 hK15 => ?_
   obtain ⟨g, o, rfl, hrow⟩ := hT (by omega)
   obtain ⟨g2, o2, rfl, hrow2⟩ := hU (by omega)
   refine WC.still (by kernel_rfl) (by kernel_rfl) ?_
   have hH16 := HP.drew hH10
   refine WS.z (.slice (some ⟨g, o, none⟩) t.length cp) 16 (WS.z (vI (i : Int)) 17 (WS.y (vP g (o + i * 2)) 18 (x_ix (i) (o + i * 2) Try.underlying88 sz83) (WS.y (.agg #[vI (lnT t i), vI (agT t i)]) 19 (x_loadS (cs := [vI (lnT t i), vI (agT t i)]) rfl rfl Try.underlying83 rfl sz83 (HP.oldRange hH16 trivial (hrow i (by omega)))) (WS.z (.slice (some ⟨g2, o2, none⟩) u.length cp2) 20 (WS.z (vI (i : Int)) 21 (WS.y (vP g2 (o2 + i * 2)) 22 (x_ix (i) (o2 + i * 2) Try.underlying88 sz83) (WS.y (.agg #[vI (lnT u i), vI (agT u i)]) 23 (x_loadS (cs := [vI (lnT u i), vI (agT u i)]) rfl rfl Try.underlying83 rfl sz83 (HP.oldRange hH16 trivial (hrow2 i (by omega)))) ?_)))))))
   by_cases hq : lnT t i = lnT u i ∧ agT t i = agT u i
   ·
    refine WS.y (.bool false) 24 (x_neqA rfl rfl rfl (by kernel_rfl) (eqTg _ _ _ _ _) (by rw [decide_eq_true hq]; rfl)) (WS.nilQ (WQ.then (hK15 _ _ _ (WC.sb [(0, .slice (some ⟨g, o, none⟩) t.length cp), (1, .slice (some ⟨g2, o2, none⟩) u.length cp2), (5, vI (i : Int)), (12, vI (t.length : Int)), (13, vI (i : Int)), (14, .bool true), (24, .bool false)] ?_))))
    refine WC.no rfl ?_
    refine WC.skip (WQ.inNormal (WQ.then (hK13 _ _ _ (WC.region (WL.y (vI ((i + 1 : Nat) : Int)) 25 (x_ad (((i + 1 : Nat) : Int))) (WL.z (vI ((i + 1 : Nat) : Int)) 13 (WL.nil (WQ.sb [(0, .slice (some ⟨g, o, none⟩) t.length cp), (1, .slice (some ⟨g2, o2, none⟩) u.length cp2), (12, vI (t.length : Int)), (13, vI ((i + 1 : Nat) : Int))] ?_))))))))
    refine WQ.then (hK8 _ _ _ (by omega) ⟨i + 1, rfl, rfl, by omega, fun j hj => by
          by_cases q9 : j = i
          · subst q9; exact hq
          · exact hall j (by omega), hH16⟩)
   ·
    refine WS.y (.bool true) 24 (x_neqA rfl rfl rfl (by kernel_rfl) (eqTg _ _ _ _ _) (by rw [decide_eq_false hq]; rfl)) (WS.nilQ (WQ.then (hK15 _ _ _ (WC.sb [(0, .slice (some ⟨g, o, none⟩) t.length cp), (1, .slice (some ⟨g2, o2, none⟩) u.length cp2), (5, vI (i : Int)), (12, vI (t.length : Int)), (13, vI (i : Int)), (14, .bool true), (24, .bool true)] ?_))))
    refine WC.yes rfl ?_
    refine WC.seq fun K17 hK17 => WC.region (WL.z (.bool false) 4 (WL.k hK17 (WC.ret ?_)))
    refine WQ.inRet ?_
    refine WQ.thenRet ?_
    refine WQ.thenRet ?_
    refine WQ.inRet ?_
    refine WQ.thenRet ?_
    refine WQ.ret1 4 rfl rfl ?_
    exact ⟨by rw [decide_eq_false (fun e => hq (by subst e; exact ⟨rfl, rfl⟩))], HP.below hH16⟩
  ·
   refine WL.y (.bool false) 14 (x_lss rfl rfl rfl (dF (hlt))) (WL.k hK11 (WC.seq fun K18 hK18 => ?_))
   refine WC.no rfl ?_
   refine WC.exit (WQ.thenExit (WQ.thenExit (WQ.inExit (WQ.then (hK6 _ _ _ (WC.seq fun K19 hK19 => WC.region (WL.z (.bool true) 4 (WL.k hK19 ?_))))))))
   refine WC.ret ?_
   refine WQ.ret1 4 rfl rfl ?_
   exact ⟨by rw [decide_eq_true (tab_eq (by omega) fun j hj => hall j (by omega))], HP.below hH10⟩
theorem SameTableG_any (p p2 : Option Addr) (t u : List T2) (cp cp2 : Nat) (w : World) (hT : InT w p t) (hU : InT w p2 u) (hn : t.length ≤ 281474976710656) :
  Calls Try.prog 34 #[.slice p t.length cp, .slice p2 u.length cp2] w fun e w' => e = .returned (.bool (decide (t = u))) ∧ Below w.heap.size w w' := by
 refine calls_of Try.func34 rfl (m := 26) rfl [(0, .slice p t.length cp), (1, .slice p2 u.length cp2)] (Fr_enter [.slice p t.length cp, .slice p2 u.length cp2] 26 (Nat.le_of_ble_eq_true rfl)) ?_
 have hH1 : HP Tr w w [] := HP.refl w
 refine WC.seq fun K2 hK2 => WC.region (WL.z (.bool false) 4 (WL.k hK2 (WC.seq fun K3 hK3 => WC.seq fun K4 hK4 => WC.region (WL.z (.slice p t.length cp) 6 (WL.z (vI (t.length : Int)) 7 (WL.z (.slice p2 u.length cp2) 8 ?_))))))
 refine WL.z (vI (u.length : Int)) 9 ?_
 by_cases hlen0 : (t.length : Int) ≠ (u.length : Int)
 ·
  have hlen : ¬ t.length = u.length := by omega
  refine WL.y (.bool true) 10 (x_neq rfl rfl rfl (dT (hlen0))) (WL.k hK4 ?_)
  refine WC.yes rfl ?_
  refine WC.seq fun K5 hK5 => WC.region (WL.z (.bool false) 4 (WL.k hK5 (WC.ret ?_)))
  refine WQ.thenRet ?_
  refine WQ.ret1 4 rfl rfl ?_
  exact ⟨by rw [decide_eq_false (fun e => hlen (by subst e; rfl))], HP.below hH1⟩
 ·
  have hlen : t.length = u.length := by omega
  refine WL.y (.bool false) 10 (x_neq rfl rfl rfl (dF (hlen0))) (WL.k hK4 ?_)
  refine WC.no rfl ?_
  refine WC.skip (WQ.then (hK3 _ _ _ (WC.seq fun K6 hK6 => WC.seq fun K7 hK7 => WC.region (WL.z (vI 0) 5 (WL.k hK7 (WC.block ?_))))))
  refine WC.loop (fun kk0 ll0 ww0 => ∃ (i : Nat), ll0 = [(0, .slice p t.length cp), (1, .slice p2 u.length cp2), (5, vI (i : Int))] ∧ kk0 = t.length - i ∧ (i ≤ t.length) ∧ (∀ j, j < i → lnT t j = lnT u j ∧ agT t j = agT u j) ∧ HP Tr w ww0 []) (t.length) [(0, .slice p t.length cp), (1, .slice p2 u.length cp2), (5, vI 0)] ⟨rfl, rfl, rfl, trivial⟩ ⟨0, rfl, rfl, Nat.zero_le _, fun j hj => by omega, hH1⟩ ?_
  rintro kk l w9 ⟨i, rfl, hkk, hi, hall, hH10⟩ K8 hK8
  refine WC.seq fun K11 hK11 => WC.seq fun K12 hK12 => WC.region (WL.z (vI (i : Int)) 11 (WL.z (.slice p t.length cp) 12 (WL.z (vI (t.length : Int)) 13 ?_)))
  by_cases hlt : (i : Int) < (t.length : Int)
  ·
   refine WL.y (.bool true) 14 (x_lss rfl rfl rfl (dT (hlt))) (WL.k hK12 ?_)
   refine WC.yes rfl ?_
   refine WC.skip (WQ.then (hK11 _ _ _ (WC.seq fun K13 hK13 => WC.block (WC.seq fun K14 hK14 => ?_))))
   obtain ⟨g, o, rfl, hrow⟩ := hT (by omega)
   obtain ⟨g2, o2, rfl, hrow2⟩ := hU (by omega)
   refine WC.still (by kernel_rfl) (by kernel_rfl) ?_
   have hH15 := HP.drew hH10
   refine WS.z (.slice (some ⟨g, o, none⟩) t.length cp) 17 (WS.z (vI (i : Int)) 18 (WS.y (vP g (o + i * 2)) 19 (x_ix (i) (o + i * 2) Try.underlying49 sz83) (WS.y (.agg #[vI (lnT t i), vI (agT t i)]) 20 (x_loadS (cs := [vI (lnT t i), vI (agT t i)]) rfl rfl Try.underlying83 rfl sz83 (HP.oldRange hH15 trivial (hrow i (by omega)))) (WS.z (.slice (some ⟨g2, o2, none⟩) u.length cp2) 21 (WS.z (vI (i : Int)) 22 (WS.y (vP g2 (o2 + i * 2)) 23 (x_ix (i) (o2 + i * 2) Try.underlying49 sz83) (WS.y (.agg #[vI (lnT u i), vI (agT u i)]) 24 (x_loadS (cs := [vI (lnT u i), vI (agT u i)]) rfl rfl Try.underlying83 rfl sz83 (HP.oldRange hH15 trivial (hrow2 i (by omega)))) ?_)))))))
   by_cases hq : lnT t i = lnT u i ∧ agT t i = agT u i
   ·
    refine WS.y (.bool false) 25 (x_neqA rfl rfl rfl (by kernel_rfl) (eqTg _ _ _ _ _) (by rw [decide_eq_true hq]; rfl)) (WS.nilQ (WQ.then (hK14 _ _ _ (WC.sb [(0, .slice (some ⟨g, o, none⟩) t.length cp), (1, .slice (some ⟨g2, o2, none⟩) u.length cp2), (5, vI (i : Int)), (14, .bool true), (25, .bool false)] ?_))))
    refine WC.no rfl ?_
    refine WC.skip (WQ.inNormal (WQ.then (hK13 _ _ _ (WC.region (WL.z (vI (i : Int)) 15 (WL.y (vI ((i + 1 : Nat) : Int)) 16 (x_ad (((i + 1 : Nat) : Int))) (WL.z (vI ((i + 1 : Nat) : Int)) 5 (WL.nil (WQ.sb [(0, .slice (some ⟨g, o, none⟩) t.length cp), (1, .slice (some ⟨g2, o2, none⟩) u.length cp2), (5, vI ((i + 1 : Nat) : Int))] ?_)))))))))
    refine WQ.then (hK8 _ _ _ (by omega) ⟨i + 1, rfl, rfl, by omega, fun j hj => by
          by_cases q9 : j = i
          · subst q9; exact hq
          · exact hall j (by omega), hH15⟩)
   ·
    refine WS.y (.bool true) 25 (x_neqA rfl rfl rfl (by kernel_rfl) (eqTg _ _ _ _ _) (by rw [decide_eq_false hq]; rfl)) (WS.nilQ (WQ.then (hK14 _ _ _ (WC.sb [(0, .slice (some ⟨g, o, none⟩) t.length cp), (1, .slice (some ⟨g2, o2, none⟩) u.length cp2), (5, vI (i : Int)), (14, .bool true), (25, .bool true)] ?_))))
    refine WC.yes rfl ?_
    refine WC.seq fun K16 hK16 => WC.region (WL.z (.bool false) 4 (WL.k hK16 (WC.ret ?_)))
    refine WQ.inRet ?_
    refine WQ.thenRet ?_
    refine WQ.thenRet ?_
    refine WQ.inRet ?_
    refine WQ.thenRet ?_
    refine WQ.ret1 4 rfl rfl ?_
    exact ⟨by rw [decide_eq_false (fun e => hq (by subst e; exact ⟨rfl, rfl⟩))], HP.below hH15⟩
  ·
   refine WL.y (.bool false) 14 (x_lss rfl rfl rfl (dF (hlt))) (WL.k hK12 ?_)
   refine WC.no rfl ?_
   refine WC.exit (WQ.thenExit (WQ.thenExit (WQ.inExit (WQ.then (hK6 _ _ _ (WC.seq fun K17 hK17 => WC.region (WL.z (.bool true) 4 (WL.k hK17 ?_))))))))
   refine WC.ret ?_
   refine WQ.ret1 4 rfl rfl ?_
   exact ⟨by rw [decide_eq_true (tab_eq (by omega) fun j hj => hall j (by omega))], HP.below hH10⟩
theorem caught_any (i : Int) (r r2 : Value) (w : World) :
    Calls Try.prog 89 #[vI i, r, r2] w fun e w' => e = .returned r ∧ w = w' := by
  refine calls_of Try.func89 rfl (m := 8) rfl [(0, vI i), (1, r), (2, r2)] (Fr_enter [vI i, r, r2] 8 (Nat.le_of_ble_eq_true rfl)) ?_
  have hH1 : HP Tr w w [] := HP.refl w
  refine WC.seq fun K2 hK2 => WC.region (WL.z (.slice none 0 0) 6 (WL.k hK2 (WC.seq fun K3 hK3 => WC.region (WL.z r 7 (WL.z r 6 (WL.nil (WQ.then ?_)))))))
  refine hK3 _ _ _ (WC.ret ?_)
  refine WQ.ret1 6 rfl rfl ?_
  exact ⟨rfl, rfl⟩
end Ca
end Go.Proofs.Ytmjnakhpekbenaa
namespace Go.Proofs.Ytmjnakhpekbenaa
set_option maxRecDepth 20000
set_option maxHeartbeats 4000000
open Go.RowKit Fw
namespace Ca
theorem BEq_at {P : Program} {f : Nat} {args : Array Value} {w : World} {q : Bool} {r : Bool} (hr : q = r) (h : Calls P f args w fun e w' => e = .returned (.bool q) ∧ Below w.heap.size w w') : Calls P f args w fun e w' => e = .returned (.bool r) ∧ Below w.heap.size w w' := hr ▸ h
theorem aR_up {n i : Nat} {A : Nat → TbI} {r : TbI} (h : i < n) : (aR n (upA A i r))[i]? = some (tbV r) := by
  rw [aR_get h]; unfold upA; rw [if_pos rfl]
theorem tb_store {s y l m : Int} {w : World} {g n i : Nat} {A : Nat → TbI} {v : Value} {r : TbI} (h : TbOk s y l m w r) (hg : Ent.holds w (.cel g (aR n A) 88)) : TbOk s y l m (w.setCell ⟨g, i, none⟩ v) r := ⟨fun h0 => by
    obtain ⟨b, o, hq, hr⟩ := h.inn h0
    have hne : b ≠ g := fun e => by
      subst e
      have hc := hr 0 h0 0 _ rfl
      have h2 : w.heap[b]? = some (.cells (aR n A) 88 (0, 0)) := hg
      rw [cell_of_row w b _ _ 88 (0, 0) h2] at hc
      obtain ⟨r9, hr9⟩ := aR_in hc
      cases hr9
    refine ⟨b, o, hq, fun i9 hi9 j u hu => ?_⟩
    have hc := hr i9 hi9 j u hu
    exact (World.cell?_of_block (a := ⟨b, o + i9 * 2 + j, none⟩) (heap_setCell_other w ⟨g, i, none⟩ b v hne)).trans hc, h.ok⟩
theorem iter_stop {O : Fl.Ops (List T2)} {f : List T2 → (Nat → List T2) → List T2 × (Nat → List T2)} {t : List T2} {ah : Nat → List T2} (h : O.J t (f t ah).1 = t) : ∀ k, Fl.iter O f k t ah = f t ah
  | 0 => rfl
  | k + 1 => by rw [Fl.iter, if_pos h]
theorem iter_go {O : Fl.Ops (List T2)} {f : List T2 → (Nat → List T2) → List T2 × (Nat → List T2)} {t : List T2} {ah : Nat → List T2} {k : Nat} (h : ¬ O.J t (f t ah).1 = t) : Fl.iter O f (k + 1) t ah = Fl.iter O f k (O.J t (f t ah).1) (f t ah).2 := by
  rw [Fl.iter, if_neg h]
theorem fold_step {O : Fl.Ops (List T2)} {ah : Nat → List T2} {a v : Nat} {x : List T2} (h : v < a) : Fl.fold O ah v (a - v) x = Fl.fold O ah (v + 1) (a - (v + 1)) (O.J x (O.F v (ah v))) := by
  obtain ⟨k, hk⟩ : ∃ k, a - v = k + 1 := ⟨a - v - 1, by omega⟩
  rw [hk, show a - (v + 1) = k by omega, Fl.fold]
theorem fold_end {O : Fl.Ops (List T2)} {ah : Nat → List T2} {a v : Nat} {x : List T2} (h : a ≤ v) : Fl.fold O ah v (a - v) x = x := by
  rw [show a - v = 0 by omega, Fl.fold]
theorem last0_any (s y l m : Int) (pb : Nat) (cq : Option Addr) (n cap b6 b4 ga : Nat) (c A B : Nat → Int) (hg0 : vG s y l m = true) (hn9 : n ≤ 400) (k j : Nat) (R9 : Fl.Tr) (hl : ∀ (w : World) (T : Nat → TbI) (r : TbI), Env s y l m pb cq n cap b6 b4 59 63 ga c A B w T → TbOk s y l m w r → (∀ i, TbOk s y l m w (T i)) → Calls Try.prog 108 #[vP pb 0, vI (k : Int), vI (j : Int), tbV r] w (TabR s y l m pb cq n cap b6 b4 63 ga T (Fl.sol (ops0 s y l) (cdOf c n) R9 r.t (tabs T)) w)) (hjn : j < n) (w : World) (T : Nat → TbI) (r : TbI) (hE : Env s y l m pb cq n cap b6 b4 59 63 ga c A B w T) (hr : TbOk s y l m w r) (hT : ∀ i, TbOk s y l m w (T i)) :
  Calls Try.prog 133 #[vP pb 0, vI (k : Int), vI (j : Int), .slice r.q r.t.length r.c] w (TabR s y l m pb cq n cap b6 b4 63 ga T (Fl.last (ops0 s y l) (Fl.sol (ops0 s y l) (cdOf c n) R9) j r.t (tabs T)) w) := by
 refine calls_of Try.func133 rfl (m := 28) rfl [(0, vP pb 0), (1, vI (k : Int)), (2, vI (j : Int)), (3, .slice r.q r.t.length r.c)] (Fr_enter [vP pb 0, vI (k : Int), vI (j : Int), .slice r.q r.t.length r.c] 28 (Nat.le_of_ble_eq_true rfl)) ?_
 have hM0 : HP (Out [pE pb cq n cap b6 b4 63 ga, aE ga n T]) w w [pE pb cq n cap b6 b4 63 ga, aE ga n T] := HP.startB hE.own
 refine WC.seq fun K1 hK1 => WC.region (WL.z (.slice none 0 0) 8 (WL.k hK1 (WC.seq fun K2 hK2 => WC.region (WL.z (vP pb 0) 9 (WL.z (vI (k : Int)) 10 (WL.z (vI (j : Int)) 11 (WL.z (.slice r.q r.t.length r.c) 12 ?_)))))))
 refine WL.c 108 #[vP pb 0, vI (k : Int), vI (j : Int), .slice r.q r.t.length r.c] 13 ?_
 refine (hl _ T _ (hE.keep (HP.startB hE.own)) (hE.tab hr (HP.startB hE.own)) (fun i9 => hE.tab (hT i9) (HP.startB hE.own))).mono ?_
 rintro e w3 ⟨r1, T1, rfl, hbw3, hr1, hT1, hXr1⟩
 refine ⟨_, rfl, ?_⟩
 have hH4 : HP (Out [pE pb cq n cap b6 b4 63 ga, aE ga n T]) w w3 [.cel pb #[.slice cq n cap, .func (.func 87) #[] #[vP b6 0, vP b4 0], .func (.func 63) #[] #[], .func (.func 88) #[] #[], .func (.func 89) #[] #[], vS ga n n] 112, .cel ga (aR n T1) 88] := HP.exchF (A := [pE pb cq n cap b6 b4 63 ga, aE ga n T]) (B := []) (HP.startB hE.own) hbw3
 have hF5 : HP (Out [pE pb cq n cap b6 b4 63 ga, aE ga n T]) w w3 [pE pb cq n cap b6 b4 63 ga, aE ga n T1] := hH4
 have hM5 := HP.exch (A := []) hM0 hF5
 have hE5 := hE.keep hF5
 have hk5_r := hE.tab hr hF5
 have hH6 := HP.startB hE5.own
 refine WL.z (.slice r1.q r1.t.length r1.c) 3 (WL.k hK2 (WC.sb [(0, vP pb 0), (1, vI (k : Int)), (2, vI (j : Int)), (3, .slice r1.q r1.t.length r1.c), (8, .slice none 0 0)] (WC.seq fun K7 hK7 => WC.region (WL.z (vP pb 0) 14 (WL.z (vP pb 0) 15 (WL.z (vP pb 5) 16 (WL.y (vS ga n n) 17 (x_load rfl rfl Try.underlying110 rfl (HP.cell hH6 0 rfl rfl)) (WL.z (vI (j : Int)) 18 ?_))))))))
 refine WL.z (.slice r1.q r1.t.length r1.c) 19 (WL.y (vP ga j) 20 (x_ix (j) (j) Try.underlying110 sz88) ?_)
 refine WL.store (c' := aR n (upA T1 j r1)) (H2 := _) 1 hH6 rfl rfl rfl rfl rfl rfl sz88 rfl (by rw [aR_size]; omega) (aR_set n j T1 r1) rfl ?_
 intro w8 hBw8
 have hH9 : HP (Out [pE pb cq n cap b6 b4 63 ga, aE ga n T1]) w3 w8 [.cel pb #[.slice cq n cap, .func (.func 87) #[] #[vP b6 0, vP b4 0], .func (.func 63) #[] #[], .func (.func 88) #[] #[], .func (.func 89) #[] #[], vS ga n n] 112, .cel ga (aR n (upA T1 j r1)) 88] := hBw8
 have hUw8 : ∀ i9, TbOk s y l m w8 ((upA T1 j r1) i9) := fun i9 => by unfold upA; split; exact (hE5.tab hr1 hH9); exact hE5.tab (hT1 i9) hH9
 have hF10 : HP (Out [pE pb cq n cap b6 b4 63 ga, aE ga n T1]) w3 w8 [pE pb cq n cap b6 b4 63 ga, aE ga n (upA T1 j r1)] := hH9
 have hM10 := HP.exch (A := []) hM5 hF10
 have hE10 := hE5.keep hF10
 have hk10_r := hE5.tab hk5_r hF10
 have hk10_r1 := hE5.tab hr1 hF10
 have hH11 := HP.startB hE10.own
 refine WL.k hK7 (WC.sb [(0, vP pb 0), (1, vI (k : Int)), (2, vI (j : Int)), (3, .slice r1.q r1.t.length r1.c), (8, .slice none 0 0)] (WC.seq fun K12 hK12 => WC.region (WL.z (vP pb 0) 21 (WL.z (vP pb 0) 22 (WL.z (vP pb 1) 23 (WL.y (.func (.func 87) #[] #[vP b6 0, vP b4 0]) 24 (x_load rfl rfl Try.underlying107 rfl (HP.cell hH11 0 rfl rfl)) (WL.z (vI (j : Int)) 25 (WL.z (.slice r1.q r1.t.length r1.c) 26 ?_))))))))
 refine WL.c 87 #[vI (j : Int), .slice r1.q r1.t.length r1.c, vP b6 0, vP b4 0] 27 ?_
 refine (do0_any s y l m j r1.q r1.t r1.c b6 b4 _ (hE10.keep hH11).how (hE10.keep hH11).geo (hE10.tab hk10_r1 hH11).inn hk10_r1.ok (by omega)).mono ?_
 rintro e w13 ⟨pv9, cp9, rfl, hbw13⟩
 refine ⟨_, rfl, ?_⟩
 have hH14 : HP (Out [pE pb cq n cap b6 b4 63 ga, aE ga n (upA T1 j r1)]) w8 w13 [.cel pb #[.slice cq n cap, .func (.func 87) #[] #[vP b6 0, vP b4 0], .func (.func 63) #[] #[], .func (.func 88) #[] #[], .func (.func 89) #[] #[], vS ga n n] 112, .cel ga (aR n (upA T1 j r1)) 88, rowT pv9 (tcH s y ((j : Int) / l) 0 r1.t).length cp9 (tcH s y ((j : Int) / l) 0 r1.t)] := HP.trans hH11 hbw13
 have hrd : TbOk s y l m w13 (⟨pv9, (tcH s y ((j : Int) / l) 0 r1.t), cp9⟩ : TbI) := ⟨InT.own (HP.get hH14 2 rfl), VT_tc hk10_r1.ok (line_of (vG_iff.1 hg0).2.2.1 (by omega))⟩
 have hF15 : HP (Out [pE pb cq n cap b6 b4 63 ga, aE ga n (upA T1 j r1)]) w8 w13 [pE pb cq n cap b6 b4 63 ga, aE ga n (upA T1 j r1)] := (HP.drop hH14 2)
 have hM15 := HP.exch (A := []) hM10 hF15
 have hE15 := hE10.keep hF15
 have hk15_r := hE10.tab hk10_r hF15
 have hk15_r1 := hE10.tab hk10_r1 hF15
 have hT15 := fun i9 => hE10.tab (hUw8 i9) hF15
 have hH16 := HP.startB hE15.own
 refine WL.z (.slice pv9 ((tcH s y ((j : Int) / l) 0 r1.t).length) cp9) 8 (WL.k hK12 (WC.sb [(0, vP pb 0), (1, vI (k : Int)), (2, vI (j : Int)), (3, .slice r1.q r1.t.length r1.c), (8, .slice pv9 ((tcH s y ((j : Int) / l) 0 r1.t).length) cp9)] (WC.ret ?_)))
 refine WQ.ret1 8 rfl rfl ?_
 refine ⟨⟨pv9, (tcH s y ((j : Int) / l) 0 r1.t), cp9⟩, upA T1 j r1, rfl, hM15, hrd, hT15, ?_⟩
 rw [tabs_up]
 unfold Fl.last
 rw [← hXr1]
 rfl
theorem brP0_any (s y l m : Int) (pb : Nat) (cq : Option Addr) (n cap b6 b4 ga : Nat) (c A B : Nat → Int) (hg0 : vG s y l m = true) (hn9 : n ≤ 400) (i E : Nat) (Rb : Fl.Tr) (hop : 29 ≤ c i ∧ c i ≤ 32) (hiE : i + 1 ≤ E) (hEn : E < n) (hlb : ∀ (w : World) (T : Nat → TbI) (r : TbI), Env s y l m pb cq n cap b6 b4 59 63 ga c A B w T → TbOk s y l m w r → (∀ i, TbOk s y l m w (T i)) → Calls Try.prog 108 #[vP pb 0, vI ((i + 1 : Nat) : Int), vI (E : Int), tbV r] w (TabR s y l m pb cq n cap b6 b4 63 ga T (Fl.sol (ops0 s y l) (cdOf c n) Rb r.t (tabs T)) w)) (w : World) (T : Nat → TbI) (r : TbI) (hE : Env s y l m pb cq n cap b6 b4 59 63 ga c A B w T) (hr : TbOk s y l m w r) (hT : ∀ i, TbOk s y l m w (T i)) :
  Calls Try.prog 119 #[vP pb 0, vI (i : Int), vI (-1), vI (E : Int), .slice r.q r.t.length r.c] w (TabR s y l m pb cq n cap b6 b4 63 ga T (brkP (ops0 s y l) (cdOf c n) i E (Fl.sol (ops0 s y l) (cdOf c n) Rb) r.t (tabs T)) w) := by
 refine calls_of Try.func119 rfl (m := 170) rfl [(0, vP pb 0), (1, vI (i : Int)), (2, vI (-1)), (3, vI (E : Int)), (4, .slice r.q r.t.length r.c)] (Fr_enter [vP pb 0, vI (i : Int), vI (-1), vI (E : Int), .slice r.q r.t.length r.c] 170 (Nat.le_of_ble_eq_true rfl)) ?_
 have hM0 : HP (Out [pE pb cq n cap b6 b4 63 ga, aE ga n T]) w w [pE pb cq n cap b6 b4 63 ga, aE ga n T] := HP.startB hE.own
 refine WC.seq fun K1 hK1 => WC.region (WL.z (.slice none 0 0) 10 (WL.k hK1 (WC.seq fun K2 hK2 => WC.seq fun K3 hK3 => ?_)))
 obtain ⟨gc, oc, hqc, hrowc⟩ := hE.code (by omega)
 have hgc9 := out_int hE.own (hrowc i (by omega) 0 _ rfl)
 refine WC.region (WL.z (vP pb 0) 18 (WL.z (vP pb 0) 19 (WL.z (vP pb 0) 20 (WL.y (.slice cq n cap) 21 (x_load rfl rfl Try.underlying42 rfl (HP.cell (HP.startB hE.own) 0 rfl rfl)) (WL.z (vI (i : Int)) 22 (WL.y (vP gc (oc + i * 3)) 23 (x_idx (b := gc) (off := oc) i (oc + i * 3) rfl (by rw [← hqc]; rfl) rfl Try.underlying42 sz75 (by omega) (by omega) (by omega)) (WL.z (vP gc (oc + i * 3)) 24 (WL.y (vI (c i)) 25 (x_load rfl rfl Try.underlying3 rfl ((HP.oldRange (HP.startB hE.own) hgc9 (hrowc i (by omega))) 0 _ rfl)) (WL.k hK3 ?_)))))))))
 refine WC.sb [(0, vP pb 0), (1, vI (i : Int)), (2, vI (-1)), (3, vI (E : Int)), (4, .slice r.q r.t.length r.c), (10, .slice none 0 0), (25, vI (c i))] (WC.block (WC.seq fun K4 hK4 => WC.region ?_))
 by_cases h29 : c i = 29
 ·
  refine WL.y (.bool true) 27 (x_eql rfl rfl rfl (dT (h29))) (WL.z (.bool true) 26 (WL.k hK4 ?_))
  refine WC.yes rfl ?_
  refine WC.seq fun K5 hK5 => WC.seq fun K6 hK6 => WC.region (WL.z (vI (-1)) 28 (WL.y (.bool false) 29 (x_geq rfl rfl rfl (by decide)) (WL.k hK6 ?_)))
  refine WC.no rfl ?_
  refine WC.skip (WQ.then (hK5 _ _ _ (WC.seq fun K7 hK7 => ?_)))
  refine WC.confG (γ := TbI × (Nat → TbI) × Option Addr × Nat × Unit) [(29, .bool false), (28, vI (-1)), (26, .bool true), (27, .bool true), (0, vP pb 0), (1, vI (i : Int)), (2, vI (-1)), (3, vI (E : Int)), (4, .slice r.q r.t.length r.c), (10, .slice none 0 0), (25, vI (c i))] (fun gy => [vP pb 0, vP pb 0, vP pb 5, vS ga n n, vI (E : Int), vP pb 0, vP pb 0, vP pb 2, .func (.func 63) #[] #[], .slice r.q r.t.length r.c, vP pb 0, vI (i : Int), vI ((i + 1 : Nat) : Int), vI (E : Int), .slice r.q r.t.length r.c, .slice gy.1.q gy.1.t.length gy.1.c, .slice gy.2.2.1 ((jM r.t gy.1.t).length) gy.2.2.2.1, vP ga E, undef]) (fun gy D wz => HP (Out [pE pb cq n cap b6 b4 63 ga, aE ga n T]) w wz ([.cel pb #[.slice cq n cap, .func (.func 87) #[] #[vP b6 0, vP b4 0], .func (.func 63) #[] #[], .func (.func 88) #[] #[], .func (.func 89) #[] #[], vS ga n n] 112, (bif D 18 then Ent.cel ga (aR n (upA gy.2.1 E (⟨gy.2.2.1, (jM r.t gy.1.t), gy.2.2.2.1⟩ : TbI))) 88 else (bif D 15 then Ent.cel ga (aR n gy.2.1) 88 else Ent.cel ga (aR n T) 88))] ++ ((bif D 16 then [rowT gy.2.2.1 (jM r.t gy.1.t).length gy.2.2.2.1 (jM r.t gy.1.t)] else []) ++ [])) ∧ (D 15 = true → (TbOk s y l m wz gy.1 ∧ (∀ i9, TbOk s y l m wz (gy.2.1 i9)) ∧ (gy.1.t, tabs gy.2.1) = Fl.sol (ops0 s y l) (cdOf c n) Rb r.t (tabs T)))) (⟨none, [], 0⟩, (fun _ => ⟨none, [], 0⟩), none, 0, ()) (by kernel_rfl) ⟨rfl, rfl, rfl, rfl, rfl, rfl, rfl, rfl, rfl, rfl, rfl, trivial⟩ (by kernel_rfl) (by kernel_rfl) (by kernel_rfl) (fun _ => rfl) (by kernel_rfl) (⟨HP.drew (HP.startB hE.own), (fun h => by cases h)⟩) ?_ ?_
  ·
   refine AllOk.cons ?o0 (AllOk.cons ?o1 (AllOk.cons ?o2 (AllOk.cons ?o3 (AllOk.cons ?o4 (AllOk.cons ?o5 (AllOk.cons ?o6 (AllOk.cons ?o7 (AllOk.cons ?o8 (AllOk.cons ?o9 (AllOk.cons ?o10 (AllOk.cons ?o11 (AllOk.cons ?o12 (AllOk.cons ?o13 (AllOk.cons ?o14 (AllOk.cons ?o15 (AllOk.cons ?o16 (AllOk.cons ?o17 (AllOk.cons ?o18 (AllOk.nil _)))))))))))))))))))
   case o0 =>
    rintro gy D wz hDi hdep hclo ⟨hW, hX0⟩
    exact cfv gy wz (by kernel_rfl) ⟨hW, hX0⟩
   case o1 =>
    rintro gy D wz hDi hdep hclo ⟨hW, hX0⟩
    exact cfv gy wz (by kernel_rfl) ⟨hW, hX0⟩
   case o2 =>
    rintro gy D wz hDi hdep hclo ⟨hW, hX0⟩
    exact cfv gy wz (by kernel_rfl) ⟨hW, hX0⟩
   case o3 =>
    rintro gy D wz hDi hdep hclo ⟨hW, hX0⟩
    exact cfv gy wz (x_load rfl rfl Try.underlying110 rfl (HP.cell hW 0 rfl rfl)) ⟨hW, hX0⟩
   case o4 =>
    rintro gy D wz hDi hdep hclo ⟨hW, hX0⟩
    exact cfv gy wz (by kernel_rfl) ⟨hW, hX0⟩
   case o5 =>
    rintro gy D wz hDi hdep hclo ⟨hW, hX0⟩
    exact cfv gy wz (by kernel_rfl) ⟨hW, hX0⟩
   case o6 =>
    rintro gy D wz hDi hdep hclo ⟨hW, hX0⟩
    exact cfv gy wz (by kernel_rfl) ⟨hW, hX0⟩
   case o7 =>
    rintro gy D wz hDi hdep hclo ⟨hW, hX0⟩
    exact cfv gy wz (by kernel_rfl) ⟨hW, hX0⟩
   case o8 =>
    rintro gy D wz hDi hdep hclo ⟨hW, hX0⟩
    exact cfv gy wz (x_load rfl rfl Try.underlying85 rfl (HP.cell hW 0 rfl rfl)) ⟨hW, hX0⟩
   case o9 =>
    rintro gy D wz hDi hdep hclo ⟨hW, hX0⟩
    exact cfv gy wz (by kernel_rfl) ⟨hW, hX0⟩
   case o10 =>
    rintro gy D wz hDi hdep hclo ⟨hW, hX0⟩
    exact cfv gy wz (by kernel_rfl) ⟨hW, hX0⟩
   case o11 =>
    rintro gy D wz hDi hdep hclo ⟨hW, hX0⟩
    exact cfv gy wz (by kernel_rfl) ⟨hW, hX0⟩
   case o12 =>
    rintro gy D wz hDi hdep hclo ⟨hW, hX0⟩
    exact cfv gy wz (x_ad (((i + 1 : Nat) : Int))) ⟨hW, hX0⟩
   case o13 =>
    rintro gy D wz hDi hdep hclo ⟨hW, hX0⟩
    exact cfv gy wz (by kernel_rfl) ⟨hW, hX0⟩
   case o14 =>
    rintro gy D wz hDi hdep hclo ⟨hW, hX0⟩
    exact cfv gy wz (by kernel_rfl) ⟨hW, hX0⟩
   case o15 =>
    rintro gy D wz hDi hdep hclo ⟨hW, hX0⟩
    have d16 : D 16 = false := by
     cases h : D 16 with
     | false => rfl
     | true => exact absurd (hclo 16 _ rfl h ⟨15, .data⟩ (by simp) rfl) (by rw [hDi]; exact Bool.false_ne_true)
    have d18 : D 18 = false := by
     cases h : D 18 with
     | false => rfl
     | true => exact absurd (hclo 18 _ rfl h ⟨15, .phase⟩ (by simp) rfl) (by rw [hDi]; exact Bool.false_ne_true)
    have hW2 := hW
    try simp only [d16, d18, hDi, cond_true, cond_false, List.append_nil, List.nil_append, List.cons_append] at hW2
    refine .inl ⟨rfl, rfl, .inr (.inr ⟨108, #[vP pb 0, vI ((i + 1 : Nat) : Int), vI (E : Int), .slice r.q r.t.length r.c], by kernel_rfl, (hlb _ T _ (hE.keep hW2) (hE.tab hr hW2) (fun i9 => hE.tab (hT i9) hW2)).mono ?_⟩)⟩
    rintro e w3 ⟨r2, T2, rfl, hb9, hr9, hT9, hX9⟩
    have hA := HP.exchF (A := [pE pb cq n cap b6 b4 63 ga, aE ga n T]) (B := []) hW2 hb9
    refine ⟨⟨r2, T2, gy.2.2.1, gy.2.2.2.1, ()⟩, fun j hj => ?_, rfl, ⟨?_, fun _ => ⟨hr9, hT9, hX9⟩⟩⟩
    ·
     match j, hj with
     | 0, hj => rfl
     | 1, hj => rfl
     | 2, hj => rfl
     | 3, hj => rfl
     | 4, hj => rfl
     | 5, hj => rfl
     | 6, hj => rfl
     | 7, hj => rfl
     | 8, hj => rfl
     | 9, hj => rfl
     | 10, hj => rfl
     | 11, hj => rfl
     | 12, hj => rfl
     | 13, hj => rfl
     | 14, hj => rfl
     | 15, hj => rw [hDi] at hj; cases hj
     | 16, hj => exact absurd hj (by rw [d16]; exact Bool.false_ne_true)
     | 17, hj => rfl
     | 18, hj => rfl
     | j + 19, _ => rfl
    ·
     show HP (Out [pE pb cq n cap b6 b4 63 ga, aE ga n T]) w w3 ([.cel pb #[.slice cq n cap, .func (.func 87) #[] #[vP b6 0, vP b4 0], .func (.func 63) #[] #[], .func (.func 88) #[] #[], .func (.func 89) #[] #[], vS ga n n] 112, (bif D 18 then Ent.cel ga (aR n (upA T2 E (⟨gy.2.2.1, (jM r.t r2.t), gy.2.2.2.1⟩ : TbI))) 88 else Ent.cel ga (aR n T2) 88)] ++ ((bif D 16 then [rowT gy.2.2.1 (jM r.t r2.t).length gy.2.2.2.1 (jM r.t r2.t)] else []) ++ []))
     try simp only [d16, d18, cond_true, cond_false, List.append_nil, List.nil_append, List.cons_append]
     exact hA
   case o16 =>
    rintro gy D wz hDi hdep hclo ⟨hW, hX0⟩
    have d15 : D 15 = true := hdep ⟨15, .data⟩ (by simp) rfl
    have d18 : D 18 = false := by
     cases h : D 18 with
     | false => rfl
     | true => exact absurd (hclo 18 _ rfl h ⟨16, .data⟩ (by simp) rfl) (by rw [hDi]; exact Bool.false_ne_true)
    have hW2 := hW
    try simp only [d15, d18, hDi, cond_true, cond_false, List.append_nil, List.nil_append, List.cons_append] at hW2
    refine .inl ⟨rfl, rfl, .inr (.inr ⟨63, #[.slice r.q r.t.length r.c, .slice gy.1.q gy.1.t.length gy.1.c], by kernel_rfl, (joinMust_any r.q gy.1.q r.t gy.1.t r.c gy.1.c _ (hE.tab hr hW2).inn (hX0 d15).1.inn (by have := (hE.tab hr hW2).ok.len; omega) (by have := (hX0 d15).1.ok.len; omega) (hX0 d15).1.ok.so).mono ?_⟩)⟩
    rintro e w3 ⟨pvj, cpj, rfl, hbj⟩
    have hA := HP.trans hW2 hbj
    refine ⟨⟨gy.1, gy.2.1, pvj, cpj, ()⟩, fun j hj => ?_, rfl, ⟨?_, fun h9 => ⟨(hX0 h9).1.below (HP.below hbj), (fun i9 => ((hX0 h9).2.1 i9).below (HP.below hbj)), (hX0 h9).2.2⟩⟩⟩
    ·
     match j, hj with
     | 0, hj => rfl
     | 1, hj => rfl
     | 2, hj => rfl
     | 3, hj => rfl
     | 4, hj => rfl
     | 5, hj => rfl
     | 6, hj => rfl
     | 7, hj => rfl
     | 8, hj => rfl
     | 9, hj => rfl
     | 10, hj => rfl
     | 11, hj => rfl
     | 12, hj => rfl
     | 13, hj => rfl
     | 14, hj => rfl
     | 15, hj => rfl
     | 16, hj => rw [hDi] at hj; cases hj
     | 17, hj => rfl
     | 18, hj => rfl
     | j + 19, _ => rfl
    ·
     show HP (Out [pE pb cq n cap b6 b4 63 ga, aE ga n T]) w w3 ([.cel pb #[.slice cq n cap, .func (.func 87) #[] #[vP b6 0, vP b4 0], .func (.func 63) #[] #[], .func (.func 88) #[] #[], .func (.func 89) #[] #[], vS ga n n] 112, (bif D 18 then Ent.cel ga (aR n (upA gy.2.1 E (⟨pvj, (jM r.t gy.1.t), cpj⟩ : TbI))) 88 else (bif D 15 then Ent.cel ga (aR n gy.2.1) 88 else Ent.cel ga (aR n T) 88))] ++ ([rowT pvj (jM r.t gy.1.t).length cpj (jM r.t gy.1.t)] ++ []))
     try simp only [d15, d18, cond_true, cond_false, List.append_nil, List.nil_append, List.cons_append]
     exact hA
   case o17 =>
    rintro gy D wz hDi hdep hclo ⟨hW, hX0⟩
    exact cfv gy wz (x_ix (E) (E) Try.underlying110 sz88) ⟨hW, hX0⟩
   case o18 =>
    rintro gy D wz hDi hdep hclo ⟨hW, hX0⟩
    have d15 : D 15 = true := hdep ⟨15, .phase⟩ (by simp) rfl
    have d16 : D 16 = true := hdep ⟨16, .data⟩ (by simp) rfl
    have hW2 := hW
    simp only [d15, d16, hDi, cond_true, cond_false, List.append_nil, List.nil_append, List.cons_append] at hW2
    have h4 := HP.set (off := E) (v := tbV (⟨gy.2.2.1, (jM r.t gy.1.t), gy.2.2.2.1⟩ : TbI)) hW2 1 rfl
    rw [aR_set] at h4
    refine .inl ⟨rfl, rfl, .inr (.inl ⟨_, x_store rfl rfl rfl sz88 rfl (HP.cell hW2 1 rfl (aR_get (by omega))) (HP.free hW2 1 rfl), rfl, ?_, fun h9 => ⟨tb_store (hX0 h9).1 (HP.get hW2 1 rfl), (fun i9 => tb_store ((hX0 h9).2.1 i9) (HP.get hW2 1 rfl)), (hX0 h9).2.2⟩⟩)⟩
    show HP (Out [pE pb cq n cap b6 b4 63 ga, aE ga n T]) w (wz.setCell ⟨ga, E, none⟩ (tbV (⟨gy.2.2.1, (jM r.t gy.1.t), gy.2.2.2.1⟩ : TbI))) ([.cel pb #[.slice cq n cap, .func (.func 87) #[] #[vP b6 0, vP b4 0], .func (.func 63) #[] #[], .func (.func 88) #[] #[], .func (.func 89) #[] #[], vS ga n n] 112, Ent.cel ga (aR n (upA gy.2.1 E (⟨gy.2.2.1, (jM r.t gy.1.t), gy.2.2.2.1⟩ : TbI))) 88] ++ ((bif D 16 then [rowT gy.2.2.1 (jM r.t gy.1.t).length gy.2.2.2.1 (jM r.t gy.1.t)] else []) ++ []))
    simp only [d15, d16, cond_true, cond_false, List.append_nil, List.nil_append, List.cons_append]
    exact h4
  rintro ⟨r2, T2, pvj, cpj, gu⟩ D w8 hall ⟨hH9, hX0⟩
  have hOr2 := hX0 (hall 15 (by kernel_rfl))
  clear hX0
  simp only [hall 15 (by kernel_rfl), hall 16 (by kernel_rfl), hall 18 (by kernel_rfl), cond_true, List.append_nil, List.nil_append, List.cons_append] at hH9
  clear hall
  refine WQ.sb [(0, vP pb 0), (1, vI (i : Int)), (2, vI (-1)), (3, vI (E : Int)), (4, .slice r.q r.t.length r.c), (10, .slice none 0 0), (25, vI (c i)), (26, .bool true), (29, .bool false)] ?_
  obtain ⟨hr2, hT2, hXr2⟩ := hOr2
  have hjok : VT s y l m (jM r.t r2.t) := VT_jM hr.ok hr2.ok
  have hjn : TbOk s y l m w8 (⟨pvj, (jM r.t r2.t), cpj⟩ : TbI) := ⟨InT.own (HP.get hH9 2 rfl), hjok⟩
  have hTU : ∀ i9, TbOk s y l m w8 ((upA T2 E (⟨pvj, (jM r.t r2.t), cpj⟩ : TbI)) i9) := fun i9 => by unfold upA; split; exact hjn; exact hT2 i9
  have hF10 : HP (Out [pE pb cq n cap b6 b4 63 ga, aE ga n T]) w w8 [pE pb cq n cap b6 b4 63 ga, aE ga n (upA T2 E (⟨pvj, (jM r.t r2.t), cpj⟩ : TbI))] := (HP.drop hH9 2)
  have hM10 := HP.exch (A := []) hM0 hF10
  have hE10 := hE.keep hF10
  have hk10_r := hE.tab hr hF10
  have hH11 := HP.startB hE10.own
  refine WQ.then (hK7 _ _ _ (WC.seq fun K12 hK12 => ?_))
  refine WC.confG (γ := Option Addr × Nat × Unit) [(0, vP pb 0), (1, vI (i : Int)), (2, vI (-1)), (3, vI (E : Int)), (4, .slice r.q r.t.length r.c), (25, vI (c i)), (26, .bool true), (29, .bool false)] (fun gy => [vP pb 0, vP pb 0, vP pb 1, .func (.func 87) #[] #[vP b6 0, vP b4 0], vI (E : Int), vP pb 0, vP pb 0, vP pb 5, vS ga n n, vI (E : Int), vP ga E, .slice pvj ((jM r.t r2.t).length) cpj, .slice gy.1 ((tcH s y ((E : Int) / l) 0 (jM r.t r2.t)).length) gy.2.1, .slice gy.1 ((tcH s y ((E : Int) / l) 0 (jM r.t r2.t)).length) gy.2.1]) (fun gy D wz => HP (Out [pE pb cq n cap b6 b4 63 ga, aE ga n (upA T2 E (⟨pvj, (jM r.t r2.t), cpj⟩ : TbI))]) w8 wz ([.cel pb #[.slice cq n cap, .func (.func 87) #[] #[vP b6 0, vP b4 0], .func (.func 63) #[] #[], .func (.func 88) #[] #[], .func (.func 89) #[] #[], vS ga n n] 112, .cel ga (aR n (upA T2 E (⟨pvj, (jM r.t r2.t), cpj⟩ : TbI))) 88] ++ ((bif D 12 then [rowT gy.1 (tcH s y ((E : Int) / l) 0 (jM r.t r2.t)).length gy.2.1 (tcH s y ((E : Int) / l) 0 (jM r.t r2.t))] else []) ++ []))) (none, 0, ()) (by kernel_rfl) ⟨rfl, rfl, rfl, rfl, rfl, rfl, rfl, rfl, trivial⟩ (by kernel_rfl) (by kernel_rfl) (by kernel_rfl) (fun _ => rfl) (by kernel_rfl) (HP.drew hH11) ?_ ?_
  ·
   refine AllOk.cons ?o0 (AllOk.cons ?o1 (AllOk.cons ?o2 (AllOk.cons ?o3 (AllOk.cons ?o4 (AllOk.cons ?o5 (AllOk.cons ?o6 (AllOk.cons ?o7 (AllOk.cons ?o8 (AllOk.cons ?o9 (AllOk.cons ?o10 (AllOk.cons ?o11 (AllOk.cons ?o12 (AllOk.cons ?o13 (AllOk.nil _))))))))))))))
   case o0 =>
    intro gy D wz hDi hdep hclo hW
    exact cfv gy wz (by kernel_rfl) hW
   case o1 =>
    intro gy D wz hDi hdep hclo hW
    exact cfv gy wz (by kernel_rfl) hW
   case o2 =>
    intro gy D wz hDi hdep hclo hW
    exact cfv gy wz (by kernel_rfl) hW
   case o3 =>
    intro gy D wz hDi hdep hclo hW
    exact cfv gy wz (x_load rfl rfl Try.underlying107 rfl (HP.cell hW 0 rfl rfl)) hW
   case o4 =>
    intro gy D wz hDi hdep hclo hW
    exact cfv gy wz (by kernel_rfl) hW
   case o5 =>
    intro gy D wz hDi hdep hclo hW
    exact cfv gy wz (by kernel_rfl) hW
   case o6 =>
    intro gy D wz hDi hdep hclo hW
    exact cfv gy wz (by kernel_rfl) hW
   case o7 =>
    intro gy D wz hDi hdep hclo hW
    exact cfv gy wz (by kernel_rfl) hW
   case o8 =>
    intro gy D wz hDi hdep hclo hW
    exact cfv gy wz (x_load rfl rfl Try.underlying110 rfl (HP.cell hW 0 rfl rfl)) hW
   case o9 =>
    intro gy D wz hDi hdep hclo hW
    exact cfv gy wz (by kernel_rfl) hW
   case o10 =>
    intro gy D wz hDi hdep hclo hW
    exact cfv gy wz (x_ix (E) (E) Try.underlying110 sz88) hW
   case o11 =>
    intro gy D wz hDi hdep hclo hW
    exact cfv gy wz (x_load rfl rfl Try.underlying88 rfl (HP.cell hW 1 rfl (aR_up (by omega)))) hW
   case o12 =>
    intro gy D wz hDi hdep hclo hW
    have d13 : D 13 = false := by
     cases h : D 13 with
     | false => rfl
     | true => exact absurd (hclo 13 _ rfl h ⟨12, .data⟩ (by simp) rfl) (by rw [hDi]; exact Bool.false_ne_true)
    have hW2 := hW
    try simp only [hDi, cond_true, cond_false, List.append_nil, List.nil_append, List.cons_append] at hW2
    refine .inl ⟨rfl, rfl, .inr (.inr ⟨87, #[vI (E : Int), .slice pvj ((jM r.t r2.t).length) cpj, vP b6 0, vP b4 0], by kernel_rfl, (do0_any s y l m E pvj (jM r.t r2.t) cpj b6 b4 _ (hE10.keep hW2).how (hE10.keep hW2).geo (hE10.tab hjn hW2).inn hjok (by omega)).mono ?_⟩)⟩
    rintro e w3 ⟨pvd, cpd, rfl, hbd⟩
    have hA := HP.trans hW2 hbd
    refine ⟨⟨pvd, cpd, ()⟩, fun j hj => ?_, rfl, ?_⟩
    ·
     match j, hj with
     | 0, hj => rfl
     | 1, hj => rfl
     | 2, hj => rfl
     | 3, hj => rfl
     | 4, hj => rfl
     | 5, hj => rfl
     | 6, hj => rfl
     | 7, hj => rfl
     | 8, hj => rfl
     | 9, hj => rfl
     | 10, hj => rfl
     | 11, hj => rfl
     | 12, hj => rw [hDi] at hj; cases hj
     | 13, hj => exact absurd hj (by rw [d13]; exact Bool.false_ne_true)
     | j + 14, _ => rfl
    ·
     show HP (Out [pE pb cq n cap b6 b4 63 ga, aE ga n (upA T2 E (⟨pvj, (jM r.t r2.t), cpj⟩ : TbI))]) w8 w3 ([.cel pb #[.slice cq n cap, .func (.func 87) #[] #[vP b6 0, vP b4 0], .func (.func 63) #[] #[], .func (.func 88) #[] #[], .func (.func 89) #[] #[], vS ga n n] 112, .cel ga (aR n (upA T2 E (⟨pvj, (jM r.t r2.t), cpj⟩ : TbI))) 88] ++ ([rowT pvd (tcH s y ((E : Int) / l) 0 (jM r.t r2.t)).length cpd (tcH s y ((E : Int) / l) 0 (jM r.t r2.t))] ++ []))
     try simp only [cond_true, cond_false, List.append_nil, List.nil_append, List.cons_append]
     exact hA
   case o13 =>
    intro gy D wz hDi hdep hclo hW
    exact cfv gy wz (by kernel_rfl) hW
  rintro ⟨pvd, cpd, gu⟩ D w13 hall hH14
  simp only [hall 12 (by kernel_rfl), cond_true, List.append_nil, List.nil_append, List.cons_append] at hH14
  clear hall
  refine WQ.sb [(0, vP pb 0), (1, vI (i : Int)), (2, vI (-1)), (3, vI (E : Int)), (4, .slice r.q r.t.length r.c), (10, .slice pvd ((tcH s y ((E : Int) / l) 0 (jM r.t r2.t)).length) cpd), (25, vI (c i)), (26, .bool true), (29, .bool false)] ?_
  have hdn : TbOk s y l m w13 (⟨pvd, (tcH s y ((E : Int) / l) 0 (jM r.t r2.t)), cpd⟩ : TbI) := ⟨InT.own (HP.get hH14 2 rfl), VT_tc hjok (line_of (vG_iff.1 hg0).2.2.1 (by omega))⟩
  have hF15 : HP (Out [pE pb cq n cap b6 b4 63 ga, aE ga n (upA T2 E (⟨pvj, (jM r.t r2.t), cpj⟩ : TbI))]) w8 w13 [pE pb cq n cap b6 b4 63 ga, aE ga n (upA T2 E (⟨pvj, (jM r.t r2.t), cpj⟩ : TbI))] := (HP.drop hH14 2)
  have hM15 := HP.exch (A := []) hM10 hF15
  have hE15 := hE10.keep hF15
  have hk15_r := hE10.tab hk10_r hF15
  have hk15_j := hE10.tab hjn hF15
  have hT15 := fun i9 => hE10.tab (hTU i9) hF15
  have hH16 := HP.startB hE15.own
  refine WQ.then (hK12 _ _ _ (WC.ret ?_))
  refine WQ.inRet ?_
  refine WQ.thenRet ?_
  refine WQ.ret1 10 rfl rfl ?_
  refine ⟨⟨pvd, (tcH s y ((E : Int) / l) 0 (jM r.t r2.t)), cpd⟩, (upA T2 E (⟨pvj, (jM r.t r2.t), cpj⟩ : TbI)), rfl, hM15, hdn, hT15, ?_⟩
  rw [tabs_up]
  unfold brkP
  rw [if_pos (show (cdOf c n).c i = 29 from h29), ← hXr2]
  rfl
 ·
  refine WL.y (.bool false) 27 (x_eql rfl rfl rfl (dF (h29))) (WL.z (.bool false) 26 (WL.k hK4 ?_))
  refine WC.no rfl ?_
  refine WC.seq fun K17 hK17 => WC.region ?_
  by_cases h30 : c i = 30
  ·
   refine WL.y (.bool true) 80 (x_eql rfl rfl rfl (dT (h30))) (WL.z (.bool true) 79 (WL.k hK17 ?_))
   refine WC.yes rfl ?_
   refine WC.seq fun K18 hK18 => WC.region (WL.z (.slice r.q r.t.length r.c) 81 (WL.z (.slice r.q r.t.length r.c) 12 (WL.k hK18 (WC.block ?_))))
   refine WC.loop (fun kk0 ll0 ww0 => ∃ (kf : Nat) (rin : TbI) (T1 : Nat → TbI), ll0 = [(0, vP pb 0), (1, vI (i : Int)), (3, vI (E : Int)), (4, .slice r.q r.t.length r.c), (12, .slice rin.q rin.t.length rin.c)] ∧ kk0 = kf ∧ ((ops0 s y l).mu rin.t ≤ kf) ∧ (Fl.iter (ops0 s y l) (Fl.last (ops0 s y l) (Fl.sol (ops0 s y l) (cdOf c n) Rb) E) kf rin.t (tabs T1) = Fl.iter (ops0 s y l) (Fl.last (ops0 s y l) (Fl.sol (ops0 s y l) (cdOf c n) Rb) E) ((ops0 s y l).mu r.t) r.t (tabs T)) ∧ (TbOk s y l m ww0 r) ∧ (TbOk s y l m ww0 rin) ∧ (∀ i, TbOk s y l m ww0 (T1 i)) ∧ (HP (Out [pE pb cq n cap b6 b4 63 ga, aE ga n T]) w ww0 [pE pb cq n cap b6 b4 63 ga, aE ga n T1]) ∧ HP Tr ww0 ww0 []) ((ops0 s y l).mu r.t) [(0, vP pb 0), (1, vI (i : Int)), (3, vI (E : Int)), (4, .slice r.q r.t.length r.c), (12, .slice r.q r.t.length r.c)] ⟨rfl, rfl, rfl, rfl, rfl, trivial⟩ ⟨(ops0 s y l).mu r.t, r, T, rfl, rfl, Nat.le_refl _, rfl, hr, hr, hT, hM0, HP.refl _⟩ ?_
   rintro kk l w20 ⟨kf, rin, T1, rfl, hkk, hkf, hit, hr1, hrin, hT1, hM, hH21⟩ K19 hK19
   have hE1 := hE.keep hM
   have hH22 := HP.startB hE1.own
   refine WC.block (WC.seq fun K23 hK23 => WC.region (WL.z (vP pb 0) 82 (WL.z (vI (i : Int)) 83 (WL.y (vI ((i + 1 : Nat) : Int)) 84 (x_ad (((i + 1 : Nat) : Int))) (WL.z (vI (E : Int)) 85 (WL.z (.slice rin.q rin.t.length rin.c) 86 ?_))))))
   refine WL.c 133 #[vP pb 0, vI ((i + 1 : Nat) : Int), vI (E : Int), .slice rin.q rin.t.length rin.c] 87 ?_
   refine (last0_any s y l m pb cq n cap b6 b4 ga c A B hg0 hn9 (i + 1) E Rb hlb (by omega) _ T1 _ (hE1.keep hH22) (hE1.tab hrin hH22) (fun i9 => hE1.tab (hT1 i9) hH22)).mono ?_
   rintro e w24 ⟨rb, T2, rfl, hbw24, hrb, hT2, hXrb⟩
   refine ⟨_, rfl, ?_⟩
   have hH25 : HP (Out [pE pb cq n cap b6 b4 63 ga, aE ga n T1]) w20 w24 [.cel pb #[.slice cq n cap, .func (.func 87) #[] #[vP b6 0, vP b4 0], .func (.func 63) #[] #[], .func (.func 88) #[] #[], .func (.func 89) #[] #[], vS ga n n] 112, .cel ga (aR n T2) 88] := HP.exchF (A := [pE pb cq n cap b6 b4 63 ga, aE ga n T1]) (B := []) hH22 hbw24
   have hF26 : HP (Out [pE pb cq n cap b6 b4 63 ga, aE ga n T1]) w20 w24 [pE pb cq n cap b6 b4 63 ga, aE ga n T2] := hH25
   have hM26 := HP.exch (A := []) hM hF26
   have hE26 := hE1.keep hF26
   have hk26_r := hE1.tab hr1 hF26
   have hk26_rin := hE1.tab hrin hF26
   have hH27 := HP.startB hE26.own
   refine WL.z (.slice rb.q rb.t.length rb.c) 13 (WL.k hK23 (WC.sb [(0, vP pb 0), (1, vI (i : Int)), (3, vI (E : Int)), (4, .slice r.q r.t.length r.c), (12, .slice rin.q rin.t.length rin.c), (13, .slice rb.q rb.t.length rb.c)] (WC.seq fun K28 hK28 => WC.region (WL.z (vP pb 0) 88 (WL.z (vP pb 0) 89 (WL.z (vP pb 2) 90 (WL.y (.func (.func 63) #[] #[]) 91 (x_load rfl rfl Try.underlying85 rfl (HP.cell hH27 0 rfl rfl)) (WL.z (.slice rin.q rin.t.length rin.c) 92 ?_))))))))
   refine WL.z (.slice rb.q rb.t.length rb.c) 93 ?_
   refine WL.c 63 #[.slice rin.q rin.t.length rin.c, .slice rb.q rb.t.length rb.c] 94 ?_
   refine (joinMust_any rin.q rb.q rin.t rb.t rin.c rb.c _ (hE26.tab hk26_rin hH27).inn (hE26.tab hrb hH27).inn (by have := (hE26.tab hk26_rin hH27).ok.len; omega) (by have := (hE26.tab hrb hH27).ok.len; omega) (hE26.tab hrb hH27).ok.so).mono ?_
   rintro e w29 ⟨pvnx, cpnx, rfl, hbw29⟩
   refine ⟨_, rfl, ?_⟩
   have hH30 : HP (Out [pE pb cq n cap b6 b4 63 ga, aE ga n T2]) w24 w29 [.cel pb #[.slice cq n cap, .func (.func 87) #[] #[vP b6 0, vP b4 0], .func (.func 63) #[] #[], .func (.func 88) #[] #[], .func (.func 89) #[] #[], vS ga n n] 112, .cel ga (aR n T2) 88, rowT pvnx (jM rin.t rb.t).length cpnx (jM rin.t rb.t)] := HP.trans hH27 hbw29
   have hnx : TbOk s y l m w29 (⟨pvnx, (jM rin.t rb.t), cpnx⟩ : TbI) := ⟨InT.own (HP.get hH30 2 rfl), VT_jM hk26_rin.ok hrb.ok⟩
   have hF31 : HP (Out [pE pb cq n cap b6 b4 63 ga, aE ga n T2]) w24 w29 [pE pb cq n cap b6 b4 63 ga, aE ga n T2] := (HP.drop hH30 2)
   have hM31 := HP.exch (A := []) hM26 hF31
   have hE31 := hE26.keep hF31
   have hk31_r := hE26.tab hk26_r hF31
   have hk31_rin := hE26.tab hk26_rin hF31
   have hk31_rb := hE26.tab hrb hF31
   have hT31 := fun i9 => hE26.tab (hT2 i9) hF31
   have hH32 := HP.startB hE31.own
   refine WL.z (.slice pvnx ((jM rin.t rb.t).length) cpnx) 14 (WL.k hK28 (WC.sb [(0, vP pb 0), (1, vI (i : Int)), (3, vI (E : Int)), (4, .slice r.q r.t.length r.c), (12, .slice rin.q rin.t.length rin.c), (13, .slice rb.q rb.t.length rb.c), (14, .slice pvnx ((jM rin.t rb.t).length) cpnx)] (WC.seq fun K33 hK33 => WC.seq fun K34 hK34 => WC.region (WL.z (vP pb 0) 95 (WL.z (vP pb 0) 96 (WL.z (vP pb 3) 97 (WL.y (.func (.func 88) #[] #[]) 98 (x_load rfl rfl Try.underlying108 rfl (HP.cell hH32 0 rfl rfl)) ?_)))))))
   refine WL.z (.slice pvnx ((jM rin.t rb.t).length) cpnx) 99 (WL.z (.slice rin.q rin.t.length rin.c) 100 ?_)
   by_cases hq : (jM rin.t rb.t) = rin.t
   ·
    refine WL.c 88 #[.slice pvnx ((jM rin.t rb.t).length) cpnx, .slice rin.q rin.t.length rin.c] 101 ?_
    refine (BEq_at (by exact decide_eq_true hq) (Equal_any pvnx rin.q (jM rin.t rb.t) rin.t cpnx rin.c _ (hE31.tab hnx hH32).inn (hE31.tab hk31_rin hH32).inn (by have q9 : (jM rin.t rb.t).length ≤ 1000 := hnx.ok.len; omega))).mono ?_
    rintro e wq ⟨rfl, hbq⟩
    refine ⟨_, rfl, ?_⟩
    have hH35 := HP.call hH32 hbq
    have hF36 : HP (Out [pE pb cq n cap b6 b4 63 ga, aE ga n T2]) w29 wq [pE pb cq n cap b6 b4 63 ga, aE ga n T2] := hH35
    have hM36 := HP.exch (A := []) hM31 hF36
    have hE36 := hE31.keep hF36
    have hk36_r := hE31.tab hk31_r hF36
    have hk36_rin := hE31.tab hk31_rin hF36
    have hk36_rb := hE31.tab hk31_rb hF36
    have hk36_nx := hE31.tab hnx hF36
    have hT36 := fun i9 => hE31.tab (hT31 i9) hF36
    have hH37 := HP.startB hE36.own
    refine WL.k hK34 (WC.sb [(0, vP pb 0), (1, vI (i : Int)), (3, vI (E : Int)), (4, .slice r.q r.t.length r.c), (12, .slice rin.q rin.t.length rin.c), (13, .slice rb.q rb.t.length rb.c), (14, .slice pvnx ((jM rin.t rb.t).length) cpnx), (101, .bool true)] ?_)
    refine WC.yes rfl ?_
    refine WC.seq fun K38 hK38 => WC.region (WL.z (vP pb 0) 102 (WL.z (vP pb 0) 103 (WL.z (vP pb 2) 104 (WL.y (.func (.func 63) #[] #[]) 105 (x_load rfl rfl Try.underlying85 rfl (HP.cell hH37 0 rfl rfl)) (WL.z (.slice r.q r.t.length r.c) 106 (WL.z (.slice rb.q rb.t.length rb.c) 107 ?_))))))
    refine WL.c 63 #[.slice r.q r.t.length r.c, .slice rb.q rb.t.length rb.c] 108 ?_
    refine (joinMust_any r.q rb.q r.t rb.t r.c rb.c _ (hE36.tab hk36_r hH37).inn (hE36.tab hk36_rb hH37).inn (by have := (hE36.tab hk36_r hH37).ok.len; omega) (by have := (hE36.tab hk36_rb hH37).ok.len; omega) (hE36.tab hk36_rb hH37).ok.so).mono ?_
    rintro e w39 ⟨pvfj, cpfj, rfl, hbw39⟩
    refine ⟨_, rfl, ?_⟩
    have hH40 : HP (Out [pE pb cq n cap b6 b4 63 ga, aE ga n T2]) wq w39 [.cel pb #[.slice cq n cap, .func (.func 87) #[] #[vP b6 0, vP b4 0], .func (.func 63) #[] #[], .func (.func 88) #[] #[], .func (.func 89) #[] #[], vS ga n n] 112, .cel ga (aR n T2) 88, rowT pvfj (jM r.t rb.t).length cpfj (jM r.t rb.t)] := HP.trans hH37 hbw39
    have hfj : TbOk s y l m w39 (⟨pvfj, (jM r.t rb.t), cpfj⟩ : TbI) := ⟨InT.own (HP.get hH40 2 rfl), VT_jM hk36_r.ok hk36_rb.ok⟩
    have hF41 : HP (Out [pE pb cq n cap b6 b4 63 ga, aE ga n T2]) wq w39 [pE pb cq n cap b6 b4 63 ga, aE ga n T2] := (HP.drop hH40 2)
    have hM41 := HP.exch (A := []) hM36 hF41
    have hE41 := hE36.keep hF41
    have hk41_r := hE36.tab hk36_r hF41
    have hk41_rin := hE36.tab hk36_rin hF41
    have hk41_rb := hE36.tab hk36_rb hF41
    have hk41_nx := hE36.tab hk36_nx hF41
    have hT41 := fun i9 => hE36.tab (hT36 i9) hF41
    have hH42 := HP.startB hE41.own
    refine WL.z (.slice pvfj ((jM r.t rb.t).length) cpfj) 10 (WL.k hK38 (WC.sb [(0, vP pb 0), (1, vI (i : Int)), (3, vI (E : Int)), (4, .slice r.q r.t.length r.c), (10, .slice pvfj ((jM r.t rb.t).length) cpfj), (12, .slice rin.q rin.t.length rin.c), (13, .slice rb.q rb.t.length rb.c), (14, .slice pvnx ((jM rin.t rb.t).length) cpnx), (101, .bool true)] (WC.ret ?_)))
    refine WQ.thenRet ?_
    refine WQ.inRet ?_
    refine WQ.thenRet ?_
    refine WQ.inRet ?_
    refine WQ.inRet ?_
    refine WQ.thenRet ?_
    refine WQ.ret1 10 rfl rfl ?_
    have hXb : (Fl.last (ops0 s y l) (Fl.sol (ops0 s y l) (cdOf c n) Rb) E) rin.t (tabs T1) = (rb.t, tabs T2) := hXrb.symm
    have hst := iter_stop (O := (ops0 s y l)) (f := (Fl.last (ops0 s y l) (Fl.sol (ops0 s y l) (cdOf c n) Rb) E)) (t := rin.t) (ah := tabs T1) (by rw [hXb]; exact hq) kf
    rw [hst, hXb] at hit
    refine ⟨⟨pvfj, (jM r.t rb.t), cpfj⟩, T2, rfl, hM41, hfj, hT41, ?_⟩
    unfold brkP
    rw [if_neg (show ¬ (cdOf c n).c i = 29 from h29), if_pos (show (cdOf c n).c i = 30 from h30), ← hit]
    rfl
   ·
    refine WL.c 88 #[.slice pvnx ((jM rin.t rb.t).length) cpnx, .slice rin.q rin.t.length rin.c] 101 ?_
    refine (BEq_at (by exact decide_eq_false hq) (Equal_any pvnx rin.q (jM rin.t rb.t) rin.t cpnx rin.c _ (hE31.tab hnx hH32).inn (hE31.tab hk31_rin hH32).inn (by have q9 : (jM rin.t rb.t).length ≤ 1000 := hnx.ok.len; omega))).mono ?_
    rintro e wq ⟨rfl, hbq⟩
    refine ⟨_, rfl, ?_⟩
    have hH43 := HP.call hH32 hbq
    have hF44 : HP (Out [pE pb cq n cap b6 b4 63 ga, aE ga n T2]) w29 wq [pE pb cq n cap b6 b4 63 ga, aE ga n T2] := hH43
    have hM44 := HP.exch (A := []) hM31 hF44
    have hE44 := hE31.keep hF44
    have hk44_r := hE31.tab hk31_r hF44
    have hk44_rin := hE31.tab hk31_rin hF44
    have hk44_rb := hE31.tab hk31_rb hF44
    have hk44_nx := hE31.tab hnx hF44
    have hT44 := fun i9 => hE31.tab (hT31 i9) hF44
    have hH45 := HP.startB hE44.own
    refine WL.k hK34 (WC.sb [(0, vP pb 0), (1, vI (i : Int)), (3, vI (E : Int)), (4, .slice r.q r.t.length r.c), (12, .slice rin.q rin.t.length rin.c), (13, .slice rb.q rb.t.length rb.c), (14, .slice pvnx ((jM rin.t rb.t).length) cpnx), (101, .bool false)] ?_)
    refine WC.no rfl ?_
    refine WC.skip (WQ.then (hK33 _ _ _ (WC.region (WL.z (.slice pvnx ((jM rin.t rb.t).length) cpnx) 109 (WL.z (.slice pvnx ((jM rin.t rb.t).length) cpnx) 12 (WL.nil (WQ.inNormal ?_)))))))
    have hXb : (Fl.last (ops0 s y l) (Fl.sol (ops0 s y l) (cdOf c n) Rb) E) rin.t (tabs T1) = (rb.t, tabs T2) := hXrb.symm
    have hJ9 : (ops0 s y l).J rin.t ((Fl.last (ops0 s y l) (Fl.sol (ops0 s y l) (cdOf c n) Rb) E) rin.t (tabs T1)).1 = (jM rin.t rb.t) := by rw [hXb]; rfl
    have hlt9 : (ops0 s y l).mu (jM rin.t rb.t) < (ops0 s y l).mu rin.t := mu_ltM _ _ hk44_rin.ok hk44_nx.ok (jM_left hk44_rin.ok.so) (fun e => hq e.symm)
    obtain ⟨kf2, rfl⟩ : ∃ k9, kf = k9 + 1 := ⟨kf - 1, by omega⟩
    have hgo := iter_go (O := (ops0 s y l)) (f := (Fl.last (ops0 s y l) (Fl.sol (ops0 s y l) (cdOf c n) Rb) E)) (t := rin.t) (ah := tabs T1) (k := kf2) (by rw [hJ9]; exact hq)
    rw [hJ9, hXb] at hgo
    refine WQ.sb [(0, vP pb 0), (1, vI (i : Int)), (3, vI (E : Int)), (4, .slice r.q r.t.length r.c), (12, .slice pvnx ((jM rin.t rb.t).length) cpnx)] ?_
    refine WQ.then (hK19 _ _ _ (by omega) ⟨kf2, (⟨pvnx, (jM rin.t rb.t), cpnx⟩ : TbI), T2, rfl, rfl, (show (ops0 s y l).mu (jM rin.t rb.t) ≤ kf2 by omega), hgo.symm.trans hit, hk44_r, hk44_nx, hT44, hM44, HP.refl _⟩)
  ·
   refine WL.y (.bool false) 80 (x_eql rfl rfl rfl (dF (h30))) (WL.z (.bool false) 79 (WL.k hK17 ?_))
   refine WC.no rfl ?_
   refine WC.seq fun K46 hK46 => WC.region (WL.y (.bool false) 111 (x_eql rfl rfl rfl (dF (by omega))) (WL.z (.bool false) 110 (WL.k hK46 ?_)))
   refine WC.no rfl ?_
   refine WC.skip (WQ.inNormal (WQ.then (hK2 _ _ _ (WC.seq fun K47 hK47 => WC.region (WL.z (vP pb 0) 164 (WL.z (vI (i : Int)) 165 (WL.y (vI ((i + 1 : Nat) : Int)) 166 (x_ad (((i + 1 : Nat) : Int))) (WL.z (vI (E : Int)) 167 (WL.z (.slice r.q r.t.length r.c) 168 ?_)))))))))
   refine WL.c 133 #[vP pb 0, vI ((i + 1 : Nat) : Int), vI (E : Int), .slice r.q r.t.length r.c] 169 ?_
   refine (last0_any s y l m pb cq n cap b6 b4 ga c A B hg0 hn9 (i + 1) E Rb hlb (by omega) _ T _ (hE.keep (HP.startB hE.own)) (hE.tab hr (HP.startB hE.own)) (fun i9 => hE.tab (hT i9) (HP.startB hE.own))).mono ?_
   rintro e w48 ⟨r1, T1, rfl, hbw48, hr1, hT1, hXr1⟩
   refine ⟨_, rfl, ?_⟩
   have hH49 : HP (Out [pE pb cq n cap b6 b4 63 ga, aE ga n T]) w w48 [.cel pb #[.slice cq n cap, .func (.func 87) #[] #[vP b6 0, vP b4 0], .func (.func 63) #[] #[], .func (.func 88) #[] #[], .func (.func 89) #[] #[], vS ga n n] 112, .cel ga (aR n T1) 88] := HP.exchF (A := [pE pb cq n cap b6 b4 63 ga, aE ga n T]) (B := []) (HP.startB hE.own) hbw48
   have hF50 : HP (Out [pE pb cq n cap b6 b4 63 ga, aE ga n T]) w w48 [pE pb cq n cap b6 b4 63 ga, aE ga n T1] := hH49
   have hM50 := HP.exch (A := []) hM0 hF50
   have hE50 := hE.keep hF50
   have hk50_r := hE.tab hr hF50
   have hH51 := HP.startB hE50.own
   refine WL.z (.slice r1.q r1.t.length r1.c) 10 (WL.k hK47 (WC.sb [(0, vP pb 0), (1, vI (i : Int)), (2, vI (-1)), (3, vI (E : Int)), (4, .slice r.q r.t.length r.c), (10, .slice r1.q r1.t.length r1.c), (25, vI (c i)), (26, .bool false), (79, .bool false), (110, .bool false)] (WC.ret ?_)))
   refine WQ.ret1 10 rfl rfl ?_
   refine ⟨r1, T1, rfl, hM50, hr1, hT1, ?_⟩
   unfold brkP
   rw [if_neg (show ¬ (cdOf c n).c i = 29 from h29), if_neg (show ¬ (cdOf c n).c i = 30 from h30)]
   exact hXr1
theorem brA0_any (s y l m : Int) (pb : Nat) (cq : Option Addr) (n cap b6 b4 ga : Nat) (c A B : Nat → Int) (hg0 : vG s y l m = true) (hn9 : n ≤ 400) (i a E : Nat) (Ra Rb : Fl.Tr) (hop : c i = 29 ∨ c i = 33) (hia : i + 1 ≤ a) (haE : a + 1 ≤ E) (hEn : E < n) (hla : ∀ (w : World) (T : Nat → TbI) (r : TbI), Env s y l m pb cq n cap b6 b4 59 63 ga c A B w T → TbOk s y l m w r → (∀ i, TbOk s y l m w (T i)) → Calls Try.prog 108 #[vP pb 0, vI ((i + 1 : Nat) : Int), vI (a : Int), tbV r] w (TabR s y l m pb cq n cap b6 b4 63 ga T (Fl.sol (ops0 s y l) (cdOf c n) Ra r.t (tabs T)) w)) (hlb : ∀ (w : World) (T : Nat → TbI) (r : TbI), Env s y l m pb cq n cap b6 b4 59 63 ga c A B w T → TbOk s y l m w r → (∀ i, TbOk s y l m w (T i)) → Calls Try.prog 108 #[vP pb 0, vI ((a + 1 : Nat) : Int), vI (E : Int), tbV r] w (TabR s y l m pb cq n cap b6 b4 63 ga T (Fl.sol (ops0 s y l) (cdOf c n) Rb r.t (tabs T)) w)) (w : World) (T : Nat → TbI) (r : TbI) (hE : Env s y l m pb cq n cap b6 b4 59 63 ga c A B w T) (hr : TbOk s y l m w r) (hT : ∀ i, TbOk s y l m w (T i)) :
  Calls Try.prog 119 #[vP pb 0, vI (i : Int), vI (a : Int), vI (E : Int), .slice r.q r.t.length r.c] w (TabR s y l m pb cq n cap b6 b4 63 ga T (brkA (ops0 s y l) (cdOf c n) i a E (Fl.sol (ops0 s y l) (cdOf c n) Ra) (Fl.sol (ops0 s y l) (cdOf c n) Rb) r.t (tabs T)) w) := by
 refine calls_of Try.func119 rfl (m := 170) rfl [(0, vP pb 0), (1, vI (i : Int)), (2, vI (a : Int)), (3, vI (E : Int)), (4, .slice r.q r.t.length r.c)] (Fr_enter [vP pb 0, vI (i : Int), vI (a : Int), vI (E : Int), .slice r.q r.t.length r.c] 170 (Nat.le_of_ble_eq_true rfl)) ?_
 have hM0 : HP (Out [pE pb cq n cap b6 b4 63 ga, aE ga n T]) w w [pE pb cq n cap b6 b4 63 ga, aE ga n T] := HP.startB hE.own
 refine WC.seq fun K1 hK1 => WC.region (WL.z (.slice none 0 0) 10 (WL.k hK1 (WC.seq fun K2 hK2 => WC.seq fun K3 hK3 => ?_)))
 obtain ⟨gc, oc, hqc, hrowc⟩ := hE.code (by omega)
 have hgc9 := out_int hE.own (hrowc i (by omega) 0 _ rfl)
 refine WC.region (WL.z (vP pb 0) 18 (WL.z (vP pb 0) 19 (WL.z (vP pb 0) 20 (WL.y (.slice cq n cap) 21 (x_load rfl rfl Try.underlying42 rfl (HP.cell (HP.startB hE.own) 0 rfl rfl)) (WL.z (vI (i : Int)) 22 (WL.y (vP gc (oc + i * 3)) 23 (x_idx (b := gc) (off := oc) i (oc + i * 3) rfl (by rw [← hqc]; rfl) rfl Try.underlying42 sz75 (by omega) (by omega) (by omega)) (WL.z (vP gc (oc + i * 3)) 24 (WL.y (vI (c i)) 25 (x_load rfl rfl Try.underlying3 rfl ((HP.oldRange (HP.startB hE.own) hgc9 (hrowc i (by omega))) 0 _ rfl)) (WL.k hK3 ?_)))))))))
 refine WC.sb [(0, vP pb 0), (1, vI (i : Int)), (2, vI (a : Int)), (3, vI (E : Int)), (4, .slice r.q r.t.length r.c), (10, .slice none 0 0), (25, vI (c i))] (WC.block (WC.seq fun K4 hK4 => WC.region ?_))
 by_cases h29 : c i = 29
 ·
  refine WL.y (.bool true) 27 (x_eql rfl rfl rfl (dT (h29))) (WL.z (.bool true) 26 (WL.k hK4 ?_))
  refine WC.yes rfl ?_
  refine WC.seq fun K5 hK5 => WC.seq fun K6 hK6 => WC.region (WL.z (vI (a : Int)) 28 (WL.y (.bool true) 29 (x_geq rfl rfl rfl (dT (by omega))) (WL.k hK6 ?_)))
  refine WC.yes rfl ?_
  refine WC.seq fun K7 hK7 => WC.region (WL.z (vP pb 0) 30 (WL.z (vI (i : Int)) 31 (WL.y (vI ((i + 1 : Nat) : Int)) 32 (x_ad (((i + 1 : Nat) : Int))) (WL.z (vI (a : Int)) 33 (WL.z (.slice r.q r.t.length r.c) 34 ?_)))))
  refine WL.c 133 #[vP pb 0, vI ((i + 1 : Nat) : Int), vI (a : Int), .slice r.q r.t.length r.c] 35 ?_
  refine (last0_any s y l m pb cq n cap b6 b4 ga c A B hg0 hn9 (i + 1) a Ra hla (by omega) _ T _ (hE.keep (HP.startB hE.own)) (hE.tab hr (HP.startB hE.own)) (fun i9 => hE.tab (hT i9) (HP.startB hE.own))).mono ?_
  rintro e w8 ⟨r1, T1, rfl, hbw8, hr1, hT1, hXr1⟩
  refine ⟨_, rfl, ?_⟩
  have hH9 : HP (Out [pE pb cq n cap b6 b4 63 ga, aE ga n T]) w w8 [.cel pb #[.slice cq n cap, .func (.func 87) #[] #[vP b6 0, vP b4 0], .func (.func 63) #[] #[], .func (.func 88) #[] #[], .func (.func 89) #[] #[], vS ga n n] 112, .cel ga (aR n T1) 88] := HP.exchF (A := [pE pb cq n cap b6 b4 63 ga, aE ga n T]) (B := []) (HP.startB hE.own) hbw8
  have hF10 : HP (Out [pE pb cq n cap b6 b4 63 ga, aE ga n T]) w w8 [pE pb cq n cap b6 b4 63 ga, aE ga n T1] := hH9
  have hM10 := HP.exch (A := []) hM0 hF10
  have hE10 := hE.keep hF10
  have hk10_r := hE.tab hr hF10
  have hH11 := HP.startB hE10.own
  refine WL.z (.slice r1.q r1.t.length r1.c) 11 (WL.k hK7 (WC.sb [(0, vP pb 0), (1, vI (i : Int)), (2, vI (a : Int)), (3, vI (E : Int)), (4, .slice r.q r.t.length r.c), (10, .slice none 0 0), (11, .slice r1.q r1.t.length r1.c), (25, vI (c i)), (26, .bool true), (29, .bool true)] (WC.seq fun K12 hK12 => ?_)))
  refine WC.confG (γ := TbI × (Nat → TbI) × Option Addr × Nat × Unit) [(0, vP pb 0), (1, vI (i : Int)), (2, vI (a : Int)), (3, vI (E : Int)), (4, .slice r.q r.t.length r.c), (11, .slice r1.q r1.t.length r1.c), (25, vI (c i)), (26, .bool true), (29, .bool true)] (fun gy => [vP pb 0, vP pb 0, vP pb 2, .func (.func 63) #[] #[], .slice r1.q r1.t.length r1.c, vP pb 0, vI (a : Int), vI ((a + 1 : Nat) : Int), vI (E : Int), .slice r.q r.t.length r.c, .slice gy.1.q gy.1.t.length gy.1.c, .slice gy.2.2.1 ((jM r1.t gy.1.t).length) gy.2.2.2.1, .slice gy.2.2.1 ((jM r1.t gy.1.t).length) gy.2.2.2.1]) (fun gy D wz => HP (Out [pE pb cq n cap b6 b4 63 ga, aE ga n T1]) w8 wz ([.cel pb #[.slice cq n cap, .func (.func 87) #[] #[vP b6 0, vP b4 0], .func (.func 63) #[] #[], .func (.func 88) #[] #[], .func (.func 89) #[] #[], vS ga n n] 112, (bif D 10 then Ent.cel ga (aR n gy.2.1) 88 else Ent.cel ga (aR n T1) 88)] ++ ((bif D 11 then [rowT gy.2.2.1 (jM r1.t gy.1.t).length gy.2.2.2.1 (jM r1.t gy.1.t)] else []) ++ [])) ∧ (D 10 = true → (TbOk s y l m wz gy.1 ∧ (∀ i9, TbOk s y l m wz (gy.2.1 i9)) ∧ (gy.1.t, tabs gy.2.1) = Fl.last (ops0 s y l) (Fl.sol (ops0 s y l) (cdOf c n) Rb) E r.t (tabs T1)))) (⟨none, [], 0⟩, (fun _ => ⟨none, [], 0⟩), none, 0, ()) (by kernel_rfl) ⟨rfl, rfl, rfl, rfl, rfl, rfl, rfl, rfl, rfl, trivial⟩ (by kernel_rfl) (by kernel_rfl) (by kernel_rfl) (fun _ => rfl) (by kernel_rfl) (⟨HP.drew hH11, (fun h => by cases h)⟩) ?_ ?_
  ·
   refine AllOk.cons ?o0 (AllOk.cons ?o1 (AllOk.cons ?o2 (AllOk.cons ?o3 (AllOk.cons ?o4 (AllOk.cons ?o5 (AllOk.cons ?o6 (AllOk.cons ?o7 (AllOk.cons ?o8 (AllOk.cons ?o9 (AllOk.cons ?o10 (AllOk.cons ?o11 (AllOk.cons ?o12 (AllOk.nil _)))))))))))))
   case o0 =>
    rintro gy D wz hDi hdep hclo ⟨hW, hX0⟩
    exact cfv gy wz (by kernel_rfl) ⟨hW, hX0⟩
   case o1 =>
    rintro gy D wz hDi hdep hclo ⟨hW, hX0⟩
    exact cfv gy wz (by kernel_rfl) ⟨hW, hX0⟩
   case o2 =>
    rintro gy D wz hDi hdep hclo ⟨hW, hX0⟩
    exact cfv gy wz (by kernel_rfl) ⟨hW, hX0⟩
   case o3 =>
    rintro gy D wz hDi hdep hclo ⟨hW, hX0⟩
    exact cfv gy wz (x_load rfl rfl Try.underlying85 rfl (HP.cell hW 0 rfl rfl)) ⟨hW, hX0⟩
   case o4 =>
    rintro gy D wz hDi hdep hclo ⟨hW, hX0⟩
    exact cfv gy wz (by kernel_rfl) ⟨hW, hX0⟩
   case o5 =>
    rintro gy D wz hDi hdep hclo ⟨hW, hX0⟩
    exact cfv gy wz (by kernel_rfl) ⟨hW, hX0⟩
   case o6 =>
    rintro gy D wz hDi hdep hclo ⟨hW, hX0⟩
    exact cfv gy wz (by kernel_rfl) ⟨hW, hX0⟩
   case o7 =>
    rintro gy D wz hDi hdep hclo ⟨hW, hX0⟩
    exact cfv gy wz (x_ad (((a + 1 : Nat) : Int))) ⟨hW, hX0⟩
   case o8 =>
    rintro gy D wz hDi hdep hclo ⟨hW, hX0⟩
    exact cfv gy wz (by kernel_rfl) ⟨hW, hX0⟩
   case o9 =>
    rintro gy D wz hDi hdep hclo ⟨hW, hX0⟩
    exact cfv gy wz (by kernel_rfl) ⟨hW, hX0⟩
   case o10 =>
    rintro gy D wz hDi hdep hclo ⟨hW, hX0⟩
    have d11 : D 11 = false := by
     cases h : D 11 with
     | false => rfl
     | true => exact absurd (hclo 11 _ rfl h ⟨10, .data⟩ (by simp) rfl) (by rw [hDi]; exact Bool.false_ne_true)
    have d12 : D 12 = false := by
     cases h : D 12 with
     | false => rfl
     | true => exact absurd (hclo 12 _ rfl h ⟨10, .phase⟩ (by simp) rfl) (by rw [hDi]; exact Bool.false_ne_true)
    have hW2 := hW
    try simp only [d11, hDi, cond_true, cond_false, List.append_nil, List.nil_append, List.cons_append] at hW2
    refine .inl ⟨rfl, rfl, .inr (.inr ⟨133, #[vP pb 0, vI ((a + 1 : Nat) : Int), vI (E : Int), .slice r.q r.t.length r.c], by kernel_rfl, (last0_any s y l m pb cq n cap b6 b4 ga c A B hg0 hn9 (a + 1) E Rb hlb (by omega) _ T1 _ (hE10.keep hW2) (hE10.tab hk10_r hW2) (fun i9 => hE10.tab (hT1 i9) hW2)).mono ?_⟩)⟩
    rintro e w3 ⟨r2, T2, rfl, hb9, hr9, hT9, hX9⟩
    have hA := HP.exchF (A := [pE pb cq n cap b6 b4 63 ga, aE ga n T1]) (B := []) hW2 hb9
    refine ⟨⟨r2, T2, gy.2.2.1, gy.2.2.2.1, ()⟩, fun j hj => ?_, rfl, ⟨?_, fun _ => ⟨hr9, hT9, hX9⟩⟩⟩
    ·
     match j, hj with
     | 0, hj => rfl
     | 1, hj => rfl
     | 2, hj => rfl
     | 3, hj => rfl
     | 4, hj => rfl
     | 5, hj => rfl
     | 6, hj => rfl
     | 7, hj => rfl
     | 8, hj => rfl
     | 9, hj => rfl
     | 10, hj => rw [hDi] at hj; cases hj
     | 11, hj => exact absurd hj (by rw [d11]; exact Bool.false_ne_true)
     | 12, hj => exact absurd hj (by rw [d12]; exact Bool.false_ne_true)
     | j + 13, _ => rfl
    ·
     show HP (Out [pE pb cq n cap b6 b4 63 ga, aE ga n T1]) w8 w3 ([.cel pb #[.slice cq n cap, .func (.func 87) #[] #[vP b6 0, vP b4 0], .func (.func 63) #[] #[], .func (.func 88) #[] #[], .func (.func 89) #[] #[], vS ga n n] 112, Ent.cel ga (aR n T2) 88] ++ ((bif D 11 then [rowT gy.2.2.1 (jM r1.t r2.t).length gy.2.2.2.1 (jM r1.t r2.t)] else []) ++ []))
     try simp only [d11, cond_true, cond_false, List.append_nil, List.nil_append, List.cons_append]
     exact hA
   case o11 =>
    rintro gy D wz hDi hdep hclo ⟨hW, hX0⟩
    have d10 : D 10 = true := hdep ⟨10, .data⟩ (by simp) rfl
    have d12 : D 12 = false := by
     cases h : D 12 with
     | false => rfl
     | true => exact absurd (hclo 12 _ rfl h ⟨11, .data⟩ (by simp) rfl) (by rw [hDi]; exact Bool.false_ne_true)
    have hW2 := hW
    try simp only [d10, hDi, cond_true, cond_false, List.append_nil, List.nil_append, List.cons_append] at hW2
    refine .inl ⟨rfl, rfl, .inr (.inr ⟨63, #[.slice r1.q r1.t.length r1.c, .slice gy.1.q gy.1.t.length gy.1.c], by kernel_rfl, (joinMust_any r1.q gy.1.q r1.t gy.1.t r1.c gy.1.c _ (hE10.tab hr1 hW2).inn (hX0 d10).1.inn (by have := (hE10.tab hr1 hW2).ok.len; omega) (by have := (hX0 d10).1.ok.len; omega) (hX0 d10).1.ok.so).mono ?_⟩)⟩
    rintro e w3 ⟨pvj, cpj, rfl, hbj⟩
    have hA := HP.trans hW2 hbj
    refine ⟨⟨gy.1, gy.2.1, pvj, cpj, ()⟩, fun j hj => ?_, rfl, ⟨?_, fun h9 => ⟨(hX0 h9).1.below (HP.below hbj), (fun i9 => ((hX0 h9).2.1 i9).below (HP.below hbj)), (hX0 h9).2.2⟩⟩⟩
    ·
     match j, hj with
     | 0, hj => rfl
     | 1, hj => rfl
     | 2, hj => rfl
     | 3, hj => rfl
     | 4, hj => rfl
     | 5, hj => rfl
     | 6, hj => rfl
     | 7, hj => rfl
     | 8, hj => rfl
     | 9, hj => rfl
     | 10, hj => rfl
     | 11, hj => rw [hDi] at hj; cases hj
     | 12, hj => exact absurd hj (by rw [d12]; exact Bool.false_ne_true)
     | j + 13, _ => rfl
    ·
     show HP (Out [pE pb cq n cap b6 b4 63 ga, aE ga n T1]) w8 w3 ([.cel pb #[.slice cq n cap, .func (.func 87) #[] #[vP b6 0, vP b4 0], .func (.func 63) #[] #[], .func (.func 88) #[] #[], .func (.func 89) #[] #[], vS ga n n] 112, (bif D 10 then Ent.cel ga (aR n gy.2.1) 88 else Ent.cel ga (aR n T1) 88)] ++ ([rowT pvj (jM r1.t gy.1.t).length cpj (jM r1.t gy.1.t)] ++ []))
     try simp only [d10, cond_true, cond_false, List.append_nil, List.nil_append, List.cons_append]
     exact hA
   case o12 =>
    rintro gy D wz hDi hdep hclo ⟨hW, hX0⟩
    exact cfv gy wz (by kernel_rfl) ⟨hW, hX0⟩
  rintro ⟨r2, T2, pvj, cpj, gu⟩ D w13 hall ⟨hH14, hX0⟩
  have hOr2 := hX0 (hall 10 (by kernel_rfl))
  clear hX0
  simp only [hall 10 (by kernel_rfl), hall 11 (by kernel_rfl), cond_true, List.append_nil, List.nil_append, List.cons_append] at hH14
  clear hall
  refine WQ.sb [(0, vP pb 0), (1, vI (i : Int)), (2, vI (a : Int)), (3, vI (E : Int)), (4, .slice r.q r.t.length r.c), (10, .slice pvj ((jM r1.t r2.t).length) cpj), (11, .slice r1.q r1.t.length r1.c), (25, vI (c i)), (26, .bool true), (29, .bool true)] ?_
  obtain ⟨hr2, hT2, hXr2⟩ := hOr2
  have hj : TbOk s y l m w13 (⟨pvj, (jM r1.t r2.t), cpj⟩ : TbI) := ⟨InT.own (HP.get hH14 2 rfl), VT_jM hr1.ok hr2.ok⟩
  have hF15 : HP (Out [pE pb cq n cap b6 b4 63 ga, aE ga n T1]) w8 w13 [pE pb cq n cap b6 b4 63 ga, aE ga n T2] := (HP.drop hH14 2)
  have hM15 := HP.exch (A := []) hM10 hF15
  have hE15 := hE10.keep hF15
  have hk15_r := hE10.tab hk10_r hF15
  have hk15_r1 := hE10.tab hr1 hF15
  have hH16 := HP.startB hE15.own
  refine WQ.then (hK12 _ _ _ (WC.ret ?_))
  refine WQ.thenRet ?_
  refine WQ.inRet ?_
  refine WQ.thenRet ?_
  refine WQ.ret1 10 rfl rfl ?_
  refine ⟨⟨pvj, (jM r1.t r2.t), cpj⟩, T2, rfl, hM15, hj, hT2, ?_⟩
  unfold brkA
  rw [if_pos (show (cdOf c n).c i = 29 from h29), ← hXr1]
  rw [← hXr2]
  rfl
 ·
  refine WL.y (.bool false) 27 (x_eql rfl rfl rfl (dF (h29))) (WL.z (.bool false) 26 (WL.k hK4 ?_))
  refine WC.no rfl ?_
  refine WC.seq fun K17 hK17 => WC.region (WL.y (.bool false) 80 (x_eql rfl rfl rfl (dF (by omega))) (WL.z (.bool false) 79 (WL.k hK17 ?_)))
  refine WC.no rfl ?_
  refine WC.seq fun K18 hK18 => WC.region (WL.y (.bool true) 111 (x_eql rfl rfl rfl (dT (by omega))) (WL.z (.bool true) 110 (WL.k hK18 ?_)))
  refine WC.yes rfl ?_
  refine WC.seq fun K19 hK19 => WC.region (WL.z (vP pb 0) 112 (WL.z (vI (i : Int)) 113 (WL.y (vI ((i + 1 : Nat) : Int)) 114 (x_ad (((i + 1 : Nat) : Int))) (WL.z (vI (a : Int)) 115 (WL.z (.slice r.q r.t.length r.c) 116 ?_)))))
  refine WL.c 133 #[vP pb 0, vI ((i + 1 : Nat) : Int), vI (a : Int), .slice r.q r.t.length r.c] 117 ?_
  refine (last0_any s y l m pb cq n cap b6 b4 ga c A B hg0 hn9 (i + 1) a Ra hla (by omega) _ T _ (hE.keep (HP.startB hE.own)) (hE.tab hr (HP.startB hE.own)) (fun i9 => hE.tab (hT i9) (HP.startB hE.own))).mono ?_
  rintro e w20 ⟨r1, T1, rfl, hbw20, hr1, hT1, hXr1⟩
  refine ⟨_, rfl, ?_⟩
  have hH21 : HP (Out [pE pb cq n cap b6 b4 63 ga, aE ga n T]) w w20 [.cel pb #[.slice cq n cap, .func (.func 87) #[] #[vP b6 0, vP b4 0], .func (.func 63) #[] #[], .func (.func 88) #[] #[], .func (.func 89) #[] #[], vS ga n n] 112, .cel ga (aR n T1) 88] := HP.exchF (A := [pE pb cq n cap b6 b4 63 ga, aE ga n T]) (B := []) (HP.startB hE.own) hbw20
  have hF22 : HP (Out [pE pb cq n cap b6 b4 63 ga, aE ga n T]) w w20 [pE pb cq n cap b6 b4 63 ga, aE ga n T1] := hH21
  have hM22 := HP.exch (A := []) hM0 hF22
  have hE22 := hE.keep hF22
  have hk22_r := hE.tab hr hF22
  have hH23 := HP.startB hE22.own
  refine WL.z (.slice r1.q r1.t.length r1.c) 15 (WL.k hK19 (WC.sb [(0, vP pb 0), (1, vI (i : Int)), (2, vI (a : Int)), (3, vI (E : Int)), (4, .slice r.q r.t.length r.c), (10, .slice none 0 0), (15, .slice r1.q r1.t.length r1.c), (25, vI (c i)), (26, .bool false), (79, .bool false), (110, .bool true)] (WC.seq fun K24 hK24 => WC.region (WL.z (.slice r.q r.t.length r.c) 118 (WL.z (.slice r.q r.t.length r.c) 16 (WL.k hK24 ?_))))))
  refine WC.seq fun K25 hK25 => WC.seq fun K26 hK26 => WC.region (WL.z (vI (i : Int)) 119 (WL.y (vI ((i + 1 : Nat) : Int)) 120 (x_ad (((i + 1 : Nat) : Int))) (WL.z (vI ((i + 1 : Nat) : Int)) 17 (WL.k hK26 (WC.block ?_)))))
  have hEt := hE22
  refine WC.loop (fun kk0 ll0 ww0 => ∃ (v : Nat) (rc : TbI), ll0 = [(0, vP pb 0), (2, vI (a : Int)), (3, vI (E : Int)), (4, .slice r.q r.t.length r.c), (15, .slice r1.q r1.t.length r1.c), (16, .slice rc.q rc.t.length rc.c), (17, vI (v : Int))] ∧ kk0 = a - v ∧ (i + 1 ≤ v) ∧ (v ≤ a) ∧ (Fl.fold (ops0 s y l) (tabs T1) v (a - v) rc.t = Fl.fold (ops0 s y l) (tabs T1) (i + 1) (a - (i + 1)) r.t) ∧ (TbOk s y l m ww0 r) ∧ (TbOk s y l m ww0 r1) ∧ (TbOk s y l m ww0 rc) ∧ (∀ i, TbOk s y l m ww0 (T1 i)) ∧ (HP (Out [pE pb cq n cap b6 b4 63 ga, aE ga n T1]) w20 ww0 [pE pb cq n cap b6 b4 63 ga, aE ga n T1]) ∧ HP Tr ww0 ww0 []) (a - (i + 1)) [(0, vP pb 0), (2, vI (a : Int)), (3, vI (E : Int)), (4, .slice r.q r.t.length r.c), (15, .slice r1.q r1.t.length r1.c), (16, .slice r.q r.t.length r.c), (17, vI ((i + 1 : Nat) : Int))] ⟨rfl, rfl, rfl, rfl, rfl, rfl, rfl, trivial⟩ ⟨i + 1, r, rfl, rfl, Nat.le_refl _, by omega, rfl, hk22_r, hr1, hk22_r, hT1, HP.startB hE22.own, HP.refl _⟩ ?_
  rintro kk l w28 ⟨v, rc, rfl, hkk, hv1, hv2, hfo, hr3, hr4, hrc, hT3, hM2, hH29⟩ K27 hK27
  have hE1 := hEt.keep hM2
  have hMo := HP.exch (A := []) hM22 hM2
  have hH30 := HP.startB hE1.own
  refine WC.seq fun K31 hK31 => WC.seq fun K32 hK32 => WC.region (WL.z (vI (v : Int)) 121 (WL.z (vI (a : Int)) 122 ?_))
  by_cases hlt : (v : Int) < (a : Int)
  ·
   refine WL.y (.bool true) 123 (x_lss rfl rfl rfl (dT (hlt))) (WL.k hK32 ?_)
   refine WC.yes rfl ?_
   refine WC.skip (WQ.then (hK31 _ _ _ (WC.seq fun K33 hK33 => WC.block ?_)))
   refine WC.confH (γ := Option Addr × Nat × Option Addr × Nat × Unit) [(123, .bool true), (122, vI (a : Int)), (121, vI (v : Int)), (0, vP pb 0), (2, vI (a : Int)), (3, vI (E : Int)), (4, .slice r.q r.t.length r.c), (15, .slice r1.q r1.t.length r1.c), (16, .slice rc.q rc.t.length rc.c), (17, vI (v : Int))] (fun gy => [vP pb 0, vP pb 0, vP pb 2, .func (.func 63) #[] #[], .slice rc.q rc.t.length rc.c, vP pb 0, vP pb 0, vP pb 4, .func (.func 89) #[] #[], vI (v : Int), vP pb 0, vP pb 0, vP pb 1, .func (.func 87) #[] #[vP b6 0, vP b4 0], vI (v : Int), vP pb 0, vP pb 0, vP pb 5, vS ga n n, vI (v : Int), vP ga v, .slice ((T1 v).q) ((T1 v).t.length) ((T1 v).c), .slice gy.1 ((tcH s y ((v : Int) / l) 0 (T1 v).t).length) gy.2.1, .slice r.q r.t.length r.c, .slice gy.1 ((tcH s y ((v : Int) / l) 0 (T1 v).t).length) gy.2.1, .slice gy.2.2.1 ((jM rc.t (tcH s y ((v : Int) / l) 0 (T1 v).t)).length) gy.2.2.2.1, .slice gy.2.2.1 ((jM rc.t (tcH s y ((v : Int) / l) 0 (T1 v).t)).length) gy.2.2.2.1]) (fun gy D wz => HP (Out [pE pb cq n cap b6 b4 63 ga, aE ga n T1]) w28 wz ([.cel pb #[.slice cq n cap, .func (.func 87) #[] #[vP b6 0, vP b4 0], .func (.func 63) #[] #[], .func (.func 88) #[] #[], .func (.func 89) #[] #[], vS ga n n] 112, .cel ga (aR n T1) 88] ++ ((bif D 22 then [rowT gy.1 (tcH s y ((v : Int) / l) 0 (T1 v).t).length gy.2.1 (tcH s y ((v : Int) / l) 0 (T1 v).t)] else []) ++ ((bif D 25 then [rowT gy.2.2.1 (jM rc.t (tcH s y ((v : Int) / l) 0 (T1 v).t)).length gy.2.2.2.1 (jM rc.t (tcH s y ((v : Int) / l) 0 (T1 v).t))] else []) ++ [])))) (none, 0, none, 0, ()) (by kernel_rfl) ⟨rfl, rfl, rfl, rfl, rfl, rfl, rfl, rfl, rfl, rfl, trivial⟩ (by kernel_rfl) (by kernel_rfl) (by kernel_rfl) (fun _ => rfl) (by kernel_rfl) (HP.drew hH30) ?_ ?_
   ·
    refine AllOk.cons ?o0 (AllOk.cons ?o1 (AllOk.cons ?o2 (AllOk.cons ?o3 (AllOk.cons ?o4 (AllOk.cons ?o5 (AllOk.cons ?o6 (AllOk.cons ?o7 (AllOk.cons ?o8 (AllOk.cons ?o9 (AllOk.cons ?o10 (AllOk.cons ?o11 (AllOk.cons ?o12 (AllOk.cons ?o13 (AllOk.cons ?o14 (AllOk.cons ?o15 (AllOk.cons ?o16 (AllOk.cons ?o17 (AllOk.cons ?o18 (AllOk.cons ?o19 (AllOk.cons ?o20 (AllOk.cons ?o21 (AllOk.cons ?o22 (AllOk.cons ?o23 (AllOk.cons ?o24 (AllOk.cons ?o25 (AllOk.cons ?o26 (AllOk.nil _)))))))))))))))))))))))))))
    case o0 =>
     intro gy D wz hDi hdep hclo hW
     exact cfv gy wz (by kernel_rfl) hW
    case o1 =>
     intro gy D wz hDi hdep hclo hW
     exact cfv gy wz (by kernel_rfl) hW
    case o2 =>
     intro gy D wz hDi hdep hclo hW
     exact cfv gy wz (by kernel_rfl) hW
    case o3 =>
     intro gy D wz hDi hdep hclo hW
     exact cfv gy wz (x_load rfl rfl Try.underlying85 rfl (HP.cell hW 0 rfl rfl)) hW
    case o4 =>
     intro gy D wz hDi hdep hclo hW
     exact cfv gy wz (by kernel_rfl) hW
    case o5 =>
     intro gy D wz hDi hdep hclo hW
     exact cfv gy wz (by kernel_rfl) hW
    case o6 =>
     intro gy D wz hDi hdep hclo hW
     exact cfv gy wz (by kernel_rfl) hW
    case o7 =>
     intro gy D wz hDi hdep hclo hW
     exact cfv gy wz (by kernel_rfl) hW
    case o8 =>
     intro gy D wz hDi hdep hclo hW
     exact cfv gy wz (x_load rfl rfl Try.underlying109 rfl (HP.cell hW 0 rfl rfl)) hW
    case o9 =>
     intro gy D wz hDi hdep hclo hW
     exact cfv gy wz (by kernel_rfl) hW
    case o10 =>
     intro gy D wz hDi hdep hclo hW
     exact cfv gy wz (by kernel_rfl) hW
    case o11 =>
     intro gy D wz hDi hdep hclo hW
     exact cfv gy wz (by kernel_rfl) hW
    case o12 =>
     intro gy D wz hDi hdep hclo hW
     exact cfv gy wz (by kernel_rfl) hW
    case o13 =>
     intro gy D wz hDi hdep hclo hW
     exact cfv gy wz (x_load rfl rfl Try.underlying107 rfl (HP.cell hW 0 rfl rfl)) hW
    case o14 =>
     intro gy D wz hDi hdep hclo hW
     exact cfv gy wz (by kernel_rfl) hW
    case o15 =>
     intro gy D wz hDi hdep hclo hW
     exact cfv gy wz (by kernel_rfl) hW
    case o16 =>
     intro gy D wz hDi hdep hclo hW
     exact cfv gy wz (by kernel_rfl) hW
    case o17 =>
     intro gy D wz hDi hdep hclo hW
     exact cfv gy wz (by kernel_rfl) hW
    case o18 =>
     intro gy D wz hDi hdep hclo hW
     exact cfv gy wz (x_load rfl rfl Try.underlying110 rfl (HP.cell hW 0 rfl rfl)) hW
    case o19 =>
     intro gy D wz hDi hdep hclo hW
     exact cfv gy wz (by kernel_rfl) hW
    case o20 =>
     intro gy D wz hDi hdep hclo hW
     exact cfv gy wz (x_ix (v) (v) Try.underlying110 sz88) hW
    case o21 =>
     intro gy D wz hDi hdep hclo hW
     exact cfv gy wz (x_load rfl rfl Try.underlying88 rfl (HP.cell hW 1 rfl (aR_get (by omega)))) hW
    case o22 =>
     intro gy D wz hDi hdep hclo hW
     have d24 : D 24 = false := by
      cases h : D 24 with
      | false => rfl
      | true => exact absurd (hclo 24 _ rfl h ⟨22, .data⟩ (by simp) rfl) (by rw [hDi]; exact Bool.false_ne_true)
     have d25 : D 25 = false := by
      cases h : D 25 with
      | false => rfl
      | true => exact absurd (hclo 25 _ rfl h ⟨24, .data⟩ (by simp) rfl) (by rw [d24]; exact Bool.false_ne_true)
     have hW2 := hW
     try simp only [d25, hDi, cond_true, cond_false, List.append_nil, List.nil_append, List.cons_append] at hW2
     refine .inl ⟨rfl, rfl, .inr (.inr ⟨87, #[vI (v : Int), .slice ((T1 v).q) ((T1 v).t.length) ((T1 v).c), vP b6 0, vP b4 0], by kernel_rfl, (do0_any s y l m v (T1 v).q (T1 v).t (T1 v).c b6 b4 _ (hE1.keep hW2).how (hE1.keep hW2).geo (hE1.tab (hT3 v) hW2).inn (hT3 v).ok (by omega)).mono ?_⟩)⟩
     rintro e w3 ⟨pvd, cpd, rfl, hbd⟩
     have hA := HP.trans hW2 hbd
     refine ⟨⟨pvd, cpd, gy.2.2.1, gy.2.2.2.1, ()⟩, fun j hj => ?_, rfl, ?_⟩
     ·
      match j, hj with
      | 0, hj => rfl
      | 1, hj => rfl
      | 2, hj => rfl
      | 3, hj => rfl
      | 4, hj => rfl
      | 5, hj => rfl
      | 6, hj => rfl
      | 7, hj => rfl
      | 8, hj => rfl
      | 9, hj => rfl
      | 10, hj => rfl
      | 11, hj => rfl
      | 12, hj => rfl
      | 13, hj => rfl
      | 14, hj => rfl
      | 15, hj => rfl
      | 16, hj => rfl
      | 17, hj => rfl
      | 18, hj => rfl
      | 19, hj => rfl
      | 20, hj => rfl
      | 21, hj => rfl
      | 22, hj => rw [hDi] at hj; cases hj
      | 23, hj => rfl
      | 24, hj => exact absurd hj (by rw [d24]; exact Bool.false_ne_true)
      | 25, hj => rfl
      | 26, hj => rfl
      | j + 27, _ => rfl
     ·
      show HP (Out [pE pb cq n cap b6 b4 63 ga, aE ga n T1]) w28 w3 ([.cel pb #[.slice cq n cap, .func (.func 87) #[] #[vP b6 0, vP b4 0], .func (.func 63) #[] #[], .func (.func 88) #[] #[], .func (.func 89) #[] #[], vS ga n n] 112, .cel ga (aR n T1) 88] ++ ([rowT pvd (tcH s y ((v : Int) / l) 0 (T1 v).t).length cpd (tcH s y ((v : Int) / l) 0 (T1 v).t)] ++ ((bif D 25 then [rowT gy.2.2.1 (jM rc.t (tcH s y ((v : Int) / l) 0 (T1 v).t)).length gy.2.2.2.1 (jM rc.t (tcH s y ((v : Int) / l) 0 (T1 v).t))] else []) ++ [])))
      try simp only [d25, cond_true, cond_false, List.append_nil, List.nil_append, List.cons_append]
      exact hA
    case o23 =>
     intro gy D wz hDi hdep hclo hW
     exact cfv gy wz (by kernel_rfl) hW
    case o24 =>
     intro gy D wz hDi hdep hclo hW
     exact .inl ⟨rfl, rfl, .inr (.inr ⟨89, #[vI (v : Int), .slice gy.1 ((tcH s y ((v : Int) / l) 0 (T1 v).t).length) gy.2.1, .slice r.q r.t.length r.c], by kernel_rfl, (caught_any _ _ _ _).mono fun e w2 h => ⟨gy, fun _ _ => rfl, h.1, by rw [← h.2]; exact hW⟩⟩)⟩
    case o25 =>
     intro gy D wz hDi hdep hclo hW
     have d24 : D 24 = true := hdep ⟨24, .data⟩ (by simp) rfl
     have d22 : D 22 = true := hclo 24 _ rfl d24 ⟨22, .data⟩ (by simp) rfl
     have d26 : D 26 = false := by
      cases h : D 26 with
      | false => rfl
      | true => exact absurd (hclo 26 _ rfl h ⟨25, .data⟩ (by simp) rfl) (by rw [hDi]; exact Bool.false_ne_true)
     have hW2 := hW
     try simp only [d22, hDi, cond_true, cond_false, List.append_nil, List.nil_append, List.cons_append] at hW2
     have hdo : TbOk s y l m wz (⟨gy.1, (tcH s y ((v : Int) / l) 0 (T1 v).t), gy.2.1⟩ : TbI) := ⟨InT.own (HP.get hW2 2 rfl), VT_tc (hT3 v).ok (line_of (vG_iff.1 hg0).2.2.1 (by omega))⟩
     refine .inl ⟨rfl, rfl, .inr (.inr ⟨63, #[.slice rc.q rc.t.length rc.c, .slice gy.1 ((tcH s y ((v : Int) / l) 0 (T1 v).t).length) gy.2.1], by kernel_rfl, (joinMust_any rc.q (⟨gy.1, (tcH s y ((v : Int) / l) 0 (T1 v).t), gy.2.1⟩ : TbI).q rc.t (⟨gy.1, (tcH s y ((v : Int) / l) 0 (T1 v).t), gy.2.1⟩ : TbI).t rc.c (⟨gy.1, (tcH s y ((v : Int) / l) 0 (T1 v).t), gy.2.1⟩ : TbI).c _ (hE1.tab hrc hW2).inn hdo.inn (by have := (hE1.tab hrc hW2).ok.len; omega) (by have := hdo.ok.len; omega) hdo.ok.so).mono ?_⟩)⟩
     rintro e w3 ⟨pvj, cpj, rfl, hbj⟩
     have hA := HP.trans hW2 hbj
     refine ⟨⟨gy.1, gy.2.1, pvj, cpj, ()⟩, fun j hj => ?_, rfl, ?_⟩
     ·
      match j, hj with
      | 0, hj => rfl
      | 1, hj => rfl
      | 2, hj => rfl
      | 3, hj => rfl
      | 4, hj => rfl
      | 5, hj => rfl
      | 6, hj => rfl
      | 7, hj => rfl
      | 8, hj => rfl
      | 9, hj => rfl
      | 10, hj => rfl
      | 11, hj => rfl
      | 12, hj => rfl
      | 13, hj => rfl
      | 14, hj => rfl
      | 15, hj => rfl
      | 16, hj => rfl
      | 17, hj => rfl
      | 18, hj => rfl
      | 19, hj => rfl
      | 20, hj => rfl
      | 21, hj => rfl
      | 22, hj => rfl
      | 23, hj => rfl
      | 24, hj => rfl
      | 25, hj => rw [hDi] at hj; cases hj
      | 26, hj => exact absurd hj (by rw [d26]; exact Bool.false_ne_true)
      | j + 27, _ => rfl
     ·
      show HP (Out [pE pb cq n cap b6 b4 63 ga, aE ga n T1]) w28 w3 ([.cel pb #[.slice cq n cap, .func (.func 87) #[] #[vP b6 0, vP b4 0], .func (.func 63) #[] #[], .func (.func 88) #[] #[], .func (.func 89) #[] #[], vS ga n n] 112, .cel ga (aR n T1) 88] ++ ((bif D 22 then [rowT gy.1 (tcH s y ((v : Int) / l) 0 (T1 v).t).length gy.2.1 (tcH s y ((v : Int) / l) 0 (T1 v).t)] else []) ++ ([rowT pvj (jM rc.t (tcH s y ((v : Int) / l) 0 (T1 v).t)).length cpj (jM rc.t (tcH s y ((v : Int) / l) 0 (T1 v).t))] ++ [])))
      try simp only [d22, cond_true, cond_false, List.append_nil, List.nil_append, List.cons_append]
      exact hA
    case o26 =>
     intro gy D wz hDi hdep hclo hW
     exact cfv gy wz (by kernel_rfl) hW
   rintro ⟨pvd, cpd, pvj, cpj, gu⟩ D w34 hall hH35
   simp only [hall 22 (by kernel_rfl), hall 25 (by kernel_rfl), cond_true, List.append_nil, List.nil_append, List.cons_append] at hH35
   clear hall
   refine WQ.sb [(0, vP pb 0), (2, vI (a : Int)), (3, vI (E : Int)), (4, .slice r.q r.t.length r.c), (15, .slice r1.q r1.t.length r1.c), (16, .slice pvj ((jM rc.t (tcH s y ((v : Int) / l) 0 (T1 v).t)).length) cpj), (17, vI (v : Int)), (123, .bool true)] ?_
   have hcj : TbOk s y l m w34 (⟨pvj, (jM rc.t (tcH s y ((v : Int) / l) 0 (T1 v).t)), cpj⟩ : TbI) := ⟨InT.own (HP.get hH35 3 rfl), VT_jM hrc.ok (VT_tc (hT3 v).ok (line_of (vG_iff.1 hg0).2.2.1 (by omega)))⟩
   have hF36 : HP (Out [pE pb cq n cap b6 b4 63 ga, aE ga n T1]) w28 w34 [pE pb cq n cap b6 b4 63 ga, aE ga n T1] := (HP.drop (HP.drop hH35 3) 2)
   have hM36 := HP.exch (A := []) hMo hF36
   have hE36 := hE1.keep hF36
   have hk36_r := hE1.tab hr3 hF36
   have hk36_r1 := hE1.tab hr4 hF36
   have hk36_rc := hE1.tab hrc hF36
   have hT36 := fun i9 => hE1.tab (hT3 i9) hF36
   have hH37 := HP.startB hE36.own
   refine WQ.inNormal (WQ.then (hK33 _ _ _ (WC.region (WL.z (vI (v : Int)) 124 (WL.y (vI ((v + 1 : Nat) : Int)) 125 (x_ad (((v + 1 : Nat) : Int))) (WL.z (vI ((v + 1 : Nat) : Int)) 17 (WL.nil (WQ.sb [(0, vP pb 0), (2, vI (a : Int)), (3, vI (E : Int)), (4, .slice r.q r.t.length r.c), (15, .slice r1.q r1.t.length r1.c), (16, .slice pvj ((jM rc.t (tcH s y ((v : Int) / l) 0 (T1 v).t)).length) cpj), (17, vI ((v + 1 : Nat) : Int))] ?_))))))))
   refine WQ.then (hK27 _ _ _ (by omega) ⟨v + 1, (⟨pvj, (jM rc.t (tcH s y ((v : Int) / l) 0 (T1 v).t)), cpj⟩ : TbI), rfl, rfl, by omega, by omega, (fold_step (O := (ops0 s y l)) (ah := tabs T1) (a := a) (v := v) (x := rc.t) (by omega)).symm.trans hfo, hk36_r, hk36_r1, hcj, hT36, HP.exch (A := []) hM2 hF36, HP.refl _⟩)
  ·
   refine WL.y (.bool false) 123 (x_lss rfl rfl rfl (dF (hlt))) (WL.k hK32 ?_)
   refine WC.no rfl ?_
   refine WC.exit (WQ.thenExit (WQ.thenExit (WQ.inExit (WQ.then (hK25 _ _ _ (WC.seq fun K38 hK38 => ?_))))))
   have hfo2 : Fl.fold (ops0 s y l) (tabs T1) (i + 1) (a - (i + 1)) r.t = rc.t := by rw [← hfo, fold_end (by omega)]
   refine WC.confG (γ := TbI × (Nat → TbI) × Option Addr × Nat × Unit) [(123, .bool false), (122, vI (a : Int)), (121, vI (v : Int)), (0, vP pb 0), (2, vI (a : Int)), (3, vI (E : Int)), (4, .slice r.q r.t.length r.c), (15, .slice r1.q r1.t.length r1.c), (16, .slice rc.q rc.t.length rc.c), (17, vI (v : Int))] (fun gy => [vP pb 0, vP pb 0, vP pb 2, .func (.func 63) #[] #[], .slice r1.q r1.t.length r1.c, vP pb 0, vI (a : Int), vI ((a + 1 : Nat) : Int), vI (E : Int), .slice rc.q rc.t.length rc.c, .slice gy.1.q gy.1.t.length gy.1.c, .slice gy.2.2.1 ((jM r1.t gy.1.t).length) gy.2.2.2.1, .slice gy.2.2.1 ((jM r1.t gy.1.t).length) gy.2.2.2.1]) (fun gy D wz => HP (Out [pE pb cq n cap b6 b4 63 ga, aE ga n T1]) w28 wz ([.cel pb #[.slice cq n cap, .func (.func 87) #[] #[vP b6 0, vP b4 0], .func (.func 63) #[] #[], .func (.func 88) #[] #[], .func (.func 89) #[] #[], vS ga n n] 112, (bif D 10 then Ent.cel ga (aR n gy.2.1) 88 else Ent.cel ga (aR n T1) 88)] ++ ((bif D 11 then [rowT gy.2.2.1 (jM r1.t gy.1.t).length gy.2.2.2.1 (jM r1.t gy.1.t)] else []) ++ [])) ∧ (D 10 = true → (TbOk s y l m wz gy.1 ∧ (∀ i9, TbOk s y l m wz (gy.2.1 i9)) ∧ (gy.1.t, tabs gy.2.1) = Fl.last (ops0 s y l) (Fl.sol (ops0 s y l) (cdOf c n) Rb) E rc.t (tabs T1)))) (⟨none, [], 0⟩, (fun _ => ⟨none, [], 0⟩), none, 0, ()) (by kernel_rfl) ⟨rfl, rfl, rfl, rfl, rfl, rfl, rfl, rfl, rfl, rfl, trivial⟩ (by kernel_rfl) (by kernel_rfl) (by kernel_rfl) (fun _ => rfl) (by kernel_rfl) (⟨HP.drew hH30, (fun h => by cases h)⟩) ?_ ?_
   ·
    refine AllOk.cons ?o0 (AllOk.cons ?o1 (AllOk.cons ?o2 (AllOk.cons ?o3 (AllOk.cons ?o4 (AllOk.cons ?o5 (AllOk.cons ?o6 (AllOk.cons ?o7 (AllOk.cons ?o8 (AllOk.cons ?o9 (AllOk.cons ?o10 (AllOk.cons ?o11 (AllOk.cons ?o12 (AllOk.nil _)))))))))))))
    case o0 =>
     rintro gy D wz hDi hdep hclo ⟨hW, hX0⟩
     exact cfv gy wz (by kernel_rfl) ⟨hW, hX0⟩
    case o1 =>
     rintro gy D wz hDi hdep hclo ⟨hW, hX0⟩
     exact cfv gy wz (by kernel_rfl) ⟨hW, hX0⟩
    case o2 =>
     rintro gy D wz hDi hdep hclo ⟨hW, hX0⟩
     exact cfv gy wz (by kernel_rfl) ⟨hW, hX0⟩
    case o3 =>
     rintro gy D wz hDi hdep hclo ⟨hW, hX0⟩
     exact cfv gy wz (x_load rfl rfl Try.underlying85 rfl (HP.cell hW 0 rfl rfl)) ⟨hW, hX0⟩
    case o4 =>
     rintro gy D wz hDi hdep hclo ⟨hW, hX0⟩
     exact cfv gy wz (by kernel_rfl) ⟨hW, hX0⟩
    case o5 =>
     rintro gy D wz hDi hdep hclo ⟨hW, hX0⟩
     exact cfv gy wz (by kernel_rfl) ⟨hW, hX0⟩
    case o6 =>
     rintro gy D wz hDi hdep hclo ⟨hW, hX0⟩
     exact cfv gy wz (by kernel_rfl) ⟨hW, hX0⟩
    case o7 =>
     rintro gy D wz hDi hdep hclo ⟨hW, hX0⟩
     exact cfv gy wz (x_ad (((a + 1 : Nat) : Int))) ⟨hW, hX0⟩
    case o8 =>
     rintro gy D wz hDi hdep hclo ⟨hW, hX0⟩
     exact cfv gy wz (by kernel_rfl) ⟨hW, hX0⟩
    case o9 =>
     rintro gy D wz hDi hdep hclo ⟨hW, hX0⟩
     exact cfv gy wz (by kernel_rfl) ⟨hW, hX0⟩
    case o10 =>
     rintro gy D wz hDi hdep hclo ⟨hW, hX0⟩
     have d11 : D 11 = false := by
      cases h : D 11 with
      | false => rfl
      | true => exact absurd (hclo 11 _ rfl h ⟨10, .data⟩ (by simp) rfl) (by rw [hDi]; exact Bool.false_ne_true)
     have d12 : D 12 = false := by
      cases h : D 12 with
      | false => rfl
      | true => exact absurd (hclo 12 _ rfl h ⟨10, .phase⟩ (by simp) rfl) (by rw [hDi]; exact Bool.false_ne_true)
     have hW2 := hW
     try simp only [d11, hDi, cond_true, cond_false, List.append_nil, List.nil_append, List.cons_append] at hW2
     refine .inl ⟨rfl, rfl, .inr (.inr ⟨133, #[vP pb 0, vI ((a + 1 : Nat) : Int), vI (E : Int), .slice rc.q rc.t.length rc.c], by kernel_rfl, (last0_any s y l m pb cq n cap b6 b4 ga c A B hg0 hn9 (a + 1) E Rb hlb (by omega) _ T1 _ (hE1.keep hW2) (hE1.tab hrc hW2) (fun i9 => hE1.tab (hT3 i9) hW2)).mono ?_⟩)⟩
     rintro e w3 ⟨r2, T2, rfl, hb9, hr9, hT9, hX9⟩
     have hA := HP.exchF (A := [pE pb cq n cap b6 b4 63 ga, aE ga n T1]) (B := []) hW2 hb9
     refine ⟨⟨r2, T2, gy.2.2.1, gy.2.2.2.1, ()⟩, fun j hj => ?_, rfl, ⟨?_, fun _ => ⟨hr9, hT9, hX9⟩⟩⟩
     ·
      match j, hj with
      | 0, hj => rfl
      | 1, hj => rfl
      | 2, hj => rfl
      | 3, hj => rfl
      | 4, hj => rfl
      | 5, hj => rfl
      | 6, hj => rfl
      | 7, hj => rfl
      | 8, hj => rfl
      | 9, hj => rfl
      | 10, hj => rw [hDi] at hj; cases hj
      | 11, hj => exact absurd hj (by rw [d11]; exact Bool.false_ne_true)
      | 12, hj => exact absurd hj (by rw [d12]; exact Bool.false_ne_true)
      | j + 13, _ => rfl
     ·
      show HP (Out [pE pb cq n cap b6 b4 63 ga, aE ga n T1]) w28 w3 ([.cel pb #[.slice cq n cap, .func (.func 87) #[] #[vP b6 0, vP b4 0], .func (.func 63) #[] #[], .func (.func 88) #[] #[], .func (.func 89) #[] #[], vS ga n n] 112, Ent.cel ga (aR n T2) 88] ++ ((bif D 11 then [rowT gy.2.2.1 (jM r1.t r2.t).length gy.2.2.2.1 (jM r1.t r2.t)] else []) ++ []))
      try simp only [d11, cond_true, cond_false, List.append_nil, List.nil_append, List.cons_append]
      exact hA
    case o11 =>
     rintro gy D wz hDi hdep hclo ⟨hW, hX0⟩
     have d10 : D 10 = true := hdep ⟨10, .data⟩ (by simp) rfl
     have d12 : D 12 = false := by
      cases h : D 12 with
      | false => rfl
      | true => exact absurd (hclo 12 _ rfl h ⟨11, .data⟩ (by simp) rfl) (by rw [hDi]; exact Bool.false_ne_true)
     have hW2 := hW
     try simp only [d10, hDi, cond_true, cond_false, List.append_nil, List.nil_append, List.cons_append] at hW2
     refine .inl ⟨rfl, rfl, .inr (.inr ⟨63, #[.slice r1.q r1.t.length r1.c, .slice gy.1.q gy.1.t.length gy.1.c], by kernel_rfl, (joinMust_any r1.q gy.1.q r1.t gy.1.t r1.c gy.1.c _ (hE1.tab hr4 hW2).inn (hX0 d10).1.inn (by have := (hE1.tab hr4 hW2).ok.len; omega) (by have := (hX0 d10).1.ok.len; omega) (hX0 d10).1.ok.so).mono ?_⟩)⟩
     rintro e w3 ⟨pvj, cpj, rfl, hbj⟩
     have hA := HP.trans hW2 hbj
     refine ⟨⟨gy.1, gy.2.1, pvj, cpj, ()⟩, fun j hj => ?_, rfl, ⟨?_, fun h9 => ⟨(hX0 h9).1.below (HP.below hbj), (fun i9 => ((hX0 h9).2.1 i9).below (HP.below hbj)), (hX0 h9).2.2⟩⟩⟩
     ·
      match j, hj with
      | 0, hj => rfl
      | 1, hj => rfl
      | 2, hj => rfl
      | 3, hj => rfl
      | 4, hj => rfl
      | 5, hj => rfl
      | 6, hj => rfl
      | 7, hj => rfl
      | 8, hj => rfl
      | 9, hj => rfl
      | 10, hj => rfl
      | 11, hj => rw [hDi] at hj; cases hj
      | 12, hj => exact absurd hj (by rw [d12]; exact Bool.false_ne_true)
      | j + 13, _ => rfl
     ·
      show HP (Out [pE pb cq n cap b6 b4 63 ga, aE ga n T1]) w28 w3 ([.cel pb #[.slice cq n cap, .func (.func 87) #[] #[vP b6 0, vP b4 0], .func (.func 63) #[] #[], .func (.func 88) #[] #[], .func (.func 89) #[] #[], vS ga n n] 112, (bif D 10 then Ent.cel ga (aR n gy.2.1) 88 else Ent.cel ga (aR n T1) 88)] ++ ([rowT pvj (jM r1.t gy.1.t).length cpj (jM r1.t gy.1.t)] ++ []))
      try simp only [d10, cond_true, cond_false, List.append_nil, List.nil_append, List.cons_append]
      exact hA
    case o12 =>
     rintro gy D wz hDi hdep hclo ⟨hW, hX0⟩
     exact cfv gy wz (by kernel_rfl) ⟨hW, hX0⟩
   rintro ⟨r2, T2, pvj, cpj, gu⟩ D w39 hall ⟨hH40, hX0⟩
   have hOr2 := hX0 (hall 10 (by kernel_rfl))
   clear hX0
   simp only [hall 10 (by kernel_rfl), hall 11 (by kernel_rfl), cond_true, List.append_nil, List.nil_append, List.cons_append] at hH40
   clear hall
   refine WQ.sb [(0, vP pb 0), (2, vI (a : Int)), (3, vI (E : Int)), (4, .slice r.q r.t.length r.c), (10, .slice pvj ((jM r1.t r2.t).length) cpj), (15, .slice r1.q r1.t.length r1.c), (16, .slice rc.q rc.t.length rc.c), (17, vI (v : Int)), (123, .bool false)] ?_
   obtain ⟨hr2, hT2, hXr2⟩ := hOr2
   have hj : TbOk s y l m w39 (⟨pvj, (jM r1.t r2.t), cpj⟩ : TbI) := ⟨InT.own (HP.get hH40 2 rfl), VT_jM hr4.ok hr2.ok⟩
   have hF41 : HP (Out [pE pb cq n cap b6 b4 63 ga, aE ga n T1]) w28 w39 [pE pb cq n cap b6 b4 63 ga, aE ga n T2] := (HP.drop hH40 2)
   have hM41 := HP.exch (A := []) hMo hF41
   have hE41 := hE1.keep hF41
   have hk41_r := hE1.tab hr3 hF41
   have hk41_r1 := hE1.tab hr4 hF41
   have hk41_rc := hE1.tab hrc hF41
   have hH42 := HP.startB hE41.own
   refine WQ.then (hK38 _ _ _ (WC.ret ?_))
   refine WQ.inRet ?_
   refine WQ.thenRet ?_
   refine WQ.ret1 10 rfl rfl ?_
   refine ⟨⟨pvj, (jM r1.t r2.t), cpj⟩, T2, rfl, hM41, hj, hT2, ?_⟩
   unfold brkA
   rw [if_neg (show ¬ (cdOf c n).c i = 29 from h29), ← hXr1, hfo2]
   rw [← hXr2]
   rfl
end Ca
end Go.Proofs.Ytmjnakhpekbenaa
namespace Go.Proofs.Ytmjnakhpekbenaa
open Go.RowKit Fw
namespace Ca
theorem br_all0 (s y l m : Int) (pb : Nat) (cq : Option Addr) (n cap b6 b4 ga : Nat) (c A B : Nat → Int) (hg0 : vG s y l m = true) (hn9 : n ≤ 400) (hc : Ec.chk c A B false n = 0) : ∀ (R : Fl.Tr) (k j : Nat), Fl.Is (cdOf c n) R k j → j ≤ n → BrAll (BrP0 s y l m pb cq n cap b6 b4 ga c A B) (BrA0 s y l m pb cq n cap b6 b4 ga c A B) R
  | .nil, k, j, h, hj => trivial
  | .one i r, k, j, h, hj => br_all0 s y l m pb cq n cap b6 b4 ga c A B hg0 hn9 hc r (k + 1) j h.2.2 hj
  | .plain i E b r, k, j, h, hj => by
    obtain ⟨h1, h2, h3, h4, h5, h6, h7, h8⟩ := h
    subst h1
    have h9 := h8.le
    have h10 := h7.le
    have hb := br_all0 s y l m pb cq n cap b6 b4 ga c A B hg0 hn9 hc b _ _ h7 (by omega)
    exact ⟨fun w T r' hE hr hT => brP0_any s y l m pb cq n cap b6 b4 ga c A B hg0 hn9 i E b h2 (by omega) (by omega) (fun w T r hE hr hT => list0_any s y l m pb cq n cap b6 b4 ga c A B hg0 hc b (i + 1) E h7 (by omega) hb w T r hE hr hT) w T r' hE hr hT, br_all0 s y l m pb cq n cap b6 b4 ga c A B hg0 hn9 hc r _ _ h8 hj⟩
  | .alt i a E b1 b2 r, k, j, h, hj => by
    obtain ⟨h1, h2, h3, h4, h5, h6, h7, h8, h9, h10, h11⟩ := h
    subst h1
    have h12 := h9.le
    have h13 := h10.le
    have h14 := h11.le
    have hb1 := br_all0 s y l m pb cq n cap b6 b4 ga c A B hg0 hn9 hc b1 _ _ h9 (by omega)
    have hb2 := br_all0 s y l m pb cq n cap b6 b4 ga c A B hg0 hn9 hc b2 _ _ h10 (by omega)
    exact ⟨fun w T r' hE hr hT => brA0_any s y l m pb cq n cap b6 b4 ga c A B hg0 hn9 i a E b1 b2 h2 (by omega) (by omega) (by omega) (fun w T r hE hr hT => list0_any s y l m pb cq n cap b6 b4 ga c A B hg0 hc b1 (i + 1) a h9 (by omega) hb1 w T r hE hr hT) (fun w T r hE hr hT => list0_any s y l m pb cq n cap b6 b4 ga c A B hg0 hc b2 (a + 1) E h10 (by omega) hb2 w T r hE hr hT) w T r' hE hr hT, br_all0 s y l m pb cq n cap b6 b4 ga c A B hg0 hn9 hc r _ _ h11 hj⟩
noncomputable def trC (c : Nat → Int) (n : Nat) : Fl.Tr := open Classical in if h : ∃ R, Fl.Is (cdOf c n) R 0 n then Classical.choose h else .nil
theorem trC_is {c A B : Nat → Int} {n : Nat} (h : Ec.chk c A B false n = 0) : Fl.Is (cdOf c n) (trC c n) 0 n := by
  have h1 := is_tree h
  unfold trC
  rw [dif_pos h1]
  exact Classical.choose_spec h1
theorem hR0 {s y l m : Int} {n : Nat} {c A B : Nat → Int} (hn : n ≤ 400) (h : okC s y l m c A B n = true) : Fl.Is (cdOf c n) (trC c n) 0 n ∧ ∀ (pb : Nat) (cq : Option Addr) (cap b6 b4 ga : Nat), BrAll (BrP0 s y l m pb cq n cap b6 b4 ga c A B) (BrA0 s y l m pb cq n cap b6 b4 ga c A B) (trC c n) := by
  obtain ⟨h1, h2, h3⟩ := okC_iff.1 h
  exact ⟨trC_is h2, fun pb cq cap b6 b4 ga => br_all0 s y l m pb cq n cap b6 b4 ga c A B h1 hn h2 _ 0 n (trC_is h2) (Nat.le_refl _)⟩
theorem MustA (s y l m : Int) (p : Option Addr) (n cap : Nat) (c A B : Nat → Int) (w : World) (hIn : Ec.InC w p n c A B) (hn : n ≤ 400) :
    Calls Try.prog 46 #[.agg #[vI s, vI y, vI l, vI m], .slice p n cap] w (MarkR0 s y l m c A B n (trC c n) w) := Must_any s y l m p n cap c A B (trC c n) (hR0 hn) w hIn hn
end Ca
end Go.Proofs.Ytmjnakhpekbenaa
namespace Go.Proofs.Ytmjnakhpekbenaa
open Go.Maps Go.RowKit Go.Sort
namespace Fw
section
variable {P : Program} {ρ : Operand → Value} {o : Oper} {ops : Array Oper} {Q : Exit → Act → World → Prop} {rest : List Oper} {n : Nat} {l : List (Nat × Value)} {w w' w0 : World} {S : Nat → Prop} {H H2 : List Ent}
theorem HP.obj (h : HP S w0 w H) (o : Obj) : HP S w0 (w.alloc o) H := HP.call h ((Below.refl w.heap.size w).alloc (Nat.le_refl _) o)
theorem HP.grown {mb : Nat} (h : HP S w0 w H) (hg : w.grownBy w' (some mb)) (hm : w0.heap.size ≤ mb) (hne : ∀ e ∈ H, e.blk ≠ some mb) : HP S w0 w' H :=
  ⟨hg.os.trans h.os, hg.tape.trans h.tape, hg.output.trans h.output, Nat.le_trans h.size hg.size, fun k hk hs => (hg.block k (Nat.lt_of_lt_of_le hk h.size) (fun e => by injection e; omega)).trans (h.keep k hk hs),
    fun e he => Ent.keep (h.hold e he) (fun b hb => hg.block b (Ent.lt (h.hold e he) hb) (fun q => hne e he (by rw [hb, q]))), h.fresh, h.apart⟩
theorem WL.mapMake {o : Oper} {t : TypeId} (d : Nat) (hd : o.dst = some d) (hn : d < n) (hw : wants ops l o = some true) (ho : o.op = .makeMap t none)
    (h : WL P ops Q rest n ((d, .map (some w.heap.size)) :: l) (w.alloc (.map #[] 0))) : WL P ops Q (o :: rest) n l w := by
  intro a ha
  refine wpList_step fun K hK => ?_
  rw [if_pos (wants_spec ha hw)]
  unfold Oper.wp
  have hr : (execOp a.eval o).run P w = .ok (.value (.map (some w.heap.size))) (w.alloc (.map #[] 0)) := by
    unfold execOp; rw [ho]
    have := run_makeMap (P := P) t w
    simp [this]
  rw [hr, Oper.upon_value, hd]
  exact hK _ _ (h _ (ha.put hn _))
theorem WL.mapPut {o : Oper} {m x v : Operand} {t k e : TypeId} {R : Value → Option (DataW Unit × List MemPlace)} {mb N : Nat} {D : DataW Unit} {key val : Value} {kl : Lit} {d : DataW Unit} {ps : List MemPlace} (hd : o.dst = none) (hw : wants ops l o = some true)
    (ho : o.op = .mapUpdate t m x v) (hm : ev l m = some (.map (some mb))) (hx : ev l x = some key) (hv : ev l v = some val) (K : Keyed P k) (ht : P.underlying t = some (.map k e)) (hown : w.ownsMap P k R mb N D) (hn : N < maxLen)
    (hkey : keyOf P k key = some kl) (hval : R val = some (d, ps)) (h : ∀ w', w'.ownsMap P k R mb (N + 1) (D.put kl d) → w.grownBy w' (some mb) → WL P ops Q rest n l w') : WL P ops Q (o :: rest) n l w := by
  intro a ha
  refine wpList_step fun K' hK' => ?_
  rw [if_pos (wants_spec ha hw)]
  unfold Oper.wp
  obtain ⟨w', hrun, r1, r2⟩ := hown.update K ht hn hkey hval
  have hr : (execOp a.eval o).run P w = .ok .skip w' := by
    unfold execOp; rw [ho]
    simp [ha.ev hm, ha.ev hx, ha.ev hv, hrun]
  rw [hr, Oper.upon_skip, hd]
  exact hK' _ _ (h w' r1 r2 _ ha)
theorem x_lenMap {t k e : TypeId} {R : Value → Option (DataW Unit × List MemPlace)} {mb N : Nat} {D : DataW Unit} {x : Operand} (ho : o.op = .call { callee := .builtin .len, args := #[x], argTypes := #[t] }) (hx : ρ x = .map (some mb)) (ht : P.underlying t = some (.map k e)) (hown : w.ownsMap P k R mb N D) :
    (execOp ρ o).run P w = .ok (.value (.int .i64 (Maps.size D))) w := by
  unfold execOp; rw [ho]
  have := hown.len ht o.type
  simp [resolve, invoke, builtin, hx, this]
end
end Fw
open Fw
namespace Ca
theorem cs_all (pb : Nat) (cq : Option Addr) (n cap gp : Nat) (c A B p : Nat → Int) (hc : Ec.chk c A B false n = 0) (hp : ∀ i, 0 ≤ p i ∧ p i ≤ 100) (hA : ∀ i, i < n → (cdOf c n).c i = 30 → 0 ≤ A i ∧ A i ≤ 50) : ∀ (R : Fl.Tr) (k j : Nat), Fl.Is (cdOf c n) R k j → j ≤ n → Sm (cdOf c n) A p R → CsAll (CsP pb cq n cap gp c A B p) R
  | .nil, k, j, h, hj, hs => trivial
  | .one i r, k, j, h, hj, hs => cs_all pb cq n cap gp c A B p hc hp hA r (k + 1) j h.2.2 hj hs
  | .plain i E b r, k, j, h, hj, hs => by
    obtain ⟨h1, h2, h3, h4, h5, h6, h7, h8⟩ := h
    subst h1
    have h9 := h8.le
    have h10 := h7.le
    have h11 := hp E
    obtain ⟨s1, s2, s3⟩ := hs
    exact ⟨fun w hC => clist_any pb cq n cap gp c A B p hc hp hA b (i + 1) E h7 (by omega) s2 (by omega) (cs_all pb cq n cap gp c A B p hc hp hA b _ _ h7 (by omega) s2) w hC, cs_all pb cq n cap gp c A B p hc hp hA r _ _ h8 hj s3⟩
  | .alt i a E b1 b2 r, k, j, h, hj, hs => by
    obtain ⟨h1, h2, h3, h4, h5, h6, h7, h8, h9, h10, h11⟩ := h
    subst h1
    have h12 := h9.le
    have h13 := h10.le
    have h14 := h11.le
    have h15 := hp E
    have h16 := hp a
    obtain ⟨s1, s2, s3, s4, s5⟩ := hs
    exact ⟨⟨fun w hC => clist_any pb cq n cap gp c A B p hc hp hA b1 (i + 1) a h9 (by omega) s3 (by omega) (cs_all pb cq n cap gp c A B p hc hp hA b1 _ _ h9 (by omega) s3) w hC, fun w hC => clist_any pb cq n cap gp c A B p hc hp hA b2 (a + 1) E h10 (by omega) s4 (by omega) (cs_all pb cq n cap gp c A B p hc hp hA b2 _ _ h10 (by omega) s4) w hC⟩, cs_all pb cq n cap gp c A B p hc hp hA r _ _ h11 hj s5⟩
theorem wst_all (cq : Option Addr) (n cap gp : Nat) (c A B p : Nat → Int) (hc : Ec.chk c A B false n = 0) (hp : ∀ i, 0 ≤ p i ∧ p i ≤ 100) (hA : ∀ i, i < n → (cdOf c n).c i = 30 → 0 ≤ A i ∧ A i ≤ 50) : ∀ (R : Fl.Tr) (k j : Nat), Fl.Is (cdOf c n) R k j → j ≤ n → Sm (cdOf c n) A p R → CsAll (WsP cq n cap gp c A B p) R
  | .nil, k, j, h, hj, hs => trivial
  | .one i r, k, j, h, hj, hs => wst_all cq n cap gp c A B p hc hp hA r (k + 1) j h.2.2 hj hs
  | .plain i E b r, k, j, h, hj, hs => by
    obtain ⟨h1, h2, h3, h4, h5, h6, h7, h8⟩ := h
    subst h1
    have h9 := h8.le
    have h10 := h7.le
    have h11 := hp E
    obtain ⟨s1, s2, s3⟩ := hs
    exact ⟨fun w hC => worst_any cq n cap gp c A B p hc hp hA b (i + 1) E h7 (by omega) s2 (by omega) (wst_all cq n cap gp c A B p hc hp hA b _ _ h7 (by omega) s2) w hC, wst_all cq n cap gp c A B p hc hp hA r _ _ h8 hj s3⟩
  | .alt i a E b1 b2 r, k, j, h, hj, hs => by
    obtain ⟨h1, h2, h3, h4, h5, h6, h7, h8, h9, h10, h11⟩ := h
    subst h1
    have h12 := h9.le
    have h13 := h10.le
    have h14 := h11.le
    have h15 := hp E
    have h16 := hp a
    obtain ⟨s1, s2, s3, s4, s5⟩ := hs
    exact ⟨⟨fun w hC => worst_any cq n cap gp c A B p hc hp hA b1 (i + 1) a h9 (by omega) s3 (by omega) (wst_all cq n cap gp c A B p hc hp hA b1 _ _ h9 (by omega) s3) w hC, fun w hC => worst_any cq n cap gp c A B p hc hp hA b2 (a + 1) E h10 (by omega) s4 (by omega) (wst_all cq n cap gp c A B p hc hp hA b2 _ _ h10 (by omega) s4) w hC⟩, wst_all cq n cap gp c A B p hc hp hA r _ _ h11 hj s5⟩
theorem loop_of {c A B : Nat → Int} {n : Nat} (hc : Ec.chk c A B false n = 0) : ∀ i, i < n → (cdOf c n).c i = 30 → 0 ≤ A i ∧ A i ≤ 50 := fun i hi h30 => by
  have h := Ec.allV_spec.1 (Ec.chk_ok hc).2.1 i hi
  have e : c i = ((30 : Nat) : Int) := h30
  rw [e, Ec.vld_nat 30 (by decide)] at h
  have e2 : (Ec.sp 30).a = 12 := by kernel_rfl
  rw [e2] at h
  simp only [Bool.and_eq_true] at h
  have h1 := h.1
  have e3 : Ec.mosts 12 = 50 := by kernel_rfl
  unfold Ec.rng at h1
  simp [e3] at h1
  exact h1
def prc (m : Int) (f : Nat → Bool) : Nat → Int := fun i => if f i then 0 else m
theorem prc_bd {m : Int} (hm : 0 ≤ m ∧ m ≤ 100) (f : Nat → Bool) (i : Nat) : 0 ≤ prc m f i ∧ prc m f i ≤ 100 := by unfold prc; split <;> omega
noncomputable def penV (s y l m : Int) (c A : Nat → Int) (n : Nat) : Int := cst (cdOf c n) A (prc m (mk0 s y l c n (trC c n))) (trC c n)
theorem cost_facts {c A B : Nat → Int} {n : Nat} {p : Nat → Int} (hc : Ec.chk c A B false n = 0) (hp : ∀ i, 0 ≤ p i ∧ p i ≤ 100) : Sm (cdOf c n) A p (trC c n) ∧ 0 ≤ cst (cdOf c n) A p (trC c n) ∧ cst (cdOf c n) A p (trC c n) ≤ 187500000000000 := by
  have h1 := trC_is hc
  have h2 := dep_chk hc h1
  have h3 := (Ec.chk_ok hc).1
  exact ⟨sm_of hp (loop_of hc) _ 0 n h1 (Nat.le_refl _) h3 h2, cst_K hp (loop_of hc) h1 (Nat.le_refl _) h3 h2⟩
theorem Clist (pb : Nat) (cq : Option Addr) (n cap gp : Nat) (c A B p : Nat → Int) (hc : Ec.chk c A B false n = 0) (hp : ∀ i, 0 ≤ p i ∧ p i ≤ 100) (w : World) (hC : CEnv pb cq n cap gp c A B p w) :
    Calls Try.prog 51 #[vP pb 0, vI 0, vI (n : Int)] w fun e w' => e = .returned (.int .i64 (cst (cdOf c n) A p (trC c n))) ∧ Below w.heap.size w w' := by
  obtain ⟨h1, h2, h3⟩ := cost_facts (A := A) hc hp
  exact clist_any pb cq n cap gp c A B p hc hp (loop_of hc) (trC c n) 0 n (trC_is hc) (Nat.le_refl _) h1 (by omega) (cs_all pb cq n cap gp c A B p hc hp (loop_of hc) _ 0 n (trC_is hc) (Nat.le_refl _) h1) w hC
theorem Worst (cq : Option Addr) (n cap gp : Nat) (c A B p : Nat → Int) (hc : Ec.chk c A B false n = 0) (hp : ∀ i, 0 ≤ p i ∧ p i ≤ 100) (w : World) (hC : REnv cq n gp c A B p w) :
    Calls Try.prog 53 #[.slice cq n cap, vS gp n n, vI 0, vI (n : Int)] w fun e w' => e = .returned (.int .i64 (cst (cdOf c n) A p (trC c n))) ∧ Below w.heap.size w w' := by
  obtain ⟨h1, h2, h3⟩ := cost_facts (A := A) hc hp
  exact worst_any cq n cap gp c A B p hc hp (loop_of hc) (trC c n) 0 n (trC_is hc) (Nat.le_refl _) h1 (by omega) (wst_all cq n cap gp c A B p hc hp (loop_of hc) _ 0 n (trC_is hc) (Nat.le_refl _) h1) w hC
def lnH (l : Int) (f : Nat → Bool) (i k : Nat) : Bool := (List.range i).any fun j => f j && decide ((j : Int) / l = (k : Int))
def lnC (l : Int) (f : Nat → Bool) (i N : Nat) : Nat := (List.range N).countP (lnH l f i)
theorem lnH_iff {l : Int} {f : Nat → Bool} {i k : Nat} : lnH l f i k = true ↔ ∃ j, j < i ∧ f j = true ∧ (j : Int) / l = (k : Int) := by
  unfold lnH; simp [List.any_eq_true]
theorem lnC_0 (l : Int) (f : Nat → Bool) (N : Nat) : lnC l f 0 N = 0 := by unfold lnC lnH; simp
theorem lnH_no {l : Int} {f : Nat → Bool} {i : Nat} (h : f i = false) (k : Nat) : lnH l f (i + 1) k = lnH l f i k := by
  unfold lnH; rw [List.range_succ, List.any_append]; simp [h]
theorem lnH_yes {l : Int} {f : Nat → Bool} {i a : Nat} (h : f i = true) (ha : (i : Int) / l = (a : Int)) (k : Nat) : lnH l f (i + 1) k = (lnH l f i k || decide (a = k)) := by
  unfold lnH; rw [List.range_succ, List.any_append]; simp only [List.any_cons, List.any_nil, h, ha, Bool.true_and, Bool.or_false]
  rw [show decide ((a : Int) = (k : Int)) = decide (a = k) from decide_eq_decide.2 (by omega)]
theorem countP_one {p q : Nat → Bool} {a : Nat} (h : ∀ k, q k = (p k || decide (a = k))) : ∀ N, (List.range N).countP q = (List.range N).countP p + (if p a = false ∧ a < N then 1 else 0)
  | 0 => by simp
  | N + 1 => by
    rw [List.range_succ, List.countP_append, List.countP_append, countP_one h N, List.countP_singleton, List.countP_singleton, h N]
    by_cases e : a = N
    · subst e
      cases hp : p a <;> simp [hp]
    · have e2 : decide (a = N) = false := decide_eq_false e
      rw [e2, Bool.or_false]
      have e3 : (p a = false ∧ a < N + 1) ↔ (p a = false ∧ a < N) := ⟨fun q => ⟨q.1, by have := q.2; omega⟩, fun q => ⟨q.1, by have := q.2; omega⟩⟩
      simp only [e3]
      omega
theorem lnC_no {l : Int} {f : Nat → Bool} {i N : Nat} (h : f i = false) : lnC l f (i + 1) N = lnC l f i N := by
  unfold lnC; rw [show lnH l f (i + 1) = lnH l f i from funext (lnH_no h)]
theorem lnC_yes {l : Int} {f : Nat → Bool} {i a N : Nat} (h : f i = true) (ha : (i : Int) / l = (a : Int)) (hN : a < N) : lnC l f (i + 1) N = lnC l f i N + (if lnH l f i a = false then 1 else 0) := by
  unfold lnC; rw [countP_one (lnH_yes h ha) N]; simp [hN]
theorem lnC_le (l : Int) (f : Nat → Bool) (i N : Nat) : lnC l f i N ≤ N := by
  unfold lnC; exact Nat.le_trans (List.countP_le_length) (by simp)
structure MRel (l : Int) (f : Nat → Bool) (i : Nat) (D : DataW Unit) : Prop where
  tidy : Maps.Tidy D
  has_ : ∀ k : Nat, Maps.has D (.int .i64 (k : Int)) = lnH l f i k
  sz : Maps.size D = lnC l f i 1000
theorem MRel.start (l : Int) (f : Nat → Bool) : MRel l f 0 (.map []) := ⟨tidy_empty, fun k => by simp [Maps.has, lnH], by rw [lnC_0]; rfl⟩
theorem keyLit9 (a : Int) : WideAt.IsKeyLit (.int .i64 a) := by simp [WideAt.IsKeyLit]
theorem MRel.no {l : Int} {f : Nat → Bool} {i : Nat} {D : DataW Unit} (h : MRel l f i D) (hf : f i = false) : MRel l f (i + 1) D := ⟨h.tidy, fun k => by rw [lnH_no hf]; exact h.has_ k, by rw [lnC_no hf]; exact h.sz⟩
theorem MRel.yes {l : Int} {f : Nat → Bool} {i a : Nat} {D : DataW Unit} (h : MRel l f i D) (hf : f i = true) (ha : (i : Int) / l = (a : Int)) (hN : a < 1000) (d : DataW Unit) : MRel l f (i + 1) (D.put (.int .i64 ((i : Int) / l)) d) := by
  rw [ha]
  refine ⟨h.tidy.put (keyLit9 _) d, fun k => ?_, ?_⟩
  · rw [lnH_yes hf ha]
    by_cases e : a = k
    · subst e; rw [has_put_same h.tidy.isMap (keyLit9 _) d]; simp
    · rw [has_put_other (fun q => e (by injection q with _ q; omega)) d, h.has_ k]; simp [e]
  · rw [size_put h.tidy d, h.has_ a, h.sz, lnC_yes hf ha hN]
    cases lnH l f i a <;> simp
theorem law39 : Keyed Try.prog 3 := int_keyed Try.underlying3
end Ca
end Go.Proofs.Ytmjnakhpekbenaa
namespace Go.Proofs.Ytmjnakhpekbenaa
set_option maxRecDepth 20000
set_option maxHeartbeats 4000000
open Go.Maps Go.RowKit Go.Sort Fw
namespace Ca
theorem range1 {w : World} {b off : Nat} {v : Value} (h : w.cell? ⟨b, off, none⟩ = some v) : w.rangeAt b off [v] := fun j u hu => by
  match j, hu with
  | 0, hu => cases hu; exact h
  | j + 1, hu => simp at hu
theorem one1 {w : World} {b : Nat} {cs : List Value} (h : w.rangeAt b 0 cs) : ∀ i, i < 1 → w.rangeAt b i cs := fun i hi => by
  have e0 : i = 0 := by omega
  subst e0; exact h
theorem prc_stay {m : Int} {f : Nat → Bool} {q : Nat → Int} {i : Nat} (hq : ∀ j, q j = if j < i then prc m f j else 0) (hf : f i = true) : ∀ j, q j = if j < i + 1 then prc m f j else 0 := fun j => by
  rw [hq j]
  by_cases e : j = i
  · subst e; rw [if_neg (Nat.lt_irrefl _), if_pos (Nat.lt_succ_self _)]; unfold prc; rw [if_pos hf]
  · by_cases h : j < i
    · rw [if_pos h, if_pos (by omega)]
    · rw [if_neg h, if_neg (by omega)]
theorem prc_step {m : Int} {f : Nat → Bool} {q : Nat → Int} {i : Nat} (hq : ∀ j, q j = if j < i then prc m f j else 0) (hf : f i = false) : ∀ j, upI q i m j = if j < i + 1 then prc m f j else 0 := fun j => by
  unfold upI
  by_cases e : j = i
  · subst e; rw [if_pos rfl, if_pos (Nat.lt_succ_self _)]; unfold prc; rw [hf]; rfl
  · rw [if_neg e, hq j]
    by_cases h : j < i
    · rw [if_pos h, if_pos (by omega)]
    · rw [if_neg h, if_neg (by omega)]
theorem prc_end {m : Int} {f : Nat → Bool} {q : Nat → Int} {i j : Nat} (hq : ∀ j, q j = if j < i then prc m f j else 0) (h : j < i) : q j = prc m f j := by rw [hq j, if_pos h]
theorem div_bd {l : Int} (hl : 1 ≤ l ∧ l ≤ 8) {i : Nat} (hi : i ≤ 999) : ∃ a : Nat, (i : Int) / l = (a : Int) ∧ a < 1000 := by
  obtain ⟨h1, h2⟩ := line_of hl hi
  exact ⟨((i : Int) / l).toNat, by omega, by omega⟩
theorem mul_bd {m x : Int} (hm : 0 ≤ m ∧ m ≤ 100) (hx : 0 ≤ x) : 0 ≤ m * x ∧ m * x ≤ 100 * x := ⟨Int.mul_nonneg hm.1 hx, Int.mul_le_mul_of_nonneg_right hm.2 hx⟩
theorem mul_bd8 {m x : Int} (hm : 1 ≤ m ∧ m ≤ 8) (hx : 0 ≤ x) : x ≤ x * m ∧ x * m ≤ 8 * x := by
  rw [Int.mul_comm x m]
  have h1 := Int.mul_le_mul_of_nonneg_right hm.2 hx
  have h2 := Int.mul_le_mul_of_nonneg_right hm.1 hx
  exact ⟨by omega, h1⟩
theorem in_t {f : Nat → Bool} {k0 i : Nat} (h : true = true ↔ ∃ j, k0 ≤ j ∧ j < i ∧ f j = true) : true = true ↔ ∃ j, k0 ≤ j ∧ j < i + 1 ∧ f j = true := by
  obtain ⟨j, h1, h2, h3⟩ := h.1 rfl
  exact ⟨fun _ => ⟨j, h1, by omega, h3⟩, fun _ => rfl⟩
theorem in_f {f : Nat → Bool} {k0 i : Nat} (hk : k0 ≤ i) (h : false = true ↔ ∃ j, k0 ≤ j ∧ j < i ∧ f j = true) : f i = true ↔ ∃ j, k0 ≤ j ∧ j < i + 1 ∧ f j = true := by
  constructor
  · intro q; exact ⟨i, hk, by omega, q⟩
  · rintro ⟨j, h1, h2, h3⟩
    by_cases e : j = i
    · subst e; exact h3
    · exact absurd (h.2 ⟨j, h1, by omega, h3⟩) Bool.false_ne_true
theorem in_0 {f : Nat → Bool} {k0 : Nat} : false = true ↔ ∃ j, k0 ≤ j ∧ j < k0 ∧ f j = true := ⟨(fun h => by cases h), (fun ⟨j, h1, h2, _⟩ => by omega)⟩
theorem div_is {l x a : Int} (hl : 1 ≤ l) : x / l = a ↔ a * l ≤ x ∧ x < a * l + l := by
  have h1 := Int.emod_add_mul_ediv x l
  have h2 := Int.emod_nonneg x (b := l) (by omega)
  have h3 := Int.emod_lt_of_pos x (b := l) (by omega)
  constructor
  · intro h
    rw [h, Int.mul_comm l a] at h1
    omega
  · rintro ⟨h4, h5⟩
    have h6 : l * (x / l) = (x / l) * l := Int.mul_comm _ _
    have h7 : ¬ x / l < a := fun q => by
      have := Int.mul_le_mul_of_nonneg_right (show x / l + 1 ≤ a by omega) (show 0 ≤ l by omega)
      rw [Int.add_mul, Int.one_mul] at this
      omega
    have h8 : ¬ a < x / l := fun q => by
      have := Int.mul_le_mul_of_nonneg_right (show a + 1 ≤ x / l by omega) (show 0 ≤ l by omega)
      rw [Int.add_mul, Int.one_mul] at this
      omega
    omega
theorem lnH_of {l : Int} {f : Nat → Bool} {n line k0 i : Nat} {inn : Bool} (hl : 1 ≤ l) (hk0 : ((k0 : Nat) : Int) = (line : Int) * l) (hx : n ≤ i ∨ (line : Int) * l + l ≤ i) (h3 : i ≤ n) (h2 : (i : Int) ≤ (line : Int) * l + l) (hin : inn = true ↔ ∃ j, k0 ≤ j ∧ j < i ∧ f j = true) : lnH l f n line = inn := by
  have h : lnH l f n line = true ↔ inn = true := by
    rw [lnH_iff, hin]
    constructor
    · rintro ⟨j, g1, g2, g3⟩
      rw [div_is hl] at g3
      exact ⟨j, by omega, by omega, g2⟩
    · rintro ⟨j, g1, g2, g3⟩
      exact ⟨j, by omega, g3, (div_is hl).2 ⟨by omega, by omega⟩⟩
  cases inn <;> cases e : lnH l f n line
  · rfl
  · exact absurd (h.1 e) Bool.false_ne_true
  · exact absurd (h.2 rfl) (by rw [e]; exact Bool.false_ne_true)
  · rfl
theorem lnC_succ {l : Int} {f : Nat → Bool} {n N : Nat} : lnC l f n (N + 1) = lnC l f n N + (if lnH l f n N = true then 1 else 0) := by
  unfold lnC; rw [List.range_succ, List.countP_append, List.countP_singleton]
theorem lnC_far {l : Int} {f : Nat → Bool} {n line : Nat} (hl : 1 ≤ l) (h : (n : Int) ≤ (line : Int) * l) : ∀ d, lnC l f n (line + d) = lnC l f n line
  | 0 => rfl
  | d + 1 => by
    rw [← Nat.add_assoc, lnC_succ, lnC_far hl h d, if_neg, Nat.add_zero]
    intro q
    obtain ⟨j, g1, g2, g3⟩ := lnH_iff.1 q
    rw [div_is hl] at g3
    have := mul_bd8 (m := 1) (x := (d : Int)) (by omega) (by omega)
    have e : ((line + d : Nat) : Int) * l = (line : Int) * l + (d : Int) * l := by push_cast; rw [Int.add_mul]
    have e2 : 0 ≤ (d : Int) * l := Int.mul_nonneg (by omega) (by omega)
    omega
theorem lnC_end {l : Int} {f : Nat → Bool} {n line : Nat} (hl : 1 ≤ l) (h : (n : Int) ≤ (line : Int) * l) (hn : line ≤ 1000) : lnC l f n 1000 = lnC l f n line := by
  have := lnC_far (f := f) hl h (1000 - line)
  rwa [show line + (1000 - line) = 1000 by omega] at this
end Ca
namespace Fw
open Ca
theorem WL.mapMakeH {P : Program} {ops : Array Oper} {Q : Exit → Act → World → Prop} {rest : List Oper} {n : Nat} {l : List (Nat × Value)} {w w0 : World} {S : Nat → Prop} {H : List Ent} {o : Oper} {t k e : TypeId} (hH : HP S w0 w H) (d : Nat) (hd : o.dst = some d) (hn : d < n) (hw : wants ops l o = some true) (ho : o.op = .makeMap t none)
    (h : ∀ mb w', w0.heap.size ≤ mb → (∀ e ∈ H, e.blk ≠ some mb) → HP S w0 w' H → w'.ownsMap P k (plainElem (H := Unit) P e) mb 0 (.map []) → WL P ops Q rest n ((d, .map (some mb)) :: l) w') : WL P ops Q (o :: rest) n l w :=
  WL.mapMake d hd hn hw ho (h _ _ hH.size (fun e he q => Nat.lt_irrefl _ (Ent.lt (hH.hold e he) q)) (hH.obj _) (World.ownsMap_made w P k _))
end Fw
namespace Ca
theorem Penalty_any (s y l m : Int) (p : Option Addr) (n cap : Nat) (c A B : Nat → Int) (w : World) (hIn : Ec.InC w p n c A B) (hn : n ≤ 400) :
  Calls Try.prog 24 #[.agg #[vI s, vI y, vI l, vI m], .slice p n cap] w fun e w' => ((okC s y l m c A B n = false ∧ e = .returned (.tuple #[vI 0, vI 1])) ∨ (okC s y l m c A B n = true ∧ e = .returned (.tuple #[vI (penV s y l m c A n), vI 0]))) ∧ Below w.heap.size w w' := by
 refine calls_of Try.func24 rfl (m := 48) rfl [(0, .agg #[vI s, vI y, vI l, vI m]), (1, .slice p n cap)] (Fr_enter [.agg #[vI s, vI y, vI l, vI m], .slice p n cap] 48 (Nat.le_of_ble_eq_true rfl)) ?_
 have hH1 : HP Tr w w [] := HP.refl w
 refine WC.seq fun K2 hK2 => WC.region ?_
 refine WL.alloc (c := #[vI s, vI y, vI l, vI m]) (T := 23) hH1 2 rfl (by decide) rfl rfl (fun b2 => vP b2 0) (by kernel_rfl) (fun b2 w3 hw3 => ?_)
 have hH4 : HP Tr w w3 [.cel b2 #[vI s, vI y, vI l, vI m] 23] := hw3.2
 have nb2 := hw3.1
 clear hw3
 refine WL.z (vI 0) 4 (WL.z (vI 0) 5 (WL.k hK2 (WC.seq fun K5 hK5 => WC.region (WL.y (.agg #[vI s, vI y, vI l, vI m]) 12 (x_loadS (cs := [vI s, vI y, vI l, vI m]) rfl rfl Try.underlying23 rfl sz23 (HP.range hH4 0 rfl rfl)) (WL.z (.slice p n cap) 13 ?_)))))
 refine WL.c 46 #[.agg #[vI s, vI y, vI l, vI m], .slice p n cap] 14 ?_
 refine (MustA s y l m p n cap c A B _ (hIn.below (HP.below hH4)) hn).mono ?_
 rintro e w4 (⟨hno, rfl, hb⟩ | ⟨hyes, go, rfl, hb⟩)
 ·
  refine ⟨_, rfl, ?_⟩
  have hH6 := HP.call hH4 hb
  refine WL.z (.tuple #[.slice none 0 0, vI 1]) 11 (WL.z (.slice none 0 0) 15 (WL.z (vI 1) 16 (WL.z (.slice none 0 0) 6 (WL.z (vI 1) 7 (WL.k hK5 (WC.sb [(0, .agg #[vI s, vI y, vI l, vI m]), (1, .slice p n cap), (2, vP b2 0), (4, vI 0), (5, vI 0), (6, .slice none 0 0), (7, vI 1)] (WC.seq fun K7 hK7 => WC.seq fun K8 hK8 => WC.region ?_)))))))
  refine WL.z (vI 1) 17 (WL.y (.bool true) 18 (x_neq rfl rfl rfl (by decide)) (WL.k hK8 ?_))
  refine WC.yes rfl ?_
  refine WC.seq fun K9 hK9 => WC.region (WL.z (vI 1) 19 (WL.z (vI 0) 4 (WL.z (vI 1) 5 (WL.k hK9 (WC.ret ?_)))))
  refine WQ.thenRet ?_
  refine WQ.ret2 4 5 rfl rfl rfl ?_
  exact ⟨.inl ⟨hno, rfl⟩, HP.below hH6⟩
 ·
  refine ⟨_, rfl, ?_⟩
  have hH10 : HP Tr w _ [.cel b2 #[vI s, vI y, vI l, vI m] 23, .cel go (brow n (mk0 s y l c n (trC c n))) 4] := HP.trans hH4 hb
  obtain ⟨hg0, hc0, hf0⟩ := okC_iff.1 hyes
  have hg := vG_iff.1 hg0
  have hn9 := (Ec.chk_ok hc0).1
  have hpb := prc_bd (m := m) hg.2.2.2 (mk0 s y l c n (trC c n))
  refine WL.z (.tuple #[vS go n n, vI 0]) 11 (WL.z (vS go n n) 15 (WL.z (vI 0) 16 (WL.z (vS go n n) 6 (WL.z (vI 0) 7 (WL.k hK5 (WC.sb [(0, .agg #[vI s, vI y, vI l, vI m]), (1, .slice p n cap), (2, vP b2 0), (4, vI 0), (5, vI 0), (6, vS go n n), (7, vI 0)] (WC.seq fun K11 hK11 => WC.seq fun K12 hK12 => WC.region ?_)))))))
  refine WL.z (vI 0) 17 (WL.y (.bool false) 18 (x_neq rfl rfl rfl (by decide)) (WL.k hK12 ?_))
  refine WC.no rfl ?_
  refine WC.skip (WQ.then (hK11 _ _ _ (WC.seq fun K13 hK13 => WC.region (WL.z (.slice p n cap) 20 (WL.z (.slice p n cap) 21 (WL.z (vI (n : Int)) 22 ?_))))))
  refine WL.alloc (c := irow n (fun _ => 0)) (T := 3) hH10 23 rfl (by decide) rfl rfl (fun gp => vS gp n n) (x_makeR rfl rfl rfl (Ec.makeI2 n hn _)) (fun gp w9 hw9 => ?_)
  have hH14 : HP Tr w w9 [.cel b2 #[vI s, vI y, vI l, vI m] 23, .cel go (brow n (mk0 s y l c n (trC c n))) 4, .cel gp (irow n (fun _ => 0)) 3] := hw9.2
  clear hw9
  refine WL.z (.agg #[.slice p n cap, vS gp n n]) 24 ?_
  refine WL.alloc (c := #[.slice p n cap, vS gp n n]) (T := 69) hH14 25 rfl (by decide) rfl rfl (fun b25 => vP b25 0) (by kernel_rfl) (fun b25 w15 hw15 => ?_)
  have hH16 : HP Tr w w15 [.cel b2 #[vI s, vI y, vI l, vI m] 23, .cel go (brow n (mk0 s y l c n (trC c n))) 4, .cel gp (irow n (fun _ => 0)) 3, .cel b25 #[.slice p n cap, vS gp n n] 69] := hw15.2
  have nb25 := hw15.1
  clear hw15
  refine WL.z (vP b25 0) 8 (WL.k hK13 (WC.sb [(0, .agg #[vI s, vI y, vI l, vI m]), (1, .slice p n cap), (2, vP b2 0), (4, vI 0), (5, vI 0), (6, vS go n n), (7, vI 0), (8, vP b25 0), (18, .bool false)] (WC.seq fun K17 hK17 => WC.seq fun K18 hK18 => WC.region (WL.z (vS go n n) 26 (WL.z (vI (n : Int)) 27 (WL.z (vI 0) 28 (WL.nil ?_)))))))
  refine WQ.then (hK18 _ _ _ (WC.block ?_))
  refine WC.loop (fun kk0 ll0 ww0 => ∃ (i : Nat) (q : Nat → Int), ll0 = [(1, .slice p n cap), (2, vP b2 0), (8, vP b25 0), (26, vS go n n), (27, vI (n : Int)), (28, vI (i : Int))] ∧ kk0 = n - i ∧ (i ≤ n) ∧ (∀ j, q j = if j < i then prc m (mk0 s y l c n (trC c n)) j else 0) ∧ HP Tr w ww0 [.cel b2 #[vI s, vI y, vI l, vI m] 23, .cel go (brow n (mk0 s y l c n (trC c n))) 4, .cel gp (irow n q) 3, .cel b25 #[.slice p n cap, vS gp n n] 69]) (n) [(1, .slice p n cap), (2, vP b2 0), (8, vP b25 0), (26, vS go n n), (27, vI (n : Int)), (28, vI 0)] ⟨rfl, rfl, rfl, rfl, rfl, rfl, trivial⟩ ⟨0, (fun _ => 0), rfl, rfl, Nat.zero_le _, (fun j => by rw [if_neg (Nat.not_lt_zero _)]), hH16⟩ ?_
  rintro kk l w20 ⟨i, q, rfl, hkk, hi, hq, hH21⟩ K19 hK19
  refine WC.seq fun K22 hK22 => WC.region ?_
  by_cases hlt : (i : Int) < (n : Int)
  ·
   refine WL.y (.bool true) 29 (x_lss rfl rfl rfl (dT (hlt))) (WL.k hK22 (WC.seq fun K23 hK23 => ?_))
   refine WC.yes rfl ?_
   refine WC.skip (WQ.then (hK23 _ _ _ (WC.seq fun K24 hK24 => WC.block (WC.seq fun K25 hK25 => WC.region (WL.z (vI (i : Int)) 30 (WL.y (vP go i) 31 (x_ix (i) (i) Try.underlying39 sz4) (WL.y (.bool ((mk0 s y l c n (trC c n)) i)) 32 (x_load rfl rfl Try.underlying4 rfl (HP.cell hH21 1 rfl (brow_get (by omega) rfl))) (WL.z (vI (i : Int)) 9 (WL.z (.bool ((mk0 s y l c n (trC c n)) i)) 10 ?_)))))))))
   refine WL.k hK25 (WC.seq fun K26 hK26 => WC.region (WL.z (.bool ((mk0 s y l c n (trC c n)) i)) 33 (WL.z (.bool (!((mk0 s y l c n (trC c n)) i))) 34 (WL.k hK26 ?_))))
   rcases Bool.eq_false_or_eq_true ((mk0 s y l c n (trC c n)) i) with hf | hf
   ·
    refine WC.no (congrArg (fun b => some (Value.bool (!b))) hf) ?_
    refine WC.skip (WQ.inNormal (WQ.then (hK24 _ _ _ (WC.region (WL.y (vI ((i + 1 : Nat) : Int)) 43 (x_ad (((i + 1 : Nat) : Int))) (WL.z (vI ((i + 1 : Nat) : Int)) 28 (WL.nil (WQ.sb [(1, .slice p n cap), (2, vP b2 0), (8, vP b25 0), (26, vS go n n), (27, vI (n : Int)), (28, vI ((i + 1 : Nat) : Int))] ?_))))))))
    refine WQ.then (hK19 _ _ _ (by omega) ⟨i + 1, q, rfl, rfl, by omega, prc_stay hq hf, hH21⟩)
   ·
    refine WC.yes (congrArg (fun b => some (Value.bool (!b))) hf) ?_
    refine WC.confG (γ := Unit) [(34, .bool (!((mk0 s y l c n (trC c n)) i))), (33, .bool ((mk0 s y l c n (trC c n)) i)), (10, .bool ((mk0 s y l c n (trC c n)) i)), (9, vI (i : Int)), (32, .bool ((mk0 s y l c n (trC c n)) i)), (31, vP go i), (30, vI (i : Int)), (29, .bool true), (1, .slice p n cap), (2, vP b2 0), (8, vP b25 0), (26, vS go n n), (27, vI (n : Int)), (28, vI (i : Int))] (fun gy => [vP b25 0, vP b25 0, vP b25 1, vS gp n n, vI (i : Int), vP b2 3, vI m, vP gp i, undef]) (fun gy D wz => HP Tr w wz [.cel b2 #[vI s, vI y, vI l, vI m] 23, .cel go (brow n (mk0 s y l c n (trC c n))) 4, (bif D 8 then Ent.cel gp (irow n (upI q i m)) 3 else Ent.cel gp (irow n q) 3), .cel b25 #[.slice p n cap, vS gp n n] 69]) () (by kernel_rfl) ⟨rfl, rfl, rfl, rfl, rfl, rfl, rfl, rfl, rfl, rfl, rfl, rfl, rfl, rfl, trivial⟩ (by kernel_rfl) (by kernel_rfl) (by kernel_rfl) (fun _ => rfl) (by kernel_rfl) (HP.drew hH21) ?_ ?_
    ·
     refine AllOk.cons ?o0 (AllOk.cons ?o1 (AllOk.cons ?o2 (AllOk.cons ?o3 (AllOk.cons ?o4 (AllOk.cons ?o5 (AllOk.cons ?o6 (AllOk.cons ?o7 (AllOk.cons ?o8 (AllOk.nil _)))))))))
     case o0 =>
      intro gy D wz hDi hdep hclo hW
      exact cfv gy wz (by kernel_rfl) hW
     case o1 =>
      intro gy D wz hDi hdep hclo hW
      exact cfv gy wz (by kernel_rfl) hW
     case o2 =>
      intro gy D wz hDi hdep hclo hW
      exact cfv gy wz (by kernel_rfl) hW
     case o3 =>
      intro gy D wz hDi hdep hclo hW
      exact cfv gy wz (x_load rfl rfl Try.underlying33 rfl (HP.cell hW 3 rfl rfl)) hW
     case o4 =>
      intro gy D wz hDi hdep hclo hW
      exact cfv gy wz (by kernel_rfl) hW
     case o5 =>
      intro gy D wz hDi hdep hclo hW
      exact cfv gy wz (by kernel_rfl) hW
     case o6 =>
      intro gy D wz hDi hdep hclo hW
      exact cfv gy wz (x_load rfl rfl Try.underlying3 rfl (HP.cell hW 0 rfl rfl)) hW
     case o7 =>
      intro gy D wz hDi hdep hclo hW
      exact cfv gy wz (x_ix (i) (i) Try.underlying33 sz3) hW
     case o8 =>
      intro gy D wz hDi hdep hclo hW
      have hW9 := hW
      simp only [hDi, cond_false] at hW9
      have h4 := HP.set (off := i) (v := vI m) hW9 2 rfl
      rw [irow_set] at h4
      exact .inl ⟨rfl, rfl, .inr (.inl ⟨_, x_store rfl rfl rfl sz3 rfl (HP.cell hW9 2 rfl (irow_get (by omega) rfl)) (HP.free hW9 2 rfl), rfl, h4⟩)⟩
    rintro gy D w27 hall hH28
    simp only [hall 8 (by kernel_rfl), cond_true, List.append_nil, List.nil_append, List.cons_append] at hH28
    clear hall
    refine WQ.sb [(1, .slice p n cap), (2, vP b2 0), (8, vP b25 0), (9, vI (i : Int)), (10, .bool ((mk0 s y l c n (trC c n)) i)), (26, vS go n n), (27, vI (n : Int)), (28, vI (i : Int)), (29, .bool true), (34, .bool (!((mk0 s y l c n (trC c n)) i)))] (WQ.inNormal (WQ.then (hK24 _ _ _ (WC.region (WL.y (vI ((i + 1 : Nat) : Int)) 43 (x_ad (((i + 1 : Nat) : Int))) (WL.z (vI ((i + 1 : Nat) : Int)) 28 (WL.nil (WQ.sb [(1, .slice p n cap), (2, vP b2 0), (8, vP b25 0), (26, vS go n n), (27, vI (n : Int)), (28, vI ((i + 1 : Nat) : Int))] ?_))))))))
    refine WQ.then (hK19 _ _ _ (by omega) ⟨i + 1, (upI q i m), rfl, rfl, by omega, prc_step hq hf, hH28⟩)
  ·
   refine WL.y (.bool false) 29 (x_lss rfl rfl rfl (dF (hlt))) (WL.k hK22 (WC.seq fun K29 hK29 => ?_))
   refine WC.no rfl ?_
   refine WC.exit (WQ.thenExit (WQ.thenExit (WQ.inExit (WQ.then (hK17 _ _ _ (WC.seq fun K30 hK30 => WC.region (WL.z (vP b25 0) 44 (WL.z (.slice p n cap) 45 (WL.z (vI (n : Int)) 46 ?_)))))))))
   refine WL.c 51 #[vP b25 0, vI 0, vI (n : Int)] 47 ?_
   refine (Clist b25 p n cap gp c A B (prc m (mk0 s y l c n (trC c n))) hc0 hpb _ ⟨hIn.below (HP.below hH21), one1 (HP.range hH21 3 rfl rfl), (fun i hi => range1 (HP.cell hH21 2 rfl (irow_get hi (prc_end hq (by omega)))))⟩).mono ?_
   rintro e w31 ⟨rfl, hb32⟩
   refine ⟨_, rfl, ?_⟩
   have hH33 := HP.call hH21 hb32
   refine WL.z (vI (penV s y l m c A n)) 4 (WL.z (vI 0) 5 (WL.k hK30 (WC.ret ?_)))
   refine WQ.ret2 4 5 rfl rfl rfl ?_
   exact ⟨.inr ⟨hyes, rfl⟩, HP.below hH33⟩
theorem rPenalty_any (s y l m : Int) (p : Option Addr) (n cap : Nat) (c A B : Nat → Int) (w : World) (hIn : Ec.InC w p n c A B) (hn : n ≤ 400) (hM : ∀ w : World, Ec.InC w p n c A B → Calls Try.prog 52 #[.agg #[vI s, vI y, vI l, vI m], .slice p n cap] w (MarkR0 s y l m c A B n (trC c n) w)) :
  Calls Try.prog 25 #[.agg #[vI s, vI y, vI l, vI m], .slice p n cap] w fun e w' => ((okC s y l m c A B n = false ∧ e = .returned (.tuple #[vI 0, vI 1])) ∨ (okC s y l m c A B n = true ∧ e = .returned (.tuple #[vI (penV s y l m c A n), vI 0]))) ∧ Below w.heap.size w w' := by
 refine calls_of Try.func25 rfl (m := 43) rfl [(0, .agg #[vI s, vI y, vI l, vI m]), (1, .slice p n cap)] (Fr_enter [.agg #[vI s, vI y, vI l, vI m], .slice p n cap] 43 (Nat.le_of_ble_eq_true rfl)) ?_
 have hH1 : HP Tr w w [] := HP.refl w
 refine WC.seq fun K2 hK2 => WC.region ?_
 refine WL.alloc (c := #[vI s, vI y, vI l, vI m]) (T := 23) hH1 2 rfl (by decide) rfl rfl (fun b2 => vP b2 0) (by kernel_rfl) (fun b2 w3 hw3 => ?_)
 have hH4 : HP Tr w w3 [.cel b2 #[vI s, vI y, vI l, vI m] 23] := hw3.2
 have nb2 := hw3.1
 clear hw3
 refine WL.z (vI 0) 4 (WL.z (vI 0) 5 (WL.k hK2 (WC.seq fun K5 hK5 => WC.region (WL.y (.agg #[vI s, vI y, vI l, vI m]) 11 (x_loadS (cs := [vI s, vI y, vI l, vI m]) rfl rfl Try.underlying23 rfl sz23 (HP.range hH4 0 rfl rfl)) (WL.z (.slice p n cap) 12 ?_)))))
 refine WL.c 52 #[.agg #[vI s, vI y, vI l, vI m], .slice p n cap] 13 ?_
 refine (hM _ (hIn.below (HP.below hH4))).mono ?_
 rintro e w4 (⟨hno, rfl, hb⟩ | ⟨hyes, go, rfl, hb⟩)
 ·
  refine ⟨_, rfl, ?_⟩
  have hH6 := HP.call hH4 hb
  refine WL.z (.tuple #[.slice none 0 0, vI 1]) 10 (WL.z (.slice none 0 0) 14 (WL.z (vI 1) 15 (WL.z (.slice none 0 0) 6 (WL.z (vI 1) 7 (WL.k hK5 (WC.sb [(0, .agg #[vI s, vI y, vI l, vI m]), (1, .slice p n cap), (2, vP b2 0), (4, vI 0), (5, vI 0), (6, .slice none 0 0), (7, vI 1)] (WC.seq fun K7 hK7 => WC.seq fun K8 hK8 => WC.region ?_)))))))
  refine WL.z (vI 1) 16 (WL.y (.bool true) 17 (x_neq rfl rfl rfl (by decide)) (WL.k hK8 ?_))
  refine WC.yes rfl ?_
  refine WC.seq fun K9 hK9 => WC.region (WL.z (vI 1) 18 (WL.z (vI 0) 4 (WL.z (vI 1) 5 (WL.k hK9 (WC.ret ?_)))))
  refine WQ.thenRet ?_
  refine WQ.ret2 4 5 rfl rfl rfl ?_
  exact ⟨.inl ⟨hno, rfl⟩, HP.below hH6⟩
 ·
  refine ⟨_, rfl, ?_⟩
  have hH10 : HP Tr w _ [.cel b2 #[vI s, vI y, vI l, vI m] 23, .cel go (brow n (mk0 s y l c n (trC c n))) 4] := HP.trans hH4 hb
  obtain ⟨hg0, hc0, hf0⟩ := okC_iff.1 hyes
  have hg := vG_iff.1 hg0
  have hn9 := (Ec.chk_ok hc0).1
  have hpb := prc_bd (m := m) hg.2.2.2 (mk0 s y l c n (trC c n))
  refine WL.z (.tuple #[vS go n n, vI 0]) 10 (WL.z (vS go n n) 14 (WL.z (vI 0) 15 (WL.z (vS go n n) 6 (WL.z (vI 0) 7 (WL.k hK5 (WC.sb [(0, .agg #[vI s, vI y, vI l, vI m]), (1, .slice p n cap), (2, vP b2 0), (4, vI 0), (5, vI 0), (6, vS go n n), (7, vI 0)] (WC.seq fun K11 hK11 => WC.seq fun K12 hK12 => WC.region ?_)))))))
  refine WL.z (vI 0) 16 (WL.y (.bool false) 17 (x_neq rfl rfl rfl (by decide)) (WL.k hK12 ?_))
  refine WC.no rfl ?_
  refine WC.skip (WQ.then (hK11 _ _ _ (WC.seq fun K13 hK13 => WC.region (WL.z (.slice p n cap) 19 (WL.z (vI (n : Int)) 20 ?_)))))
  refine WL.alloc (c := irow n (fun _ => 0)) (T := 3) hH10 21 rfl (by decide) rfl rfl (fun gp => vS gp n n) (x_makeR rfl rfl rfl (Ec.makeI2 n hn _)) (fun gp w9 hw9 => ?_)
  have hH14 : HP Tr w w9 [.cel b2 #[vI s, vI y, vI l, vI m] 23, .cel go (brow n (mk0 s y l c n (trC c n))) 4, .cel gp (irow n (fun _ => 0)) 3] := hw9.2
  clear hw9
  refine WL.z (vS gp n n) 8 (WL.k hK13 (WC.seq fun K15 hK15 => WC.seq fun K16 hK16 => WC.region (WL.z (vI 0) 9 (WL.k hK16 (WC.block ?_)))))
  refine WC.loop (fun kk0 ll0 ww0 => ∃ (i : Nat) (q : Nat → Int), ll0 = [(1, .slice p n cap), (2, vP b2 0), (6, vS go n n), (8, vS gp n n), (9, vI (i : Int))] ∧ kk0 = n - i ∧ (i ≤ n) ∧ (∀ j, q j = if j < i then prc m (mk0 s y l c n (trC c n)) j else 0) ∧ HP Tr w ww0 [.cel b2 #[vI s, vI y, vI l, vI m] 23, .cel go (brow n (mk0 s y l c n (trC c n))) 4, .cel gp (irow n q) 3]) (n) [(1, .slice p n cap), (2, vP b2 0), (6, vS go n n), (8, vS gp n n), (9, vI 0)] ⟨rfl, rfl, rfl, rfl, rfl, trivial⟩ ⟨0, (fun _ => 0), rfl, rfl, Nat.zero_le _, (fun j => by rw [if_neg (Nat.not_lt_zero _)]), hH14⟩ ?_
  rintro kk l w18 ⟨i, q, rfl, hkk, hi, hq, hH19⟩ K17 hK17
  refine WC.seq fun K20 hK20 => WC.seq fun K21 hK21 => WC.region (WL.z (vI (i : Int)) 22 (WL.z (.slice p n cap) 23 (WL.z (vI (n : Int)) 24 ?_)))
  by_cases hlt : (i : Int) < (n : Int)
  ·
   refine WL.y (.bool true) 25 (x_lss rfl rfl rfl (dT (hlt))) (WL.k hK21 ?_)
   refine WC.yes rfl ?_
   refine WC.skip (WQ.then (hK20 _ _ _ (WC.seq fun K22 hK22 => WC.block (WC.seq fun K23 hK23 => WC.region (WL.z (vS go n n) 28 (WL.z (vI (i : Int)) 29 (WL.y (vP go i) 30 (x_ix (i) (i) Try.underlying39 sz4) (WL.y (.bool ((mk0 s y l c n (trC c n)) i)) 31 (x_load rfl rfl Try.underlying4 rfl (HP.cell hH19 1 rfl (brow_get (by omega) rfl))) (WL.z (.bool (!((mk0 s y l c n (trC c n)) i))) 32 ?_)))))))))
   refine WL.k hK23 (WC.sb [(1, .slice p n cap), (2, vP b2 0), (6, vS go n n), (8, vS gp n n), (9, vI (i : Int)), (25, .bool true), (32, .bool (!((mk0 s y l c n (trC c n)) i)))] ?_)
   rcases Bool.eq_false_or_eq_true ((mk0 s y l c n (trC c n)) i) with hf | hf
   ·
    refine WC.no (congrArg (fun b => some (Value.bool (!b))) hf) ?_
    refine WC.skip (WQ.inNormal (WQ.then (hK22 _ _ _ (WC.region (WL.z (vI (i : Int)) 26 (WL.y (vI ((i + 1 : Nat) : Int)) 27 (x_ad (((i + 1 : Nat) : Int))) (WL.z (vI ((i + 1 : Nat) : Int)) 9 (WL.nil (WQ.sb [(1, .slice p n cap), (2, vP b2 0), (6, vS go n n), (8, vS gp n n), (9, vI ((i + 1 : Nat) : Int))] ?_)))))))))
    refine WQ.then (hK17 _ _ _ (by omega) ⟨i + 1, q, rfl, rfl, by omega, prc_stay hq hf, hH19⟩)
   ·
    refine WC.yes (congrArg (fun b => some (Value.bool (!b))) hf) ?_
    refine WC.region (WL.z (vS gp n n) 33 (WL.z (vI (i : Int)) 34 (WL.z (vP b2 3) 35 (WL.y (vI m) 36 (x_load rfl rfl Try.underlying3 rfl (HP.cell hH19 0 rfl rfl)) (WL.y (vP gp i) 37 (x_ix (i) (i) Try.underlying33 sz3) ?_)))))
    refine WL.store (H2 := [.cel b2 #[vI s, vI y, vI l, vI m] 23, .cel go (brow n (mk0 s y l c n (trC c n))) 4, .cel gp (irow n (upI q i m)) 3]) 2 hH19 rfl rfl rfl rfl rfl rfl sz3 rfl (by simp [size_irow]; omega) (irow_set _ _ _ _) rfl ?_
    intro w24 hH25
    refine WL.nil (WQ.inNormal (WQ.then (hK22 _ _ _ (WC.region (WL.z (vI (i : Int)) 26 (WL.y (vI ((i + 1 : Nat) : Int)) 27 (x_ad (((i + 1 : Nat) : Int))) (WL.z (vI ((i + 1 : Nat) : Int)) 9 (WL.nil (WQ.sb [(1, .slice p n cap), (2, vP b2 0), (6, vS go n n), (8, vS gp n n), (9, vI ((i + 1 : Nat) : Int))] ?_)))))))))
    refine WQ.then (hK17 _ _ _ (by omega) ⟨i + 1, (upI q i m), rfl, rfl, by omega, prc_step hq hf, hH25⟩)
  ·
   refine WL.y (.bool false) 25 (x_lss rfl rfl rfl (dF (hlt))) (WL.k hK21 ?_)
   refine WC.no rfl ?_
   refine WC.exit (WQ.thenExit (WQ.thenExit (WQ.inExit (WQ.then (hK15 _ _ _ (WC.seq fun K26 hK26 => WC.region (WL.z (.slice p n cap) 38 (WL.z (vS gp n n) 39 (WL.z (.slice p n cap) 40 (WL.z (vI (n : Int)) 41 ?_))))))))))
   refine WL.c 53 #[.slice p n cap, vS gp n n, vI 0, vI (n : Int)] 42 ?_
   refine (Worst p n cap gp c A B (prc m (mk0 s y l c n (trC c n))) hc0 hpb _ ⟨hIn.below (HP.below hH19), (fun i hi => range1 (HP.cell hH19 2 rfl (irow_get hi (prc_end hq (by omega)))))⟩).mono ?_
   rintro e w27 ⟨rfl, hb28⟩
   refine ⟨_, rfl, ?_⟩
   have hH29 := HP.call hH19 hb28
   refine WL.z (vI (penV s y l m c A n)) 4 (WL.z (vI 0) 5 (WL.k hK26 (WC.sb [(1, .slice p n cap), (2, vP b2 0), (4, vI (penV s y l m c A n)), (5, vI 0), (6, vS go n n), (8, vS gp n n), (9, vI (i : Int)), (25, .bool false)] (WC.ret ?_))))
   refine WQ.ret2 4 5 rfl rfl rfl ?_
   exact ⟨.inr ⟨hyes, rfl⟩, HP.below hH29⟩
theorem Reload_any (s y l m : Int) (p : Option Addr) (n cap : Nat) (c A B : Nat → Int) (w : World) (hIn : Ec.InC w p n c A B) (hn : n ≤ 400) :
  Calls Try.prog 26 #[.agg #[vI s, vI y, vI l, vI m], .slice p n cap] w fun e w' => ((okC s y l m c A B n = false ∧ e = .returned (.tuple #[vI 0, vI 1])) ∨ (okC s y l m c A B n = true ∧ e = .returned (.tuple #[vI (m * (lnC l (mk0 s y l c n (trC c n)) n 1000 : Int)), vI 0]))) ∧ Below w.heap.size w w' := by
 refine calls_of Try.func26 rfl (m := 40) rfl [(0, .agg #[vI s, vI y, vI l, vI m]), (1, .slice p n cap)] (Fr_enter [.agg #[vI s, vI y, vI l, vI m], .slice p n cap] 40 (Nat.le_of_ble_eq_true rfl)) ?_
 have hH1 : HP Tr w w [] := HP.refl w
 refine WC.seq fun K2 hK2 => WC.region ?_
 refine WL.alloc (c := #[vI s, vI y, vI l, vI m]) (T := 23) hH1 2 rfl (by decide) rfl rfl (fun b2 => vP b2 0) (by kernel_rfl) (fun b2 w3 hw3 => ?_)
 have hH4 : HP Tr w w3 [.cel b2 #[vI s, vI y, vI l, vI m] 23] := hw3.2
 have nb2 := hw3.1
 clear hw3
 refine WL.z (vI 0) 4 (WL.z (vI 0) 5 (WL.k hK2 (WC.seq fun K5 hK5 => WC.region (WL.y (.agg #[vI s, vI y, vI l, vI m]) 12 (x_loadS (cs := [vI s, vI y, vI l, vI m]) rfl rfl Try.underlying23 rfl sz23 (HP.range hH4 0 rfl rfl)) (WL.z (.slice p n cap) 13 ?_)))))
 refine WL.c 46 #[.agg #[vI s, vI y, vI l, vI m], .slice p n cap] 14 ?_
 refine (MustA s y l m p n cap c A B _ (hIn.below (HP.below hH4)) hn).mono ?_
 rintro e w4 (⟨hno, rfl, hb⟩ | ⟨hyes, go, rfl, hb⟩)
 ·
  refine ⟨_, rfl, ?_⟩
  have hH6 := HP.call hH4 hb
  refine WL.z (.tuple #[.slice none 0 0, vI 1]) 11 (WL.z (.slice none 0 0) 15 (WL.z (vI 1) 16 (WL.z (.slice none 0 0) 6 (WL.z (vI 1) 7 (WL.k hK5 (WC.sb [(0, .agg #[vI s, vI y, vI l, vI m]), (1, .slice p n cap), (2, vP b2 0), (4, vI 0), (5, vI 0), (6, .slice none 0 0), (7, vI 1)] (WC.seq fun K7 hK7 => WC.seq fun K8 hK8 => WC.region ?_)))))))
  refine WL.z (vI 1) 17 (WL.y (.bool true) 18 (x_neq rfl rfl rfl (by decide)) (WL.k hK8 ?_))
  refine WC.yes rfl ?_
  refine WC.seq fun K9 hK9 => WC.region (WL.z (vI 1) 19 (WL.z (vI 0) 4 (WL.z (vI 1) 5 (WL.k hK9 (WC.ret ?_)))))
  refine WQ.thenRet ?_
  refine WQ.ret2 4 5 rfl rfl rfl ?_
  exact ⟨.inl ⟨hno, rfl⟩, HP.below hH6⟩
 ·
  refine ⟨_, rfl, ?_⟩
  have hH10 : HP Tr w _ [.cel b2 #[vI s, vI y, vI l, vI m] 23, .cel go (brow n (mk0 s y l c n (trC c n))) 4] := HP.trans hH4 hb
  obtain ⟨hg0, hc0, hf0⟩ := okC_iff.1 hyes
  have hg := vG_iff.1 hg0
  have hn9 := (Ec.chk_ok hc0).1
  have hpb := prc_bd (m := m) hg.2.2.2 (mk0 s y l c n (trC c n))
  refine WL.z (.tuple #[vS go n n, vI 0]) 11 (WL.z (vS go n n) 15 (WL.z (vI 0) 16 (WL.z (vS go n n) 6 (WL.z (vI 0) 7 (WL.k hK5 (WC.sb [(0, .agg #[vI s, vI y, vI l, vI m]), (1, .slice p n cap), (2, vP b2 0), (4, vI 0), (5, vI 0), (6, vS go n n), (7, vI 0)] (WC.seq fun K11 hK11 => WC.seq fun K12 hK12 => WC.region ?_)))))))
  refine WL.z (vI 0) 17 (WL.y (.bool false) 18 (x_neq rfl rfl rfl (by decide)) (WL.k hK12 ?_))
  refine WC.no rfl ?_
  refine WC.skip (WQ.then (hK11 _ _ _ (WC.seq fun K13 hK13 => WC.region ?_)))
  refine WL.mapMakeH (k := 3) (e := 4) hH10 20 rfl (by decide) rfl rfl ?_
  rintro mb w9 hmz hmne hH9 hmp0
  have hH14 : HP Tr w w9 [.cel b2 #[vI s, vI y, vI l, vI m] 23, .cel go (brow n (mk0 s y l c n (trC c n))) 4] := hH9
  clear hH9
  refine WL.z ((.map (some mb))) 8 (WL.k hK13 (WC.seq fun K15 hK15 => WC.seq fun K16 hK16 => WC.region (WL.z (vS go n n) 21 (WL.z (vI (n : Int)) 22 (WL.z (vI 0) 23 (WL.nil (WQ.then ?_)))))))
  refine hK16 _ _ _ (WC.block ?_)
  refine WC.loop (fun kk0 ll0 ww0 => ∃ (i : Nat) (D : DataW Unit), ll0 = [(2, vP b2 0), (8, (.map (some mb))), (21, vS go n n), (22, vI (n : Int)), (23, vI (i : Int))] ∧ kk0 = n - i ∧ (i ≤ n) ∧ (ww0.ownsMap Try.prog 3 (plainElem (H := Unit) Try.prog 4) mb i D) ∧ (MRel l (mk0 s y l c n (trC c n)) i D) ∧ HP Tr w ww0 [.cel b2 #[vI s, vI y, vI l, vI m] 23, .cel go (brow n (mk0 s y l c n (trC c n))) 4]) (n) [(2, vP b2 0), (8, (.map (some mb))), (21, vS go n n), (22, vI (n : Int)), (23, vI 0)] ⟨rfl, rfl, rfl, rfl, rfl, trivial⟩ ⟨0, (.map []), rfl, rfl, Nat.zero_le _, hmp0, MRel.start _ _, hH14⟩ ?_
  rintro kk l w18 ⟨i, D, rfl, hkk, hi, hmp, hMR, hH19⟩ K17 hK17
  refine WC.seq fun K20 hK20 => WC.region ?_
  by_cases hlt : (i : Int) < (n : Int)
  ·
   refine WL.y (.bool true) 24 (x_lss rfl rfl rfl (dT (hlt))) (WL.k hK20 (WC.seq fun K21 hK21 => ?_))
   refine WC.yes rfl ?_
   refine WC.skip (WQ.then (hK21 _ _ _ (WC.seq fun K22 hK22 => WC.block (WC.seq fun K23 hK23 => WC.region (WL.z (vI (i : Int)) 25 (WL.y (vP go i) 26 (x_ix (i) (i) Try.underlying39 sz4) (WL.y (.bool ((mk0 s y l c n (trC c n)) i)) 27 (x_load rfl rfl Try.underlying4 rfl (HP.cell hH19 1 rfl (brow_get (by omega) rfl))) (WL.z (vI (i : Int)) 9 (WL.z (.bool ((mk0 s y l c n (trC c n)) i)) 10 ?_)))))))))
   refine WL.k hK23 (WC.seq fun K24 hK24 => WC.region (WL.z (.bool ((mk0 s y l c n (trC c n)) i)) 28 (WL.k hK24 ?_)))
   rcases Bool.eq_false_or_eq_true ((mk0 s y l c n (trC c n)) i) with hf | hf
   ·
    refine WC.yes (congrArg (fun b => some (Value.bool b)) hf) ?_
    refine WC.region (WL.z ((.map (some mb))) 29 (WL.z (vI (i : Int)) 30 (WL.z (vP b2 2) 31 (WL.y (vI l) 32 (x_load rfl rfl Try.underlying3 rfl (HP.cell hH19 0 rfl rfl)) ?_))))
    obtain ⟨ka, hka, hka2⟩ := div_bd hg.2.2.1 (show i ≤ 999 by omega)
    refine WL.y (vI ((i : Int) / l)) 33 (x_quo rfl rfl rfl (by omega) (tdiv_pos (by omega) (by omega)) (by omega) (by omega)) ?_
    refine WL.mapPut rfl rfl rfl rfl rfl rfl law39 Try.underlying72 hmp (by unfold maxLen; omega) (keyOf_int_mk Try.underlying3 (WalkArith.wf_i64 (by omega))) (plainElem_bool Try.underlying4 true) ?_
    rintro w8 hmp8 hg8
    have hH25 : HP Tr w w8 [.cel b2 #[vI s, vI y, vI l, vI m] 23, .cel go (brow n (mk0 s y l c n (trC c n))) 4] := HP.grown hH19 hg8 hmz hmne
    refine WL.nil (WQ.inNormal (WQ.then (hK22 _ _ _ (WC.sb [(2, vP b2 0), (8, (.map (some mb))), (9, vI (i : Int)), (10, .bool ((mk0 s y l c n (trC c n)) i)), (21, vS go n n), (22, vI (n : Int)), (23, vI (i : Int)), (24, .bool true), (28, .bool ((mk0 s y l c n (trC c n)) i))] (WC.region (WL.y (vI ((i + 1 : Nat) : Int)) 34 (x_ad (((i + 1 : Nat) : Int))) (WL.z (vI ((i + 1 : Nat) : Int)) 23 (WL.nil (WQ.sb [(2, vP b2 0), (8, (.map (some mb))), (21, vS go n n), (22, vI (n : Int)), (23, vI ((i + 1 : Nat) : Int))] ?_)))))))))
    refine WQ.then (hK17 _ _ _ (by omega) ⟨i + 1, (D.put (.int .i64 ((i : Int) / l)) (.lit (.bool true))), rfl, rfl, by omega, hmp8, hMR.yes hf hka hka2 _, hH25⟩)
   ·
    refine WC.no (congrArg (fun b => some (Value.bool b)) hf) ?_
    refine WC.skip (WQ.inNormal (WQ.then (hK22 _ _ _ (WC.region (WL.y (vI ((i + 1 : Nat) : Int)) 34 (x_ad (((i + 1 : Nat) : Int))) (WL.z (vI ((i + 1 : Nat) : Int)) 23 (WL.nil (WQ.sb [(2, vP b2 0), (8, (.map (some mb))), (21, vS go n n), (22, vI (n : Int)), (23, vI ((i + 1 : Nat) : Int))] ?_))))))))
    refine WQ.then (hK17 _ _ _ (by omega) ⟨i + 1, D, rfl, rfl, by omega, hmp.mono (by omega), hMR.no hf, hH19⟩)
  ·
   refine WL.y (.bool false) 24 (x_lss rfl rfl rfl (dF (hlt))) (WL.k hK20 (WC.seq fun K26 hK26 => ?_))
   refine WC.no rfl ?_
   refine WC.exit (WQ.thenExit (WQ.thenExit (WQ.inExit (WQ.then (hK15 _ _ _ (WC.seq fun K27 hK27 => ?_))))))
   have hin : i = n := by omega
   have hsz := hMR.sz
   rw [hin] at hsz
   have hle := lnC_le l (mk0 s y l c n (trC c n)) n 1000
   have hmu := mul_bd hg.2.2.2 (x := (Maps.size D : Int)) (by omega)
   refine WC.region (WL.z (vP b2 3) 35 (WL.y (vI m) 36 (x_load rfl rfl Try.underlying3 rfl (HP.cell hH19 0 rfl rfl)) (WL.z ((.map (some mb))) 37 (WL.y (vI (Maps.size D : Int)) 38 (x_lenMap rfl rfl Try.underlying72 hmp) (WL.y (vI (m * (Maps.size D : Int))) 39 (x_mul (Z := m * (Maps.size D : Int)) rfl rfl rfl (rfl) (by omega) (by omega)) (WL.z (vI (m * (Maps.size D : Int))) 4 (WL.z (vI 0) 5 (WL.k hK27 (WC.ret ?_)))))))))
   refine WQ.ret2 4 5 rfl rfl rfl ?_
   exact ⟨.inr ⟨hyes, by rw [hsz]⟩, HP.below hH19⟩
theorem rReload_any (s y l m : Int) (p : Option Addr) (n cap : Nat) (c A B : Nat → Int) (w : World) (hIn : Ec.InC w p n c A B) (hn : n ≤ 400) (hM : ∀ w : World, Ec.InC w p n c A B → Calls Try.prog 52 #[.agg #[vI s, vI y, vI l, vI m], .slice p n cap] w (MarkR0 s y l m c A B n (trC c n) w)) :
  Calls Try.prog 27 #[.agg #[vI s, vI y, vI l, vI m], .slice p n cap] w fun e w' => ((okC s y l m c A B n = false ∧ e = .returned (.tuple #[vI 0, vI 1])) ∨ (okC s y l m c A B n = true ∧ e = .returned (.tuple #[vI (m * (lnC l (mk0 s y l c n (trC c n)) n 1000 : Int)), vI 0]))) ∧ Below w.heap.size w w' := by
 refine calls_of Try.func27 rfl (m := 63) rfl [(0, .agg #[vI s, vI y, vI l, vI m]), (1, .slice p n cap)] (Fr_enter [.agg #[vI s, vI y, vI l, vI m], .slice p n cap] 63 (Nat.le_of_ble_eq_true rfl)) ?_
 have hH1 : HP Tr w w [] := HP.refl w
 refine WC.seq fun K2 hK2 => WC.region ?_
 refine WL.alloc (c := #[vI s, vI y, vI l, vI m]) (T := 23) hH1 2 rfl (by decide) rfl rfl (fun b2 => vP b2 0) (by kernel_rfl) (fun b2 w3 hw3 => ?_)
 have hH4 : HP Tr w w3 [.cel b2 #[vI s, vI y, vI l, vI m] 23] := hw3.2
 have nb2 := hw3.1
 clear hw3
 refine WL.z (vI 0) 4 (WL.z (vI 0) 5 (WL.k hK2 (WC.seq fun K5 hK5 => WC.region (WL.y (.agg #[vI s, vI y, vI l, vI m]) 13 (x_loadS (cs := [vI s, vI y, vI l, vI m]) rfl rfl Try.underlying23 rfl sz23 (HP.range hH4 0 rfl rfl)) (WL.z (.slice p n cap) 14 ?_)))))
 refine WL.c 52 #[.agg #[vI s, vI y, vI l, vI m], .slice p n cap] 15 ?_
 refine (hM _ (hIn.below (HP.below hH4))).mono ?_
 rintro e w4 (⟨hno, rfl, hb⟩ | ⟨hyes, go, rfl, hb⟩)
 ·
  refine ⟨_, rfl, ?_⟩
  have hH6 := HP.call hH4 hb
  refine WL.z (.tuple #[.slice none 0 0, vI 1]) 12 (WL.z (.slice none 0 0) 16 (WL.z (vI 1) 17 (WL.z (.slice none 0 0) 6 (WL.z (vI 1) 7 (WL.k hK5 (WC.sb [(0, .agg #[vI s, vI y, vI l, vI m]), (1, .slice p n cap), (2, vP b2 0), (4, vI 0), (5, vI 0), (6, .slice none 0 0), (7, vI 1)] (WC.seq fun K7 hK7 => WC.seq fun K8 hK8 => WC.region ?_)))))))
  refine WL.z (vI 1) 18 (WL.y (.bool true) 19 (x_neq rfl rfl rfl (by decide)) (WL.k hK8 ?_))
  refine WC.yes rfl ?_
  refine WC.seq fun K9 hK9 => WC.region (WL.z (vI 1) 20 (WL.z (vI 0) 4 (WL.z (vI 1) 5 (WL.k hK9 (WC.ret ?_)))))
  refine WQ.thenRet ?_
  refine WQ.ret2 4 5 rfl rfl rfl ?_
  exact ⟨.inl ⟨hno, rfl⟩, HP.below hH6⟩
 ·
  refine ⟨_, rfl, ?_⟩
  have hH10 : HP Tr w _ [.cel b2 #[vI s, vI y, vI l, vI m] 23, .cel go (brow n (mk0 s y l c n (trC c n))) 4] := HP.trans hH4 hb
  obtain ⟨hg0, hc0, hf0⟩ := okC_iff.1 hyes
  have hg := vG_iff.1 hg0
  have hn9 := (Ec.chk_ok hc0).1
  have hpb := prc_bd (m := m) hg.2.2.2 (mk0 s y l c n (trC c n))
  refine WL.z (.tuple #[vS go n n, vI 0]) 12 (WL.z (vS go n n) 16 (WL.z (vI 0) 17 (WL.z (vS go n n) 6 (WL.z (vI 0) 7 (WL.k hK5 (WC.sb [(0, .agg #[vI s, vI y, vI l, vI m]), (1, .slice p n cap), (2, vP b2 0), (4, vI 0), (5, vI 0), (6, vS go n n), (7, vI 0)] (WC.seq fun K11 hK11 => WC.seq fun K12 hK12 => WC.region ?_)))))))
  refine WL.z (vI 0) 18 (WL.y (.bool false) 19 (x_neq rfl rfl rfl (by decide)) (WL.k hK12 ?_))
  refine WC.no rfl ?_
  refine WC.skip (WQ.then (hK11 _ _ _ (WC.seq fun K13 hK13 => WC.region (WL.z (vI 0) 8 (WL.k hK13 (WC.seq fun K14 hK14 => WC.seq fun K15 hK15 => WC.region ?_))))))
  refine WL.z (vI 0) 9 (WL.k hK15 (WC.block ?_))
  refine WC.loop (fun kk0 ll0 ww0 => ∃ (line : Nat) (cnt : Nat), ll0 = [(1, .slice p n cap), (2, vP b2 0), (6, vS go n n), (8, vI (cnt : Int)), (9, vI (line : Int))] ∧ kk0 = n - line ∧ (line ≤ n) ∧ (lnC l (mk0 s y l c n (trC c n)) n line = cnt) ∧ HP Tr w ww0 [.cel b2 #[vI s, vI y, vI l, vI m] 23, .cel go (brow n (mk0 s y l c n (trC c n))) 4]) (n) [(1, .slice p n cap), (2, vP b2 0), (6, vS go n n), (8, vI 0), (9, vI 0)] ⟨rfl, rfl, rfl, rfl, rfl, trivial⟩ ⟨0, 0, rfl, rfl, Nat.zero_le _, rfl, hH10⟩ ?_
  rintro kk l w17 ⟨line, cnt, rfl, hkk, hi, hcn, hH18⟩ K16 hK16
  refine WC.seq fun K19 hK19 => WC.seq fun K20 hK20 => WC.region (WL.z (vI (line : Int)) 21 (WL.z (vP b2 2) 22 (WL.y (vI l) 23 (x_load rfl rfl Try.underlying3 rfl (HP.cell hH18 0 rfl rfl)) ?_)))
  have hmb := mul_bd8 hg.2.2.1 (x := (line : Int)) (by omega)
  refine WL.y (vI ((line : Int) * l)) 24 (x_mul (Z := (line : Int) * l) rfl rfl rfl rfl (by omega) (by omega)) (WL.z (.slice p n cap) 25 (WL.z (vI (n : Int)) 26 ?_))
  by_cases hlt : (line : Int) * l < (n : Int)
  ·
   refine WL.y (.bool true) 27 (x_lss rfl rfl rfl (dT (hlt))) (WL.k hK20 (WC.sb [(1, .slice p n cap), (2, vP b2 0), (6, vS go n n), (8, vI (cnt : Int)), (9, vI (line : Int)), (27, .bool true)] ?_))
   refine WC.yes rfl ?_
   refine WC.skip (WQ.then (hK19 _ _ _ (WC.seq fun K21 hK21 => WC.block (WC.seq fun K22 hK22 => WC.region (WL.z (.bool false) 10 (WL.k hK22 (WC.seq fun K23 hK23 => ?_)))))))
   refine WC.seq fun K24 hK24 => WC.region (WL.z (vI (line : Int)) 30 (WL.z (vP b2 2) 31 (WL.y (vI l) 32 (x_load rfl rfl Try.underlying3 rfl (HP.cell hH18 0 rfl rfl)) ?_)))
   obtain ⟨k0, hk0⟩ : ∃ k0 : Nat, ((k0 : Nat) : Int) = (line : Int) * l := ⟨((line : Int) * l).toNat, by omega⟩
   refine WL.y (vI (k0 : Int)) 33 (x_mul (Z := (k0 : Int)) rfl rfl rfl hk0.symm (by omega) (by omega)) (WL.z (vI (k0 : Int)) 11 (WL.k hK24 (WC.block ?_)))
   refine WC.loop (fun kk0 ll0 ww0 => ∃ (i : Nat) (inn : Bool), ll0 = [(1, .slice p n cap), (2, vP b2 0), (6, vS go n n), (8, vI (cnt : Int)), (9, vI (line : Int)), (10, .bool inn), (11, vI (i : Int))] ∧ kk0 = n - i ∧ (k0 ≤ i) ∧ ((i : Int) ≤ (line : Int) * l + l) ∧ (i ≤ n) ∧ (inn = true ↔ ∃ j, k0 ≤ j ∧ j < i ∧ (mk0 s y l c n (trC c n)) j = true) ∧ HP Tr w ww0 [.cel b2 #[vI s, vI y, vI l, vI m] 23, .cel go (brow n (mk0 s y l c n (trC c n))) 4]) (n - k0) [(1, .slice p n cap), (2, vP b2 0), (6, vS go n n), (8, vI (cnt : Int)), (9, vI (line : Int)), (10, .bool false), (11, vI (k0 : Int))] ⟨rfl, rfl, rfl, rfl, rfl, rfl, rfl, trivial⟩ ⟨k0, false, rfl, rfl, Nat.le_refl _, by omega, by omega, in_0, hH18⟩ ?_
   rintro kk l w26 ⟨i, inn, rfl, hkk, hk1, hi2, hi3, hin, hH27⟩ K25 hK25
   refine WC.seq fun K28 hK28 => WC.seq fun K29 hK29 => WC.region (WL.z (vI (i : Int)) 34 (WL.z (.slice p n cap) 35 (WL.z (vI (n : Int)) 36 ?_)))
   by_cases hl1 : (i : Int) < (n : Int)
   ·
    refine WL.y (.bool true) 37 (x_lss rfl rfl rfl (dT (hl1))) (WL.z (.bool true) 38 (WL.z (vI (i : Int)) 39 (WL.z (vI (line : Int)) 40 (WL.y (vI ((line : Int) + 1)) 41 (x_ad ((line : Int) + 1)) (WL.z (vP b2 2) 42 (WL.y (vI l) 43 (x_load rfl rfl Try.underlying3 rfl (HP.cell hH27 0 rfl rfl)) (WL.y (vI ((line : Int) * l + l)) 44 (x_mul (Z := (line : Int) * l + l) rfl rfl rfl (by rw [Int.add_mul, Int.one_mul]) (by omega) (by omega)) ?_)))))))
    by_cases hl2 : (i : Int) < (line : Int) * l + l
    ·
     refine WL.y (.bool true) 45 (x_lss rfl rfl rfl (dT (hl2))) (WL.z (.bool true) 46 (WL.k hK29 (WC.sb [(1, .slice p n cap), (2, vP b2 0), (6, vS go n n), (8, vI (cnt : Int)), (9, vI (line : Int)), (10, .bool inn), (11, vI (i : Int)), (46, .bool true)] ?_)))
     refine WC.yes rfl ?_
     refine WC.skip (WQ.then (hK28 _ _ _ (WC.seq fun K30 hK30 => WC.block (WC.region ?_))))
     rcases Bool.eq_false_or_eq_true inn with rfl | rfl
     ·
      refine WL.z (.bool true) 49 (WL.z (.bool true) 50 (WL.p 51 (WL.p 52 (WL.p 53 (WL.p 54 (WL.z (.bool true) 55 (WL.z (.bool true) 10 (WL.nil (WQ.inNormal (WQ.then (hK30 _ _ _ ?_)))))))))))
      refine WC.sb [(1, .slice p n cap), (2, vP b2 0), (6, vS go n n), (8, vI (cnt : Int)), (9, vI (line : Int)), (10, .bool true), (11, vI (i : Int)), (46, .bool true)] (WC.region (WL.z (vI (i : Int)) 47 (WL.y (vI ((i + 1 : Nat) : Int)) 48 (x_ad (((i + 1 : Nat) : Int))) (WL.z (vI ((i + 1 : Nat) : Int)) 11 (WL.nil (WQ.sb [(1, .slice p n cap), (2, vP b2 0), (6, vS go n n), (8, vI (cnt : Int)), (9, vI (line : Int)), (10, .bool true), (11, vI ((i + 1 : Nat) : Int))] ?_))))))
      refine WQ.then (hK25 _ _ _ (by omega) ⟨i + 1, true, rfl, rfl, by omega, by omega, by omega, in_t hin, hH27⟩)
     ·
      refine WL.z (.bool false) 49 (WL.z (.bool false) 50 (WL.z (vS go n n) 51 (WL.z (vI (i : Int)) 52 (WL.y (vP go i) 53 (x_ix (i) (i) Try.underlying39 sz4) (WL.y (.bool ((mk0 s y l c n (trC c n)) i)) 54 (x_load rfl rfl Try.underlying4 rfl (HP.cell hH27 1 rfl (brow_get (by omega) rfl))) (WL.z (.bool ((mk0 s y l c n (trC c n)) i)) 55 (WL.z (.bool ((mk0 s y l c n (trC c n)) i)) 10 (WL.nil (WQ.inNormal (WQ.then (hK30 _ _ _ ?_)))))))))))
      refine WC.sb [(1, .slice p n cap), (2, vP b2 0), (6, vS go n n), (8, vI (cnt : Int)), (9, vI (line : Int)), (10, .bool ((mk0 s y l c n (trC c n)) i)), (11, vI (i : Int)), (46, .bool true)] (WC.region (WL.z (vI (i : Int)) 47 (WL.y (vI ((i + 1 : Nat) : Int)) 48 (x_ad (((i + 1 : Nat) : Int))) (WL.z (vI ((i + 1 : Nat) : Int)) 11 (WL.nil (WQ.sb [(1, .slice p n cap), (2, vP b2 0), (6, vS go n n), (8, vI (cnt : Int)), (9, vI (line : Int)), (10, .bool ((mk0 s y l c n (trC c n)) i)), (11, vI ((i + 1 : Nat) : Int))] ?_))))))
      refine WQ.then (hK25 _ _ _ (by omega) ⟨i + 1, ((mk0 s y l c n (trC c n)) i), rfl, rfl, by omega, by omega, by omega, in_f hk1 hin, hH27⟩)
    ·
     refine WL.y (.bool false) 45 (x_lss rfl rfl rfl (dF (hl2))) (WL.z (.bool false) 46 (WL.k hK29 (WC.sb [(1, .slice p n cap), (2, vP b2 0), (6, vS go n n), (8, vI (cnt : Int)), (9, vI (line : Int)), (10, .bool inn), (11, vI (i : Int)), (46, .bool false)] ?_)))
     refine WC.no rfl ?_
     refine WC.exit (WQ.thenExit (WQ.thenExit (WQ.inExit (WQ.then (hK23 _ _ _ (WC.seq fun K31 hK31 => ?_))))))
     have hln := lnH_of hg.2.2.1.1 hk0 (by omega) hi3 hi2 hin
     have hcb := lnC_le l (mk0 s y l c n (trC c n)) n line
     refine WC.region (WL.z (.bool inn) 56 (WL.k hK31 ?_))
     rcases Bool.eq_false_or_eq_true (inn) with hinn | hinn
     ·
      refine WC.yes (congrArg (fun b => some (Value.bool b)) hinn) ?_
      refine WC.region (WL.z (vI (cnt : Int)) 57 (WL.y (vI ((cnt + 1 : Nat) : Int)) 58 (x_ad (((cnt + 1 : Nat) : Int))) (WL.z (vI ((cnt + 1 : Nat) : Int)) 8 (WL.nil (WQ.inNormal (WQ.then (hK21 _ _ _ (WC.region (WL.z (vI (line : Int)) 28 (WL.y (vI ((line + 1 : Nat) : Int)) 29 (x_ad (((line + 1 : Nat) : Int))) (WL.z (vI ((line + 1 : Nat) : Int)) 9 ?_)))))))))))
      refine WL.nil (WQ.sb [(1, .slice p n cap), (2, vP b2 0), (6, vS go n n), (8, vI ((cnt + 1 : Nat) : Int)), (9, vI ((line + 1 : Nat) : Int))] ?_)
      refine WQ.then (hK16 _ _ _ (by omega) ⟨line + 1, cnt + 1, rfl, rfl, by omega, by rw [lnC_succ, hln, hinn, hcn]; rfl, hH27⟩)
     ·
      refine WC.no (congrArg (fun b => some (Value.bool b)) hinn) ?_
      refine WC.skip (WQ.inNormal (WQ.then (hK21 _ _ _ (WC.region (WL.z (vI (line : Int)) 28 (WL.y (vI ((line + 1 : Nat) : Int)) 29 (x_ad (((line + 1 : Nat) : Int))) (WL.z (vI ((line + 1 : Nat) : Int)) 9 (WL.nil (WQ.sb [(1, .slice p n cap), (2, vP b2 0), (6, vS go n n), (8, vI (cnt : Int)), (9, vI ((line + 1 : Nat) : Int))] ?_)))))))))
      refine WQ.then (hK16 _ _ _ (by omega) ⟨line + 1, cnt, rfl, rfl, by omega, by rw [lnC_succ, hln, hinn, hcn]; simp, hH27⟩)
   ·
    refine WL.y (.bool false) 37 (x_lss rfl rfl rfl (dF (hl1))) (WL.z (.bool false) 38 (WL.p 39 (WL.p 40 (WL.p 41 (WL.p 42 (WL.p 43 (WL.p 44 (WL.p 45 (WL.z (.bool false) 46 (WL.nil (WQ.then ?_)))))))))))
    refine hK29 _ _ _ (WC.sb [(1, .slice p n cap), (2, vP b2 0), (6, vS go n n), (8, vI (cnt : Int)), (9, vI (line : Int)), (10, .bool inn), (11, vI (i : Int)), (46, .bool false)] ?_)
    refine WC.no rfl ?_
    refine WC.exit (WQ.thenExit (WQ.thenExit (WQ.inExit (WQ.then (hK23 _ _ _ (WC.seq fun K32 hK32 => ?_))))))
    have hln := lnH_of hg.2.2.1.1 hk0 (by omega) hi3 hi2 hin
    have hcb := lnC_le l (mk0 s y l c n (trC c n)) n line
    refine WC.region (WL.z (.bool inn) 56 (WL.k hK32 ?_))
    rcases Bool.eq_false_or_eq_true (inn) with hinn | hinn
    ·
     refine WC.yes (congrArg (fun b => some (Value.bool b)) hinn) ?_
     refine WC.region (WL.z (vI (cnt : Int)) 57 (WL.y (vI ((cnt + 1 : Nat) : Int)) 58 (x_ad (((cnt + 1 : Nat) : Int))) (WL.z (vI ((cnt + 1 : Nat) : Int)) 8 (WL.nil (WQ.inNormal (WQ.then (hK21 _ _ _ (WC.region (WL.z (vI (line : Int)) 28 (WL.y (vI ((line + 1 : Nat) : Int)) 29 (x_ad (((line + 1 : Nat) : Int))) (WL.z (vI ((line + 1 : Nat) : Int)) 9 ?_)))))))))))
     refine WL.nil (WQ.sb [(1, .slice p n cap), (2, vP b2 0), (6, vS go n n), (8, vI ((cnt + 1 : Nat) : Int)), (9, vI ((line + 1 : Nat) : Int))] ?_)
     refine WQ.then (hK16 _ _ _ (by omega) ⟨line + 1, cnt + 1, rfl, rfl, by omega, by rw [lnC_succ, hln, hinn, hcn]; rfl, hH27⟩)
    ·
     refine WC.no (congrArg (fun b => some (Value.bool b)) hinn) ?_
     refine WC.skip (WQ.inNormal (WQ.then (hK21 _ _ _ (WC.region (WL.z (vI (line : Int)) 28 (WL.y (vI ((line + 1 : Nat) : Int)) 29 (x_ad (((line + 1 : Nat) : Int))) (WL.z (vI ((line + 1 : Nat) : Int)) 9 (WL.nil (WQ.sb [(1, .slice p n cap), (2, vP b2 0), (6, vS go n n), (8, vI (cnt : Int)), (9, vI ((line + 1 : Nat) : Int))] ?_)))))))))
     refine WQ.then (hK16 _ _ _ (by omega) ⟨line + 1, cnt, rfl, rfl, by omega, by rw [lnC_succ, hln, hinn, hcn]; simp, hH27⟩)
  ·
   refine WL.y (.bool false) 27 (x_lss rfl rfl rfl (dF (hlt))) (WL.k hK20 (WC.sb [(1, .slice p n cap), (2, vP b2 0), (6, vS go n n), (8, vI (cnt : Int)), (9, vI (line : Int)), (27, .bool false)] ?_))
   refine WC.no rfl ?_
   refine WC.exit (WQ.thenExit (WQ.thenExit (WQ.inExit (WQ.then (hK14 _ _ _ (WC.seq fun K33 hK33 => ?_))))))
   have hcl := lnC_end (f := (mk0 s y l c n (trC c n))) hg.2.2.1.1 (show (n : Int) ≤ (line : Int) * l by omega) (by omega)
   have hle := lnC_le l (mk0 s y l c n (trC c n)) n 1000
   have hmu := mul_bd hg.2.2.2 (x := (cnt : Int)) (by omega)
   refine WC.region (WL.z (vP b2 3) 59 (WL.y (vI m) 60 (x_load rfl rfl Try.underlying3 rfl (HP.cell hH18 0 rfl rfl)) (WL.z (vI (cnt : Int)) 61 (WL.y (vI (m * (cnt : Int))) 62 (x_mul (Z := m * (cnt : Int)) rfl rfl rfl (rfl) (by omega) (by omega)) (WL.z (vI (m * (cnt : Int))) 4 (WL.z (vI 0) 5 (WL.k hK33 (WC.ret ?_))))))))
   refine WQ.ret2 4 5 rfl rfl rfl ?_
   exact ⟨.inr ⟨hyes, by rw [hcl, hcn]⟩, HP.below hH18⟩
end Ca
end Go.Proofs.Ytmjnakhpekbenaa
namespace Go.Proofs.Ytmjnakhpekbenaa
set_option maxRecDepth 20000
set_option maxHeartbeats 4000000
open Go.RowKit Fw
namespace Ca
def toT (p : Nat × Nat) : T2 := ((p.1 : Int), (p.2 : Int))
def wLs (c : Nat → Int) (n i : Nat) : List T2 := ((List.range i).flatMap (Fl.ways (cdOf c n))).map toT
theorem wLs_succ (c : Nat → Int) (n i : Nat) : wLs c n (i + 1) = wLs c n i ++ (Fl.ways (cdOf c n) i).map toT := by unfold wLs; rw [List.range_succ, List.flatMap_append, List.map_append]; simp
theorem tL_push2 (t : List T2) (a b c d : Int) : tL t ++ [vI a, vI b, vI c, vI d] = tL (t ++ [(a, b), (c, d)]) := by simp [tL]
theorem len2 (A : List T2) (x z : T2) : (A ++ [x, z]).length = A.length + 2 := by simp
section
open Ec
variable {c A B : Nat → Int} {n : Nat}
theorem op_of {i x : Nat} (hc : chk c A B false n = 0) (hi : i < n) (ho : (shD c n).o i = (x : Int)) : opO c A B n (i : Int) = (x : Int) := by
  have h1 : idE c A B n (i : Int) = 0 := idE_in hc ⟨by omega, by omega⟩
  have h2 : opF c A B n (i : Int) = 0 := by unfold opF; rw [h1, Int.toNat_natCast, ho]; simp
  unfold opO
  rw [if_pos h2, Int.toNat_natCast, ho]
theorem at34 {i : Nat} (hc : chk c A B false n = 0) (hi : i < n) (h : c i = 34) : ∃ x E : Nat, x < n ∧ opO c A B n (i : Int) = (x : Int) ∧ maA c A B n (x : Int) = (i : Int) ∧ maE c A B n (x : Int) = (E : Int) ∧ E < n ∧ Fl.ways (cdOf c n) i = [(i, E + 1)] := by
  have Bb := chk_bal hc
  obtain ⟨si, hsi⟩ := shp_ex Bb (k := i) (by omega)
  obtain ⟨r, x, hl, he, ho, hx⟩ := else_at Bb hi h hsi
  have hxi : x < i := (inv_of i si hsi).lt x (by rw [hl]; simp)
  have hop : opn (c x) = true := opn_iff.2 (by omega)
  obtain ⟨h1, h2, h3⟩ := d_range Bb (show x < n by omega) hop
  obtain ⟨m1, m2⟩ := ma_of hc (show x < n by omega) hop
  obtain ⟨E, hE⟩ : ∃ E : Nat, (shD c n).d x = (E : Int) := ⟨((shD c n).d x).toNat, by omega⟩
  exact ⟨x, E, by omega, op_of hc hi ho, m1.trans he, m2.trans hE, by omega, Fl.ways_else (C := cdOf c n) (k := x) h ho hE⟩
theorem at35 {i : Nat} (hc : chk c A B false n = 0) (hi : i < n) (h : c i = 35) : ∃ x : Nat, x < n ∧ opO c A B n (i : Int) = (x : Int) ∧ Fl.ways (cdOf c n) i = (if c x = 30 then [(i, x + 1)] else []) ++ [(i, i + 1)] := by
  have Bb := chk_bal hc
  obtain ⟨si, hsi⟩ := shp_ex Bb (k := i) (by omega)
  obtain ⟨r, x, s1, hl, -, -, hd, ho, -⟩ := end_at Bb hi h hsi
  have hxi : x < i := (inv_of i si hsi).lt x (by rw [hl]; simp)
  exact ⟨x, by omega, op_of hc hi ho, Fl.ways_end (C := cdOf c n) h ho⟩
theorem at_op {i : Nat} (hc : chk c A B false n = 0) (hi : i < n) (h : opn (c i) = true) : ∃ E : Nat, i < E ∧ E < n ∧ maE c A B n (i : Int) = (E : Int) ∧ (shD c n).d i = (E : Int) ∧
    ((maA c A B n (i : Int) = -1 ∧ (shD c n).e i = -1 ∧ c i ≠ 33) ∨ ∃ a : Nat, i < a ∧ a < n ∧ maA c A B n (i : Int) = (a : Int) ∧ (shD c n).e i = (a : Int) ∧ (c i = 29 ∨ c i = 33)) := by
  have Bb := chk_bal hc
  obtain ⟨si, hsi⟩ := shp_ex Bb (k := i) (by omega)
  obtain ⟨E, sE, s1, hd, h1, h2, h3, hsE, -, -, -, -, htry⟩ := end_of Bb hi h hsi
  obtain ⟨m1, m2⟩ := ma_of hc hi h
  refine ⟨E, h1, h2, m2.trans hd, hd, ?_⟩
  rcases (inv_of n _ Bb.hs).e i hi with q | ⟨q1, q2, q3⟩
  · refine .inl ⟨m1.trans q, q, fun q9 => htry ⟨q9, ?_⟩⟩
    rcases (frz_at hsE Bb.hs (by omega)).e i (by omega) with q2 | ⟨q2, -⟩
    · rw [← q2, q]; decide
    · exact q2
  · obtain ⟨a, ha⟩ : ∃ a : Nat, (shD c n).e i = (a : Int) := ⟨((shD c n).e i).toNat, by omega⟩
    obtain ⟨g1, g2, -, -, -, -, -, -, -, -, g3⟩ := else_of Bb hi h hsi ha
    exact .inr ⟨a, g1, g2, m1.trans ha, ha, g3⟩
theorem at_df {i : Nat} (h1 : c i ≠ 34) (h2 : c i ≠ 35) (h3 : c i ≠ 29) (h4 : c i ≠ 30) (h5 : c i ≠ 33) : Fl.ways (cdOf c n) i = [(i, i + 1)] := by
  unfold Fl.ways
  show (if c i = 34 then _ else if c i = 35 then _ else if c i = 29 then _ else if c i = 30 then _ else if c i = 33 then _ else _) = _
  rw [if_neg h1, if_neg h2, if_neg h3, if_neg h4, if_neg h5]
end
theorem rOpener_at {p : Option Addr} {n cap : Nat} {c A B : Nat → Int} {i : Nat} {x : Int} (h1 : Ec.opO c A B n (i : Int) = x) (w : World) (hIn : Ec.InC w p n c A B) (hn : n ≤ 400) (hi : i < n) :
    Calls Try.prog 81 #[.slice p n cap, vI (i : Int)] w fun e w' => e = .returned (.tuple #[vI x, vI (Ec.opF c A B n (i : Int))]) ∧ Below w.heap.size w w' := h1 ▸ Ec.rOpener_any p n cap c A B (i : Int) w hIn hn (by omega) (by omega)
theorem rWays_any (p : Option Addr) (n cap : Nat) (c A0 B : Nat → Int) (w : World) (hIn : Ec.InC w p n c A0 B) (hc : Ec.chk c A0 B false n = 0) :
  Calls Try.prog 110 #[.slice p n cap] w fun e w' => ∃ pv cp', e = .returned (.slice pv (wLs c n n).length cp') ∧ HP Tr w w' [rowT pv (wLs c n n).length cp' (wLs c n n)] ∧ (wLs c n n).length ≤ n * 125 := by
 have hn9 := (Ec.chk_ok hc).1
 refine calls_of Try.func110 rfl (m := 180) rfl [(0, .slice p n cap)] (Fr_enter [.slice p n cap] 180 (Nat.le_of_ble_eq_true rfl)) ?_
 have hH1 : HP Tr w w [] := HP.refl w
 refine WC.seq fun K2 hK2 => WC.region (WL.z (.slice none 0 0) 2 (WL.k hK2 (WC.seq fun K3 hK3 => WC.region (WL.z (.slice none 0 0) 3 (WL.k hK3 ?_)))))
 refine WC.seq fun K4 hK4 => WC.seq fun K5 hK5 => WC.region (WL.z (vI 0) 4 (WL.k hK5 (WC.block ?_)))
 refine WC.loop (fun kk0 ll0 ww0 => ∃ (i : Nat) (A1 : List T2) (pv : Option Addr) (cp3 : Nat), ll0 = [(0, .slice p n cap), (3, .slice pv A1.length cp3), (4, vI (i : Int))] ∧ kk0 = n - i ∧ (i ≤ n) ∧ (A1 = wLs c n i) ∧ (A1.length ≤ i * 125) ∧ HP Tr w ww0 [rowT pv A1.length cp3 A1]) (n) [(0, .slice p n cap), (3, .slice none 0 0), (4, vI 0)] ⟨rfl, rfl, rfl, trivial⟩ ⟨0, [], none, 0, rfl, rfl, Nat.zero_le _, rfl, Nat.zero_le _, HP.ownNil hH1 83 2⟩ ?_
 rintro kk l w7 ⟨i, A1, pv, cp3, rfl, hkk, hi, hA, hAl, hH8⟩ K6 hK6
 refine WC.seq fun K9 hK9 => WC.seq fun K10 hK10 => WC.region (WL.z (vI (i : Int)) 22 (WL.z (.slice p n cap) 23 (WL.z (vI (n : Int)) 24 ?_)))
 by_cases hlt : (i : Int) < (n : Int)
 ·
  refine WL.y (.bool true) 25 (x_lss rfl rfl rfl (dT (hlt))) (WL.k hK10 ?_)
  refine WC.yes rfl ?_
  refine WC.skip (WQ.then (hK9 _ _ _ (WC.seq fun K11 hK11 => WC.block (WC.seq fun K12 hK12 => ?_))))
  obtain ⟨bb, oo, rfl, hrow⟩ := hIn (by omega)
  refine WC.region (WL.z (.slice (some ⟨bb, oo, none⟩) n cap) 28 (WL.z (vI (i : Int)) 29 (WL.y (vP bb (oo + i * 3)) 30 (x_ix (i) (oo + i * 3) Try.underlying42 sz75) (WL.z (vP bb (oo + i * 3)) 31 (WL.y (vI (c i)) 32 (x_load rfl rfl Try.underlying3 rfl ((HP.oldRange hH8 trivial (hrow i (by omega))) 0 _ rfl)) (WL.k hK12 (WC.sb [(0, .slice (some ⟨bb, oo, none⟩) n cap), (3, .slice pv A1.length cp3), (4, vI (i : Int)), (25, .bool true), (32, vI (c i))] (WC.block (WC.seq fun K13 hK13 => ?_)))))))))
  refine WC.region ?_
  by_cases h34 : c i = 34
  ·
   obtain ⟨x, E, hx, hox, hmx, hme, hEn, hw⟩ := at34 hc (show i < n by omega) h34
   refine WL.y (.bool true) 41 (x_eql rfl rfl rfl (dT (h34))) (WL.z (.bool true) 40 (WL.k hK13 ?_))
   refine WC.yes rfl ?_
   refine WC.seq fun K14 hK14 => WC.region (WL.z (.slice (some ⟨bb, oo, none⟩) n cap) 43 (WL.z (vI (i : Int)) 44 ?_))
   refine WL.c 81 #[.slice (some ⟨bb, oo, none⟩) n cap, vI (i : Int)] 45 ?_
   refine (rOpener_at hox _ (hIn.below (HP.below hH8)) (by omega) (by omega)).mono ?_
   rintro e w15 ⟨rfl, hb16⟩
   refine ⟨_, rfl, ?_⟩
   have hH17 := HP.call hH8 hb16
   refine WL.z (.tuple #[vI (x : Int), vI (Ec.opF c A0 B n (i : Int))]) 42 (WL.z (vI (x : Int)) 46 (WL.z (vI (Ec.opF c A0 B n (i : Int))) 47 (WL.z (vI (x : Int)) 5 (WL.z (vI (Ec.opF c A0 B n (i : Int))) 6 (WL.k hK14 (WC.sb [(0, .slice (some ⟨bb, oo, none⟩) n cap), (3, .slice pv A1.length cp3), (4, vI (i : Int)), (5, vI (x : Int)), (25, .bool true), (32, vI (c i)), (40, .bool true)] (WC.seq fun K18 hK18 => WC.region (WL.z (.slice (some ⟨bb, oo, none⟩) n cap) 49 ?_))))))))
   refine WL.z (vI (x : Int)) 50 ?_
   refine WL.c 56 #[.slice (some ⟨bb, oo, none⟩) n cap, vI (x : Int)] 51 ?_
   refine (rMatch_at hmx hme _ (hIn.below (HP.below hH17)) (by omega) (by omega)).mono ?_
   rintro e w19 ⟨rfl, hb20⟩
   refine ⟨_, rfl, ?_⟩
   have hH21 := HP.call hH17 hb20
   refine WL.z (.tuple #[vI (i : Int), vI (E : Int), vI (Ec.maF c A0 B n (x : Int))]) 48 (WL.z (vI (i : Int)) 52 (WL.z (vI (E : Int)) 53 (WL.z (vI (Ec.maF c A0 B n (x : Int))) 54 (WL.z (vI (i : Int)) 7 (WL.z (vI (E : Int)) 8 (WL.z (vI (Ec.maF c A0 B n (x : Int))) 9 (WL.k hK18 (WC.sb [(0, .slice (some ⟨bb, oo, none⟩) n cap), (3, .slice pv A1.length cp3), (4, vI (i : Int)), (5, vI (x : Int)), (8, vI (E : Int)), (25, .bool true), (32, vI (c i)), (40, .bool true)] (WC.region ?_)))))))))
   refine WL.z (.slice pv A1.length cp3) 55 (WL.z (vI (i : Int)) 56 (WL.z (vI (E : Int)) 57 (WL.y (vI ((E + 1 : Nat) : Int)) 58 (x_ad (((E + 1 : Nat) : Int))) (WL.z (.agg #[vI (i : Int), vI ((E + 1 : Nat) : Int)]) 59 ?_))))
   refine WL.alloc (c := #[vI (i : Int), vI ((E + 1 : Nat) : Int)]) (T := 83) hH21 60 rfl (by decide) rfl rfl (fun b22 => vS b22 1 1) (by kernel_rfl) (fun b22 w23 hw23 => ?_)
   have hH24 : HP Tr w w23 [rowT pv A1.length cp3 A1, .cel b22 #[vI (i : Int), vI ((E + 1 : Nat) : Int)] 83] := hw23.2
   have nb22 := hw23.1
   clear hw23
   obtain ⟨i0, hi0, hz0, hz1, hz2⟩ := infoT
   refine WL.append (news := [vI (i : Int), vI ((E + 1 : Nat) : Int)]) 0 1 hH24 61 rfl (by decide) rfl rfl rfl rfl Try.underlying49 hi0 hz0 hz1 hz2 rfl (by decide) rfl rfl rfl rfl (by simp [Value.oneCell']) (by unfold maxLen; omega) (by omega) ?_
   rintro v725 w725 - hA725
   obtain ⟨pv725, cp725, rfl⟩ := own_row (HP.get hA725 0 rfl)
   have e725 : A1.length + 1 = (A1 ++ [((i : Int), ((E + 1 : Nat) : Int))]).length := (len1 _ _).symm
   rw [tL_push, e725] at hA725
   rw [e725]
   have hH26 : HP Tr w _ [rowT pv725 (A1 ++ [((i : Int), ((E + 1 : Nat) : Int))]).length cp725 (A1 ++ [((i : Int), ((E + 1 : Nat) : Int))]), .cel b22 #[vI (i : Int), vI ((E + 1 : Nat) : Int)] 83] := hA725
   have hl725 : (A1 ++ [((i : Int), ((E + 1 : Nat) : Int))]).length = A1.length + 1 := e725.symm
   refine WL.z (.slice pv725 ((A1 ++ [((i : Int), ((E + 1 : Nat) : Int))]).length) cp725) 3 (WL.nil (WQ.inNormal (WQ.inNormal (WQ.then (hK11 _ _ _ (WC.sb [(0, .slice (some ⟨bb, oo, none⟩) n cap), (3, .slice pv725 ((A1 ++ [((i : Int), ((E + 1 : Nat) : Int))]).length) cp725), (4, vI (i : Int)), (5, vI (x : Int)), (8, vI (E : Int)), (25, .bool true), (32, vI (c i)), (40, .bool true)] (WC.region (WL.z (vI (i : Int)) 26 (WL.y (vI ((i + 1 : Nat) : Int)) 27 (x_ad (((i + 1 : Nat) : Int))) (WL.z (vI ((i + 1 : Nat) : Int)) 4 (WL.nil ?_)))))))))))
   refine WQ.sb [(0, .slice (some ⟨bb, oo, none⟩) n cap), (3, .slice pv725 ((A1 ++ [((i : Int), ((E + 1 : Nat) : Int))]).length) cp725), (4, vI ((i + 1 : Nat) : Int))] ?_
   refine WQ.then (hK6 _ _ _ (by omega) ⟨i + 1, (A1 ++ [((i : Int), ((E + 1 : Nat) : Int))]), pv725, cp725, rfl, rfl, by omega, by rw [wLs_succ, ← hA, hw]; simp [toT], by omega, (HP.drop hH26 1)⟩)
  ·
   refine WL.y (.bool false) 41 (x_eql rfl rfl rfl (dF (h34))) (WL.z (.bool false) 40 (WL.k hK13 ?_))
   refine WC.no rfl ?_
   refine WC.seq fun K27 hK27 => WC.region ?_
   by_cases h35 : c i = 35
   ·
    obtain ⟨x, hx, hox, hw⟩ := at35 hc (show i < n by omega) h35
    refine WL.y (.bool true) 63 (x_eql rfl rfl rfl (dT (h35))) (WL.z (.bool true) 62 (WL.k hK27 ?_))
    refine WC.yes rfl ?_
    refine WC.seq fun K28 hK28 => WC.region (WL.z (.slice (some ⟨bb, oo, none⟩) n cap) 65 (WL.z (vI (i : Int)) 66 ?_))
    refine WL.c 81 #[.slice (some ⟨bb, oo, none⟩) n cap, vI (i : Int)] 67 ?_
    refine (rOpener_at hox _ (hIn.below (HP.below hH8)) (by omega) (by omega)).mono ?_
    rintro e w29 ⟨rfl, hb30⟩
    refine ⟨_, rfl, ?_⟩
    have hH31 := HP.call hH8 hb30
    refine WL.z (.tuple #[vI (x : Int), vI (Ec.opF c A0 B n (i : Int))]) 64 (WL.z (vI (x : Int)) 68 (WL.z (vI (Ec.opF c A0 B n (i : Int))) 69 (WL.z (vI (x : Int)) 10 (WL.z (vI (Ec.opF c A0 B n (i : Int))) 11 (WL.k hK28 (WC.sb [(0, .slice (some ⟨bb, oo, none⟩) n cap), (3, .slice pv A1.length cp3), (4, vI (i : Int)), (10, vI (x : Int)), (25, .bool true), (32, vI (c i)), (40, .bool false), (62, .bool true)] (WC.seq fun K32 hK32 => WC.seq fun K33 hK33 => WC.region ?_)))))))
    refine WL.z (.slice (some ⟨bb, oo, none⟩) n cap) 70 (WL.z (vI (x : Int)) 71 (WL.y (vP bb (oo + x * 3)) 72 (x_ix (x) (oo + x * 3) Try.underlying42 sz75) (WL.z (vP bb (oo + x * 3)) 73 (WL.y (vI (c x)) 74 (x_load rfl rfl Try.underlying3 rfl ((HP.oldRange hH31 trivial (hrow x (by omega))) 0 _ rfl)) ?_))))
    by_cases h30x : c x = 30
    ·
     rw [if_pos h30x] at hw
     refine WL.y (.bool true) 75 (x_eql rfl rfl rfl (dT (h30x))) (WL.k hK33 ?_)
     refine WC.yes rfl ?_
     refine WC.region (WL.z (.slice pv A1.length cp3) 76 (WL.z (vI (i : Int)) 77 (WL.z (vI (x : Int)) 78 (WL.y (vI ((x + 1 : Nat) : Int)) 79 (x_ad (((x + 1 : Nat) : Int))) (WL.z (.agg #[vI (i : Int), vI ((x + 1 : Nat) : Int)]) 80 ?_)))))
     refine WL.alloc (c := #[vI (i : Int), vI ((x + 1 : Nat) : Int)]) (T := 83) hH31 81 rfl (by decide) rfl rfl (fun b34 => vS b34 1 1) (by kernel_rfl) (fun b34 w35 hw35 => ?_)
     have hH36 : HP Tr w w35 [rowT pv A1.length cp3 A1, .cel b34 #[vI (i : Int), vI ((x + 1 : Nat) : Int)] 83] := hw35.2
     have nb34 := hw35.1
     clear hw35
     obtain ⟨i0, hi0, hz0, hz1, hz2⟩ := infoT
     refine WL.append (news := [vI (i : Int), vI ((x + 1 : Nat) : Int)]) 0 1 hH36 82 rfl (by decide) rfl rfl rfl rfl Try.underlying49 hi0 hz0 hz1 hz2 rfl (by decide) rfl rfl rfl rfl (by simp [Value.oneCell']) (by unfold maxLen; omega) (by omega) ?_
     rintro v737 w737 - hA737
     obtain ⟨pv737, cp737, rfl⟩ := own_row (HP.get hA737 0 rfl)
     have e737 : A1.length + 1 = (A1 ++ [((i : Int), ((x + 1 : Nat) : Int))]).length := (len1 _ _).symm
     rw [tL_push, e737] at hA737
     rw [e737]
     have hH38 : HP Tr w _ [rowT pv737 (A1 ++ [((i : Int), ((x + 1 : Nat) : Int))]).length cp737 (A1 ++ [((i : Int), ((x + 1 : Nat) : Int))]), .cel b34 #[vI (i : Int), vI ((x + 1 : Nat) : Int)] 83] := hA737
     have hl737 : (A1 ++ [((i : Int), ((x + 1 : Nat) : Int))]).length = A1.length + 1 := e737.symm
     refine WL.z (.slice pv737 ((A1 ++ [((i : Int), ((x + 1 : Nat) : Int))]).length) cp737) 3 (WL.k hK32 (WC.sb [(0, .slice (some ⟨bb, oo, none⟩) n cap), (3, .slice pv737 ((A1 ++ [((i : Int), ((x + 1 : Nat) : Int))]).length) cp737), (4, vI (i : Int)), (10, vI (x : Int)), (25, .bool true), (32, vI (c i)), (40, .bool false), (62, .bool true), (75, .bool true)] (WC.region (WL.z (.slice pv737 ((A1 ++ [((i : Int), ((x + 1 : Nat) : Int))]).length) cp737) 83 (WL.z (vI (i : Int)) 84 (WL.z (vI (i : Int)) 85 (WL.y (vI ((i + 1 : Nat) : Int)) 86 (x_ad (((i + 1 : Nat) : Int))) (WL.z (.agg #[vI (i : Int), vI ((i + 1 : Nat) : Int)]) 87 ?_))))))))
     refine WL.alloc (c := #[vI (i : Int), vI ((i + 1 : Nat) : Int)]) (T := 83) hH38 88 rfl (by decide) rfl rfl (fun b39 => vS b39 1 1) (by kernel_rfl) (fun b39 w40 hw40 => ?_)
     have hH41 : HP Tr w w40 [rowT pv737 (A1 ++ [((i : Int), ((x + 1 : Nat) : Int))]).length cp737 (A1 ++ [((i : Int), ((x + 1 : Nat) : Int))]), .cel b34 #[vI (i : Int), vI ((x + 1 : Nat) : Int)] 83, .cel b39 #[vI (i : Int), vI ((i + 1 : Nat) : Int)] 83] := hw40.2
     have nb39 := hw40.1
     clear hw40
     obtain ⟨i0, hi0, hz0, hz1, hz2⟩ := infoT
     refine WL.append (news := [vI (i : Int), vI ((i + 1 : Nat) : Int)]) 0 2 hH41 89 rfl (by decide) rfl rfl rfl rfl Try.underlying49 hi0 hz0 hz1 hz2 rfl (by decide) rfl rfl rfl rfl (by simp [Value.oneCell']) (by unfold maxLen; omega) (by omega) ?_
     rintro v742 w742 - hA742
     obtain ⟨pv742, cp742, rfl⟩ := own_row (HP.get hA742 0 rfl)
     have e742 : (A1 ++ [((i : Int), ((x + 1 : Nat) : Int))]).length + 1 = ((A1 ++ [((i : Int), ((x + 1 : Nat) : Int))]) ++ [((i : Int), ((i + 1 : Nat) : Int))]).length := (len1 _ _).symm
     rw [tL_push, e742] at hA742
     rw [e742]
     have hH43 : HP Tr w _ [rowT pv742 ((A1 ++ [((i : Int), ((x + 1 : Nat) : Int))]) ++ [((i : Int), ((i + 1 : Nat) : Int))]).length cp742 ((A1 ++ [((i : Int), ((x + 1 : Nat) : Int))]) ++ [((i : Int), ((i + 1 : Nat) : Int))]), .cel b34 #[vI (i : Int), vI ((x + 1 : Nat) : Int)] 83, .cel b39 #[vI (i : Int), vI ((i + 1 : Nat) : Int)] 83] := hA742
     have hl742 : ((A1 ++ [((i : Int), ((x + 1 : Nat) : Int))]) ++ [((i : Int), ((i + 1 : Nat) : Int))]).length = (A1 ++ [((i : Int), ((x + 1 : Nat) : Int))]).length + 1 := e742.symm
     refine WL.z (.slice pv742 (((A1 ++ [((i : Int), ((x + 1 : Nat) : Int))]) ++ [((i : Int), ((i + 1 : Nat) : Int))]).length) cp742) 3 (WL.nil (WQ.inNormal (WQ.inNormal (WQ.then (hK11 _ _ _ (WC.sb [(0, .slice (some ⟨bb, oo, none⟩) n cap), (3, .slice pv742 (((A1 ++ [((i : Int), ((x + 1 : Nat) : Int))]) ++ [((i : Int), ((i + 1 : Nat) : Int))]).length) cp742), (4, vI (i : Int)), (10, vI (x : Int)), (25, .bool true), (32, vI (c i)), (40, .bool false), (62, .bool true), (75, .bool true)] (WC.region (WL.z (vI (i : Int)) 26 (WL.y (vI ((i + 1 : Nat) : Int)) 27 (x_ad (((i + 1 : Nat) : Int))) (WL.z (vI ((i + 1 : Nat) : Int)) 4 (WL.nil ?_)))))))))))
     refine WQ.sb [(0, .slice (some ⟨bb, oo, none⟩) n cap), (3, .slice pv742 (((A1 ++ [((i : Int), ((x + 1 : Nat) : Int))]) ++ [((i : Int), ((i + 1 : Nat) : Int))]).length) cp742), (4, vI ((i + 1 : Nat) : Int))] ?_
     refine WQ.then (hK6 _ _ _ (by omega) ⟨i + 1, ((A1 ++ [((i : Int), ((x + 1 : Nat) : Int))]) ++ [((i : Int), ((i + 1 : Nat) : Int))]), pv742, cp742, rfl, rfl, by omega, by rw [wLs_succ, ← hA, hw]; simp [toT], by omega, (HP.drop (HP.drop hH43 2) 1)⟩)
    ·
     rw [if_neg h30x] at hw
     refine WL.y (.bool false) 75 (x_eql rfl rfl rfl (dF (h30x))) (WL.k hK33 ?_)
     refine WC.no rfl ?_
     refine WC.skip (WQ.then (hK32 _ _ _ (WC.region (WL.z (.slice pv A1.length cp3) 83 (WL.z (vI (i : Int)) 84 (WL.z (vI (i : Int)) 85 (WL.y (vI ((i + 1 : Nat) : Int)) 86 (x_ad (((i + 1 : Nat) : Int))) (WL.z (.agg #[vI (i : Int), vI ((i + 1 : Nat) : Int)]) 87 ?_))))))))
     refine WL.alloc (c := #[vI (i : Int), vI ((i + 1 : Nat) : Int)]) (T := 83) hH31 88 rfl (by decide) rfl rfl (fun b44 => vS b44 1 1) (by kernel_rfl) (fun b44 w45 hw45 => ?_)
     have hH46 : HP Tr w w45 [rowT pv A1.length cp3 A1, .cel b44 #[vI (i : Int), vI ((i + 1 : Nat) : Int)] 83] := hw45.2
     have nb44 := hw45.1
     clear hw45
     obtain ⟨i0, hi0, hz0, hz1, hz2⟩ := infoT
     refine WL.append (news := [vI (i : Int), vI ((i + 1 : Nat) : Int)]) 0 1 hH46 89 rfl (by decide) rfl rfl rfl rfl Try.underlying49 hi0 hz0 hz1 hz2 rfl (by decide) rfl rfl rfl rfl (by simp [Value.oneCell']) (by unfold maxLen; omega) (by omega) ?_
     rintro v747 w747 - hA747
     obtain ⟨pv747, cp747, rfl⟩ := own_row (HP.get hA747 0 rfl)
     have e747 : A1.length + 1 = (A1 ++ [((i : Int), ((i + 1 : Nat) : Int))]).length := (len1 _ _).symm
     rw [tL_push, e747] at hA747
     rw [e747]
     have hH48 : HP Tr w _ [rowT pv747 (A1 ++ [((i : Int), ((i + 1 : Nat) : Int))]).length cp747 (A1 ++ [((i : Int), ((i + 1 : Nat) : Int))]), .cel b44 #[vI (i : Int), vI ((i + 1 : Nat) : Int)] 83] := hA747
     have hl747 : (A1 ++ [((i : Int), ((i + 1 : Nat) : Int))]).length = A1.length + 1 := e747.symm
     refine WL.z (.slice pv747 ((A1 ++ [((i : Int), ((i + 1 : Nat) : Int))]).length) cp747) 3 (WL.nil (WQ.inNormal (WQ.inNormal (WQ.then (hK11 _ _ _ (WC.sb [(0, .slice (some ⟨bb, oo, none⟩) n cap), (3, .slice pv747 ((A1 ++ [((i : Int), ((i + 1 : Nat) : Int))]).length) cp747), (4, vI (i : Int)), (10, vI (x : Int)), (25, .bool true), (32, vI (c i)), (40, .bool false), (62, .bool true), (75, .bool false)] (WC.region (WL.z (vI (i : Int)) 26 (WL.y (vI ((i + 1 : Nat) : Int)) 27 (x_ad (((i + 1 : Nat) : Int))) (WL.z (vI ((i + 1 : Nat) : Int)) 4 (WL.nil ?_)))))))))))
     refine WQ.sb [(0, .slice (some ⟨bb, oo, none⟩) n cap), (3, .slice pv747 ((A1 ++ [((i : Int), ((i + 1 : Nat) : Int))]).length) cp747), (4, vI ((i + 1 : Nat) : Int))] ?_
     refine WQ.then (hK6 _ _ _ (by omega) ⟨i + 1, (A1 ++ [((i : Int), ((i + 1 : Nat) : Int))]), pv747, cp747, rfl, rfl, by omega, by rw [wLs_succ, ← hA, hw]; simp [toT], by omega, (HP.drop hH48 1)⟩)
   ·
    refine WL.y (.bool false) 63 (x_eql rfl rfl rfl (dF (h35))) (WL.z (.bool false) 62 (WL.k hK27 ?_))
    refine WC.no rfl ?_
    refine WC.seq fun K49 hK49 => WC.region ?_
    by_cases h29 : c i = 29
    ·
     obtain ⟨E, hiE, hEn, hme, hdE, hcase⟩ := at_op hc (show i < n by omega) (Ec.opn_iff.2 (show 29 ≤ c i ∧ c i ≤ 33 by omega))
     refine WL.y (.bool true) 91 (x_eql rfl rfl rfl (dT (h29))) (WL.z (.bool true) 90 (WL.k hK49 ?_))
     refine WC.yes rfl ?_
     refine WC.seq fun K50 hK50 => ?_
     rcases hcase with ⟨hm1, he, h9⟩ | ⟨a, hia, han, hm1, he, h9⟩
     ·
      have hw : Fl.ways (cdOf c n) i = (i, i + 1) :: (if E ≠ i + 1 then [(i, E)] else []) := by
             rw [Fl.ways_plain (C := cdOf c n) (k := i) ⟨show 29 ≤ c i by omega, show c i ≤ 32 by omega⟩ he hdE, if_pos (show (cdOf c n).c i = 29 from h29)]
      refine WC.region (WL.z (.slice (some ⟨bb, oo, none⟩) n cap) 93 (WL.z (vI (i : Int)) 94 ?_))
      refine WL.c 56 #[.slice (some ⟨bb, oo, none⟩) n cap, vI (i : Int)] 95 ?_
      refine (rMatch_at hm1 hme _ (hIn.below (HP.below hH8)) (by omega) (by omega)).mono ?_
      rintro e w51 ⟨rfl, hb52⟩
      refine ⟨_, rfl, ?_⟩
      have hH53 := HP.call hH8 hb52
      refine WL.z (.tuple #[vI (-1), vI (E : Int), vI (Ec.maF c A0 B n (i : Int))]) 92 (WL.z (vI (-1)) 96 (WL.z (vI (E : Int)) 97 (WL.z (vI (Ec.maF c A0 B n (i : Int))) 98 (WL.z (vI (-1)) 12 (WL.z (vI (E : Int)) 13 (WL.z (vI (Ec.maF c A0 B n (i : Int))) 14 (WL.k hK50 (WC.sb [(0, .slice (some ⟨bb, oo, none⟩) n cap), (3, .slice pv A1.length cp3), (4, vI (i : Int)), (12, vI (-1)), (13, vI (E : Int)), (25, .bool true), (32, vI (c i)), (40, .bool false), (62, .bool false), (90, .bool true)] (WC.seq fun K54 hK54 => ?_)))))))))
      refine WC.region (WL.z (.slice pv A1.length cp3) 99 (WL.z (vI (i : Int)) 100 (WL.z (vI (i : Int)) 101 (WL.y (vI ((i + 1 : Nat) : Int)) 102 (x_ad (((i + 1 : Nat) : Int))) (WL.z (.agg #[vI (i : Int), vI ((i + 1 : Nat) : Int)]) 103 ?_)))))
      refine WL.alloc (c := #[vI (i : Int), vI ((i + 1 : Nat) : Int)]) (T := 83) hH53 104 rfl (by decide) rfl rfl (fun b55 => vS b55 1 1) (by kernel_rfl) (fun b55 w56 hw56 => ?_)
      have hH57 : HP Tr w w56 [rowT pv A1.length cp3 A1, .cel b55 #[vI (i : Int), vI ((i + 1 : Nat) : Int)] 83] := hw56.2
      have nb55 := hw56.1
      clear hw56
      obtain ⟨i0, hi0, hz0, hz1, hz2⟩ := infoT
      refine WL.append (news := [vI (i : Int), vI ((i + 1 : Nat) : Int)]) 0 1 hH57 105 rfl (by decide) rfl rfl rfl rfl Try.underlying49 hi0 hz0 hz1 hz2 rfl (by decide) rfl rfl rfl rfl (by simp [Value.oneCell']) (by unfold maxLen; omega) (by omega) ?_
      rintro v758 w758 - hA758
      obtain ⟨pv758, cp758, rfl⟩ := own_row (HP.get hA758 0 rfl)
      have e758 : A1.length + 1 = (A1 ++ [((i : Int), ((i + 1 : Nat) : Int))]).length := (len1 _ _).symm
      rw [tL_push, e758] at hA758
      rw [e758]
      have hH59 : HP Tr w _ [rowT pv758 (A1 ++ [((i : Int), ((i + 1 : Nat) : Int))]).length cp758 (A1 ++ [((i : Int), ((i + 1 : Nat) : Int))]), .cel b55 #[vI (i : Int), vI ((i + 1 : Nat) : Int)] 83] := hA758
      have hl758 : (A1 ++ [((i : Int), ((i + 1 : Nat) : Int))]).length = A1.length + 1 := e758.symm
      refine WL.z (.slice pv758 ((A1 ++ [((i : Int), ((i + 1 : Nat) : Int))]).length) cp758) 3 (WL.k hK54 (WC.sb [(0, .slice (some ⟨bb, oo, none⟩) n cap), (3, .slice pv758 ((A1 ++ [((i : Int), ((i + 1 : Nat) : Int))]).length) cp758), (4, vI (i : Int)), (12, vI (-1)), (13, vI (E : Int)), (25, .bool true), (32, vI (c i)), (40, .bool false), (62, .bool false), (90, .bool true)] (WC.seq fun K60 hK60 => WC.region (WL.z (vI (-1)) 106 (WL.y (.bool false) 107 (x_geq rfl rfl rfl (by decide)) (WL.k hK60 ?_))))))
      refine WC.no rfl ?_
      refine WC.seq fun K61 hK61 => WC.region (WL.z (vI (E : Int)) 115 (WL.z (vI (i : Int)) 116 (WL.y (vI ((i + 1 : Nat) : Int)) 117 (x_ad (((i + 1 : Nat) : Int))) ?_)))
      by_cases hne : (E : Int) ≠ ((i + 1 : Nat) : Int)
      ·
       rw [if_pos (by omega)] at hw
       refine WL.y (.bool true) 118 (x_neq rfl rfl rfl (dT (hne))) (WL.k hK61 ?_)
       refine WC.yes rfl ?_
       refine WC.region (WL.z (.slice pv758 ((A1 ++ [((i : Int), ((i + 1 : Nat) : Int))]).length) cp758) 119 (WL.z (vI (i : Int)) 120 (WL.z (vI (E : Int)) 121 (WL.z (.agg #[vI (i : Int), vI (E : Int)]) 122 ?_))))
       refine WL.alloc (c := #[vI (i : Int), vI (E : Int)]) (T := 83) hH59 123 rfl (by decide) rfl rfl (fun b62 => vS b62 1 1) (by kernel_rfl) (fun b62 w63 hw63 => ?_)
       have hH64 : HP Tr w w63 [rowT pv758 (A1 ++ [((i : Int), ((i + 1 : Nat) : Int))]).length cp758 (A1 ++ [((i : Int), ((i + 1 : Nat) : Int))]), .cel b55 #[vI (i : Int), vI ((i + 1 : Nat) : Int)] 83, .cel b62 #[vI (i : Int), vI (E : Int)] 83] := hw63.2
       have nb62 := hw63.1
       clear hw63
       obtain ⟨i0, hi0, hz0, hz1, hz2⟩ := infoT
       refine WL.append (news := [vI (i : Int), vI (E : Int)]) 0 2 hH64 124 rfl (by decide) rfl rfl rfl rfl Try.underlying49 hi0 hz0 hz1 hz2 rfl (by decide) rfl rfl rfl rfl (by simp [Value.oneCell']) (by unfold maxLen; omega) (by omega) ?_
       rintro v765 w765 - hA765
       obtain ⟨pv765, cp765, rfl⟩ := own_row (HP.get hA765 0 rfl)
       have e765 : (A1 ++ [((i : Int), ((i + 1 : Nat) : Int))]).length + 1 = ((A1 ++ [((i : Int), ((i + 1 : Nat) : Int))]) ++ [((i : Int), (E : Int))]).length := (len1 _ _).symm
       rw [tL_push, e765] at hA765
       rw [e765]
       have hH66 : HP Tr w _ [rowT pv765 ((A1 ++ [((i : Int), ((i + 1 : Nat) : Int))]) ++ [((i : Int), (E : Int))]).length cp765 ((A1 ++ [((i : Int), ((i + 1 : Nat) : Int))]) ++ [((i : Int), (E : Int))]), .cel b55 #[vI (i : Int), vI ((i + 1 : Nat) : Int)] 83, .cel b62 #[vI (i : Int), vI (E : Int)] 83] := hA765
       have hl765 : ((A1 ++ [((i : Int), ((i + 1 : Nat) : Int))]) ++ [((i : Int), (E : Int))]).length = (A1 ++ [((i : Int), ((i + 1 : Nat) : Int))]).length + 1 := e765.symm
       refine WL.z (.slice pv765 (((A1 ++ [((i : Int), ((i + 1 : Nat) : Int))]) ++ [((i : Int), (E : Int))]).length) cp765) 3 (WL.nil (WQ.inNormal (WQ.inNormal (WQ.then (hK11 _ _ _ (WC.sb [(0, .slice (some ⟨bb, oo, none⟩) n cap), (3, .slice pv765 (((A1 ++ [((i : Int), ((i + 1 : Nat) : Int))]) ++ [((i : Int), (E : Int))]).length) cp765), (4, vI (i : Int)), (12, vI (-1)), (13, vI (E : Int)), (25, .bool true), (32, vI (c i)), (40, .bool false), (62, .bool false), (90, .bool true), (107, .bool false), (118, .bool true)] (WC.region (WL.z (vI (i : Int)) 26 (WL.y (vI ((i + 1 : Nat) : Int)) 27 (x_ad (((i + 1 : Nat) : Int))) (WL.z (vI ((i + 1 : Nat) : Int)) 4 (WL.nil ?_)))))))))))
       refine WQ.sb [(0, .slice (some ⟨bb, oo, none⟩) n cap), (3, .slice pv765 (((A1 ++ [((i : Int), ((i + 1 : Nat) : Int))]) ++ [((i : Int), (E : Int))]).length) cp765), (4, vI ((i + 1 : Nat) : Int))] ?_
       refine WQ.then (hK6 _ _ _ (by omega) ⟨i + 1, ((A1 ++ [((i : Int), ((i + 1 : Nat) : Int))]) ++ [((i : Int), (E : Int))]), pv765, cp765, rfl, rfl, by omega, by rw [wLs_succ, ← hA, hw]; simp [toT], by omega, (HP.drop (HP.drop hH66 2) 1)⟩)
      ·
       rw [if_neg (by omega)] at hw
       refine WL.y (.bool false) 118 (x_neq rfl rfl rfl (dF (hne))) (WL.k hK61 ?_)
       refine WC.no rfl ?_
       refine WC.skip (WQ.inNormal (WQ.inNormal (WQ.then (hK11 _ _ _ (WC.region (WL.z (vI (i : Int)) 26 (WL.y (vI ((i + 1 : Nat) : Int)) 27 (x_ad (((i + 1 : Nat) : Int))) (WL.z (vI ((i + 1 : Nat) : Int)) 4 (WL.nil (WQ.sb [(0, .slice (some ⟨bb, oo, none⟩) n cap), (3, .slice pv758 ((A1 ++ [((i : Int), ((i + 1 : Nat) : Int))]).length) cp758), (4, vI ((i + 1 : Nat) : Int))] ?_))))))))))
       refine WQ.then (hK6 _ _ _ (by omega) ⟨i + 1, (A1 ++ [((i : Int), ((i + 1 : Nat) : Int))]), pv758, cp758, rfl, rfl, by omega, by rw [wLs_succ, ← hA, hw]; simp [toT], by omega, (HP.drop hH59 1)⟩)
     ·
      have hw : Fl.ways (cdOf c n) i = [(i, i + 1), (i, a + 1)] := by
             rw [Fl.ways_alt (C := cdOf c n) (k := i) (.inl h29) he, if_neg (show ¬ (cdOf c n).c i = 33 by show ¬ c i = 33; omega)]; rfl
      refine WC.region (WL.z (.slice (some ⟨bb, oo, none⟩) n cap) 93 (WL.z (vI (i : Int)) 94 ?_))
      refine WL.c 56 #[.slice (some ⟨bb, oo, none⟩) n cap, vI (i : Int)] 95 ?_
      refine (rMatch_at hm1 hme _ (hIn.below (HP.below hH8)) (by omega) (by omega)).mono ?_
      rintro e w67 ⟨rfl, hb68⟩
      refine ⟨_, rfl, ?_⟩
      have hH69 := HP.call hH8 hb68
      refine WL.z (.tuple #[vI (a : Int), vI (E : Int), vI (Ec.maF c A0 B n (i : Int))]) 92 (WL.z (vI (a : Int)) 96 (WL.z (vI (E : Int)) 97 (WL.z (vI (Ec.maF c A0 B n (i : Int))) 98 (WL.z (vI (a : Int)) 12 (WL.z (vI (E : Int)) 13 (WL.z (vI (Ec.maF c A0 B n (i : Int))) 14 (WL.k hK50 (WC.sb [(0, .slice (some ⟨bb, oo, none⟩) n cap), (3, .slice pv A1.length cp3), (4, vI (i : Int)), (12, vI (a : Int)), (13, vI (E : Int)), (25, .bool true), (32, vI (c i)), (40, .bool false), (62, .bool false), (90, .bool true)] (WC.seq fun K70 hK70 => ?_)))))))))
      refine WC.region (WL.z (.slice pv A1.length cp3) 99 (WL.z (vI (i : Int)) 100 (WL.z (vI (i : Int)) 101 (WL.y (vI ((i + 1 : Nat) : Int)) 102 (x_ad (((i + 1 : Nat) : Int))) (WL.z (.agg #[vI (i : Int), vI ((i + 1 : Nat) : Int)]) 103 ?_)))))
      refine WL.alloc (c := #[vI (i : Int), vI ((i + 1 : Nat) : Int)]) (T := 83) hH69 104 rfl (by decide) rfl rfl (fun b71 => vS b71 1 1) (by kernel_rfl) (fun b71 w72 hw72 => ?_)
      have hH73 : HP Tr w w72 [rowT pv A1.length cp3 A1, .cel b71 #[vI (i : Int), vI ((i + 1 : Nat) : Int)] 83] := hw72.2
      have nb71 := hw72.1
      clear hw72
      obtain ⟨i0, hi0, hz0, hz1, hz2⟩ := infoT
      refine WL.append (news := [vI (i : Int), vI ((i + 1 : Nat) : Int)]) 0 1 hH73 105 rfl (by decide) rfl rfl rfl rfl Try.underlying49 hi0 hz0 hz1 hz2 rfl (by decide) rfl rfl rfl rfl (by simp [Value.oneCell']) (by unfold maxLen; omega) (by omega) ?_
      rintro v774 w774 - hA774
      obtain ⟨pv774, cp774, rfl⟩ := own_row (HP.get hA774 0 rfl)
      have e774 : A1.length + 1 = (A1 ++ [((i : Int), ((i + 1 : Nat) : Int))]).length := (len1 _ _).symm
      rw [tL_push, e774] at hA774
      rw [e774]
      have hH75 : HP Tr w _ [rowT pv774 (A1 ++ [((i : Int), ((i + 1 : Nat) : Int))]).length cp774 (A1 ++ [((i : Int), ((i + 1 : Nat) : Int))]), .cel b71 #[vI (i : Int), vI ((i + 1 : Nat) : Int)] 83] := hA774
      have hl774 : (A1 ++ [((i : Int), ((i + 1 : Nat) : Int))]).length = A1.length + 1 := e774.symm
      refine WL.z (.slice pv774 ((A1 ++ [((i : Int), ((i + 1 : Nat) : Int))]).length) cp774) 3 (WL.k hK70 (WC.sb [(0, .slice (some ⟨bb, oo, none⟩) n cap), (3, .slice pv774 ((A1 ++ [((i : Int), ((i + 1 : Nat) : Int))]).length) cp774), (4, vI (i : Int)), (12, vI (a : Int)), (13, vI (E : Int)), (25, .bool true), (32, vI (c i)), (40, .bool false), (62, .bool false), (90, .bool true)] (WC.seq fun K76 hK76 => WC.region (WL.z (vI (a : Int)) 106 (WL.y (.bool true) 107 (x_geq rfl rfl rfl (dT (by omega))) (WL.k hK76 ?_))))))
      refine WC.yes rfl ?_
      refine WC.region (WL.z (.slice pv774 ((A1 ++ [((i : Int), ((i + 1 : Nat) : Int))]).length) cp774) 108 (WL.z (vI (i : Int)) 109 (WL.z (vI (a : Int)) 110 (WL.y (vI ((a + 1 : Nat) : Int)) 111 (x_ad (((a + 1 : Nat) : Int))) (WL.z (.agg #[vI (i : Int), vI ((a + 1 : Nat) : Int)]) 112 ?_)))))
      refine WL.alloc (c := #[vI (i : Int), vI ((a + 1 : Nat) : Int)]) (T := 83) hH75 113 rfl (by decide) rfl rfl (fun b77 => vS b77 1 1) (by kernel_rfl) (fun b77 w78 hw78 => ?_)
      have hH79 : HP Tr w w78 [rowT pv774 (A1 ++ [((i : Int), ((i + 1 : Nat) : Int))]).length cp774 (A1 ++ [((i : Int), ((i + 1 : Nat) : Int))]), .cel b71 #[vI (i : Int), vI ((i + 1 : Nat) : Int)] 83, .cel b77 #[vI (i : Int), vI ((a + 1 : Nat) : Int)] 83] := hw78.2
      have nb77 := hw78.1
      clear hw78
      obtain ⟨i0, hi0, hz0, hz1, hz2⟩ := infoT
      refine WL.append (news := [vI (i : Int), vI ((a + 1 : Nat) : Int)]) 0 2 hH79 114 rfl (by decide) rfl rfl rfl rfl Try.underlying49 hi0 hz0 hz1 hz2 rfl (by decide) rfl rfl rfl rfl (by simp [Value.oneCell']) (by unfold maxLen; omega) (by omega) ?_
      rintro v780 w780 - hA780
      obtain ⟨pv780, cp780, rfl⟩ := own_row (HP.get hA780 0 rfl)
      have e780 : (A1 ++ [((i : Int), ((i + 1 : Nat) : Int))]).length + 1 = ((A1 ++ [((i : Int), ((i + 1 : Nat) : Int))]) ++ [((i : Int), ((a + 1 : Nat) : Int))]).length := (len1 _ _).symm
      rw [tL_push, e780] at hA780
      rw [e780]
      have hH81 : HP Tr w _ [rowT pv780 ((A1 ++ [((i : Int), ((i + 1 : Nat) : Int))]) ++ [((i : Int), ((a + 1 : Nat) : Int))]).length cp780 ((A1 ++ [((i : Int), ((i + 1 : Nat) : Int))]) ++ [((i : Int), ((a + 1 : Nat) : Int))]), .cel b71 #[vI (i : Int), vI ((i + 1 : Nat) : Int)] 83, .cel b77 #[vI (i : Int), vI ((a + 1 : Nat) : Int)] 83] := hA780
      have hl780 : ((A1 ++ [((i : Int), ((i + 1 : Nat) : Int))]) ++ [((i : Int), ((a + 1 : Nat) : Int))]).length = (A1 ++ [((i : Int), ((i + 1 : Nat) : Int))]).length + 1 := e780.symm
      refine WL.z (.slice pv780 (((A1 ++ [((i : Int), ((i + 1 : Nat) : Int))]) ++ [((i : Int), ((a + 1 : Nat) : Int))]).length) cp780) 3 (WL.nil (WQ.inNormal (WQ.inNormal (WQ.then (hK11 _ _ _ (WC.sb [(0, .slice (some ⟨bb, oo, none⟩) n cap), (3, .slice pv780 (((A1 ++ [((i : Int), ((i + 1 : Nat) : Int))]) ++ [((i : Int), ((a + 1 : Nat) : Int))]).length) cp780), (4, vI (i : Int)), (12, vI (a : Int)), (13, vI (E : Int)), (25, .bool true), (32, vI (c i)), (40, .bool false), (62, .bool false), (90, .bool true), (107, .bool true)] (WC.region (WL.z (vI (i : Int)) 26 (WL.y (vI ((i + 1 : Nat) : Int)) 27 (x_ad (((i + 1 : Nat) : Int))) (WL.z (vI ((i + 1 : Nat) : Int)) 4 (WL.nil ?_)))))))))))
      refine WQ.sb [(0, .slice (some ⟨bb, oo, none⟩) n cap), (3, .slice pv780 (((A1 ++ [((i : Int), ((i + 1 : Nat) : Int))]) ++ [((i : Int), ((a + 1 : Nat) : Int))]).length) cp780), (4, vI ((i + 1 : Nat) : Int))] ?_
      refine WQ.then (hK6 _ _ _ (by omega) ⟨i + 1, ((A1 ++ [((i : Int), ((i + 1 : Nat) : Int))]) ++ [((i : Int), ((a + 1 : Nat) : Int))]), pv780, cp780, rfl, rfl, by omega, by rw [wLs_succ, ← hA, hw]; simp [toT], by omega, (HP.drop (HP.drop hH81 2) 1)⟩)
    ·
     refine WL.y (.bool false) 91 (x_eql rfl rfl rfl (dF (h29))) (WL.z (.bool false) 90 (WL.k hK49 ?_))
     refine WC.no rfl ?_
     refine WC.seq fun K82 hK82 => WC.region ?_
     by_cases h30 : c i = 30
     ·
      obtain ⟨E, hiE, hEn, hme, hdE, hcase⟩ := at_op hc (show i < n by omega) (Ec.opn_iff.2 (show 29 ≤ c i ∧ c i ≤ 33 by omega))
      refine WL.y (.bool true) 126 (x_eql rfl rfl rfl (dT (h30))) (WL.z (.bool true) 125 (WL.k hK82 ?_))
      refine WC.yes rfl ?_
      refine WC.seq fun K83 hK83 => ?_
      obtain ⟨hm1, he⟩ : Ec.maA c A0 B n (i : Int) = -1 ∧ (Ec.shD c n).e i = -1 := by
             rcases hcase with ⟨hm1, he, h9⟩ | ⟨a, hia, han, hm1, he, h9⟩
             · exact ⟨hm1, he⟩
             · omega
      have hw : Fl.ways (cdOf c n) i = [(i, i + 1), (i, E + 1)] := by
             rw [Fl.ways_plain (C := cdOf c n) (k := i) ⟨show 29 ≤ c i by omega, show c i ≤ 32 by omega⟩ he hdE, if_neg (show ¬ (cdOf c n).c i = 29 by show ¬ c i = 29; omega), if_pos (show (cdOf c n).c i = 30 from h30)]
      refine WC.region (WL.z (.slice (some ⟨bb, oo, none⟩) n cap) 128 (WL.z (vI (i : Int)) 129 ?_))
      refine WL.c 56 #[.slice (some ⟨bb, oo, none⟩) n cap, vI (i : Int)] 130 ?_
      refine (rMatch_at hm1 hme _ (hIn.below (HP.below hH8)) (by omega) (by omega)).mono ?_
      rintro e w84 ⟨rfl, hb85⟩
      refine ⟨_, rfl, ?_⟩
      have hH86 := HP.call hH8 hb85
      refine WL.z (.tuple #[vI (-1), vI (E : Int), vI (Ec.maF c A0 B n (i : Int))]) 127 (WL.z (vI (-1)) 131 (WL.z (vI (E : Int)) 132 (WL.z (vI (Ec.maF c A0 B n (i : Int))) 133 (WL.z (vI (-1)) 15 (WL.z (vI (E : Int)) 16 (WL.z (vI (Ec.maF c A0 B n (i : Int))) 17 (WL.k hK83 (WC.sb [(0, .slice (some ⟨bb, oo, none⟩) n cap), (3, .slice pv A1.length cp3), (4, vI (i : Int)), (16, vI (E : Int)), (25, .bool true), (32, vI (c i)), (40, .bool false), (62, .bool false), (90, .bool false), (125, .bool true)] (WC.region ?_)))))))))
      refine WL.z (.slice pv A1.length cp3) 134 (WL.z (vI (i : Int)) 135 (WL.z (vI (i : Int)) 136 (WL.y (vI ((i + 1 : Nat) : Int)) 137 (x_ad (((i + 1 : Nat) : Int))) (WL.z (.agg #[vI (i : Int), vI ((i + 1 : Nat) : Int)]) 138 (WL.z (vI (i : Int)) 139 (WL.z (vI (E : Int)) 140 (WL.y (vI ((E + 1 : Nat) : Int)) 141 (x_ad (((E + 1 : Nat) : Int))) (WL.z (.agg #[vI (i : Int), vI ((E + 1 : Nat) : Int)]) 142 ?_))))))))
      refine WL.alloc (c := #[vI (i : Int), vI ((i + 1 : Nat) : Int), vI (i : Int), vI ((E + 1 : Nat) : Int)]) (T := 83) hH86 143 rfl (by decide) rfl rfl (fun b87 => vS b87 2 2) (by kernel_rfl) (fun b87 w88 hw88 => ?_)
      have hH89 : HP Tr w w88 [rowT pv A1.length cp3 A1, .cel b87 #[vI (i : Int), vI ((i + 1 : Nat) : Int), vI (i : Int), vI ((E + 1 : Nat) : Int)] 83] := hw88.2
      have nb87 := hw88.1
      clear hw88
      obtain ⟨i0, hi0, hz0, hz1, hz2⟩ := infoT
      refine WL.append (news := [vI (i : Int), vI ((i + 1 : Nat) : Int), vI (i : Int), vI ((E + 1 : Nat) : Int)]) 0 1 hH89 144 rfl (by decide) rfl rfl rfl rfl Try.underlying49 hi0 hz0 hz1 hz2 rfl (by decide) rfl rfl rfl rfl (by simp [Value.oneCell']) (by unfold maxLen; omega) (by omega) ?_
      rintro v790 w790 - hA790
      obtain ⟨pv790, cp790, rfl⟩ := own_row (HP.get hA790 0 rfl)
      have e790 : A1.length + 2 = (A1 ++ [((i : Int), ((i + 1 : Nat) : Int)), ((i : Int), ((E + 1 : Nat) : Int))]).length := (len2 _ _ _).symm
      rw [tL_push2, e790] at hA790
      rw [e790]
      have hH91 : HP Tr w _ [rowT pv790 (A1 ++ [((i : Int), ((i + 1 : Nat) : Int)), ((i : Int), ((E + 1 : Nat) : Int))]).length cp790 (A1 ++ [((i : Int), ((i + 1 : Nat) : Int)), ((i : Int), ((E + 1 : Nat) : Int))]), .cel b87 #[vI (i : Int), vI ((i + 1 : Nat) : Int), vI (i : Int), vI ((E + 1 : Nat) : Int)] 83] := hA790
      have hl790 : (A1 ++ [((i : Int), ((i + 1 : Nat) : Int)), ((i : Int), ((E + 1 : Nat) : Int))]).length = A1.length + 2 := e790.symm
      refine WL.z (.slice pv790 ((A1 ++ [((i : Int), ((i + 1 : Nat) : Int)), ((i : Int), ((E + 1 : Nat) : Int))]).length) cp790) 3 (WL.nil (WQ.inNormal (WQ.inNormal (WQ.then (hK11 _ _ _ (WC.sb [(0, .slice (some ⟨bb, oo, none⟩) n cap), (3, .slice pv790 ((A1 ++ [((i : Int), ((i + 1 : Nat) : Int)), ((i : Int), ((E + 1 : Nat) : Int))]).length) cp790), (4, vI (i : Int)), (16, vI (E : Int)), (25, .bool true), (32, vI (c i)), (40, .bool false), (62, .bool false), (90, .bool false), (125, .bool true)] (WC.region (WL.z (vI (i : Int)) 26 (WL.y (vI ((i + 1 : Nat) : Int)) 27 (x_ad (((i + 1 : Nat) : Int))) (WL.z (vI ((i + 1 : Nat) : Int)) 4 (WL.nil ?_)))))))))))
      refine WQ.sb [(0, .slice (some ⟨bb, oo, none⟩) n cap), (3, .slice pv790 ((A1 ++ [((i : Int), ((i + 1 : Nat) : Int)), ((i : Int), ((E + 1 : Nat) : Int))]).length) cp790), (4, vI ((i + 1 : Nat) : Int))] ?_
      refine WQ.then (hK6 _ _ _ (by omega) ⟨i + 1, (A1 ++ [((i : Int), ((i + 1 : Nat) : Int)), ((i : Int), ((E + 1 : Nat) : Int))]), pv790, cp790, rfl, rfl, by omega, by rw [wLs_succ, ← hA, hw]; simp [toT], by omega, (HP.drop hH91 1)⟩)
     ·
      refine WL.y (.bool false) 126 (x_eql rfl rfl rfl (dF (h30))) (WL.z (.bool false) 125 (WL.k hK82 ?_))
      refine WC.no rfl ?_
      refine WC.seq fun K92 hK92 => WC.region ?_
      by_cases h33 : c i = 33
      ·
       obtain ⟨E, hiE, hEn, hme, hdE, hcase⟩ := at_op hc (show i < n by omega) (Ec.opn_iff.2 (show 29 ≤ c i ∧ c i ≤ 33 by omega))
       refine WL.y (.bool true) 146 (x_eql rfl rfl rfl (dT (h33))) (WL.z (.bool true) 145 (WL.k hK92 ?_))
       refine WC.yes rfl ?_
       refine WC.seq fun K93 hK93 => ?_
       obtain ⟨a, hia, han, hm1, he⟩ : ∃ a : Nat, i < a ∧ a < n ∧ Ec.maA c A0 B n (i : Int) = (a : Int) ∧ (Ec.shD c n).e i = (a : Int) := by
               rcases hcase with ⟨hm1, he, h9⟩ | ⟨a, hia, han, hm1, he, h9⟩
               · omega
               · exact ⟨a, hia, han, hm1, he⟩
       have hw : Fl.ways (cdOf c n) i = [(i, i + 1), (i, a + 1)] ++ (List.range (a - (i + 1))).map fun v => (i + 1 + v, a + 1) := by
               rw [Fl.ways_alt (C := cdOf c n) (k := i) (.inr h33) he, if_pos (show (cdOf c n).c i = 33 from h33)]
       refine WC.region (WL.z (.slice (some ⟨bb, oo, none⟩) n cap) 148 (WL.z (vI (i : Int)) 149 ?_))
       refine WL.c 56 #[.slice (some ⟨bb, oo, none⟩) n cap, vI (i : Int)] 150 ?_
       refine (rMatch_at hm1 hme _ (hIn.below (HP.below hH8)) (by omega) (by omega)).mono ?_
       rintro e w94 ⟨rfl, hb95⟩
       refine ⟨_, rfl, ?_⟩
       have hH96 := HP.call hH8 hb95
       refine WL.z (.tuple #[vI (a : Int), vI (E : Int), vI (Ec.maF c A0 B n (i : Int))]) 147 (WL.z (vI (a : Int)) 151 (WL.z (vI (E : Int)) 152 (WL.z (vI (Ec.maF c A0 B n (i : Int))) 153 (WL.z (vI (a : Int)) 18 (WL.z (vI (E : Int)) 19 (WL.z (vI (Ec.maF c A0 B n (i : Int))) 20 (WL.k hK93 (WC.sb [(0, .slice (some ⟨bb, oo, none⟩) n cap), (3, .slice pv A1.length cp3), (4, vI (i : Int)), (18, vI (a : Int)), (25, .bool true), (32, vI (c i)), (40, .bool false), (62, .bool false), (90, .bool false), (125, .bool false), (145, .bool true)] (WC.seq fun K97 hK97 => ?_)))))))))
       refine WC.region (WL.z (.slice pv A1.length cp3) 154 (WL.z (vI (i : Int)) 155 (WL.z (vI (i : Int)) 156 (WL.y (vI ((i + 1 : Nat) : Int)) 157 (x_ad (((i + 1 : Nat) : Int))) (WL.z (.agg #[vI (i : Int), vI ((i + 1 : Nat) : Int)]) 158 (WL.z (vI (i : Int)) 159 (WL.z (vI (a : Int)) 160 (WL.y (vI ((a + 1 : Nat) : Int)) 161 (x_ad (((a + 1 : Nat) : Int))) (WL.z (.agg #[vI (i : Int), vI ((a + 1 : Nat) : Int)]) 162 ?_)))))))))
       refine WL.alloc (c := #[vI (i : Int), vI ((i + 1 : Nat) : Int), vI (i : Int), vI ((a + 1 : Nat) : Int)]) (T := 83) hH96 163 rfl (by decide) rfl rfl (fun b98 => vS b98 2 2) (by kernel_rfl) (fun b98 w99 hw99 => ?_)
       have hH100 : HP Tr w w99 [rowT pv A1.length cp3 A1, .cel b98 #[vI (i : Int), vI ((i + 1 : Nat) : Int), vI (i : Int), vI ((a + 1 : Nat) : Int)] 83] := hw99.2
       have nb98 := hw99.1
       clear hw99
       obtain ⟨i0, hi0, hz0, hz1, hz2⟩ := infoT
       refine WL.append (news := [vI (i : Int), vI ((i + 1 : Nat) : Int), vI (i : Int), vI ((a + 1 : Nat) : Int)]) 0 1 hH100 164 rfl (by decide) rfl rfl rfl rfl Try.underlying49 hi0 hz0 hz1 hz2 rfl (by decide) rfl rfl rfl rfl (by simp [Value.oneCell']) (by unfold maxLen; omega) (by omega) ?_
       rintro v7101 w7101 - hA7101
       obtain ⟨pv7101, cp7101, rfl⟩ := own_row (HP.get hA7101 0 rfl)
       have e7101 : A1.length + 2 = (A1 ++ [((i : Int), ((i + 1 : Nat) : Int)), ((i : Int), ((a + 1 : Nat) : Int))]).length := (len2 _ _ _).symm
       rw [tL_push2, e7101] at hA7101
       rw [e7101]
       have hH102 : HP Tr w _ [rowT pv7101 (A1 ++ [((i : Int), ((i + 1 : Nat) : Int)), ((i : Int), ((a + 1 : Nat) : Int))]).length cp7101 (A1 ++ [((i : Int), ((i + 1 : Nat) : Int)), ((i : Int), ((a + 1 : Nat) : Int))]), .cel b98 #[vI (i : Int), vI ((i + 1 : Nat) : Int), vI (i : Int), vI ((a + 1 : Nat) : Int)] 83] := hA7101
       have hl7101 : (A1 ++ [((i : Int), ((i + 1 : Nat) : Int)), ((i : Int), ((a + 1 : Nat) : Int))]).length = A1.length + 2 := e7101.symm
       refine WL.z (.slice pv7101 ((A1 ++ [((i : Int), ((i + 1 : Nat) : Int)), ((i : Int), ((a + 1 : Nat) : Int))]).length) cp7101) 3 (WL.k hK97 (WC.sb [(0, .slice (some ⟨bb, oo, none⟩) n cap), (3, .slice pv7101 ((A1 ++ [((i : Int), ((i + 1 : Nat) : Int)), ((i : Int), ((a + 1 : Nat) : Int))]).length) cp7101), (4, vI (i : Int)), (18, vI (a : Int)), (25, .bool true), (32, vI (c i)), (40, .bool false), (62, .bool false), (90, .bool false), (125, .bool false), (145, .bool true)] (WC.seq fun K103 hK103 => WC.region (WL.z (vI (i : Int)) 165 (WL.y (vI ((i + 1 : Nat) : Int)) 166 (x_ad (((i + 1 : Nat) : Int))) (WL.z (vI ((i + 1 : Nat) : Int)) 21 (WL.nil (WQ.then ?_))))))))
       refine hK103 _ _ _ (WC.block ?_)
       refine WC.loop (fun kk0 ll0 ww0 => ∃ (kk : Nat) (A2 : List T2) (pv2 : Option Addr) (cp4 : Nat), ll0 = [(0, .slice (some ⟨bb, oo, none⟩) n cap), (3, .slice pv2 A2.length cp4), (4, vI (i : Int)), (18, vI (a : Int)), (21, vI (kk : Int))] ∧ kk0 = a - kk ∧ (i + 1 ≤ kk) ∧ (kk ≤ a) ∧ (A2 = (A1 ++ [((i : Int), ((i + 1 : Nat) : Int)), ((i : Int), ((a + 1 : Nat) : Int))]) ++ (List.range (kk - (i + 1))).map (fun v => toT (i + 1 + v, a + 1))) ∧ (A2.length ≤ A1.length + 2 + (kk - (i + 1))) ∧ HP Tr w ww0 [rowT pv2 A2.length cp4 A2]) (a - (i + 1)) [(0, .slice (some ⟨bb, oo, none⟩) n cap), (3, .slice pv7101 ((A1 ++ [((i : Int), ((i + 1 : Nat) : Int)), ((i : Int), ((a + 1 : Nat) : Int))]).length) cp7101), (4, vI (i : Int)), (18, vI (a : Int)), (21, vI ((i + 1 : Nat) : Int))] ⟨rfl, rfl, rfl, rfl, rfl, trivial⟩ ⟨i + 1, (A1 ++ [((i : Int), ((i + 1 : Nat) : Int)), ((i : Int), ((a + 1 : Nat) : Int))]), pv7101, cp7101, rfl, rfl, Nat.le_refl _, by omega, by simp, by omega, (HP.drop hH102 1)⟩ ?_
       rintro kk l w105 ⟨kk, A2, pv2, cp4, rfl, hkk, hk1, hk2, hA2, hAl2, hH106⟩ K104 hK104
       refine WC.seq fun K107 hK107 => WC.seq fun K108 hK108 => WC.region (WL.z (vI (kk : Int)) 167 (WL.z (vI (a : Int)) 168 ?_))
       by_cases hlk : (kk : Int) < (a : Int)
       ·
        refine WL.y (.bool true) 169 (x_lss rfl rfl rfl (dT (hlk))) (WL.k hK108 ?_)
        refine WC.yes rfl ?_
        refine WC.skip (WQ.then (hK107 _ _ _ (WC.seq fun K109 hK109 => WC.block (WC.region (WL.z (.slice pv2 A2.length cp4) 172 (WL.z (vI (kk : Int)) 173 (WL.z (vI (a : Int)) 174 (WL.y (vI ((a + 1 : Nat) : Int)) 175 (x_ad (((a + 1 : Nat) : Int))) (WL.z (.agg #[vI (kk : Int), vI ((a + 1 : Nat) : Int)]) 176 ?_)))))))))
        refine WL.alloc (c := #[vI (kk : Int), vI ((a + 1 : Nat) : Int)]) (T := 83) hH106 177 rfl (by decide) rfl rfl (fun b110 => vS b110 1 1) (by kernel_rfl) (fun b110 w111 hw111 => ?_)
        have hH112 : HP Tr w w111 [rowT pv2 A2.length cp4 A2, .cel b110 #[vI (kk : Int), vI ((a + 1 : Nat) : Int)] 83] := hw111.2
        have nb110 := hw111.1
        clear hw111
        obtain ⟨i0, hi0, hz0, hz1, hz2⟩ := infoT
        refine WL.append (news := [vI (kk : Int), vI ((a + 1 : Nat) : Int)]) 0 1 hH112 178 rfl (by decide) rfl rfl rfl rfl Try.underlying49 hi0 hz0 hz1 hz2 rfl (by decide) rfl rfl rfl rfl (by simp [Value.oneCell']) (by unfold maxLen; omega) (by omega) ?_
        rintro v7113 w7113 - hA7113
        obtain ⟨pv7113, cp7113, rfl⟩ := own_row (HP.get hA7113 0 rfl)
        have e7113 : A2.length + 1 = (A2 ++ [((kk : Int), ((a + 1 : Nat) : Int))]).length := (len1 _ _).symm
        rw [tL_push, e7113] at hA7113
        rw [e7113]
        have hH114 : HP Tr w _ [rowT pv7113 (A2 ++ [((kk : Int), ((a + 1 : Nat) : Int))]).length cp7113 (A2 ++ [((kk : Int), ((a + 1 : Nat) : Int))]), .cel b110 #[vI (kk : Int), vI ((a + 1 : Nat) : Int)] 83] := hA7113
        have hl7113 : (A2 ++ [((kk : Int), ((a + 1 : Nat) : Int))]).length = A2.length + 1 := e7113.symm
        refine WL.z (.slice pv7113 ((A2 ++ [((kk : Int), ((a + 1 : Nat) : Int))]).length) cp7113) 3 (WL.nil (WQ.inNormal (WQ.then (hK109 _ _ _ (WC.sb [(0, .slice (some ⟨bb, oo, none⟩) n cap), (3, .slice pv7113 ((A2 ++ [((kk : Int), ((a + 1 : Nat) : Int))]).length) cp7113), (4, vI (i : Int)), (18, vI (a : Int)), (21, vI (kk : Int)), (169, .bool true)] (WC.region (WL.z (vI (kk : Int)) 170 (WL.y (vI ((kk + 1 : Nat) : Int)) 171 (x_ad (((kk + 1 : Nat) : Int))) (WL.z (vI ((kk + 1 : Nat) : Int)) 21 (WL.nil (WQ.sb [(0, .slice (some ⟨bb, oo, none⟩) n cap), (3, .slice pv7113 ((A2 ++ [((kk : Int), ((a + 1 : Nat) : Int))]).length) cp7113), (4, vI (i : Int)), (18, vI (a : Int)), (21, vI ((kk + 1 : Nat) : Int))] ?_)))))))))))
        refine WQ.then (hK104 _ _ _ (by omega) ⟨kk + 1, (A2 ++ [((kk : Int), ((a + 1 : Nat) : Int))]), pv7113, cp7113, rfl, rfl, by omega, by omega, by rw [hA2, show kk + 1 - (i + 1) = kk - (i + 1) + 1 by omega, List.range_succ, List.map_append]; simp [toT]; omega, by omega, (HP.drop hH114 1)⟩)
       ·
        refine WL.y (.bool false) 169 (x_lss rfl rfl rfl (dF (hlk))) (WL.k hK108 ?_)
        refine WC.no rfl ?_
        refine WC.exit (WQ.thenExit (WQ.thenExit (WQ.inExit (WQ.inNormal (WQ.inNormal (WQ.then (hK11 _ _ _ (WC.region (WL.z (vI (i : Int)) 26 (WL.y (vI ((i + 1 : Nat) : Int)) 27 (x_ad (((i + 1 : Nat) : Int))) (WL.z (vI ((i + 1 : Nat) : Int)) 4 ?_)))))))))))
        refine WL.nil (WQ.sb [(0, .slice (some ⟨bb, oo, none⟩) n cap), (3, .slice pv2 A2.length cp4), (4, vI ((i + 1 : Nat) : Int))] ?_)
        refine WQ.then (hK6 _ _ _ (by omega) ⟨i + 1, A2, pv2, cp4, rfl, rfl, by omega, by rw [wLs_succ, ← hA, hw, hA2, show kk = a by omega]; simp [toT, Function.comp_def], by omega, hH106⟩)
      ·
       refine WL.y (.bool false) 146 (x_eql rfl rfl rfl (dF (h33))) (WL.z (.bool false) 145 (WL.k hK92 ?_))
       refine WC.no rfl ?_
       have hw : Fl.ways (cdOf c n) i = [(i, i + 1)] := at_df h34 h35 h29 h30 h33
       refine WC.region (WL.z (.slice pv A1.length cp3) 33 (WL.z (vI (i : Int)) 34 (WL.z (vI (i : Int)) 35 (WL.y (vI ((i + 1 : Nat) : Int)) 36 (x_ad (((i + 1 : Nat) : Int))) (WL.z (.agg #[vI (i : Int), vI ((i + 1 : Nat) : Int)]) 37 ?_)))))
       refine WL.alloc (c := #[vI (i : Int), vI ((i + 1 : Nat) : Int)]) (T := 83) hH8 38 rfl (by decide) rfl rfl (fun b115 => vS b115 1 1) (by kernel_rfl) (fun b115 w116 hw116 => ?_)
       have hH117 : HP Tr w w116 [rowT pv A1.length cp3 A1, .cel b115 #[vI (i : Int), vI ((i + 1 : Nat) : Int)] 83] := hw116.2
       have nb115 := hw116.1
       clear hw116
       obtain ⟨i0, hi0, hz0, hz1, hz2⟩ := infoT
       refine WL.append (news := [vI (i : Int), vI ((i + 1 : Nat) : Int)]) 0 1 hH117 39 rfl (by decide) rfl rfl rfl rfl Try.underlying49 hi0 hz0 hz1 hz2 rfl (by decide) rfl rfl rfl rfl (by simp [Value.oneCell']) (by unfold maxLen; omega) (by omega) ?_
       rintro v7118 w7118 - hA7118
       obtain ⟨pv7118, cp7118, rfl⟩ := own_row (HP.get hA7118 0 rfl)
       have e7118 : A1.length + 1 = (A1 ++ [((i : Int), ((i + 1 : Nat) : Int))]).length := (len1 _ _).symm
       rw [tL_push, e7118] at hA7118
       rw [e7118]
       have hH119 : HP Tr w _ [rowT pv7118 (A1 ++ [((i : Int), ((i + 1 : Nat) : Int))]).length cp7118 (A1 ++ [((i : Int), ((i + 1 : Nat) : Int))]), .cel b115 #[vI (i : Int), vI ((i + 1 : Nat) : Int)] 83] := hA7118
       have hl7118 : (A1 ++ [((i : Int), ((i + 1 : Nat) : Int))]).length = A1.length + 1 := e7118.symm
       refine WL.z (.slice pv7118 ((A1 ++ [((i : Int), ((i + 1 : Nat) : Int))]).length) cp7118) 3 (WL.nil (WQ.inNormal (WQ.inNormal (WQ.then (hK11 _ _ _ (WC.sb [(0, .slice (some ⟨bb, oo, none⟩) n cap), (3, .slice pv7118 ((A1 ++ [((i : Int), ((i + 1 : Nat) : Int))]).length) cp7118), (4, vI (i : Int)), (25, .bool true), (32, vI (c i)), (40, .bool false), (62, .bool false), (90, .bool false), (125, .bool false), (145, .bool false)] (WC.region (WL.z (vI (i : Int)) 26 (WL.y (vI ((i + 1 : Nat) : Int)) 27 (x_ad (((i + 1 : Nat) : Int))) (WL.z (vI ((i + 1 : Nat) : Int)) 4 (WL.nil ?_)))))))))))
       refine WQ.sb [(0, .slice (some ⟨bb, oo, none⟩) n cap), (3, .slice pv7118 ((A1 ++ [((i : Int), ((i + 1 : Nat) : Int))]).length) cp7118), (4, vI ((i + 1 : Nat) : Int))] ?_
       refine WQ.then (hK6 _ _ _ (by omega) ⟨i + 1, (A1 ++ [((i : Int), ((i + 1 : Nat) : Int))]), pv7118, cp7118, rfl, rfl, by omega, by rw [wLs_succ, ← hA, hw]; simp [toT], by omega, (HP.drop hH119 1)⟩)
 ·
  refine WL.y (.bool false) 25 (x_lss rfl rfl rfl (dF (hlt))) (WL.k hK10 ?_)
  refine WC.no rfl ?_
  refine WC.exit (WQ.thenExit (WQ.thenExit (WQ.inExit (WQ.then (hK4 _ _ _ (WC.seq fun K120 hK120 => WC.region (WL.z (.slice pv A1.length cp3) 179 (WL.z (.slice pv A1.length cp3) 2 (WL.nil (WQ.then ?_))))))))))
  refine hK120 _ _ _ (WC.ret ?_)
  refine WQ.ret1 2 rfl rfl ?_
  obtain rfl : i = n := by omega
  exact ⟨pv, cp3, by rw [hA], by rw [← hA]; exact hH8, by rw [← hA]; exact hAl⟩
end Ca
end Go.Proofs.Ytmjnakhpekbenaa
namespace Go.Proofs.Ytmjnakhpekbenaa
open Go.RowKit Fw
namespace Fl
section
variable {T : Type} [DecidableEq T] {L : Lat T} {C : Cd} {n M : Nat} {t : T} {ah : Ah T} {x : T × Ah T}
theorem step_chg (G : Good L C 0 n t ah x) (hn : n < 1000) (ht : L.ok t) (hM : ∀ a, L.ok a → L.mu a < M) {s : RS T} (h : RInv L n t x s) {i : Nat} (hi : i < n) {u v : Nat} (hp : (u, v) ∈ ways C i) (q1 : s.rc u = true) {X : T}
    (hX : X = if s.rc v = true then L.J (s.tb v) (L.F u (s.tb u)) else L.F u (s.tb u)) (q3 : ¬ (s.rc v = true ∧ X = s.tb v)) :
    RInv L n t x ⟨up s.tb v X, up s.rc v true, true⟩ ∧ rmu L.toOps M n ⟨up s.tb v X, up s.rc v true, true⟩ < rmu L.toOps M n s := by
  have e : rstep L.toOps s (u, v) = ⟨up s.tb v X, up s.rc v true, true⟩ := by
    unfold rstep
    simp only [if_pos q1]
    rw [← hX, if_neg q3]
  obtain ⟨h1, h2⟩ := rstep_inv G hn ht hM h hi hp
  rw [e] at h1 h2
  refine ⟨h1, ?_⟩
  rcases h2 with ⟨h2, -⟩ | ⟨-, h2⟩
  · exfalso
    have e1 := congrArg (fun z => z.rc v) h2
    have e2 := congrArg (fun z => z.tb v) h2
    simp only [up_same] at e1 e2
    exact q3 ⟨e1.symm, e2⟩
  · exact h2
theorem step_same (G : Good L C 0 n t ah x) (hn : n < 1000) (ht : L.ok t) (hM : ∀ a, L.ok a → L.mu a < M) {s : RS T} (h : RInv L n t x s) {i : Nat} (hi : i < n) {u v : Nat} (hp : (u, v) ∈ ways C i) (q1 : s.rc v = true) (q3 : L.J (s.tb v) (L.F u (s.tb u)) = s.tb v) (q2 : s.rc u = true) : s.rc v = true ∧ L.le (L.F u (s.tb u)) (s.tb v) := by
  have e : rstep L.toOps s (u, v) = s := by
    unfold rstep
    simp only [if_pos q2, if_pos q1, q3]
    exact if_pos ⟨q1, trivial⟩
  obtain ⟨h1, h2⟩ := rstep_inv G hn ht hM h hi hp
  rw [e] at h2
  rcases h2 with ⟨-, h2⟩ | ⟨-, h2⟩
  · exact h2 q2
  · omega
omit [DecidableEq T] in
theorem start_inv (G : Good L C 0 n t ah x) (ht : L.ok t) {f : Nat → T} {r : Nat → Bool} (h0 : r 0 = true) (h1 : ∀ v, r v = true → v = 0) (hf : f 0 = t) : RInv L n t x ⟨f, r, true⟩ :=
  ⟨h0, by show L.le t (f 0); rw [hf]; exact L.rfl t ht, fun v hv => by
    obtain rfl := h1 v hv
    show L.ok (f 0) ∧ _ ∧ L.le (f 0) _
    rw [hf, G.fst]
    exact ⟨ht, Nat.zero_le _, L.rfl t ht⟩⟩
end
end Fl
namespace Ca
def wsN (c : Nat → Int) (n : Nat) : List (Nat × Nat) := (List.range n).flatMap (Fl.ways (cdOf c n))
theorem wLs_len (c : Nat → Int) (n : Nat) : (wLs c n n).length = (wsN c n).length := by unfold wLs wsN; rw [List.length_map]
theorem ws_at {c : Nat → Int} {n i : Nat} (h : i < (wLs c n n).length) : ∃ u v k : Nat, (wsN c n)[i]? = some (u, v) ∧ lnT (wLs c n n) i = (u : Int) ∧ agT (wLs c n n) i = (v : Int) ∧ k < n ∧ (u, v) ∈ Fl.ways (cdOf c n) k := by
  have h2 : i < (wsN c n).length := by rw [← wLs_len]; exact h
  obtain ⟨⟨u, v⟩, hp⟩ : ∃ p, (wsN c n)[i] = p := ⟨_, rfl⟩
  have hm : (u, v) ∈ wsN c n := by rw [← hp]; exact List.getElem_mem h2
  obtain ⟨k, hk, hw⟩ := List.mem_flatMap.1 hm
  have e : (wLs c n n)[i] = toT (u, v) := by
    have : wLs c n n = (wsN c n).map toT := rfl
    simp only [this, List.getElem_map]
    rw [hp]
  refine ⟨u, v, k, by rw [List.getElem?_eq_getElem h2, hp], ?_, ?_, List.mem_range.1 hk, hw⟩
  · rw [lnT_get h, e]; rfl
  · rw [agT_get h, e]; rfl
theorem ws_all {c : Nat → Int} {n : Nat} {P : Nat × Nat → Prop} (h : ∀ j, j < (wLs c n n).length → ∀ p, (wsN c n)[j]? = some p → P p) : ∀ i, i < n → ∀ p ∈ Fl.ways (cdOf c n) i, P p := fun i hi p hp => by
  have hm : p ∈ wsN c n := List.mem_flatMap.2 ⟨i, List.mem_range.2 hi, hp⟩
  obtain ⟨j, hj, e⟩ := List.getElem_of_mem hm
  exact h j (by rw [wLs_len]; exact hj) p (by rw [List.getElem?_eq_getElem hj, e])
theorem upB_up (f : Nat → Bool) (v : Nat) : upB f v true = Fl.up f v true := rfl
theorem out_ib {w : World} {gt gr N N2 : Nat} {T : Nat → TbI} {f : Nat → Bool} {E1 E2 : TypeId} (hB : OwnB w [.cel gt (aR N T) E1, .cel gr (brow N2 f) E2]) {b o : Nat} {x : Int} (hc : w.cell? ⟨b, o, none⟩ = some (vI x)) : Out [.cel gt (aR N T) E1, .cel gr (brow N2 f) E2] b := fun e he hb => by
  rcases List.mem_cons.1 he with rfl | he
  · cases hb
    have h2 := hB.1 (.cel gt (aR N T) E1) (by simp)
    rw [cell_of_row w gt o _ E1 (0, 0) h2] at hc
    obtain ⟨r, hr⟩ := aR_in hc
    cases hr
  · obtain rfl := List.mem_singleton.1 he
    cases hb
    have h2 := hB.1 (.cel gr (brow N2 f) E2) (by simp)
    rw [cell_of_row w gr o _ E2 (0, 0) h2] at hc
    have hi : o < N2 := by
      have := (Array.getElem?_eq_some_iff.1 hc).1
      simpa [brow] using this
    rw [brow_get hi rfl] at hc
    cases hc
theorem keepI {w w' : World} {B H : List Ent} {q : Option Addr} {t : List T2} (h : InT w q t) (hO : ∀ b o x, w.cell? ⟨b, o, none⟩ = some (vI x) → Out B b) (hp : HP (Out B) w w' H) : InT w' q t := fun h0 => by
  obtain ⟨g, o, hq, hr⟩ := h h0
  exact ⟨g, o, hq, fun i hi => HP.oldRange hp (hO g _ _ (hr i hi 0 _ rfl)) (hr i hi)⟩
theorem info49 : ∃ i, Try.prog.info? 49 = some i ∧ i.zero = some (.slice none 0 0) ∧ i.size = 1 ∧ i.bytes = 24 := by
  obtain ⟨i, hi, h⟩ := Option.map_eq_some_iff.1 (show (Try.prog.info? 49).map (fun i => (i.zero, i.size, i.bytes)) = some (some (.slice none 0 0), 1, 24) by kernel_rfl)
  simp only [Prod.mk.injEq] at h
  exact ⟨i, hi, h.1, h.2.1, h.2.2⟩
theorem makeT9 (n : Nat) (hn : n ≤ 1000) (W : World) : (Instr.makeSlice 119 (.int .i64 (n : Int)) (.int .i64 (n : Int))).run Try.prog W = .ok (.slice (some ⟨W.heap.size, 0, none⟩) n n) (W.alloc (.cells (aR n nilT) 49)) := by
  obtain ⟨i0, hi0, hz0, hz1, hz2⟩ := info49
  have hr := run_make (P := Try.prog) W 119 49 i0 _ Try.underlying119 hi0 hz0 .i64 .i64 (n : Int) (n : Int) (by omega) (by omega) (by rw [hz2]; omega) (by omega)
  rw [hz1, made_aR] at hr
  simpa using hr
def Stab (L : Fl.Lat (List T2)) (T : Nat → TbI) (f : Nat → Bool) (p : Nat × Nat) : Prop := f p.1 = true → f p.2 = true ∧ L.le (L.F p.1 (tabs T p.1)) (tabs T p.2)
theorem stab_succ {L : Fl.Lat (List T2)} {T : Nat → TbI} {f : Nat → Bool} {c : Nat → Int} {n i u v : Nat} {cb : Bool} (hp : (wsN c n)[i]? = some (u, v)) (h : cb = false → ∀ j, j < i → ∀ p, (wsN c n)[j]? = some p → Stab L T f p) (h2 : Stab L T f (u, v)) : cb = false → ∀ j, j < i + 1 → ∀ p, (wsN c n)[j]? = some p → Stab L T f p := fun hc j hj p hq => by
  by_cases e : j = i
  · subst e; rw [hp] at hq; cases hq; exact h2
  · exact h hc j (by omega) p hq
end Ca
end Go.Proofs.Ytmjnakhpekbenaa
