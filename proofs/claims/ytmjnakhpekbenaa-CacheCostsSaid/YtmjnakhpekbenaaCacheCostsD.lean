/- What the proof of CacheCosts stands on, part 4 of 6. -/
import Derived.BigQuiet
import Derived.BigRegion
import Derived.CallsIn
import Derived.ChangeAlike
import Derived.ChangeArms
import Derived.ChangeKeysEq
import Derived.ChangeSlices
import Derived.Deep.AppendLies
import Derived.Deep.CutRange
import Derived.Deep.DeepCutAuto
import Derived.Deep.Heap
import Derived.Deep.LoopGhost
import Derived.Deep.MidRow
import Derived.Deep.QuietTactic
import Derived.Deep.Slices
import Derived.Great.BuildSlice
import Derived.Great.Walk
import Derived.Ground.Names2Prog
import Derived.Ground.SlgnProg
import Derived.Ground.SlsfProg
import Derived.Handy
import Derived.KernelRfl
import Derived.Laws.AppendOwn
import Derived.Laws.AppendOwnNone
import Derived.Laws.CopyRow
import Derived.Laws.MakeOwn
import Derived.Laws.Rows
import Derived.Laws.StructEq
import Derived.Lib.QuietBelow
import Derived.Lib.SliceRun
import Derived.OpenShut
import Derived.Orders
import Derived.OrdersIn
import Derived.RangeFuncFrom
import Derived.RangeFuncLeaves
import Derived.RangeFuncWrites
import Derived.RegionTactic
import Derived.Shelf.SlSortCmp.HeapSortK
import Derived.Shelf.SlSortCmp.InsertionK
import Derived.Shelf.SlSortCmp.MedianK
import Derived.Shelf.SlSortCmp.NoneTotal
import Derived.Shelf.SlSortCmp.PartialInsertionK
import Derived.Shelf.SlSortCmp.PartitionEqualK
import Derived.Shelf.SlSortCmp.PartitionK
import Derived.Shelf.SlSortCmp.PdqK
import Derived.Shelf.SlSortCmp.PivotK
import Derived.Shelf.SlSortCmp.ReverseRangeK
import Derived.Shelf.SlSortCmp.SiftDownK
import Derived.Shelf.Slices.Cells
import Derived.Shelf.Slices.Clone
import Derived.Shelf.Slices.Delete
import Derived.Shelf.Slices.Empties
import Derived.Shelf.Slices.SearchI
import Derived.Shelf.Slices.Turned
import Derived.Shelf.SlicesE.Clone
import Derived.Shelf.SlicesE.Delete
import Derived.Shelf.SlicesQ.Reverse
import Derived.Shelf.Small.Bits
import Derived.Shelf.Small.Wraps
import Derived.Shelf.Strconv.Itoa0
import Derived.Sort.AssemblyPlain
import Derived.Still
import Derived.StillTail
import Derived.TacticsIn
import Derived.Test.YtmjnakhpekbenaaProg
import Derived.WalkKit
import Derived.WalkLawsBesides
import Derived.Test.YtmjnakhpekbenaaCacheCostsC
set_option linter.unusedVariables false
set_option linter.unusedSimpArgs false
namespace Go.Proofs.Ytmjnakhpekbenaa
set_option maxRecDepth 20000
set_option maxHeartbeats 4000000
open Go.RowKit Fw
namespace Ec
theorem allV_no {c A B : Nat → Int} {pl : Bool} {n k : Nat} (hk : k < n) (h : vld (c k) (A k) (B k) pl = false) : allV c A B pl n = false := by
  cases q : allV c A B pl n
  · rfl
  · rw [allV_spec.1 q k hk] at h; cases h
theorem chk_2 {c A B : Nat → Int} {pl : Bool} {n : Nat} (h : (120 : Int) < n) : chk c A B pl n = 2 := by unfold chk; rw [if_pos (by omega)]
theorem chk_1 {c A B : Nat → Int} {pl : Bool} {n k : Nat} (h : ¬ (120 : Int) < n) (hk : k < n) (hv : vld (c k) (A k) (B k) pl = false) : chk c A B pl n = 1 := by unfold chk; rw [if_neg (by omega), allV_no hk hv]; rfl
theorem chk_7 {c A B : Nat → Int} {pl : Bool} {n : Nat} (h : ¬ (120 : Int) < n) (hv : ∀ i, i < n → vld (c i) (A i) (B i) pl = true) (ho : okS c n = false) : chk c A B pl n = 7 := by unfold chk; rw [if_neg (by omega), allV_spec.2 hv, ho]; rfl
theorem chk_0 {c A B : Nat → Int} {pl : Bool} {n : Nat} (h : ¬ (120 : Int) < n) (hv : ∀ i, i < n → vld (c i) (A i) (B i) pl = true) (ho : okS c n = true) : chk c A B pl n = 0 := by unfold chk; rw [if_neg (by omega), allV_spec.2 hv, ho]; rfl
theorem chk_bal {c A B : Nat → Int} {pl : Bool} {n : Nat} (h : chk c A B pl n = 0) : Bal c n (shD c n) := okS_bal (chk_ok h).2.2
theorem idE_bad {c A B : Nat → Int} {n : Nat} {at' : Int} (h : chk c A B false n ≠ 0) : idE c A B n at' = chk c A B false n := by unfold idE; rw [if_neg h]
theorem idE_out {c A B : Nat → Int} {n : Nat} {at' : Int} (h : chk c A B false n = 0) (h2 : ¬ (0 ≤ at' ∧ at' < n)) : idE c A B n at' = 1 := by unfold idE; rw [if_pos h, if_neg h2]
theorem idE_in {c A B : Nat → Int} {n : Nat} {at' : Int} (h : chk c A B false n = 0) (h2 : 0 ≤ at' ∧ at' < n) : idE c A B n at' = 0 := by unfold idE; rw [if_pos h, if_pos h2]
def opF (c A B : Nat → Int) (n : Nat) (at' : Int) : Int := if idE c A B n at' ≠ 0 then idE c A B n at' else if (shD c n).o at'.toNat < 0 then 3 else 0
def opO (c A B : Nat → Int) (n : Nat) (at' : Int) : Int := if opF c A B n at' = 0 then (shD c n).o at'.toNat else 0
theorem op_bad {c A B : Nat → Int} {n : Nat} {at' er : Int} (h : er ≠ 0) (hE : idE c A B n at' = er) : opF c A B n at' = er ∧ opO c A B n at' = 0 := by
  have e : opF c A B n at' = er := by unfold opF; rw [hE, if_pos h]
  exact ⟨e, by unfold opO; rw [e, if_neg h]⟩
theorem op_none {c A B : Nat → Int} {n k : Nat} (hE : idE c A B n (k : Int) = 0) (h : (shD c n).o k < 0) : opF c A B n (k : Int) = 3 ∧ opO c A B n (k : Int) = 0 := by
  have e : opF c A B n (k : Int) = 3 := by unfold opF; rw [hE, if_neg (by simp), if_pos (by simpa using h)]
  exact ⟨e, by unfold opO; rw [e]; rfl⟩
theorem op_ok {c A B : Nat → Int} {n k : Nat} (hE : idE c A B n (k : Int) = 0) (h : ¬ (shD c n).o k < 0) : opF c A B n (k : Int) = 0 ∧ opO c A B n (k : Int) = (shD c n).o k := by
  have e : opF c A B n (k : Int) = 0 := by unfold opF; rw [hE, if_neg (by simp), if_neg (by simpa using h)]
  exact ⟨e, by unfold opO; rw [e, if_pos rfl]; simp⟩
theorem rCheck_any (p : Option Addr) (n cap : Nat) (c A B : Nat → Int) (pl : Bool) (w : World) (hIn : InC w p n c A B) (hn : n ≤ 400) :
  Calls Try.prog 54 #[.slice p n cap, .bool pl] w fun e w' => e = .returned (.int .i64 (chk c A B pl n)) ∧ Below w.heap.size w w' := by
 refine calls_of Try.func54 rfl (m := 41) rfl [(0, .slice p n cap), (1, .bool pl)] (Fr_enter [.slice p n cap, .bool pl] 41 (Nat.le_of_ble_eq_true rfl)) ?_
 have hH1 : HP Tr w w [] := HP.refl w
 refine WC.seq fun K2 hK2 => WC.region (WL.z (vI 0) 4 (WL.k hK2 (WC.seq fun K3 hK3 => WC.seq fun K4 hK4 => WC.region (WL.z (.slice p n cap) 8 (WL.z (vI (n : Int)) 9 ?_)))))
 by_cases hl : (120 : Int) < (n : Int)
 ·
  refine WL.y (.bool true) 10 (x_gtr rfl rfl rfl (dT (hl))) (WL.k hK4 ?_)
  refine WC.yes rfl ?_
  refine WC.seq fun K5 hK5 => WC.region (WL.z (vI 2) 4 (WL.k hK5 (WC.ret ?_)))
  refine WQ.thenRet ?_
  refine WQ.ret1 4 rfl rfl ?_
  exact ⟨by rw [show chk c A B pl n = 2 from chk_2 hl], HP.below hH1⟩
 ·
  refine WL.y (.bool false) 10 (x_gtr rfl rfl rfl (dF (hl))) (WL.k hK4 ?_)
  refine WC.no rfl ?_
  refine WC.skip (WQ.then (hK3 _ _ _ (WC.seq fun K6 hK6 => WC.seq fun K7 hK7 => WC.region (WL.z (vI 0) 5 (WL.k hK7 (WC.block ?_))))))
  refine WC.loop (fun kk0 ll0 ww0 => ∃ (k : Nat), ll0 = [(0, .slice p n cap), (1, .bool pl), (5, vI (k : Int))] ∧ kk0 = n - k ∧ (k ≤ n) ∧ (∀ i, i < k → vld (c i) (A i) (B i) pl = true) ∧ HP Tr w ww0 []) (n) [(0, .slice p n cap), (1, .bool pl), (5, vI 0)] ⟨rfl, rfl, rfl, trivial⟩ ⟨0, rfl, rfl, Nat.zero_le n, fun i hi => absurd hi (Nat.not_lt_zero i), hH1⟩ ?_
  rintro kk l w9 ⟨k, rfl, hkk, hk, hv, hH10⟩ K8 hK8
  refine WC.seq fun K11 hK11 => WC.seq fun K12 hK12 => WC.region (WL.z (vI (k : Int)) 11 (WL.z (.slice p n cap) 12 (WL.z (vI (n : Int)) 13 ?_)))
  by_cases hlt : (k : Int) < (n : Int)
  ·
   refine WL.y (.bool true) 14 (x_lss rfl rfl rfl (dT (hlt))) (WL.k hK12 ?_)
   refine WC.yes rfl ?_
   refine WC.skip (WQ.then (hK11 _ _ _ (WC.seq fun K13 hK13 => WC.block (WC.seq fun K14 hK14 => ?_))))
   obtain ⟨bb, oo, rfl, hrow⟩ := hIn (by omega)
   refine WC.region (WL.z (.slice (some ⟨bb, oo, none⟩) n cap) 17 (WL.z (vI (k : Int)) 18 (WL.y (vP bb (oo + k * 3)) 19 (x_ix (k) (oo + k * 3) Try.underlying42 sz75) (WL.y (.agg #[vI (c k), vI (A k), vI (B k)]) 20 (x_loadS (cs := [vI (c k), vI (A k), vI (B k)]) rfl rfl Try.underlying75 rfl sz75 (HP.oldRange hH10 trivial (hrow k (by omega)))) (WL.z (.bool pl) 21 ?_)))))
   refine WL.c 78 #[.agg #[vI (c k), vI (A k), vI (B k)], .bool pl] 22 ?_
   refine (rValid_any _ _ _ _ _).mono ?_
   rintro e w15 ⟨rfl, hb16⟩
   refine ⟨_, rfl, ?_⟩
   have hH17 := HP.call hH10 hb16
   refine WL.z (.bool (!(vld (c k) (A k) (B k) pl))) 23 (WL.k hK14 (WC.sb [(0, .slice (some ⟨bb, oo, none⟩) n cap), (1, .bool pl), (5, vI (k : Int)), (14, .bool true), (23, .bool (!(vld (c k) (A k) (B k) pl)))] ?_))
   rcases Bool.eq_false_or_eq_true (vld (c k) (A k) (B k) pl) with hA | hA
   ·
    refine WC.no (congrArg (fun b => some (Value.bool (!b))) hA) ?_
    refine WC.skip (WQ.inNormal (WQ.then (hK13 _ _ _ (WC.region (WL.z (vI (k : Int)) 15 (WL.y (vI ((k + 1 : Nat) : Int)) 16 (x_ad (((k + 1 : Nat) : Int))) (WL.z (vI ((k + 1 : Nat) : Int)) 5 (WL.nil (WQ.sb [(0, .slice (some ⟨bb, oo, none⟩) n cap), (1, .bool pl), (5, vI ((k + 1 : Nat) : Int))] ?_)))))))))
    refine WQ.then (hK8 _ _ _ (by omega) ⟨k + 1, rfl, rfl, by omega, fun i hi => (Nat.lt_succ_iff_lt_or_eq.1 hi).elim (hv i) (fun e => e ▸ hA), hH17⟩)
   ·
    refine WC.yes (congrArg (fun b => some (Value.bool (!b))) hA) ?_
    refine WC.seq fun K18 hK18 => WC.region (WL.z (vI 1) 4 (WL.k hK18 (WC.ret ?_)))
    refine WQ.inRet ?_
    refine WQ.thenRet ?_
    refine WQ.thenRet ?_
    refine WQ.inRet ?_
    refine WQ.thenRet ?_
    refine WQ.ret1 4 rfl rfl ?_
    exact ⟨by rw [show chk c A B pl n = 1 from chk_1 hl (by omega) hA], HP.below hH17⟩
  ·
   refine WL.y (.bool false) 14 (x_lss rfl rfl rfl (dF (hlt))) (WL.k hK12 ?_)
   refine WC.no rfl ?_
   refine WC.exit (WQ.thenExit (WQ.thenExit (WQ.inExit (WQ.then (hK6 _ _ _ (WC.seq fun K19 hK19 => WC.region (WL.z (.slice p n cap) 25 ?_)))))))
   refine WL.c 79 #[.slice p n cap, vI 0] 26 ?_
   refine (parts_any p n cap c A B hn 0 (by omega) _ (hIn.below (HP.below hH10))).mono ?_
   rintro e w20 ⟨nx, d, rfl, hPR, hb21⟩
   refine ⟨_, rfl, ?_⟩
   have hH22 := HP.call hH10 hb21
   have hV : ∀ i, i < n → vld (c i) (A i) (B i) pl = true := fun i hi => hv i (by omega)
   refine WL.z (.tuple #[vI (nx : Int), vI d]) 24 (WL.z (vI (nx : Int)) 27 (WL.z (vI d) 28 (WL.z (vI (nx : Int)) 6 (WL.z (vI d) 7 (WL.k hK19 (WC.sb [(0, .slice p n cap), (1, .bool pl), (5, vI (k : Int)), (6, vI (nx : Int)), (7, vI d), (14, .bool false)] (WC.seq fun K23 hK23 => WC.seq fun K24 hK24 => WC.region ?_)))))))
   refine WL.z (vI d) 29 ?_
   by_cases hd : d < 0
   ·
    refine WL.y (.bool true) 30 (x_lss rfl rfl rfl (dT (hd))) (WL.z (.bool true) 31 (WL.p 32 (WL.p 33 (WL.p 34 (WL.p 35 (WL.z (.bool true) 36 (WL.z (.bool true) 37 (WL.p 38 (WL.p 39 (WL.z (.bool true) 40 (WL.nil ?_)))))))))))
    refine WQ.then (hK24 _ _ _ (WC.sb [(0, .slice p n cap), (1, .bool pl), (5, vI (k : Int)), (6, vI (nx : Int)), (7, vI d), (14, .bool false), (40, .bool true)] ?_))
    refine WC.yes rfl ?_
    refine WC.seq fun K25 hK25 => WC.region (WL.z (vI 7) 4 (WL.k hK25 (WC.ret ?_)))
    refine WQ.thenRet ?_
    refine WQ.ret1 4 rfl rfl ?_
    exact ⟨by rw [show chk c A B pl n = 7 from chk_7 hl hV (PR_fail1 hPR hd)], HP.below hH22⟩
   ·
    refine WL.y (.bool false) 30 (x_lss rfl rfl rfl (dF (hd))) (WL.z (.bool false) 31 (WL.z (vI (nx : Int)) 32 (WL.z (.slice p n cap) 33 (WL.z (vI (n : Int)) 34 ?_))))
    by_cases hnx : (nx : Int) < (n : Int)
    ·
     refine WL.y (.bool true) 35 (x_lss rfl rfl rfl (dT (hnx))) (WL.z (.bool true) 36 (WL.z (.bool true) 37 (WL.p 38 (WL.p 39 (WL.z (.bool true) 40 (WL.k hK24 (WC.sb [(0, .slice p n cap), (1, .bool pl), (5, vI (k : Int)), (6, vI (nx : Int)), (7, vI d), (14, .bool false), (40, .bool true)] ?_)))))))
     refine WC.yes rfl ?_
     refine WC.seq fun K26 hK26 => WC.region (WL.z (vI 7) 4 (WL.k hK26 (WC.ret ?_)))
     refine WQ.thenRet ?_
     refine WQ.ret1 4 rfl rfl ?_
     exact ⟨by rw [show chk c A B pl n = 7 from chk_7 hl hV (PR_fail2 hPR hd hnx)], HP.below hH22⟩
    ·
     refine WL.y (.bool false) 35 (x_lss rfl rfl rfl (dF (hnx))) (WL.z (.bool false) 36 (WL.z (.bool false) 37 (WL.z (vI d) 38 ?_)))
     by_cases hm : (6 : Int) < d
     ·
      refine WL.y (.bool true) 39 (x_gtr rfl rfl rfl (dT (hm))) (WL.z (.bool true) 40 (WL.k hK24 (WC.sb [(0, .slice p n cap), (1, .bool pl), (5, vI (k : Int)), (6, vI (nx : Int)), (7, vI d), (14, .bool false), (40, .bool true)] ?_)))
      refine WC.yes rfl ?_
      refine WC.seq fun K27 hK27 => WC.region (WL.z (vI 7) 4 (WL.k hK27 (WC.ret ?_)))
      refine WQ.thenRet ?_
      refine WQ.ret1 4 rfl rfl ?_
      exact ⟨by rw [show chk c A B pl n = 7 from chk_7 hl hV (PR_deep hPR hd hnx hm)], HP.below hH22⟩
     ·
      refine WL.y (.bool false) 39 (x_gtr rfl rfl rfl (dF (hm))) (WL.z (.bool false) 40 (WL.k hK24 (WC.sb [(0, .slice p n cap), (1, .bool pl), (5, vI (k : Int)), (6, vI (nx : Int)), (7, vI d), (14, .bool false), (40, .bool false)] ?_)))
      refine WC.no rfl ?_
      refine WC.skip (WQ.then (hK23 _ _ _ (WC.seq fun K28 hK28 => WC.region (WL.z (vI 0) 4 (WL.k hK28 (WC.ret ?_))))))
      refine WQ.ret1 4 rfl rfl ?_
      exact ⟨by rw [show chk c A B pl n = 0 from chk_0 hl hV (PR_good hPR hd hnx hm)], HP.below hH22⟩
theorem rMatch_any (p : Option Addr) (n cap : Nat) (c A B : Nat → Int) (at' : Int) (w : World) (hIn : InC w p n c A B) (hn : n ≤ 400) (h1 : -9223372036854775808 ≤ at') (h2 : at' ≤ 9223372036854775807) :
  Calls Try.prog 56 #[.slice p n cap, vI at'] w fun e w' => e = .returned (mtc c A B n at') ∧ Below w.heap.size w w' := by
 refine calls_of Try.func56 rfl (m := 40) rfl [(0, .slice p n cap), (1, vI at')] (Fr_enter [.slice p n cap, vI at'] 40 (Nat.le_of_ble_eq_true rfl)) ?_
 have hH1 : HP Tr w w [] := HP.refl w
 refine WC.seq fun K2 hK2 => WC.region (WL.z (vI 0) 4 (WL.z (vI 0) 5 (WL.z (vI 0) 6 (WL.k hK2 (WC.seq fun K3 hK3 => WC.region (WL.z (.slice p n cap) 11 ?_))))))
 refine WL.c 54 #[.slice p n cap, .bool false] 12 ?_
 refine (rCheck_any _ _ _ c A B false _ (hIn.below (HP.below hH1)) hn).mono ?_
 rintro e w4 ⟨rfl, hb5⟩
 refine ⟨_, rfl, ?_⟩
 have hH6 := HP.call hH1 hb5
 refine WL.z (vI (chk c A B false n)) 7 (WL.k hK3 (WC.seq fun K7 hK7 => WC.seq fun K8 hK8 => WC.region (WL.z (vI (chk c A B false n)) 13 ?_)))
 by_cases hc : chk c A B false n ≠ 0
 ·
  refine WL.y (.bool true) 14 (x_neq rfl rfl rfl (dT (hc))) (WL.k hK8 ?_)
  refine WC.yes rfl ?_
  refine WC.seq fun K9 hK9 => WC.region (WL.z (vI (chk c A B false n)) 15 (WL.z (vI 0) 4 (WL.z (vI 0) 5 (WL.z (vI (chk c A B false n)) 6 (WL.k hK9 (WC.sb [(0, .slice p n cap), (1, vI at'), (4, vI 0), (5, vI 0), (6, vI (chk c A B false n)), (7, vI (chk c A B false n)), (14, .bool true)] (WC.ret ?_)))))))
  refine WQ.thenRet ?_
  refine WQ.ret3 4 5 6 rfl rfl rfl rfl ?_
  exact ⟨by rw [mtc_bad hc (idE_bad hc)], HP.below hH6⟩
 ·
  refine WL.y (.bool false) 14 (x_neq rfl rfl rfl (dF (hc))) (WL.k hK8 ?_)
  refine WC.no rfl ?_
  refine WC.skip (WQ.then (hK7 _ _ _ (WC.seq fun K10 hK10 => WC.seq fun K11 hK11 => WC.region (WL.z (vI at') 16 ?_))))
  by_cases hlo : at' < 0
  ·
   refine WL.y (.bool true) 17 (x_lss rfl rfl rfl (dT (hlo))) (WL.z (.bool true) 18 (WL.p 19 (WL.p 20 (WL.p 21 (WL.p 22 (WL.z (.bool true) 23 (WL.k hK11 (WC.sb [(0, .slice p n cap), (1, vI at'), (4, vI 0), (5, vI 0), (6, vI 0), (7, vI (chk c A B false n)), (14, .bool false), (23, .bool true)] ?_))))))))
   refine WC.yes rfl ?_
   refine WC.seq fun K12 hK12 => WC.region (WL.z (vI 0) 4 (WL.z (vI 0) 5 (WL.z (vI 1) 6 (WL.k hK12 (WC.ret ?_)))))
   refine WQ.thenRet ?_
   refine WQ.ret3 4 5 6 rfl rfl rfl rfl ?_
   exact ⟨by rw [mtc_bad (er := 1) (by decide) (idE_out (by omega) (by omega))], HP.below hH6⟩
  ·
   refine WL.y (.bool false) 17 (x_lss rfl rfl rfl (dF (hlo))) (WL.z (.bool false) 18 (WL.z (vI at') 19 (WL.z (.slice p n cap) 20 (WL.z (vI (n : Int)) 21 ?_))))
   by_cases hhi : (n : Int) ≤ at'
   ·
    refine WL.y (.bool true) 22 (x_geq rfl rfl rfl (dT (hhi))) (WL.z (.bool true) 23 (WL.k hK11 (WC.sb [(0, .slice p n cap), (1, vI at'), (4, vI 0), (5, vI 0), (6, vI 0), (7, vI (chk c A B false n)), (14, .bool false), (23, .bool true)] ?_)))
    refine WC.yes rfl ?_
    refine WC.seq fun K13 hK13 => WC.region (WL.z (vI 0) 4 (WL.z (vI 0) 5 (WL.z (vI 1) 6 (WL.k hK13 (WC.ret ?_)))))
    refine WQ.thenRet ?_
    refine WQ.ret3 4 5 6 rfl rfl rfl rfl ?_
    exact ⟨by rw [mtc_bad (er := 1) (by decide) (idE_out (by omega) (by omega))], HP.below hH6⟩
   ·
    refine WL.y (.bool false) 22 (x_geq rfl rfl rfl (dF (hhi))) (WL.z (.bool false) 23 (WL.k hK11 (WC.sb [(0, .slice p n cap), (1, vI at'), (4, vI 0), (5, vI 0), (6, vI 0), (7, vI (chk c A B false n)), (14, .bool false), (23, .bool false)] ?_)))
    refine WC.no rfl ?_
    refine WC.skip (WQ.then (hK10 _ _ _ (WC.seq fun K14 hK14 => WC.seq fun K15 hK15 => ?_)))
    obtain ⟨k, rfl⟩ : ∃ k : Nat, at' = (k : Int) := ⟨at'.toNat, by omega⟩
    obtain ⟨bb, oo, rfl, hrow⟩ := hIn (by omega)
    have hE : idE c A B n (k : Int) = 0 := idE_in (by omega) (by omega)
    have hB := chk_bal (show chk c A B false n = 0 by omega)
    refine WC.region (WL.z (.slice (some ⟨bb, oo, none⟩) n cap) 24 (WL.z (vI (k : Int)) 25 (WL.y (vP bb (oo + k * 3)) 26 (x_ix (k) (oo + k * 3) Try.underlying42 sz75) (WL.z (vP bb (oo + k * 3)) 27 (WL.y (vI (c k)) 28 (x_load rfl rfl Try.underlying3 rfl ((HP.oldRange hH6 trivial (hrow k (by omega))) 0 _ rfl)) ?_)))))
    refine WL.c 77 #[vI (c k)] 29 ?_
    refine (rOpens_any _ _).mono ?_
    rintro e w16 ⟨rfl, rfl⟩
    refine ⟨_, rfl, ?_⟩
    refine WL.z (.bool (!(opn (c k)))) 30 (WL.k hK15 (WC.sb [(0, .slice (some ⟨bb, oo, none⟩) n cap), (1, vI (k : Int)), (4, vI 0), (5, vI 0), (6, vI 0), (7, vI (chk c A B false n)), (14, .bool false), (23, .bool false), (30, .bool (!(opn (c k))))] ?_))
    rcases Bool.eq_false_or_eq_true (opn (c k)) with hO | hO
    ·
     refine WC.no (congrArg (fun b => some (Value.bool (!b))) hO) ?_
     refine WC.skip (WQ.then (hK14 _ _ _ (WC.seq fun K17 hK17 => WC.region (WL.z (.slice (some ⟨bb, oo, none⟩) n cap) 32 (WL.z (vI (k : Int)) 33 ?_)))))
     refine WL.c 80 #[.slice (some ⟨bb, oo, none⟩) n cap, vI (k : Int)] 34 ?_
     refine (bracket_any (some ⟨bb, oo, none⟩) n cap c A B hn k (by omega) hO _ (hIn.below (HP.below hH6))).mono ?_
     rintro e w18 ⟨a1, e1, x1, rfl, hBR, hb19⟩
     refine ⟨_, rfl, ?_⟩
     have hH20 := HP.call hH6 hb19
     obtain ⟨ha1, he1, hen⟩ := bra_final hB (show k < n by omega) hBR
     refine WL.z (.tuple #[vI a1, vI (e1 : Int), vI x1]) 31 (WL.z (vI a1) 35 (WL.z (vI (e1 : Int)) 36 (WL.z (vI x1) 37 (WL.z (vI a1) 8 (WL.z (vI (e1 : Int)) 9 (WL.z (vI x1) 10 (WL.k hK17 (WC.sb [(0, .slice (some ⟨bb, oo, none⟩) n cap), (1, vI (k : Int)), (4, vI 0), (5, vI 0), (6, vI 0), (7, vI (chk c A B false n)), (8, vI a1), (9, vI (e1 : Int)), (14, .bool false), (23, .bool false), (30, .bool (!(opn (c k))))] (WC.seq fun K21 hK21 => ?_)))))))))
     refine WC.region (WL.z (vI a1) 38 (WL.z (vI (e1 : Int)) 39 (WL.z (vI a1) 4 (WL.z (vI (e1 : Int)) 5 (WL.z (vI 0) 6 (WL.k hK21 (WC.ret ?_)))))))
     refine WQ.ret3 4 5 6 rfl rfl rfl rfl ?_
     exact ⟨by rw [mtc_ok hE hO hB.hs, ha1, he1], HP.below hH20⟩
    ·
     refine WC.yes (congrArg (fun b => some (Value.bool (!b))) hO) ?_
     refine WC.seq fun K22 hK22 => WC.region (WL.z (vI 0) 4 (WL.z (vI 0) 5 (WL.z (vI 3) 6 (WL.k hK22 (WC.ret ?_)))))
     refine WQ.thenRet ?_
     refine WQ.ret3 4 5 6 rfl rfl rfl rfl ?_
     exact ⟨by rw [mtc_none hE hO], HP.below hH6⟩
theorem around_any (p : Option Addr) (n cap : Nat) (c A B : Nat → Int) (k : Nat) (w : World) (hIn : InC w p n c A B) (hn : n ≤ 400) (hk : k < n) (hB : Bal c n (shD c n)) :
  Calls Try.prog 96 #[.slice p n cap, vI (k : Int)] w fun e w' => e = .returned (.int .i64 ((shD c n).o k)) ∧ Below w.heap.size w w' := by
 refine calls_of Try.func96 rfl (m := 32) rfl [(0, .slice p n cap), (1, vI (k : Int))] (Fr_enter [.slice p n cap, vI (k : Int)] 32 (Nat.le_of_ble_eq_true rfl)) ?_
 have hH1 : HP Tr w w [] := HP.refl w
 refine WC.seq fun K2 hK2 => WC.region (WL.z (vI 0) 4 (WL.k hK2 (WC.seq fun K3 hK3 => WC.seq fun K4 hK4 => WC.region (WL.z (vI (k : Int)) 9 (WL.y (vI ((k : Int) - 1)) 10 (x_sub (Z := (k : Int) - 1) rfl rfl rfl (by omega) (by omega) (by omega)) (WL.z (vI ((k : Int) - 1)) 5 ?_))))))
 refine WL.k hK4 (WC.block ?_)
 refine WC.loop (fun kk0 ll0 ww0 => ∃ (i : Int), ll0 = [(0, .slice p n cap), (1, vI (k : Int)), (5, vI i)] ∧ kk0 = (i + 1).toNat ∧ (-1 ≤ i) ∧ (i < k) ∧ (∀ x : Nat, i < x → x < k → opn (c x) = true → (shD c n).d x < k) ∧ HP Tr w ww0 []) (((k : Int) - 1 + 1).toNat) [(0, .slice p n cap), (1, vI (k : Int)), (5, vI ((k : Int) - 1))] ⟨rfl, rfl, rfl, trivial⟩ ⟨(k : Int) - 1, rfl, rfl, by omega, by omega, fun x h1 h2 => by omega, hH1⟩ ?_
 rintro kk l w6 ⟨i, rfl, hkk, hi1, hi2, hv, hH7⟩ K5 hK5
 refine WC.seq fun K8 hK8 => WC.seq fun K9 hK9 => WC.region (WL.z (vI i) 11 ?_)
 by_cases hge : (0 : Int) ≤ i
 ·
  refine WL.y (.bool true) 12 (x_geq rfl rfl rfl (dT (hge))) (WL.k hK9 ?_)
  refine WC.yes rfl ?_
  refine WC.skip (WQ.then (hK8 _ _ _ (WC.seq fun K10 hK10 => WC.block (WC.seq fun K11 hK11 => ?_))))
  obtain ⟨j, rfl⟩ : ∃ j : Nat, i = (j : Int) := ⟨i.toNat, by omega⟩
  obtain ⟨bb, oo, rfl, hrow⟩ := hIn (by omega)
  refine WC.region (WL.z (.slice (some ⟨bb, oo, none⟩) n cap) 15 (WL.z (vI (j : Int)) 16 (WL.y (vP bb (oo + j * 3)) 17 (x_ix (j) (oo + j * 3) Try.underlying42 sz75) (WL.z (vP bb (oo + j * 3)) 18 (WL.y (vI (c j)) 19 (x_load rfl rfl Try.underlying3 rfl ((HP.oldRange hH7 trivial (hrow j (by omega))) 0 _ rfl)) ?_)))))
  refine WL.c 77 #[vI (c j)] 20 ?_
  refine (rOpens_any _ _).mono ?_
  rintro e w12 ⟨rfl, rfl⟩
  refine ⟨_, rfl, ?_⟩
  refine WL.k hK11 (WC.sb [(0, .slice (some ⟨bb, oo, none⟩) n cap), (1, vI (k : Int)), (5, vI (j : Int)), (12, .bool true), (20, .bool (opn (c j)))] ?_)
  rcases Bool.eq_false_or_eq_true (opn (c j)) with hO | hO
  ·
   refine WC.yes (congrArg (fun b => some (Value.bool b)) hO) ?_
   refine WC.seq fun K13 hK13 => WC.region (WL.z (.slice (some ⟨bb, oo, none⟩) n cap) 22 (WL.z (vI (j : Int)) 23 ?_))
   refine WL.c 80 #[.slice (some ⟨bb, oo, none⟩) n cap, vI (j : Int)] 24 ?_
   refine (bracket_any (some ⟨bb, oo, none⟩) n cap c A B hn j (by omega) hO _ (hIn.below (HP.below hH7))).mono ?_
   rintro e w14 ⟨a1, e1, x1, rfl, hBR, hb15⟩
   refine ⟨_, rfl, ?_⟩
   have hH16 := HP.call hH7 hb15
   obtain ⟨ha1, he1, hen⟩ := bra_final hB (show j < n by omega) hBR
   refine WL.z (.tuple #[vI a1, vI (e1 : Int), vI x1]) 21 (WL.z (vI a1) 25 (WL.z (vI (e1 : Int)) 26 (WL.z (vI x1) 27 (WL.z (vI a1) 6 (WL.z (vI (e1 : Int)) 7 (WL.z (vI x1) 8 (WL.k hK13 (WC.sb [(0, .slice (some ⟨bb, oo, none⟩) n cap), (1, vI (k : Int)), (5, vI (j : Int)), (7, vI (e1 : Int)), (12, .bool true), (20, .bool (opn (c j)))] (WC.seq fun K17 hK17 => ?_)))))))))
   refine WC.region (WL.z (vI (e1 : Int)) 28 (WL.z (vI (k : Int)) 29 ?_))
   by_cases hge2 : (k : Int) ≤ (e1 : Int)
   ·
    refine WL.y (.bool true) 30 (x_geq rfl rfl rfl (dT (hge2))) (WL.k hK17 ?_)
    refine WC.yes rfl ?_
    refine WC.seq fun K18 hK18 => WC.region (WL.z (vI (j : Int)) 31 (WL.z (vI (j : Int)) 4 (WL.k hK18 (WC.ret ?_))))
    refine WQ.inRet ?_
    refine WQ.thenRet ?_
    refine WQ.thenRet ?_
    refine WQ.inRet ?_
    refine WQ.thenRet ?_
    refine WQ.ret1 4 rfl rfl ?_
    exact ⟨by rw [opener_some hB hk (show j < k by omega) hO (by omega) (fun x h1 h2 h3 => hv x (by omega) h2 h3)], HP.below hH16⟩
   ·
    refine WL.y (.bool false) 30 (x_geq rfl rfl rfl (dF (hge2))) (WL.k hK17 ?_)
    refine WC.no rfl ?_
    refine WC.skip (WQ.inNormal (WQ.then (hK10 _ _ _ (WC.region (WL.z (vI (j : Int)) 13 (WL.y (vI ((j : Int) - 1)) 14 (x_sub (Z := (j : Int) - 1) rfl rfl rfl (by omega) (by omega) (by omega)) (WL.z (vI ((j : Int) - 1)) 5 (WL.nil (WQ.sb [(0, .slice (some ⟨bb, oo, none⟩) n cap), (1, vI (k : Int)), (5, vI ((j : Int) - 1))] ?_)))))))))
    refine WQ.then (hK5 _ _ _ (by omega) ⟨(j : Int) - 1, rfl, rfl, by omega, by omega, fun x h1 h2 h3 => (Decidable.em (x = j)).elim (fun e => by rw [e]; omega) (fun e => hv x (by omega) h2 h3), hH16⟩)
  ·
   refine WC.no (congrArg (fun b => some (Value.bool b)) hO) ?_
   refine WC.skip (WQ.inNormal (WQ.then (hK10 _ _ _ (WC.region (WL.z (vI (j : Int)) 13 (WL.y (vI ((j : Int) - 1)) 14 (x_sub (Z := (j : Int) - 1) rfl rfl rfl (by omega) (by omega) (by omega)) (WL.z (vI ((j : Int) - 1)) 5 (WL.nil (WQ.sb [(0, .slice (some ⟨bb, oo, none⟩) n cap), (1, vI (k : Int)), (5, vI ((j : Int) - 1))] ?_)))))))))
   refine WQ.then (hK5 _ _ _ (by omega) ⟨(j : Int) - 1, rfl, rfl, by omega, by omega, fun x h1 h2 h3 => (Decidable.em (x = j)).elim (fun e => absurd (e ▸ h3) (by rw [hO]; exact Bool.false_ne_true)) (fun e => hv x (by omega) h2 h3), hH7⟩)
 ·
  refine WL.y (.bool false) 12 (x_geq rfl rfl rfl (dF (hge))) (WL.k hK9 ?_)
  refine WC.no rfl ?_
  refine WC.exit (WQ.thenExit (WQ.thenExit (WQ.inExit (WQ.then (hK3 _ _ _ (WC.seq fun K19 hK19 => WC.region (WL.z (vI (-1)) 4 (WL.k hK19 ?_))))))))
  refine WC.ret ?_
  refine WQ.ret1 4 rfl rfl ?_
  exact ⟨by rw [opener_none hB hk (fun x h1 h2 => hv x (by omega) h1 h2)], HP.below hH7⟩
theorem rOpener_any (p : Option Addr) (n cap : Nat) (c A B : Nat → Int) (at' : Int) (w : World) (hIn : InC w p n c A B) (hn : n ≤ 400) (h1 : -9223372036854775808 ≤ at') (h2 : at' ≤ 9223372036854775807) :
  Calls Try.prog 81 #[.slice p n cap, vI at'] w fun e w' => e = .returned (.tuple #[.int .i64 (opO c A B n at'), .int .i64 (opF c A B n at')]) ∧ Below w.heap.size w w' := by
 refine calls_of Try.func81 rfl (m := 31) rfl [(0, .slice p n cap), (1, vI at')] (Fr_enter [.slice p n cap, vI at'] 31 (Nat.le_of_ble_eq_true rfl)) ?_
 have hH1 : HP Tr w w [] := HP.refl w
 refine WC.seq fun K2 hK2 => WC.region (WL.z (vI 0) 4 (WL.z (vI 0) 5 (WL.k hK2 (WC.seq fun K3 hK3 => WC.region (WL.z (.slice p n cap) 8 ?_)))))
 refine WL.c 54 #[.slice p n cap, .bool false] 9 ?_
 refine (rCheck_any _ _ _ c A B false _ (hIn.below (HP.below hH1)) hn).mono ?_
 rintro e w4 ⟨rfl, hb5⟩
 refine ⟨_, rfl, ?_⟩
 have hH6 := HP.call hH1 hb5
 refine WL.z (vI (chk c A B false n)) 6 (WL.k hK3 (WC.seq fun K7 hK7 => WC.seq fun K8 hK8 => WC.region (WL.z (vI (chk c A B false n)) 10 ?_)))
 by_cases hc0 : chk c A B false n = 0
 ·
  refine WL.y (.bool true) 11 (x_eql rfl rfl rfl (dT (hc0))) (WL.z (.bool true) 12 (WL.z (vI at') 13 ?_))
  by_cases hlo : at' < 0
  ·
   refine WL.y (.bool true) 14 (x_lss rfl rfl rfl (dT (hlo))) (WL.z (.bool true) 15 (WL.p 16 (WL.p 17 (WL.p 18 (WL.p 19 (WL.z (.bool true) 20 (WL.z (.bool true) 21 (WL.k hK8 (WC.sb [(0, .slice p n cap), (1, vI at'), (4, vI 0), (5, vI 0), (6, vI (chk c A B false n)), (21, .bool true)] ?_)))))))))
   refine WC.yes rfl ?_
   refine WC.region (WL.z (vI 1) 6 (WL.k hK7 (WC.seq fun K9 hK9 => WC.seq fun K10 hK10 => WC.region (WL.z (vI 1) 22 (WL.y (.bool true) 23 (x_neq rfl rfl rfl (by decide)) (WL.nil (WQ.then ?_)))))))
   refine hK10 _ _ _ (WC.yes rfl ?_)
   refine WC.seq fun K11 hK11 => WC.region (WL.z (vI 1) 24 (WL.z (vI 0) 4 (WL.z (vI 1) 5 (WL.k hK11 (WC.ret ?_)))))
   refine WQ.thenRet ?_
   refine WQ.ret2 4 5 rfl rfl rfl ?_
   have q : opF c A B n at' = 1 ∧ opO c A B n at' = 0 := op_bad (er := 1) (by decide) (idE_out (by omega) (by omega))
   exact ⟨by rw [q.1, q.2], HP.below hH6⟩
  ·
   refine WL.y (.bool false) 14 (x_lss rfl rfl rfl (dF (hlo))) (WL.z (.bool false) 15 (WL.z (vI at') 16 (WL.z (.slice p n cap) 17 (WL.z (vI (n : Int)) 18 ?_))))
   by_cases hhi : (n : Int) ≤ at'
   ·
    refine WL.y (.bool true) 19 (x_geq rfl rfl rfl (dT (hhi))) (WL.z (.bool true) 20 (WL.z (.bool true) 21 (WL.k hK8 (WC.sb [(0, .slice p n cap), (1, vI at'), (4, vI 0), (5, vI 0), (6, vI (chk c A B false n)), (21, .bool true)] ?_))))
    refine WC.yes rfl ?_
    refine WC.region (WL.z (vI 1) 6 (WL.k hK7 (WC.seq fun K12 hK12 => WC.seq fun K13 hK13 => WC.region (WL.z (vI 1) 22 (WL.y (.bool true) 23 (x_neq rfl rfl rfl (by decide)) (WL.nil (WQ.then ?_)))))))
    refine hK13 _ _ _ (WC.yes rfl ?_)
    refine WC.seq fun K14 hK14 => WC.region (WL.z (vI 1) 24 (WL.z (vI 0) 4 (WL.z (vI 1) 5 (WL.k hK14 (WC.ret ?_)))))
    refine WQ.thenRet ?_
    refine WQ.ret2 4 5 rfl rfl rfl ?_
    have q : opF c A B n at' = 1 ∧ opO c A B n at' = 0 := op_bad (er := 1) (by decide) (idE_out (by omega) (by omega))
    exact ⟨by rw [q.1, q.2], HP.below hH6⟩
   ·
    refine WL.y (.bool false) 19 (x_geq rfl rfl rfl (dF (hhi))) (WL.z (.bool false) 20 (WL.z (.bool false) 21 (WL.k hK8 (WC.sb [(0, .slice p n cap), (1, vI at'), (4, vI 0), (5, vI 0), (6, vI (chk c A B false n)), (21, .bool false)] ?_))))
    refine WC.no rfl ?_
    refine WC.skip (WQ.then (hK7 _ _ _ (WC.seq fun K15 hK15 => WC.seq fun K16 hK16 => WC.region (WL.z (vI (chk c A B false n)) 22 (WL.y (.bool false) 23 (x_neq rfl rfl rfl (dF (fun h => h hc0))) (WL.k hK16 ?_))))))
    refine WC.no rfl ?_
    refine WC.skip (WQ.then (hK15 _ _ _ (WC.seq fun K17 hK17 => ?_)))
    obtain ⟨k, rfl⟩ : ∃ k : Nat, at' = (k : Int) := ⟨at'.toNat, by omega⟩
    obtain ⟨bb, oo, rfl, hrow⟩ := hIn (by omega)
    have hE : idE c A B n (k : Int) = 0 := idE_in (by omega) (by omega)
    have hB := chk_bal (show chk c A B false n = 0 by omega)
    refine WC.region (WL.z (.slice (some ⟨bb, oo, none⟩) n cap) 25 (WL.z (vI (k : Int)) 26 ?_))
    refine WL.c 96 #[.slice (some ⟨bb, oo, none⟩) n cap, vI (k : Int)] 27 ?_
    refine (around_any _ _ _ c A B k _ (hIn.below (HP.below hH6)) hn (by omega) hB).mono ?_
    rintro e w18 ⟨rfl, hb19⟩
    refine ⟨_, rfl, ?_⟩
    have hH20 := HP.call hH6 hb19
    refine WL.z (vI ((shD c n).o k)) 7 (WL.k hK17 (WC.seq fun K21 hK21 => WC.seq fun K22 hK22 => WC.region (WL.z (vI ((shD c n).o k)) 28 ?_)))
    by_cases hneg : (shD c n).o k < 0
    ·
     refine WL.y (.bool true) 29 (x_lss rfl rfl rfl (dT (hneg))) (WL.k hK22 ?_)
     refine WC.yes rfl ?_
     refine WC.seq fun K23 hK23 => WC.region (WL.z (vI 0) 4 (WL.z (vI 3) 5 (WL.k hK23 (WC.sb [(0, .slice (some ⟨bb, oo, none⟩) n cap), (1, vI (k : Int)), (4, vI 0), (5, vI 3), (6, vI (chk c A B false n)), (7, vI ((shD c n).o k)), (21, .bool false), (23, .bool false), (29, .bool true)] (WC.ret ?_)))))
     refine WQ.thenRet ?_
     refine WQ.ret2 4 5 rfl rfl rfl ?_
     have q : opF c A B n (k : Int) = 3 ∧ opO c A B n (k : Int) = 0 := op_none hE hneg
     exact ⟨by rw [q.1, q.2], HP.below hH20⟩
    ·
     refine WL.y (.bool false) 29 (x_lss rfl rfl rfl (dF (hneg))) (WL.k hK22 ?_)
     refine WC.no rfl ?_
     refine WC.skip (WQ.then (hK21 _ _ _ (WC.seq fun K24 hK24 => WC.region (WL.z (vI ((shD c n).o k)) 30 (WL.z (vI ((shD c n).o k)) 4 (WL.z (vI 0) 5 (WL.k hK24 (WC.sb [(0, .slice (some ⟨bb, oo, none⟩) n cap), (1, vI (k : Int)), (4, vI ((shD c n).o k)), (5, vI 0), (6, vI (chk c A B false n)), (7, vI ((shD c n).o k)), (21, .bool false), (23, .bool false), (29, .bool false)] ?_))))))))
     refine WC.ret ?_
     refine WQ.ret2 4 5 rfl rfl rfl ?_
     have q : opF c A B n (k : Int) = 0 ∧ opO c A B n (k : Int) = (shD c n).o k := op_ok hE hneg
     exact ⟨by rw [q.1, q.2], HP.below hH20⟩
 ·
  have hc := hc0
  refine WL.y (.bool false) 11 (x_eql rfl rfl rfl (dF (hc0))) (WL.z (.bool false) 12 (WL.p 13 (WL.p 14 (WL.p 15 (WL.p 16 (WL.p 17 (WL.p 18 (WL.p 19 (WL.p 20 (WL.z (.bool false) 21 (WL.nil ?_)))))))))))
  refine WQ.then (hK8 _ _ _ (WC.sb [(0, .slice p n cap), (1, vI at'), (4, vI 0), (5, vI 0), (6, vI (chk c A B false n)), (21, .bool false)] ?_))
  refine WC.no rfl ?_
  refine WC.skip (WQ.then (hK7 _ _ _ (WC.seq fun K25 hK25 => WC.seq fun K26 hK26 => WC.region (WL.z (vI (chk c A B false n)) 22 (WL.y (.bool true) 23 (x_neq rfl rfl rfl (dT (hc0))) (WL.k hK26 ?_))))))
  refine WC.yes rfl ?_
  refine WC.seq fun K27 hK27 => WC.region (WL.z (vI (chk c A B false n)) 24 (WL.z (vI 0) 4 (WL.z (vI (chk c A B false n)) 5 (WL.k hK27 (WC.ret ?_)))))
  refine WQ.thenRet ?_
  refine WQ.ret2 4 5 rfl rfl rfl ?_
  have q : opF c A B n at' = chk c A B false n ∧ opO c A B n at' = 0 := op_bad hc (idE_bad hc)
  exact ⟨by rw [q.1, q.2], HP.below hH6⟩
end Ec
end Go.Proofs.Ytmjnakhpekbenaa
namespace Go.Proofs.Ytmjnakhpekbenaa
open Go.RowKit Go.ChangeShapes Go.WideShapes Fw
namespace Ec
theorem cells3 : Try.prog.cellsOf 75 = 3 := by kernel_rfl
theorem cells1i : Try.prog.cellsOf 3 = 1 := by kernel_rfl
set_option maxRecDepth 100000 in
theorem elem3 {H : Type} {enc : TypeId × Value → H} {W : World} {base : Nat} {sp : Nat → Bool} {hd : Bool} {n : Nat} {cs : List Value} {y : DataW H × List MemPlace} (h : DataW.trod enc Try.prog W base sp hd n 75 cs = some y) :
    ∃ o : In, cs = [.int .i64 o.op, .int .i64 o.a, .int .i64 o.b] := by
  obtain ⟨xs, k, hk, hx, hl, hxl, hf⟩ := DataW.trod_struct Try.underlying75 h
  rw [cells3] at hl
  simp at hxl
  match xs, hxl, cs, hl with
  | [y0, y1, y2], _, [v0, v1, v2], _ =>
    have g0 := hf 0 _ rfl
    have g1 := hf 1 _ rfl
    have g2 := hf 2 _ rfl
    simp [cells1i] at g0 g1 g2
    obtain ⟨z0, h0, -⟩ := DataW.trod_int Try.underlying3 g0
    obtain ⟨z1, h1, -⟩ := DataW.trod_int Try.underlying3 g1
    obtain ⟨z2, h2, -⟩ := DataW.trod_int Try.underlying3 g2
    simp only [List.cons.injEq, and_true] at h0 h1 h2
    exact ⟨⟨z0, z1, z2⟩, by rw [h0, h1, h2]⟩
structure RowIn (W : World) (p : Option Addr) (n cap : Nat) (c A B : Nat → Int) : Prop where
  inC : InC W p n c A B
  nil : p = none → n = 0 ∧ cap = 0
  hn : n ≤ cap
  hc : cap ≤ maxLen
theorem choose3 {m : Nat} {Q : Nat → In → Prop} (h : ∀ i, i < m → ∃ o, Q i o) : ∃ f : Nat → In, ∀ i, i < m → Q i (f i) := by
  refine ⟨fun i => if hi : i < m then (h i hi).choose else ⟨0, 0, 0⟩, fun i hi => ?_⟩
  simp only [hi, dif_pos]
  exact (h i hi).choose_spec
theorem rows3 {H : Type} {enc : TypeId × Value → H} {W : World} {p : Option Addr} {n cap : Nat} {d : DataW H} {pl : List MemPlace}
    (h : DataW.Trod enc Try.prog W 0 (fun _ => true) true 42 (.slice p n cap) d pl) (lt : ∀ x ∈ pl, x.block < W.heap.size) : ∃ c A B, RowIn W p n cap c A B := by
  obtain ⟨fuel, hf⟩ := h
  rcases Go.Deep.open_slice Try.underlying42 hf with ⟨hc, -⟩ | ⟨a, len, cap', m, k, D, Pl, hc, -, hl, hm, hmm, hx, hall⟩
  · simp [Value.cells] at hc
    obtain ⟨rfl, rfl, rfl⟩ := hc
    exact ⟨fun _ => 0, fun _ => 0, fun _ => 0, fun h => absurd h (by omega), fun _ => ⟨rfl, rfl⟩, Nat.le_refl _, by omega⟩
  · simp [Value.cells] at hc
    obtain ⟨rfl, rfl, rfl⟩ := hc
    simp only [if_true] at hmm
    have add0 : ∀ a : Addr, a.add 0 = a := fun a => by unfold Addr.add; rw [if_pos rfl]
    have each : ∀ i, i < m → ∃ o : In, W.cell? (a.add (i * 3)) = some (.int .i64 o.op) ∧ W.cell? ((a.add (i * 3)).add 1) = some (.int .i64 o.a) ∧ W.cell? ((a.add (i * 3)).add 2) = some (.int .i64 o.b) := by
      intro i hi
      obtain ⟨cs', h1, h2⟩ := hall i hi
      rw [cells3] at h1
      obtain ⟨o, rfl⟩ := elem3 h2
      obtain ⟨_, hlen, hcell⟩ := World.cells?_some h1
      have e0 := hcell 0 (by omega)
      rw [add0] at e0
      exact ⟨o, by simpa using e0, by simpa using hcell 1 (by omega), by simpa using hcell 2 (by omega)⟩
    obtain ⟨f, hf⟩ := choose3 each
    refine ⟨fun i => (f i).op, fun i => (f i).a, fun i => (f i).b, fun h0 => ?_, fun q => (by cases q), hl, hm⟩
    obtain ⟨g0, g1, g2⟩ := hf 0 (by omega)
    rw [Nat.zero_mul, add0] at g0
    have hsp : a.spot = none := by
      unfold World.cell? at g0
      cases hsp : a.spot with
      | none => rfl
      | some q => rw [hsp] at g0; simp at g0; split at g0 <;> simp at g0
    obtain ⟨bb, oo, sp⟩ := a
    simp only at hsp
    subst hsp
    have hadd : ∀ k, (⟨bb, oo, none⟩ : Addr).add k = ⟨bb, oo + k, none⟩ := fun k => by unfold Addr.add; split <;> simp_all
    have hadd2 : ∀ o k, (⟨bb, o, none⟩ : Addr).add k = ⟨bb, o + k, none⟩ := fun o k => by unfold Addr.add; split <;> simp_all
    refine ⟨bb, oo, rfl, fun i hi j v hv => ?_⟩
    obtain ⟨e0, e1, e2⟩ := hf i (by omega)
    simp only [hadd, hadd2] at e0 e1 e2
    match j, hv with
    | 0, hv => simp at hv; subst hv; exact e0
    | 1, hv => simp at hv; subst hv; exact e1
    | 2, hv => simp at hv; subst hv; exact e2
    | j + 3, hv => simp at hv
def maF (c A B : Nat → Int) (n : Nat) (at' : Int) : Int := if idE c A B n at' ≠ 0 then idE c A B n at' else if opn (c at'.toNat) = false then 3 else 0
def maA (c A B : Nat → Int) (n : Nat) (at' : Int) : Int := if maF c A B n at' = 0 then (shD c n).e at'.toNat else 0
def maE (c A B : Nat → Int) (n : Nat) (at' : Int) : Int := if maF c A B n at' = 0 then (shD c n).d at'.toNat else 0
theorem mtc_eq (c A B : Nat → Int) (n : Nat) (at' : Int) : mtc c A B n at' = .tuple #[vI (maA c A B n at'), vI (maE c A B n at'), vI (maF c A B n at')] := by
  unfold mtc maA maE maF
  by_cases h1 : idE c A B n at' ≠ 0
  · simp [h1]
  · by_cases h2 : opn (c at'.toNat) = false
    · simp at h1; simp [h1, h2]
    · simp at h1 h2; simp [h1, h2]
abbrev MaV (c A B : Nat → Int) (n : Nat) (at' : Int) : Value := .tuple #[vI (maA c A B n at'), vI (maE c A B n at'), vI (maF c A B n at')]
theorem Match2_any (p : Option Addr) (n cap : Nat) (c A B : Nat → Int) (at' : Int) (w : World) (hIn : InC w p n c A B) (hn : n ≤ 400) (h1 : -9223372036854775808 ≤ at') (h2 : at' ≤ 9223372036854775807) :
    Calls Try.prog 75 #[.slice p n cap, vI at'] w fun e w' => e = .returned (MaV c A B n at') ∧ Below w.heap.size w w' := by
  have q := Match_any p n cap c A B at' w hIn hn h1 h2
  rw [mtc_eq] at q; exact q
theorem rMatch2_any (p : Option Addr) (n cap : Nat) (c A B : Nat → Int) (at' : Int) (w : World) (hIn : InC w p n c A B) (hn : n ≤ 400) (h1 : -9223372036854775808 ≤ at') (h2 : at' ≤ 9223372036854775807) :
    Calls Try.prog 56 #[.slice p n cap, vI at'] w fun e w' => e = .returned (MaV c A B n at') ∧ Below w.heap.size w w' := by
  have q := rMatch_any p n cap c A B at' w hIn hn h1 h2
  rw [mtc_eq] at q; exact q
end Ec
end Go.Proofs.Ytmjnakhpekbenaa
namespace Go.Proofs.Ytmjnakhpekbenaa
open Go.RowKit Fw
namespace Ec
theorem hadd (bb o k : Nat) : (⟨bb, o, none⟩ : Addr).add k = ⟨bb, o + k, none⟩ := by unfold Addr.add; split <;> simp_all
theorem infoR : (Try.prog.info? 75).map (fun i => (i.zero, i.size, i.bytes)) = some (some (.agg #[.int .i64 0, .int .i64 0, .int .i64 0]), 3, 24) := by kernel_rfl
theorem infoR' : ∃ i, Try.prog.info? 75 = some i ∧ i.zero = some (.agg #[.int .i64 0, .int .i64 0, .int .i64 0]) ∧ i.size = 3 ∧ i.bytes = 24 := by
  obtain ⟨i, hi, h⟩ := Option.map_eq_some_iff.1 infoR
  simp only [Prod.mk.injEq] at h
  exact ⟨i, hi, h.1, h.2.1, h.2.2⟩
end Ec
end Go.Proofs.Ytmjnakhpekbenaa
namespace Go.Proofs.Ytmjnakhpekbenaa
open Go.RowKit Fw
namespace Ca
structure SlI where
  q : Option Addr
  xs : List Int
  c : Nat
abbrev slV (r : SlI) : Value := .slice r.q r.xs.length r.c
structure InR (w : World) (r : SlI) : Prop where
  row : InI w r.q r.xs
  hc : r.xs.length ≤ r.c
  hm : r.c ≤ maxLen
  hw : ∀ x ∈ r.xs, Wi x
structure InS2 (w : World) (p : Option Addr) (S : List SlI) : Prop where
  row : 0 < S.length → ∃ g o, p = some ⟨g, o, none⟩ ∧ ∀ i, i < S.length → w.rangeAt g (o + i) [slV (S.getD i ⟨none, [], 0⟩)]
  inn : ∀ r ∈ S, InR w r
theorem InR.below {w w' : World} {r : SlI} (h : InR w r) (hb : Below w.heap.size w w') : InR w' r := ⟨h.row.below hb, h.hc, h.hm, h.hw⟩
theorem InS2.below {w w' : World} {p : Option Addr} {S : List SlI} (h : InS2 w p S) (hb : Below w.heap.size w w') : InS2 w' p S :=
  ⟨fun h0 => by
    obtain ⟨g, o, hp, hr⟩ := h.row h0
    exact ⟨g, o, hp, fun i hi => HP.oldRange (HP.of_below (S := Tr) hb) trivial (hr i hi)⟩, fun r hr => (h.inn r hr).below hb⟩
def okX (s k : Int) (xs : List Int) (i : Nat) : Bool := wn (xs.getD i 0) 0 999 && (decide ((xs.getD i 0).tmod s = k) && !((xs.take i).contains (xs.getD i 0)))
def okR (s y k : Int) (xs : List Int) : Bool := decide ((xs.length : Int) ≤ y) && (List.range xs.length).all (okX s k xs)
def okSt (s y l m : Int) (X : List (List Int)) : Bool := vG s y l m && (decide ((X.length : Int) = s) && (List.range X.length).all fun k => okR s y (k : Int) (X.getD k []))
theorem okR_iff {s y k : Int} {xs : List Int} : okR s y k xs = true ↔ (xs.length : Int) ≤ y ∧ ∀ i, i < xs.length → okX s k xs i = true := by simp [okR]
theorem okSt_iff {s y l m : Int} {X : List (List Int)} : okSt s y l m X = true ↔ vG s y l m = true ∧ (X.length : Int) = s ∧ ∀ k, k < X.length → okR s y (k : Int) (X.getD k []) = true := by simp [okSt]
theorem okSt_bad {s y l m : Int} {X : List (List Int)} {k : Nat} (hk : k < X.length) (h : okR s y (k : Int) (X.getD k []) = false) : okSt s y l m X = false := by
  cases q : okSt s y l m X with
  | false => rfl
  | true => have := (okSt_iff.1 q).2.2 k hk; rw [h] at this; cases this
theorem okR_bad {s y k : Int} {xs : List Int} {i : Nat} (hi : i < xs.length) (h : okX s k xs i = false) : okR s y k xs = false := by
  cases q : okR s y k xs with
  | false => rfl
  | true => have := (okR_iff.1 q).2 i hi; rw [h] at this; cases this
theorem okR_long {s y k : Int} {xs : List Int} (h : ¬ (xs.length : Int) ≤ y) : okR s y k xs = false := by unfold okR; rw [decide_eq_false h]; rfl
def stX (S : List SlI) : List (List Int) := S.map (·.xs)
theorem stX_at {S : List SlI} {k : Nat} {r : SlI} (h : S[k]? = some r) : (stX S).getD k [] = r.xs ∧ S.getD k ⟨none, [], 0⟩ = r ∧ k < S.length ∧ r ∈ S := by
  have hlt := (List.getElem?_eq_some_iff.1 h).1
  exact ⟨by simp [stX, List.getD_eq_getElem?_getD, h], by simp [List.getD_eq_getElem?_getD, h], hlt, List.mem_of_getElem? h⟩
theorem stX_len (S : List SlI) : (stX S).length = S.length := by simp [stX]
theorem cells_of {w : World} {g o : Nat} {xs : List Int} (h : ∀ i, i < xs.length → w.rangeAt g (o + i) [vI (xs.getD i 0)]) : ∀ j, j < xs.length → w.cell? ⟨g, o + j, none⟩ = some (.int .i64 (xs.getD j 0)) := fun j hj => by
  have := h j hj 0 _ rfl
  simpa using this
end Ca
end Go.Proofs.Ytmjnakhpekbenaa
namespace Go.Proofs.Ytmjnakhpekbenaa
set_option maxRecDepth 20000
set_option maxHeartbeats 4000000
open Go.RowKit Fw
namespace Ca
def plc (x : Int) : List Int → Option Nat
  | [] => none
  | a :: r => if a = x then some 0 else (plc x r).map (· + 1)
def plcV (x : Int) (xs : List Int) : Int := match plc x xs with | some k => (k : Int) | none => -1
theorem sz33 : (Try.prog.info? 33).map (·.size) = some 1 := by kernel_rfl
theorem ValidState_any (s y l m : Int) (p : Option Addr) (S : List SlI) (cp : Nat) (w : World) (hS : InS2 w p S) (hn : S.length ≤ 281474976710656) :
  Calls Try.prog 15 #[.agg #[vI s, vI y, vI l, vI m], .slice p S.length cp] w fun e w' => e = .returned (.bool (okSt s y l m (stX S))) ∧ Below w.heap.size w w' := by
 refine calls_of Try.func15 rfl (m := 58) rfl [(0, .agg #[vI s, vI y, vI l, vI m]), (1, .slice p S.length cp)] (Fr_enter [.agg #[vI s, vI y, vI l, vI m], .slice p S.length cp] 58 (Nat.le_of_ble_eq_true rfl)) ?_
 have hH1 : HP Tr w w [] := HP.refl w
 refine WC.seq fun K2 hK2 => WC.region ?_
 refine WL.alloc (c := #[vI s, vI y, vI l, vI m]) (T := 23) hH1 2 rfl (by decide) rfl rfl (fun b2 => vP b2 0) (by kernel_rfl) (fun b2 w3 hw3 => ?_)
 have hH4 : HP Tr w w3 [.cel b2 #[vI s, vI y, vI l, vI m] 23] := hw3.2
 have nb2 := hw3.1
 clear hw3
 refine WL.z (.bool false) 4 (WL.k hK2 (WC.seq fun K5 hK5 => WC.seq fun K6 hK6 => WC.region (WL.y (.agg #[vI s, vI y, vI l, vI m]) 9 (x_loadS (cs := [vI s, vI y, vI l, vI m]) rfl rfl Try.underlying23 rfl sz23 (HP.range hH4 0 rfl rfl)) ?_)))
 rcases Bool.eq_false_or_eq_true (vG s y l m) with hg | hg
 ·
  refine WL.c 22 #[.agg #[vI s, vI y, vI l, vI m]] 10 ?_
  refine (Valid_any s y l m _).mono ?_
  rw [hg]
  rintro e w7 ⟨rfl, hb9⟩
  refine ⟨_, rfl, ?_⟩
  have hH8 := HP.call hH4 hb9
  obtain ⟨⟨hs1, hs2⟩, ⟨hy1, hy2⟩, -, -⟩ := vG_iff.1 hg
  refine WL.z (.bool false) 11 (WL.z (.bool false) 12 (WL.z (.slice p S.length cp) 13 (WL.z (vI (S.length : Int)) 14 (WL.z (vP b2 0) 15 (WL.y (vI s) 16 (x_load rfl rfl Try.underlying3 rfl (HP.cell hH8 0 rfl rfl)) ?_)))))
  by_cases hsl : (S.length : Int) ≠ s
  ·
   refine WL.y (.bool true) 17 (x_neq rfl rfl rfl (dT (hsl))) (WL.z (.bool true) 18 (WL.k hK6 (WC.sb [(0, .agg #[vI s, vI y, vI l, vI m]), (1, .slice p S.length cp), (2, vP b2 0), (4, .bool false), (18, .bool true)] ?_)))
   refine WC.yes rfl ?_
   refine WC.seq fun K9 hK9 => WC.region (WL.z (.bool false) 4 (WL.k hK9 (WC.ret ?_)))
   refine WQ.thenRet ?_
   refine WQ.ret1 4 rfl rfl ?_
   exact ⟨by unfold okSt; rw [hg, stX_len, decide_eq_false (by omega)]; rfl, HP.below hH8⟩
  ·
   refine WL.y (.bool false) 17 (x_neq rfl rfl rfl (dF (hsl))) (WL.z (.bool false) 18 (WL.k hK6 (WC.sb [(0, .agg #[vI s, vI y, vI l, vI m]), (1, .slice p S.length cp), (2, vP b2 0), (4, .bool false), (18, .bool false)] ?_)))
   refine WC.no rfl ?_
   refine WC.skip (WQ.then (hK5 _ _ _ (WC.seq fun K10 hK10 => WC.seq fun K11 hK11 => WC.region (WL.z (.slice p S.length cp) 19 (WL.z (vI (S.length : Int)) 20 (WL.z (vI 0) 21 (WL.k hK11 ?_)))))))
   refine WC.block ?_
   refine WC.loop (fun kk0 ll0 ww0 => ∃ (k : Nat), ll0 = [(1, .slice p S.length cp), (2, vP b2 0), (19, .slice p S.length cp), (20, vI (S.length : Int)), (21, vI (k : Int))] ∧ kk0 = S.length - k ∧ (k ≤ S.length) ∧ (∀ j, j < k → okR s y (j : Int) ((stX S).getD j []) = true) ∧ HP Tr w ww0 [.cel b2 #[vI s, vI y, vI l, vI m] 23]) (S.length) [(1, .slice p S.length cp), (2, vP b2 0), (19, .slice p S.length cp), (20, vI (S.length : Int)), (21, vI 0)] ⟨rfl, rfl, rfl, rfl, rfl, trivial⟩ ⟨0, rfl, rfl, Nat.zero_le _, fun j hj => by omega, hH8⟩ ?_
   rintro kk l w13 ⟨k, rfl, hkk, hk, hok, hH14⟩ K12 hK12
   refine WC.seq fun K15 hK15 => WC.region ?_
   by_cases hlt : (k : Int) < (S.length : Int)
   ·
    refine WL.y (.bool true) 22 (x_lss rfl rfl rfl (dT (hlt))) (WL.k hK15 (WC.seq fun K16 hK16 => ?_))
    refine WC.yes rfl ?_
    refine WC.skip (WQ.then (hK16 _ _ _ (WC.seq fun K17 hK17 => WC.block (WC.seq fun K18 hK18 => ?_))))
    obtain ⟨r, hr⟩ : ∃ r, S[k]? = some r := ⟨S[k]'(by omega), List.getElem?_eq_getElem _⟩
    obtain ⟨hr1, hr2, hr3, hr4⟩ := stX_at hr
    have hIR := hS.inn r hr4
    obtain ⟨q, xs, c⟩ := r
    have hI : InI w q xs := hIR.row
    have hxc : xs.length ≤ c := hIR.hc
    have hcm : c ≤ maxLen := hIR.hm
    unfold maxLen at hcm
    simp only [] at hr1 hr2
    obtain ⟨gS, oS, hpS, hrowS⟩ := hS.row (by omega)
    subst hpS
    refine WC.region (WL.z (vI (k : Int)) 23 (WL.y (vP gS (oS + k)) 24 (x_ix (k) (oS + k) Try.underlying24 sz33) (WL.y (.slice q xs.length c) 25 (x_load rfl rfl Try.underlying33 rfl ((HP.oldRange hH14 trivial (show w.rangeAt gS (oS + k) [slV ⟨q, xs, c⟩] by have q9 := hrowS k (by omega); rw [hr2] at q9; exact q9)) 0 _ rfl)) (WL.z (vI (k : Int)) 5 (WL.z (.slice q xs.length c) 6 (WL.k hK18 (WC.seq fun K19 hK19 => WC.seq fun K20 hK20 => WC.region ?_)))))))
    refine WL.z (.slice q xs.length c) 26 (WL.z (vI (xs.length : Int)) 27 (WL.z (vP b2 1) 28 (WL.y (vI y) 29 (x_load rfl rfl Try.underlying3 rfl (HP.cell hH14 0 rfl rfl)) ?_)))
    by_cases hlong : y < (xs.length : Int)
    ·
     refine WL.y (.bool true) 30 (x_gtr rfl rfl rfl (dT (hlong))) (WL.k hK20 (WC.sb [(1, .slice (some ⟨gS, oS, none⟩) S.length cp), (2, vP b2 0), (5, vI (k : Int)), (6, .slice q xs.length c), (19, .slice (some ⟨gS, oS, none⟩) S.length cp), (20, vI (S.length : Int)), (21, vI (k : Int)), (22, .bool true), (30, .bool true)] ?_))
     refine WC.yes rfl ?_
     refine WC.seq fun K21 hK21 => ?_
     have hbad : okR s y (k : Int) ((stX S).getD k []) = false := by rw [hr1]; exact okR_long (by omega)
     refine WC.region (WL.z (.bool false) 4 (WL.k hK21 (WC.ret ?_)))
     refine WQ.thenRet ?_
     refine WQ.inRet ?_
     refine WQ.thenRet ?_
     refine WQ.thenRet ?_
     refine WQ.inRet ?_
     refine WQ.thenRet ?_
     refine WQ.ret1 4 rfl rfl ?_
     exact ⟨by rw [okSt_bad (by rw [stX_len]; omega) hbad], HP.below hH14⟩
    ·
     refine WL.y (.bool false) 30 (x_gtr rfl rfl rfl (dF (hlong))) (WL.k hK20 (WC.sb [(1, .slice (some ⟨gS, oS, none⟩) S.length cp), (2, vP b2 0), (5, vI (k : Int)), (6, .slice q xs.length c), (19, .slice (some ⟨gS, oS, none⟩) S.length cp), (20, vI (S.length : Int)), (21, vI (k : Int)), (22, .bool true), (30, .bool false)] ?_))
     refine WC.no rfl ?_
     refine WC.skip (WQ.then (hK19 _ _ _ (WC.seq fun K22 hK22 => WC.region (WL.z (.slice q xs.length c) 31 (WL.z (vI (xs.length : Int)) 32 (WL.z (vI 0) 33 (WL.k hK22 (WC.block ?_))))))))
     refine WC.loop (fun kk0 ll0 ww0 => ∃ (i : Nat), ll0 = [(1, .slice (some ⟨gS, oS, none⟩) S.length cp), (2, vP b2 0), (5, vI (k : Int)), (6, .slice q xs.length c), (19, .slice (some ⟨gS, oS, none⟩) S.length cp), (20, vI (S.length : Int)), (21, vI (k : Int)), (31, .slice q xs.length c), (32, vI (xs.length : Int)), (33, vI (i : Int))] ∧ kk0 = xs.length - i ∧ (i ≤ xs.length) ∧ (∀ j, j < i → okX s (k : Int) xs j = true) ∧ HP Tr w ww0 [.cel b2 #[vI s, vI y, vI l, vI m] 23]) (xs.length) [(1, .slice (some ⟨gS, oS, none⟩) S.length cp), (2, vP b2 0), (5, vI (k : Int)), (6, .slice q xs.length c), (19, .slice (some ⟨gS, oS, none⟩) S.length cp), (20, vI (S.length : Int)), (21, vI (k : Int)), (31, .slice q xs.length c), (32, vI (xs.length : Int)), (33, vI 0)] ⟨rfl, rfl, rfl, rfl, rfl, rfl, rfl, rfl, rfl, rfl, trivial⟩ ⟨0, rfl, rfl, Nat.zero_le _, fun j hj => by omega, hH14⟩ ?_
     rintro kk l w24 ⟨i, rfl, hkk, hi, hokj, hH25⟩ K23 hK23
     refine WC.seq fun K26 hK26 => WC.region ?_
     by_cases hi2 : (i : Int) < (xs.length : Int)
     ·
      refine WL.y (.bool true) 34 (x_lss rfl rfl rfl (dT (hi2))) (WL.k hK26 (WC.seq fun K27 hK27 => ?_))
      refine WC.yes rfl ?_
      refine WC.skip (WQ.then (hK27 _ _ _ (WC.seq fun K28 hK28 => WC.block (WC.seq fun K29 hK29 => ?_))))
      obtain ⟨g, o, rfl, hrow⟩ := hI (by omega)
      refine WC.region (WL.z (vI (i : Int)) 35 (WL.y (vP g (o + i)) 36 (x_ix (i) (o + i) Try.underlying33 sz3) (WL.y (vI (xs.getD i 0)) 37 (x_load rfl rfl Try.underlying3 rfl ((HP.oldRange hH25 trivial (hrow i (by omega))) 0 _ rfl)) (WL.z (vI (i : Int)) 7 (WL.z (vI (xs.getD i 0)) 8 (WL.k hK29 (WC.seq fun K30 hK30 => WC.region (WL.z (vI (xs.getD i 0)) 38 ?_))))))))
      rcases Bool.eq_false_or_eq_true (wn (xs.getD i 0) 0 999) with hA | hA
      ·
       refine WL.c 44 #[vI (xs.getD i 0), vI 0, vI 999] 39 ?_
       refine (within_at hA _).mono ?_
       rintro e w31 ⟨rfl, rfl⟩
       refine ⟨_, rfl, ?_⟩
       refine WL.z (.bool false) 40 (WL.z (.bool false) 41 (WL.z (vI (xs.getD i 0)) 42 (WL.z (vP b2 0) 43 (WL.y (vI s) 44 (x_load rfl rfl Try.underlying3 rfl (HP.cell hH25 0 rfl rfl)) (WL.y (vI ((xs.getD i 0).tmod s)) 45 (x_rem rfl rfl rfl (by omega) rfl) (WL.z (vI (k : Int)) 46 ?_))))))
       by_cases h47 : (xs.getD i 0).tmod s ≠ (k : Int)
       ·
        refine WL.y (.bool true) 47 (x_neq rfl rfl rfl (dT (h47))) (WL.z (.bool true) 48 (WL.z (.bool true) 49 (WL.p 50 (WL.p 51 (WL.p 52 (WL.p 53 (WL.p 54 (WL.z (.bool true) 55 (WL.k hK30 ?_)))))))))
        refine WC.sb [(1, .slice (some ⟨gS, oS, none⟩) S.length cp), (2, vP b2 0), (5, vI (k : Int)), (6, .slice (some ⟨g, o, none⟩) xs.length c), (7, vI (i : Int)), (8, vI (xs.getD i 0)), (19, .slice (some ⟨gS, oS, none⟩) S.length cp), (20, vI (S.length : Int)), (21, vI (k : Int)), (31, .slice (some ⟨g, o, none⟩) xs.length c), (32, vI (xs.length : Int)), (33, vI (i : Int)), (34, .bool true), (55, .bool true)] ?_
        refine WC.yes rfl ?_
        refine WC.seq fun K32 hK32 => ?_
        have hbx : okX s (k : Int) xs i = false := by unfold okX; rw [hA, decide_eq_false h47]; rfl
        have hbad : okR s y (k : Int) ((stX S).getD k []) = false := by rw [hr1]; exact okR_bad (by omega) hbx
        refine WC.region (WL.z (.bool false) 4 (WL.k hK32 (WC.ret ?_)))
        refine WQ.inRet ?_
        refine WQ.thenRet ?_
        refine WQ.thenRet ?_
        refine WQ.inRet ?_
        refine WQ.inRet ?_
        refine WQ.thenRet ?_
        refine WQ.thenRet ?_
        refine WQ.inRet ?_
        refine WQ.thenRet ?_
        refine WQ.ret1 4 rfl rfl ?_
        exact ⟨by rw [okSt_bad (by rw [stX_len]; omega) hbad], HP.below hH25⟩
       ·
        refine WL.y (.bool false) 47 (x_neq rfl rfl rfl (dF (h47))) (WL.z (.bool false) 48 (WL.z (.bool false) 49 (WL.z (.slice (some ⟨g, o, none⟩) xs.length c) 50 (WL.z (vI (i : Int)) 51 (WL.y (.slice (some ⟨g, o, none⟩) i c) 52 (x_sliceH (i) rfl rfl rfl Try.underlying33 (by omega) (by omega) sz3) (WL.z (vI (xs.getD i 0)) 53 ?_))))))
        rcases Bool.eq_false_or_eq_true ((xs.take i).contains (xs.getD i 0)) with hC | hC
        ·
         refine WL.c 45 #[.slice (some ⟨g, o, none⟩) i c, vI (xs.getD i 0)] 54 ?_
         refine (((Try.slices_Contains_int g o i c xs (xs.getD i 0) _ (by omega) (by omega) (cells_of fun j hj => HP.oldRange hH25 trivial (hrow j hj))).mono fun e w' h => (show e = .returned (.bool true) ∧ _ = w' from ⟨by rw [h.1, hC], h.2.symm⟩))).mono ?_
         rintro e w33 ⟨rfl, rfl⟩
         refine ⟨_, rfl, ?_⟩
         refine WL.z (.bool true) 55 (WL.k hK30 (WC.sb [(1, .slice (some ⟨gS, oS, none⟩) S.length cp), (2, vP b2 0), (5, vI (k : Int)), (6, .slice (some ⟨g, o, none⟩) xs.length c), (7, vI (i : Int)), (8, vI (xs.getD i 0)), (19, .slice (some ⟨gS, oS, none⟩) S.length cp), (20, vI (S.length : Int)), (21, vI (k : Int)), (31, .slice (some ⟨g, o, none⟩) xs.length c), (32, vI (xs.length : Int)), (33, vI (i : Int)), (34, .bool true), (55, .bool true)] ?_))
         refine WC.yes rfl ?_
         refine WC.seq fun K34 hK34 => ?_
         have hbx : okX s (k : Int) xs i = false := by unfold okX; rw [hA, decide_eq_true (Classical.not_not.1 h47), hC]; rfl
         have hbad : okR s y (k : Int) ((stX S).getD k []) = false := by rw [hr1]; exact okR_bad (by omega) hbx
         refine WC.region (WL.z (.bool false) 4 (WL.k hK34 (WC.ret ?_)))
         refine WQ.inRet ?_
         refine WQ.thenRet ?_
         refine WQ.thenRet ?_
         refine WQ.inRet ?_
         refine WQ.inRet ?_
         refine WQ.thenRet ?_
         refine WQ.thenRet ?_
         refine WQ.inRet ?_
         refine WQ.thenRet ?_
         refine WQ.ret1 4 rfl rfl ?_
         exact ⟨by rw [okSt_bad (by rw [stX_len]; omega) hbad], HP.below hH25⟩
        ·
         refine WL.c 45 #[.slice (some ⟨g, o, none⟩) i c, vI (xs.getD i 0)] 54 ?_
         refine (((Try.slices_Contains_int g o i c xs (xs.getD i 0) _ (by omega) (by omega) (cells_of fun j hj => HP.oldRange hH25 trivial (hrow j hj))).mono fun e w' h => (show e = .returned (.bool false) ∧ _ = w' from ⟨by rw [h.1, hC], h.2.symm⟩))).mono ?_
         rintro e w35 ⟨rfl, rfl⟩
         refine ⟨_, rfl, ?_⟩
         refine WL.z (.bool false) 55 (WL.k hK30 (WC.sb [(1, .slice (some ⟨gS, oS, none⟩) S.length cp), (2, vP b2 0), (5, vI (k : Int)), (6, .slice (some ⟨g, o, none⟩) xs.length c), (7, vI (i : Int)), (8, vI (xs.getD i 0)), (19, .slice (some ⟨gS, oS, none⟩) S.length cp), (20, vI (S.length : Int)), (21, vI (k : Int)), (31, .slice (some ⟨g, o, none⟩) xs.length c), (32, vI (xs.length : Int)), (33, vI (i : Int)), (34, .bool true), (55, .bool false)] ?_))
         refine WC.no rfl ?_
         refine WC.skip (WQ.inNormal (WQ.then (hK28 _ _ _ ?_)))
         have hokx : okX s (k : Int) xs i = true := by unfold okX; rw [hA, decide_eq_true (Classical.not_not.1 h47), hC]; rfl
         refine WC.region (WL.y (vI ((i + 1 : Nat) : Int)) 56 (x_ad (((i + 1 : Nat) : Int))) (WL.z (vI ((i + 1 : Nat) : Int)) 33 (WL.nil (WQ.sb [(1, .slice (some ⟨gS, oS, none⟩) S.length cp), (2, vP b2 0), (5, vI (k : Int)), (6, .slice (some ⟨g, o, none⟩) xs.length c), (19, .slice (some ⟨gS, oS, none⟩) S.length cp), (20, vI (S.length : Int)), (21, vI (k : Int)), (31, .slice (some ⟨g, o, none⟩) xs.length c), (32, vI (xs.length : Int)), (33, vI ((i + 1 : Nat) : Int))] ?_))))
         refine WQ.then (hK23 _ _ _ (by omega) ⟨i + 1, rfl, rfl, by omega, fun j hj => by
                    by_cases q9 : j = i
                    · subst q9; exact hokx
                    · exact hokj j (by omega), hH25⟩)
      ·
       refine WL.c 44 #[vI (xs.getD i 0), vI 0, vI 999] 39 ?_
       refine (within_at hA _).mono ?_
       rintro e w36 ⟨rfl, rfl⟩
       refine ⟨_, rfl, ?_⟩
       refine WL.z (.bool true) 40 (WL.z (.bool true) 41 (WL.p 42 (WL.p 43 (WL.p 44 (WL.p 45 (WL.p 46 (WL.p 47 (WL.z (.bool true) 48 (WL.z (.bool true) 49 (WL.p 50 (WL.p 51 ?_)))))))))))
       refine WL.p 52 (WL.p 53 (WL.p 54 (WL.z (.bool true) 55 (WL.k hK30 (WC.sb [(1, .slice (some ⟨gS, oS, none⟩) S.length cp), (2, vP b2 0), (5, vI (k : Int)), (6, .slice (some ⟨g, o, none⟩) xs.length c), (7, vI (i : Int)), (8, vI (xs.getD i 0)), (19, .slice (some ⟨gS, oS, none⟩) S.length cp), (20, vI (S.length : Int)), (21, vI (k : Int)), (31, .slice (some ⟨g, o, none⟩) xs.length c), (32, vI (xs.length : Int)), (33, vI (i : Int)), (34, .bool true), (55, .bool true)] ?_)))))
       refine WC.yes rfl ?_
       refine WC.seq fun K37 hK37 => ?_
       have hbx : okX s (k : Int) xs i = false := by unfold okX; rw [hA]; rfl
       have hbad : okR s y (k : Int) ((stX S).getD k []) = false := by rw [hr1]; exact okR_bad (by omega) hbx
       refine WC.region (WL.z (.bool false) 4 (WL.k hK37 (WC.ret ?_)))
       refine WQ.inRet ?_
       refine WQ.thenRet ?_
       refine WQ.thenRet ?_
       refine WQ.inRet ?_
       refine WQ.inRet ?_
       refine WQ.thenRet ?_
       refine WQ.thenRet ?_
       refine WQ.inRet ?_
       refine WQ.thenRet ?_
       refine WQ.ret1 4 rfl rfl ?_
       exact ⟨by rw [okSt_bad (by rw [stX_len]; omega) hbad], HP.below hH25⟩
     ·
      refine WL.y (.bool false) 34 (x_lss rfl rfl rfl (dF (hi2))) (WL.k hK26 (WC.seq fun K38 hK38 => ?_))
      refine WC.no rfl ?_
      refine WC.exit (WQ.thenExit (WQ.thenExit (WQ.inExit (WQ.inNormal (WQ.then (hK17 _ _ _ (WC.region (WL.y (vI ((k + 1 : Nat) : Int)) 57 (x_ad (((k + 1 : Nat) : Int))) (WL.z (vI ((k + 1 : Nat) : Int)) 21 (WL.nil ?_))))))))))
      have hrk : okR s y (k : Int) ((stX S).getD k []) = true := by rw [hr1]; exact okR_iff.2 ⟨by omega, fun j hj => hokj j (by omega)⟩
      refine WQ.sb [(1, .slice (some ⟨gS, oS, none⟩) S.length cp), (2, vP b2 0), (19, .slice (some ⟨gS, oS, none⟩) S.length cp), (20, vI (S.length : Int)), (21, vI ((k + 1 : Nat) : Int))] ?_
      refine WQ.then (hK12 _ _ _ (by omega) ⟨k + 1, rfl, rfl, by omega, fun j hj => by
              by_cases q9 : j = k
              · subst q9; exact hrk
              · exact hok j (by omega), hH25⟩)
   ·
    refine WL.y (.bool false) 22 (x_lss rfl rfl rfl (dF (hlt))) (WL.k hK15 (WC.seq fun K39 hK39 => ?_))
    refine WC.no rfl ?_
    refine WC.exit (WQ.thenExit (WQ.thenExit (WQ.inExit (WQ.then (hK10 _ _ _ (WC.seq fun K40 hK40 => WC.region (WL.z (.bool true) 4 (WL.k hK40 ?_))))))))
    refine WC.ret ?_
    refine WQ.ret1 4 rfl rfl ?_
    exact ⟨by rw [okSt_iff.2 ⟨hg, by rw [stX_len]; omega, fun j hj => hok j (by rw [stX_len] at hj; omega)⟩], HP.below hH14⟩
 ·
  refine WL.c 22 #[.agg #[vI s, vI y, vI l, vI m]] 10 ?_
  refine (Valid_any s y l m _).mono ?_
  rw [hg]
  rintro e w41 ⟨rfl, hb9⟩
  refine ⟨_, rfl, ?_⟩
  have hH42 := HP.call hH4 hb9
  refine WL.z (.bool true) 11 (WL.z (.bool true) 12 (WL.p 13 (WL.p 14 (WL.p 15 (WL.p 16 (WL.p 17 (WL.z (.bool true) 18 (WL.k hK6 (WC.sb [(0, .agg #[vI s, vI y, vI l, vI m]), (1, .slice p S.length cp), (2, vP b2 0), (4, .bool false), (18, .bool true)] ?_)))))))))
  refine WC.yes rfl ?_
  refine WC.seq fun K43 hK43 => WC.region (WL.z (.bool false) 4 (WL.k hK43 (WC.ret ?_)))
  refine WQ.thenRet ?_
  refine WQ.ret1 4 rfl rfl ?_
  exact ⟨by unfold okSt; rw [hg]; rfl, HP.below hH42⟩
end Ca
end Go.Proofs.Ytmjnakhpekbenaa
namespace Go.Proofs.Ytmjnakhpekbenaa
open Go.RowKit Fw
namespace Ca
theorem infoL : ∃ i, Try.prog.info? 33 = some i ∧ i.zero = some (.slice none 0 0) ∧ i.size = 1 ∧ i.bytes = 24 := by
  obtain ⟨i, hi, h⟩ := Option.map_eq_some_iff.1 (show (Try.prog.info? 33).map (fun i => (i.zero, i.size, i.bytes)) = some (some (.slice none 0 0), 1, 24) by kernel_rfl)
  simp only [Prod.mk.injEq] at h
  exact ⟨i, hi, h.1, h.2.1, h.2.2⟩
def nilR (n : Nat) : Array Value := madeCells (Value.slice none 0 0).cells (n * 1)
theorem makeS2 (n : Nat) (hn : n ≤ 1000) (W : World) : (Instr.makeSlice 24 (.int .i64 (n : Int)) (.int .i64 (n : Int))).run Try.prog W = .ok (.slice (some ⟨W.heap.size, 0, none⟩) n n) (W.alloc (.cells (nilR n) 33)) := by
  obtain ⟨i0, hi0, hz0, hz1, hz2⟩ := infoL
  have hr := run_make (P := Try.prog) W 24 33 i0 _ Try.underlying24 hi0 hz0 .i64 .i64 (n : Int) (n : Int) (by omega) (by omega) (by rw [hz2]; omega) (by omega)
  rw [hz1] at hr
  simpa [nilR] using hr
theorem nilR_at {n j : Nat} (h : j < n) : (nilR n)[j]? = some (.slice none 0 0) := by
  simp [nilR, madeCells, h, Value.cells, Nat.mod_one]
abbrev nilS (n : Nat) : List SlI := List.replicate n ⟨none, [], 0⟩
end Ca
end Go.Proofs.Ytmjnakhpekbenaa
namespace Go.Proofs.Ytmjnakhpekbenaa
open Go.RowKit Fw
namespace Ca
abbrev iR (xs : List Int) : List Value := xs.map (Value.int .i64)
abbrev rowI' (pv : Option Addr) (cp : Nat) (xs : List Int) : Ent := .own (.slice pv xs.length cp) xs.length (iR xs) 3 1
theorem hp_own {w w' : World} {v : Value} {n e s : Nat} {xs : List Value} (hb : Below w.heap.size w w') (h : w'.ownsRow w.heap.size e s v n xs) : HP Tr w w' [.own v n xs e s] := by
  have q := HP.of_below (S := Tr) hb
  refine ⟨q.os, q.tape, q.output, q.size, q.keep, fun x hx => ?_, fun x hx b hbk hlt => ?_, by simp⟩
  · obtain rfl := List.mem_singleton.1 hx
    refine ⟨h.1, ?_⟩
    rcases h.2 with h | ⟨g, cap, cur, hv, _, hr⟩
    · exact .inl h
    · exact .inr ⟨g, cap, cur, hv, Nat.zero_le _, hr⟩
  · obtain rfl := List.mem_singleton.1 hx
    rcases h.2 with ⟨h, _⟩ | ⟨g, cap, cur, hv, hg, _⟩
    · subst h; cases hbk
    · subst hv; simp only [Ent.blk, Value.ownBlock, Option.some.injEq] at hbk; omega
theorem clone_any (r : SlI) (w : World) (hR : InR w r) (hn : r.xs.length ≤ 1000000) :
    Calls Try.prog 72 #[slV r] w fun e w' => ∃ pv cp, e = .returned (.slice pv r.xs.length cp) ∧ HP Tr w w' [rowI' pv cp r.xs] := by
  obtain ⟨q, xs, c⟩ := r
  have hI : InI w q xs := hR.row
  simp only [slV] at hn ⊢
  cases q with
  | none =>
    have hx : xs = [] := by
      cases xs with
      | nil => rfl
      | cons a r => obtain ⟨g, o, h, _⟩ := hI (by simp); cases h
    subst hx
    refine (Try.slices_Clone_int_nil 0 c w).mono ?_
    rintro e w' ⟨rfl, rfl⟩
    exact ⟨none, 0, rfl, HP.eq (HP.ownNil (HP.refl (S := Tr) w') 3 1) rfl⟩
  | some a =>
    by_cases h0 : xs.length = 0
    · have hx : xs = [] := List.length_eq_zero_iff.1 h0
      subst hx
      refine (Try.slices_Clone_int_zero a c w).mono ?_
      rintro e w' ⟨v', rfl, ho, -, hb⟩
      have hh := hp_own hb ho
      obtain ⟨pv, cp, rfl⟩ := own_row (HP.get hh 0 rfl)
      exact ⟨pv, cp, rfl, hh⟩
    · obtain ⟨g, o, hp, hr⟩ := hI (by omega)
      cases hp
      refine (Try.slices_Clone_int g o xs.length c xs w (Nat.le_refl _) (by omega) (cells_of hr)).mono ?_
      rintro e w' ⟨v', rfl, ho, -, hb⟩
      rw [List.take_length] at ho
      have hh := hp_own hb ho
      obtain ⟨pv, cp, rfl⟩ := own_row (HP.get hh 0 rfl)
      exact ⟨pv, cp, rfl, hh⟩
theorem row_in {w : World} {pv : Option Addr} {cp : Nat} {xs : List Int} (h : Ent.holds w (rowI' pv cp xs)) : InI w pv xs := fun h0 => by
  have h2 : w.ownsRow 0 3 1 (.slice pv xs.length cp) xs.length (iR xs) := h
  have hc := @World.ownsRow.cells _ _ _ _ _ _ _ h2
  rcases h2.2 with ⟨h0', h1⟩ | ⟨g, cap, cur, hv, hb, hg, hnc, hm, hs, hx⟩
  · omega
  · cases hv
    refine ⟨g, 0, rfl, fun i hi j v hv => ?_⟩
    match j, hv with
    | 0, hv =>
      simp at hv
      subst hv
      have := hc (g := g) rfl i (vI (xs.getD i 0)) (by simp [iR, List.getD_eq_getElem?_getD, hi])
      rw [hadd] at this
      simpa using this
    | j + 1, hv => simp at hv
end Ca
end Go.Proofs.Ytmjnakhpekbenaa
namespace Go.Proofs.Ytmjnakhpekbenaa
open Go.RowKit Fw
namespace Ca
theorem delete_any (pv : Option Addr) (cp : Nat) (xs : List Int) (k : Nat) (w : World) (hB : OwnB w [rowI' pv cp xs]) (hk : k < xs.length) :
    Calls Try.prog 73 #[.slice pv xs.length cp, vI (k : Int), vI ((k + 1 : Nat) : Int)] w fun e w' => e = .returned (.slice pv (xs.eraseIdx k).length cp) ∧ HP (Out [rowI' pv cp xs]) w w' [rowI' pv cp (xs.eraseIdx k)] := by
  have hO := hB.1 _ (List.mem_singleton.2 rfl)
  have h2 : w.ownsRow 0 3 1 (.slice pv xs.length cp) xs.length (iR xs) := hO
  have hc := @World.ownsRow.cells _ _ _ _ _ _ _ h2
  rcases h2.2 with ⟨h0', h1⟩ | ⟨g, cap, cur, hv, hb, hg, hnc, hm, hs, hx⟩
  · omega
  · cases hv
    have hlt := (Array.getElem?_eq_some_iff.1 hg).1
    have hH : Go.Sort.Holds (Value.int .i64) w g 0 xs.toArray := fun j hj => by
      have hj' : j < xs.length := by simpa using hj
      refine ⟨?_, by simp [World.frozen?, hg]⟩
      have := hc (g := g) rfl j (vI (xs.getD j 0)) (by simp [iR, List.getD_eq_getElem?_getD, hj'])
      rw [hadd] at this
      rw [this]
      simp [List.getD_eq_getElem?_getD, hj']
    have hle : (xs.eraseIdx k).length = xs.length - 1 := List.length_eraseIdx_of_lt hk
    refine (Try.slices_Delete_int g 0 cp k (k + 1) xs w hH hnc hm (by omega) (by omega)).mono ?_
    rintro e w' ⟨rfl, q, rfl⟩
    refine ⟨by rw [hle, show k + 1 - k = 1 by omega], ?_⟩
    have hheap : (Go.Sort.putRow (Value.int .i64) (Go.Sort.ahead w q) g 0 (xs.take k ++ xs.drop (k + 1) ++ List.replicate (k + 1 - k) 0).toArray).heap = w.heap.modify g (Go.Sort.onCells (Go.Sort.putCells (Value.int .i64) 0 (xs.take k ++ xs.drop (k + 1) ++ List.replicate (k + 1 - k) 0).toArray)) := rfl
    refine ⟨rfl, rfl, rfl, by rw [hheap]; simp, fun j hj hO => ?_, fun e he => ?_, fun e he b hb' hlt' hO => ?_, by simp⟩
    · have hne : g ≠ j := fun e => hO _ (List.mem_singleton.2 rfl) (by rw [← e]; rfl)
      rw [hheap, Array.getElem?_modify, if_neg hne]
    · obtain rfl := List.mem_singleton.1 he
      refine ⟨by simp [iR], .inr ⟨g, cp, Go.Sort.putCells (Value.int .i64) 0 (xs.take k ++ xs.drop (k + 1) ++ List.replicate (k + 1 - k) 0).toArray cur, rfl, Nat.zero_le _, ?_, by omega, hm, by simp [Go.Sort.putCells, hs], ?_⟩⟩
      · rw [hheap, Array.getElem?_modify, if_pos rfl, hg]; rfl
      · refine List.ext_getElem? fun j => ?_
        rw [List.getElem?_take, Nat.mul_one]
        have hE : xs.eraseIdx k = xs.take k ++ xs.drop (k + 1) := List.eraseIdx_eq_take_drop_succ _ _
        by_cases hj : j < (xs.eraseIdx k).length
        · rw [if_pos hj, Array.getElem?_toList]
          have hcur : j < cur.size := by omega
          have hl : j < (xs.take k ++ xs.drop (k + 1) ++ List.replicate (k + 1 - k) 0).toArray.size := by rw [hE] at hj; simp at hj ⊢; omega
          simp only [Go.Sort.putCells, Array.getElem?_mapIdx, Array.getElem?_eq_getElem hcur, Option.map_some, Nat.zero_le, true_and, Nat.zero_add, hl, if_true, Nat.sub_zero]
          have e1 : (xs.take k ++ xs.drop (k + 1) ++ List.replicate (k + 1 - k) 0).toArray[j]! = (xs.eraseIdx k)[j] := by
            have e0 : ∀ D : List Int, j < D.length → D.toArray[j]! = D.getD j 0 := fun D h => by simp [List.getD_eq_getElem?_getD, h]
            rw [e0 _ (by simpa using hl), ← hE, List.getD_eq_getElem?_getD, List.getElem?_append_left hj, List.getElem?_eq_getElem hj]
            rfl
          rw [e1]
          simp [iR, hj]
        · rw [if_neg hj, List.getElem?_eq_none (by simp [iR]; omega)]
    · obtain rfl := List.mem_singleton.1 he
      exact hO _ (List.mem_singleton.2 rfl) hb'
end Ca
end Go.Proofs.Ytmjnakhpekbenaa
namespace Go.Proofs.Ytmjnakhpekbenaa
open Go.RowKit Fw
namespace Ca
def sA (S : List SlI) : Array Value := (S.map fun r => slV r).toArray
theorem sA_at {S : List SlI} {k : Nat} {r : SlI} (h : S[k]? = some r) : (sA S)[k]? = some (slV r) := by simp [sA, h]
theorem sA_set {S : List SlI} {k : Nat} {r : SlI} : (sA S).setIfInBounds k (slV r) = sA (S.set k r) := by
  apply Array.ext'
  simp [sA, List.map_set]
theorem sA_size (S : List SlI) : (sA S).size = S.length := by simp [sA]
theorem not_outer {w : World} {g : Nat} {S : List SlI} {q : Option Addr} {xs : List Int} (hO : w.heap[g]? = some (.cells (sA S) 33 (0, 0))) {b o : Nat} (hq : q = some ⟨b, o, none⟩) (h0 : 0 < xs.length) (hr : ∀ i, i < xs.length → w.rangeAt b (o + i) [vI (xs.getD i 0)]) : b ≠ g := fun e => by
  subst e
  have := hr 0 h0 0 _ rfl
  rw [cell_of_row w b _ _ 33 (0, 0) hO] at this
  simp only [sA, List.getElem?_toArray, List.getElem?_map] at this
  cases hx : S[o + 0 + 0]? with
  | none => rw [hx] at this; simp at this
  | some r => rw [hx] at this; simp at this
theorem InI.keep {w w' : World} {g : Nat} {S : List SlI} {H : List Ent} {q : Option Addr} {xs : List Int} (h : InI w q xs) (hO : w.heap[g]? = some (.cells (sA S) 33 (0, 0))) (hp : HP (Out [.cel g (sA S) 33]) w w' H) : InI w' q xs := fun h0 => by
  obtain ⟨b, o, hq, hr⟩ := h h0
  have hne := not_outer hO hq h0 hr
  refine ⟨b, o, hq, fun i hi => HP.oldRange hp (fun e he => ?_) (hr i hi)⟩
  obtain rfl := List.mem_singleton.1 he
  exact fun q => hne (Option.some.inj q).symm
theorem InR.keep {w w' : World} {g : Nat} {S : List SlI} {H : List Ent} {r : SlI} (h : InR w r) (hO : w.heap[g]? = some (.cells (sA S) 33 (0, 0))) (hp : HP (Out [.cel g (sA S) 33]) w w' H) : InR w' r := ⟨InI.keep h.row hO hp, h.hc, h.hm, h.hw⟩
theorem index_any (r : SlI) (x : Int) (w : World) (hR : InR w r) (hn : r.xs.length ≤ 1000000) :
    Calls Try.prog 67 #[slV r, vI x] w fun e w' => e = .returned (.int .i64 (Lib.idxOf r.xs x)) ∧ w = w' := by
  obtain ⟨q, xs, c⟩ := r
  have hI : InI w q xs := hR.row
  simp only [slV] at hn ⊢
  by_cases h0 : xs.length = 0
  · have hx : xs = [] := List.length_eq_zero_iff.1 h0
    subst hx
    exact (Try.slices_Index_int_empty q c x w).mono fun e w' h => ⟨h.1, h.2.symm⟩
  · obtain ⟨g, o, rfl, hr⟩ := hI (by omega)
    refine (Try.slices_Index_int g o xs.length c xs x w (Nat.le_refl _) (by omega) (cells_of hr)).mono fun e w' h => ⟨?_, h.2.symm⟩
    rw [h.1, List.take_length]
end Ca
end Go.Proofs.Ytmjnakhpekbenaa
namespace Go.Proofs.Ytmjnakhpekbenaa
set_option maxRecDepth 20000
set_option maxHeartbeats 4000000
open Go.RowKit Fw
namespace Ca
def tcX (y x : Int) (xs : List Int) : List Int := x :: (if 0 ≤ Lib.idxOf xs x then xs.eraseIdx (Lib.idxOf xs x).toNat else if (xs.length : Int) = y then xs.take (xs.length - 1) else xs)
theorem infoI : ∃ i, Try.prog.info? 3 = some i ∧ i.zero = some (.int .i64 0) ∧ i.size = 1 ∧ i.bytes = 8 := by
  obtain ⟨i, hi, h⟩ := Option.map_eq_some_iff.1 (show (Try.prog.info? 3).map (fun i => (i.zero, i.size, i.bytes)) = some (some (.int .i64 0), 1, 8) by kernel_rfl)
  simp only [Prod.mk.injEq] at h
  exact ⟨i, hi, h.1, h.2.1, h.2.2⟩
theorem plc_spec (x : Int) : ∀ xs : List Int, (plc x xs = none ∧ ∀ i, i < xs.length → xs.getD i 0 ≠ x) ∨ (∃ k, plc x xs = some k ∧ k < xs.length ∧ xs.getD k 0 = x ∧ ∀ j, j < k → xs.getD j 0 ≠ x)
  | [] => .inl ⟨rfl, fun i hi => by simp at hi⟩
  | a :: r => by
    by_cases h : a = x
    · exact .inr ⟨0, by simp only [plc]; rw [if_pos h], by simp, by simpa using h, fun j hj => by omega⟩
    · rcases plc_spec x r with ⟨h1, h2⟩ | ⟨k, h1, h2, h3, h4⟩
      · refine .inl ⟨by simp only [plc]; rw [if_neg h, h1]; rfl, fun i hi => ?_⟩
        match i, hi with
        | 0, _ => simpa using h
        | i + 1, hi => have := h2 i (by simpa using hi); simpa using this
      · refine .inr ⟨k + 1, by simp only [plc]; rw [if_neg h, h1]; rfl, by simpa using h2, by simpa using h3, fun j hj => ?_⟩
        match j, hj with
        | 0, _ => simpa using h
        | j + 1, hj => have := h4 j (by omega); simpa using this
theorem idx_plc (x : Int) (xs : List Int) : Lib.idxOf xs x = plcV x xs := by
  unfold plcV
  rcases plc_spec x xs with ⟨h1, h2⟩ | ⟨k, h1, h2, h3, h4⟩
  · rw [h1]; have := Lib.idxOf_miss xs xs.length x h2; rwa [List.take_length] at this
  · rw [h1]; have := Lib.idxOf_hit xs xs.length k x h2 (Nat.le_refl _) h3 h4; rwa [List.take_length] at this
theorem idx_lt {x : Int} {xs : List Int} (h : 0 ≤ Lib.idxOf xs x) : (Lib.idxOf xs x).toNat < xs.length := by
  rw [idx_plc] at h ⊢
  unfold plcV at h ⊢
  rcases plc_spec x xs with ⟨h1, h2⟩ | ⟨k, h1, h2, h3, h4⟩
  · rw [h1] at h; simp at h
  · rw [h1]; simpa using h2
theorem src_of {w : World} {p : Option Addr} {xs ys : List Int} {c : Nat} (h : InI w p xs) (hy : ys = xs.take ys.length) (hc : p = none → c = 0) : (∃ a, p = some a ∧ ∀ q u, (iR ys)[q]? = some u → w.cell? (a.add q) = some u) ∨ (p = none ∧ ys.length = 0 ∧ c = 0) := by
  have hle : ys.length ≤ xs.length := by have := congrArg List.length hy; rw [List.length_take] at this; omega
  by_cases h0 : xs.length = 0
  · cases p with
    | none => exact .inr ⟨rfl, by omega, hc rfl⟩
    | some a =>
      refine .inl ⟨a, rfl, fun q u hu => ?_⟩
      have := (List.getElem?_eq_some_iff.1 hu).1
      simp at this; omega
  · obtain ⟨g, o, rfl, hr⟩ := h (by omega)
    refine .inl ⟨_, rfl, fun q u hu => ?_⟩
    have hq : q < ys.length := by have := (List.getElem?_eq_some_iff.1 hu).1; simpa using this
    have := hr q (by omega) 0 _ rfl
    rw [hadd]
    have e : u = vI (xs.getD q 0) := by
      rw [hy] at hu
      have h9 : q < xs.length := by omega
      simp [iR, List.getElem?_take, hq, h9] at hu
      rw [← hu]; simp [List.getD_eq_getElem?_getD, h9]
    rw [e]; simpa using this
theorem own_nil {w : World} {cp n e s : Nat} {xs : List Value} (h : Ent.holds w (.own (.slice none n cp) n xs e s)) : cp = 0 := by
  have h2 : w.ownsRow 0 e s (.slice none n cp) n xs := h
  rcases h2.2 with ⟨h0, _⟩ | ⟨g, cap, cur, hv, _⟩
  · cases h0; rfl
  · cases hv
theorem touch_any (g n0 cp0 : Nat) (S : List SlI) (s y l m a : Int) (k : Nat) (q : Option Addr) (xs : List Int) (c : Nat) (w : World) (hB : OwnB w [.cel g (sA S) 33]) (hs : 1 ≤ s ∧ s ≤ 8) (hl : 1 ≤ l ∧ l ≤ 8) (ha : 0 ≤ a ∧ a ≤ 999) (hy : 1 ≤ y ∧ y ≤ 4) (hk : (a / l).tmod s = (k : Int)) (hkS : S[k]? = some ⟨q, xs, c⟩) (hR : InR w ⟨q, xs, c⟩) (hq0 : q = none → c = 0) (hn : xs.length ≤ 1000000) (hSn : S.length = n0) :
  Calls Try.prog 50 #[.agg #[vI s, vI y, vI l, vI m], vS g n0 cp0, vI a] w fun e w' => ∃ pv cp, e = .returned (.bool (decide (0 ≤ Lib.idxOf xs (a / l)))) ∧ HP (Out [.cel g (sA S) 33]) w w' [.cel g (sA (S.set k ⟨pv, tcX y (a / l) xs, cp⟩)) 33, rowI' pv cp (tcX y (a / l) xs)] := by
 have hO : w.heap[g]? = some (.cells (sA S) 33 (0, 0)) := hB.1 _ (List.mem_singleton.2 rfl)
 have hkl : k < n0 := by rw [← hSn]; exact (List.getElem?_eq_some_iff.1 hkS).1
 refine calls_of Try.func50 rfl (m := 58) rfl [(0, .agg #[vI s, vI y, vI l, vI m]), (1, vS g n0 cp0), (2, vI a)] (Fr_enter [.agg #[vI s, vI y, vI l, vI m], vS g n0 cp0, vI a] 58 (Nat.le_of_ble_eq_true rfl)) ?_
 refine WC.seq fun K1 hK1 => WC.region ?_
 refine WL.alloc (c := #[vI s, vI y, vI l, vI m]) (T := 23) (HP.startB hB) 3 rfl (by decide) rfl rfl (fun b3 => vP b3 0) (by kernel_rfl) (fun b3 w2 hw2 => ?_)
 have hH3 : HP (Out [.cel g (sA S) 33]) w w2 [.cel g (sA S) 33, .cel b3 #[vI s, vI y, vI l, vI m] 23] := hw2.2
 have nb3 := hw2.1
 clear hw2
 refine WL.z (.bool false) 6 (WL.k hK1 (WC.seq fun K4 hK4 => WC.region (WL.z (vI a) 11 (WL.z (vP b3 2) 12 (WL.y (vI l) 13 (x_load rfl rfl Try.underlying3 rfl (HP.cell hH3 1 rfl rfl)) (WL.y (vI (a / l)) 14 (x_quo rfl rfl rfl (by omega) (tdiv_pos (by omega) (by omega)) (by have := Int.ediv_nonneg (show 0 ≤ a by omega) (show 0 ≤ l by omega); omega) (by have := Int.ediv_le_self l (show 0 ≤ a by omega); omega)) (WL.z (vI (a / l)) 7 (WL.nil ?_))))))))
 refine WQ.then (hK4 _ _ _ (WC.seq fun K5 hK5 => WC.region (WL.z (vI (a / l)) 15 (WL.z (vP b3 0) 16 (WL.y (vI s) 17 (x_load rfl rfl Try.underlying3 rfl (HP.cell hH3 1 rfl rfl)) (WL.y (vI (k : Int)) 18 (x_rem rfl rfl rfl (by omega) hk) (WL.z (vI (k : Int)) 8 (WL.k hK5 ?_))))))))
 refine WC.sb [(0, .agg #[vI s, vI y, vI l, vI m]), (1, vS g n0 cp0), (2, vI a), (3, vP b3 0), (6, .bool false), (7, vI (a / l)), (8, vI (k : Int))] (WC.seq fun K6 hK6 => WC.region (WL.z (vS g n0 cp0) 19 (WL.z (vI (k : Int)) 20 (WL.y (vP g k) 21 (x_ix (k) (k) Try.underlying24 sz33) (WL.y (.slice q xs.length c) 22 (x_load rfl rfl Try.underlying33 rfl (HP.cell hH3 0 rfl (sA_at hkS))) (WL.z (vI (a / l)) 23 ?_))))))
 refine WL.c 67 #[.slice q xs.length c, vI (a / l)] 24 ?_
 refine (index_any ⟨q, xs, c⟩ (a / l) _ (hR.keep hO hH3) hn).mono ?_
 rintro e w7 ⟨rfl, rfl⟩
 refine ⟨_, rfl, ?_⟩
 refine WL.z (vI (Lib.idxOf xs (a / l))) 9 (WL.k hK6 (WC.sb [(0, .agg #[vI s, vI y, vI l, vI m]), (1, vS g n0 cp0), (2, vI a), (3, vP b3 0), (6, .bool false), (7, vI (a / l)), (8, vI (k : Int)), (9, vI (Lib.idxOf xs (a / l)))] (WC.seq fun K8 hK8 => WC.region (WL.z (vS g n0 cp0) 25 (WL.z (vI (k : Int)) 26 (WL.y (vP g k) 27 (x_ix (k) (k) Try.underlying24 sz33) (WL.y (.slice q xs.length c) 28 (x_load rfl rfl Try.underlying33 rfl (HP.cell hH3 0 rfl (sA_at hkS))) (WL.z (.slice q xs.length c) 10 ?_))))))))
 refine WL.k hK8 (WC.seq fun K9 hK9 => WC.block (WC.seq fun K10 hK10 => WC.region (WL.z (vI (Lib.idxOf xs (a / l))) 30 ?_)))
 by_cases h0 : (0 : Int) ≤ Lib.idxOf xs (a / l)
 ·
  obtain ⟨k9, hk9⟩ : ∃ k9 : Nat, Lib.idxOf xs (a / l) = (k9 : Int) := ⟨_, (Int.toNat_of_nonneg h0).symm⟩
  have hk9l : k9 < xs.length := by have := idx_lt h0; omega
  rw [hk9] at h0
  rw [hk9]
  refine WL.y (.bool true) 31 (x_geq rfl rfl rfl (dT (h0))) (WL.z (.bool true) 29 (WL.k hK10 (WC.sb [(0, .agg #[vI s, vI y, vI l, vI m]), (1, vS g n0 cp0), (2, vI a), (3, vP b3 0), (6, .bool false), (7, vI (a / l)), (8, vI (k : Int)), (9, vI (k9 : Int)), (10, .slice q xs.length c), (29, .bool true)] ?_)))
  refine WC.yes rfl ?_
  refine WC.region (WL.z (.slice q xs.length c) 32 ?_)
  refine WL.c 72 #[.slice q xs.length c] 33 ?_
  refine (clone_any ⟨q, xs, c⟩ _ (hR.keep hO hH3) hn).mono ?_
  rintro e w11 ⟨pv, cp, rfl, hb12⟩
  refine ⟨_, rfl, ?_⟩
  have hH13 : HP (Out [.cel g (sA S) 33]) w _ [.cel g (sA S) 33, .cel b3 #[vI s, vI y, vI l, vI m] 23, rowI' pv cp xs] := HP.trans hH3 hb12
  refine WL.z (vI (k9 : Int)) 34 (WL.z (vI (k9 : Int)) 35 (WL.y (vI ((k9 + 1 : Nat) : Int)) 36 (x_ad (((k9 + 1 : Nat) : Int))) ?_))
  refine WL.c 73 #[.slice pv xs.length cp, vI (k9 : Int), vI ((k9 + 1 : Nat) : Int)] 37 ?_
  refine (delete_any pv cp xs k9 _ (HP.ownB (A := [Go.Proofs.Ytmjnakhpekbenaa.Fw.Ent.cel g (sA S) 33, Go.Proofs.Ytmjnakhpekbenaa.Fw.Ent.cel b3 #[vI s, vI y, vI l, vI m] 23]) hH13) hk9l).mono ?_
  rintro e w6 ⟨rfl, hb6⟩
  refine ⟨_, rfl, ?_⟩
  have hH14 : HP (Out [.cel g (sA S) 33]) w _ [.cel g (sA S) 33, .cel b3 #[vI s, vI y, vI l, vI m] 23, rowI' pv cp (xs.eraseIdx k9)] := HP.exch (A := [Go.Proofs.Ytmjnakhpekbenaa.Fw.Ent.cel g (sA S) 33, Go.Proofs.Ytmjnakhpekbenaa.Fw.Ent.cel b3 #[vI s, vI y, vI l, vI m] 23]) hH13 hb6
  refine WL.z (.slice pv ((xs.eraseIdx k9).length) cp) 10 (WL.nil (WQ.inNormal (WQ.then (hK9 _ _ _ (WC.sb [(0, .agg #[vI s, vI y, vI l, vI m]), (1, vS g n0 cp0), (2, vI a), (3, vP b3 0), (6, .bool false), (7, vI (a / l)), (8, vI (k : Int)), (9, vI (k9 : Int)), (10, .slice pv ((xs.eraseIdx k9).length) cp), (29, .bool true)] (WC.seq fun K15 hK15 => WC.region (WL.z (vS g n0 cp0) 49 (WL.z (vI (k : Int)) 50 (WL.z (vI (a / l)) 51 ?_)))))))))
  refine WL.alloc (c := #[vI (a / l)]) (T := 3) hH14 52 rfl (by decide) rfl rfl (fun b52 => vS b52 1 1) (by kernel_rfl) (fun b52 w16 hw16 => ?_)
  have hH17 : HP (Out [.cel g (sA S) 33]) w w16 [.cel g (sA S) 33, .cel b3 #[vI s, vI y, vI l, vI m] 23, rowI' pv cp (xs.eraseIdx k9), .cel b52 #[vI (a / l)] 3] := hw16.2
  have nb52 := hw16.1
  clear hw16
  refine WL.z (.slice pv ((xs.eraseIdx k9).length) cp) 53 ?_
  have hO9 := HP.celToOwn hH17 3 (k := 1) (cap := 1) (s := 1) rfl (Nat.le_refl _) (by decide) rfl
  have hH18 : HP (Out [.cel g (sA S) 33]) w _ [.cel g (sA S) 33, .cel b3 #[vI s, vI y, vI l, vI m] 23, rowI' pv cp (xs.eraseIdx k9), .own (.slice (some ⟨b52, 0, none⟩) 1 1) 1 [vI (a / l)] 3 1] := HP.eq hO9 rfl
  obtain ⟨i0, hi0, hz0, hz1, hz2⟩ := infoI
  have hyl : (xs.eraseIdx k9).length ≤ xs.length := by first | exact Nat.le_refl _ | (rw [List.length_eraseIdx_of_lt hk9l]; omega) | (rw [List.length_take]; omega)
  refine WL.appendSrc (iR (xs.eraseIdx k9)) 3 hH18 54 rfl (by decide) rfl rfl rfl rfl Try.underlying33 hi0 hz0 hz1 hz2 rfl (by decide) rfl (src_of (row_in (HP.get hH18 2 rfl)) (by rw [List.take_length]) (fun h => by subst h; exact own_nil (HP.get hH18 2 rfl))) (by simp) (fun u hu => by obtain ⟨x9, _, rfl⟩ := List.mem_map.1 hu; rfl) (by unfold maxLen; omega) (by omega) ?_
  rintro v7 w7 - hA7
  obtain ⟨pv7, cp7, rfl⟩ := own_row (HP.get hA7 3 rfl)
  have e7 : 1 + (xs.eraseIdx k9).length = (a / l :: (xs.eraseIdx k9)).length := by simp; omega
  rw [e7] at hA7 ⊢
  have hH19 : HP (Out [.cel g (sA S) 33]) w _ [.cel g (sA S) 33, .cel b3 #[vI s, vI y, vI l, vI m] 23, rowI' pv cp (xs.eraseIdx k9), rowI' pv7 cp7 (a / l :: (xs.eraseIdx k9))] := HP.eq hA7 rfl
  refine WL.y (vP g k) 55 (x_ix (k) (k) Try.underlying24 sz33) ?_
  refine WL.store (c' := sA (S.set k ⟨pv7, (a / l :: (xs.eraseIdx k9)), cp7⟩)) (H2 := _) 0 hH19 rfl rfl rfl rfl rfl rfl sz33 rfl (by rw [sA_size]; exact (List.getElem?_eq_some_iff.1 hkS).1) (sA_set (r := ⟨pv7, (a / l :: (xs.eraseIdx k9)), cp7⟩)) rfl ?_
  intro w8 hB8
  have hH20 : HP (Out [.cel g (sA S) 33]) w _ [.cel g (sA (S.set k ⟨pv7, (a / l :: (xs.eraseIdx k9)), cp7⟩)) 33, .cel b3 #[vI s, vI y, vI l, vI m] 23, rowI' pv cp (xs.eraseIdx k9), rowI' pv7 cp7 (a / l :: (xs.eraseIdx k9))] := hB8
  refine WL.k hK15 (WC.sb [(0, .agg #[vI s, vI y, vI l, vI m]), (1, vS g n0 cp0), (2, vI a), (3, vP b3 0), (6, .bool false), (7, vI (a / l)), (8, vI (k : Int)), (9, vI (k9 : Int)), (10, .slice pv ((xs.eraseIdx k9).length) cp), (29, .bool true)] (WC.seq fun K21 hK21 => WC.region (WL.z (vI (k9 : Int)) 56 (WL.y (.bool true) 57 (x_geq rfl rfl rfl (dT (by omega))) (WL.z (.bool true) 6 (WL.k hK21 ?_))))))
  refine WC.ret ?_
  refine WQ.ret1 6 rfl rfl ?_
  have e9 : tcX y (a / l) xs = (a / l :: (xs.eraseIdx k9)) := by unfold tcX; rw [hk9, if_pos (by omega), Int.toNat_natCast]
  exact ⟨pv7, cp7, by rw [hk9, decide_eq_true (by omega)], by rw [e9]; exact (HP.drop (HP.drop hH20 2) 1)⟩
 ·
  refine WL.y (.bool false) 31 (x_geq rfl rfl rfl (dF (h0))) (WL.z (.bool false) 29 (WL.k hK10 (WC.sb [(0, .agg #[vI s, vI y, vI l, vI m]), (1, vS g n0 cp0), (2, vI a), (3, vP b3 0), (6, .bool false), (7, vI (a / l)), (8, vI (k : Int)), (9, vI (Lib.idxOf xs (a / l))), (10, .slice q xs.length c), (29, .bool false)] ?_)))
  refine WC.no rfl ?_
  refine WC.seq fun K22 hK22 => WC.region (WL.z (.slice q xs.length c) 39 (WL.z (vI (xs.length : Int)) 40 (WL.z (vP b3 1) 41 (WL.y (vI y) 42 (x_load rfl rfl Try.underlying3 rfl (HP.cell hH3 1 rfl rfl)) ?_))))
  by_cases hfull : (xs.length : Int) = y
  ·
   refine WL.y (.bool true) 43 (x_eql rfl rfl rfl (dT (hfull))) (WL.z (.bool true) 38 (WL.k hK22 ?_))
   refine WC.yes rfl ?_
   refine WC.region (WL.z (.slice q xs.length c) 44 (WL.z (.slice q xs.length c) 45 (WL.z (vI (xs.length : Int)) 46 (WL.y (vI ((xs.length - 1 : Nat) : Int)) 47 (x_sub (Z := ((xs.length - 1 : Nat) : Int)) rfl rfl rfl (by omega) (by omega) (by omega)) (WL.y (.slice q ((xs.take (xs.length - 1)).length) c) 48 (by rw [List.length_take_of_le (Nat.sub_le _ _)]; exact x_sliceH (xs.length - 1) rfl rfl rfl Try.underlying33 (by omega) (by have := hR.hc; simp only [] at this; omega) sz3) (WL.z (.slice q ((xs.take (xs.length - 1)).length) c) 10 (WL.nil (WQ.inNormal (WQ.then (hK9 _ _ _ (WC.sb [(0, .agg #[vI s, vI y, vI l, vI m]), (1, vS g n0 cp0), (2, vI a), (3, vP b3 0), (6, .bool false), (7, vI (a / l)), (8, vI (k : Int)), (9, vI (Lib.idxOf xs (a / l))), (10, .slice q ((xs.take (xs.length - 1)).length) c), (29, .bool false), (38, .bool true)] ?_)))))))))))
   refine WC.seq fun K23 hK23 => WC.region (WL.z (vS g n0 cp0) 49 (WL.z (vI (k : Int)) 50 (WL.z (vI (a / l)) 51 ?_)))
   refine WL.alloc (c := #[vI (a / l)]) (T := 3) hH3 52 rfl (by decide) rfl rfl (fun b52 => vS b52 1 1) (by kernel_rfl) (fun b52 w24 hw24 => ?_)
   have hH25 : HP (Out [.cel g (sA S) 33]) w w24 [.cel g (sA S) 33, .cel b3 #[vI s, vI y, vI l, vI m] 23, .cel b52 #[vI (a / l)] 3] := hw24.2
   have nb52 := hw24.1
   clear hw24
   refine WL.z (.slice q ((xs.take (xs.length - 1)).length) c) 53 ?_
   have hO9 := HP.celToOwn hH25 2 (k := 1) (cap := 1) (s := 1) rfl (Nat.le_refl _) (by decide) rfl
   have hH26 : HP (Out [.cel g (sA S) 33]) w _ [.cel g (sA S) 33, .cel b3 #[vI s, vI y, vI l, vI m] 23, .own (.slice (some ⟨b52, 0, none⟩) 1 1) 1 [vI (a / l)] 3 1] := HP.eq hO9 rfl
   obtain ⟨i0, hi0, hz0, hz1, hz2⟩ := infoI
   have hyl : (xs.take (xs.length - 1)).length ≤ xs.length := by first | exact Nat.le_refl _ | (rw [List.length_eraseIdx_of_lt hk9l]; omega) | (rw [List.length_take]; omega)
   refine WL.appendSrc (iR (xs.take (xs.length - 1))) 2 hH26 54 rfl (by decide) rfl rfl rfl rfl Try.underlying33 hi0 hz0 hz1 hz2 rfl (by decide) rfl (src_of (InI.keep hR.row hO hH26) (by rw [List.length_take_of_le (Nat.sub_le _ _)]) hq0) (by simp) (fun u hu => by obtain ⟨x9, _, rfl⟩ := List.mem_map.1 hu; rfl) (by unfold maxLen; omega) (by omega) ?_
   rintro v7 w7 - hA7
   obtain ⟨pv7, cp7, rfl⟩ := own_row (HP.get hA7 2 rfl)
   have e7 : 1 + (xs.take (xs.length - 1)).length = (a / l :: (xs.take (xs.length - 1))).length := by simp; omega
   rw [e7] at hA7 ⊢
   have hH27 : HP (Out [.cel g (sA S) 33]) w _ [.cel g (sA S) 33, .cel b3 #[vI s, vI y, vI l, vI m] 23, rowI' pv7 cp7 (a / l :: (xs.take (xs.length - 1)))] := HP.eq hA7 rfl
   refine WL.y (vP g k) 55 (x_ix (k) (k) Try.underlying24 sz33) ?_
   refine WL.store (c' := sA (S.set k ⟨pv7, (a / l :: (xs.take (xs.length - 1))), cp7⟩)) (H2 := _) 0 hH27 rfl rfl rfl rfl rfl rfl sz33 rfl (by rw [sA_size]; exact (List.getElem?_eq_some_iff.1 hkS).1) (sA_set (r := ⟨pv7, (a / l :: (xs.take (xs.length - 1))), cp7⟩)) rfl ?_
   intro w8 hB8
   have hH28 : HP (Out [.cel g (sA S) 33]) w _ [.cel g (sA (S.set k ⟨pv7, (a / l :: (xs.take (xs.length - 1))), cp7⟩)) 33, .cel b3 #[vI s, vI y, vI l, vI m] 23, rowI' pv7 cp7 (a / l :: (xs.take (xs.length - 1)))] := hB8
   refine WL.k hK23 (WC.sb [(0, .agg #[vI s, vI y, vI l, vI m]), (1, vS g n0 cp0), (2, vI a), (3, vP b3 0), (6, .bool false), (7, vI (a / l)), (8, vI (k : Int)), (9, vI (Lib.idxOf xs (a / l))), (10, .slice q ((xs.take (xs.length - 1)).length) c), (29, .bool false), (38, .bool true)] (WC.seq fun K29 hK29 => WC.region (WL.z (vI (Lib.idxOf xs (a / l))) 56 (WL.y (.bool false) 57 (x_geq rfl rfl rfl (dF (h0))) (WL.z (.bool false) 6 (WL.k hK29 ?_))))))
   refine WC.ret ?_
   refine WQ.ret1 6 rfl rfl ?_
   have e9 : tcX y (a / l) xs = (a / l :: (xs.take (xs.length - 1))) := by unfold tcX; rw [if_neg h0, if_pos (by omega)]
   exact ⟨pv7, cp7, by rw [decide_eq_false h0], by rw [e9]; exact (HP.drop hH28 1)⟩
  ·
   refine WL.y (.bool false) 43 (x_eql rfl rfl rfl (dF (hfull))) (WL.z (.bool false) 38 (WL.k hK22 ?_))
   refine WC.no rfl ?_
   refine WC.skip (WQ.inNormal (WQ.then (hK9 _ _ _ (WC.seq fun K30 hK30 => WC.region (WL.z (vS g n0 cp0) 49 (WL.z (vI (k : Int)) 50 (WL.z (vI (a / l)) 51 ?_)))))))
   refine WL.alloc (c := #[vI (a / l)]) (T := 3) hH3 52 rfl (by decide) rfl rfl (fun b52 => vS b52 1 1) (by kernel_rfl) (fun b52 w31 hw31 => ?_)
   have hH32 : HP (Out [.cel g (sA S) 33]) w w31 [.cel g (sA S) 33, .cel b3 #[vI s, vI y, vI l, vI m] 23, .cel b52 #[vI (a / l)] 3] := hw31.2
   have nb52 := hw31.1
   clear hw31
   refine WL.z (.slice q xs.length c) 53 ?_
   have hO9 := HP.celToOwn hH32 2 (k := 1) (cap := 1) (s := 1) rfl (Nat.le_refl _) (by decide) rfl
   have hH33 : HP (Out [.cel g (sA S) 33]) w _ [.cel g (sA S) 33, .cel b3 #[vI s, vI y, vI l, vI m] 23, .own (.slice (some ⟨b52, 0, none⟩) 1 1) 1 [vI (a / l)] 3 1] := HP.eq hO9 rfl
   obtain ⟨i0, hi0, hz0, hz1, hz2⟩ := infoI
   have hyl : xs.length ≤ xs.length := by first | exact Nat.le_refl _ | (rw [List.length_eraseIdx_of_lt hk9l]; omega) | (rw [List.length_take]; omega)
   refine WL.appendSrc (iR xs) 2 hH33 54 rfl (by decide) rfl rfl rfl rfl Try.underlying33 hi0 hz0 hz1 hz2 rfl (by decide) rfl (src_of (InI.keep hR.row hO hH33) (by rw [List.take_length]) hq0) (by simp) (fun u hu => by obtain ⟨x9, _, rfl⟩ := List.mem_map.1 hu; rfl) (by unfold maxLen; omega) (by omega) ?_
   rintro v7 w7 - hA7
   obtain ⟨pv7, cp7, rfl⟩ := own_row (HP.get hA7 2 rfl)
   have e7 : 1 + xs.length = (a / l :: xs).length := by simp; omega
   rw [e7] at hA7 ⊢
   have hH34 : HP (Out [.cel g (sA S) 33]) w _ [.cel g (sA S) 33, .cel b3 #[vI s, vI y, vI l, vI m] 23, rowI' pv7 cp7 (a / l :: xs)] := HP.eq hA7 rfl
   refine WL.y (vP g k) 55 (x_ix (k) (k) Try.underlying24 sz33) ?_
   refine WL.store (c' := sA (S.set k ⟨pv7, (a / l :: xs), cp7⟩)) (H2 := _) 0 hH34 rfl rfl rfl rfl rfl rfl sz33 rfl (by rw [sA_size]; exact (List.getElem?_eq_some_iff.1 hkS).1) (sA_set (r := ⟨pv7, (a / l :: xs), cp7⟩)) rfl ?_
   intro w8 hB8
   have hH35 : HP (Out [.cel g (sA S) 33]) w _ [.cel g (sA (S.set k ⟨pv7, (a / l :: xs), cp7⟩)) 33, .cel b3 #[vI s, vI y, vI l, vI m] 23, rowI' pv7 cp7 (a / l :: xs)] := hB8
   refine WL.k hK30 (WC.sb [(0, .agg #[vI s, vI y, vI l, vI m]), (1, vS g n0 cp0), (2, vI a), (3, vP b3 0), (6, .bool false), (7, vI (a / l)), (8, vI (k : Int)), (9, vI (Lib.idxOf xs (a / l))), (10, .slice q xs.length c), (29, .bool false), (38, .bool false)] (WC.seq fun K36 hK36 => WC.region (WL.z (vI (Lib.idxOf xs (a / l))) 56 (WL.y (.bool false) 57 (x_geq rfl rfl rfl (dF (h0))) (WL.z (.bool false) 6 (WL.k hK36 ?_))))))
   refine WC.ret ?_
   refine WQ.ret1 6 rfl rfl ?_
   have e9 : tcX y (a / l) xs = (a / l :: xs) := by unfold tcX; rw [if_neg h0, if_neg (by omega)]
   exact ⟨pv7, cp7, by rw [decide_eq_false h0], by rw [e9]; exact (HP.drop hH35 1)⟩
end Ca
end Go.Proofs.Ytmjnakhpekbenaa
namespace Go.Proofs.Ytmjnakhpekbenaa
set_option maxRecDepth 20000
set_option maxHeartbeats 4000000
open Go.RowKit Fw
namespace Ca
def Rows (w : World) (S : List SlI) : Prop := ∀ r ∈ S, InR w r ∧ (r.q = none → r.c = 0)
theorem Rows.keep {w w' : World} {g : Nat} {S : List SlI} {H : List Ent} (h : Rows w S) (hO : w.heap[g]? = some (.cells (sA S) 33 (0, 0))) (hp : HP (Out [.cel g (sA S) 33]) w w' H) : Rows w' S := fun r hr => ⟨(h r hr).1.keep hO hp, (h r hr).2⟩
theorem Rows.set {w : World} {S : List SlI} {r : SlI} {k : Nat} (h : Rows w S) (hr : InR w r ∧ (r.q = none → r.c = 0)) : Rows w (S.set k r) := fun x hx => by
  rcases List.mem_or_eq_of_mem_set hx with h1 | rfl
  · exact h x h1
  · exact hr
theorem row_InR {w : World} {pv : Option Addr} {cp : Nat} {xs : List Int} (h : Ent.holds w (rowI' pv cp xs)) (hw : ∀ x ∈ xs, Wi x) : InR w ⟨pv, xs, cp⟩ ∧ (pv = none → cp = 0) := by
  refine ⟨⟨row_in h, ?_, ?_, hw⟩, fun e => by subst e; exact own_nil h⟩
  all_goals
    have h2 : w.ownsRow 0 3 1 (.slice pv xs.length cp) xs.length (iR xs) := h
    rcases h2.2 with ⟨h0, h1⟩ | ⟨g, cap, cur, hv, _, _, hnc, hm, _⟩
  · obtain ⟨-, hl0, hc0⟩ : pv = none ∧ xs.length = 0 ∧ cp = 0 := by simpa using h0
    show xs.length ≤ cp; omega
  · cases hv; exact hnc
  · obtain ⟨-, hl0, hc0⟩ : pv = none ∧ xs.length = 0 ∧ cp = 0 := by simpa using h0
    show cp ≤ maxLen; rw [hc0]; exact Nat.zero_le _
  · cases hv; exact hm
theorem nil_sA (n : Nat) : nilR n = sA (nilS n) := by
  apply Array.ext
  · simp [nilR, madeCells, sA]
  · intro i h1 h2
    have hi : i < n := by simpa [nilR, madeCells] using h1
    have e := nilR_at hi
    rw [Array.getElem?_eq_getElem h1, Option.some.injEq] at e
    rw [e]; simp [sA]
def cpd (S S1 : List SlI) (i : Nat) : Prop := S1.length = S.length ∧ ∀ j, j < i → (S1.getD j ⟨none, [], 0⟩).xs = (S.getD j ⟨none, [], 0⟩).xs
theorem cpd_step {S S1 : List SlI} {i : Nat} {r : SlI} (h : cpd S S1 i) (hi : i < S.length) (hr : r.xs = (S.getD i ⟨none, [], 0⟩).xs) : cpd S (S1.set i r) (i + 1) := by
  refine ⟨by simp [h.1], fun j hj => ?_⟩
  by_cases e : j = i
  · subst e; rw [← hr]; simp [List.getD_eq_getElem?_getD, h.1, hi]
  · rw [← h.2 j (by omega)]; simp [List.getD_eq_getElem?_getD, List.getElem?_set_ne (Ne.symm e)]
theorem cpd_end {S S1 : List SlI} (h : cpd S S1 S.length) : stX S1 = stX S := by
  refine List.ext_getElem (by simp [stX, h.1]) fun i h1 h2 => ?_
  have hi : i < S.length := by simpa [stX] using h2
  have := h.2 i hi
  simpa [stX, List.getD_eq_getElem?_getD, hi, h.1] using this
theorem copied_any (p : Option Addr) (S : List SlI) (cp : Nat) (w : World) (hS : InS2 w p S) (hn : S.length ≤ 1000) (hx : ∀ r ∈ S, r.xs.length ≤ 1000000) :
  Calls Try.prog 49 #[.slice p S.length cp] w fun e w' => ∃ g S', e = .returned (.slice (some ⟨g, 0, none⟩) S.length S.length) ∧ stX S' = stX S ∧ HP Tr w w' [.cel g (sA S') 33] ∧ Rows w' S' := by
 refine calls_of Try.func49 rfl (m := 23) rfl [(0, .slice p S.length cp)] (Fr_enter [.slice p S.length cp] 23 (Nat.le_of_ble_eq_true rfl)) ?_
 have hH1 : HP Tr w w [] := HP.refl w
 refine WC.seq fun K2 hK2 => WC.region (WL.z (.slice none 0 0) 2 (WL.k hK2 (WC.seq fun K3 hK3 => WC.region (WL.z (.slice p S.length cp) 5 (WL.z (vI (S.length : Int)) 6 ?_)))))
 refine WL.alloc (c := nilR S.length) (T := 33) hH1 7 rfl (by decide) rfl rfl (fun g => vS g S.length S.length) (x_makeR rfl rfl rfl (makeS2 S.length (by omega) _)) (fun g w9 hw9 => ?_)
 have hH9 : HP Tr w w9 [.cel g (sA (nilS S.length)) 33] := HP.eq hw9.2 (by rw [nil_sA]; rfl)
 refine WL.z (vS g S.length S.length) 3 (WL.k hK3 (WC.seq fun K4 hK4 => WC.seq fun K5 hK5 => WC.region (WL.z (.slice p S.length cp) 8 (WL.z (vI (S.length : Int)) 9 (WL.z (vI 0) 10 (WL.nil (WQ.then ?_)))))))
 refine hK5 _ _ _ (WC.block ?_)
 refine WC.loop (fun kk0 ll0 ww0 => ∃ (i : Nat) (S1 : List SlI), ll0 = [(0, .slice p S.length cp), (3, vS g S.length S.length), (9, vI (S.length : Int)), (10, vI (i : Int))] ∧ kk0 = S.length - i ∧ (i ≤ S.length) ∧ (cpd S S1 i) ∧ (Rows ww0 S1) ∧ HP Tr w ww0 [.cel g (sA S1) 33]) (S.length) [(0, .slice p S.length cp), (3, vS g S.length S.length), (9, vI (S.length : Int)), (10, vI 0)] ⟨rfl, rfl, rfl, rfl, trivial⟩ ⟨0, nilS S.length, rfl, rfl, Nat.zero_le _, ⟨by simp, fun j hj => by omega⟩, fun r hr => by rw [List.eq_of_mem_replicate hr]; exact ⟨⟨fun h => absurd h (by simp), Nat.le_refl _, by decide, fun x hx => by cases hx⟩, fun _ => rfl⟩, hH9⟩ ?_
 rintro kk l w7 ⟨i, S1, rfl, hkk, hi, hcp, hrows, hH8⟩ K6 hK6
 have hInv := hH8
 have hO : (_ : World).heap[g]? = some (.cells (sA S1) 33 (0, 0)) := HP.get hInv 0 rfl
 have hR0 := HP.ownB (A := []) hInv
 have hH9 := HP.startB hR0
 refine WC.seq fun K10 hK10 => WC.region ?_
 by_cases hlt : (i : Int) < (S.length : Int)
 ·
  refine WL.y (.bool true) 11 (x_lss rfl rfl rfl (dT (hlt))) (WL.k hK10 (WC.seq fun K11 hK11 => ?_))
  refine WC.yes rfl ?_
  refine WC.skip (WQ.then (hK11 _ _ _ (WC.seq fun K12 hK12 => WC.block (WC.seq fun K13 hK13 => WC.region (WL.z (vI (i : Int)) 12 (WL.z (vI (i : Int)) 4 (WL.k hK13 ?_)))))))
  obtain ⟨r, hr⟩ : ∃ r, S[i]? = some r := ⟨S[i]'(by omega), List.getElem?_eq_getElem _⟩
  obtain ⟨hr1, hr2, hr3, hr4⟩ := stX_at hr
  have hIR := (hS.below (HP.below hInv)).inn r hr4
  obtain ⟨gS, oS, hpS, hrowS⟩ := (hS.below (HP.below hInv)).row (by omega)
  have hxn := hx r hr4
  subst hpS
  refine WC.region (WL.z (vS g S.length S.length) 13 (WL.z (vI (i : Int)) 14 (WL.z (.slice (some ⟨gS, oS, none⟩) S.length cp) 15 (WL.z (vI (i : Int)) 16 (WL.y (vP gS (oS + i)) 17 (x_ix (i) (oS + i) Try.underlying24 sz33) (WL.y (.slice r.q r.xs.length r.c) 18 (x_load rfl rfl Try.underlying33 rfl (by have q9 := hrowS i (by omega); rw [hr2] at q9; exact q9 0 _ rfl)) ?_))))))
  refine WL.c 72 #[.slice r.q r.xs.length r.c] 19 ?_
  refine (clone_any r _ hIR hxn).mono ?_
  rintro e w14 ⟨pv, cp9, rfl, hb15⟩
  refine ⟨_, rfl, ?_⟩
  have hH16 : HP (Out [.cel g (sA S1) 33]) w7 _ [.cel g (sA S1) 33, rowI' pv cp9 r.xs] := HP.trans hH9 hb15
  refine WL.y (vP g i) 20 (x_ix (i) (i) Try.underlying24 sz33) ?_
  refine WL.store (c' := sA (S1.set i ⟨pv, r.xs, cp9⟩)) (H2 := _) 0 hH16 rfl rfl rfl rfl rfl rfl sz33 rfl (by rw [sA_size, hcp.1]; omega) (sA_set (r := ⟨pv, r.xs, cp9⟩)) rfl ?_
  intro w8 hB8
  have hH17 : HP (Out [.cel g (sA S1) 33]) w7 _ [.cel g (sA (S1.set i ⟨pv, r.xs, cp9⟩)) 33, rowI' pv cp9 r.xs] := hB8
  refine WL.nil (WQ.inNormal (WQ.then (hK12 _ _ _ (WC.sb [(0, .slice (some ⟨gS, oS, none⟩) S.length cp), (3, vS g S.length S.length), (4, vI (i : Int)), (9, vI (S.length : Int)), (10, vI (i : Int)), (11, .bool true)] (WC.region (WL.y (vI ((i + 1 : Nat) : Int)) 21 (x_ad (((i + 1 : Nat) : Int))) (WL.z (vI ((i + 1 : Nat) : Int)) 10 (WL.nil ?_))))))))
  have hRw := (hrows.keep hO hH17).set (k := i) (row_InR (HP.get hH17 1 rfl) hIR.hw)
  refine WQ.sb [(0, .slice (some ⟨gS, oS, none⟩) S.length cp), (3, vS g S.length S.length), (9, vI (S.length : Int)), (10, vI ((i + 1 : Nat) : Int))] ?_
  refine WQ.then (hK6 _ _ _ (by omega) ⟨i + 1, S1.set i ⟨pv, r.xs, cp9⟩, rfl, rfl, by omega, cpd_step hcp (by omega) (by rw [hr2]), hRw, (HP.drop (HP.exch (A := []) hInv hH17) 1)⟩)
 ·
  refine WL.y (.bool false) 11 (x_lss rfl rfl rfl (dF (hlt))) (WL.k hK10 (WC.seq fun K18 hK18 => ?_))
  refine WC.no rfl ?_
  refine WC.exit (WQ.thenExit (WQ.thenExit (WQ.inExit (WQ.then (hK4 _ _ _ (WC.seq fun K19 hK19 => WC.region (WL.z (vS g S.length S.length) 22 (WL.z (vS g S.length S.length) 2 (WL.nil (WQ.then ?_))))))))))
  refine hK19 _ _ _ (WC.ret ?_)
  refine WQ.ret1 2 rfl rfl ?_
  have hil : i = S.length := by omega
  rw [hil] at hcp
  exact ⟨g, S1, rfl, cpd_end hcp, hInv, hrows⟩
end Ca
end Go.Proofs.Ytmjnakhpekbenaa
namespace Go.Proofs.Ytmjnakhpekbenaa
set_option maxRecDepth 20000
set_option maxHeartbeats 4000000
open Go.RowKit Fw
namespace Ca
def allW (xs : List Int) : Bool := xs.all fun x => wn x 0 999
theorem allW_yes {xs : List Int} (h : ∀ i, i < xs.length → wn (xs.getD i 0) 0 999 = true) : allW xs = true := List.all_eq_true.2 fun x hx => by
  obtain ⟨i, hi, rfl⟩ := List.mem_iff_getElem.1 hx
  have := h i hi
  simpa [List.getD_eq_getElem?_getD, hi] using this
theorem allW_no {xs : List Int} {i : Nat} (hi : i < xs.length) (h : wn (xs.getD i 0) 0 999 = false) : allW xs = false := by
  cases q : allW xs with
  | false => rfl
  | true =>
    have := List.all_eq_true.1 q xs[i] (List.getElem_mem hi)
    have e : xs.getD i 0 = xs[i] := by simp [List.getD_eq_getElem?_getD, hi]
    rw [e, this] at h; cases h
theorem wrong_any (a : Int) (w : World) :
    Calls Try.prog 47 #[vI a] w fun e w' => e = .returned (.bool (!wn a 0 999)) ∧ Below w.heap.size w w' := by
  refine calls_of Try.func47 rfl (m := 6) rfl [(0, vI a)] (Fr_enter [vI a] 6 (Nat.le_of_ble_eq_true rfl)) ?_
  have hH1 : HP Tr w w [] := HP.refl w
  refine WC.seq fun K2 hK2 => WC.region (WL.z (.bool false) 2 (WL.k hK2 (WC.seq fun K3 hK3 => WC.region (WL.z (vI a) 3 ?_))))
  refine WL.c 44 #[vI a, vI 0, vI 999] 4 ?_
  refine (within_any a 0 999 _).mono ?_
  rintro e w4 ⟨rfl, rfl⟩
  refine ⟨_, rfl, ?_⟩
  refine WL.z (.bool (!(wn a 0 999))) 5 (WL.z (.bool (!(wn a 0 999))) 2 (WL.k hK3 (WC.ret ?_)))
  refine WQ.ret1 2 rfl rfl ?_
  exact ⟨rfl, HP.below hH1⟩
theorem indexW_any (q : Option Addr) (xs : List Int) (c : Nat) (w : World) (hI : InI w q xs) (hn : xs.length ≤ 281474976710656) :
  Calls Try.prog 71 #[.slice q xs.length c, .func (.func 47) #[] #[]] w fun e w' => ∃ r : Int, e = .returned (.int .i64 r) ∧ (decide (0 ≤ r) = !allW xs) ∧ Below w.heap.size w w' := by
 refine calls_of Try.func71 rfl (m := 19) rfl [(0, .slice q xs.length c), (1, .func (.func 47) #[] #[])] (Fr_enter [.slice q xs.length c, .func (.func 47) #[] #[]] 19 (Nat.le_of_ble_eq_true rfl)) ?_
 have hH1 : HP Tr w w [] := HP.refl w
 refine WC.seq fun K2 hK2 => WC.region (WL.z (vI 0) 4 (WL.k hK2 (WC.seq fun K3 hK3 => WC.seq fun K4 hK4 => WC.region (WL.z (.slice q xs.length c) 6 (WL.z (vI (xs.length : Int)) 7 (WL.z (vI 0) 8 ?_))))))
 refine WL.k hK4 (WC.block ?_)
 refine WC.loop (fun kk0 ll0 ww0 => ∃ (i : Nat), ll0 = [(0, .slice q xs.length c), (1, .func (.func 47) #[] #[]), (7, vI (xs.length : Int)), (8, vI (i : Int))] ∧ kk0 = xs.length - i ∧ (i ≤ xs.length) ∧ (∀ j, j < i → wn (xs.getD j 0) 0 999 = true) ∧ HP Tr w ww0 []) (xs.length) [(0, .slice q xs.length c), (1, .func (.func 47) #[] #[]), (7, vI (xs.length : Int)), (8, vI 0)] ⟨rfl, rfl, rfl, rfl, trivial⟩ ⟨0, rfl, rfl, Nat.zero_le _, fun j hj => by omega, hH1⟩ ?_
 rintro kk l w6 ⟨i, rfl, hkk, hi, hall, hH7⟩ K5 hK5
 refine WC.seq fun K8 hK8 => WC.region ?_
 by_cases hlt : (i : Int) < (xs.length : Int)
 ·
  refine WL.y (.bool true) 9 (x_lss rfl rfl rfl (dT (hlt))) (WL.k hK8 (WC.seq fun K9 hK9 => ?_))
  refine WC.yes rfl ?_
  refine WC.skip (WQ.then (hK9 _ _ _ (WC.seq fun K10 hK10 => WC.block (WC.seq fun K11 hK11 => WC.region (WL.z (vI (i : Int)) 10 (WL.z (vI (i : Int)) 5 (WL.k hK11 ?_)))))))
  refine WC.seq fun K12 hK12 => ?_
  obtain ⟨g, o, rfl, hrow⟩ := hI (by omega)
  refine WC.region (WL.z (.func (.func 47) #[] #[]) 11 (WL.z (.slice (some ⟨g, o, none⟩) xs.length c) 12 (WL.z (vI (i : Int)) 13 (WL.y (vP g (o + i)) 14 (x_ix (i) (o + i) Try.underlying33 sz3) (WL.y (vI (xs.getD i 0)) 15 (x_load rfl rfl Try.underlying3 rfl ((HP.oldRange hH7 trivial (hrow i (by omega))) 0 _ rfl)) ?_)))))
  refine WL.c 47 #[vI (xs.getD i 0)] 16 ?_
  refine (wrong_any _ _).mono ?_
  rintro e w13 ⟨rfl, hb14⟩
  refine ⟨_, rfl, ?_⟩
  have hH15 := HP.call hH7 hb14
  refine WL.k hK12 (WC.sb [(0, .slice (some ⟨g, o, none⟩) xs.length c), (1, .func (.func 47) #[] #[]), (5, vI (i : Int)), (7, vI (xs.length : Int)), (8, vI (i : Int)), (9, .bool true), (16, .bool (!wn (xs.getD i 0) 0 999))] ?_)
  rcases Bool.eq_false_or_eq_true (wn (xs.getD i 0) 0 999) with hw9 | hw9
  ·
   refine WC.no (congrArg (fun b => some (Value.bool (!b))) hw9) ?_
   refine WC.skip (WQ.inNormal (WQ.then (hK10 _ _ _ (WC.region (WL.y (vI ((i + 1 : Nat) : Int)) 18 (x_ad (((i + 1 : Nat) : Int))) (WL.z (vI ((i + 1 : Nat) : Int)) 8 (WL.nil (WQ.sb [(0, .slice (some ⟨g, o, none⟩) xs.length c), (1, .func (.func 47) #[] #[]), (7, vI (xs.length : Int)), (8, vI ((i + 1 : Nat) : Int))] ?_))))))))
   refine WQ.then (hK5 _ _ _ (by omega) ⟨i + 1, rfl, rfl, by omega, fun j hj => by
        by_cases q9 : j = i
        · subst q9; simpa using hw9
        · exact hall j (by omega), hH15⟩)
  ·
   refine WC.yes (congrArg (fun b => some (Value.bool (!b))) hw9) ?_
   refine WC.seq fun K16 hK16 => WC.region (WL.z (vI (i : Int)) 17 (WL.z (vI (i : Int)) 4 (WL.k hK16 (WC.ret ?_))))
   refine WQ.inRet ?_
   refine WQ.thenRet ?_
   refine WQ.thenRet ?_
   refine WQ.inRet ?_
   refine WQ.thenRet ?_
   refine WQ.ret1 4 rfl rfl ?_
   exact ⟨(i : Int), rfl, by rw [allW_no (show i < xs.length by omega) (by simpa using hw9)]; simp, HP.below hH15⟩
 ·
  refine WL.y (.bool false) 9 (x_lss rfl rfl rfl (dF (hlt))) (WL.k hK8 (WC.seq fun K17 hK17 => ?_))
  refine WC.no rfl ?_
  refine WC.exit (WQ.thenExit (WQ.thenExit (WQ.inExit (WQ.then (hK3 _ _ _ (WC.seq fun K18 hK18 => WC.region (WL.z (vI (-1)) 4 (WL.k hK18 ?_))))))))
  refine WC.ret ?_
  refine WQ.ret1 4 rfl rfl ?_
  exact ⟨-1, rfl, by rw [allW_yes (fun j hj => hall j (by omega))]; decide, HP.below hH7⟩
theorem containsW_any (q : Option Addr) (xs : List Int) (c : Nat) (w : World) (hI : InI w q xs) (hn : xs.length ≤ 281474976710656) :
    Calls Try.prog 48 #[.slice q xs.length c, .func (.func 47) #[] #[]] w fun e w' => e = .returned (.bool (!allW xs)) ∧ Below w.heap.size w w' := by
  refine calls_of Try.func48 rfl (m := 9) rfl [(0, .slice q xs.length c), (1, .func (.func 47) #[] #[])] (Fr_enter [.slice q xs.length c, .func (.func 47) #[] #[]] 9 (Nat.le_of_ble_eq_true rfl)) ?_
  have hH1 : HP Tr w w [] := HP.refl w
  refine WC.seq fun K2 hK2 => WC.region (WL.z (.bool false) 4 (WL.k hK2 (WC.seq fun K3 hK3 => WC.region (WL.z (.slice q xs.length c) 5 (WL.z (.func (.func 47) #[] #[]) 6 ?_)))))
  refine WL.c 71 #[.slice q xs.length c, .func (.func 47) #[] #[]] 7 ?_
  refine (indexW_any q xs c _ (hI.below (HP.below hH1)) hn).mono ?_
  rintro e w4 ⟨r, rfl, hr, hb5⟩
  refine ⟨_, rfl, ?_⟩
  have hH6 := HP.call hH1 hb5
  by_cases h8 : (0 : Int) ≤ r
  ·
    refine WL.y (.bool true) 8 (x_geq rfl rfl rfl (dT (h8))) (WL.z (.bool true) 4 (WL.k hK3 (WC.ret ?_)))
    refine WQ.ret1 4 rfl rfl ?_
    exact ⟨by rw [← hr, decide_eq_true h8], HP.below hH6⟩
  ·
    refine WL.y (.bool false) 8 (x_geq rfl rfl rfl (dF (h8))) (WL.z (.bool false) 4 (WL.k hK3 (WC.ret ?_)))
    refine WQ.ret1 4 rfl rfl ?_
    exact ⟨by rw [← hr, decide_eq_false h8], HP.below hH6⟩
end Ca
end Go.Proofs.Ytmjnakhpekbenaa
namespace Go.Proofs.Ytmjnakhpekbenaa
open Go.RowKit Fw
namespace Ca
theorem idx_spec (x : Int) (xs : List Int) : (Lib.idxOf xs x < 0 ∧ ∀ i, i < xs.length → xs.getD i 0 ≠ x) ∨ (∃ k : Nat, Lib.idxOf xs x = (k : Int) ∧ k < xs.length ∧ xs.getD k 0 = x ∧ ∀ j, j < k → xs.getD j 0 ≠ x) := by
  rw [idx_plc]
  unfold plcV
  rcases plc_spec x xs with ⟨h1, h2⟩ | ⟨k, h1, h2, h3, h4⟩
  · rw [h1]; exact .inl ⟨by decide, h2⟩
  · rw [h1]; exact .inr ⟨k, rfl, h2, h3, h4⟩
theorem okR_iff2 {s y k : Int} {xs : List Int} : okR s y k xs = true ↔ (xs.length : Int) ≤ y ∧ (∀ x ∈ xs, (0 ≤ x ∧ x ≤ 999) ∧ x.tmod s = k) ∧ xs.Nodup := by
  rw [okR_iff]
  have gd : ∀ i (h : i < xs.length), xs.getD i 0 = xs[i] := fun i h => by simp [List.getD_eq_getElem?_getD, h]
  refine ⟨fun ⟨h1, h2⟩ => ⟨h1, fun x hx => ?_, ?_⟩, fun ⟨h1, h2, h3⟩ => ⟨h1, fun i hi => ?_⟩⟩
  · obtain ⟨i, hi, rfl⟩ := List.mem_iff_getElem.1 hx
    have := h2 i hi
    simp only [okX, Bool.and_eq_true, decide_eq_true_eq, gd i hi] at this
    exact ⟨wn_iff.1 this.1, this.2.1⟩
  · refine List.pairwise_iff_getElem.2 fun i j hi hj hij e => ?_
    have := h2 j hj
    simp only [okX, Bool.and_eq_true, Bool.not_eq_true', gd j hj] at this
    have h4 := this.2.2
    have : xs[j] ∈ xs.take j := by
      rw [← e]
      exact List.mem_iff_getElem.2 ⟨i, by simp; omega, by simp⟩
    rw [List.contains_iff_mem.2 this] at h4
    cases h4
  · simp only [okX, Bool.and_eq_true, decide_eq_true_eq, Bool.not_eq_true', gd i hi]
    obtain ⟨q1, q2⟩ := h2 xs[i] (List.getElem_mem hi)
    refine ⟨wn_iff.2 q1, q2, ?_⟩
    cases q : (xs.take i).contains xs[i] with
    | false => rfl
    | true =>
      obtain ⟨j, hj, e⟩ := List.mem_iff_getElem.1 (List.contains_iff_mem.1 q)
      simp only [List.length_take] at hj
      simp only [List.getElem_take] at e
      exact absurd e (List.pairwise_iff_getElem.1 h3 j i (by omega) hi (by omega))
theorem erase_eq : ∀ {xs : List Int} {k : Nat} {x : Int}, xs.Nodup → k < xs.length → xs.getD k 0 = x → xs.eraseIdx k = xs.filter (fun z => z != x)
  | a :: r, 0, x, hn, hk, he => by
    have he : a = x := by simpa using he
    subst he
    have h1 : ∀ z ∈ r, a ≠ z := (List.pairwise_cons.1 hn).1
    rw [List.filter_cons_of_neg (by simp), List.filter_eq_self.2 fun z hz => by simpa using fun e => h1 z hz e.symm]
    rfl
  | a :: r, k + 1, x, hn, hk, he => by
    have he : r.getD k 0 = x := by simpa using he
    have hk' : k < r.length := by simpa using hk
    have hx : x ∈ r := by rw [← he]; simp [List.getD_eq_getElem?_getD, hk']
    have h1 : a ≠ x := (List.pairwise_cons.1 hn).1 x hx
    rw [List.filter_cons_of_pos (by simpa using h1), List.eraseIdx_cons_succ, erase_eq (List.pairwise_cons.1 hn).2 hk' he]
theorem not_mem_of {xs : List Int} {x : Int} (h : ∀ i, i < xs.length → xs.getD i 0 ≠ x) : x ∉ xs := fun hx => by
  obtain ⟨i, hi, e⟩ := List.mem_iff_getElem.1 hx
  exact h i hi (by simp [List.getD_eq_getElem?_getD, hi, e])
theorem filter_self {xs : List Int} {x : Int} (h : x ∉ xs) : xs.filter (fun z => z != x) = xs := List.filter_eq_self.2 fun z hz => by
  have : z ≠ x := fun e => h (e ▸ hz)
  simpa using this
def tcF (y x : Int) (xs : List Int) : List Int := x :: (xs.filter fun z => z != x).take (y.toNat - 1)
theorem tcX_eq {s y k x : Int} {xs : List Int} (h : okR s y k xs = true) (hy : 1 ≤ y) : tcX y x xs = tcF y x xs := by
  obtain ⟨h1, h2, h3⟩ := okR_iff2.1 h
  unfold tcX tcF
  rcases idx_spec x xs with ⟨q1, q2⟩ | ⟨k0, q1, q2, q3, _⟩
  · have hx := not_mem_of q2
    rw [if_neg (by omega), filter_self hx]
    by_cases e : (xs.length : Int) = y
    · rw [if_pos e, show y.toNat - 1 = xs.length - 1 by omega]
    · rw [if_neg e, List.take_of_length_le (by omega)]
  · rw [if_pos (by omega), q1, Int.toNat_natCast, ← erase_eq h3 q2 q3, List.take_of_length_le]
    rw [List.length_eraseIdx_of_lt q2]; omega
theorem tcF_ok {s y k x : Int} {xs : List Int} (h : okR s y k xs = true) (hy : 1 ≤ y) (hx : 0 ≤ x ∧ x ≤ 999) (hk : x.tmod s = k) : okR s y k (tcF y x xs) = true := by
  obtain ⟨h1, h2, h3⟩ := okR_iff2.1 h
  have hs : ((xs.filter fun z => z != x).take (y.toNat - 1)).Sublist xs := (List.take_sublist _ _).trans List.filter_sublist
  refine okR_iff2.2 ⟨?_, fun z hz => ?_, ?_⟩
  · unfold tcF; simp; omega
  · rcases List.mem_cons.1 hz with rfl | hz
    · exact ⟨hx, hk⟩
    · exact h2 z (hs.subset hz)
  · refine List.pairwise_cons.2 ⟨fun z hz => ?_, h3.sublist hs⟩
    have := (List.mem_filter.1 (List.mem_of_mem_take hz)).2
    intro e; subst e; simp at this
def setN (s l a : Int) : Nat := ((a / l).tmod s).toNat
def stp (s y l a : Int) (X : List (List Int)) : List (List Int) := X.set (setN s l a) (tcX y (a / l) (X.getD (setN s l a) []))
def hitN (s l a : Int) (X : List (List Int)) : Nat := if 0 ≤ Lib.idxOf (X.getD (setN s l a) []) (a / l) then 1 else 0
def runX (s y l : Int) : List Int → List (List Int) × Nat → List (List Int) × Nat
  | [], p => p
  | a :: r, p => runX s y l r (stp s y l a p.1, p.2 + hitN s l a p.1)
theorem run_drop {s y l : Int} {zs : List Int} {i : Nat} (h : i < zs.length) (p : List (List Int) × Nat) : runX s y l (zs.drop i) p = runX s y l (zs.drop (i + 1)) (stp s y l (zs.getD i 0) p.1, p.2 + hitN s l (zs.getD i 0) p.1) := by
  rw [List.drop_eq_getElem_cons h]
  have e : zs.getD i 0 = zs[i] := by simp [List.getD_eq_getElem?_getD, h]
  rw [e]; rfl
theorem line_bd {l a : Int} (hl : 1 ≤ l ∧ l ≤ 8) (ha : 0 ≤ a ∧ a ≤ 999) : 0 ≤ a / l ∧ a / l ≤ 999 := ⟨Int.ediv_nonneg ha.1 (by omega), Int.le_trans (Int.ediv_le_self _ ha.1) ha.2⟩
theorem setN_spec {s l a : Int} (hs : 1 ≤ s ∧ s ≤ 8) (hl : 1 ≤ l ∧ l ≤ 8) (ha : 0 ≤ a ∧ a ≤ 999) : (a / l).tmod s = (setN s l a : Int) ∧ (setN s l a : Int) < s := by
  have h0 := (line_bd hl ha).1
  have h1 : (a / l).tmod s = (a / l) % s := Int.tmod_eq_emod_of_nonneg h0
  have h2 := Int.emod_nonneg (a / l) (show s ≠ 0 by omega)
  have h3 := Int.emod_lt_of_pos (a / l) (show 0 < s by omega)
  unfold setN
  rw [h1]; omega
theorem getD_set_eq {X : List (List Int)} {k : Nat} {r : List Int} (h : k < X.length) : (X.set k r).getD k [] = r := by simp [List.getD_eq_getElem?_getD, h]
theorem getD_set_ne {X : List (List Int)} {k j : Nat} {r : List Int} (h : k ≠ j) : (X.set k r).getD j [] = X.getD j [] := by simp [List.getD_eq_getElem?_getD, List.getElem?_set_ne h]
theorem okSt_stp {s y l m a : Int} {X : List (List Int)} (h : okSt s y l m X = true) (ha : 0 ≤ a ∧ a ≤ 999) : okSt s y l m (stp s y l a X) = true := by
  obtain ⟨h1, h2, h3⟩ := okSt_iff.1 h
  obtain ⟨hs, hy, hl, -⟩ := vG_iff.1 h1
  obtain ⟨e1, e2⟩ := setN_spec hs hl ha
  have hk : setN s l a < X.length := by omega
  refine okSt_iff.2 ⟨h1, by unfold stp; simpa using h2, fun k hk2 => ?_⟩
  unfold stp at hk2 ⊢
  by_cases e : setN s l a = k
  · subst e
    rw [getD_set_eq hk, tcX_eq (h3 _ hk) hy.1]
    exact tcF_ok (h3 _ hk) hy.1 (line_bd hl ha) e1
  · rw [getD_set_ne e]
    exact h3 k (by simpa using hk2)
theorem stp_length (s y l a : Int) (X : List (List Int)) : (stp s y l a X).length = X.length := by simp [stp]
theorem run_length (s y l : Int) : ∀ (zs : List Int) (p : List (List Int) × Nat), (runX s y l zs p).1.length = p.1.length
  | [], _ => rfl
  | a :: r, p => by rw [runX, run_length s y l r, stp_length]
theorem allW_iff {xs : List Int} : allW xs = true ↔ ∀ x ∈ xs, 0 ≤ x ∧ x ≤ 999 := by
  unfold allW
  rw [List.all_eq_true]
  exact ⟨fun h x hx => wn_iff.1 (h x hx), fun h x hx => wn_iff.2 (h x hx)⟩
theorem stX_set (S : List SlI) (k : Nat) (r : SlI) : stX (S.set k r) = (stX S).set k r.xs := by simp [stX, List.map_set]
end Ca
end Go.Proofs.Ytmjnakhpekbenaa
namespace Go.Proofs.Ytmjnakhpekbenaa
set_option maxRecDepth 20000
set_option maxHeartbeats 4000000
open Go.RowKit Fw
namespace Ca
def runOk (s y l m : Int) (X : List (List Int)) (zs : List Int) : Bool := okSt s y l m X && (decide ((zs.length : Int) ≤ 1000) && allW zs)
theorem runOk_iff {s y l m : Int} {X : List (List Int)} {zs : List Int} : runOk s y l m X zs = true ↔ okSt s y l m X = true ∧ (zs.length : Int) ≤ 1000 ∧ allW zs = true := by simp [runOk]
def RunR (s y l m : Int) (S : List SlI) (zs : List Int) (w : World) (e : Ending) (w' : World) : Prop :=
  (runOk s y l m (stX S) zs = false ∧ e = .returned (.tuple #[.slice none 0 0, vI 0, vI 1]) ∧ Below w.heap.size w w') ∨
  (runOk s y l m (stX S) zs = true ∧ ∃ g S', e = .returned (.tuple #[.slice (some ⟨g, 0, none⟩) S.length S.length, vI (((runX s y l zs (stX S, 0)).2 : Nat) : Int), vI 0]) ∧ stX S' = (runX s y l zs (stX S, 0)).1 ∧ HP Tr w w' [.cel g (sA S') 33] ∧ Rows w' S')
theorem ValidState_at {s y l m : Int} {S : List SlI} {r : Bool} (h : okSt s y l m (stX S) = r) (p : Option Addr) (cp : Nat) (w : World) (hS : InS2 w p S) (hn : S.length ≤ 281474976710656) :
    Calls Try.prog 15 #[.agg #[vI s, vI y, vI l, vI m], .slice p S.length cp] w fun e w' => e = .returned (.bool r) ∧ Below w.heap.size w w' := h ▸ ValidState_any s y l m p S cp w hS hn
theorem containsW_at {xs : List Int} {r : Bool} (h : allW xs = r) (q : Option Addr) (c : Nat) (w : World) (hI : InI w q xs) (hn : xs.length ≤ 281474976710656) :
    Calls Try.prog 48 #[.slice q xs.length c, .func (.func 47) #[] #[]] w fun e w' => e = .returned (.bool (!r)) ∧ Below w.heap.size w w' := h ▸ containsW_any q xs c w hI hn
theorem okSt_rows {s y l m : Int} {S : List SlI} (h : okSt s y l m (stX S) = true) : (S.length : Int) = s ∧ ∀ r ∈ S, r.xs.length ≤ 4 := by
  obtain ⟨h1, h2, h3⟩ := okSt_iff.1 h
  obtain ⟨hs, hy, -, -⟩ := vG_iff.1 h1
  rw [stX_len] at h2 h3
  refine ⟨h2, fun r hr => ?_⟩
  obtain ⟨i, hi, rfl⟩ := List.mem_iff_getElem.1 hr
  have := (okR_iff.1 (h3 i hi)).1
  rw [(stX_at (List.getElem?_eq_getElem hi)).1] at this
  omega
theorem okSt_wi {s y l m : Int} {X : List (List Int)} (h : okSt s y l m X = true) {k : Nat} (hk : k < X.length) : ∀ x ∈ X.getD k [], Wi x := fun x hx => by
  have := ((okR_iff2.1 ((okSt_iff.1 h).2.2 k hk)).2.1 x hx).1
  exact ⟨by omega, by omega⟩
theorem Run_any (s y l m : Int) (p : Option Addr) (S : List SlI) (cp : Nat) (q2 : Option Addr) (zs : List Int) (c2 : Nat) (w : World) (hS : InS2 w p S) (hn : S.length ≤ 281474976710656) (hI : InI w q2 zs) (hzn : zs.length ≤ 281474976710656) :
  Calls Try.prog 17 #[.agg #[vI s, vI y, vI l, vI m], .slice p S.length cp, .slice q2 zs.length c2] w (RunR s y l m S zs w) := by
 refine calls_of Try.func17 rfl (m := 45) rfl [(0, .agg #[vI s, vI y, vI l, vI m]), (1, .slice p S.length cp), (2, .slice q2 zs.length c2)] (Fr_enter [.agg #[vI s, vI y, vI l, vI m], .slice p S.length cp, .slice q2 zs.length c2] 45 (Nat.le_of_ble_eq_true rfl)) ?_
 have hH1 : HP Tr w w [] := HP.refl w
 refine WC.seq fun K2 hK2 => WC.region ?_
 refine WL.alloc (c := #[vI s, vI y, vI l, vI m]) (T := 23) hH1 3 rfl (by decide) rfl rfl (fun b3 => vP b3 0) (by kernel_rfl) (fun b3 w3 hw3 => ?_)
 have hH4 : HP Tr w w3 [.cel b3 #[vI s, vI y, vI l, vI m] 23] := hw3.2
 have nb3 := hw3.1
 clear hw3
 refine WL.z (.slice none 0 0) 6 (WL.z (vI 0) 7 (WL.z (vI 0) 8 (WL.k hK2 (WC.seq fun K5 hK5 => WC.region (WL.z (.func (.func 47) #[] #[]) 9 (WL.k hK5 ?_))))))
 refine WC.seq fun K6 hK6 => WC.seq fun K7 hK7 => WC.region (WL.y (.agg #[vI s, vI y, vI l, vI m]) 14 (x_loadS (cs := [vI s, vI y, vI l, vI m]) rfl rfl Try.underlying23 rfl sz23 (HP.range hH4 0 rfl rfl)) (WL.z (.slice p S.length cp) 15 ?_))
 rcases Bool.eq_false_or_eq_true (okSt s y l m (stX S)) with hv | hv
 ·
  refine WL.c 15 #[.agg #[vI s, vI y, vI l, vI m], .slice p S.length cp] 16 ?_
  refine (ValidState_at hv p cp _ (hS.below (HP.below hH4)) hn).mono ?_
  rintro e w8 ⟨rfl, hb9⟩
  refine ⟨_, rfl, ?_⟩
  have hH10 := HP.call hH4 hb9
  refine WL.z (.bool false) 17 (WL.z (.bool false) 18 (WL.z (.slice q2 zs.length c2) 19 (WL.z (vI (zs.length : Int)) 20 ?_)))
  by_cases hlen : (1000 : Int) < (zs.length : Int)
  ·
   refine WL.y (.bool true) 21 (x_gtr rfl rfl rfl (dT (hlen))) (WL.z (.bool true) 22 (WL.z (.bool true) 23 (WL.p 24 (WL.p 25 (WL.p 26 (WL.z (.bool true) 27 (WL.k hK7 (WC.sb [(0, .agg #[vI s, vI y, vI l, vI m]), (1, .slice p S.length cp), (2, .slice q2 zs.length c2), (3, vP b3 0), (6, .slice none 0 0), (7, vI 0), (8, vI 0), (9, .func (.func 47) #[] #[]), (27, .bool true)] ?_))))))))
   refine WC.yes rfl ?_
   refine WC.seq fun K11 hK11 => ?_
   have hno : runOk s y l m (stX S) zs = false := by unfold runOk; rw [hv, decide_eq_false (by omega)]; rfl
   refine WC.region (WL.z (.slice none 0 0) 6 (WL.z (vI 0) 7 (WL.z (vI 1) 8 (WL.k hK11 (WC.ret ?_)))))
   refine WQ.thenRet ?_
   refine WQ.ret3 6 7 8 rfl rfl rfl rfl ?_
   exact .inl ⟨hno, rfl, HP.below hH10⟩
  ·
   refine WL.y (.bool false) 21 (x_gtr rfl rfl rfl (dF (hlen))) (WL.z (.bool false) 22 (WL.z (.bool false) 23 (WL.z (.slice q2 zs.length c2) 24 (WL.z (.func (.func 47) #[] #[]) 25 ?_))))
   rcases Bool.eq_false_or_eq_true (allW zs) with ha | ha
   ·
    refine WL.c 48 #[.slice q2 zs.length c2, .func (.func 47) #[] #[]] 26 ?_
    refine (containsW_at ha q2 c2 _ (hI.below (HP.below hH10)) hzn).mono ?_
    rintro e w12 ⟨rfl, hb13⟩
    refine ⟨_, rfl, ?_⟩
    have hH14 := HP.call hH10 hb13
    refine WL.z (.bool false) 27 (WL.k hK7 (WC.sb [(0, .agg #[vI s, vI y, vI l, vI m]), (1, .slice p S.length cp), (2, .slice q2 zs.length c2), (3, vP b3 0), (6, .slice none 0 0), (7, vI 0), (8, vI 0), (9, .func (.func 47) #[] #[]), (27, .bool false)] ?_))
    refine WC.no rfl ?_
    refine WC.skip (WQ.then (hK6 _ _ _ (WC.seq fun K15 hK15 => WC.region (WL.z (.slice p S.length cp) 28 ?_))))
    have hyes : runOk s y l m (stX S) zs = true := runOk_iff.2 ⟨hv, by omega, ha⟩
    obtain ⟨hSs, hrl⟩ := okSt_rows hv
    obtain ⟨⟨hs1, hs2⟩, ⟨hy1, hy2⟩, ⟨hl1, hl2⟩, -⟩ := vG_iff.1 (okSt_iff.1 hv).1
    refine WL.c 49 #[.slice p S.length cp] 29 ?_
    refine (copied_any p S cp _ (hS.below (HP.below hH14)) (by omega) (fun r hr => by have := hrl r hr; omega)).mono ?_
    rintro e w16 ⟨g, S1, rfl, hX1, hb17, hR1⟩
    refine ⟨_, rfl, ?_⟩
    have hH18 : HP Tr w _ [.cel b3 #[vI s, vI y, vI l, vI m] 23, .cel g (sA S1) 33] := HP.trans hH14 hb17
    refine WL.z (vS g S.length S.length) 10 (WL.z (vI 0) 11 (WL.k hK15 (WC.seq fun K19 hK19 => WC.seq fun K20 hK20 => WC.region (WL.z (.slice q2 zs.length c2) 30 (WL.z (vI (zs.length : Int)) 31 (WL.z (vI 0) 32 (WL.nil ?_)))))))
    refine WQ.then (hK20 _ _ _ (WC.block ?_))
    refine WC.loop (fun kk0 ll0 ww0 => ∃ (i : Nat) (S2 : List SlI) (h : Nat), ll0 = [(2, .slice q2 zs.length c2), (3, vP b3 0), (10, vS g S.length S.length), (11, vI (h : Int)), (30, .slice q2 zs.length c2), (31, vI (zs.length : Int)), (32, vI (i : Int))] ∧ kk0 = zs.length - i ∧ (i ≤ zs.length) ∧ (runX s y l (zs.drop i) (stX S2, h) = runX s y l zs (stX S, 0)) ∧ (Rows ww0 S2) ∧ (okSt s y l m (stX S2) = true) ∧ (h ≤ i) ∧ (S2.length = S.length) ∧ HP Tr w ww0 [.cel b3 #[vI s, vI y, vI l, vI m] 23, .cel g (sA S2) 33]) (zs.length) [(2, .slice q2 zs.length c2), (3, vP b3 0), (10, vS g S.length S.length), (11, vI 0), (30, .slice q2 zs.length c2), (31, vI (zs.length : Int)), (32, vI 0)] ⟨rfl, rfl, rfl, rfl, rfl, rfl, rfl, trivial⟩ ⟨0, S1, 0, rfl, rfl, Nat.zero_le _, by rw [List.drop_zero, hX1], hR1, by rw [hX1]; exact hv, Nat.le_refl _, by rw [← stX_len S1, hX1, stX_len], hH18⟩ ?_
    rintro kk l w22 ⟨i, S2, h, rfl, hkk, hi, hrun, hrows, hok, hh, hlS, hH23⟩ K21 hK21
    refine WC.seq fun K24 hK24 => WC.region ?_
    by_cases hlt : (i : Int) < (zs.length : Int)
    ·
     refine WL.y (.bool true) 33 (x_lss rfl rfl rfl (dT (hlt))) (WL.k hK24 (WC.seq fun K25 hK25 => ?_))
     refine WC.yes rfl ?_
     refine WC.skip (WQ.then (hK25 _ _ _ (WC.seq fun K26 hK26 => WC.block (WC.seq fun K27 hK27 => ?_))))
     obtain ⟨gz, oz, hqz, hrowz⟩ := hI (by omega)
     subst hqz
     refine WC.region (WL.y (vP gz (oz + i)) 34 (x_ix (i) (oz + i) Try.underlying33 sz3) (WL.y (vI (zs.getD i 0)) 35 (x_load rfl rfl Try.underlying3 rfl ((HP.oldRange hH23 trivial (hrowz i (by omega))) 0 _ rfl)) (WL.z (vI (zs.getD i 0)) 13 (WL.k hK27 (WC.seq fun K28 hK28 => WC.region (WL.y (.agg #[vI s, vI y, vI l, vI m]) 36 (x_loadS (cs := [vI s, vI y, vI l, vI m]) rfl rfl Try.underlying23 rfl sz23 (HP.range hH23 0 rfl rfl)) (WL.z (vS g S.length S.length) 37 (WL.z (vI (zs.getD i 0)) 38 ?_))))))))
     have haz : 0 ≤ zs.getD i 0 ∧ zs.getD i 0 ≤ 999 := allW_iff.1 ha _ (by simp [List.getD_eq_getElem?_getD, show i < zs.length by omega])
     obtain ⟨hk1, hk2⟩ := setN_spec ⟨hs1, hs2⟩ ⟨hl1, hl2⟩ haz
     obtain ⟨⟨q9, xs9, c9⟩, hkS⟩ : ∃ r, S2[setN s l (zs.getD i 0)]? = some r := ⟨S2[setN s l (zs.getD i 0)]'(by omega), List.getElem?_eq_getElem _⟩
     obtain ⟨hr1, hr2, hr3, hr4⟩ := stX_at hkS
     have hrl2 := (okSt_rows hok).2 _ hr4
     simp only [] at hr1 hrl2
     have hRk := hrows _ hr4
     have hO : (_ : World).heap[g]? = some (.cells (sA S2) 33 (0, 0)) := HP.get hH23 1 rfl
     refine WL.c 50 #[.agg #[vI s, vI y, vI l, vI m], vS g S.length S.length, vI (zs.getD i 0)] 39 ?_
     refine (touch_any g S.length S.length S2 s y l m (zs.getD i 0) (setN s l (zs.getD i 0)) q9 xs9 c9 _ (HP.ownB (A := [Go.Proofs.Ytmjnakhpekbenaa.Fw.Ent.cel b3 #[vI s, vI y, vI l, vI m] 23]) hH23) ⟨hs1, hs2⟩ ⟨hl1, hl2⟩ haz ⟨hy1, hy2⟩ hk1 hkS hRk.1 hRk.2 (by omega) hlS).mono ?_
     rintro e w9 ⟨pv, cp9, rfl, hb9⟩
     refine ⟨_, rfl, ?_⟩
     have hok2 := okSt_stp hok haz
     have hstp : stX (S2.set (setN s l (zs.getD i 0)) ⟨pv, tcX y (zs.getD i 0 / l) xs9, cp9⟩) = stp s y l (zs.getD i 0) (stX S2) := by unfold stp; rw [stX_set, hr1]
     have hwi9 : ∀ x ∈ tcX y (zs.getD i 0 / l) xs9, Wi x := by have q8 := okSt_wi hok2 (k := setN s l (zs.getD i 0)) (by rw [stp_length, stX_len]; exact hr3); rw [← hstp, stX_set, getD_set_eq (by rw [stX_len]; exact hr3)] at q8; exact q8
     have hrows2 := (hrows.keep hO hb9).set (k := setN s l (zs.getD i 0)) (row_InR (HP.get hb9 1 rfl) hwi9)
     have hH29 : HP Tr w _ [.cel b3 #[vI s, vI y, vI l, vI m] 23, .cel g (sA (S2.set (setN s l (zs.getD i 0)) ⟨pv, tcX y (zs.getD i 0 / l) xs9, cp9⟩)) 33, rowI' pv cp9 (tcX y (zs.getD i 0 / l) xs9)] := HP.exch (A := [Go.Proofs.Ytmjnakhpekbenaa.Fw.Ent.cel b3 #[vI s, vI y, vI l, vI m] 23]) hH23 hb9
     refine WL.k hK28 ?_
     rcases Bool.eq_false_or_eq_true ((decide (0 ≤ Lib.idxOf xs9 (zs.getD i 0 / l)))) with hd | hd
     ·
      refine WC.yes (congrArg (fun b => some (Value.bool b)) hd) ?_
      refine WC.region (WL.z (vI (h : Int)) 40 (WL.y (vI ((h + 1 : Nat) : Int)) 41 (x_ad (((h + 1 : Nat) : Int))) (WL.z (vI ((h + 1 : Nat) : Int)) 11 (WL.nil (WQ.inNormal (WQ.then (hK26 _ _ _ (WC.sb [(2, .slice (some ⟨gz, oz, none⟩) zs.length c2), (3, vP b3 0), (10, vS g S.length S.length), (11, vI ((h + 1 : Nat) : Int)), (13, vI (zs.getD i 0)), (30, .slice (some ⟨gz, oz, none⟩) zs.length c2), (31, vI (zs.length : Int)), (32, vI (i : Int)), (33, .bool true), (39, .bool (decide (0 ≤ Lib.idxOf xs9 (zs.getD i 0 / l))))] (WC.region (WL.y (vI ((i + 1 : Nat) : Int)) 42 (x_ad (((i + 1 : Nat) : Int))) (WL.z (vI ((i + 1 : Nat) : Int)) 32 ?_)))))))))))
      refine WL.nil ?_
      have hhit : hitN s l (zs.getD i 0) (stX S2) = 1 := by unfold hitN; rw [hr1, if_pos (of_decide_eq_true hd)]
      refine WQ.sb [(2, .slice (some ⟨gz, oz, none⟩) zs.length c2), (3, vP b3 0), (10, vS g S.length S.length), (11, vI ((h + 1 : Nat) : Int)), (30, .slice (some ⟨gz, oz, none⟩) zs.length c2), (31, vI (zs.length : Int)), (32, vI ((i + 1 : Nat) : Int))] ?_
      refine WQ.then (hK21 _ _ _ (by omega) ⟨i + 1, S2.set (setN s l (zs.getD i 0)) ⟨pv, tcX y (zs.getD i 0 / l) xs9, cp9⟩, h + 1, rfl, rfl, by omega, by rw [← hrun, run_drop (show i < zs.length by omega), hstp, hhit], hrows2, by rw [hstp]; exact hok2, by omega, by simpa using hlS, (HP.drop hH29 2)⟩)
     ·
      refine WC.no (congrArg (fun b => some (Value.bool b)) hd) ?_
      refine WC.skip (WQ.inNormal (WQ.then (hK26 _ _ _ (WC.region (WL.y (vI ((i + 1 : Nat) : Int)) 42 (x_ad (((i + 1 : Nat) : Int))) (WL.z (vI ((i + 1 : Nat) : Int)) 32 (WL.nil ?_)))))))
      have hhit : hitN s l (zs.getD i 0) (stX S2) = 0 := by unfold hitN; rw [hr1, if_neg (of_decide_eq_false hd)]
      refine WQ.sb [(2, .slice (some ⟨gz, oz, none⟩) zs.length c2), (3, vP b3 0), (10, vS g S.length S.length), (11, vI (h : Int)), (30, .slice (some ⟨gz, oz, none⟩) zs.length c2), (31, vI (zs.length : Int)), (32, vI ((i + 1 : Nat) : Int))] ?_
      refine WQ.then (hK21 _ _ _ (by omega) ⟨i + 1, S2.set (setN s l (zs.getD i 0)) ⟨pv, tcX y (zs.getD i 0 / l) xs9, cp9⟩, h, rfl, rfl, by omega, by rw [← hrun, run_drop (show i < zs.length by omega), hstp, hhit]; rfl, hrows2, by rw [hstp]; exact hok2, by omega, by simpa using hlS, (HP.drop hH29 2)⟩)
    ·
     refine WL.y (.bool false) 33 (x_lss rfl rfl rfl (dF (hlt))) (WL.k hK24 (WC.seq fun K30 hK30 => ?_))
     refine WC.no rfl ?_
     refine WC.exit (WQ.thenExit (WQ.thenExit (WQ.inExit (WQ.then (hK19 _ _ _ (WC.seq fun K31 hK31 => ?_))))))
     rw [List.drop_eq_nil_of_le (show zs.length ≤ i by omega)] at hrun
     have hr8 : (stX S2, h) = runX s y l zs (stX S, 0) := hrun
     refine WC.region (WL.z (vS g S.length S.length) 43 (WL.z (vI (h : Int)) 44 (WL.z (vS g S.length S.length) 6 (WL.z (vI (h : Int)) 7 (WL.z (vI 0) 8 (WL.k hK31 (WC.ret ?_)))))))
     refine WQ.ret3 6 7 8 rfl rfl rfl rfl ?_
     exact .inr ⟨hyes, g, S2, by rw [← hr8], by rw [← hr8], HP.drop hH23 0, hrows⟩
   ·
    refine WL.c 48 #[.slice q2 zs.length c2, .func (.func 47) #[] #[]] 26 ?_
    refine (containsW_at ha q2 c2 _ (hI.below (HP.below hH10)) hzn).mono ?_
    rintro e w32 ⟨rfl, hb33⟩
    refine ⟨_, rfl, ?_⟩
    have hH34 := HP.call hH10 hb33
    refine WL.z (.bool true) 27 (WL.k hK7 (WC.sb [(0, .agg #[vI s, vI y, vI l, vI m]), (1, .slice p S.length cp), (2, .slice q2 zs.length c2), (3, vP b3 0), (6, .slice none 0 0), (7, vI 0), (8, vI 0), (9, .func (.func 47) #[] #[]), (27, .bool true)] ?_))
    refine WC.yes rfl ?_
    refine WC.seq fun K35 hK35 => ?_
    have hno : runOk s y l m (stX S) zs = false := by unfold runOk; rw [hv, ha, Bool.and_false, Bool.and_false]
    refine WC.region (WL.z (.slice none 0 0) 6 (WL.z (vI 0) 7 (WL.z (vI 1) 8 (WL.k hK35 (WC.ret ?_)))))
    refine WQ.thenRet ?_
    refine WQ.ret3 6 7 8 rfl rfl rfl rfl ?_
    exact .inl ⟨hno, rfl, HP.below hH34⟩
 ·
  refine WL.c 15 #[.agg #[vI s, vI y, vI l, vI m], .slice p S.length cp] 16 ?_
  refine (ValidState_at hv p cp _ (hS.below (HP.below hH4)) hn).mono ?_
  rintro e w36 ⟨rfl, hb37⟩
  refine ⟨_, rfl, ?_⟩
  have hH38 := HP.call hH4 hb37
  refine WL.z (.bool true) 17 (WL.z (.bool true) 18 (WL.p 19 (WL.p 20 (WL.p 21 (WL.z (.bool true) 22 (WL.z (.bool true) 23 (WL.p 24 (WL.p 25 (WL.p 26 (WL.z (.bool true) 27 (WL.nil ?_)))))))))))
  refine WQ.then (hK7 _ _ _ (WC.sb [(0, .agg #[vI s, vI y, vI l, vI m]), (1, .slice p S.length cp), (2, .slice q2 zs.length c2), (3, vP b3 0), (6, .slice none 0 0), (7, vI 0), (8, vI 0), (9, .func (.func 47) #[] #[]), (27, .bool true)] ?_))
  refine WC.yes rfl ?_
  refine WC.seq fun K39 hK39 => ?_
  have hno : runOk s y l m (stX S) zs = false := by unfold runOk; rw [hv]; rfl
  refine WC.region (WL.z (.slice none 0 0) 6 (WL.z (vI 0) 7 (WL.z (vI 1) 8 (WL.k hK39 (WC.ret ?_)))))
  refine WQ.thenRet ?_
  refine WQ.ret3 6 7 8 rfl rfl rfl rfl ?_
  exact .inl ⟨hno, rfl, HP.below hH38⟩
end Ca
end Go.Proofs.Ytmjnakhpekbenaa
namespace Go.Proofs.Ytmjnakhpekbenaa
set_option maxRecDepth 20000
set_option maxHeartbeats 4000000
open Go.RowKit Fw
namespace Ca
abbrev rowS (pv : Option Addr) (cp : Nat) (S : List SlI) : Ent := .own (.slice pv S.length cp) S.length (S.map slV) 33 1
theorem in_own {w : World} {pv : Option Addr} {cp : Nat} {S : List SlI} (h : Ent.holds w (rowS pv cp S)) (hr : ∀ r ∈ S, InR w r) : InS2 w pv S := ⟨fun h0 => by
    have h2 : w.ownsRow 0 33 1 (.slice pv S.length cp) S.length (S.map slV) := h
    have hc := @World.ownsRow.cells _ _ _ _ _ _ _ h2
    rcases h2.2 with ⟨h0', h1⟩ | ⟨g, cap, cur, hv, hb, hg, hnc, hm, hs, hx⟩
    · omega
    · cases hv
      refine ⟨g, 0, rfl, fun i hi j v hv => ?_⟩
      have hc := hc (g := g) rfl i (slV (S.getD i ⟨none, [], 0⟩)) (by simp [List.getD_eq_getElem?_getD, hi])
      match j, hv with
      | 0, hv => simp at hv; subst hv; simp only [hadd, Nat.zero_add, Nat.add_zero] at hc ⊢; exact hc
      | j + 1, hv => simp at hv, hr⟩
theorem in_cel {w : World} {g : Nat} {S : List SlI} (h : Ent.holds w (.cel g (sA S) 33)) (hr : Rows w S) : InS2 w (some ⟨g, 0, none⟩) S := ⟨fun h0 => ⟨g, 0, rfl, fun i hi j v hv => by
      match j, hv with
      | 0, hv =>
        simp at hv; subst hv
        have h2 : w.heap[g]? = some (.cells (sA S) 33 (0, 0)) := h
        rw [cell_of_row w g _ _ 33 (0, 0) h2]
        rw [Nat.zero_add, Nat.add_zero, sA_at (r := S.getD i ⟨none, [], 0⟩) (by simp [List.getD_eq_getElem?_getD, hi])]
        rfl
      | j + 1, hv => simp at hv⟩, fun r h => (hr r h).1⟩
def tOk (s y l m a : Int) (X : List (List Int)) : Bool := okSt s y l m X && wn a 0 999
def TouR (s y l m a : Int) (S : List SlI) (w : World) (e : Ending) (w' : World) : Prop :=
  (tOk s y l m a (stX S) = false ∧ e = .returned (.tuple #[.slice none 0 0, .bool false, vI 1]) ∧ Below w.heap.size w w') ∨
  (tOk s y l m a (stX S) = true ∧ ∃ pv cp S', e = .returned (.tuple #[.slice pv S'.length cp, .bool (decide (hitN s l a (stX S) = 1)), vI 0]) ∧ stX S' = stp s y l a (stX S) ∧ InS2 w' pv S' ∧ Below w.heap.size w w')
theorem one_run (s y l m a : Int) (X : List (List Int)) : runOk s y l m X [a] = tOk s y l m a X := by
  unfold runOk tOk allW
  simp
theorem hp_in {w0 w : World} {S : Nat → Prop} {H : List Ent} (h : HP S w0 w H) (i : Nat) {g : Nat} {v : Int} {xs : List Int} (hx : xs = [v]) (hi : H[i]? = some (.cel g #[vI v] 3)) : InI w (some ⟨g, 0, none⟩) xs := fun _ => ⟨g, 0, rfl, fun j hj k u hu => by
  subst hx
  have hj0 : j = 0 := by simpa using hj
  subst hj0
  match k, hu with
  | 0, hu => simp at hu; subst hu; exact h.cell i hi rfl
  | k + 1, hu => simp at hu⟩
theorem Touch_any (s y l m a : Int) (p : Option Addr) (S : List SlI) (cp : Nat) (w : World) (hS : InS2 w p S) (hn : S.length ≤ 281474976710656) :
  Calls Try.prog 12 #[.agg #[vI s, vI y, vI l, vI m], .slice p S.length cp, vI a] w (TouR s y l m a S w) := by
 refine calls_of Try.func12 rfl (m := 25) rfl [(0, .agg #[vI s, vI y, vI l, vI m]), (1, .slice p S.length cp), (2, vI a)] (Fr_enter [.agg #[vI s, vI y, vI l, vI m], .slice p S.length cp, vI a] 25 (Nat.le_of_ble_eq_true rfl)) ?_
 have hH1 : HP Tr w w [] := HP.refl w
 refine WC.seq fun K2 hK2 => WC.region ?_
 refine WL.alloc (c := #[vI s, vI y, vI l, vI m]) (T := 23) hH1 3 rfl (by decide) rfl rfl (fun b3 => vP b3 0) (by kernel_rfl) (fun b3 w3 hw3 => ?_)
 have hH4 : HP Tr w w3 [.cel b3 #[vI s, vI y, vI l, vI m] 23] := hw3.2
 have nb3 := hw3.1
 clear hw3
 refine WL.z (.slice none 0 0) 6 (WL.z (.bool false) 7 (WL.z (vI 0) 8 (WL.k hK2 (WC.seq fun K5 hK5 => WC.region (WL.y (.agg #[vI s, vI y, vI l, vI m]) 13 (x_loadS (cs := [vI s, vI y, vI l, vI m]) rfl rfl Try.underlying23 rfl sz23 (HP.range hH4 0 rfl rfl)) (WL.z (.slice p S.length cp) 14 (WL.z (vI a) 15 ?_)))))))
 refine WL.alloc (c := #[vI a]) (T := 3) hH4 16 rfl (by decide) rfl rfl (fun b16 => vS b16 1 1) (by kernel_rfl) (fun b16 w6 hw6 => ?_)
 have hH7 : HP Tr w w6 [.cel b3 #[vI s, vI y, vI l, vI m] 23, .cel b16 #[vI a] 3] := hw6.2
 have nb16 := hw6.1
 clear hw6
 refine WL.c 17 #[.agg #[vI s, vI y, vI l, vI m], .slice p S.length cp, vS b16 1 1] 17 ?_
 refine (Run_any s y l m p S cp (some ⟨b16, 0, none⟩) [a] 1 _ (hS.below (HP.below hH7)) hn (hp_in hH7 1 rfl rfl) (by simp)).mono ?_
 rintro e w4 (⟨hno, rfl, hb⟩ | ⟨hyes, g, S2, rfl, hX, hb, hR⟩)
 ·
  refine ⟨_, rfl, ?_⟩
  have hH8 := HP.call hH7 hb
  refine WL.z (.tuple #[.slice none 0 0, vI 0, vI 1]) 12 (WL.z (.slice none 0 0) 18 (WL.z (vI 0) 19 (WL.z (vI 1) 20 (WL.z (.slice none 0 0) 9 (WL.z (vI 0) 10 (WL.z (vI 1) 11 (WL.k hK5 (WC.sb [(0, .agg #[vI s, vI y, vI l, vI m]), (1, .slice p S.length cp), (2, vI a), (3, vP b3 0), (6, .slice none 0 0), (7, .bool false), (8, vI 0), (9, .slice none 0 0), (10, vI 0), (11, vI 1)] (WC.seq fun K9 hK9 => ?_)))))))))
  refine WC.region (WL.z (.slice none 0 0) 21 (WL.z (vI 0) 22 (WL.y (.bool false) 23 (x_eql rfl rfl rfl (by decide)) (WL.z (vI 1) 24 (WL.z (.slice none 0 0) 6 (WL.z (.bool false) 7 (WL.z (vI 1) 8 (WL.k hK9 (WC.sb [(0, .agg #[vI s, vI y, vI l, vI m]), (1, .slice p S.length cp), (2, vI a), (3, vP b3 0), (6, .slice none 0 0), (7, .bool false), (8, vI 1), (9, .slice none 0 0), (10, vI 0), (11, vI 1)] ?_)))))))))
  refine WC.ret ?_
  refine WQ.ret3 6 7 8 rfl rfl rfl rfl ?_
  exact .inl ⟨by rw [← one_run]; exact hno, rfl, HP.below hH8⟩
 ·
  refine ⟨_, rfl, ?_⟩
  obtain ⟨n9, hn9⟩ : ∃ n9, n9 = (runX s y l [a] (stX S, 0)).2 := ⟨_, rfl⟩
  rw [← hn9]
  have hh : n9 = hitN s l a (stX S) := by rw [hn9]; simp [runX]
  have hH10 : HP Tr w _ [.cel b3 #[vI s, vI y, vI l, vI m] 23, .cel b16 #[vI a] 3, .cel g (sA S2) 33] := HP.trans hH7 hb
  refine WL.z (.tuple #[vS g S.length S.length, vI (n9 : Int), vI 0]) 12 (WL.z (vS g S.length S.length) 18 (WL.z (vI (n9 : Int)) 19 (WL.z (vI 0) 20 (WL.z (vS g S.length S.length) 9 (WL.z (vI (n9 : Int)) 10 (WL.z (vI 0) 11 (WL.k hK5 (WC.sb [(0, .agg #[vI s, vI y, vI l, vI m]), (1, .slice p S.length cp), (2, vI a), (3, vP b3 0), (6, .slice none 0 0), (7, .bool false), (8, vI 0), (9, vS g S.length S.length), (10, vI (n9 : Int)), (11, vI 0)] (WC.seq fun K11 hK11 => ?_)))))))))
  refine WC.region (WL.z (vS g S.length S.length) 21 (WL.z (vI (n9 : Int)) 22 ?_))
  by_cases h23 : (n9 : Int) = 1
  ·
   refine WL.y (.bool true) 23 (x_eql rfl rfl rfl (dT (h23))) (WL.z (vI 0) 24 (WL.z (vS g S.length S.length) 6 (WL.z (.bool true) 7 (WL.z (vI 0) 8 (WL.k hK11 (WC.sb [(0, .agg #[vI s, vI y, vI l, vI m]), (1, .slice p S.length cp), (2, vI a), (3, vP b3 0), (6, vS g S.length S.length), (7, .bool true), (8, vI 0), (9, vS g S.length S.length), (10, vI (n9 : Int)), (11, vI 0)] (WC.ret ?_)))))))
   refine WQ.ret3 6 7 8 rfl rfl rfl rfl ?_
   exact .inr ⟨by rw [← one_run]; exact hyes, some ⟨g, 0, none⟩, S.length, S2, by rw [show S2.length = S.length by rw [← stX_len S2, hX, run_length, stX_len], decide_eq_true (by omega)], by rw [hX]; rfl, in_cel (HP.get hH10 2 rfl) hR, HP.below hH10⟩
  ·
   refine WL.y (.bool false) 23 (x_eql rfl rfl rfl (dF (h23))) (WL.z (vI 0) 24 (WL.z (vS g S.length S.length) 6 (WL.z (.bool false) 7 (WL.z (vI 0) 8 (WL.k hK11 (WC.sb [(0, .agg #[vI s, vI y, vI l, vI m]), (1, .slice p S.length cp), (2, vI a), (3, vP b3 0), (6, vS g S.length S.length), (7, .bool false), (8, vI 0), (9, vS g S.length S.length), (10, vI (n9 : Int)), (11, vI 0)] (WC.ret ?_)))))))
   refine WQ.ret3 6 7 8 rfl rfl rfl rfl ?_
   exact .inr ⟨by rw [← one_run]; exact hyes, some ⟨g, 0, none⟩, S.length, S2, by rw [show S2.length = S.length by rw [← stX_len S2, hX, run_length, stX_len], decide_eq_false (by omega)], by rw [hX]; rfl, in_cel (HP.get hH10 2 rfl) hR, HP.below hH10⟩
end Ca
end Go.Proofs.Ytmjnakhpekbenaa
namespace Go.Proofs.Ytmjnakhpekbenaa
set_option maxRecDepth 20000
set_option maxHeartbeats 4000000
open Go.RowKit Fw
namespace Ca
structure TbI where
  q : Option Addr
  t : List T2
  c : Nat
abbrev tbV (r : TbI) : Value := .slice r.q r.t.length r.c
def upA (A : Nat → TbI) (i : Nat) (r : TbI) : Nat → TbI := fun j => if j = i then r else A j
def aR (n : Nat) (A : Nat → TbI) : Array Value := (Array.range n).map fun i => tbV (A i)
theorem aR_size (n : Nat) (A : Nat → TbI) : (aR n A).size = n := by simp [aR]
theorem aR_get {n i : Nat} {A : Nat → TbI} (h : i < n) : (aR n A)[i]? = some (tbV (A i)) := by simp [aR, h]
theorem aR_set (n i : Nat) (A : Nat → TbI) (r : TbI) : (aR n A).setIfInBounds i (tbV r) = aR n (upA A i r) := by
  apply Array.ext
  · simp [aR]
  · intro j h1 h2
    rw [Array.getElem_setIfInBounds (by simpa using h1)]
    by_cases e : i = j
    · subst e; simp [aR, upA]
    · rw [if_neg e]; simp [aR, upA, Ne.symm e]
def tabs (A : Nat → TbI) : Nat → List T2 := fun i => (A i).t
theorem tabs_up (A : Nat → TbI) (i : Nat) (r : TbI) : tabs (upA A i r) = Fl.up (tabs A) i r.t := by
  funext j; unfold tabs upA Fl.up; split <;> rfl
structure TbOk (s y l m : Int) (w : World) (r : TbI) : Prop where
  inn : InT w r.q r.t
  ok : VT s y l m r.t
abbrev pE (pb : Nat) (cq : Option Addr) (n cap b6 b4 fj ga : Nat) : Ent := .cel pb #[.slice cq n cap, .func (.func 87) #[] #[vP b6 0, vP b4 0], .func (.func fj) #[] #[], .func (.func 88) #[] #[], .func (.func 89) #[] #[], vS ga n n] 112
abbrev aE (ga n : Nat) (A : Nat → TbI) : Ent := .cel ga (aR n A) 88
theorem aR_in {n i : Nat} {A : Nat → TbI} {v : Value} (h : (aR n A)[i]? = some v) : ∃ r, v = tbV r := by
  have hi : i < n := by
    have := (Array.getElem?_eq_some_iff.1 h).1
    simpa [aR] using this
  rw [aR_get hi] at h
  cases h; exact ⟨_, rfl⟩
theorem out_int {w : World} {pb n cap b6 b4 fj ga : Nat} {cq : Option Addr} {A : Nat → TbI} (hB : OwnB w [pE pb cq n cap b6 b4 fj ga, aE ga n A]) {b o : Nat} {x : Int} (hc : w.cell? ⟨b, o, none⟩ = some (vI x)) : Out [pE pb cq n cap b6 b4 fj ga, aE ga n A] b := fun e he hb => by
  rcases List.mem_cons.1 he with rfl | he
  · cases hb
    have h2 := hB.1 (pE pb cq n cap b6 b4 fj ga) (by simp)
    rw [cell_of_row w pb o _ 112 (0, 0) h2] at hc
    match o, hc with
    | 0, hc => simp at hc
    | 1, hc => simp at hc
    | 2, hc => simp at hc
    | 3, hc => simp at hc
    | 4, hc => simp at hc
    | 5, hc => simp at hc
    | o + 6, hc => simp at hc
  · obtain rfl := List.mem_singleton.1 he
    cases hb
    have h2 := hB.1 (aE ga n A) (by simp)
    rw [cell_of_row w ga o _ 88 (0, 0) h2] at hc
    obtain ⟨r, hr⟩ := aR_in hc
    cases hr
structure Env (s y l m : Int) (pb : Nat) (cq : Option Addr) (n cap b6 b4 fh fj ga : Nat) (c A B : Nat → Int) (w : World) (T : Nat → TbI) : Prop where
  own : OwnB w [pE pb cq n cap b6 b4 fj ga, aE ga n T]
  code : Ec.InC w cq n c A B
  geo : w.rangeAt b4 0 [vI s, vI y, vI l, vI m]
  how : w.cell? ⟨b6, 0, none⟩ = some (.func (.func fh) #[] #[])
  nb : b6 ≠ pb ∧ b6 ≠ ga
theorem keepT {s y l m : Int} {w w' : World} {B H : List Ent} {r : TbI} (h : TbOk s y l m w r) (hO : ∀ b o x, w.cell? ⟨b, o, none⟩ = some (vI x) → Out B b) (hp : HP (Out B) w w' H) : TbOk s y l m w' r := ⟨fun h0 => by
    obtain ⟨g, o, hq, hr⟩ := h.inn h0
    exact ⟨g, o, hq, fun i hi => HP.oldRange hp (hO g _ _ (hr i hi 0 _ rfl)) (hr i hi)⟩, h.ok⟩
theorem Env.keep {s y l m : Int} {pb n cap b6 b4 fh fj ga : Nat} {cq : Option Addr} {c A B : Nat → Int} {w w' : World} {T T' : Nat → TbI} {H : List Ent} (h : Env s y l m pb cq n cap b6 b4 fh fj ga c A B w T) (hp : HP (Out [pE pb cq n cap b6 b4 fj ga, aE ga n T]) w w' (pE pb cq n cap b6 b4 fj ga :: aE ga n T' :: H)) : Env s y l m pb cq n cap b6 b4 fh fj ga c A B w' T' :=
  ⟨HP.ownF (A := [pE pb cq n cap b6 b4 fj ga, aE ga n T']) (B := H) hp, fun h0 => by
    obtain ⟨g, o, hq, hr⟩ := h.code h0
    exact ⟨g, o, hq, fun i hi => HP.oldRange hp (out_int h.own (hr i hi 0 _ rfl)) (hr i hi)⟩, HP.oldRange hp (out_int h.own (h.geo 0 _ rfl)) h.geo,
    HP.old hp (fun e he hb => by
      rcases List.mem_cons.1 he with rfl | he
      · cases hb; exact h.nb.1 rfl
      · obtain rfl := List.mem_singleton.1 he; cases hb; exact h.nb.2 rfl) h.how, h.nb⟩
theorem Env.tab {s y l m : Int} {pb n cap b6 b4 fh fj ga : Nat} {cq : Option Addr} {c A B : Nat → Int} {w w' : World} {T : Nat → TbI} {H : List Ent} {r : TbI} (h : Env s y l m pb cq n cap b6 b4 fh fj ga c A B w T) (hr : TbOk s y l m w r) (hp : HP (Out [pE pb cq n cap b6 b4 fj ga, aE ga n T]) w w' H) : TbOk s y l m w' r := keepT hr (fun b o x hc => out_int h.own hc) hp
def TabR (s y l m : Int) (pb : Nat) (cq : Option Addr) (n cap b6 b4 fj ga : Nat) (T : Nat → TbI) (X : List T2 × (Nat → List T2)) (w : World) (e : Ending) (w' : World) : Prop :=
  ∃ r' T', e = .returned (tbV r') ∧ HP (Out [pE pb cq n cap b6 b4 fj ga, aE ga n T]) w w' [pE pb cq n cap b6 b4 fj ga, aE ga n T'] ∧ TbOk s y l m w' r' ∧ (∀ i, TbOk s y l m w' (T' i)) ∧ (r'.t, tabs T') = X
def cdOf (c : Nat → Int) (n : Nat) : Fl.Cd := ⟨c, (Ec.shD c n).e, (Ec.shD c n).d, (Ec.shD c n).o⟩
theorem Opens_at {x : Int} {r : Bool} (h : Ec.opn x = r) (w : World) : Calls Try.prog 74 #[vI x] w fun e w' => e = .returned (.bool r) ∧ w = w' := h ▸ Ec.Opens_any x w
theorem Match_at {p : Option Addr} {n cap : Nat} {c A B : Nat → Int} {i : Nat} {x z : Int} (h1 : Ec.maA c A B n (i : Int) = x) (h2 : Ec.maE c A B n (i : Int) = z) (w : World) (hIn : Ec.InC w p n c A B) (hn : n ≤ 400) (hi : i < n) :
    Calls Try.prog 75 #[.slice p n cap, vI (i : Int)] w fun e w' => e = .returned (.tuple #[vI x, vI z, vI (Ec.maF c A B n (i : Int))]) ∧ Below w.heap.size w w' := by
  have := Ec.Match2_any p n cap c A B (i : Int) w hIn hn (by omega) (by omega)
  unfold Ec.MaV at this
  rw [h1, h2] at this; exact this
theorem TbOk.below {s y l m : Int} {w w' : World} {r : TbI} (h : TbOk s y l m w r) (hb : Below w.heap.size w w') : TbOk s y l m w' r := ⟨h.inn.below hb, h.ok⟩
def brkP (O : Fl.Ops (List T2)) (C : Fl.Cd) (i E : Nat) (f : List T2 → (Nat → List T2) → List T2 × (Nat → List T2)) (t : List T2) (ah : Nat → List T2) : List T2 × (Nat → List T2) :=
  if C.c i = 29 then (O.F E (O.J t (f t ah).1), Fl.up (f t ah).2 E (O.J t (f t ah).1))
  else if C.c i = 30 then (O.J t (Fl.iter O (Fl.last O f E) (O.mu t) t ah).1, (Fl.iter O (Fl.last O f E) (O.mu t) t ah).2)
  else Fl.last O f E t ah
def brkA (O : Fl.Ops (List T2)) (C : Fl.Cd) (i a E : Nat) (f g : List T2 → (Nat → List T2) → List T2 × (Nat → List T2)) (t : List T2) (ah : Nat → List T2) : List T2 × (Nat → List T2) :=
  (O.J (Fl.last O f a t ah).1 (Fl.last O g E (if C.c i = 29 then t else Fl.fold O (Fl.last O f a t ah).2 (i + 1) (a - (i + 1)) t) (Fl.last O f a t ah).2).1,
   (Fl.last O g E (if C.c i = 29 then t else Fl.fold O (Fl.last O f a t ah).2 (i + 1) (a - (i + 1)) t) (Fl.last O f a t ah).2).2)
theorem sol_plain (O : Fl.Ops (List T2)) (C : Fl.Cd) (i E : Nat) (b r : Fl.Tr) (t : List T2) (ah : Nat → List T2) :
    Fl.sol O C (.plain i E b r) t ah = Fl.sol O C r (brkP O C i E (Fl.sol O C b) (O.F i t) (Fl.up ah i t)).1 (brkP O C i E (Fl.sol O C b) (O.F i t) (Fl.up ah i t)).2 := by
  rw [Fl.sol]
  unfold brkP
  by_cases h1 : C.c i = 29
  · simp only [if_pos h1]
  · by_cases h2 : C.c i = 30
    · simp only [if_neg h1, if_pos h2]
    · simp only [if_neg h1, if_neg h2]
theorem sol_alt (O : Fl.Ops (List T2)) (C : Fl.Cd) (i a E : Nat) (b1 b2 r : Fl.Tr) (t : List T2) (ah : Nat → List T2) :
    Fl.sol O C (.alt i a E b1 b2 r) t ah = Fl.sol O C r (brkA O C i a E (Fl.sol O C b1) (Fl.sol O C b2) (O.F i t) (Fl.up ah i t)).1 (brkA O C i a E (Fl.sol O C b1) (Fl.sol O C b2) (O.F i t) (Fl.up ah i t)).2 := by
  rw [Fl.sol]; rfl
def BrAll (P : Nat → Nat → Fl.Tr → Prop) (Q : Nat → Nat → Nat → Fl.Tr → Fl.Tr → Prop) : Fl.Tr → Prop
  | .nil => True
  | .one _ r => BrAll P Q r
  | .plain i E b r => P i E b ∧ BrAll P Q r
  | .alt i a E b1 b2 r => Q i a E b1 b2 ∧ BrAll P Q r
theorem ma_of {c A B : Nat → Int} {n i : Nat} (hc : Ec.chk c A B false n = 0) (hi : i < n) (ho : Ec.opn (c i) = true) : Ec.maA c A B n (i : Int) = (Ec.shD c n).e i ∧ Ec.maE c A B n (i : Int) = (Ec.shD c n).d i := by
  have h1 : Ec.idE c A B n (i : Int) = 0 := Ec.idE_in hc ⟨by omega, by omega⟩
  have h2 : Ec.maF c A B n (i : Int) = 0 := by unfold Ec.maF; rw [h1, Int.toNat_natCast, ho]; simp
  unfold Ec.maA Ec.maE
  rw [if_pos h2, if_pos h2, Int.toNat_natCast]
  exact ⟨rfl, rfl⟩
theorem line_of {l : Int} {i : Nat} (hl : 1 ≤ l ∧ l ≤ 8) (hi : i ≤ 999) : 0 ≤ (i : Int) / l ∧ (i : Int) / l ≤ 999 := line_bd hl ⟨by omega, by omega⟩
theorem sz75 : (Try.prog.info? 75).map (·.size) = some 3 := by kernel_rfl
theorem do0_any (s y l m : Int) (i : Nat) (q : Option Addr) (t : List T2) (cp b6 b4 : Nat) (w : World) (h6 : w.cell? ⟨b6, 0, none⟩ = some (.func (.func 59) #[] #[])) (h4 : w.rangeAt b4 0 [vI s, vI y, vI l, vI m]) (hT : InT w q t) (hV : VT s y l m t) (hi : i ≤ 999) :
  Calls Try.prog 87 #[vI (i : Int), .slice q t.length cp, vP b6 0, vP b4 0] w (TcR s y ((i : Int) / l) 0 t w) := by
 have hl9 := hV.l1
 have hl8 := hV.l2
 have hx9 := line_of ⟨hl9, hl8⟩ hi
 refine calls_of Try.func87 rfl (m := 15) rfl [(0, vI (i : Int)), (1, .slice q t.length cp), (2, vP b6 0), (3, vP b4 0)] (Fr_enter [vI (i : Int), .slice q t.length cp, vP b6 0, vP b4 0] 15 (Nat.le_of_ble_eq_true rfl)) ?_
 have hH1 : HP Tr w w [] := HP.refl w
 refine WC.seq fun K2 hK2 => WC.region (WL.z (.slice none 0 0) 6 (WL.k hK2 (WC.seq fun K3 hK3 => ?_)))
 refine WC.confG (γ := Option Addr × Nat × Unit) [(0, vI (i : Int)), (1, .slice q t.length cp), (2, vP b6 0), (3, vP b4 0)] (fun gy => [.func (.func 59) #[] #[], .agg #[vI s, vI y, vI l, vI m], .slice q t.length cp, vI (i : Int), vP b4 2, vI l, vI ((i : Int) / l), .slice gy.1 ((tcH s y ((i : Int) / l) 0 t).length) gy.2.1, .slice gy.1 ((tcH s y ((i : Int) / l) 0 t).length) gy.2.1]) (fun gy D wz => HP Tr w wz ([] ++ ((bif D 7 then [rowT gy.1 (tcH s y ((i : Int) / l) 0 t).length gy.2.1 (tcH s y ((i : Int) / l) 0 t)] else []) ++ []))) (none, 0, ()) (by kernel_rfl) ⟨rfl, rfl, rfl, rfl, trivial⟩ (by kernel_rfl) (by kernel_rfl) (by kernel_rfl) (fun _ => rfl) (by kernel_rfl) (HP.drew hH1) ?_ ?_
 ·
  refine AllOk.cons ?o0 (AllOk.cons ?o1 (AllOk.cons ?o2 (AllOk.cons ?o3 (AllOk.cons ?o4 (AllOk.cons ?o5 (AllOk.cons ?o6 (AllOk.cons ?o7 (AllOk.cons ?o8 (AllOk.nil _)))))))))
  case o0 =>
   intro gy D wz hDi hdep hclo hW
   exact cfv gy wz (x_load rfl rfl Try.underlying81 rfl (HP.old hW trivial h6)) hW
  case o1 =>
   intro gy D wz hDi hdep hclo hW
   exact cfv gy wz (x_loadS (cs := [vI s, vI y, vI l, vI m]) rfl rfl Try.underlying23 rfl sz23 (HP.oldRange hW trivial h4)) hW
  case o2 =>
   intro gy D wz hDi hdep hclo hW
   exact cfv gy wz (by kernel_rfl) hW
  case o3 =>
   intro gy D wz hDi hdep hclo hW
   exact cfv gy wz (by kernel_rfl) hW
  case o4 =>
   intro gy D wz hDi hdep hclo hW
   exact cfv gy wz (by kernel_rfl) hW
  case o5 =>
   intro gy D wz hDi hdep hclo hW
   exact cfv gy wz (x_load rfl rfl Try.underlying3 rfl ((HP.oldRange hW trivial h4) 2 _ rfl)) hW
  case o6 =>
   intro gy D wz hDi hdep hclo hW
   exact cfv gy wz (x_quo rfl rfl rfl (by omega) (tdiv_pos (by omega) (by omega)) (by have := hx9; omega) (by have := hx9; omega)) hW
  case o7 =>
   intro gy D wz hDi hdep hclo hW
   have d8 : D 8 = false := by
    cases h : D 8 with
    | false => rfl
    | true => exact absurd (hclo 8 _ rfl h ⟨7, .data⟩ (by simp) rfl) (by rw [hDi]; exact Bool.false_ne_true)
   have hW2 := hW
   try simp only [hDi, cond_true, cond_false, List.append_nil, List.nil_append, List.cons_append] at hW2
   refine .inl ⟨rfl, rfl, .inr (.inr ⟨59, #[.agg #[vI s, vI y, vI l, vI m], .slice q t.length cp, vI ((i : Int) / l)], by kernel_rfl, (touch0_any q t cp s y l m ((i : Int) / l) _ (hT.below (HP.below hW2)) hV).mono ?_⟩)⟩
   rintro e w3 ⟨pv, cp9, rfl, hb9⟩
   have hA := HP.trans hW2 hb9
   refine ⟨⟨pv, cp9, ()⟩, fun j hj => ?_, rfl, ?_⟩
   ·
    match j, hj with
    | 0, hj => rfl
    | 1, hj => rfl
    | 2, hj => rfl
    | 3, hj => rfl
    | 4, hj => rfl
    | 5, hj => rfl
    | 6, hj => rfl
    | 7, hj => rw [hDi] at hj; cases hj
    | 8, hj => exact absurd hj (by rw [d8]; exact Bool.false_ne_true)
    | j + 9, _ => rfl
   ·
    show HP Tr w w3 ([] ++ ([rowT pv (tcH s y ((i : Int) / l) 0 t).length cp9 (tcH s y ((i : Int) / l) 0 t)] ++ []))
    try simp only [cond_true, cond_false, List.append_nil, List.nil_append, List.cons_append]
    exact hA
  case o8 =>
   intro gy D wz hDi hdep hclo hW
   exact cfv gy wz (by kernel_rfl) hW
 rintro ⟨pv, cp9, gu⟩ D w4 hall hH5
 simp only [hall 7 (by kernel_rfl), cond_true, List.append_nil, List.nil_append, List.cons_append] at hH5
 clear hall
 refine WQ.sb [(0, vI (i : Int)), (1, .slice q t.length cp), (6, .slice pv ((tcH s y ((i : Int) / l) 0 t).length) cp9)] (WQ.then (hK3 _ _ _ (WC.ret ?_)))
 refine WQ.ret1 6 rfl rfl ?_
 exact ⟨pv, cp9, rfl, hH5⟩
abbrev ops0 (s y l : Int) : Fl.Ops (List T2) := opsM s y l
def BrP0 (s y l m : Int) (pb : Nat) (cq : Option Addr) (n cap b6 b4 ga : Nat) (c A B : Nat → Int) (i E : Nat) (Rb : Fl.Tr) : Prop := ∀ (w : World) (T : Nat → TbI) (r : TbI), Env s y l m pb cq n cap b6 b4 59 63 ga c A B w T → TbOk s y l m w r → (∀ i, TbOk s y l m w (T i)) → Calls Try.prog 119 #[vP pb 0, vI (i : Int), vI (-1), vI (E : Int), tbV r] w (TabR s y l m pb cq n cap b6 b4 63 ga T (brkP (ops0 s y l) (cdOf c n) i E (Fl.sol (ops0 s y l) (cdOf c n) Rb) r.t (tabs T)) w)
def BrA0 (s y l m : Int) (pb : Nat) (cq : Option Addr) (n cap b6 b4 ga : Nat) (c A B : Nat → Int) (i a E : Nat) (Ra Rb : Fl.Tr) : Prop := ∀ (w : World) (T : Nat → TbI) (r : TbI), Env s y l m pb cq n cap b6 b4 59 63 ga c A B w T → TbOk s y l m w r → (∀ i, TbOk s y l m w (T i)) → Calls Try.prog 119 #[vP pb 0, vI (i : Int), vI (a : Int), vI (E : Int), tbV r] w (TabR s y l m pb cq n cap b6 b4 63 ga T (brkA (ops0 s y l) (cdOf c n) i a E (Fl.sol (ops0 s y l) (cdOf c n) Ra) (Fl.sol (ops0 s y l) (cdOf c n) Rb) r.t (tabs T)) w)
theorem list0_any (s y l m : Int) (pb : Nat) (cq : Option Addr) (n cap b6 b4 ga : Nat) (c A B : Nat → Int) (hg0 : vG s y l m = true) (hc : Ec.chk c A B false n = 0) (R : Fl.Tr) (k j : Nat) (hIs0 : Fl.Is (cdOf c n) R k j) (hjn : j ≤ n) (hbr0 : BrAll (BrP0 s y l m pb cq n cap b6 b4 ga c A B) (BrA0 s y l m pb cq n cap b6 b4 ga c A B) R) (w : World) (T : Nat → TbI) (r : TbI) (hE : Env s y l m pb cq n cap b6 b4 59 63 ga c A B w T) (hr : TbOk s y l m w r) (hT : ∀ i, TbOk s y l m w (T i)) :
  Calls Try.prog 108 #[vP pb 0, vI (k : Int), vI (j : Int), .slice r.q r.t.length r.c] w (TabR s y l m pb cq n cap b6 b4 63 ga T (Fl.sol (ops0 s y l) (cdOf c n) R r.t (tabs T)) w) := by
 have hg := vG_iff.1 hg0
 have hn9 := (Ec.chk_ok hc).1
 have hkj := hIs0.le
 refine calls_of Try.func108 rfl (m := 68) rfl [(0, vP pb 0), (1, vI (k : Int)), (2, vI (j : Int)), (3, .slice r.q r.t.length r.c)] (Fr_enter [vP pb 0, vI (k : Int), vI (j : Int), .slice r.q r.t.length r.c] 68 (Nat.le_of_ble_eq_true rfl)) ?_
 refine WC.seq fun K1 hK1 => WC.region (WL.z (.slice none 0 0) 8 (WL.k hK1 (WC.seq fun K2 hK2 => WC.seq fun K3 hK3 => ?_)))
 have hM0 : HP (Out [pE pb cq n cap b6 b4 63 ga, aE ga n T]) w w [pE pb cq n cap b6 b4 63 ga, aE ga n T] := HP.startB hE.own
 refine WC.region (WL.z (vI (k : Int)) 13 (WL.z (vI (k : Int)) 9 (WL.k hK3 (WC.block ?_))))
 refine WC.loop (fun kk0 ll0 ww0 => ∃ (i : Nat) (R1 : Fl.Tr) (r1 : TbI) (T1 : Nat → TbI), ll0 = [(0, vP pb 0), (2, vI (j : Int)), (3, .slice r1.q r1.t.length r1.c), (9, vI (i : Int))] ∧ kk0 = j - i ∧ (i ≤ j) ∧ (Fl.Is (cdOf c n) R1 i j) ∧ (Fl.sol (ops0 s y l) (cdOf c n) R1 r1.t (tabs T1) = Fl.sol (ops0 s y l) (cdOf c n) R r.t (tabs T)) ∧ (BrAll (BrP0 s y l m pb cq n cap b6 b4 ga c A B) (BrA0 s y l m pb cq n cap b6 b4 ga c A B) R1) ∧ (TbOk s y l m ww0 r1) ∧ (∀ i, TbOk s y l m ww0 (T1 i)) ∧ (HP (Out [pE pb cq n cap b6 b4 63 ga, aE ga n T]) w ww0 [pE pb cq n cap b6 b4 63 ga, aE ga n T1]) ∧ HP Tr ww0 ww0 []) (j - k) [(0, vP pb 0), (2, vI (j : Int)), (3, .slice r.q r.t.length r.c), (9, vI (k : Int))] ⟨rfl, rfl, rfl, rfl, trivial⟩ ⟨k, R, r, T, rfl, rfl, hkj, hIs0, rfl, hbr0, hr, hT, hM0, HP.refl _⟩ ?_
 rintro kk l w5 ⟨i, R1, r1, T1, rfl, hkk, hi, hIs, hsol, hbr, hr1, hT1, hM, hH6⟩ K4 hK4
 have hE1 := hE.keep hM
 have hH7 := HP.startB hE1.own
 refine WC.seq fun K8 hK8 => WC.seq fun K9 hK9 => WC.region (WL.z (vI (i : Int)) 14 (WL.z (vI (j : Int)) 15 ?_))
 by_cases hlt : (i : Int) < (j : Int)
 ·
  refine WL.y (.bool true) 16 (x_lss rfl rfl rfl (dT (hlt))) (WL.k hK9 ?_)
  refine WC.yes rfl ?_
  refine WC.skip (WQ.then (hK8 _ _ _ (WC.block (WC.seq fun K10 hK10 => ?_))))
  cases R1 with
  | nil => have e9 : i = j := hIs; omega
  | one i1 R2 =>
   obtain ⟨rfl, hno, hIs2⟩ := hIs
   have hopn : Ec.opn (c i1) = false := Ec.opn_no.2 (fun q => hno ⟨q.1, by have q9 : c i1 ≤ 33 := q.2; show c i1 ≤ 35; omega⟩)
   have hEj := hIs2.le
   refine WC.region (WL.z (vP pb 0) 17 (WL.z (vP pb 0) 18 (WL.z (vP pb 5) 19 (WL.y (vS ga n n) 20 (x_load rfl rfl Try.underlying110 rfl (HP.cell hH7 0 rfl rfl)) (WL.z (vI (i1 : Int)) 21 (WL.z (.slice r1.q r1.t.length r1.c) 22 (WL.y (vP ga i1) 23 (x_ix (i1) (i1) Try.underlying110 sz88) ?_)))))))
   refine WL.store (c' := aR n (upA T1 i1 r1)) (H2 := _) 1 hH7 rfl rfl rfl rfl rfl rfl sz88 rfl (by rw [aR_size]; omega) (aR_set n i1 T1 r1) rfl ?_
   intro w8 hB8
   have hB8 : HP (Out [pE pb cq n cap b6 b4 63 ga, aE ga n T1]) w5 w8 [pE pb cq n cap b6 b4 63 ga, aE ga n (upA T1 i1 r1)] := hB8
   have hE2 := hE1.keep hB8
   have hr2 := hE1.tab hr1 hB8
   have hT2 : ∀ i9, TbOk s y l m w8 (upA T1 i1 r1 i9) := fun i9 => by unfold upA; split; exact hr2; exact hE1.tab (hT1 i9) hB8
   have hH11 := HP.startB hE2.own
   refine WL.k hK10 (WC.sb [(0, vP pb 0), (2, vI (j : Int)), (3, .slice r1.q r1.t.length r1.c), (9, vI (i1 : Int)), (16, .bool true)] (WC.seq fun K12 hK12 => WC.seq fun K13 hK13 => ?_))
   obtain ⟨gc, oc, hqc, hrowc⟩ := hE2.code (by omega)
   have hgc9 := out_int hE2.own (hrowc i1 (by omega) 0 _ rfl)
   refine WC.region (WL.z (vP pb 0) 24 (WL.z (vP pb 0) 25 (WL.z (vP pb 0) 26 (WL.y (.slice cq n cap) 27 (x_load rfl rfl Try.underlying42 rfl (HP.cell hH11 0 rfl rfl)) (WL.z (vI (i1 : Int)) 28 (WL.y (vP gc (oc + i1 * 3)) 29 (x_idx (b := gc) (off := oc) i1 (oc + i1 * 3) rfl (by rw [← hqc]; rfl) rfl Try.underlying42 sz75 (by omega) (by omega) (by omega)) (WL.z (vP gc (oc + i1 * 3)) 30 (WL.y (vI (c i1)) 31 (x_load rfl rfl Try.underlying3 rfl ((HP.oldRange hH11 hgc9 (hrowc i1 (by omega))) 0 _ rfl)) ?_))))))))
   refine WL.c 74 #[vI (c i1)] 32 ?_
   refine (Opens_at hopn _).mono ?_
   rintro e w14 ⟨rfl, rfl⟩
   refine ⟨_, rfl, ?_⟩
   refine WL.z (.bool true) 33 (WL.k hK13 (WC.sb [(0, vP pb 0), (2, vI (j : Int)), (3, .slice r1.q r1.t.length r1.c), (9, vI (i1 : Int)), (16, .bool true), (33, .bool true)] ?_))
   refine WC.yes rfl ?_
   refine WC.seq fun K15 hK15 => WC.region (WL.z (vP pb 0) 34 (WL.z (vP pb 0) 35 (WL.z (vP pb 1) 36 (WL.y (.func (.func 87) #[] #[vP b6 0, vP b4 0]) 37 (x_load rfl rfl Try.underlying107 rfl (HP.cell hH11 0 rfl rfl)) (WL.z (vI (i1 : Int)) 38 (WL.z (.slice r1.q r1.t.length r1.c) 39 ?_))))))
   have hE4 := hE2.keep hH11
   refine WL.c 87 #[vI (i1 : Int), .slice r1.q r1.t.length r1.c, vP b6 0, vP b4 0] 40 ?_
   refine (do0_any s y l m i1 r1.q r1.t r1.c b6 b4 _ hE4.how hE4.geo (hE2.tab hr2 hH11).inn hr2.ok (by omega)).mono ?_
   rintro e w16 ⟨pv9, cp9, rfl, hb17⟩
   refine ⟨_, rfl, ?_⟩
   have hH18 : HP (Out [pE pb cq n cap b6 b4 63 ga, aE ga n (upA T1 i1 r1)]) w8 _ [.cel pb #[.slice cq n cap, .func (.func 87) #[] #[vP b6 0, vP b4 0], .func (.func 63) #[] #[], .func (.func 88) #[] #[], .func (.func 89) #[] #[], vS ga n n] 112, .cel ga (aR n (upA T1 i1 r1)) 88, rowT pv9 (tcH s y ((i1 : Int) / l) 0 r1.t).length cp9 (tcH s y ((i1 : Int) / l) 0 r1.t)] := HP.trans hH11 hb17
   have hr4 : TbOk s y l m _ (⟨pv9, (tcH s y ((i1 : Int) / l) 0 r1.t), cp9⟩ : TbI) := ⟨InT.own (HP.get hH18 2 rfl), VT_tc hr2.ok (line_of hg.2.2.1 (by omega))⟩
   refine WL.z (.slice pv9 ((tcH s y ((i1 : Int) / l) 0 r1.t).length) cp9) 3 (WL.k hK15 (WC.sb [(0, vP pb 0), (2, vI (j : Int)), (3, .slice pv9 ((tcH s y ((i1 : Int) / l) 0 r1.t).length) cp9), (9, vI (i1 : Int)), (16, .bool true), (33, .bool true)] (WC.seq fun K19 hK19 => WC.region (WL.z (vI (i1 : Int)) 41 (WL.y (vI ((i1 + 1 : Nat) : Int)) 42 (x_ad (((i1 + 1 : Nat) : Int))) (WL.z (vI ((i1 + 1 : Nat) : Int)) 9 (WL.nil (WQ.then ?_))))))))
   refine hK19 _ _ _ (WC.exit (WQ.thenExit (WQ.inExit ?_)))
   have hF9 : HP (Out [pE pb cq n cap b6 b4 63 ga, aE ga n (upA T1 i1 r1)]) w8 _ [pE pb cq n cap b6 b4 63 ga, aE ga n (upA T1 i1 r1)] := HP.drop hH18 2
   refine WQ.sb [(0, vP pb 0), (2, vI (j : Int)), (3, .slice pv9 ((tcH s y ((i1 : Int) / l) 0 r1.t).length) cp9), (9, vI ((i1 + 1 : Nat) : Int))] ?_
   refine WQ.then (hK4 _ _ _ (by omega) ⟨i1 + 1, R2, (⟨pv9, (tcH s y ((i1 : Int) / l) 0 r1.t), cp9⟩ : TbI), (upA T1 i1 r1), rfl, rfl, by omega, hIs2, by rw [tabs_up]; exact hsol, hbr, hr4, (fun i9 => hE2.tab (hT2 i9) hF9), HP.exch (A := []) hM (HP.exch (A := []) hB8 hF9), HP.refl _⟩)
  | plain i1 E Rb R2 =>
   obtain ⟨rfl, hop, he1, hd1, ho1, h35, hIb, hIs2⟩ := hIs
   have hopn : Ec.opn (c i1) = true := Ec.opn_iff.2 ⟨hop.1, by have q9 : c i1 ≤ 32 := hop.2; omega⟩
   have hEj := hIs2.le
   have hEb := hIb.le
   obtain ⟨hm1, hm2⟩ := ma_of hc (show i1 < n by omega) hopn
   have hm1 : Ec.maA c A B n (i1 : Int) = -1 := hm1.trans he1
   have hm2 : Ec.maE c A B n (i1 : Int) = (E : Int) := hm2.trans hd1
   refine WC.region (WL.z (vP pb 0) 17 (WL.z (vP pb 0) 18 (WL.z (vP pb 5) 19 (WL.y (vS ga n n) 20 (x_load rfl rfl Try.underlying110 rfl (HP.cell hH7 0 rfl rfl)) (WL.z (vI (i1 : Int)) 21 (WL.z (.slice r1.q r1.t.length r1.c) 22 (WL.y (vP ga i1) 23 (x_ix (i1) (i1) Try.underlying110 sz88) ?_)))))))
   refine WL.store (c' := aR n (upA T1 i1 r1)) (H2 := _) 1 hH7 rfl rfl rfl rfl rfl rfl sz88 rfl (by rw [aR_size]; omega) (aR_set n i1 T1 r1) rfl ?_
   intro w8 hB8
   have hB8 : HP (Out [pE pb cq n cap b6 b4 63 ga, aE ga n T1]) w5 w8 [pE pb cq n cap b6 b4 63 ga, aE ga n (upA T1 i1 r1)] := hB8
   have hE2 := hE1.keep hB8
   have hr2 := hE1.tab hr1 hB8
   have hT2 : ∀ i9, TbOk s y l m w8 (upA T1 i1 r1 i9) := fun i9 => by unfold upA; split; exact hr2; exact hE1.tab (hT1 i9) hB8
   have hH20 := HP.startB hE2.own
   refine WL.k hK10 (WC.sb [(0, vP pb 0), (2, vI (j : Int)), (3, .slice r1.q r1.t.length r1.c), (9, vI (i1 : Int)), (16, .bool true)] (WC.seq fun K21 hK21 => WC.seq fun K22 hK22 => ?_))
   obtain ⟨gc, oc, hqc, hrowc⟩ := hE2.code (by omega)
   have hgc9 := out_int hE2.own (hrowc i1 (by omega) 0 _ rfl)
   refine WC.region (WL.z (vP pb 0) 24 (WL.z (vP pb 0) 25 (WL.z (vP pb 0) 26 (WL.y (.slice cq n cap) 27 (x_load rfl rfl Try.underlying42 rfl (HP.cell hH20 0 rfl rfl)) (WL.z (vI (i1 : Int)) 28 (WL.y (vP gc (oc + i1 * 3)) 29 (x_idx (b := gc) (off := oc) i1 (oc + i1 * 3) rfl (by rw [← hqc]; rfl) rfl Try.underlying42 sz75 (by omega) (by omega) (by omega)) (WL.z (vP gc (oc + i1 * 3)) 30 (WL.y (vI (c i1)) 31 (x_load rfl rfl Try.underlying3 rfl ((HP.oldRange hH20 hgc9 (hrowc i1 (by omega))) 0 _ rfl)) ?_))))))))
   refine WL.c 74 #[vI (c i1)] 32 ?_
   refine (Opens_at hopn _).mono ?_
   rintro e w23 ⟨rfl, rfl⟩
   refine ⟨_, rfl, ?_⟩
   refine WL.z (.bool false) 33 (WL.k hK22 (WC.sb [(0, vP pb 0), (2, vI (j : Int)), (3, .slice r1.q r1.t.length r1.c), (9, vI (i1 : Int)), (16, .bool true), (33, .bool false)] ?_))
   refine WC.no rfl ?_
   refine WC.skip (WQ.then (hK21 _ _ _ (WC.seq fun K24 hK24 => WC.region (WL.z (vP pb 0) 44 (WL.z (vP pb 0) 45 (WL.z (vP pb 0) 46 (WL.y (.slice cq n cap) 47 (x_load rfl rfl Try.underlying42 rfl (HP.cell hH20 0 rfl rfl)) (WL.z (vI (i1 : Int)) 48 ?_))))))))
   refine WL.c 75 #[.slice cq n cap, vI (i1 : Int)] 49 ?_
   refine (Match_at hm1 hm2 _ (hE2.keep hH20).code (by omega) (by omega)).mono ?_
   rintro e w25 ⟨rfl, hb26⟩
   refine ⟨_, rfl, ?_⟩
   have hH27 := HP.call hH20 hb26
   refine WL.z (.tuple #[vI (-1), vI (E : Int), vI (Ec.maF c A B n (i1 : Int))]) 43 (WL.z (vI (-1)) 50 (WL.z (vI (E : Int)) 51 (WL.z (vI (Ec.maF c A B n (i1 : Int))) 52 (WL.z (vI (-1)) 10 (WL.z (vI (E : Int)) 11 (WL.z (vI (Ec.maF c A B n (i1 : Int))) 12 (WL.k hK24 (WC.sb [(0, vP pb 0), (2, vI (j : Int)), (3, .slice r1.q r1.t.length r1.c), (9, vI (i1 : Int)), (10, vI (-1)), (11, vI (E : Int)), (16, .bool true), (33, .bool false)] (WC.seq fun K28 hK28 => ?_)))))))))
   refine WC.region (WL.z (vP pb 0) 53 (WL.z (vI (i1 : Int)) 54 (WL.z (vI (-1)) 55 (WL.z (vI (E : Int)) 56 (WL.z (vP pb 0) 57 (WL.z (vP pb 0) 58 (WL.z (vP pb 1) 59 (WL.y (.func (.func 87) #[] #[vP b6 0, vP b4 0]) 60 (x_load rfl rfl Try.underlying107 rfl (HP.cell hH27 0 rfl rfl)) (WL.z (vI (i1 : Int)) 61 (WL.z (.slice r1.q r1.t.length r1.c) 62 ?_))))))))))
   have hE4 := hE2.keep hH27
   refine WL.c 87 #[vI (i1 : Int), .slice r1.q r1.t.length r1.c, vP b6 0, vP b4 0] 63 ?_
   refine (do0_any s y l m i1 r1.q r1.t r1.c b6 b4 _ hE4.how hE4.geo (hE2.tab hr2 hH27).inn hr2.ok (by omega)).mono ?_
   rintro e w29 ⟨pv9, cp9, rfl, hb30⟩
   refine ⟨_, rfl, ?_⟩
   have hH31 : HP (Out [pE pb cq n cap b6 b4 63 ga, aE ga n (upA T1 i1 r1)]) w8 _ [.cel pb #[.slice cq n cap, .func (.func 87) #[] #[vP b6 0, vP b4 0], .func (.func 63) #[] #[], .func (.func 88) #[] #[], .func (.func 89) #[] #[], vS ga n n] 112, .cel ga (aR n (upA T1 i1 r1)) 88, rowT pv9 (tcH s y ((i1 : Int) / l) 0 r1.t).length cp9 (tcH s y ((i1 : Int) / l) 0 r1.t)] := HP.trans hH27 hb30
   have hr4 : TbOk s y l m _ (⟨pv9, (tcH s y ((i1 : Int) / l) 0 r1.t), cp9⟩ : TbI) := ⟨InT.own (HP.get hH31 2 rfl), VT_tc hr2.ok (line_of hg.2.2.1 (by omega))⟩
   have hE5 := hE2.keep hH31
   have hT5 := fun i9 => hE2.tab (hT2 i9) hH31
   refine WL.c 119 #[vP pb 0, vI (i1 : Int), vI (-1), vI (E : Int), .slice pv9 ((tcH s y ((i1 : Int) / l) 0 r1.t).length) cp9] 64 ?_
   refine (hbr.1 _ _ (⟨pv9, (tcH s y ((i1 : Int) / l) 0 r1.t), cp9⟩ : TbI) hE5 hr4 hT5).mono ?_
   rintro e w9 ⟨r9, T9, rfl, hb9, hr9, hT9, hX9⟩
   refine ⟨_, rfl, ?_⟩
   have hH32 : HP (Out [pE pb cq n cap b6 b4 63 ga, aE ga n (upA T1 i1 r1)]) w8 _ [.cel pb #[.slice cq n cap, .func (.func 87) #[] #[vP b6 0, vP b4 0], .func (.func 63) #[] #[], .func (.func 88) #[] #[], .func (.func 89) #[] #[], vS ga n n] 112, .cel ga (aR n T9) 88, rowT pv9 (tcH s y ((i1 : Int) / l) 0 r1.t).length cp9 (tcH s y ((i1 : Int) / l) 0 r1.t)] := HP.exchF (A := [pE pb cq n cap b6 b4 63 ga, aE ga n (upA T1 i1 r1)]) (B := [rowT pv9 (tcH s y ((i1 : Int) / l) 0 r1.t).length cp9 (tcH s y ((i1 : Int) / l) 0 r1.t)]) hH31 hb9
   rw [tabs_up] at hX9
   refine WL.z (.slice r9.q r9.t.length r9.c) 3 (WL.k hK28 (WC.sb [(0, vP pb 0), (2, vI (j : Int)), (3, .slice r9.q r9.t.length r9.c), (9, vI (i1 : Int)), (10, vI (-1)), (11, vI (E : Int)), (16, .bool true), (33, .bool false)] (WC.region (WL.z (vI (E : Int)) 65 (WL.y (vI ((E + 1 : Nat) : Int)) 66 (x_ad (((E + 1 : Nat) : Int))) (WL.z (vI ((E + 1 : Nat) : Int)) 9 (WL.nil (WQ.inNormal ?_))))))))
   have hF9 : HP (Out [pE pb cq n cap b6 b4 63 ga, aE ga n (upA T1 i1 r1)]) w8 _ [pE pb cq n cap b6 b4 63 ga, aE ga n T9] := HP.drop hH32 2
   refine WQ.sb [(0, vP pb 0), (2, vI (j : Int)), (3, .slice r9.q r9.t.length r9.c), (9, vI ((E + 1 : Nat) : Int))] ?_
   refine WQ.then (hK4 _ _ _ (by omega) ⟨E + 1, R2, r9, T9, rfl, rfl, by omega, hIs2, ((congrArg (fun X : List T2 × (Nat → List T2) => Fl.sol (ops0 s y l) (cdOf c n) R2 X.1 X.2) hX9).trans ((sol_plain (ops0 s y l) (cdOf c n) i1 E Rb R2 r1.t (tabs T1)).symm.trans hsol)), hbr.2, hr9, hT9, HP.exch (A := []) hM (HP.exch (A := []) hB8 hF9), HP.refl _⟩)
  | alt i1 a1 E Ra Rb R2 =>
   obtain ⟨rfl, hop, he1, hd1, hoa, ho1, h34, h35, hIa, hIb, hIs2⟩ := hIs
   have hopn : Ec.opn (c i1) = true := Ec.opn_iff.2 (by rcases hop with q | q <;> (have q : c i1 = _ := q) <;> omega)
   have hEj := hIs2.le
   have hEb := hIb.le
   have hEa := hIa.le
   obtain ⟨hm1, hm2⟩ := ma_of hc (show i1 < n by omega) hopn
   have hm1 : Ec.maA c A B n (i1 : Int) = (a1 : Int) := hm1.trans he1
   have hm2 : Ec.maE c A B n (i1 : Int) = (E : Int) := hm2.trans hd1
   refine WC.region (WL.z (vP pb 0) 17 (WL.z (vP pb 0) 18 (WL.z (vP pb 5) 19 (WL.y (vS ga n n) 20 (x_load rfl rfl Try.underlying110 rfl (HP.cell hH7 0 rfl rfl)) (WL.z (vI (i1 : Int)) 21 (WL.z (.slice r1.q r1.t.length r1.c) 22 (WL.y (vP ga i1) 23 (x_ix (i1) (i1) Try.underlying110 sz88) ?_)))))))
   refine WL.store (c' := aR n (upA T1 i1 r1)) (H2 := _) 1 hH7 rfl rfl rfl rfl rfl rfl sz88 rfl (by rw [aR_size]; omega) (aR_set n i1 T1 r1) rfl ?_
   intro w8 hB8
   have hB8 : HP (Out [pE pb cq n cap b6 b4 63 ga, aE ga n T1]) w5 w8 [pE pb cq n cap b6 b4 63 ga, aE ga n (upA T1 i1 r1)] := hB8
   have hE2 := hE1.keep hB8
   have hr2 := hE1.tab hr1 hB8
   have hT2 : ∀ i9, TbOk s y l m w8 (upA T1 i1 r1 i9) := fun i9 => by unfold upA; split; exact hr2; exact hE1.tab (hT1 i9) hB8
   have hH33 := HP.startB hE2.own
   refine WL.k hK10 (WC.sb [(0, vP pb 0), (2, vI (j : Int)), (3, .slice r1.q r1.t.length r1.c), (9, vI (i1 : Int)), (16, .bool true)] (WC.seq fun K34 hK34 => WC.seq fun K35 hK35 => ?_))
   obtain ⟨gc, oc, hqc, hrowc⟩ := hE2.code (by omega)
   have hgc9 := out_int hE2.own (hrowc i1 (by omega) 0 _ rfl)
   refine WC.region (WL.z (vP pb 0) 24 (WL.z (vP pb 0) 25 (WL.z (vP pb 0) 26 (WL.y (.slice cq n cap) 27 (x_load rfl rfl Try.underlying42 rfl (HP.cell hH33 0 rfl rfl)) (WL.z (vI (i1 : Int)) 28 (WL.y (vP gc (oc + i1 * 3)) 29 (x_idx (b := gc) (off := oc) i1 (oc + i1 * 3) rfl (by rw [← hqc]; rfl) rfl Try.underlying42 sz75 (by omega) (by omega) (by omega)) (WL.z (vP gc (oc + i1 * 3)) 30 (WL.y (vI (c i1)) 31 (x_load rfl rfl Try.underlying3 rfl ((HP.oldRange hH33 hgc9 (hrowc i1 (by omega))) 0 _ rfl)) ?_))))))))
   refine WL.c 74 #[vI (c i1)] 32 ?_
   refine (Opens_at hopn _).mono ?_
   rintro e w36 ⟨rfl, rfl⟩
   refine ⟨_, rfl, ?_⟩
   refine WL.z (.bool false) 33 (WL.k hK35 (WC.sb [(0, vP pb 0), (2, vI (j : Int)), (3, .slice r1.q r1.t.length r1.c), (9, vI (i1 : Int)), (16, .bool true), (33, .bool false)] ?_))
   refine WC.no rfl ?_
   refine WC.skip (WQ.then (hK34 _ _ _ (WC.seq fun K37 hK37 => WC.region (WL.z (vP pb 0) 44 (WL.z (vP pb 0) 45 (WL.z (vP pb 0) 46 (WL.y (.slice cq n cap) 47 (x_load rfl rfl Try.underlying42 rfl (HP.cell hH33 0 rfl rfl)) (WL.z (vI (i1 : Int)) 48 ?_))))))))
   refine WL.c 75 #[.slice cq n cap, vI (i1 : Int)] 49 ?_
   refine (Match_at hm1 hm2 _ (hE2.keep hH33).code (by omega) (by omega)).mono ?_
   rintro e w38 ⟨rfl, hb39⟩
   refine ⟨_, rfl, ?_⟩
   have hH40 := HP.call hH33 hb39
   refine WL.z (.tuple #[vI (a1 : Int), vI (E : Int), vI (Ec.maF c A B n (i1 : Int))]) 43 (WL.z (vI (a1 : Int)) 50 (WL.z (vI (E : Int)) 51 (WL.z (vI (Ec.maF c A B n (i1 : Int))) 52 (WL.z (vI (a1 : Int)) 10 (WL.z (vI (E : Int)) 11 (WL.z (vI (Ec.maF c A B n (i1 : Int))) 12 (WL.k hK37 (WC.sb [(0, vP pb 0), (2, vI (j : Int)), (3, .slice r1.q r1.t.length r1.c), (9, vI (i1 : Int)), (10, vI (a1 : Int)), (11, vI (E : Int)), (16, .bool true), (33, .bool false)] (WC.seq fun K41 hK41 => ?_)))))))))
   refine WC.region (WL.z (vP pb 0) 53 (WL.z (vI (i1 : Int)) 54 (WL.z (vI (a1 : Int)) 55 (WL.z (vI (E : Int)) 56 (WL.z (vP pb 0) 57 (WL.z (vP pb 0) 58 (WL.z (vP pb 1) 59 (WL.y (.func (.func 87) #[] #[vP b6 0, vP b4 0]) 60 (x_load rfl rfl Try.underlying107 rfl (HP.cell hH40 0 rfl rfl)) (WL.z (vI (i1 : Int)) 61 (WL.z (.slice r1.q r1.t.length r1.c) 62 ?_))))))))))
   have hE4 := hE2.keep hH40
   refine WL.c 87 #[vI (i1 : Int), .slice r1.q r1.t.length r1.c, vP b6 0, vP b4 0] 63 ?_
   refine (do0_any s y l m i1 r1.q r1.t r1.c b6 b4 _ hE4.how hE4.geo (hE2.tab hr2 hH40).inn hr2.ok (by omega)).mono ?_
   rintro e w42 ⟨pv9, cp9, rfl, hb43⟩
   refine ⟨_, rfl, ?_⟩
   have hH44 : HP (Out [pE pb cq n cap b6 b4 63 ga, aE ga n (upA T1 i1 r1)]) w8 _ [.cel pb #[.slice cq n cap, .func (.func 87) #[] #[vP b6 0, vP b4 0], .func (.func 63) #[] #[], .func (.func 88) #[] #[], .func (.func 89) #[] #[], vS ga n n] 112, .cel ga (aR n (upA T1 i1 r1)) 88, rowT pv9 (tcH s y ((i1 : Int) / l) 0 r1.t).length cp9 (tcH s y ((i1 : Int) / l) 0 r1.t)] := HP.trans hH40 hb43
   have hr4 : TbOk s y l m _ (⟨pv9, (tcH s y ((i1 : Int) / l) 0 r1.t), cp9⟩ : TbI) := ⟨InT.own (HP.get hH44 2 rfl), VT_tc hr2.ok (line_of hg.2.2.1 (by omega))⟩
   have hE5 := hE2.keep hH44
   have hT5 := fun i9 => hE2.tab (hT2 i9) hH44
   refine WL.c 119 #[vP pb 0, vI (i1 : Int), vI (a1 : Int), vI (E : Int), .slice pv9 ((tcH s y ((i1 : Int) / l) 0 r1.t).length) cp9] 64 ?_
   refine (hbr.1 _ _ (⟨pv9, (tcH s y ((i1 : Int) / l) 0 r1.t), cp9⟩ : TbI) hE5 hr4 hT5).mono ?_
   rintro e w9 ⟨r9, T9, rfl, hb9, hr9, hT9, hX9⟩
   refine ⟨_, rfl, ?_⟩
   have hH45 : HP (Out [pE pb cq n cap b6 b4 63 ga, aE ga n (upA T1 i1 r1)]) w8 _ [.cel pb #[.slice cq n cap, .func (.func 87) #[] #[vP b6 0, vP b4 0], .func (.func 63) #[] #[], .func (.func 88) #[] #[], .func (.func 89) #[] #[], vS ga n n] 112, .cel ga (aR n T9) 88, rowT pv9 (tcH s y ((i1 : Int) / l) 0 r1.t).length cp9 (tcH s y ((i1 : Int) / l) 0 r1.t)] := HP.exchF (A := [pE pb cq n cap b6 b4 63 ga, aE ga n (upA T1 i1 r1)]) (B := [rowT pv9 (tcH s y ((i1 : Int) / l) 0 r1.t).length cp9 (tcH s y ((i1 : Int) / l) 0 r1.t)]) hH44 hb9
   rw [tabs_up] at hX9
   refine WL.z (.slice r9.q r9.t.length r9.c) 3 (WL.k hK41 (WC.sb [(0, vP pb 0), (2, vI (j : Int)), (3, .slice r9.q r9.t.length r9.c), (9, vI (i1 : Int)), (10, vI (a1 : Int)), (11, vI (E : Int)), (16, .bool true), (33, .bool false)] (WC.region (WL.z (vI (E : Int)) 65 (WL.y (vI ((E + 1 : Nat) : Int)) 66 (x_ad (((E + 1 : Nat) : Int))) (WL.z (vI ((E + 1 : Nat) : Int)) 9 (WL.nil (WQ.inNormal ?_))))))))
   have hF9 : HP (Out [pE pb cq n cap b6 b4 63 ga, aE ga n (upA T1 i1 r1)]) w8 _ [pE pb cq n cap b6 b4 63 ga, aE ga n T9] := HP.drop hH45 2
   refine WQ.sb [(0, vP pb 0), (2, vI (j : Int)), (3, .slice r9.q r9.t.length r9.c), (9, vI ((E + 1 : Nat) : Int))] ?_
   refine WQ.then (hK4 _ _ _ (by omega) ⟨E + 1, R2, r9, T9, rfl, rfl, by omega, hIs2, ((congrArg (fun X : List T2 × (Nat → List T2) => Fl.sol (ops0 s y l) (cdOf c n) R2 X.1 X.2) hX9).trans ((sol_alt (ops0 s y l) (cdOf c n) i1 a1 E Ra Rb R2 r1.t (tabs T1)).symm.trans hsol)), hbr.2, hr9, hT9, HP.exch (A := []) hM (HP.exch (A := []) hB8 hF9), HP.refl _⟩)
 ·
  refine WL.y (.bool false) 16 (x_lss rfl rfl rfl (dF (hlt))) (WL.k hK9 ?_)
  refine WC.no rfl ?_
  refine WC.exit (WQ.thenExit (WQ.thenExit (WQ.inExit (WQ.then (hK2 _ _ _ (WC.seq fun K46 hK46 => WC.region (WL.z (.slice r1.q r1.t.length r1.c) 67 (WL.z (.slice r1.q r1.t.length r1.c) 8 (WL.nil (WQ.then ?_))))))))))
  refine hK46 _ _ _ (WC.ret ?_)
  refine WQ.ret1 8 rfl rfl ?_
  cases R1 with
  | nil => exact ⟨r1, T1, rfl, hM, hr1, hT1, hsol⟩
  | one i1 R2 => have q9 := hIs.2.2.le; have q8 := hIs.1; omega
  | plain i1 E Rb R2 => have q9 := hIs.2.2.2.2.2.2.2.le; have q7 := hIs.2.2.2.2.2.2.1.le; have q8 := hIs.1; omega
  | alt i1 a1 E Ra Rb R2 => have q9 := hIs.2.2.2.2.2.2.2.2.2.2.le; have q7 := hIs.2.2.2.2.2.2.2.2.2.1.le; have q6 := hIs.2.2.2.2.2.2.2.2.1.le; have q8 := hIs.1; omega
end Ca
end Go.Proofs.Ytmjnakhpekbenaa
namespace Go.Proofs.Ytmjnakhpekbenaa
open Fw
namespace Ca
open Ec
section
variable {c : Nat → Int} {n : Nat} {s : Sh}
theorem shp_ex (B : Bal c n s) {k : Nat} (hk : k ≤ n) : ∃ sk, shp c k = some sk := shp_back B.hs hk
theorem else_at (B : Bal c n s) {i : Nat} (hi : i < n) (h : c i = 34) {si : Sh} (hsi : shp c i = some si) : ∃ r x, si.l = r ++ [x] ∧ s.e x = (i : Int) ∧ s.o i = (x : Int) ∧ (c x = 29 ∨ c x = 33) := by
  obtain ⟨s1, hs1⟩ := shp_ex B (k := i + 1) (by omega)
  obtain ⟨si', e1, hst⟩ := shp_succ hs1
  rw [hsi] at e1; cases e1
  rcases stp_inv hst with ⟨h1, -⟩ | ⟨-, h1, -⟩ | ⟨-, r, x, hl, h2, h3, e⟩ | ⟨h1, -⟩
  · rw [opn_iff] at h1; omega
  · exact absurd h h1
  · refine ⟨r, x, hl, ?_, ?_, two_iff.1 h2⟩
    · have hx : x < i := (inv_of i si hsi).lt x (by rw [hl]; simp)
      have hex : s1.e x = (i : Int) := by rw [e]; exact upI_same _ _ _
      rcases (frz_at hs1 B.hs (by omega)).e x (by omega) with q | ⟨q, -⟩
      · rw [q, hex]
      · rw [hex] at q; omega
    · rw [o_eq B hi hsi, hl, top_app]
  · omega
theorem end_at (B : Bal c n s) {i : Nat} (hi : i < n) (h : c i = 35) {si : Sh} (hsi : shp c i = some si) : ∃ r x s1, si.l = r ++ [x] ∧ shp c (i + 1) = some s1 ∧ s1.l = r ∧ s.d x = (i : Int) ∧ s.o i = (x : Int) ∧ ¬ (c x = 33 ∧ si.e x < 0) := by
  obtain ⟨s1, hs1⟩ := shp_ex B (k := i + 1) (by omega)
  obtain ⟨si', e1, hst⟩ := shp_succ hs1
  rw [hsi] at e1; cases e1
  rcases stp_inv hst with ⟨h1, -⟩ | ⟨-, -, h1, -⟩ | ⟨h1, -⟩ | ⟨-, r, x, hl, h2, e⟩
  · rw [opn_iff] at h1; omega
  · exact absurd h h1
  · omega
  · have I := inv_of i si hsi
    have hx : x < i := I.lt x (by rw [hl]; simp)
    have hxr : x ∉ r := fun q => by
      have h3 := I.inc
      rw [hl] at h3
      have := (List.pairwise_append.1 h3).2.2 x q x (by simp)
      omega
    have hdx : s1.d x = (i : Int) := by rw [e]; exact upI_same _ _ _
    refine ⟨r, x, s1, hl, hs1, by rw [e], ?_, by rw [o_eq B hi hsi, hl, top_app], fun q => h2 ⟨q.1, by rw [upI_ne (by omega)]; exact q.2⟩⟩
    have := ((frz_at hs1 B.hs (by omega)).out x (by omega) (by rw [e]; exact hxr)).2.2
    rw [this, hdx]
theorem opens (B : Bal c n s) {k : Nat} (hk : k < n) (ho : opn (c k) = true) {sk : Sh} (hsk : shp c k = some sk) : ∃ s1, shp c (k + 1) = some s1 ∧ s1.l = sk.l ++ [k] :=
  ⟨_, shp_open hsk ho, rfl⟩
theorem end_of (B : Bal c n s) {k : Nat} (hk : k < n) (ho : opn (c k) = true) {sk : Sh} (hsk : shp c k = some sk) :
    ∃ (E : Nat) (sE s1 : Sh), s.d k = (E : Int) ∧ k < E ∧ E < n ∧ c E = 35 ∧ shp c E = some sE ∧ sE.l = sk.l ++ [k] ∧ shp c (E + 1) = some s1 ∧ s1.l = sk.l ∧ s.o E = (k : Int) ∧ ¬ (c k = 33 ∧ sE.e k < 0) := by
  obtain ⟨h1, h2, h3⟩ := d_range B hk ho
  obtain ⟨E, hE⟩ : ∃ E : Nat, s.d k = (E : Int) := ⟨(s.d k).toNat, by omega⟩
  rw [hE, Int.toNat_natCast] at h3
  obtain ⟨sE, hsE⟩ := shp_ex B (k := E) (by omega)
  obtain ⟨r, x, s1, hl, hs1, hl1, hdx, hox, hno⟩ := end_at B (by omega) h3 hsE
  have hkE : k ∈ sE.l := (mem_stack B (by omega) hsE k).2 ⟨by omega, ho, by omega⟩
  have hkx : k = x := by
    rw [hl] at hkE
    rcases List.mem_append.1 hkE with q | q
    · have q2 := (mem_stack B (k := E + 1) (by omega) hs1 k).1 (by rw [hl1]; exact q)
      omega
    · simpa using q
  subst hkx
  obtain ⟨i, hi⟩ : ∃ i, E = k + 1 + i := ⟨E - (k + 1), by omega⟩
  obtain ⟨r2, hr2⟩ := pre_stack hsk ho i sE (by rw [← hi]; exact hsE) hkE
  have hr : r2 = [] := by
    cases hq : r2.getLast? with
    | none => simpa using hq
    | some z =>
      have e1 := last_split hq
      rw [hl, e1] at hr2
      have e2 : z = k := by
        have q := congrArg List.getLast? hr2
        rw [← List.append_assoc, last_app, last_app] at q
        exact (Option.some.inj q).symm
      have I := (inv_of E sE hsE).inc
      rw [hl, hr2, ← List.append_assoc] at I
      have := (List.pairwise_append.1 I).2.2 k (by simp) z (by simp)
      omega
  rw [hr, List.append_nil] at hr2
  have hrr : r = sk.l := by
    rw [hl] at hr2
    exact List.append_cancel_right hr2
  exact ⟨E, sE, s1, hE, by omega, by omega, h3, hsE, by rw [hl, hrr], hs1, by rw [hl1, hrr], hox, hno⟩
theorem else_of (B : Bal c n s) {k a : Nat} (hk : k < n) (ho : opn (c k) = true) {sk : Sh} (hsk : shp c k = some sk) (ha : s.e k = (a : Int)) :
    k < a ∧ a < n ∧ c a = 34 ∧ ∃ sa s1, shp c a = some sa ∧ sa.l = sk.l ++ [k] ∧ shp c (a + 1) = some s1 ∧ s1.l = sk.l ++ [k] ∧ s.o a = (k : Int) ∧ (c k = 29 ∨ c k = 33) := by
  rcases (inv_of n s B.hs).e k hk with q | ⟨q1, q2, q3⟩
  · omega
  · rw [ha] at q1 q2 q3
    rw [Int.toNat_natCast] at q3
    obtain ⟨sa, hsa⟩ := shp_ex B (k := a) (by omega)
    obtain ⟨r, x, hl, hex, hox, h2⟩ := else_at B (by omega) q3 hsa
    obtain ⟨s1, hs1⟩ := shp_ex B (k := a + 1) (by omega)
    obtain ⟨sa', e1, hst⟩ := shp_succ hs1
    rw [hsa] at e1; cases e1
    have hx : x < a := (inv_of a sa hsa).lt x (by rw [hl]; simp)
    have hkx : k = x := by
      apply Classical.byContradiction
      intro hne
      rcases stp_inv hst with ⟨h1, -⟩ | ⟨-, h1, -⟩ | ⟨-, r', x', hl', -, -, e⟩ | ⟨h1, -⟩
      · rw [opn_iff] at h1; omega
      · exact h1 q3
      · have hxx : x' = x := by
          rw [hl] at hl'
          have q := congrArg List.getLast? hl'
          rw [last_app, last_app] at q
          exact (Option.some.inj q).symm
        subst hxx
        have hek : s1.e k = sa.e k := by
          rw [e]
          show Ec.upI (Ec.upI sa.e a (-1)) x' (a : Int) k = _
          rw [Ec.upI_ne hne, Ec.upI_ne (by omega)]
        have hlt : sa.e k < a := by
          rcases (inv_of a sa hsa).e k (by omega) with q | ⟨-, q, -⟩ <;> omega
        rcases (frz_at hs1 B.hs (by omega)).e k (by omega) with q | ⟨-, q⟩ <;> omega
      · omega
    subst hkx
    have hl1 : s1.l = sa.l := by
      rcases stp_inv hst with ⟨h1, -⟩ | ⟨-, h1, -⟩ | ⟨-, r', x', hl', -, -, e⟩ | ⟨h1, -⟩
      · rw [opn_iff] at h1; omega
      · exact absurd q3 h1
      · rw [e]
      · omega
    have hka : k ∈ sa.l := by rw [hl]; simp
    obtain ⟨i, hi⟩ : ∃ i, a = k + 1 + i := ⟨a - (k + 1), by omega⟩
    obtain ⟨r2, hr2⟩ := pre_stack hsk ho i sa (by rw [← hi]; exact hsa) hka
    have hr : r2 = [] := by
      cases hq : r2.getLast? with
      | none => simpa using hq
      | some z =>
        have e1 := last_split hq
        rw [hl, e1] at hr2
        have e2 : z = k := by
          have q := congrArg List.getLast? hr2
          rw [← List.append_assoc, last_app, last_app] at q
          exact (Option.some.inj q).symm
        have I := (inv_of a sa hsa).inc
        rw [hl, hr2, ← List.append_assoc] at I
        have := (List.pairwise_append.1 I).2.2 k (by simp) z (by simp)
        omega
    rw [hr, List.append_nil] at hr2
    exact ⟨by omega, by omega, q3, sa, s1, hsa, hr2, hs1, by rw [hl1, hr2], hox, h2⟩
structure Seg (c : Nat → Int) (k j : Nat) (b : List Nat) : Prop where
  st : ∃ sk, shp c k = some sk ∧ sk.l = b
  fn : ∃ sj, shp c j = some sj ∧ sj.l = b
  md : ∀ i si, k ≤ i → i < j → shp c i = some si → (c i = 34 → si.l ≠ b) ∧ (c i = 35 → si.l ≠ b)
theorem tree_of (B : Bal c n s) : ∀ (m k j : Nat) (b : List Nat), j - k ≤ m → k ≤ j → j ≤ n → Seg c k j b → ∃ R, Fl.Is ⟨c, s.e, s.d, s.o⟩ R k j := by
  intro m
  induction m with
  | zero => intro k j b h1 h2 h3 _; exact ⟨.nil, by show k = j; omega⟩
  | succ m ih =>
    intro k j b h1 h2 h3 G
    by_cases hkj : k = j
    · exact ⟨.nil, hkj⟩
    obtain ⟨sk, hsk, hb⟩ := G.st
    obtain ⟨sj, hsj, hbj⟩ := G.fn
    have hkn : k < n := by omega
    obtain ⟨s1, hs1⟩ := shp_ex B (k := k + 1) (by omega)
    obtain ⟨sk', e1, hst⟩ := shp_succ hs1
    rw [hsk] at e1; cases e1
    by_cases ho : opn (c k) = true
    · -- an opening
      obtain ⟨E, sE, sE1, hdE, hkE, hEn, hcE, hsE, hlE, hsE1, hlE1, hoE, htry⟩ := end_of B hkn ho hsk
      have hknb : k ∉ sj.l := fun q => by
        rw [hbj, ← hb] at q
        have := (inv_of k sk hsk).lt k q; omega
      have hEj : E < j := by
        apply Classical.byContradiction
        intro q
        exact hknb ((mem_stack B h3 hsj k).2 ⟨by omega, ho, by omega⟩)
      -- between the opening and its end
      have mid : ∀ i si, k + 1 ≤ i → i < E → shp c i = some si → (c i = 34 → si.l = sk.l ++ [k] → s.e k = (i : Int)) ∧ (c i = 35 → si.l ≠ sk.l ++ [k]) := fun i si g1 g2 g3 => by
        constructor
        · intro g4 g5
          obtain ⟨r, x, q1, q2, -⟩ := else_at B (by omega) g4 g3
          have : x = k := by
            rw [g5] at q1
            have q := congrArg List.getLast? q1
            rw [last_app, last_app] at q
            exact (Option.some.inj q).symm
          rw [← this]; exact q2
        · intro g4 g5
          obtain ⟨r, x, s9, q1, -, -, q2, -⟩ := end_at B (by omega) g4 g3
          have : x = k := by
            rw [g5] at q1
            have q := congrArg List.getLast? q1
            rw [last_app, last_app] at q
            exact (Option.some.inj q).symm
          rw [this] at q2; omega
      obtain ⟨R2, hR2⟩ := ih (E + 1) j b (by omega) (by omega) h3 ⟨⟨sE1, hsE1, by rw [hlE1, hb]⟩, ⟨sj, hsj, hbj⟩, fun i si g1 g2 g3 => G.md i si (by omega) g2 g3⟩
      have hos1 : s1.l = sk.l ++ [k] := by
        have := shp_open hsk ho
        rw [hs1] at this; cases this; rfl
      have hop := opn_iff.1 ho
      rcases (inv_of n s B.hs).e k hkn with he | ⟨he1, he2, he3⟩
      · -- no else
        obtain ⟨Rb, hRb⟩ := ih (k + 1) E (sk.l ++ [k]) (by omega) (by omega) (by omega) ⟨⟨s1, hs1, hos1⟩, ⟨sE, hsE, hlE⟩, fun i si g1 g2 g3 => ⟨fun g4 g5 => by
          have := (mid i si g1 g2 g3).1 g4 g5; omega, (mid i si g1 g2 g3).2⟩⟩
        have h33 : c k ≠ 33 := fun q => htry ⟨q, by
          rcases (frz_at hsE B.hs (by omega)).e k (by omega) with q2 | ⟨q2, -⟩
          · rw [← q2, he]; decide
          · exact q2⟩
        exact ⟨.plain k E Rb R2, rfl, ⟨hop.1, by show c k ≤ 32; have := hop.2; omega⟩, he, hdE, hoE, hcE, hRb, hR2⟩
      · obtain ⟨a, ha⟩ : ∃ a : Nat, s.e k = (a : Int) := ⟨(s.e k).toNat, by omega⟩
        obtain ⟨q1, q2, q3, sa, sa1, q4, q5, q6, q7, q8, q9⟩ := else_of B hkn ho hsk ha
        have hkst : k ∈ sa.l := by rw [q5]; simp
        have haE : a < E := by
          have := (mem_stack B (by omega) q4 k).1 hkst
          have h5 : a ≠ E := fun e => by rw [e] at q3; omega
          omega
        obtain ⟨Ra, hRa⟩ := ih (k + 1) a (sk.l ++ [k]) (by omega) (by omega) (by omega) ⟨⟨s1, hs1, hos1⟩, ⟨sa, q4, q5⟩, fun i si g1 g2 g3 => ⟨fun g4 g5 => by
          have := (mid i si g1 (by omega) g3).1 g4 g5; omega, (mid i si g1 (by omega) g3).2⟩⟩
        obtain ⟨Rb, hRb⟩ := ih (a + 1) E (sk.l ++ [k]) (by omega) (by omega) (by omega) ⟨⟨sa1, q6, q7⟩, ⟨sE, hsE, hlE⟩, fun i si g1 g2 g3 => ⟨fun g4 g5 => by
          have := (mid i si (by omega) g2 g3).1 g4 g5; omega, (mid i si (by omega) g2 g3).2⟩⟩
        exact ⟨.alt k a E Ra Rb R2, rfl, q9, ha, hdE, q8, hoE, q3, hcE, hRa, hRb, hR2⟩
    · have ho' : opn (c k) = false := by simpa using ho
      have m9 := G.md k sk (Nat.le_refl _) (by omega) hsk
      rcases stp_inv hst with ⟨h5, -⟩ | ⟨-, h4, h5, e⟩ | ⟨h5, r, x, hl, -⟩ | ⟨h5, r, x, hl, -⟩
      · exact absurd h5 ho
      · obtain ⟨R, hR⟩ := ih (k + 1) j b (by omega) (by omega) h3 ⟨⟨s1, hs1, by rw [e]; exact hb⟩, ⟨sj, hsj, hbj⟩, fun i si g1 g2 g3 => G.md i si (by omega) g2 g3⟩
        have h9 := opn_no.1 ho'
        exact ⟨.one k R, rfl, fun q => by have q1 := q.1; have q2 := q.2; simp only [] at q1 q2; omega, hR⟩
      · exact absurd hb (m9.1 h5)
      · exact absurd hb (m9.2 h5)
theorem is_tree {A B : Nat → Int} (h : chk c A B false n = 0) : ∃ R, Fl.Is (cdOf c n) R 0 n := by
  have Bb := chk_bal h
  refine tree_of Bb n 0 n [] (by omega) (Nat.zero_le _) (Nat.le_refl _) ⟨⟨_, rfl, rfl⟩, ⟨_, Bb.hs, Bb.hl⟩, fun i si g1 g2 g3 => ⟨fun g4 g5 => ?_, fun g4 g5 => ?_⟩⟩
  · obtain ⟨r, x, hl, -⟩ := else_at Bb g2 g4 g3
    rw [g5] at hl; simp at hl
  · obtain ⟨r, x, s9, hl, -⟩ := end_at Bb g2 g4 g3
    rw [g5] at hl; simp at hl
end
end Ca
end Go.Proofs.Ytmjnakhpekbenaa
namespace Go.Proofs.Ytmjnakhpekbenaa
open Fw
namespace Ca
section
variable (C : Fl.Cd) (A p : Nat → Int)
def mxI (x y : Int) : Int := if y > x then y else x
def cst : Fl.Tr → Int
  | .nil => 0
  | .one i r => p i + cst r
  | .plain i E b r => p i + (if C.c i = 30 then A i * (cst b + p E) else cst b + p E) + cst r
  | .alt i a E b1 b2 r => p i + (if C.c i = 29 then mxI (cst b1 + p a) (cst b2 + p E) else cst b1 + mxI (p a) (cst b2 + p E)) + cst r
def dep : Fl.Tr → Nat
  | .nil => 0
  | .one i r => dep r
  | .plain i E b r => max (dep b + 1) (dep r)
  | .alt i a E b1 b2 r => max (max (dep b1) (dep b2) + 1) (dep r)
def Sm : Fl.Tr → Prop
  | .nil => True
  | .one i r => Sm r
  | .plain i E b r => cst C A p b + p E ≤ 1000000000000000 ∧ Sm b ∧ Sm r
  | .alt i a E b1 b2 r => cst C A p b1 + p a ≤ 1000000000000000 ∧ cst C A p b2 + p E ≤ 1000000000000000 ∧ Sm b1 ∧ Sm b2 ∧ Sm r
end
theorem le_mxI {x y : Int} : x ≤ mxI x y ∧ y ≤ mxI x y := by unfold mxI; split <;> omega
def pw (d : Nat) : Int := 100 * 50 ^ d
theorem pw_succ (d : Nat) : pw (d + 1) = 50 * pw d := by unfold pw; rw [Int.pow_succ]; omega
theorem pw_pos : ∀ d, 100 ≤ pw d
  | 0 => by decide
  | d + 1 => by rw [pw_succ]; have := pw_pos d; omega
theorem pw_mono {d e : Nat} (h : d ≤ e) : pw d ≤ pw e := by
  induction h with
  | refl => exact Int.le_refl _
  | step _ ih => rw [pw_succ]; have := pw_pos d; omega
theorem pw_mul {d e : Nat} (h : d ≤ e) {x : Int} (hx : 0 ≤ x) : pw d * x ≤ pw e * x := Int.mul_le_mul_of_nonneg_right (pw_mono h) hx
section
variable {C : Fl.Cd} {A p : Nat → Int} {n : Nat} (hp : ∀ i, 0 ≤ p i ∧ p i ≤ 100) (hA : ∀ i, i < n → C.c i = 30 → 0 ≤ A i ∧ A i ≤ 50)
include hp hA
theorem cst_bd : ∀ (R : Fl.Tr) (k j : Nat), Fl.Is C R k j → j ≤ n → 0 ≤ cst C A p R ∧ cst C A p R ≤ pw (dep R) * ((j : Int) - k)
  | .nil, k, j, h, hj => by
    have : k = j := h
    subst this
    simp [cst]
  | .one i r, k, j, h, hj => by
    obtain ⟨h1, h2⟩ := cst_bd r (k + 1) j h.2.2 hj
    have h3 := hp i
    have h4 := pw_pos (dep r)
    have e : pw (dep r) * ((j : Int) - k) = pw (dep r) * ((j : Int) - (k + 1 : Nat)) + pw (dep r) := by
      rw [show (j : Int) - k = ((j : Int) - (k + 1 : Nat)) + 1 by omega, Int.mul_add, Int.mul_one]
    show 0 ≤ p i + cst C A p r ∧ p i + cst C A p r ≤ pw (dep r) * _
    omega
  | .plain i E b r, k, j, h, hj => by
    obtain ⟨q1, q2, q3, q4, q5, q6, q7, q8⟩ := h
    subst q1
    have l1 := q8.le
    have l2 := q7.le
    obtain ⟨h1, h2⟩ := cst_bd b (i + 1) E q7 (by omega)
    obtain ⟨h3, h4⟩ := cst_bd r (E + 1) j q8 hj
    have h5 := hp i
    have h6 := hp E
    have d1 : dep b + 1 ≤ dep (.plain i E b r) := Nat.le_max_left _ _
    have d2 : dep r ≤ dep (.plain i E b r) := Nat.le_max_right _ _
    generalize hD : dep (.plain i E b r) = D at d1 d2
    have h7 := pw_pos D
    have h8 := pw_pos (dep b)
    have e1 : pw (dep b) * ((E : Int) - i) = pw (dep b) * ((E : Int) - (i + 1 : Nat)) + pw (dep b) := by
      rw [show (E : Int) - i = ((E : Int) - (i + 1 : Nat)) + 1 by omega, Int.mul_add, Int.mul_one]
    have m1 : 50 * (pw (dep b) * ((E : Int) - i)) ≤ pw D * ((E : Int) - i) := by
      have := pw_mul d1 (x := (E : Int) - i) (by omega)
      rw [pw_succ, Int.mul_assoc] at this; exact this
    have m2 := pw_mul d2 (x := (j : Int) - (E + 1 : Nat)) (by omega)
    have e2 : pw D * ((j : Int) - i) = pw D * ((E : Int) - i) + pw D * ((j : Int) - (E + 1 : Nat)) + pw D := by
      rw [show (j : Int) - i = ((E : Int) - i) + ((j : Int) - (E + 1 : Nat)) + 1 by omega, Int.mul_add, Int.mul_add, Int.mul_one]
    have hv : 0 ≤ (if C.c i = 30 then A i * (cst C A p b + p E) else cst C A p b + p E) ∧ (if C.c i = 30 then A i * (cst C A p b + p E) else cst C A p b + p E) ≤ 50 * (pw (dep b) * ((E : Int) - i)) := by
      split
      · rename_i h30
        have ha := hA i (by omega) h30
        exact ⟨Int.mul_nonneg ha.1 (by omega), Int.le_trans (Int.mul_le_mul_of_nonneg_right ha.2 (by omega)) (Int.mul_le_mul_of_nonneg_left (by omega) (by decide))⟩
      · omega
    show 0 ≤ p i + (if C.c i = 30 then A i * (cst C A p b + p E) else cst C A p b + p E) + cst C A p r ∧ p i + (if C.c i = 30 then A i * (cst C A p b + p E) else cst C A p b + p E) + cst C A p r ≤ _
    generalize (if C.c i = 30 then A i * (cst C A p b + p E) else cst C A p b + p E) = v at hv
    omega
  | .alt i a E b1 b2 r, k, j, h, hj => by
    obtain ⟨q1, q2, q3, q4, q5, q6, q7, q8, q9, q10, q11⟩ := h
    subst q1
    have l1 := q9.le
    have l2 := q10.le
    have l3 := q11.le
    obtain ⟨h1, h2⟩ := cst_bd b1 (i + 1) a q9 (by omega)
    obtain ⟨h3, h4⟩ := cst_bd b2 (a + 1) E q10 (by omega)
    obtain ⟨h5, h6⟩ := cst_bd r (E + 1) j q11 hj
    have h7 := hp i
    have h8 := hp a
    have h9 := hp E
    have d1 : dep b1 ≤ dep (.alt i a E b1 b2 r) := by show dep b1 ≤ max (max (dep b1) (dep b2) + 1) (dep r); omega
    have d2 : dep b2 ≤ dep (.alt i a E b1 b2 r) := by show dep b2 ≤ max (max (dep b1) (dep b2) + 1) (dep r); omega
    have d3 : dep r ≤ dep (.alt i a E b1 b2 r) := Nat.le_max_right _ _
    generalize hD : dep (.alt i a E b1 b2 r) = D at d1 d2 d3
    have h10 := pw_pos D
    have m1 := pw_mul d1 (x := (a : Int) - (i + 1 : Nat)) (by omega)
    have m2 := pw_mul d2 (x := (E : Int) - (a + 1 : Nat)) (by omega)
    have m3 := pw_mul d3 (x := (j : Int) - (E + 1 : Nat)) (by omega)
    have e2 : pw D * ((j : Int) - i) = pw D * ((a : Int) - (i + 1 : Nat)) + pw D * ((E : Int) - (a + 1 : Nat)) + pw D * ((j : Int) - (E + 1 : Nat)) + pw D * 3 := by
      rw [show (j : Int) - i = ((a : Int) - (i + 1 : Nat)) + ((E : Int) - (a + 1 : Nat)) + ((j : Int) - (E + 1 : Nat)) + 3 by omega, Int.mul_add, Int.mul_add, Int.mul_add]
    have hv : 0 ≤ (if C.c i = 29 then mxI (cst C A p b1 + p a) (cst C A p b2 + p E) else cst C A p b1 + mxI (p a) (cst C A p b2 + p E)) ∧ (if C.c i = 29 then mxI (cst C A p b1 + p a) (cst C A p b2 + p E) else cst C A p b1 + mxI (p a) (cst C A p b2 + p E)) ≤ cst C A p b1 + p a + (cst C A p b2 + p E) := by
      unfold mxI; split <;> split <;> omega
    show 0 ≤ p i + (if C.c i = 29 then mxI (cst C A p b1 + p a) (cst C A p b2 + p E) else cst C A p b1 + mxI (p a) (cst C A p b2 + p E)) + cst C A p r ∧ p i + (if C.c i = 29 then mxI (cst C A p b1 + p a) (cst C A p b2 + p E) else cst C A p b1 + mxI (p a) (cst C A p b2 + p E)) + cst C A p r ≤ _
    generalize (if C.c i = 29 then mxI (cst C A p b1 + p a) (cst C A p b2 + p E) else cst C A p b1 + mxI (p a) (cst C A p b2 + p E)) = v at hv
    omega
theorem cst_K {R : Fl.Tr} {k j : Nat} (h : Fl.Is C R k j) (hj : j ≤ n) (hn : n ≤ 120) (hd : dep R ≤ 6) : 0 ≤ cst C A p R ∧ cst C A p R ≤ 187500000000000 := by
  obtain ⟨h1, h2⟩ := cst_bd hp hA R k j h hj
  refine ⟨h1, Int.le_trans h2 ?_⟩
  have l := h.le
  have h3 := pw_mul hd (x := (j : Int) - k) (by omega)
  have h4 : pw 6 = 1562500000000 := by decide
  rw [h4] at h3
  omega
theorem sm_of : ∀ (R : Fl.Tr) (k j : Nat), Fl.Is C R k j → j ≤ n → n ≤ 120 → dep R ≤ 6 → Sm C A p R
  | .nil, k, j, h, hj, hn, hd => trivial
  | .one i r, k, j, h, hj, hn, hd => sm_of r (k + 1) j h.2.2 hj hn hd
  | .plain i E b r, k, j, h, hj, hn, hd => by
    obtain ⟨q1, q2, q3, q4, q5, q6, q7, q8⟩ := h
    subst q1
    have l1 := q8.le
    have l2 := q7.le
    have d1 : dep b + 1 ≤ dep (.plain i E b r) := Nat.le_max_left _ _
    have d2 : dep r ≤ dep (.plain i E b r) := Nat.le_max_right _ _
    have h1 := cst_K hp hA q7 (by omega) hn (by omega)
    have h2 := hp E
    exact ⟨by omega, sm_of b (i + 1) E q7 (by omega) hn (by omega), sm_of r (E + 1) j q8 hj hn (by omega)⟩
  | .alt i a E b1 b2 r, k, j, h, hj, hn, hd => by
    obtain ⟨q1, q2, q3, q4, q5, q6, q7, q8, q9, q10, q11⟩ := h
    subst q1
    have l1 := q9.le
    have l2 := q10.le
    have l3 := q11.le
    have d1 : dep b1 ≤ dep (.alt i a E b1 b2 r) := by show dep b1 ≤ max (max (dep b1) (dep b2) + 1) (dep r); omega
    have d2 : dep b2 ≤ dep (.alt i a E b1 b2 r) := by show dep b2 ≤ max (max (dep b1) (dep b2) + 1) (dep r); omega
    have d3 : dep r ≤ dep (.alt i a E b1 b2 r) := Nat.le_max_right _ _
    have h1 := cst_K hp hA q9 (by omega) hn (by omega)
    have h2 := cst_K hp hA q10 (by omega) hn (by omega)
    have h3 := hp a
    have h4 := hp E
    exact ⟨by omega, by omega, sm_of b1 (i + 1) a q9 (by omega) hn (by omega), sm_of b2 (a + 1) E q10 (by omega) hn (by omega), sm_of r (E + 1) j q11 hj hn (by omega)⟩
end
section
open Ec
variable {c : Nat → Int} {n : Nat} {s : Sh}
theorem lenB_le (B : Bal c n s) {k : Nat} (hk : k ≤ n) {sk : Sh} (hsk : shp c k = some sk) : sk.l.length ≤ 6 := by
  have h1 := (inv_of k sk hsk).le
  have h2 := (frz_at hsk B.hs hk).m
  have h3 := B.hm
  omega
theorem dep_le (B : Bal c n s) : ∀ (R : Fl.Tr) (k j : Nat), Fl.Is ⟨c, s.e, s.d, s.o⟩ R k j → j ≤ n → ∀ sk, shp c k = some sk → dep R + sk.l.length ≤ 6
  | .nil, k, j, h, hj, sk, hsk => by
    have : k = j := h
    have := lenB_le B (by omega) hsk
    simpa [dep] using this
  | .one i r, k, j, h, hj, sk, hsk => by
    obtain ⟨h1, h2, h3⟩ := h
    have l := h3.le
    obtain ⟨s1, hs1⟩ := shp_ex B (k := k + 1) (by omega)
    obtain ⟨sk', e1, hst⟩ := shp_succ hs1
    rw [hsk] at e1; cases e1
    have := dep_le B r (k + 1) j h3 hj s1 hs1
    have e : s1.l = sk.l := by
      rcases stp_inv hst with ⟨q, -⟩ | ⟨-, -, -, q⟩ | ⟨q, -⟩ | ⟨q, -⟩
      · have := opn_iff.1 q; exact absurd ⟨this.1, by show c k ≤ 35; omega⟩ h2
      · rw [q]; rfl
      · exact absurd ⟨by show 29 ≤ c k; omega, by show c k ≤ 35; omega⟩ h2
      · exact absurd ⟨by show 29 ≤ c k; omega, by show c k ≤ 35; omega⟩ h2
    rw [e] at this; exact this
  | .plain i E b r, k, j, h, hj, sk, hsk => by
    obtain ⟨q1, q2, q3, q4, q5, q6, q7, q8⟩ := h
    subst q1
    have l1 := q8.le
    have l2 := q7.le
    have ho : opn (c i) = true := opn_iff.2 ⟨q2.1, by have : c i ≤ 32 := q2.2; omega⟩
    obtain ⟨s1, hs1, e1⟩ := opens B (by omega) ho hsk
    obtain ⟨E', sE, sE1, hd, -, -, -, -, -, hs2, e2, -, -⟩ := end_of B (by omega) ho hsk
    have hE : E' = E := by have : s.d i = (E : Int) := q4; omega
    subst hE
    have h1 := dep_le B b (i + 1) E' q7 (by omega) s1 hs1
    have h2 := dep_le B r (E' + 1) j q8 hj sE1 hs2
    rw [e1, List.length_append, List.length_singleton] at h1
    rw [e2] at h2
    show max (dep b + 1) (dep r) + _ ≤ 6
    omega
  | .alt i a E b1 b2 r, k, j, h, hj, sk, hsk => by
    obtain ⟨q1, q2, q3, q4, q5, q6, q7, q8, q9, q10, q11⟩ := h
    subst q1
    have l1 := q9.le
    have l2 := q10.le
    have l3 := q11.le
    have ho : opn (c i) = true := opn_iff.2 (by rcases q2 with q | q <;> (have q : c i = _ := q) <;> omega)
    obtain ⟨s1, hs1, e1⟩ := opens B (by omega) ho hsk
    obtain ⟨E', sE, sE1, hd, -, -, -, -, -, hs2, e2, -, -⟩ := end_of B (by omega) ho hsk
    have hE : E' = E := by have : s.d i = (E : Int) := q4; omega
    subst hE
    obtain ⟨-, -, -, sa, sa1, -, -, hs3, e3, -, -⟩ := else_of B (by omega) ho hsk (a := a) q3
    have h1 := dep_le B b1 (i + 1) a q9 (by omega) s1 hs1
    have h2 := dep_le B r (E' + 1) j q11 hj sE1 hs2
    have h3 := dep_le B b2 (a + 1) E' q10 (by omega) sa1 hs3
    rw [e1, List.length_append, List.length_singleton] at h1
    rw [e3, List.length_append, List.length_singleton] at h3
    rw [e2] at h2
    show max (max (dep b1) (dep b2) + 1) (dep r) + _ ≤ 6
    omega
theorem dep_chk {A B : Nat → Int} (h : chk c A B false n = 0) {R : Fl.Tr} (hR : Fl.Is (cdOf c n) R 0 n) : dep R ≤ 6 := by
  have := dep_le (chk_bal h) R 0 n hR (Nat.le_refl _) _ rfl
  simpa using this
end
end Ca
end Go.Proofs.Ytmjnakhpekbenaa
namespace Go.Proofs.Ytmjnakhpekbenaa
set_option maxRecDepth 20000
set_option maxHeartbeats 4000000
open Go.RowKit Fw
namespace Ca
structure CEnv (pb : Nat) (cq : Option Addr) (n cap gp : Nat) (c A B p : Nat → Int) (w : World) : Prop where
  code : Ec.InC w cq n c A B
  pbr : ∀ i, i < 1 → w.rangeAt pb i [.slice cq n cap, vS gp n n]
  row : ∀ i, i < n → w.rangeAt gp i [vI (p i)]
theorem CEnv.below {pb : Nat} {cq : Option Addr} {n cap gp : Nat} {c A B p : Nat → Int} {w w' : World} (h : CEnv pb cq n cap gp c A B p w) (hb : Below w.heap.size w w') : CEnv pb cq n cap gp c A B p w' :=
  ⟨h.code.below hb, fun i hi => HP.oldRange (HP.of_below (S := Tr) hb) trivial (h.pbr i hi), fun i hi => HP.oldRange (HP.of_below (S := Tr) hb) trivial (h.row i hi)⟩
structure REnv (cq : Option Addr) (n gp : Nat) (c A B p : Nat → Int) (w : World) : Prop where
  code : Ec.InC w cq n c A B
  row : ∀ i, i < n → w.rangeAt gp i [vI (p i)]
theorem REnv.below {cq : Option Addr} {n gp : Nat} {c A B p : Nat → Int} {w w' : World} (h : REnv cq n gp c A B p w) (hb : Below w.heap.size w w') : REnv cq n gp c A B p w' :=
  ⟨h.code.below hb, fun i hi => HP.oldRange (HP.of_below (S := Tr) hb) trivial (h.row i hi)⟩
def CsAll (P : Nat → Nat → Fl.Tr → Prop) : Fl.Tr → Prop
  | .nil => True
  | .one _ r => CsAll P r
  | .plain i E b r => P (i + 1) E b ∧ CsAll P r
  | .alt i a E b1 b2 r => (P (i + 1) a b1 ∧ P (a + 1) E b2) ∧ CsAll P r
def CsP (pb : Nat) (cq : Option Addr) (n cap gp : Nat) (c A B p : Nat → Int) (k j : Nat) (R : Fl.Tr) : Prop := ∀ w, CEnv pb cq n cap gp c A B p w → Calls Try.prog 51 #[vP pb 0, vI (k : Int), vI (j : Int)] w fun e w' => e = .returned (.int .i64 (cst (cdOf c n) A p R)) ∧ Below w.heap.size w w'
def WsP (cq : Option Addr) (n cap gp : Nat) (c A B p : Nat → Int) (k j : Nat) (R : Fl.Tr) : Prop := ∀ w, REnv cq n gp c A B p w → Calls Try.prog 53 #[.slice cq n cap, vS gp n n, vI (k : Int), vI (j : Int)] w fun e w' => e = .returned (.int .i64 (cst (cdOf c n) A p R)) ∧ Below w.heap.size w w'
theorem rMatch_at {p : Option Addr} {n cap : Nat} {c A B : Nat → Int} {i : Nat} {x z : Int} (h1 : Ec.maA c A B n (i : Int) = x) (h2 : Ec.maE c A B n (i : Int) = z) (w : World) (hIn : Ec.InC w p n c A B) (hn : n ≤ 400) (hi : i < n) :
    Calls Try.prog 56 #[.slice p n cap, vI (i : Int)] w fun e w' => e = .returned (.tuple #[vI x, vI z, vI (Ec.maF c A B n (i : Int))]) ∧ Below w.heap.size w w' := by
  have := Ec.rMatch2_any p n cap c A B (i : Int) w hIn hn (by omega) (by omega)
  unfold Ec.MaV at this
  rw [h1, h2] at this; exact this
theorem rOpens_at {x : Int} {r : Bool} (h : Ec.opn x = r) (w : World) : Calls Try.prog 77 #[vI x] w fun e w' => e = .returned (.bool r) ∧ w = w' := h ▸ Ec.rOpens_any x w
theorem clist_any (pb : Nat) (cq : Option Addr) (n cap gp : Nat) (c A B p : Nat → Int) (hc : Ec.chk c A B false n = 0) (hp : ∀ i, 0 ≤ p i ∧ p i ≤ 100) (hA : ∀ i, i < n → (cdOf c n).c i = 30 → 0 ≤ A i ∧ A i ≤ 50) (R : Fl.Tr) (k j : Nat) (hIs0 : Fl.Is (cdOf c n) R k j) (hjn : j ≤ n) (hsm0 : Sm (cdOf c n) A p R) (hK : cst (cdOf c n) A p R ≤ 1000000000000000) (hbr0 : CsAll (CsP pb cq n cap gp c A B p) R) (w : World) (hC : CEnv pb cq n cap gp c A B p w) :
  Calls Try.prog 51 #[vP pb 0, vI (k : Int), vI (j : Int)] w fun e w' => e = .returned (.int .i64 (cst (cdOf c n) A p R)) ∧ Below w.heap.size w w' := by
 have hn9 := (Ec.chk_ok hc).1
 have hkj := hIs0.le
 refine calls_of Try.func51 rfl (m := 148) rfl [(0, vP pb 0), (1, vI (k : Int)), (2, vI (j : Int))] (Fr_enter [vP pb 0, vI (k : Int), vI (j : Int)] 148 (Nat.le_of_ble_eq_true rfl)) ?_
 have hH1 : HP Tr w w [] := HP.refl w
 refine WC.seq fun K2 hK2 => WC.region (WL.z (vI 0) 6 (WL.k hK2 (WC.seq fun K3 hK3 => WC.region (WL.z (vI 0) 7 (WL.k hK3 ?_)))))
 refine WC.seq fun K4 hK4 => WC.seq fun K5 hK5 => WC.region (WL.z (vI (k : Int)) 15 (WL.z (vI (k : Int)) 8 (WL.k hK5 (WC.block ?_))))
 refine WC.loop (fun kk0 ll0 ww0 => ∃ (i : Nat) (R1 : Fl.Tr) (sum : Int), ll0 = [(0, vP pb 0), (2, vI (j : Int)), (7, vI sum), (8, vI (i : Int))] ∧ kk0 = j - i ∧ (i ≤ j) ∧ (Fl.Is (cdOf c n) R1 i j) ∧ (sum + cst (cdOf c n) A p R1 = cst (cdOf c n) A p R) ∧ (0 ≤ sum) ∧ (Sm (cdOf c n) A p R1) ∧ (CsAll (CsP pb cq n cap gp c A B p) R1) ∧ HP Tr w ww0 []) (j - k) [(0, vP pb 0), (2, vI (j : Int)), (7, vI 0), (8, vI (k : Int))] ⟨rfl, rfl, rfl, rfl, trivial⟩ ⟨k, R, 0, rfl, rfl, hkj, hIs0, by omega, Int.le_refl _, hsm0, hbr0, hH1⟩ ?_
 rintro kk l w7 ⟨i, R1, sum, rfl, hkk, hi, hIs, hsum, hs0, hsm, hbr, hH8⟩ K6 hK6
 refine WC.seq fun K9 hK9 => WC.seq fun K10 hK10 => WC.region (WL.z (vI (i : Int)) 16 (WL.z (vI (j : Int)) 17 ?_))
 by_cases hlt : (i : Int) < (j : Int)
 ·
  refine WL.y (.bool true) 18 (x_lss rfl rfl rfl (dT (hlt))) (WL.k hK10 ?_)
  refine WC.yes rfl ?_
  refine WC.skip (WQ.then (hK9 _ _ _ (WC.seq fun K11 hK11 => WC.block (WC.seq fun K12 hK12 => ?_))))
  obtain ⟨gc, oc, rfl, hrowc⟩ := hC.code (by omega)
  cases R1 with
  | nil => have e9 : i = j := hIs; omega
  | one i1 R2 =>
   obtain ⟨rfl, hno, hIs2⟩ := hIs
   have hopn : Ec.opn (c i1) = false := Ec.opn_no.2 (fun q => hno ⟨q.1, by have q9 : c i1 ≤ 33 := q.2; show c i1 ≤ 35; omega⟩)
   have hEj := hIs2.le
   have hsum : sum + (p i1 + cst (cdOf c n) A p R2) = cst (cdOf c n) A p R := hsum
   have hs2 := hsm
   have hnr := (cst_bd hp hA R2 _ _ hIs2 (by omega)).1
   have hpi := hp i1
   refine WC.region (WL.z (vI sum) 21 (WL.z (vP pb 0) 22 (WL.z (vP pb 0) 23 (WL.z (vP pb 1) 24 (WL.y (vS gp n n) 25 (x_load rfl rfl Try.underlying33 rfl ((HP.oldRange hH8 trivial (hC.pbr 0 (by omega))) 1 _ rfl)) (WL.z (vI (i1 : Int)) 26 (WL.y (vP gp i1) 27 (x_ix (i1) (i1) Try.underlying33 sz3) (WL.y (vI (p i1)) 28 (x_load rfl rfl Try.underlying3 rfl ((HP.oldRange hH8 trivial (hC.row i1 (by omega))) 0 _ rfl)) (WL.y (vI (sum + (p i1))) 29 (x_ad (sum + (p i1))) (WL.z (vI (sum + (p i1))) 7 (WL.nil ?_)))))))))))
   refine WQ.then (hK12 _ _ _ (WC.sb [(0, vP pb 0), (2, vI (j : Int)), (7, vI (sum + (p i1))), (8, vI (i1 : Int)), (18, .bool true)] (WC.seq fun K13 hK13 => WC.seq fun K14 hK14 => WC.region (WL.z (vP pb 0) 30 (WL.z (vP pb 0) 31 (WL.z (vP pb 0) 32 (WL.y (.slice (some ⟨gc, oc, none⟩) n cap) 33 (x_load rfl rfl Try.underlying42 rfl ((HP.oldRange hH8 trivial (hC.pbr 0 (by omega))) 0 _ rfl)) (WL.z (vI (i1 : Int)) 34 (WL.y (vP gc (oc + i1 * 3)) 35 (x_ix (i1) (oc + i1 * 3) Try.underlying42 sz75) ?_)))))))))
   refine WL.z (vP gc (oc + i1 * 3)) 36 (WL.y (vI (c i1)) 37 (x_load rfl rfl Try.underlying3 rfl ((HP.oldRange hH8 trivial (hrowc i1 (by omega))) 0 _ rfl)) ?_)
   refine WL.c 74 #[vI (c i1)] 38 ?_
   refine (Opens_at hopn _).mono ?_
   rintro e w15 ⟨rfl, rfl⟩
   refine ⟨_, rfl, ?_⟩
   refine WL.z (.bool true) 39 (WL.k hK14 (WC.sb [(0, vP pb 0), (2, vI (j : Int)), (7, vI (sum + (p i1))), (8, vI (i1 : Int)), (18, .bool true), (39, .bool true)] ?_))
   refine WC.yes rfl ?_
   refine WC.exit (WQ.thenExit (WQ.inExit (WQ.then (hK11 _ _ _ (WC.region (WL.z (vI (i1 : Int)) 19 (WL.y (vI ((i1 + 1 : Nat) : Int)) 20 (x_ad (((i1 + 1 : Nat) : Int))) (WL.z (vI ((i1 + 1 : Nat) : Int)) 8 (WL.nil (WQ.sb [(0, vP pb 0), (2, vI (j : Int)), (7, vI (sum + (p i1))), (8, vI ((i1 + 1 : Nat) : Int))] ?_))))))))))
   refine WQ.then (hK6 _ _ _ (by omega) ⟨i1 + 1, R2, sum + (p i1), rfl, rfl, by omega, hIs2, by omega, by omega, hs2, hbr, hH8⟩)
  | plain i1 E Rb R2 =>
   obtain ⟨rfl, hop, he1, hd1, ho1, h35, hIb, hIs2⟩ := hIs
   have hop : 29 ≤ c i1 ∧ c i1 ≤ 32 := hop
   have hopn : Ec.opn (c i1) = true := Ec.opn_iff.2 ⟨hop.1, by omega⟩
   have hEj := hIs2.le
   have hEb := hIb.le
   have hsum : sum + (p i1 + (if c i1 = 30 then A i1 * (cst (cdOf c n) A p Rb + p E) else cst (cdOf c n) A p Rb + p E) + cst (cdOf c n) A p R2) = cst (cdOf c n) A p R := hsum
   obtain ⟨hs1, hsb, hs2⟩ := hsm
   have hnb := (cst_bd hp hA Rb _ _ hIb (by omega)).1
   have hpE := hp E
   have hnr := (cst_bd hp hA R2 _ _ hIs2 (by omega)).1
   have hpi := hp i1
   obtain ⟨hm1, hm2⟩ := ma_of hc (show i1 < n by omega) hopn
   have hm1 : Ec.maA c A B n (i1 : Int) = -1 := hm1.trans he1
   have hm2 : Ec.maE c A B n (i1 : Int) = (E : Int) := hm2.trans hd1
   have hv0 : 0 ≤ (if c i1 = 30 then A i1 * (cst (cdOf c n) A p Rb + p E) else cst (cdOf c n) A p Rb + p E) := by
       split
       · exact Int.mul_nonneg (hA i1 (by omega) (by assumption)).1 (by omega)
       · omega
   refine WC.region (WL.z (vI sum) 21 (WL.z (vP pb 0) 22 (WL.z (vP pb 0) 23 (WL.z (vP pb 1) 24 (WL.y (vS gp n n) 25 (x_load rfl rfl Try.underlying33 rfl ((HP.oldRange hH8 trivial (hC.pbr 0 (by omega))) 1 _ rfl)) (WL.z (vI (i1 : Int)) 26 (WL.y (vP gp i1) 27 (x_ix (i1) (i1) Try.underlying33 sz3) (WL.y (vI (p i1)) 28 (x_load rfl rfl Try.underlying3 rfl ((HP.oldRange hH8 trivial (hC.row i1 (by omega))) 0 _ rfl)) (WL.y (vI (sum + (p i1))) 29 (x_ad (sum + (p i1))) (WL.z (vI (sum + (p i1))) 7 (WL.nil ?_)))))))))))
   refine WQ.then (hK12 _ _ _ (WC.sb [(0, vP pb 0), (2, vI (j : Int)), (7, vI (sum + (p i1))), (8, vI (i1 : Int)), (18, .bool true)] (WC.seq fun K16 hK16 => WC.seq fun K17 hK17 => WC.region (WL.z (vP pb 0) 30 (WL.z (vP pb 0) 31 (WL.z (vP pb 0) 32 (WL.y (.slice (some ⟨gc, oc, none⟩) n cap) 33 (x_load rfl rfl Try.underlying42 rfl ((HP.oldRange hH8 trivial (hC.pbr 0 (by omega))) 0 _ rfl)) (WL.z (vI (i1 : Int)) 34 (WL.y (vP gc (oc + i1 * 3)) 35 (x_ix (i1) (oc + i1 * 3) Try.underlying42 sz75) ?_)))))))))
   refine WL.z (vP gc (oc + i1 * 3)) 36 (WL.y (vI (c i1)) 37 (x_load rfl rfl Try.underlying3 rfl ((HP.oldRange hH8 trivial (hrowc i1 (by omega))) 0 _ rfl)) ?_)
   refine WL.c 74 #[vI (c i1)] 38 ?_
   refine (Opens_at hopn _).mono ?_
   rintro e w18 ⟨rfl, rfl⟩
   refine ⟨_, rfl, ?_⟩
   refine WL.z (.bool false) 39 (WL.k hK17 (WC.sb [(0, vP pb 0), (2, vI (j : Int)), (7, vI (sum + (p i1))), (8, vI (i1 : Int)), (18, .bool true), (39, .bool false)] ?_))
   refine WC.no rfl ?_
   refine WC.skip (WQ.then (hK16 _ _ _ (WC.seq fun K19 hK19 => WC.region (WL.z (vP pb 0) 41 (WL.z (vP pb 0) 42 (WL.z (vP pb 0) 43 (WL.y (.slice (some ⟨gc, oc, none⟩) n cap) 44 (x_load rfl rfl Try.underlying42 rfl ((HP.oldRange hH8 trivial (hC.pbr 0 (by omega))) 0 _ rfl)) (WL.z (vI (i1 : Int)) 45 ?_))))))))
   refine WL.c 75 #[.slice (some ⟨gc, oc, none⟩) n cap, vI (i1 : Int)] 46 ?_
   refine (Match_at hm1 hm2 _ (hC.below (HP.below hH8)).code (by omega) (by omega)).mono ?_
   rintro e w20 ⟨rfl, hb21⟩
   refine ⟨_, rfl, ?_⟩
   have hH22 := HP.call hH8 hb21
   refine WL.z (.tuple #[vI (-1), vI (E : Int), vI (Ec.maF c A B n (i1 : Int))]) 40 (WL.z (vI (-1)) 47 (WL.z (vI (E : Int)) 48 (WL.z (vI (Ec.maF c A B n (i1 : Int))) 49 (WL.z (vI (-1)) 9 (WL.z (vI (E : Int)) 10 (WL.z (vI (Ec.maF c A B n (i1 : Int))) 11 (WL.k hK19 (WC.sb [(0, vP pb 0), (2, vI (j : Int)), (7, vI (sum + (p i1))), (8, vI (i1 : Int)), (9, vI (-1)), (10, vI (E : Int)), (18, .bool true), (39, .bool false)] (WC.seq fun K23 hK23 => ?_)))))))))
   refine WC.region (WL.z (vI (-1)) 50 (WL.z (vI (-1)) 12 (WL.k hK23 (WC.seq fun K24 hK24 => WC.seq fun K25 hK25 => WC.region (WL.z (vI (-1)) 51 (WL.y (.bool true) 52 (x_lss rfl rfl rfl (by decide)) (WL.nil ?_)))))))
   refine WQ.then (hK25 _ _ _ (WC.yes rfl ?_))
   refine WC.region (WL.z (vI (E : Int)) 53 (WL.z (vI (E : Int)) 12 (WL.k hK24 (WC.seq fun K26 hK26 => ?_))))
   refine WC.confG (γ := Unit) [(12, vI (E : Int)), (53, vI (E : Int)), (52, .bool true), (51, vI (-1)), (50, vI (-1)), (0, vP pb 0), (2, vI (j : Int)), (7, vI (sum + (p i1))), (8, vI (i1 : Int)), (9, vI (-1)), (10, vI (E : Int)), (18, .bool true), (39, .bool false)] (fun gy => [vP pb 0, vI (i1 : Int), vI ((i1 + 1 : Nat) : Int), vI (E : Int), vI (cst (cdOf c n) A p Rb), vP pb 0, vP pb 0, vP pb 1, vS gp n n, vI (E : Int), vP gp E, vI (p E), vI ((cst (cdOf c n) A p Rb) + (p E)), vI ((cst (cdOf c n) A p Rb) + (p E))]) (fun gy D wz => HP Tr w wz []) () (by kernel_rfl) ⟨rfl, rfl, rfl, rfl, rfl, rfl, rfl, rfl, rfl, rfl, rfl, rfl, rfl, trivial⟩ (by kernel_rfl) (by kernel_rfl) (by kernel_rfl) (fun _ => rfl) (by kernel_rfl) (HP.drew hH22) ?_ ?_
   ·
    refine AllOk.cons ?o0 (AllOk.cons ?o1 (AllOk.cons ?o2 (AllOk.cons ?o3 (AllOk.cons ?o4 (AllOk.cons ?o5 (AllOk.cons ?o6 (AllOk.cons ?o7 (AllOk.cons ?o8 (AllOk.cons ?o9 (AllOk.cons ?o10 (AllOk.cons ?o11 (AllOk.cons ?o12 (AllOk.cons ?o13 (AllOk.nil _))))))))))))))
    case o0 =>
     intro gy D wz hDi hdep hclo hW
     exact cfv gy wz (by kernel_rfl) hW
    case o1 =>
     intro gy D wz hDi hdep hclo hW
     exact cfv gy wz (by kernel_rfl) hW
    case o2 =>
     intro gy D wz hDi hdep hclo hW
     exact cfv gy wz (x_ad (((i1 + 1 : Nat) : Int))) hW
    case o3 =>
     intro gy D wz hDi hdep hclo hW
     exact cfv gy wz (by kernel_rfl) hW
    case o4 =>
     intro gy D wz hDi hdep hclo hW
     have hW2 := hW
     exact .inl ⟨rfl, rfl, .inr (.inr ⟨51, #[vP pb 0, vI ((i1 + 1 : Nat) : Int), vI (E : Int)], by kernel_rfl, (hbr.1 _ (hC.below (HP.below hW))).mono fun e w2 h => ⟨gy, fun _ _ => rfl, h.1, HP.call hW h.2⟩⟩)⟩
    case o5 =>
     intro gy D wz hDi hdep hclo hW
     exact cfv gy wz (by kernel_rfl) hW
    case o6 =>
     intro gy D wz hDi hdep hclo hW
     exact cfv gy wz (by kernel_rfl) hW
    case o7 =>
     intro gy D wz hDi hdep hclo hW
     exact cfv gy wz (by kernel_rfl) hW
    case o8 =>
     intro gy D wz hDi hdep hclo hW
     exact cfv gy wz (x_load rfl rfl Try.underlying33 rfl ((HP.oldRange hW trivial (hC.pbr 0 (by omega))) 1 _ rfl)) hW
    case o9 =>
     intro gy D wz hDi hdep hclo hW
     exact cfv gy wz (by kernel_rfl) hW
    case o10 =>
     intro gy D wz hDi hdep hclo hW
     exact cfv gy wz (x_ix (E) (E) Try.underlying33 sz3) hW
    case o11 =>
     intro gy D wz hDi hdep hclo hW
     exact cfv gy wz (x_load rfl rfl Try.underlying3 rfl ((HP.oldRange hW trivial (hC.row E (by omega))) 0 _ rfl)) hW
    case o12 =>
     intro gy D wz hDi hdep hclo hW
     exact cfv gy wz (x_ad ((cst (cdOf c n) A p Rb) + (p E))) hW
    case o13 =>
     intro gy D wz hDi hdep hclo hW
     exact cfv gy wz (by kernel_rfl) hW
   rintro gy D w27 hall hH28
   clear hall
   refine WQ.sb [(0, vP pb 0), (2, vI (j : Int)), (7, vI (sum + (p i1))), (8, vI (i1 : Int)), (9, vI (-1)), (10, vI (E : Int)), (12, vI (E : Int)), (13, vI ((cst (cdOf c n) A p Rb) + (p E))), (18, .bool true), (39, .bool false), (52, .bool true)] (WQ.then (hK26 _ _ _ (WC.seq fun K29 hK29 => WC.seq fun K30 hK30 => WC.region (WL.z (vP pb 0) 67 (WL.z (vP pb 0) 68 (WL.z (vP pb 0) 69 (WL.y (.slice (some ⟨gc, oc, none⟩) n cap) 70 (x_load rfl rfl Try.underlying42 rfl ((HP.oldRange hH28 trivial (hC.pbr 0 (by omega))) 0 _ rfl)) (WL.z (vI (i1 : Int)) 71 (WL.y (vP gc (oc + i1 * 3)) 72 (x_ix (i1) (oc + i1 * 3) Try.underlying42 sz75) ?_)))))))))
   refine WL.z (vP gc (oc + i1 * 3)) 73 (WL.y (vI (c i1)) 74 (x_load rfl rfl Try.underlying3 rfl ((HP.oldRange hH28 trivial (hrowc i1 (by omega))) 0 _ rfl)) (WL.k hK30 (WC.sb [(0, vP pb 0), (2, vI (j : Int)), (7, vI (sum + (p i1))), (8, vI (i1 : Int)), (9, vI (-1)), (10, vI (E : Int)), (12, vI (E : Int)), (13, vI ((cst (cdOf c n) A p Rb) + (p E))), (18, .bool true), (39, .bool false), (52, .bool true), (74, vI (c i1))] (WC.block (WC.seq fun K31 hK31 => WC.region ?_)))))
   by_cases h29 : c i1 = 29
   ·
    rw [if_neg (by omega)] at hsum
    refine WL.y (.bool true) 79 (x_eql rfl rfl rfl (dT (h29))) (WL.z (.bool true) 78 (WL.k hK31 ?_))
    refine WC.yes rfl ?_
    refine WC.seq fun K32 hK32 => WC.region (WL.z (vP pb 0) 80 (WL.z (vP pb 0) 81 (WL.z (vP pb 1) 82 (WL.y (vS gp n n) 83 (x_load rfl rfl Try.underlying33 rfl ((HP.oldRange hH28 trivial (hC.pbr 0 (by omega))) 1 _ rfl)) (WL.z (vI (E : Int)) 84 (WL.y (vP gp E) 85 (x_ix (E) (E) Try.underlying33 sz3) (WL.y (vI (p E)) 86 (x_load rfl rfl Try.underlying3 rfl ((HP.oldRange hH28 trivial (hC.row E (by omega))) 0 _ rfl)) (WL.z (vI (p E)) 14 (WL.nil (WQ.then ?_))))))))))
    refine hK32 _ _ _ (WC.sb [(0, vP pb 0), (2, vI (j : Int)), (7, vI (sum + (p i1))), (8, vI (i1 : Int)), (9, vI (-1)), (10, vI (E : Int)), (12, vI (E : Int)), (13, vI ((cst (cdOf c n) A p Rb) + (p E))), (14, vI (p E)), (18, .bool true), (39, .bool false), (52, .bool true), (74, vI (c i1)), (78, .bool true)] (WC.seq fun K33 hK33 => WC.seq fun K34 hK34 => WC.region (WL.z (vI (-1)) 87 (WL.y (.bool false) 88 (x_geq rfl rfl rfl (by decide)) (WL.k hK34 ?_)))))
    refine WC.no rfl ?_
    refine WC.skip (WQ.then (hK33 _ _ _ (WC.region (WL.z (vI (sum + (p i1))) 96 (WL.z (vI ((cst (cdOf c n) A p Rb) + (p E))) 97 (WL.z (vI (p E)) 98 (WL.y (vI (cst (cdOf c n) A p Rb + p E)) 99 (x_max (Z := cst (cdOf c n) A p Rb + p E) (t := 0) rfl rfl rfl (if_neg (by omega))) (WL.y (vI ((sum + (p i1)) + (cst (cdOf c n) A p Rb + p E))) 100 (x_ad ((sum + (p i1)) + (cst (cdOf c n) A p Rb + p E))) (WL.z (vI ((sum + (p i1)) + (cst (cdOf c n) A p Rb + p E))) 7 (WL.nil (WQ.inNormal ?_)))))))))))
    refine WQ.then (hK29 _ _ _ (WC.sb [(0, vP pb 0), (2, vI (j : Int)), (7, vI ((sum + (p i1)) + (cst (cdOf c n) A p Rb + p E))), (8, vI (i1 : Int)), (9, vI (-1)), (10, vI (E : Int)), (12, vI (E : Int)), (13, vI ((cst (cdOf c n) A p Rb) + (p E))), (14, vI (p E)), (18, .bool true), (39, .bool false), (52, .bool true), (74, vI (c i1)), (78, .bool true), (88, .bool false)] (WC.region (WL.z (vI (E : Int)) 146 (WL.z (vI (E : Int)) 8 (WL.nil (WQ.inNormal (WQ.then (hK11 _ _ _ (WC.region (WL.z (vI (E : Int)) 19 ?_)))))))))))
    refine WL.y (vI ((E + 1 : Nat) : Int)) 20 (x_ad (((E + 1 : Nat) : Int))) (WL.z (vI ((E + 1 : Nat) : Int)) 8 (WL.nil (WQ.sb [(0, vP pb 0), (2, vI (j : Int)), (7, vI ((sum + (p i1)) + (cst (cdOf c n) A p Rb + p E))), (8, vI ((E + 1 : Nat) : Int))] ?_)))
    refine WQ.then (hK6 _ _ _ (by omega) ⟨E + 1, R2, (sum + (p i1)) + (cst (cdOf c n) A p Rb + p E), rfl, rfl, by omega, hIs2, by omega, by omega, hs2, hbr.2, hH28⟩)
   ·
    refine WL.y (.bool false) 79 (x_eql rfl rfl rfl (dF (h29))) (WL.z (.bool false) 78 (WL.k hK31 ?_))
    refine WC.no rfl ?_
    refine WC.seq fun K35 hK35 => WC.region ?_
    by_cases h30 : c i1 = 30
    ·
     rw [if_pos h30] at hsum hv0
     refine WL.y (.bool true) 102 (x_eql rfl rfl rfl (dT (h30))) (WL.z (.bool true) 101 (WL.k hK35 ?_))
     refine WC.yes rfl ?_
     refine WC.region (WL.z (vI (sum + (p i1))) 103 (WL.z (vP pb 0) 104 (WL.z (vP pb 0) 105 (WL.z (vP pb 0) 106 (WL.y (.slice (some ⟨gc, oc, none⟩) n cap) 107 (x_load rfl rfl Try.underlying42 rfl ((HP.oldRange hH28 trivial (hC.pbr 0 (by omega))) 0 _ rfl)) (WL.z (vI (i1 : Int)) 108 (WL.y (vP gc (oc + i1 * 3)) 109 (x_ix (i1) (oc + i1 * 3) Try.underlying42 sz75) (WL.z (vP gc (oc + i1 * 3 + 1)) 110 (WL.y (vI (A i1)) 111 (x_load rfl rfl Try.underlying3 rfl ((HP.oldRange hH28 trivial (hrowc i1 (by omega))) 1 _ rfl)) (WL.z (vI ((cst (cdOf c n) A p Rb) + (p E))) 112 (WL.y (vI (A i1 * (cst (cdOf c n) A p Rb + p E))) 113 (x_mul (Z := A i1 * (cst (cdOf c n) A p Rb + p E)) rfl rfl rfl (rfl) (by omega) (by omega)) ?_)))))))))))
     refine WL.y (vI ((sum + (p i1)) + (A i1 * (cst (cdOf c n) A p Rb + p E)))) 114 (x_ad ((sum + (p i1)) + (A i1 * (cst (cdOf c n) A p Rb + p E)))) (WL.z (vI ((sum + (p i1)) + (A i1 * (cst (cdOf c n) A p Rb + p E)))) 7 (WL.nil (WQ.inNormal (WQ.then (hK29 _ _ _ (WC.sb [(0, vP pb 0), (2, vI (j : Int)), (7, vI ((sum + (p i1)) + (A i1 * (cst (cdOf c n) A p Rb + p E)))), (8, vI (i1 : Int)), (9, vI (-1)), (10, vI (E : Int)), (12, vI (E : Int)), (13, vI ((cst (cdOf c n) A p Rb) + (p E))), (18, .bool true), (39, .bool false), (52, .bool true), (74, vI (c i1)), (78, .bool false), (101, .bool true)] (WC.region (WL.z (vI (E : Int)) 146 (WL.z (vI (E : Int)) 8 (WL.nil (WQ.inNormal ?_)))))))))))
     refine WQ.then (hK11 _ _ _ (WC.region (WL.z (vI (E : Int)) 19 (WL.y (vI ((E + 1 : Nat) : Int)) 20 (x_ad (((E + 1 : Nat) : Int))) (WL.z (vI ((E + 1 : Nat) : Int)) 8 (WL.nil (WQ.sb [(0, vP pb 0), (2, vI (j : Int)), (7, vI ((sum + (p i1)) + (A i1 * (cst (cdOf c n) A p Rb + p E)))), (8, vI ((E + 1 : Nat) : Int))] ?_)))))))
     refine WQ.then (hK6 _ _ _ (by omega) ⟨E + 1, R2, (sum + (p i1)) + (A i1 * (cst (cdOf c n) A p Rb + p E)), rfl, rfl, by omega, hIs2, by omega, by omega, hs2, hbr.2, hH28⟩)
    ·
     rw [if_neg h30] at hsum
     refine WL.y (.bool false) 102 (x_eql rfl rfl rfl (dF (h30))) (WL.z (.bool false) 101 (WL.k hK35 ?_))
     refine WC.no rfl ?_
     refine WC.seq fun K36 hK36 => WC.region (WL.y (.bool false) 116 (x_eql rfl rfl rfl (dF (by omega))) (WL.z (.bool false) 115 (WL.k hK36 ?_)))
     refine WC.no rfl ?_
     refine WC.region (WL.z (vI (sum + (p i1))) 75 (WL.z (vI ((cst (cdOf c n) A p Rb) + (p E))) 76 (WL.y (vI ((sum + (p i1)) + ((cst (cdOf c n) A p Rb) + (p E)))) 77 (x_ad ((sum + (p i1)) + ((cst (cdOf c n) A p Rb) + (p E)))) (WL.z (vI ((sum + (p i1)) + ((cst (cdOf c n) A p Rb) + (p E)))) 7 (WL.nil (WQ.inNormal (WQ.then (hK29 _ _ _ (WC.sb [(0, vP pb 0), (2, vI (j : Int)), (7, vI ((sum + (p i1)) + ((cst (cdOf c n) A p Rb) + (p E)))), (8, vI (i1 : Int)), (9, vI (-1)), (10, vI (E : Int)), (12, vI (E : Int)), (13, vI ((cst (cdOf c n) A p Rb) + (p E))), (18, .bool true), (39, .bool false), (52, .bool true), (74, vI (c i1)), (78, .bool false), (101, .bool false), (115, .bool false)] (WC.region (WL.z (vI (E : Int)) 146 ?_)))))))))))
     refine WL.z (vI (E : Int)) 8 (WL.nil (WQ.inNormal (WQ.then (hK11 _ _ _ (WC.region (WL.z (vI (E : Int)) 19 (WL.y (vI ((E + 1 : Nat) : Int)) 20 (x_ad (((E + 1 : Nat) : Int))) (WL.z (vI ((E + 1 : Nat) : Int)) 8 (WL.nil (WQ.sb [(0, vP pb 0), (2, vI (j : Int)), (7, vI ((sum + (p i1)) + ((cst (cdOf c n) A p Rb) + (p E)))), (8, vI ((E + 1 : Nat) : Int))] ?_))))))))))
     refine WQ.then (hK6 _ _ _ (by omega) ⟨E + 1, R2, (sum + (p i1)) + ((cst (cdOf c n) A p Rb) + (p E)), rfl, rfl, by omega, hIs2, by omega, by omega, hs2, hbr.2, hH28⟩)
  | alt i1 a1 E Ra Rb R2 =>
   obtain ⟨rfl, hop, he1, hd1, hoa, ho1, h34, h35, hIa, hIb, hIs2⟩ := hIs
   have hop : c i1 = 29 ∨ c i1 = 33 := hop
   have hopn : Ec.opn (c i1) = true := Ec.opn_iff.2 (by omega)
   have hEj := hIs2.le
   have hEb := hIb.le
   have hEa := hIa.le
   have hsum : sum + (p i1 + (if c i1 = 29 then mxI (cst (cdOf c n) A p Ra + p a1) (cst (cdOf c n) A p Rb + p E) else cst (cdOf c n) A p Ra + mxI (p a1) (cst (cdOf c n) A p Rb + p E)) + cst (cdOf c n) A p R2) = cst (cdOf c n) A p R := hsum
   obtain ⟨hs1, hs3, hsa, hsb, hs2⟩ := hsm
   have hna := (cst_bd hp hA Ra _ _ hIa (by omega)).1
   have hnb := (cst_bd hp hA Rb _ _ hIb (by omega)).1
   have hpE := hp E
   have hpa := hp a1
   have hmx := le_mxI (x := cst (cdOf c n) A p Ra + p a1) (y := cst (cdOf c n) A p Rb + p E)
   have hmy := le_mxI (x := p a1) (y := cst (cdOf c n) A p Rb + p E)
   have hnr := (cst_bd hp hA R2 _ _ hIs2 (by omega)).1
   have hpi := hp i1
   obtain ⟨hm1, hm2⟩ := ma_of hc (show i1 < n by omega) hopn
   have hm1 : Ec.maA c A B n (i1 : Int) = (a1 : Int) := hm1.trans he1
   have hm2 : Ec.maE c A B n (i1 : Int) = (E : Int) := hm2.trans hd1
   have hv0 : 0 ≤ (if c i1 = 29 then mxI (cst (cdOf c n) A p Ra + p a1) (cst (cdOf c n) A p Rb + p E) else cst (cdOf c n) A p Ra + mxI (p a1) (cst (cdOf c n) A p Rb + p E)) := by split <;> omega
   refine WC.region (WL.z (vI sum) 21 (WL.z (vP pb 0) 22 (WL.z (vP pb 0) 23 (WL.z (vP pb 1) 24 (WL.y (vS gp n n) 25 (x_load rfl rfl Try.underlying33 rfl ((HP.oldRange hH8 trivial (hC.pbr 0 (by omega))) 1 _ rfl)) (WL.z (vI (i1 : Int)) 26 (WL.y (vP gp i1) 27 (x_ix (i1) (i1) Try.underlying33 sz3) (WL.y (vI (p i1)) 28 (x_load rfl rfl Try.underlying3 rfl ((HP.oldRange hH8 trivial (hC.row i1 (by omega))) 0 _ rfl)) (WL.y (vI (sum + (p i1))) 29 (x_ad (sum + (p i1))) (WL.z (vI (sum + (p i1))) 7 (WL.nil ?_)))))))))))
   refine WQ.then (hK12 _ _ _ (WC.sb [(0, vP pb 0), (2, vI (j : Int)), (7, vI (sum + (p i1))), (8, vI (i1 : Int)), (18, .bool true)] (WC.seq fun K37 hK37 => WC.seq fun K38 hK38 => WC.region (WL.z (vP pb 0) 30 (WL.z (vP pb 0) 31 (WL.z (vP pb 0) 32 (WL.y (.slice (some ⟨gc, oc, none⟩) n cap) 33 (x_load rfl rfl Try.underlying42 rfl ((HP.oldRange hH8 trivial (hC.pbr 0 (by omega))) 0 _ rfl)) (WL.z (vI (i1 : Int)) 34 (WL.y (vP gc (oc + i1 * 3)) 35 (x_ix (i1) (oc + i1 * 3) Try.underlying42 sz75) ?_)))))))))
   refine WL.z (vP gc (oc + i1 * 3)) 36 (WL.y (vI (c i1)) 37 (x_load rfl rfl Try.underlying3 rfl ((HP.oldRange hH8 trivial (hrowc i1 (by omega))) 0 _ rfl)) ?_)
   refine WL.c 74 #[vI (c i1)] 38 ?_
   refine (Opens_at hopn _).mono ?_
   rintro e w39 ⟨rfl, rfl⟩
   refine ⟨_, rfl, ?_⟩
   refine WL.z (.bool false) 39 (WL.k hK38 (WC.sb [(0, vP pb 0), (2, vI (j : Int)), (7, vI (sum + (p i1))), (8, vI (i1 : Int)), (18, .bool true), (39, .bool false)] ?_))
   refine WC.no rfl ?_
   refine WC.skip (WQ.then (hK37 _ _ _ (WC.seq fun K40 hK40 => WC.region (WL.z (vP pb 0) 41 (WL.z (vP pb 0) 42 (WL.z (vP pb 0) 43 (WL.y (.slice (some ⟨gc, oc, none⟩) n cap) 44 (x_load rfl rfl Try.underlying42 rfl ((HP.oldRange hH8 trivial (hC.pbr 0 (by omega))) 0 _ rfl)) (WL.z (vI (i1 : Int)) 45 ?_))))))))
   refine WL.c 75 #[.slice (some ⟨gc, oc, none⟩) n cap, vI (i1 : Int)] 46 ?_
   refine (Match_at hm1 hm2 _ (hC.below (HP.below hH8)).code (by omega) (by omega)).mono ?_
   rintro e w41 ⟨rfl, hb42⟩
   refine ⟨_, rfl, ?_⟩
   have hH43 := HP.call hH8 hb42
   refine WL.z (.tuple #[vI (a1 : Int), vI (E : Int), vI (Ec.maF c A B n (i1 : Int))]) 40 (WL.z (vI (a1 : Int)) 47 (WL.z (vI (E : Int)) 48 (WL.z (vI (Ec.maF c A B n (i1 : Int))) 49 (WL.z (vI (a1 : Int)) 9 (WL.z (vI (E : Int)) 10 (WL.z (vI (Ec.maF c A B n (i1 : Int))) 11 (WL.k hK40 (WC.sb [(0, vP pb 0), (2, vI (j : Int)), (7, vI (sum + (p i1))), (8, vI (i1 : Int)), (9, vI (a1 : Int)), (10, vI (E : Int)), (18, .bool true), (39, .bool false)] (WC.seq fun K44 hK44 => ?_)))))))))
   refine WC.region (WL.z (vI (a1 : Int)) 50 (WL.z (vI (a1 : Int)) 12 (WL.k hK44 (WC.seq fun K45 hK45 => WC.seq fun K46 hK46 => WC.region (WL.z (vI (a1 : Int)) 51 (WL.y (.bool false) 52 (x_lss rfl rfl rfl (dF (by omega))) (WL.nil ?_)))))))
   refine WQ.then (hK46 _ _ _ (WC.no rfl ?_))
   refine WC.skip (WQ.then (hK45 _ _ _ (WC.seq fun K47 hK47 => ?_)))
   refine WC.confG (γ := Unit) [(52, .bool false), (51, vI (a1 : Int)), (12, vI (a1 : Int)), (50, vI (a1 : Int)), (0, vP pb 0), (2, vI (j : Int)), (7, vI (sum + (p i1))), (8, vI (i1 : Int)), (9, vI (a1 : Int)), (10, vI (E : Int)), (18, .bool true), (39, .bool false)] (fun gy => [vP pb 0, vI (i1 : Int), vI ((i1 + 1 : Nat) : Int), vI (a1 : Int), vI (cst (cdOf c n) A p Ra), vP pb 0, vP pb 0, vP pb 1, vS gp n n, vI (a1 : Int), vP gp a1, vI (p a1), vI ((cst (cdOf c n) A p Ra) + (p a1)), vI ((cst (cdOf c n) A p Ra) + (p a1))]) (fun gy D wz => HP Tr w wz []) () (by kernel_rfl) ⟨rfl, rfl, rfl, rfl, rfl, rfl, rfl, rfl, rfl, rfl, rfl, rfl, trivial⟩ (by kernel_rfl) (by kernel_rfl) (by kernel_rfl) (fun _ => rfl) (by kernel_rfl) (HP.drew hH43) ?_ ?_
   ·
    refine AllOk.cons ?o0 (AllOk.cons ?o1 (AllOk.cons ?o2 (AllOk.cons ?o3 (AllOk.cons ?o4 (AllOk.cons ?o5 (AllOk.cons ?o6 (AllOk.cons ?o7 (AllOk.cons ?o8 (AllOk.cons ?o9 (AllOk.cons ?o10 (AllOk.cons ?o11 (AllOk.cons ?o12 (AllOk.cons ?o13 (AllOk.nil _))))))))))))))
    case o0 =>
     intro gy D wz hDi hdep hclo hW
     exact cfv gy wz (by kernel_rfl) hW
    case o1 =>
     intro gy D wz hDi hdep hclo hW
     exact cfv gy wz (by kernel_rfl) hW
    case o2 =>
     intro gy D wz hDi hdep hclo hW
     exact cfv gy wz (x_ad (((i1 + 1 : Nat) : Int))) hW
    case o3 =>
     intro gy D wz hDi hdep hclo hW
     exact cfv gy wz (by kernel_rfl) hW
    case o4 =>
     intro gy D wz hDi hdep hclo hW
     have hW2 := hW
     exact .inl ⟨rfl, rfl, .inr (.inr ⟨51, #[vP pb 0, vI ((i1 + 1 : Nat) : Int), vI (a1 : Int)], by kernel_rfl, (hbr.1.1 _ (hC.below (HP.below hW))).mono fun e w2 h => ⟨gy, fun _ _ => rfl, h.1, HP.call hW h.2⟩⟩)⟩
    case o5 =>
     intro gy D wz hDi hdep hclo hW
     exact cfv gy wz (by kernel_rfl) hW
    case o6 =>
     intro gy D wz hDi hdep hclo hW
     exact cfv gy wz (by kernel_rfl) hW
    case o7 =>
     intro gy D wz hDi hdep hclo hW
     exact cfv gy wz (by kernel_rfl) hW
    case o8 =>
     intro gy D wz hDi hdep hclo hW
     exact cfv gy wz (x_load rfl rfl Try.underlying33 rfl ((HP.oldRange hW trivial (hC.pbr 0 (by omega))) 1 _ rfl)) hW
    case o9 =>
     intro gy D wz hDi hdep hclo hW
     exact cfv gy wz (by kernel_rfl) hW
    case o10 =>
     intro gy D wz hDi hdep hclo hW
     exact cfv gy wz (x_ix (a1) (a1) Try.underlying33 sz3) hW
    case o11 =>
     intro gy D wz hDi hdep hclo hW
     exact cfv gy wz (x_load rfl rfl Try.underlying3 rfl ((HP.oldRange hW trivial (hC.row a1 (by omega))) 0 _ rfl)) hW
    case o12 =>
     intro gy D wz hDi hdep hclo hW
     exact cfv gy wz (x_ad ((cst (cdOf c n) A p Ra) + (p a1))) hW
    case o13 =>
     intro gy D wz hDi hdep hclo hW
     exact cfv gy wz (by kernel_rfl) hW
   rintro gy D w48 hall hH49
   clear hall
   refine WQ.sb [(0, vP pb 0), (2, vI (j : Int)), (7, vI (sum + (p i1))), (8, vI (i1 : Int)), (9, vI (a1 : Int)), (10, vI (E : Int)), (12, vI (a1 : Int)), (13, vI ((cst (cdOf c n) A p Ra) + (p a1))), (18, .bool true), (39, .bool false), (52, .bool false)] (WQ.then (hK47 _ _ _ (WC.seq fun K50 hK50 => WC.seq fun K51 hK51 => WC.region (WL.z (vP pb 0) 67 (WL.z (vP pb 0) 68 (WL.z (vP pb 0) 69 (WL.y (.slice (some ⟨gc, oc, none⟩) n cap) 70 (x_load rfl rfl Try.underlying42 rfl ((HP.oldRange hH49 trivial (hC.pbr 0 (by omega))) 0 _ rfl)) (WL.z (vI (i1 : Int)) 71 (WL.y (vP gc (oc + i1 * 3)) 72 (x_ix (i1) (oc + i1 * 3) Try.underlying42 sz75) ?_)))))))))
   refine WL.z (vP gc (oc + i1 * 3)) 73 (WL.y (vI (c i1)) 74 (x_load rfl rfl Try.underlying3 rfl ((HP.oldRange hH49 trivial (hrowc i1 (by omega))) 0 _ rfl)) (WL.k hK51 (WC.sb [(0, vP pb 0), (2, vI (j : Int)), (7, vI (sum + (p i1))), (8, vI (i1 : Int)), (9, vI (a1 : Int)), (10, vI (E : Int)), (12, vI (a1 : Int)), (13, vI ((cst (cdOf c n) A p Ra) + (p a1))), (18, .bool true), (39, .bool false), (52, .bool false), (74, vI (c i1))] (WC.block (WC.seq fun K52 hK52 => WC.region ?_)))))
   by_cases h29 : c i1 = 29
   ·
    rw [if_pos h29] at hsum
    refine WL.y (.bool true) 79 (x_eql rfl rfl rfl (dT (h29))) (WL.z (.bool true) 78 (WL.k hK52 ?_))
    refine WC.yes rfl ?_
    refine WC.seq fun K53 hK53 => WC.region (WL.z (vP pb 0) 80 (WL.z (vP pb 0) 81 (WL.z (vP pb 1) 82 (WL.y (vS gp n n) 83 (x_load rfl rfl Try.underlying33 rfl ((HP.oldRange hH49 trivial (hC.pbr 0 (by omega))) 1 _ rfl)) (WL.z (vI (E : Int)) 84 (WL.y (vP gp E) 85 (x_ix (E) (E) Try.underlying33 sz3) (WL.y (vI (p E)) 86 (x_load rfl rfl Try.underlying3 rfl ((HP.oldRange hH49 trivial (hC.row E (by omega))) 0 _ rfl)) (WL.z (vI (p E)) 14 (WL.nil (WQ.then ?_))))))))))
    refine hK53 _ _ _ (WC.sb [(0, vP pb 0), (2, vI (j : Int)), (7, vI (sum + (p i1))), (8, vI (i1 : Int)), (9, vI (a1 : Int)), (10, vI (E : Int)), (12, vI (a1 : Int)), (13, vI ((cst (cdOf c n) A p Ra) + (p a1))), (14, vI (p E)), (18, .bool true), (39, .bool false), (52, .bool false), (74, vI (c i1)), (78, .bool true)] (WC.seq fun K54 hK54 => WC.seq fun K55 hK55 => WC.region (WL.z (vI (a1 : Int)) 87 (WL.y (.bool true) 88 (x_geq rfl rfl rfl (dT (by omega))) (WL.k hK55 ?_)))))
    refine WC.yes rfl ?_
    refine WC.region (WL.z (vI (p E)) 89 (WL.z (vP pb 0) 90 (WL.z (vI (a1 : Int)) 91 (WL.y (vI ((a1 + 1 : Nat) : Int)) 92 (x_ad (((a1 + 1 : Nat) : Int))) (WL.z (vI (E : Int)) 93 ?_)))))
    refine WL.c 51 #[vP pb 0, vI ((a1 + 1 : Nat) : Int), vI (E : Int)] 94 ?_
    refine (hbr.1.2 _ (hC.below (HP.below hH49))).mono ?_
    rintro e w56 ⟨rfl, hb57⟩
    refine ⟨_, rfl, ?_⟩
    have hH58 := HP.call hH49 hb57
    refine WL.y (vI (cst (cdOf c n) A p Rb + p E)) 95 (x_ad (cst (cdOf c n) A p Rb + p E)) (WL.z (vI (cst (cdOf c n) A p Rb + p E)) 14 (WL.k hK54 (WC.sb [(0, vP pb 0), (2, vI (j : Int)), (7, vI (sum + (p i1))), (8, vI (i1 : Int)), (9, vI (a1 : Int)), (10, vI (E : Int)), (12, vI (a1 : Int)), (13, vI ((cst (cdOf c n) A p Ra) + (p a1))), (14, vI (cst (cdOf c n) A p Rb + p E)), (18, .bool true), (39, .bool false), (52, .bool false), (74, vI (c i1)), (78, .bool true), (88, .bool true)] (WC.region (WL.z (vI (sum + (p i1))) 96 (WL.z (vI ((cst (cdOf c n) A p Ra) + (p a1))) 97 (WL.z (vI (cst (cdOf c n) A p Rb + p E)) 98 (WL.y (vI (mxI (cst (cdOf c n) A p Ra + p a1) (cst (cdOf c n) A p Rb + p E))) 99 (x_max (Z := mxI (cst (cdOf c n) A p Ra + p a1) (cst (cdOf c n) A p Rb + p E)) (t := 0) rfl rfl rfl rfl) ?_))))))))
    refine WL.y (vI ((sum + (p i1)) + (mxI (cst (cdOf c n) A p Ra + p a1) (cst (cdOf c n) A p Rb + p E)))) 100 (x_ad ((sum + (p i1)) + (mxI (cst (cdOf c n) A p Ra + p a1) (cst (cdOf c n) A p Rb + p E)))) (WL.z (vI ((sum + (p i1)) + (mxI (cst (cdOf c n) A p Ra + p a1) (cst (cdOf c n) A p Rb + p E)))) 7 (WL.nil (WQ.inNormal (WQ.then (hK50 _ _ _ (WC.sb [(0, vP pb 0), (2, vI (j : Int)), (7, vI ((sum + (p i1)) + (mxI (cst (cdOf c n) A p Ra + p a1) (cst (cdOf c n) A p Rb + p E)))), (8, vI (i1 : Int)), (9, vI (a1 : Int)), (10, vI (E : Int)), (12, vI (a1 : Int)), (13, vI ((cst (cdOf c n) A p Ra) + (p a1))), (14, vI (cst (cdOf c n) A p Rb + p E)), (18, .bool true), (39, .bool false), (52, .bool false), (74, vI (c i1)), (78, .bool true), (88, .bool true)] ?_))))))
    refine WC.region (WL.z (vI (E : Int)) 146 (WL.z (vI (E : Int)) 8 (WL.nil (WQ.inNormal (WQ.then (hK11 _ _ _ (WC.region (WL.z (vI (E : Int)) 19 (WL.y (vI ((E + 1 : Nat) : Int)) 20 (x_ad (((E + 1 : Nat) : Int))) (WL.z (vI ((E + 1 : Nat) : Int)) 8 (WL.nil ?_)))))))))))
    refine WQ.sb [(0, vP pb 0), (2, vI (j : Int)), (7, vI ((sum + (p i1)) + (mxI (cst (cdOf c n) A p Ra + p a1) (cst (cdOf c n) A p Rb + p E)))), (8, vI ((E + 1 : Nat) : Int))] ?_
    refine WQ.then (hK6 _ _ _ (by omega) ⟨E + 1, R2, (sum + (p i1)) + (mxI (cst (cdOf c n) A p Ra + p a1) (cst (cdOf c n) A p Rb + p E)), rfl, rfl, by omega, hIs2, by omega, by omega, hs2, hbr.2, hH58⟩)
   ·
    rw [if_neg h29] at hsum
    refine WL.y (.bool false) 79 (x_eql rfl rfl rfl (dF (h29))) (WL.z (.bool false) 78 (WL.k hK52 ?_))
    refine WC.no rfl ?_
    refine WC.seq fun K59 hK59 => WC.region (WL.y (.bool false) 102 (x_eql rfl rfl rfl (dF (by omega))) (WL.z (.bool false) 101 (WL.k hK59 ?_)))
    refine WC.no rfl ?_
    refine WC.seq fun K60 hK60 => WC.region (WL.y (.bool true) 116 (x_eql rfl rfl rfl (dT (by omega))) (WL.z (.bool true) 115 (WL.k hK60 ?_)))
    refine WC.yes rfl ?_
    refine WC.confH (γ := Unit) [(115, .bool true), (116, .bool true), (101, .bool false), (102, .bool false), (78, .bool false), (79, .bool false), (0, vP pb 0), (2, vI (j : Int)), (7, vI (sum + (p i1))), (8, vI (i1 : Int)), (9, vI (a1 : Int)), (10, vI (E : Int)), (12, vI (a1 : Int)), (13, vI ((cst (cdOf c n) A p Ra) + (p a1))), (18, .bool true), (39, .bool false), (52, .bool false), (74, vI (c i1))] (fun gy => [vI (sum + (p i1)), vP pb 0, vI (i1 : Int), vI ((i1 + 1 : Nat) : Int), vI (a1 : Int), vI (cst (cdOf c n) A p Ra), vP pb 0, vP pb 0, vP pb 1, vS gp n n, vI (a1 : Int), vP gp a1, vI (p a1), vP pb 0, vI (a1 : Int), vI ((a1 + 1 : Nat) : Int), vI (E : Int), vI (cst (cdOf c n) A p Rb), vP pb 0, vP pb 0, vP pb 1, vS gp n n, vI (E : Int), vP gp E, vI (p E), vI ((cst (cdOf c n) A p Rb) + (p E)), vI (mxI (p a1) (cst (cdOf c n) A p Rb + p E)), vI ((cst (cdOf c n) A p Ra) + (mxI (p a1) (cst (cdOf c n) A p Rb + p E))), vI ((sum + (p i1)) + ((cst (cdOf c n) A p Ra) + (mxI (p a1) (cst (cdOf c n) A p Rb + p E)))), vI ((sum + (p i1)) + ((cst (cdOf c n) A p Ra) + (mxI (p a1) (cst (cdOf c n) A p Rb + p E))))]) (fun gy D wz => HP Tr w wz []) () (by kernel_rfl) ⟨rfl, rfl, rfl, rfl, rfl, rfl, rfl, rfl, rfl, rfl, rfl, rfl, rfl, rfl, rfl, rfl, rfl, rfl, trivial⟩ (by kernel_rfl) (by kernel_rfl) (by kernel_rfl) (fun _ => rfl) (by kernel_rfl) (HP.drew hH49) ?_ ?_
    ·
     refine AllOk.cons ?o0 (AllOk.cons ?o1 (AllOk.cons ?o2 (AllOk.cons ?o3 (AllOk.cons ?o4 (AllOk.cons ?o5 (AllOk.cons ?o6 (AllOk.cons ?o7 (AllOk.cons ?o8 (AllOk.cons ?o9 (AllOk.cons ?o10 (AllOk.cons ?o11 (AllOk.cons ?o12 (AllOk.cons ?o13 (AllOk.cons ?o14 (AllOk.cons ?o15 (AllOk.cons ?o16 (AllOk.cons ?o17 (AllOk.cons ?o18 (AllOk.cons ?o19 (AllOk.cons ?o20 (AllOk.cons ?o21 (AllOk.cons ?o22 (AllOk.cons ?o23 (AllOk.cons ?o24 (AllOk.cons ?o25 (AllOk.cons ?o26 (AllOk.cons ?o27 (AllOk.cons ?o28 (AllOk.cons ?o29 (AllOk.nil _))))))))))))))))))))))))))))))
     case o0 =>
      intro gy D wz hDi hdep hclo hW
      exact cfv gy wz (by kernel_rfl) hW
     case o1 =>
      intro gy D wz hDi hdep hclo hW
      exact cfv gy wz (by kernel_rfl) hW
     case o2 =>
      intro gy D wz hDi hdep hclo hW
      exact cfv gy wz (by kernel_rfl) hW
     case o3 =>
      intro gy D wz hDi hdep hclo hW
      exact cfv gy wz (x_ad (((i1 + 1 : Nat) : Int))) hW
     case o4 =>
      intro gy D wz hDi hdep hclo hW
      exact cfv gy wz (by kernel_rfl) hW
     case o5 =>
      intro gy D wz hDi hdep hclo hW
      have hW2 := hW
      exact .inl ⟨rfl, rfl, .inr (.inr ⟨51, #[vP pb 0, vI ((i1 + 1 : Nat) : Int), vI (a1 : Int)], by kernel_rfl, (hbr.1.1 _ (hC.below (HP.below hW))).mono fun e w2 h => ⟨gy, fun _ _ => rfl, h.1, HP.call hW h.2⟩⟩)⟩
     case o6 =>
      intro gy D wz hDi hdep hclo hW
      exact cfv gy wz (by kernel_rfl) hW
     case o7 =>
      intro gy D wz hDi hdep hclo hW
      exact cfv gy wz (by kernel_rfl) hW
     case o8 =>
      intro gy D wz hDi hdep hclo hW
      exact cfv gy wz (by kernel_rfl) hW
     case o9 =>
      intro gy D wz hDi hdep hclo hW
      exact cfv gy wz (x_load rfl rfl Try.underlying33 rfl ((HP.oldRange hW trivial (hC.pbr 0 (by omega))) 1 _ rfl)) hW
     case o10 =>
      intro gy D wz hDi hdep hclo hW
      exact cfv gy wz (by kernel_rfl) hW
     case o11 =>
      intro gy D wz hDi hdep hclo hW
      exact cfv gy wz (x_ix (a1) (a1) Try.underlying33 sz3) hW
     case o12 =>
      intro gy D wz hDi hdep hclo hW
      exact cfv gy wz (x_load rfl rfl Try.underlying3 rfl ((HP.oldRange hW trivial (hC.row a1 (by omega))) 0 _ rfl)) hW
     case o13 =>
      intro gy D wz hDi hdep hclo hW
      exact cfv gy wz (by kernel_rfl) hW
     case o14 =>
      intro gy D wz hDi hdep hclo hW
      exact cfv gy wz (by kernel_rfl) hW
     case o15 =>
      intro gy D wz hDi hdep hclo hW
      exact cfv gy wz (x_ad (((a1 + 1 : Nat) : Int))) hW
     case o16 =>
      intro gy D wz hDi hdep hclo hW
      exact cfv gy wz (by kernel_rfl) hW
     case o17 =>
      intro gy D wz hDi hdep hclo hW
      have hW2 := hW
      exact .inl ⟨rfl, rfl, .inr (.inr ⟨51, #[vP pb 0, vI ((a1 + 1 : Nat) : Int), vI (E : Int)], by kernel_rfl, (hbr.1.2 _ (hC.below (HP.below hW))).mono fun e w2 h => ⟨gy, fun _ _ => rfl, h.1, HP.call hW h.2⟩⟩)⟩
     case o18 =>
      intro gy D wz hDi hdep hclo hW
      exact cfv gy wz (by kernel_rfl) hW
     case o19 =>
      intro gy D wz hDi hdep hclo hW
      exact cfv gy wz (by kernel_rfl) hW
     case o20 =>
      intro gy D wz hDi hdep hclo hW
      exact cfv gy wz (by kernel_rfl) hW
     case o21 =>
      intro gy D wz hDi hdep hclo hW
      exact cfv gy wz (x_load rfl rfl Try.underlying33 rfl ((HP.oldRange hW trivial (hC.pbr 0 (by omega))) 1 _ rfl)) hW
     case o22 =>
      intro gy D wz hDi hdep hclo hW
      exact cfv gy wz (by kernel_rfl) hW
     case o23 =>
      intro gy D wz hDi hdep hclo hW
      exact cfv gy wz (x_ix (E) (E) Try.underlying33 sz3) hW
     case o24 =>
      intro gy D wz hDi hdep hclo hW
      exact cfv gy wz (x_load rfl rfl Try.underlying3 rfl ((HP.oldRange hW trivial (hC.row E (by omega))) 0 _ rfl)) hW
     case o25 =>
      intro gy D wz hDi hdep hclo hW
      exact cfv gy wz (x_ad ((cst (cdOf c n) A p Rb) + (p E))) hW
     case o26 =>
      intro gy D wz hDi hdep hclo hW
      exact cfv gy wz (x_max (Z := mxI (p a1) (cst (cdOf c n) A p Rb + p E)) (t := 0) rfl rfl rfl rfl) hW
     case o27 =>
      intro gy D wz hDi hdep hclo hW
      exact cfv gy wz (x_ad ((cst (cdOf c n) A p Ra) + (mxI (p a1) (cst (cdOf c n) A p Rb + p E)))) hW
     case o28 =>
      intro gy D wz hDi hdep hclo hW
      exact cfv gy wz (x_add (Z := (sum + (p i1)) + ((cst (cdOf c n) A p Ra) + (mxI (p a1) (cst (cdOf c n) A p Rb + p E)))) rfl rfl rfl (by omega) (by omega) (by omega)) hW
     case o29 =>
      intro gy D wz hDi hdep hclo hW
      exact cfv gy wz (by kernel_rfl) hW
    rintro gy D w61 hall hH62
    clear hall
    refine WQ.sb [(0, vP pb 0), (2, vI (j : Int)), (7, vI ((sum + (p i1)) + ((cst (cdOf c n) A p Ra) + (mxI (p a1) (cst (cdOf c n) A p Rb + p E))))), (8, vI (i1 : Int)), (9, vI (a1 : Int)), (10, vI (E : Int)), (12, vI (a1 : Int)), (13, vI ((cst (cdOf c n) A p Ra) + (p a1))), (18, .bool true), (39, .bool false), (52, .bool false), (74, vI (c i1)), (78, .bool false), (101, .bool false), (115, .bool true)] (WQ.inNormal (WQ.then (hK50 _ _ _ (WC.region (WL.z (vI (E : Int)) 146 (WL.z (vI (E : Int)) 8 (WL.nil (WQ.inNormal (WQ.then (hK11 _ _ _ (WC.region ?_)))))))))))
    refine WL.z (vI (E : Int)) 19 (WL.y (vI ((E + 1 : Nat) : Int)) 20 (x_ad (((E + 1 : Nat) : Int))) (WL.z (vI ((E + 1 : Nat) : Int)) 8 (WL.nil (WQ.sb [(0, vP pb 0), (2, vI (j : Int)), (7, vI ((sum + (p i1)) + ((cst (cdOf c n) A p Ra) + (mxI (p a1) (cst (cdOf c n) A p Rb + p E))))), (8, vI ((E + 1 : Nat) : Int))] ?_))))
    refine WQ.then (hK6 _ _ _ (by omega) ⟨E + 1, R2, (sum + (p i1)) + ((cst (cdOf c n) A p Ra) + (mxI (p a1) (cst (cdOf c n) A p Rb + p E))), rfl, rfl, by omega, hIs2, by omega, by omega, hs2, hbr.2, hH62⟩)
 ·
  refine WL.y (.bool false) 18 (x_lss rfl rfl rfl (dF (hlt))) (WL.k hK10 ?_)
  refine WC.no rfl ?_
  refine WC.exit (WQ.thenExit (WQ.thenExit (WQ.inExit (WQ.then (hK4 _ _ _ (WC.seq fun K63 hK63 => WC.region (WL.z (vI sum) 147 (WL.z (vI sum) 6 (WL.nil (WQ.then ?_))))))))))
  refine hK63 _ _ _ (WC.ret ?_)
  refine WQ.ret1 6 rfl rfl ?_
  cases R1 with
  | nil => exact ⟨by rw [← hsum]; simp [cst], HP.below hH8⟩
  | one i1 R2 => have q9 := hIs.2.2.le; have q8 := hIs.1; omega
  | plain i1 E Rb R2 => have q9 := hIs.2.2.2.2.2.2.2.le; have q7 := hIs.2.2.2.2.2.2.1.le; have q8 := hIs.1; omega
  | alt i1 a1 E Ra Rb R2 => have q9 := hIs.2.2.2.2.2.2.2.2.2.2.le; have q7 := hIs.2.2.2.2.2.2.2.2.2.1.le; have q6 := hIs.2.2.2.2.2.2.2.2.1.le; have q8 := hIs.1; omega
theorem worst_any (cq : Option Addr) (n cap gp : Nat) (c A B p : Nat → Int) (hc : Ec.chk c A B false n = 0) (hp : ∀ i, 0 ≤ p i ∧ p i ≤ 100) (hA : ∀ i, i < n → (cdOf c n).c i = 30 → 0 ≤ A i ∧ A i ≤ 50) (R : Fl.Tr) (k j : Nat) (hIs0 : Fl.Is (cdOf c n) R k j) (hjn : j ≤ n) (hsm0 : Sm (cdOf c n) A p R) (hK : cst (cdOf c n) A p R ≤ 1000000000000000) (hbr0 : CsAll (WsP cq n cap gp c A B p) R) (w : World) (hC : REnv cq n gp c A B p w) :
  Calls Try.prog 53 #[.slice cq n cap, vS gp n n, vI (k : Int), vI (j : Int)] w fun e w' => e = .returned (.int .i64 (cst (cdOf c n) A p R)) ∧ Below w.heap.size w w' := by
 have hn9 := (Ec.chk_ok hc).1
 have hkj := hIs0.le
 refine calls_of Try.func53 rfl (m := 137) rfl [(0, .slice cq n cap), (1, vS gp n n), (2, vI (k : Int)), (3, vI (j : Int))] (Fr_enter [.slice cq n cap, vS gp n n, vI (k : Int), vI (j : Int)] 137 (Nat.le_of_ble_eq_true rfl)) ?_
 have hH1 : HP Tr w w [] := HP.refl w
 refine WC.seq fun K2 hK2 => WC.region (WL.z (vI 0) 8 (WL.k hK2 (WC.seq fun K3 hK3 => WC.region (WL.z (vI 0) 9 (WL.k hK3 ?_)))))
 refine WC.seq fun K4 hK4 => WC.region (WL.z (vI (k : Int)) 17 (WL.z (vI (k : Int)) 10 (WL.k hK4 (WC.seq fun K5 hK5 => WC.block ?_))))
 refine WC.loop (fun kk0 ll0 ww0 => ∃ (i : Nat) (R1 : Fl.Tr) (sum : Int), ll0 = [(0, .slice cq n cap), (1, vS gp n n), (3, vI (j : Int)), (9, vI sum), (10, vI (i : Int))] ∧ kk0 = j - i ∧ (i ≤ j) ∧ (Fl.Is (cdOf c n) R1 i j) ∧ (sum + cst (cdOf c n) A p R1 = cst (cdOf c n) A p R) ∧ (0 ≤ sum) ∧ (Sm (cdOf c n) A p R1) ∧ (CsAll (WsP cq n cap gp c A B p) R1) ∧ HP Tr w ww0 []) (j - k) [(0, .slice cq n cap), (1, vS gp n n), (3, vI (j : Int)), (9, vI 0), (10, vI (k : Int))] ⟨rfl, rfl, rfl, rfl, rfl, trivial⟩ ⟨k, R, 0, rfl, rfl, hkj, hIs0, by omega, Int.le_refl _, hsm0, hbr0, hH1⟩ ?_
 rintro kk l w7 ⟨i, R1, sum, rfl, hkk, hi, hIs, hsum, hs0, hsm, hbr, hH8⟩ K6 hK6
 refine WC.seq fun K9 hK9 => WC.seq fun K10 hK10 => WC.region (WL.z (vI (i : Int)) 18 (WL.z (vI (j : Int)) 19 ?_))
 by_cases hlt : (i : Int) < (j : Int)
 ·
  refine WL.y (.bool true) 20 (x_lss rfl rfl rfl (dT (hlt))) (WL.k hK10 ?_)
  refine WC.yes rfl ?_
  refine WC.skip (WQ.then (hK9 _ _ _ (WC.block (WC.seq fun K11 hK11 => ?_))))
  obtain ⟨gc, oc, rfl, hrowc⟩ := hC.code (by omega)
  cases R1 with
  | nil => have e9 : i = j := hIs; omega
  | one i1 R2 =>
   obtain ⟨rfl, hno, hIs2⟩ := hIs
   have hopn : Ec.opn (c i1) = false := Ec.opn_no.2 (fun q => hno ⟨q.1, by have q9 : c i1 ≤ 33 := q.2; show c i1 ≤ 35; omega⟩)
   have hEj := hIs2.le
   have hsum : sum + (p i1 + cst (cdOf c n) A p R2) = cst (cdOf c n) A p R := hsum
   have hs2 := hsm
   have hnr := (cst_bd hp hA R2 _ _ hIs2 (by omega)).1
   have hpi := hp i1
   refine WC.region (WL.z (vI sum) 21 (WL.z (vS gp n n) 22 (WL.z (vI (i1 : Int)) 23 (WL.y (vP gp i1) 24 (x_ix (i1) (i1) Try.underlying33 sz3) (WL.y (vI (p i1)) 25 (x_load rfl rfl Try.underlying3 rfl ((HP.oldRange hH8 trivial (hC.row i1 (by omega))) 0 _ rfl)) (WL.y (vI (sum + (p i1))) 26 (x_ad (sum + (p i1))) (WL.z (vI (sum + (p i1))) 9 (WL.k hK11 (WC.sb [(0, .slice (some ⟨gc, oc, none⟩) n cap), (1, vS gp n n), (3, vI (j : Int)), (9, vI (sum + (p i1))), (10, vI (i1 : Int)), (20, .bool true)] ?_)))))))))
   refine WC.seq fun K12 hK12 => WC.seq fun K13 hK13 => WC.region (WL.z (.slice (some ⟨gc, oc, none⟩) n cap) 27 (WL.z (vI (i1 : Int)) 28 (WL.y (vP gc (oc + i1 * 3)) 29 (x_ix (i1) (oc + i1 * 3) Try.underlying42 sz75) (WL.z (vP gc (oc + i1 * 3)) 30 (WL.y (vI (c i1)) 31 (x_load rfl rfl Try.underlying3 rfl ((HP.oldRange hH8 trivial (hrowc i1 (by omega))) 0 _ rfl)) ?_)))))
   refine WL.c 77 #[vI (c i1)] 32 ?_
   refine (rOpens_at hopn _).mono ?_
   rintro e w14 ⟨rfl, rfl⟩
   refine ⟨_, rfl, ?_⟩
   refine WL.z (.bool true) 33 (WL.k hK13 (WC.sb [(0, .slice (some ⟨gc, oc, none⟩) n cap), (1, vS gp n n), (3, vI (j : Int)), (9, vI (sum + (p i1))), (10, vI (i1 : Int)), (20, .bool true), (33, .bool true)] ?_))
   refine WC.yes rfl ?_
   refine WC.seq fun K15 hK15 => WC.region (WL.z (vI (i1 : Int)) 34 (WL.y (vI ((i1 + 1 : Nat) : Int)) 35 (x_ad (((i1 + 1 : Nat) : Int))) (WL.z (vI ((i1 + 1 : Nat) : Int)) 10 (WL.k hK15 (WC.exit (WQ.thenExit (WQ.inExit (WQ.sb [(0, .slice (some ⟨gc, oc, none⟩) n cap), (1, vS gp n n), (3, vI (j : Int)), (9, vI (sum + (p i1))), (10, vI ((i1 + 1 : Nat) : Int))] ?_))))))))
   refine WQ.then (hK6 _ _ _ (by omega) ⟨i1 + 1, R2, sum + (p i1), rfl, rfl, by omega, hIs2, by omega, by omega, hs2, hbr, hH8⟩)
  | plain i1 E Rb R2 =>
   obtain ⟨rfl, hop, he1, hd1, ho1, h35, hIb, hIs2⟩ := hIs
   have hop : 29 ≤ c i1 ∧ c i1 ≤ 32 := hop
   have hopn : Ec.opn (c i1) = true := Ec.opn_iff.2 ⟨hop.1, by omega⟩
   have hEj := hIs2.le
   have hEb := hIb.le
   have hsum : sum + (p i1 + (if c i1 = 30 then A i1 * (cst (cdOf c n) A p Rb + p E) else cst (cdOf c n) A p Rb + p E) + cst (cdOf c n) A p R2) = cst (cdOf c n) A p R := hsum
   obtain ⟨hs1, hsb, hs2⟩ := hsm
   have hnb := (cst_bd hp hA Rb _ _ hIb (by omega)).1
   have hpE := hp E
   have hnr := (cst_bd hp hA R2 _ _ hIs2 (by omega)).1
   have hpi := hp i1
   obtain ⟨hm1, hm2⟩ := ma_of hc (show i1 < n by omega) hopn
   have hm1 : Ec.maA c A B n (i1 : Int) = -1 := hm1.trans he1
   have hm2 : Ec.maE c A B n (i1 : Int) = (E : Int) := hm2.trans hd1
   have hv0 : 0 ≤ (if c i1 = 30 then A i1 * (cst (cdOf c n) A p Rb + p E) else cst (cdOf c n) A p Rb + p E) := by
       split
       · exact Int.mul_nonneg (hA i1 (by omega) (by assumption)).1 (by omega)
       · omega
   refine WC.region (WL.z (vI sum) 21 (WL.z (vS gp n n) 22 (WL.z (vI (i1 : Int)) 23 (WL.y (vP gp i1) 24 (x_ix (i1) (i1) Try.underlying33 sz3) (WL.y (vI (p i1)) 25 (x_load rfl rfl Try.underlying3 rfl ((HP.oldRange hH8 trivial (hC.row i1 (by omega))) 0 _ rfl)) (WL.y (vI (sum + (p i1))) 26 (x_ad (sum + (p i1))) (WL.z (vI (sum + (p i1))) 9 (WL.k hK11 (WC.sb [(0, .slice (some ⟨gc, oc, none⟩) n cap), (1, vS gp n n), (3, vI (j : Int)), (9, vI (sum + (p i1))), (10, vI (i1 : Int)), (20, .bool true)] ?_)))))))))
   refine WC.seq fun K16 hK16 => WC.seq fun K17 hK17 => WC.region (WL.z (.slice (some ⟨gc, oc, none⟩) n cap) 27 (WL.z (vI (i1 : Int)) 28 (WL.y (vP gc (oc + i1 * 3)) 29 (x_ix (i1) (oc + i1 * 3) Try.underlying42 sz75) (WL.z (vP gc (oc + i1 * 3)) 30 (WL.y (vI (c i1)) 31 (x_load rfl rfl Try.underlying3 rfl ((HP.oldRange hH8 trivial (hrowc i1 (by omega))) 0 _ rfl)) ?_)))))
   refine WL.c 77 #[vI (c i1)] 32 ?_
   refine (rOpens_at hopn _).mono ?_
   rintro e w18 ⟨rfl, rfl⟩
   refine ⟨_, rfl, ?_⟩
   refine WL.z (.bool false) 33 (WL.k hK17 (WC.sb [(0, .slice (some ⟨gc, oc, none⟩) n cap), (1, vS gp n n), (3, vI (j : Int)), (9, vI (sum + (p i1))), (10, vI (i1 : Int)), (20, .bool true), (33, .bool false)] ?_))
   refine WC.no rfl ?_
   refine WC.skip (WQ.then (hK16 _ _ _ (WC.seq fun K19 hK19 => WC.region (WL.z (.slice (some ⟨gc, oc, none⟩) n cap) 37 (WL.z (vI (i1 : Int)) 38 ?_)))))
   refine WL.c 56 #[.slice (some ⟨gc, oc, none⟩) n cap, vI (i1 : Int)] 39 ?_
   refine (rMatch_at hm1 hm2 _ (hC.below (HP.below hH8)).code (by omega) (by omega)).mono ?_
   rintro e w20 ⟨rfl, hb21⟩
   refine ⟨_, rfl, ?_⟩
   have hH22 := HP.call hH8 hb21
   refine WL.z (.tuple #[vI (-1), vI (E : Int), vI (Ec.maF c A B n (i1 : Int))]) 36 (WL.z (vI (-1)) 40 (WL.z (vI (E : Int)) 41 (WL.z (vI (Ec.maF c A B n (i1 : Int))) 42 (WL.z (vI (-1)) 11 (WL.z (vI (E : Int)) 12 (WL.z (vI (Ec.maF c A B n (i1 : Int))) 13 (WL.k hK19 (WC.sb [(0, .slice (some ⟨gc, oc, none⟩) n cap), (1, vS gp n n), (3, vI (j : Int)), (9, vI (sum + (p i1))), (10, vI (i1 : Int)), (11, vI (-1)), (12, vI (E : Int)), (20, .bool true), (33, .bool false)] (WC.seq fun K23 hK23 => ?_)))))))))
   refine WC.region (WL.z (vI (E : Int)) 43 (WL.z (vI (E : Int)) 14 (WL.k hK23 (WC.seq fun K24 hK24 => WC.seq fun K25 hK25 => WC.region (WL.z (vI (-1)) 44 (WL.y (.bool false) 45 (x_geq rfl rfl rfl (by decide)) (WL.nil ?_)))))))
   refine WQ.then (hK25 _ _ _ (WC.no rfl ?_))
   refine WC.skip (WQ.then (hK24 _ _ _ (WC.seq fun K26 hK26 => WC.region (WL.z (.slice (some ⟨gc, oc, none⟩) n cap) 47 (WL.z (vS gp n n) 48 (WL.z (vI (i1 : Int)) 49 (WL.y (vI ((i1 + 1 : Nat) : Int)) 50 (x_ad (((i1 + 1 : Nat) : Int))) (WL.z (vI (E : Int)) 51 ?_))))))))
   refine WL.c 53 #[.slice (some ⟨gc, oc, none⟩) n cap, vS gp n n, vI ((i1 + 1 : Nat) : Int), vI (E : Int)] 52 ?_
   refine (hbr.1 _ (hC.below (HP.below hH22))).mono ?_
   rintro e w27 ⟨rfl, hb28⟩
   refine ⟨_, rfl, ?_⟩
   have hH29 := HP.call hH22 hb28
   refine WL.z (vI (cst (cdOf c n) A p Rb)) 15 (WL.k hK26 (WC.sb [(0, .slice (some ⟨gc, oc, none⟩) n cap), (1, vS gp n n), (3, vI (j : Int)), (9, vI (sum + (p i1))), (10, vI (i1 : Int)), (11, vI (-1)), (12, vI (E : Int)), (14, vI (E : Int)), (15, vI (cst (cdOf c n) A p Rb)), (20, .bool true), (33, .bool false), (45, .bool false)] (WC.seq fun K30 hK30 => WC.region (WL.z (vI 0) 16 (WL.k hK30 (WC.seq fun K31 hK31 => ?_))))))
   refine WC.seq fun K32 hK32 => WC.region (WL.z (vI (-1)) 53 (WL.y (.bool false) 54 (x_geq rfl rfl rfl (by decide)) (WL.k hK32 ?_)))
   refine WC.no rfl ?_
   refine WC.skip (WQ.then (hK31 _ _ _ (WC.seq fun K33 hK33 => WC.seq fun K34 hK34 => WC.region (WL.z (.slice (some ⟨gc, oc, none⟩) n cap) 61 (WL.z (vI (i1 : Int)) 62 (WL.y (vP gc (oc + i1 * 3)) 63 (x_ix (i1) (oc + i1 * 3) Try.underlying42 sz75) (WL.z (vP gc (oc + i1 * 3)) 64 (WL.y (vI (c i1)) 65 (x_load rfl rfl Try.underlying3 rfl ((HP.oldRange hH29 trivial (hrowc i1 (by omega))) 0 _ rfl)) (WL.nil ?_)))))))))
   refine WQ.then (hK34 _ _ _ (WC.block (WC.seq fun K35 hK35 => WC.region ?_)))
   by_cases h29 : c i1 = 29
   ·
    rw [if_neg (by omega)] at hsum
    refine WL.y (.bool true) 75 (x_eql rfl rfl rfl (dT (h29))) (WL.z (.bool true) 74 (WL.k hK35 (WC.sb [(0, .slice (some ⟨gc, oc, none⟩) n cap), (1, vS gp n n), (3, vI (j : Int)), (9, vI (sum + (p i1))), (10, vI (i1 : Int)), (11, vI (-1)), (12, vI (E : Int)), (14, vI (E : Int)), (15, vI (cst (cdOf c n) A p Rb)), (16, vI 0), (20, .bool true), (33, .bool false), (45, .bool false), (54, .bool false), (65, vI (c i1)), (74, .bool true)] ?_)))
    refine WC.yes rfl ?_
    refine WC.seq fun K36 hK36 => WC.region (WL.z (vI (-1)) 76 (WL.y (.bool false) 77 (x_geq rfl rfl rfl (by decide)) (WL.k hK36 ?_)))
    refine WC.no rfl ?_
    refine WC.region (WL.z (vI (sum + (p i1))) 93 (WL.z (vI (cst (cdOf c n) A p Rb)) 94 (WL.z (vS gp n n) 95 (WL.z (vI (E : Int)) 96 (WL.y (vP gp E) 97 (x_ix (E) (E) Try.underlying33 sz3) (WL.y (vI (p E)) 98 (x_load rfl rfl Try.underlying3 rfl ((HP.oldRange hH29 trivial (hC.row E (by omega))) 0 _ rfl)) (WL.y (vI ((cst (cdOf c n) A p Rb) + (p E))) 99 (x_ad ((cst (cdOf c n) A p Rb) + (p E))) (WL.y (vI ((sum + (p i1)) + ((cst (cdOf c n) A p Rb) + (p E)))) 100 (x_ad ((sum + (p i1)) + ((cst (cdOf c n) A p Rb) + (p E)))) (WL.z (vI ((sum + (p i1)) + ((cst (cdOf c n) A p Rb) + (p E)))) 9 (WL.nil (WQ.inNormal ?_)))))))))))
    refine WQ.then (hK33 _ _ _ (WC.sb [(0, .slice (some ⟨gc, oc, none⟩) n cap), (1, vS gp n n), (3, vI (j : Int)), (9, vI ((sum + (p i1)) + ((cst (cdOf c n) A p Rb) + (p E)))), (10, vI (i1 : Int)), (11, vI (-1)), (12, vI (E : Int)), (14, vI (E : Int)), (15, vI (cst (cdOf c n) A p Rb)), (16, vI 0), (20, .bool true), (33, .bool false), (45, .bool false), (54, .bool false), (65, vI (c i1)), (74, .bool true), (77, .bool false)] (WC.region (WL.z (vI (E : Int)) 134 (WL.y (vI ((E + 1 : Nat) : Int)) 135 (x_ad (((E + 1 : Nat) : Int))) (WL.z (vI ((E + 1 : Nat) : Int)) 10 (WL.nil (WQ.inNormal (WQ.sb [(0, .slice (some ⟨gc, oc, none⟩) n cap), (1, vS gp n n), (3, vI (j : Int)), (9, vI ((sum + (p i1)) + ((cst (cdOf c n) A p Rb) + (p E)))), (10, vI ((E + 1 : Nat) : Int))] ?_)))))))))
    refine WQ.then (hK6 _ _ _ (by omega) ⟨E + 1, R2, (sum + (p i1)) + ((cst (cdOf c n) A p Rb) + (p E)), rfl, rfl, by omega, hIs2, by omega, by omega, hs2, hbr.2, hH29⟩)
   ·
    refine WL.y (.bool false) 75 (x_eql rfl rfl rfl (dF (h29))) (WL.z (.bool false) 74 (WL.k hK35 (WC.sb [(0, .slice (some ⟨gc, oc, none⟩) n cap), (1, vS gp n n), (3, vI (j : Int)), (9, vI (sum + (p i1))), (10, vI (i1 : Int)), (11, vI (-1)), (12, vI (E : Int)), (14, vI (E : Int)), (15, vI (cst (cdOf c n) A p Rb)), (16, vI 0), (20, .bool true), (33, .bool false), (45, .bool false), (54, .bool false), (65, vI (c i1)), (74, .bool false)] ?_)))
    refine WC.no rfl ?_
    refine WC.seq fun K37 hK37 => WC.region ?_
    by_cases h30 : c i1 = 30
    ·
     rw [if_pos h30] at hsum hv0
     refine WL.y (.bool true) 102 (x_eql rfl rfl rfl (dT (h30))) (WL.z (.bool true) 101 (WL.k hK37 ?_))
     refine WC.yes rfl ?_
     refine WC.confH (γ := Unit) [(101, .bool true), (102, .bool true), (0, .slice (some ⟨gc, oc, none⟩) n cap), (1, vS gp n n), (3, vI (j : Int)), (9, vI (sum + (p i1))), (10, vI (i1 : Int)), (11, vI (-1)), (12, vI (E : Int)), (14, vI (E : Int)), (15, vI (cst (cdOf c n) A p Rb)), (16, vI 0), (20, .bool true), (33, .bool false), (45, .bool false), (54, .bool false), (65, vI (c i1)), (74, .bool false)] (fun gy => [vI (sum + (p i1)), .slice (some ⟨gc, oc, none⟩) n cap, vI (i1 : Int), vP gc (oc + i1 * 3), vP gc (oc + i1 * 3 + 1), vI (A i1), vI (cst (cdOf c n) A p Rb), vS gp n n, vI (E : Int), vP gp E, vI (p E), vI ((cst (cdOf c n) A p Rb) + (p E)), vI (A i1 * (cst (cdOf c n) A p Rb + p E)), vI ((sum + (p i1)) + (A i1 * (cst (cdOf c n) A p Rb + p E))), vI ((sum + (p i1)) + (A i1 * (cst (cdOf c n) A p Rb + p E)))]) (fun gy D wz => HP Tr w wz []) () (by kernel_rfl) ⟨rfl, rfl, rfl, rfl, rfl, rfl, rfl, rfl, rfl, rfl, rfl, rfl, rfl, rfl, rfl, rfl, rfl, rfl, trivial⟩ (by kernel_rfl) (by kernel_rfl) (by kernel_rfl) (fun _ => rfl) (by kernel_rfl) (HP.drew hH29) ?_ ?_
     ·
      refine AllOk.cons ?o0 (AllOk.cons ?o1 (AllOk.cons ?o2 (AllOk.cons ?o3 (AllOk.cons ?o4 (AllOk.cons ?o5 (AllOk.cons ?o6 (AllOk.cons ?o7 (AllOk.cons ?o8 (AllOk.cons ?o9 (AllOk.cons ?o10 (AllOk.cons ?o11 (AllOk.cons ?o12 (AllOk.cons ?o13 (AllOk.cons ?o14 (AllOk.nil _)))))))))))))))
      case o0 =>
       intro gy D wz hDi hdep hclo hW
       exact cfv gy wz (by kernel_rfl) hW
      case o1 =>
       intro gy D wz hDi hdep hclo hW
       exact cfv gy wz (by kernel_rfl) hW
      case o2 =>
       intro gy D wz hDi hdep hclo hW
       exact cfv gy wz (by kernel_rfl) hW
      case o3 =>
       intro gy D wz hDi hdep hclo hW
       exact cfv gy wz (x_ix (i1) (oc + i1 * 3) Try.underlying42 sz75) hW
      case o4 =>
       intro gy D wz hDi hdep hclo hW
       exact cfv gy wz (by kernel_rfl) hW
      case o5 =>
       intro gy D wz hDi hdep hclo hW
       exact cfv gy wz (x_load rfl rfl Try.underlying3 rfl ((HP.oldRange hW trivial (hrowc i1 (by omega))) 1 _ rfl)) hW
      case o6 =>
       intro gy D wz hDi hdep hclo hW
       exact cfv gy wz (by kernel_rfl) hW
      case o7 =>
       intro gy D wz hDi hdep hclo hW
       exact cfv gy wz (by kernel_rfl) hW
      case o8 =>
       intro gy D wz hDi hdep hclo hW
       exact cfv gy wz (by kernel_rfl) hW
      case o9 =>
       intro gy D wz hDi hdep hclo hW
       exact cfv gy wz (x_ix (E) (E) Try.underlying33 sz3) hW
      case o10 =>
       intro gy D wz hDi hdep hclo hW
       exact cfv gy wz (x_load rfl rfl Try.underlying3 rfl ((HP.oldRange hW trivial (hC.row E (by omega))) 0 _ rfl)) hW
      case o11 =>
       intro gy D wz hDi hdep hclo hW
       exact cfv gy wz (x_ad ((cst (cdOf c n) A p Rb) + (p E))) hW
      case o12 =>
       intro gy D wz hDi hdep hclo hW
       exact cfv gy wz (x_mul (Z := A i1 * (cst (cdOf c n) A p Rb + p E)) rfl rfl rfl (rfl) (by omega) (by omega)) hW
      case o13 =>
       intro gy D wz hDi hdep hclo hW
       exact cfv gy wz (x_ad ((sum + (p i1)) + (A i1 * (cst (cdOf c n) A p Rb + p E)))) hW
      case o14 =>
       intro gy D wz hDi hdep hclo hW
       exact cfv gy wz (by kernel_rfl) hW
     rintro gy D w38 hall hH39
     clear hall
     refine WQ.sb [(0, .slice (some ⟨gc, oc, none⟩) n cap), (1, vS gp n n), (3, vI (j : Int)), (9, vI ((sum + (p i1)) + (A i1 * (cst (cdOf c n) A p Rb + p E)))), (10, vI (i1 : Int)), (11, vI (-1)), (12, vI (E : Int)), (14, vI (E : Int)), (15, vI (cst (cdOf c n) A p Rb)), (16, vI 0), (20, .bool true), (33, .bool false), (45, .bool false), (54, .bool false), (65, vI (c i1)), (74, .bool false), (101, .bool true)] (WQ.inNormal (WQ.then (hK33 _ _ _ (WC.region (WL.z (vI (E : Int)) 134 (WL.y (vI ((E + 1 : Nat) : Int)) 135 (x_ad (((E + 1 : Nat) : Int))) (WL.z (vI ((E + 1 : Nat) : Int)) 10 (WL.nil (WQ.inNormal (WQ.sb [(0, .slice (some ⟨gc, oc, none⟩) n cap), (1, vS gp n n), (3, vI (j : Int)), (9, vI ((sum + (p i1)) + (A i1 * (cst (cdOf c n) A p Rb + p E)))), (10, vI ((E + 1 : Nat) : Int))] ?_))))))))))
     refine WQ.then (hK6 _ _ _ (by omega) ⟨E + 1, R2, (sum + (p i1)) + (A i1 * (cst (cdOf c n) A p Rb + p E)), rfl, rfl, by omega, hIs2, by omega, by omega, hs2, hbr.2, hH39⟩)
    ·
     rw [if_neg h30] at hsum
     refine WL.y (.bool false) 102 (x_eql rfl rfl rfl (dF (h30))) (WL.z (.bool false) 101 (WL.k hK37 ?_))
     refine WC.no rfl ?_
     refine WC.seq fun K40 hK40 => WC.region (WL.y (.bool false) 118 (x_eql rfl rfl rfl (dF (by omega))) (WL.z (.bool false) 117 (WL.k hK40 ?_)))
     refine WC.no rfl ?_
     refine WC.region (WL.z (vI (sum + (p i1))) 66 (WL.z (vI (cst (cdOf c n) A p Rb)) 67 (WL.z (vS gp n n) 68 (WL.z (vI (E : Int)) 69 (WL.y (vP gp E) 70 (x_ix (E) (E) Try.underlying33 sz3) (WL.y (vI (p E)) 71 (x_load rfl rfl Try.underlying3 rfl ((HP.oldRange hH29 trivial (hC.row E (by omega))) 0 _ rfl)) (WL.y (vI ((cst (cdOf c n) A p Rb) + (p E))) 72 (x_ad ((cst (cdOf c n) A p Rb) + (p E))) (WL.y (vI ((sum + (p i1)) + ((cst (cdOf c n) A p Rb) + (p E)))) 73 (x_ad ((sum + (p i1)) + ((cst (cdOf c n) A p Rb) + (p E)))) (WL.z (vI ((sum + (p i1)) + ((cst (cdOf c n) A p Rb) + (p E)))) 9 (WL.nil (WQ.inNormal ?_)))))))))))
     refine WQ.then (hK33 _ _ _ (WC.sb [(0, .slice (some ⟨gc, oc, none⟩) n cap), (1, vS gp n n), (3, vI (j : Int)), (9, vI ((sum + (p i1)) + ((cst (cdOf c n) A p Rb) + (p E)))), (10, vI (i1 : Int)), (11, vI (-1)), (12, vI (E : Int)), (14, vI (E : Int)), (15, vI (cst (cdOf c n) A p Rb)), (16, vI 0), (20, .bool true), (33, .bool false), (45, .bool false), (54, .bool false), (65, vI (c i1)), (74, .bool false), (101, .bool false), (117, .bool false)] (WC.region (WL.z (vI (E : Int)) 134 (WL.y (vI ((E + 1 : Nat) : Int)) 135 (x_ad (((E + 1 : Nat) : Int))) (WL.z (vI ((E + 1 : Nat) : Int)) 10 (WL.nil (WQ.inNormal (WQ.sb [(0, .slice (some ⟨gc, oc, none⟩) n cap), (1, vS gp n n), (3, vI (j : Int)), (9, vI ((sum + (p i1)) + ((cst (cdOf c n) A p Rb) + (p E)))), (10, vI ((E + 1 : Nat) : Int))] ?_)))))))))
     refine WQ.then (hK6 _ _ _ (by omega) ⟨E + 1, R2, (sum + (p i1)) + ((cst (cdOf c n) A p Rb) + (p E)), rfl, rfl, by omega, hIs2, by omega, by omega, hs2, hbr.2, hH29⟩)
  | alt i1 a1 E Ra Rb R2 =>
   obtain ⟨rfl, hop, he1, hd1, hoa, ho1, h34, h35, hIa, hIb, hIs2⟩ := hIs
   have hop : c i1 = 29 ∨ c i1 = 33 := hop
   have hopn : Ec.opn (c i1) = true := Ec.opn_iff.2 (by omega)
   have hEj := hIs2.le
   have hEb := hIb.le
   have hEa := hIa.le
   have hsum : sum + (p i1 + (if c i1 = 29 then mxI (cst (cdOf c n) A p Ra + p a1) (cst (cdOf c n) A p Rb + p E) else cst (cdOf c n) A p Ra + mxI (p a1) (cst (cdOf c n) A p Rb + p E)) + cst (cdOf c n) A p R2) = cst (cdOf c n) A p R := hsum
   obtain ⟨hs1, hs3, hsa, hsb, hs2⟩ := hsm
   have hna := (cst_bd hp hA Ra _ _ hIa (by omega)).1
   have hnb := (cst_bd hp hA Rb _ _ hIb (by omega)).1
   have hpE := hp E
   have hpa := hp a1
   have hmx := le_mxI (x := cst (cdOf c n) A p Ra + p a1) (y := cst (cdOf c n) A p Rb + p E)
   have hmy := le_mxI (x := p a1) (y := cst (cdOf c n) A p Rb + p E)
   have hnr := (cst_bd hp hA R2 _ _ hIs2 (by omega)).1
   have hpi := hp i1
   obtain ⟨hm1, hm2⟩ := ma_of hc (show i1 < n by omega) hopn
   have hm1 : Ec.maA c A B n (i1 : Int) = (a1 : Int) := hm1.trans he1
   have hm2 : Ec.maE c A B n (i1 : Int) = (E : Int) := hm2.trans hd1
   have hv0 : 0 ≤ (if c i1 = 29 then mxI (cst (cdOf c n) A p Ra + p a1) (cst (cdOf c n) A p Rb + p E) else cst (cdOf c n) A p Ra + mxI (p a1) (cst (cdOf c n) A p Rb + p E)) := by split <;> omega
   refine WC.region (WL.z (vI sum) 21 (WL.z (vS gp n n) 22 (WL.z (vI (i1 : Int)) 23 (WL.y (vP gp i1) 24 (x_ix (i1) (i1) Try.underlying33 sz3) (WL.y (vI (p i1)) 25 (x_load rfl rfl Try.underlying3 rfl ((HP.oldRange hH8 trivial (hC.row i1 (by omega))) 0 _ rfl)) (WL.y (vI (sum + (p i1))) 26 (x_ad (sum + (p i1))) (WL.z (vI (sum + (p i1))) 9 (WL.k hK11 (WC.sb [(0, .slice (some ⟨gc, oc, none⟩) n cap), (1, vS gp n n), (3, vI (j : Int)), (9, vI (sum + (p i1))), (10, vI (i1 : Int)), (20, .bool true)] ?_)))))))))
   refine WC.seq fun K41 hK41 => WC.seq fun K42 hK42 => WC.region (WL.z (.slice (some ⟨gc, oc, none⟩) n cap) 27 (WL.z (vI (i1 : Int)) 28 (WL.y (vP gc (oc + i1 * 3)) 29 (x_ix (i1) (oc + i1 * 3) Try.underlying42 sz75) (WL.z (vP gc (oc + i1 * 3)) 30 (WL.y (vI (c i1)) 31 (x_load rfl rfl Try.underlying3 rfl ((HP.oldRange hH8 trivial (hrowc i1 (by omega))) 0 _ rfl)) ?_)))))
   refine WL.c 77 #[vI (c i1)] 32 ?_
   refine (rOpens_at hopn _).mono ?_
   rintro e w43 ⟨rfl, rfl⟩
   refine ⟨_, rfl, ?_⟩
   refine WL.z (.bool false) 33 (WL.k hK42 (WC.sb [(0, .slice (some ⟨gc, oc, none⟩) n cap), (1, vS gp n n), (3, vI (j : Int)), (9, vI (sum + (p i1))), (10, vI (i1 : Int)), (20, .bool true), (33, .bool false)] ?_))
   refine WC.no rfl ?_
   refine WC.skip (WQ.then (hK41 _ _ _ (WC.seq fun K44 hK44 => WC.region (WL.z (.slice (some ⟨gc, oc, none⟩) n cap) 37 (WL.z (vI (i1 : Int)) 38 ?_)))))
   refine WL.c 56 #[.slice (some ⟨gc, oc, none⟩) n cap, vI (i1 : Int)] 39 ?_
   refine (rMatch_at hm1 hm2 _ (hC.below (HP.below hH8)).code (by omega) (by omega)).mono ?_
   rintro e w45 ⟨rfl, hb46⟩
   refine ⟨_, rfl, ?_⟩
   have hH47 := HP.call hH8 hb46
   refine WL.z (.tuple #[vI (a1 : Int), vI (E : Int), vI (Ec.maF c A B n (i1 : Int))]) 36 (WL.z (vI (a1 : Int)) 40 (WL.z (vI (E : Int)) 41 (WL.z (vI (Ec.maF c A B n (i1 : Int))) 42 (WL.z (vI (a1 : Int)) 11 (WL.z (vI (E : Int)) 12 (WL.z (vI (Ec.maF c A B n (i1 : Int))) 13 (WL.k hK44 (WC.sb [(0, .slice (some ⟨gc, oc, none⟩) n cap), (1, vS gp n n), (3, vI (j : Int)), (9, vI (sum + (p i1))), (10, vI (i1 : Int)), (11, vI (a1 : Int)), (12, vI (E : Int)), (20, .bool true), (33, .bool false)] (WC.seq fun K48 hK48 => ?_)))))))))
   refine WC.region (WL.z (vI (E : Int)) 43 (WL.z (vI (E : Int)) 14 (WL.k hK48 (WC.seq fun K49 hK49 => WC.seq fun K50 hK50 => WC.region (WL.z (vI (a1 : Int)) 44 (WL.y (.bool true) 45 (x_geq rfl rfl rfl (dT (by omega))) (WL.nil ?_)))))))
   refine WQ.then (hK50 _ _ _ (WC.yes rfl ?_))
   refine WC.region (WL.z (vI (a1 : Int)) 46 (WL.z (vI (a1 : Int)) 14 (WL.k hK49 (WC.seq fun K51 hK51 => WC.region (WL.z (.slice (some ⟨gc, oc, none⟩) n cap) 47 (WL.z (vS gp n n) 48 (WL.z (vI (i1 : Int)) 49 (WL.y (vI ((i1 + 1 : Nat) : Int)) 50 (x_ad (((i1 + 1 : Nat) : Int))) ?_))))))))
   refine WL.z (vI (a1 : Int)) 51 ?_
   refine WL.c 53 #[.slice (some ⟨gc, oc, none⟩) n cap, vS gp n n, vI ((i1 + 1 : Nat) : Int), vI (a1 : Int)] 52 ?_
   refine (hbr.1.1 _ (hC.below (HP.below hH47))).mono ?_
   rintro e w52 ⟨rfl, hb53⟩
   refine ⟨_, rfl, ?_⟩
   have hH54 := HP.call hH47 hb53
   refine WL.z (vI (cst (cdOf c n) A p Ra)) 15 (WL.k hK51 (WC.sb [(0, .slice (some ⟨gc, oc, none⟩) n cap), (1, vS gp n n), (3, vI (j : Int)), (9, vI (sum + (p i1))), (10, vI (i1 : Int)), (11, vI (a1 : Int)), (12, vI (E : Int)), (14, vI (a1 : Int)), (15, vI (cst (cdOf c n) A p Ra)), (20, .bool true), (33, .bool false), (45, .bool true)] (WC.seq fun K55 hK55 => WC.region (WL.z (vI 0) 16 (WL.k hK55 (WC.seq fun K56 hK56 => ?_))))))
   refine WC.seq fun K57 hK57 => WC.region (WL.z (vI (a1 : Int)) 53 (WL.y (.bool true) 54 (x_geq rfl rfl rfl (dT (by omega))) (WL.k hK57 ?_)))
   refine WC.yes rfl ?_
   refine WC.region (WL.z (.slice (some ⟨gc, oc, none⟩) n cap) 55 (WL.z (vS gp n n) 56 (WL.z (vI (a1 : Int)) 57 (WL.y (vI ((a1 + 1 : Nat) : Int)) 58 (x_ad (((a1 + 1 : Nat) : Int))) (WL.z (vI (E : Int)) 59 ?_)))))
   refine WL.c 53 #[.slice (some ⟨gc, oc, none⟩) n cap, vS gp n n, vI ((a1 + 1 : Nat) : Int), vI (E : Int)] 60 ?_
   refine (hbr.1.2 _ (hC.below (HP.below hH54))).mono ?_
   rintro e w58 ⟨rfl, hb59⟩
   refine ⟨_, rfl, ?_⟩
   have hH60 := HP.call hH54 hb59
   refine WL.z (vI (cst (cdOf c n) A p Rb)) 16 (WL.k hK56 (WC.sb [(0, .slice (some ⟨gc, oc, none⟩) n cap), (1, vS gp n n), (3, vI (j : Int)), (9, vI (sum + (p i1))), (10, vI (i1 : Int)), (11, vI (a1 : Int)), (12, vI (E : Int)), (14, vI (a1 : Int)), (15, vI (cst (cdOf c n) A p Ra)), (16, vI (cst (cdOf c n) A p Rb)), (20, .bool true), (33, .bool false), (45, .bool true), (54, .bool true)] (WC.seq fun K61 hK61 => WC.seq fun K62 hK62 => WC.region (WL.z (.slice (some ⟨gc, oc, none⟩) n cap) 61 (WL.z (vI (i1 : Int)) 62 (WL.y (vP gc (oc + i1 * 3)) 63 (x_ix (i1) (oc + i1 * 3) Try.underlying42 sz75) (WL.z (vP gc (oc + i1 * 3)) 64 ?_)))))))
   refine WL.y (vI (c i1)) 65 (x_load rfl rfl Try.underlying3 rfl ((HP.oldRange hH60 trivial (hrowc i1 (by omega))) 0 _ rfl)) (WL.k hK62 (WC.block (WC.seq fun K63 hK63 => WC.region ?_)))
   by_cases h29 : c i1 = 29
   ·
    rw [if_pos h29] at hsum
    refine WL.y (.bool true) 75 (x_eql rfl rfl rfl (dT (h29))) (WL.z (.bool true) 74 (WL.k hK63 ?_))
    refine WC.yes rfl ?_
    refine WC.seq fun K64 hK64 => WC.region (WL.z (vI (a1 : Int)) 76 (WL.y (.bool true) 77 (x_geq rfl rfl rfl (dT (by omega))) (WL.k hK64 (WC.sb [(0, .slice (some ⟨gc, oc, none⟩) n cap), (1, vS gp n n), (3, vI (j : Int)), (9, vI (sum + (p i1))), (10, vI (i1 : Int)), (11, vI (a1 : Int)), (12, vI (E : Int)), (14, vI (a1 : Int)), (15, vI (cst (cdOf c n) A p Ra)), (16, vI (cst (cdOf c n) A p Rb)), (20, .bool true), (33, .bool false), (45, .bool true), (54, .bool true), (65, vI (c i1)), (74, .bool true), (77, .bool true)] ?_))))
    refine WC.yes rfl ?_
    refine WC.confH (γ := Unit) [(0, .slice (some ⟨gc, oc, none⟩) n cap), (1, vS gp n n), (3, vI (j : Int)), (9, vI (sum + (p i1))), (10, vI (i1 : Int)), (11, vI (a1 : Int)), (12, vI (E : Int)), (14, vI (a1 : Int)), (15, vI (cst (cdOf c n) A p Ra)), (16, vI (cst (cdOf c n) A p Rb)), (20, .bool true), (33, .bool false), (45, .bool true), (54, .bool true), (65, vI (c i1)), (74, .bool true), (77, .bool true)] (fun gy => [vI (sum + (p i1)), vI (cst (cdOf c n) A p Ra), vS gp n n, vI (a1 : Int), vP gp a1, vI (p a1), vI ((cst (cdOf c n) A p Ra) + (p a1)), vI (cst (cdOf c n) A p Rb), vS gp n n, vI (E : Int), vP gp E, vI (p E), vI (cst (cdOf c n) A p Rb + p E), vI (mxI (cst (cdOf c n) A p Ra + p a1) (cst (cdOf c n) A p Rb + p E)), vI ((sum + (p i1)) + (mxI (cst (cdOf c n) A p Ra + p a1) (cst (cdOf c n) A p Rb + p E))), vI ((sum + (p i1)) + (mxI (cst (cdOf c n) A p Ra + p a1) (cst (cdOf c n) A p Rb + p E)))]) (fun gy D wz => HP Tr w wz []) () (by kernel_rfl) ⟨rfl, rfl, rfl, rfl, rfl, rfl, rfl, rfl, rfl, rfl, rfl, rfl, rfl, rfl, rfl, rfl, rfl, trivial⟩ (by kernel_rfl) (by kernel_rfl) (by kernel_rfl) (fun _ => rfl) (by kernel_rfl) (HP.drew hH60) ?_ ?_
    ·
     refine AllOk.cons ?o0 (AllOk.cons ?o1 (AllOk.cons ?o2 (AllOk.cons ?o3 (AllOk.cons ?o4 (AllOk.cons ?o5 (AllOk.cons ?o6 (AllOk.cons ?o7 (AllOk.cons ?o8 (AllOk.cons ?o9 (AllOk.cons ?o10 (AllOk.cons ?o11 (AllOk.cons ?o12 (AllOk.cons ?o13 (AllOk.cons ?o14 (AllOk.cons ?o15 (AllOk.nil _))))))))))))))))
     case o0 =>
      intro gy D wz hDi hdep hclo hW
      exact cfv gy wz (by kernel_rfl) hW
     case o1 =>
      intro gy D wz hDi hdep hclo hW
      exact cfv gy wz (by kernel_rfl) hW
     case o2 =>
      intro gy D wz hDi hdep hclo hW
      exact cfv gy wz (by kernel_rfl) hW
     case o3 =>
      intro gy D wz hDi hdep hclo hW
      exact cfv gy wz (by kernel_rfl) hW
     case o4 =>
      intro gy D wz hDi hdep hclo hW
      exact cfv gy wz (x_ix (a1) (a1) Try.underlying33 sz3) hW
     case o5 =>
      intro gy D wz hDi hdep hclo hW
      exact cfv gy wz (x_load rfl rfl Try.underlying3 rfl ((HP.oldRange hW trivial (hC.row a1 (by omega))) 0 _ rfl)) hW
     case o6 =>
      intro gy D wz hDi hdep hclo hW
      exact cfv gy wz (x_ad ((cst (cdOf c n) A p Ra) + (p a1))) hW
     case o7 =>
      intro gy D wz hDi hdep hclo hW
      exact cfv gy wz (by kernel_rfl) hW
     case o8 =>
      intro gy D wz hDi hdep hclo hW
      exact cfv gy wz (by kernel_rfl) hW
     case o9 =>
      intro gy D wz hDi hdep hclo hW
      exact cfv gy wz (by kernel_rfl) hW
     case o10 =>
      intro gy D wz hDi hdep hclo hW
      exact cfv gy wz (x_ix (E) (E) Try.underlying33 sz3) hW
     case o11 =>
      intro gy D wz hDi hdep hclo hW
      exact cfv gy wz (x_load rfl rfl Try.underlying3 rfl ((HP.oldRange hW trivial (hC.row E (by omega))) 0 _ rfl)) hW
     case o12 =>
      intro gy D wz hDi hdep hclo hW
      exact cfv gy wz (x_ad (cst (cdOf c n) A p Rb + p E)) hW
     case o13 =>
      intro gy D wz hDi hdep hclo hW
      exact cfv gy wz (x_max (Z := mxI (cst (cdOf c n) A p Ra + p a1) (cst (cdOf c n) A p Rb + p E)) (t := 0) rfl rfl rfl rfl) hW
     case o14 =>
      intro gy D wz hDi hdep hclo hW
      exact cfv gy wz (x_ad ((sum + (p i1)) + (mxI (cst (cdOf c n) A p Ra + p a1) (cst (cdOf c n) A p Rb + p E)))) hW
     case o15 =>
      intro gy D wz hDi hdep hclo hW
      exact cfv gy wz (by kernel_rfl) hW
    rintro gy D w65 hall hH66
    clear hall
    refine WQ.sb [(0, .slice (some ⟨gc, oc, none⟩) n cap), (1, vS gp n n), (3, vI (j : Int)), (9, vI ((sum + (p i1)) + (mxI (cst (cdOf c n) A p Ra + p a1) (cst (cdOf c n) A p Rb + p E)))), (10, vI (i1 : Int)), (11, vI (a1 : Int)), (12, vI (E : Int)), (14, vI (a1 : Int)), (15, vI (cst (cdOf c n) A p Ra)), (16, vI (cst (cdOf c n) A p Rb)), (20, .bool true), (33, .bool false), (45, .bool true), (54, .bool true), (65, vI (c i1)), (74, .bool true), (77, .bool true)] (WQ.inNormal (WQ.then (hK61 _ _ _ (WC.region (WL.z (vI (E : Int)) 134 (WL.y (vI ((E + 1 : Nat) : Int)) 135 (x_ad (((E + 1 : Nat) : Int))) (WL.z (vI ((E + 1 : Nat) : Int)) 10 (WL.nil (WQ.inNormal (WQ.sb [(0, .slice (some ⟨gc, oc, none⟩) n cap), (1, vS gp n n), (3, vI (j : Int)), (9, vI ((sum + (p i1)) + (mxI (cst (cdOf c n) A p Ra + p a1) (cst (cdOf c n) A p Rb + p E)))), (10, vI ((E + 1 : Nat) : Int))] ?_))))))))))
    refine WQ.then (hK6 _ _ _ (by omega) ⟨E + 1, R2, (sum + (p i1)) + (mxI (cst (cdOf c n) A p Ra + p a1) (cst (cdOf c n) A p Rb + p E)), rfl, rfl, by omega, hIs2, by omega, by omega, hs2, hbr.2, hH66⟩)
   ·
    rw [if_neg h29] at hsum
    refine WL.y (.bool false) 75 (x_eql rfl rfl rfl (dF (h29))) (WL.z (.bool false) 74 (WL.k hK63 ?_))
    refine WC.no rfl ?_
    refine WC.seq fun K67 hK67 => WC.region (WL.y (.bool false) 102 (x_eql rfl rfl rfl (dF (by omega))) (WL.z (.bool false) 101 (WL.k hK67 (WC.sb [(0, .slice (some ⟨gc, oc, none⟩) n cap), (1, vS gp n n), (3, vI (j : Int)), (9, vI (sum + (p i1))), (10, vI (i1 : Int)), (11, vI (a1 : Int)), (12, vI (E : Int)), (14, vI (a1 : Int)), (15, vI (cst (cdOf c n) A p Ra)), (16, vI (cst (cdOf c n) A p Rb)), (20, .bool true), (33, .bool false), (45, .bool true), (54, .bool true), (65, vI (c i1)), (74, .bool false), (101, .bool false)] ?_))))
    refine WC.no rfl ?_
    refine WC.seq fun K68 hK68 => WC.region (WL.y (.bool true) 118 (x_eql rfl rfl rfl (dT (by omega))) (WL.z (.bool true) 117 (WL.k hK68 ?_)))
    refine WC.yes rfl ?_
    refine WC.confH (γ := Unit) [(117, .bool true), (118, .bool true), (0, .slice (some ⟨gc, oc, none⟩) n cap), (1, vS gp n n), (3, vI (j : Int)), (9, vI (sum + (p i1))), (10, vI (i1 : Int)), (11, vI (a1 : Int)), (12, vI (E : Int)), (14, vI (a1 : Int)), (15, vI (cst (cdOf c n) A p Ra)), (16, vI (cst (cdOf c n) A p Rb)), (20, .bool true), (33, .bool false), (45, .bool true), (54, .bool true), (65, vI (c i1)), (74, .bool false), (101, .bool false)] (fun gy => [vI (sum + (p i1)), vI (cst (cdOf c n) A p Ra), vS gp n n, vI (a1 : Int), vP gp a1, vI (p a1), vI (cst (cdOf c n) A p Rb), vS gp n n, vI (E : Int), vP gp E, vI (p E), vI ((cst (cdOf c n) A p Rb) + (p E)), vI (mxI (p a1) (cst (cdOf c n) A p Rb + p E)), vI ((cst (cdOf c n) A p Ra) + (mxI (p a1) (cst (cdOf c n) A p Rb + p E))), vI ((sum + (p i1)) + ((cst (cdOf c n) A p Ra) + (mxI (p a1) (cst (cdOf c n) A p Rb + p E)))), vI ((sum + (p i1)) + ((cst (cdOf c n) A p Ra) + (mxI (p a1) (cst (cdOf c n) A p Rb + p E))))]) (fun gy D wz => HP Tr w wz []) () (by kernel_rfl) ⟨rfl, rfl, rfl, rfl, rfl, rfl, rfl, rfl, rfl, rfl, rfl, rfl, rfl, rfl, rfl, rfl, rfl, rfl, rfl, trivial⟩ (by kernel_rfl) (by kernel_rfl) (by kernel_rfl) (fun _ => rfl) (by kernel_rfl) (HP.drew hH60) ?_ ?_
    ·
     refine AllOk.cons ?o0 (AllOk.cons ?o1 (AllOk.cons ?o2 (AllOk.cons ?o3 (AllOk.cons ?o4 (AllOk.cons ?o5 (AllOk.cons ?o6 (AllOk.cons ?o7 (AllOk.cons ?o8 (AllOk.cons ?o9 (AllOk.cons ?o10 (AllOk.cons ?o11 (AllOk.cons ?o12 (AllOk.cons ?o13 (AllOk.cons ?o14 (AllOk.cons ?o15 (AllOk.nil _))))))))))))))))
     case o0 =>
      intro gy D wz hDi hdep hclo hW
      exact cfv gy wz (by kernel_rfl) hW
     case o1 =>
      intro gy D wz hDi hdep hclo hW
      exact cfv gy wz (by kernel_rfl) hW
     case o2 =>
      intro gy D wz hDi hdep hclo hW
      exact cfv gy wz (by kernel_rfl) hW
     case o3 =>
      intro gy D wz hDi hdep hclo hW
      exact cfv gy wz (by kernel_rfl) hW
     case o4 =>
      intro gy D wz hDi hdep hclo hW
      exact cfv gy wz (x_ix (a1) (a1) Try.underlying33 sz3) hW
     case o5 =>
      intro gy D wz hDi hdep hclo hW
      exact cfv gy wz (x_load rfl rfl Try.underlying3 rfl ((HP.oldRange hW trivial (hC.row a1 (by omega))) 0 _ rfl)) hW
     case o6 =>
      intro gy D wz hDi hdep hclo hW
      exact cfv gy wz (by kernel_rfl) hW
     case o7 =>
      intro gy D wz hDi hdep hclo hW
      exact cfv gy wz (by kernel_rfl) hW
     case o8 =>
      intro gy D wz hDi hdep hclo hW
      exact cfv gy wz (by kernel_rfl) hW
     case o9 =>
      intro gy D wz hDi hdep hclo hW
      exact cfv gy wz (x_ix (E) (E) Try.underlying33 sz3) hW
     case o10 =>
      intro gy D wz hDi hdep hclo hW
      exact cfv gy wz (x_load rfl rfl Try.underlying3 rfl ((HP.oldRange hW trivial (hC.row E (by omega))) 0 _ rfl)) hW
     case o11 =>
      intro gy D wz hDi hdep hclo hW
      exact cfv gy wz (x_ad ((cst (cdOf c n) A p Rb) + (p E))) hW
     case o12 =>
      intro gy D wz hDi hdep hclo hW
      exact cfv gy wz (x_max (Z := mxI (p a1) (cst (cdOf c n) A p Rb + p E)) (t := 0) rfl rfl rfl rfl) hW
     case o13 =>
      intro gy D wz hDi hdep hclo hW
      exact cfv gy wz (x_ad ((cst (cdOf c n) A p Ra) + (mxI (p a1) (cst (cdOf c n) A p Rb + p E)))) hW
     case o14 =>
      intro gy D wz hDi hdep hclo hW
      exact cfv gy wz (x_add (Z := (sum + (p i1)) + ((cst (cdOf c n) A p Ra) + (mxI (p a1) (cst (cdOf c n) A p Rb + p E)))) rfl rfl rfl (by omega) (by omega) (by omega)) hW
     case o15 =>
      intro gy D wz hDi hdep hclo hW
      exact cfv gy wz (by kernel_rfl) hW
    rintro gy D w69 hall hH70
    clear hall
    refine WQ.sb [(0, .slice (some ⟨gc, oc, none⟩) n cap), (1, vS gp n n), (3, vI (j : Int)), (9, vI ((sum + (p i1)) + ((cst (cdOf c n) A p Ra) + (mxI (p a1) (cst (cdOf c n) A p Rb + p E))))), (10, vI (i1 : Int)), (11, vI (a1 : Int)), (12, vI (E : Int)), (14, vI (a1 : Int)), (15, vI (cst (cdOf c n) A p Ra)), (16, vI (cst (cdOf c n) A p Rb)), (20, .bool true), (33, .bool false), (45, .bool true), (54, .bool true), (65, vI (c i1)), (74, .bool false), (101, .bool false), (117, .bool true)] (WQ.inNormal (WQ.then (hK61 _ _ _ (WC.region (WL.z (vI (E : Int)) 134 (WL.y (vI ((E + 1 : Nat) : Int)) 135 (x_ad (((E + 1 : Nat) : Int))) (WL.z (vI ((E + 1 : Nat) : Int)) 10 (WL.nil (WQ.inNormal (WQ.sb [(0, .slice (some ⟨gc, oc, none⟩) n cap), (1, vS gp n n), (3, vI (j : Int)), (9, vI ((sum + (p i1)) + ((cst (cdOf c n) A p Ra) + (mxI (p a1) (cst (cdOf c n) A p Rb + p E))))), (10, vI ((E + 1 : Nat) : Int))] ?_))))))))))
    refine WQ.then (hK6 _ _ _ (by omega) ⟨E + 1, R2, (sum + (p i1)) + ((cst (cdOf c n) A p Ra) + (mxI (p a1) (cst (cdOf c n) A p Rb + p E))), rfl, rfl, by omega, hIs2, by omega, by omega, hs2, hbr.2, hH70⟩)
 ·
  refine WL.y (.bool false) 20 (x_lss rfl rfl rfl (dF (hlt))) (WL.k hK10 ?_)
  refine WC.no rfl ?_
  refine WC.exit (WQ.thenExit (WQ.thenExit (WQ.inExit (WQ.then (hK5 _ _ _ (WC.seq fun K71 hK71 => WC.region (WL.z (vI sum) 136 (WL.z (vI sum) 8 (WL.nil (WQ.then ?_))))))))))
  refine hK71 _ _ _ (WC.ret ?_)
  refine WQ.ret1 8 rfl rfl ?_
  cases R1 with
  | nil => exact ⟨by rw [← hsum]; simp [cst], HP.below hH8⟩
  | one i1 R2 => have q9 := hIs.2.2.le; have q8 := hIs.1; omega
  | plain i1 E Rb R2 => have q9 := hIs.2.2.2.2.2.2.2.le; have q7 := hIs.2.2.2.2.2.2.1.le; have q8 := hIs.1; omega
  | alt i1 a1 E Ra Rb R2 => have q9 := hIs.2.2.2.2.2.2.2.2.2.2.le; have q7 := hIs.2.2.2.2.2.2.2.2.2.1.le; have q6 := hIs.2.2.2.2.2.2.2.2.1.le; have q8 := hIs.1; omega
end Ca
end Go.Proofs.Ytmjnakhpekbenaa
