/- What the proof of CachePreempted stands on, part 2 of 5. -/
import Derived.BigQuiet
import Derived.BigRegion
import Derived.CallsIn
import Derived.ChangeAlike
import Derived.ChangeKeysEq
import Derived.ChangeSlices
import Derived.Deep.AppendLies
import Derived.Deep.CutRange
import Derived.Deep.DeepCutAuto
import Derived.Deep.Heap
import Derived.Deep.LoopGhost
import Derived.Deep.MidRow
import Derived.Deep.QuietTactic
import Derived.Great.BuildSlice
import Derived.Great.Walk
import Derived.Ground.Names2Prog
import Derived.Ground.SlgnProg
import Derived.Ground.SlsfProg
import Derived.Handy
import Derived.KernelRfl
import Derived.Laws.AppendOwn
import Derived.Laws.AppendOwnNone
import Derived.Laws.CopyRow
import Derived.Laws.MakeOwn
import Derived.Laws.Rows
import Derived.Laws.StructEq
import Derived.Lib.QuietBelow
import Derived.Lib.SliceRun
import Derived.Orders
import Derived.OrdersIn
import Derived.RangeFuncFrom
import Derived.RangeFuncLeaves
import Derived.RangeFuncWrites
import Derived.RegionTactic
import Derived.Shelf.SlSortCmp.HeapSortK
import Derived.Shelf.SlSortCmp.InsertionK
import Derived.Shelf.SlSortCmp.MedianK
import Derived.Shelf.SlSortCmp.NoneTotal
import Derived.Shelf.SlSortCmp.PartialInsertionK
import Derived.Shelf.SlSortCmp.PartitionEqualK
import Derived.Shelf.SlSortCmp.PartitionK
import Derived.Shelf.SlSortCmp.PdqK
import Derived.Shelf.SlSortCmp.PivotK
import Derived.Shelf.SlSortCmp.ReverseRangeK
import Derived.Shelf.SlSortCmp.SiftDownK
import Derived.Shelf.Slices.Cells
import Derived.Shelf.Slices.Clone
import Derived.Shelf.Slices.Delete
import Derived.Shelf.Slices.Empties
import Derived.Shelf.Slices.SearchI
import Derived.Shelf.Slices.Turned
import Derived.Shelf.SlicesE.Clone
import Derived.Shelf.SlicesE.Delete
import Derived.Shelf.SlicesQ.Reverse
import Derived.Shelf.Small.Bits
import Derived.Shelf.Small.Wraps
import Derived.Shelf.Strconv.Itoa0
import Derived.Sort.AssemblyPlain
import Derived.Still
import Derived.StillTail
import Derived.TacticsIn
import Derived.Test.YtmjnakhpekbenaaProg
import Derived.WalkKit
import Derived.WalkLawsBesides
import Derived.Test.YtmjnakhpekbenaaCachePreemptedA
set_option linter.unusedVariables false
set_option linter.unusedSimpArgs false
namespace Go.Proofs.Ytmjnakhpekbenaa
set_option maxRecDepth 20000
set_option maxHeartbeats 4000000
open Go.RowKit Fw
namespace Ec
def allV (c A B : Nat → Int) (pl : Bool) (n : Nat) : Bool := (List.range n).all fun i => vld (c i) (A i) (B i) pl
theorem allV_spec {c A B : Nat → Int} {pl : Bool} {n : Nat} : allV c A B pl n = true ↔ ∀ i, i < n → vld (c i) (A i) (B i) pl = true := by
  unfold allV; rw [List.all_eq_true]; simp
theorem allV_iff {c A B : Nat → Int} {pl : Bool} {n : Nat} {r : Int} (h : r < 0 ↔ ∀ i, i < n → vld (c i) (A i) (B i) pl = true) : decide (0 ≤ r) = !allV c A B pl n := by
  rw [← allV_spec] at h
  cases hv : allV c A B pl n
  · rw [hv] at h
    exact decide_eq_true (by have := fun q => (h.1 q); by_cases hq : r < 0; exact absurd (this hq) Bool.false_ne_true; omega)
  · have := h.2 hv
    exact decide_eq_false (by omega)
def chk (c A B : Nat → Int) (pl : Bool) (n : Nat) : Int := if 120 < n then 2 else if (!allV c A B pl n) = true then 1 else if (!okS c n) = true then 7 else 0
theorem chk_ok {c A B : Nat → Int} {pl : Bool} {n : Nat} (h : chk c A B pl n = 0) : n ≤ 120 ∧ allV c A B pl n = true ∧ okS c n = true := by
  unfold chk at h
  by_cases h1 : 120 < n
  · rw [if_pos h1] at h; omega
  · rw [if_neg h1] at h
    cases h2 : allV c A B pl n
    · rw [h2] at h; simp at h
    · cases h3 : okS c n
      · rw [h2, h3] at h; simp at h
      · exact ⟨by omega, rfl, rfl⟩
def idE (c A B : Nat → Int) (n : Nat) (at' : Int) : Int := if chk c A B false n = 0 then (if 0 ≤ at' ∧ at' < n then 0 else 1) else chk c A B false n
def IdxR (w : World) (c A B : Nat → Int) (n : Nat) (at' : Int) (e : Ending) (w' : World) : Prop :=
  (∃ er : Int, er ≠ 0 ∧ e = .returned (.tuple #[.agg #[.slice none 0 0, .slice none 0 0, .slice none 0 0, .slice none 0 0, .int .i64 0, .bool false], .int .i64 er]) ∧ idE c A B n at' = er ∧ Below w.heap.size w w') ∨
  (0 ≤ at' ∧ at' < n ∧ idE c A B n at' = 0 ∧ ∃ (g0 g1 g2 g3 : Nat) (s : Sh), e = .returned (.tuple #[.agg #[.slice (some ⟨g0, 0, none⟩) n n, .slice (some ⟨g1, 0, none⟩) n n, .slice (some ⟨g2, 0, none⟩) n n, .slice (some ⟨g3, 0, none⟩) n n, .int .i64 (s.m : Int), .bool true], .int .i64 0]) ∧
    shp c n = some s ∧ HP Tr w w' [.cel g0 (irow n s.o) 3, .cel g1 (irow n s.e) 3, .cel g2 (irow n s.d) 3, .cel g3 (irow n s.t) 3])
def shD (c : Nat → Int) (n : Nat) : Sh := (shp c n).getD ⟨[], fun _ => 0, fun _ => 0, fun _ => 0, fun _ => 0, 0⟩
def mtc (c A B : Nat → Int) (n : Nat) (at' : Int) : Value :=
  if idE c A B n at' ≠ 0 then .tuple #[.int .i64 0, .int .i64 0, .int .i64 (idE c A B n at')]
  else if opn (c at'.toNat) = false then .tuple #[.int .i64 0, .int .i64 0, .int .i64 3]
  else .tuple #[.int .i64 ((shD c n).e at'.toNat), .int .i64 ((shD c n).d at'.toNat), .int .i64 0]
theorem mtc_bad {c A B : Nat → Int} {n : Nat} {at' er : Int} (h : er ≠ 0) (hE : idE c A B n at' = er) : mtc c A B n at' = .tuple #[.int .i64 0, .int .i64 0, .int .i64 er] := by
  unfold mtc; rw [if_pos (by rw [hE]; exact h), hE]
theorem mtc_none {c A B : Nat → Int} {n k : Nat} (hE : idE c A B n (k : Int) = 0) (hO : opn (c k) = false) : mtc c A B n (k : Int) = .tuple #[.int .i64 0, .int .i64 0, .int .i64 3] := by
  unfold mtc; rw [if_neg (by rw [hE]; simp), if_pos (by simpa using hO)]
theorem mtc_ok {c A B : Nat → Int} {n k : Nat} {s : Sh} (hE : idE c A B n (k : Int) = 0) (hO : opn (c k) = true) (hs : shp c n = some s) : mtc c A B n (k : Int) = .tuple #[.int .i64 (s.e k), .int .i64 (s.d k), .int .i64 0] := by
  unfold mtc; rw [if_neg (by rw [hE]; simp), if_neg (by simp [hO])]; unfold shD; rw [hs]; simp
theorem chk1_any (op a b : Int) (pl : Bool) (q : Nat) (w : World) (hq : w.cell? ⟨q, 0, none⟩ = some (.bool pl)) :
    Calls Try.prog 116 #[.agg #[vI op, vI a, vI b], vP q 0] w fun e w' => e = .returned (.bool (!vld op a b pl)) ∧ Below w.heap.size w w' := by
  refine calls_of Try.func116 rfl (m := 8) rfl [(0, .agg #[vI op, vI a, vI b]), (1, vP q 0)] (Fr_enter [.agg #[vI op, vI a, vI b], vP q 0] 8 (Nat.le_of_ble_eq_true rfl)) ?_
  have hH1 : HP Tr w w [] := HP.refl w
  refine WC.seq fun K2 hK2 => WC.region ?_
  refine WL.alloc (c := #[vI op, vI a, vI b]) (T := 75) hH1 2 rfl (by decide) rfl rfl (fun b3 => vP b3 0) (by kernel_rfl) (fun b3 w4 hw4 => ?_)
  have hH5 : HP Tr w w4 [.cel b3 #[vI op, vI a, vI b] 75] := hw4.2
  have nb3 := hw4.1
  clear hw4
  refine WL.z (.bool false) 3 (WL.k hK2 (WC.seq fun K6 hK6 => WC.region (WL.y (.agg #[vI op, vI a, vI b]) 4 (x_loadS (cs := [vI op, vI a, vI b]) rfl rfl Try.underlying75 rfl sz75 (HP.range hH5 0 rfl rfl)) (WL.y (.bool pl) 5 (x_load rfl rfl Try.underlying4 rfl (HP.old hH5 trivial hq)) ?_))))
  refine WL.c 117 #[.agg #[vI op, vI a, vI b], .bool pl] 6 ?_
  refine (Valid_any _ _ _ _ _).mono ?_
  rintro e w7 ⟨rfl, hb8⟩
  refine ⟨_, rfl, ?_⟩
  have hH9 := HP.call hH5 hb8
  refine WL.z (.bool (!(vld op a b pl))) 7 (WL.z (.bool (!(vld op a b pl))) 3 (WL.k hK6 (WC.sb [(0, .agg #[vI op, vI a, vI b]), (2, vP b3 0), (3, .bool (!(vld op a b pl)))] (WC.ret ?_))))
  refine WQ.ret1 3 rfl rfl ?_
  exact ⟨rfl, HP.below hH9⟩
theorem idx_any (p : Option Addr) (n cap : Nat) (c A B : Nat → Int) (pl : Bool) (q : Nat) (w : World) (hIn : InC w p n c A B) (hn : n ≤ 400) (hq : w.cell? ⟨q, 0, none⟩ = some (.bool pl)) :
  Calls Try.prog 118 #[.slice p n cap, .func (.func 116) #[] #[vP q 0]] w fun e w' => ∃ r : Int, e = .returned (.int .i64 r) ∧ (r < 0 ↔ ∀ i, i < n → vld (c i) (A i) (B i) pl = true) ∧ Below w.heap.size w w' := by
 refine calls_of Try.func118 rfl (m := 19) rfl [(0, .slice p n cap), (1, .func (.func 116) #[] #[vP q 0])] (Fr_enter [.slice p n cap, .func (.func 116) #[] #[vP q 0]] 19 (Nat.le_of_ble_eq_true rfl)) ?_
 have hH1 : HP Tr w w [] := HP.refl w
 refine WC.seq fun K2 hK2 => WC.region (WL.z (vI 0) 4 (WL.k hK2 (WC.seq fun K3 hK3 => WC.seq fun K4 hK4 => WC.region (WL.z (.slice p n cap) 6 (WL.z (vI (n : Int)) 7 (WL.z (vI 0) 8 ?_))))))
 refine WL.k hK4 (WC.block ?_)
 refine WC.loop (fun kk0 ll0 ww0 => ∃ (k : Nat), ll0 = [(0, .slice p n cap), (1, .func (.func 116) #[] #[vP q 0]), (7, vI (n : Int)), (8, vI (k : Int))] ∧ kk0 = n - k ∧ (k ≤ n) ∧ (∀ i, i < k → vld (c i) (A i) (B i) pl = true) ∧ HP Tr w ww0 []) (n) [(0, .slice p n cap), (1, .func (.func 116) #[] #[vP q 0]), (7, vI (n : Int)), (8, vI 0)] ⟨rfl, rfl, rfl, rfl, trivial⟩ ⟨0, rfl, rfl, Nat.zero_le n, fun i hi => absurd hi (Nat.not_lt_zero i), hH1⟩ ?_
 rintro kk l w6 ⟨k, rfl, hkk, hk, hv, hH7⟩ K5 hK5
 refine WC.seq fun K8 hK8 => WC.region ?_
 by_cases hlt : (k : Int) < (n : Int)
 ·
  refine WL.y (.bool true) 9 (x_lss rfl rfl rfl (dT (hlt))) (WL.k hK8 (WC.seq fun K9 hK9 => ?_))
  refine WC.yes rfl ?_
  refine WC.skip (WQ.then (hK9 _ _ _ (WC.seq fun K10 hK10 => WC.block (WC.seq fun K11 hK11 => WC.region (WL.z (vI (k : Int)) 10 (WL.z (vI (k : Int)) 5 (WL.k hK11 ?_)))))))
  refine WC.seq fun K12 hK12 => ?_
  have hlt' : k < n := by omega
  obtain ⟨bb, oo, rfl, hrow⟩ := hIn (by omega)
  refine WC.region (WL.z (.func (.func 116) #[] #[vP q 0]) 11 (WL.z (.slice (some ⟨bb, oo, none⟩) n cap) 12 (WL.z (vI (k : Int)) 13 (WL.y (vP bb (oo + k * 3)) 14 (x_ix (k) (oo + k * 3) Try.underlying42 sz75) (WL.y (.agg #[vI (c k), vI (A k), vI (B k)]) 15 (x_loadS (cs := [vI (c k), vI (A k), vI (B k)]) rfl rfl Try.underlying75 rfl sz75 (HP.oldRange hH7 trivial (hrow k (by omega)))) ?_)))))
  refine WL.c 116 #[.agg #[vI (c k), vI (A k), vI (B k)], vP q 0] 16 ?_
  refine (chk1_any _ _ _ pl q _ (HP.old hH7 trivial hq)).mono ?_
  rintro e w13 ⟨rfl, hb14⟩
  refine ⟨_, rfl, ?_⟩
  have hH15 := HP.call hH7 hb14
  refine WL.k hK12 (WC.sb [(0, .slice (some ⟨bb, oo, none⟩) n cap), (1, .func (.func 116) #[] #[vP q 0]), (5, vI (k : Int)), (7, vI (n : Int)), (8, vI (k : Int)), (9, .bool true), (16, .bool (!vld (c k) (A k) (B k) pl))] ?_)
  rcases Bool.eq_false_or_eq_true (vld (c k) (A k) (B k) pl) with hA | hA
  ·
   refine WC.no (congrArg (fun b => some (Value.bool (!b))) hA) ?_
   refine WC.skip (WQ.inNormal (WQ.then (hK10 _ _ _ (WC.region (WL.y (vI ((k + 1 : Nat) : Int)) 18 (x_ad (((k + 1 : Nat) : Int))) (WL.z (vI ((k + 1 : Nat) : Int)) 8 (WL.nil (WQ.sb [(0, .slice (some ⟨bb, oo, none⟩) n cap), (1, .func (.func 116) #[] #[vP q 0]), (7, vI (n : Int)), (8, vI ((k + 1 : Nat) : Int))] ?_))))))))
   refine WQ.then (hK5 _ _ _ (by omega) ⟨k + 1, rfl, rfl, by omega, fun i hi => (Nat.lt_succ_iff_lt_or_eq.1 hi).elim (hv i) (fun e => e ▸ hA), hH15⟩)
  ·
   refine WC.yes (congrArg (fun b => some (Value.bool (!b))) hA) ?_
   refine WC.seq fun K16 hK16 => WC.region (WL.z (vI (k : Int)) 17 (WL.z (vI (k : Int)) 4 (WL.k hK16 (WC.ret ?_))))
   refine WQ.inRet ?_
   refine WQ.thenRet ?_
   refine WQ.thenRet ?_
   refine WQ.inRet ?_
   refine WQ.thenRet ?_
   refine WQ.ret1 4 rfl rfl ?_
   exact ⟨k, rfl, ⟨fun h => absurd h (by omega), fun h => absurd (h k hlt') (by rw [hA]; exact Bool.false_ne_true)⟩, HP.below hH15⟩
 ·
  refine WL.y (.bool false) 9 (x_lss rfl rfl rfl (dF (hlt))) (WL.k hK8 (WC.seq fun K17 hK17 => ?_))
  refine WC.no rfl ?_
  refine WC.exit (WQ.thenExit (WQ.thenExit (WQ.inExit (WQ.then (hK3 _ _ _ (WC.seq fun K18 hK18 => WC.region (WL.z (vI (-1)) 4 (WL.k hK18 ?_))))))))
  refine WC.ret ?_
  refine WQ.ret1 4 rfl rfl ?_
  exact ⟨-1, rfl, ⟨fun _ i hi => hv i (by omega), fun _ => by omega⟩, HP.below hH7⟩
theorem con_any (p : Option Addr) (n cap : Nat) (c A B : Nat → Int) (pl : Bool) (q : Nat) (w : World) (hIn : InC w p n c A B) (hn : n ≤ 400) (hq : w.cell? ⟨q, 0, none⟩ = some (.bool pl)) :
    Calls Try.prog 107 #[.slice p n cap, .func (.func 116) #[] #[vP q 0]] w fun e w' => e = .returned (.bool (!allV c A B pl n)) ∧ Below w.heap.size w w' := by
  refine calls_of Try.func107 rfl (m := 9) rfl [(0, .slice p n cap), (1, .func (.func 116) #[] #[vP q 0])] (Fr_enter [.slice p n cap, .func (.func 116) #[] #[vP q 0]] 9 (Nat.le_of_ble_eq_true rfl)) ?_
  have hH1 : HP Tr w w [] := HP.refl w
  refine WC.seq fun K2 hK2 => WC.region (WL.z (.bool false) 4 (WL.k hK2 (WC.seq fun K3 hK3 => WC.region (WL.z (.slice p n cap) 5 (WL.z (.func (.func 116) #[] #[vP q 0]) 6 ?_)))))
  refine WL.c 118 #[.slice p n cap, .func (.func 116) #[] #[vP q 0]] 7 ?_
  refine (idx_any _ _ _ c A B pl q _ (hIn.below (HP.below hH1)) hn (HP.old hH1 trivial hq)).mono ?_
  rintro e w4 ⟨r, rfl, hr, hb5⟩
  refine ⟨_, rfl, ?_⟩
  have hH6 := HP.call hH1 hb5
  have hr2 := allV_iff hr
  refine WL.y (.bool (!allV c A B pl n)) 8 (x_geq rfl rfl rfl hr2) (WL.z (.bool (!allV c A B pl n)) 4 (WL.k hK3 (WC.ret ?_)))
  refine WQ.ret1 4 rfl rfl ?_
  exact ⟨rfl, HP.below hH6⟩
theorem Check_any (p : Option Addr) (n cap : Nat) (c A B : Nat → Int) (pl : Bool) (w : World) (hIn : InC w p n c A B) (hn : n ≤ 400) :
  Calls Try.prog 106 #[.slice p n cap, .bool pl] w fun e w' => e = .returned (.int .i64 (chk c A B pl n)) ∧ Below w.heap.size w w' := by
 refine calls_of Try.func106 rfl (m := 18) rfl [(0, .slice p n cap), (1, .bool pl)] (Fr_enter [.slice p n cap, .bool pl] 18 (Nat.le_of_ble_eq_true rfl)) ?_
 have hH1 : HP Tr w w [] := HP.refl w
 refine WC.seq fun K2 hK2 => WC.region ?_
 refine WL.alloc (c := #[.bool pl]) (T := 4) hH1 3 rfl (by decide) rfl rfl (fun b1 => vP b1 0) (by kernel_rfl) (fun b1 w3 hw3 => ?_)
 have hH4 : HP Tr w w3 [.cel b1 #[.bool pl] 4] := hw3.2
 have nb1 := hw3.1
 clear hw3
 refine WL.z (vI 0) 4 (WL.k hK2 (WC.seq fun K5 hK5 => WC.block (WC.seq fun K6 hK6 => WC.region (WL.z (.slice p n cap) 6 (WL.z (vI (n : Int)) 7 ?_)))))
 by_cases hl : (120 : Int) < (n : Int)
 ·
  refine WL.y (.bool true) 8 (x_gtr rfl rfl rfl (dT (hl))) (WL.z (.bool true) 5 (WL.k hK6 ?_))
  refine WC.yes rfl ?_
  refine WC.seq fun K7 hK7 => WC.region (WL.z (vI 2) 4 (WL.k hK7 (WC.ret ?_)))
  refine WQ.inRet ?_
  refine WQ.thenRet ?_
  refine WQ.ret1 4 rfl rfl ?_
  exact ⟨by rw [show chk c A B pl n = 2 by unfold chk; rw [if_pos (by omega)]], HP.below hH4⟩
 ·
  refine WL.y (.bool false) 8 (x_gtr rfl rfl rfl (dF (hl))) (WL.z (.bool false) 5 (WL.k hK6 ?_))
  refine WC.no rfl ?_
  refine WC.seq fun K8 hK8 => WC.region (WL.z (.slice p n cap) 10 (WL.z (.func (.func 116) #[] #[vP b1 0]) 11 ?_))
  refine WL.c 107 #[.slice p n cap, .func (.func 116) #[] #[vP b1 0]] 12 ?_
  refine (con_any _ _ _ c A B pl b1 _ (hIn.below (HP.below hH4)) hn (HP.cell hH4 0 rfl rfl)).mono ?_
  rintro e w9 ⟨rfl, hb10⟩
  refine ⟨_, rfl, ?_⟩
  have hH11 := HP.call hH4 hb10
  refine WL.z (.bool (!allV c A B pl n)) 9 (WL.k hK8 (WC.sb [(0, .slice p n cap), (1, .bool pl), (3, vP b1 0), (4, vI 0), (5, .bool false), (9, .bool (!allV c A B pl n))] ?_))
  rcases Bool.eq_false_or_eq_true (allV c A B pl n) with hA | hA
  ·
   refine WC.no (congrArg (fun b => some (Value.bool (!b))) hA) ?_
   refine WC.seq fun K12 hK12 => WC.region (WL.z (.slice p n cap) 14 ?_)
   refine WL.c 109 #[.slice p n cap] 15 ?_
   refine (shapeH_any _ _ _ c A B _ (hIn.below (HP.below hH11)) hn).mono ?_
   rintro e w13 ⟨g0, g1, g2, g3, m, s, rfl, hb14, hok⟩
   refine ⟨_, rfl, ?_⟩
   have hH15 : HP Tr w _ [.cel b1 #[.bool pl] 4, .cel g0 (irow n s.o) 3, .cel g1 (irow n s.e) 3, .cel g2 (irow n s.d) 3, .cel g3 (irow n s.t) 3] := HP.trans hH11 hb14
   refine WL.z (.bool (okS c n)) 16 (WL.z (.bool (!(okS c n))) 17 (WL.z (.bool (!(okS c n))) 13 (WL.k hK12 ?_)))
   rcases Bool.eq_false_or_eq_true (okS c n) with hO | hO
   ·
    refine WC.no (congrArg (fun b => some (Value.bool (!b))) hO) ?_
    refine WC.skip (WQ.inNormal (WQ.then (hK5 _ _ _ (WC.seq fun K16 hK16 => WC.region (WL.z (vI 0) 4 (WL.k hK16 (WC.ret ?_)))))))
    refine WQ.ret1 4 rfl rfl ?_
    exact ⟨by rw [show chk c A B pl n = 0 by unfold chk; rw [if_neg (by omega), hA, hO]; rfl], HP.below hH15⟩
   ·
    refine WC.yes (congrArg (fun b => some (Value.bool (!b))) hO) ?_
    refine WC.seq fun K17 hK17 => WC.region (WL.z (vI 7) 4 (WL.k hK17 (WC.ret ?_)))
    refine WQ.inRet ?_
    refine WQ.thenRet ?_
    refine WQ.ret1 4 rfl rfl ?_
    exact ⟨by rw [show chk c A B pl n = 7 by unfold chk; rw [if_neg (by omega), hA, hO]; rfl], HP.below hH15⟩
  ·
   refine WC.yes (congrArg (fun b => some (Value.bool (!b))) hA) ?_
   refine WC.seq fun K18 hK18 => WC.region (WL.z (vI 1) 4 (WL.k hK18 (WC.ret ?_)))
   refine WQ.inRet ?_
   refine WQ.thenRet ?_
   refine WQ.ret1 4 rfl rfl ?_
   exact ⟨by rw [show chk c A B pl n = 1 by unfold chk; rw [if_neg (by omega), hA]; rfl], HP.below hH11⟩
theorem indexed_any (p : Option Addr) (n cap : Nat) (c A B : Nat → Int) (at' : Int) (w : World) (hIn : InC w p n c A B) (hn : n ≤ 400) (h1 : -9223372036854775808 ≤ at') (h2 : at' ≤ 9223372036854775807) :
  Calls Try.prog 91 #[.slice p n cap, vI at'] w (IdxR w c A B n at') := by
 refine calls_of Try.func91 rfl (m := 24) rfl [(0, .slice p n cap), (1, vI at')] (Fr_enter [.slice p n cap, vI at'] 24 (Nat.le_of_ble_eq_true rfl)) ?_
 have hH1 : HP Tr w w [] := HP.refl w
 refine WC.seq fun K2 hK2 => WC.region ?_
 refine WL.alloc (c := #[.slice none 0 0, .slice none 0 0, .slice none 0 0, .slice none 0 0, vI 0, .bool false]) (T := 116) hH1 4 rfl (by decide) rfl rfl (fun b1 => vP b1 0) (by kernel_rfl) (fun b1 w3 hw3 => ?_)
 have hH4 : HP Tr w w3 [.cel b1 #[.slice none 0 0, .slice none 0 0, .slice none 0 0, .slice none 0 0, vI 0, .bool false] 116] := hw3.2
 have nb1 := hw3.1
 clear hw3
 refine WL.z (vI 0) 5 (WL.k hK2 (WC.seq fun K5 hK5 => WC.seq fun K6 hK6 => WC.region (WL.z (.slice p n cap) 7 ?_)))
 refine WL.c 106 #[.slice p n cap, .bool false] 8 ?_
 refine (Check_any _ _ _ c A B false _ (hIn.below (HP.below hH4)) hn).mono ?_
 rintro e w7 ⟨rfl, hb8⟩
 refine ⟨_, rfl, ?_⟩
 have hH9 := HP.call hH4 hb8
 refine WL.z (vI (chk c A B false n)) 6 (WL.k hK6 (WC.seq fun K10 hK10 => WC.region (WL.z (vI (chk c A B false n)) 9 ?_)))
 by_cases hc : chk c A B false n ≠ 0
 ·
  refine WL.y (.bool true) 10 (x_neq rfl rfl rfl (dT (hc))) (WL.k hK10 ?_)
  refine WC.yes rfl ?_
  refine WC.seq fun K11 hK11 => WC.region (WL.z (.agg #[.slice none 0 0, .slice none 0 0, .slice none 0 0, .slice none 0 0, vI 0, .bool false]) 11 (WL.z (vI (chk c A B false n)) 12 ?_))
  refine WL.storeS (H2 := [.cel b1 #[.slice none 0 0, .slice none 0 0, .slice none 0 0, .slice none 0 0, vI 0, .bool false] 116]) 0 hH9 rfl rfl rfl rfl rfl rfl sz116 rfl (Nat.le_of_ble_eq_true rfl) rfl rfl ?_
  intro w12 hH13
  refine WL.z (vI (chk c A B false n)) 5 (WL.k hK11 (WC.sb [(0, .slice p n cap), (1, vI at'), (4, vP b1 0), (5, vI (chk c A B false n)), (6, vI (chk c A B false n)), (10, .bool true)] (WC.ret ?_)))
  refine WQ.thenRet ?_
  refine WQ.retC2 4 116 5 rfl rfl rfl (HP.loadRow hH13 0 rfl Try.underlying116 rfl sz116) ?_
  exact .inl ⟨chk c A B false n, by omega, rfl, by unfold idE; rw [if_neg hc], HP.below hH13⟩
 ·
  refine WL.y (.bool false) 10 (x_neq rfl rfl rfl (dF (hc))) (WL.k hK10 ?_)
  refine WC.no rfl ?_
  refine WC.skip (WQ.then (hK5 _ _ _ (WC.seq fun K14 hK14 => WC.seq fun K15 hK15 => WC.region (WL.z (vI at') 13 ?_))))
  by_cases hlo : at' < 0
  ·
   refine WL.y (.bool true) 14 (x_lss rfl rfl rfl (dT (hlo))) (WL.z (.bool true) 15 ?_)
   refine WL.pass 16 rfl (by decide) rfl ?_
   refine WL.pass 17 rfl (by decide) rfl ?_
   refine WL.pass 18 rfl (by decide) rfl ?_
   refine WL.pass 19 rfl (by decide) rfl ?_
   refine WL.z (.bool true) 20 (WL.k hK15 (WC.sb [(0, .slice p n cap), (1, vI at'), (4, vP b1 0), (5, vI 0), (6, vI (chk c A B false n)), (10, .bool false), (20, .bool true)] ?_))
   refine WC.yes rfl ?_
   refine WC.seq fun K16 hK16 => WC.region (WL.z (.agg #[.slice none 0 0, .slice none 0 0, .slice none 0 0, .slice none 0 0, vI 0, .bool false]) 21 ?_)
   refine WL.storeS (H2 := [.cel b1 #[.slice none 0 0, .slice none 0 0, .slice none 0 0, .slice none 0 0, vI 0, .bool false] 116]) 0 hH9 rfl rfl rfl rfl rfl rfl sz116 rfl (Nat.le_of_ble_eq_true rfl) rfl rfl ?_
   intro w17 hH18
   refine WL.z (vI 1) 5 (WL.k hK16 (WC.ret ?_))
   refine WQ.thenRet ?_
   refine WQ.retC2 4 116 5 rfl rfl rfl (HP.loadRow hH18 0 rfl Try.underlying116 rfl sz116) ?_
   exact .inl ⟨1, by omega, rfl, by unfold idE; rw [if_pos (by omega), if_neg (by omega)], HP.below hH18⟩
  ·
   refine WL.y (.bool false) 14 (x_lss rfl rfl rfl (dF (hlo))) (WL.z (.bool false) 15 (WL.z (vI at') 16 (WL.z (.slice p n cap) 17 (WL.z (vI (n : Int)) 18 ?_))))
   by_cases hhi : (n : Int) ≤ at'
   ·
    refine WL.y (.bool true) 19 (x_geq rfl rfl rfl (dT (hhi))) (WL.z (.bool true) 20 (WL.k hK15 (WC.sb [(0, .slice p n cap), (1, vI at'), (4, vP b1 0), (5, vI 0), (6, vI (chk c A B false n)), (10, .bool false), (20, .bool true)] ?_)))
    refine WC.yes rfl ?_
    refine WC.seq fun K19 hK19 => WC.region (WL.z (.agg #[.slice none 0 0, .slice none 0 0, .slice none 0 0, .slice none 0 0, vI 0, .bool false]) 21 ?_)
    refine WL.storeS (H2 := [.cel b1 #[.slice none 0 0, .slice none 0 0, .slice none 0 0, .slice none 0 0, vI 0, .bool false] 116]) 0 hH9 rfl rfl rfl rfl rfl rfl sz116 rfl (Nat.le_of_ble_eq_true rfl) rfl rfl ?_
    intro w20 hH21
    refine WL.z (vI 1) 5 (WL.k hK19 (WC.ret ?_))
    refine WQ.thenRet ?_
    refine WQ.retC2 4 116 5 rfl rfl rfl (HP.loadRow hH21 0 rfl Try.underlying116 rfl sz116) ?_
    exact .inl ⟨1, by omega, rfl, by unfold idE; rw [if_pos (by omega), if_neg (by omega)], HP.below hH21⟩
   ·
    refine WL.y (.bool false) 19 (x_geq rfl rfl rfl (dF (hhi))) (WL.z (.bool false) 20 (WL.k hK15 (WC.sb [(0, .slice p n cap), (1, vI at'), (4, vP b1 0), (5, vI 0), (6, vI (chk c A B false n)), (10, .bool false), (20, .bool false)] ?_)))
    refine WC.no rfl ?_
    refine WC.skip (WQ.then (hK14 _ _ _ (WC.seq fun K22 hK22 => WC.region (WL.z (.slice p n cap) 22 ?_))))
    refine WL.c 109 #[.slice p n cap] 23 ?_
    refine (shapeH_any _ _ _ c A B _ (hIn.below (HP.below hH9)) hn).mono ?_
    rintro e w23 ⟨g0, g1, g2, g3, m, s, rfl, hb24, hok⟩
    refine ⟨_, rfl, ?_⟩
    have hH25 : HP Tr w _ [.cel b1 #[.slice none 0 0, .slice none 0 0, .slice none 0 0, .slice none 0 0, vI 0, .bool false] 116, .cel g0 (irow n s.o) 3, .cel g1 (irow n s.e) 3, .cel g2 (irow n s.d) 3, .cel g3 (irow n s.t) 3] := HP.trans hH9 hb24
    have hok0 := hok
    refine WL.storeS (H2 := [.cel b1 #[vS g0 n n, vS g1 n n, vS g2 n n, vS g3 n n, vI m, .bool (okS c n)] 116, .cel g0 (irow n s.o) 3, .cel g1 (irow n s.e) 3, .cel g2 (irow n s.d) 3, .cel g3 (irow n s.t) 3]) 0 hH25 rfl rfl rfl rfl rfl rfl sz116 rfl (Nat.le_of_ble_eq_true rfl) rfl rfl ?_
    intro w26 hH27
    refine WL.z (vI 0) 5 (WL.k hK22 (WC.ret ?_))
    refine WQ.retC2 4 116 5 rfl rfl rfl (HP.loadRow hH27 0 rfl Try.underlying116 rfl sz116) ?_
    have hq3 := chk_ok (show chk c A B false n = 0 by omega)
    obtain ⟨hs, rfl⟩ := hok0 hq3.2.2
    rw [hq3.2.2]
    exact .inr ⟨by omega, by omega, by unfold idE; rw [if_pos (by omega), if_pos (by omega)], g0, g1, g2, g3, s, rfl, hs, HP.drop hH27 0⟩
theorem Match_any (p : Option Addr) (n cap : Nat) (c A B : Nat → Int) (at' : Int) (w : World) (hIn : InC w p n c A B) (hn : n ≤ 400) (h1 : -9223372036854775808 ≤ at') (h2 : at' ≤ 9223372036854775807) :
  Calls Try.prog 75 #[.slice p n cap, vI at'] w fun e w' => e = .returned (mtc c A B n at') ∧ Below w.heap.size w w' := by
 refine calls_of Try.func75 rfl (m := 37) rfl [(0, .slice p n cap), (1, vI at')] (Fr_enter [.slice p n cap, vI at'] 37 (Nat.le_of_ble_eq_true rfl)) ?_
 have hH1 : HP Tr w w [] := HP.refl w
 refine WC.seq fun K2 hK2 => WC.region (WL.z (vI 0) 4 (WL.z (vI 0) 5 (WL.z (vI 0) 6 (WL.k hK2 (WC.seq fun K3 hK3 => WC.region (WL.z (.slice p n cap) 10 (WL.z (vI at') 11 ?_)))))))
 refine WL.c 91 #[.slice p n cap, vI at'] 12 ?_
 refine (indexed_any _ _ _ c A B at' _ (hIn.below (HP.below hH1)) hn h1 h2).mono ?_
 rintro e w1 (⟨er, her, rfl, hE, hb⟩ | ⟨hr0, hr1, hE, g0, g1, g2, g3, s, rfl, hs, hb⟩)
 ·
  refine ⟨_, rfl, ?_⟩
  have hH4 := HP.call hH1 hb
  refine WL.z (.tuple #[.agg #[.slice none 0 0, .slice none 0 0, .slice none 0 0, .slice none 0 0, vI 0, .bool false], vI er]) 9 (WL.z (.agg #[.slice none 0 0, .slice none 0 0, .slice none 0 0, .slice none 0 0, vI 0, .bool false]) 13 (WL.z (vI er) 14 ?_))
  refine WL.alloc (c := #[.slice none 0 0, .slice none 0 0, .slice none 0 0, .slice none 0 0, vI 0, .bool false]) (T := 116) hH4 7 rfl (by decide) rfl rfl (fun b5 => vP b5 0) (by kernel_rfl) (fun b5 w6 hw6 => ?_)
  have hH7 : HP Tr w w6 [.cel b5 #[.slice none 0 0, .slice none 0 0, .slice none 0 0, .slice none 0 0, vI 0, .bool false] 116] := hw6.2
  have nb5 := hw6.1
  clear hw6
  refine WL.storeS (H2 := [.cel b5 #[.slice none 0 0, .slice none 0 0, .slice none 0 0, .slice none 0 0, vI 0, .bool false] 116]) 0 hH7 rfl rfl rfl rfl rfl rfl sz116 rfl (Nat.le_of_ble_eq_true rfl) rfl rfl ?_
  intro w8 hH9
  refine WL.z (vI er) 8 (WL.k hK3 (WC.sb [(0, .slice p n cap), (1, vI at'), (4, vI 0), (5, vI 0), (6, vI 0), (7, vP b5 0), (8, vI er)] (WC.seq fun K10 hK10 => WC.block (WC.seq fun K11 hK11 => WC.region (WL.z (vI er) 16 (WL.y (.bool true) 17 (x_neq rfl rfl rfl (dT (her))) (WL.z (.bool true) 15 ?_)))))))
  refine WL.k hK11 (WC.yes rfl ?_)
  refine WC.seq fun K12 hK12 => WC.region (WL.z (vI er) 18 (WL.z (vI 0) 4 (WL.z (vI 0) 5 (WL.z (vI er) 6 (WL.k hK12 (WC.sb [(0, .slice p n cap), (1, vI at'), (4, vI 0), (5, vI 0), (6, vI er), (7, vP b5 0), (8, vI er), (15, .bool true)] (WC.ret ?_)))))))
  refine WQ.inRet ?_
  refine WQ.thenRet ?_
  refine WQ.ret3 4 5 6 rfl rfl rfl rfl ?_
  exact ⟨by rw [mtc_bad her hE], HP.below hH9⟩
 ·
  refine ⟨_, rfl, ?_⟩
  obtain ⟨k, rfl⟩ : ∃ k : Nat, at' = (k : Int) := ⟨at'.toNat, by omega⟩
  have hH13 : HP Tr w _ [.cel g0 (irow n s.o) 3, .cel g1 (irow n s.e) 3, .cel g2 (irow n s.d) 3, .cel g3 (irow n s.t) 3] := HP.trans hH1 hb
  refine WL.z (.tuple #[.agg #[vS g0 n n, vS g1 n n, vS g2 n n, vS g3 n n, vI (s.m : Int), .bool true], vI 0]) 9 (WL.z (.agg #[vS g0 n n, vS g1 n n, vS g2 n n, vS g3 n n, vI (s.m : Int), .bool true]) 13 (WL.z (vI 0) 14 ?_))
  refine WL.alloc (c := #[.slice none 0 0, .slice none 0 0, .slice none 0 0, .slice none 0 0, vI 0, .bool false]) (T := 116) hH13 7 rfl (by decide) rfl rfl (fun b14 => vP b14 0) (by kernel_rfl) (fun b14 w15 hw15 => ?_)
  have hH16 : HP Tr w w15 [.cel g0 (irow n s.o) 3, .cel g1 (irow n s.e) 3, .cel g2 (irow n s.d) 3, .cel g3 (irow n s.t) 3, .cel b14 #[.slice none 0 0, .slice none 0 0, .slice none 0 0, .slice none 0 0, vI 0, .bool false] 116] := hw15.2
  have nb14 := hw15.1
  clear hw15
  refine WL.storeS (H2 := [.cel g0 (irow n s.o) 3, .cel g1 (irow n s.e) 3, .cel g2 (irow n s.d) 3, .cel g3 (irow n s.t) 3, .cel b14 #[vS g0 n n, vS g1 n n, vS g2 n n, vS g3 n n, vI (s.m : Int), .bool true] 116]) 4 hH16 rfl rfl rfl rfl rfl rfl sz116 rfl (Nat.le_of_ble_eq_true rfl) rfl rfl ?_
  intro w17 hH18
  refine WL.z (vI 0) 8 (WL.k hK3 (WC.sb [(0, .slice p n cap), (1, vI (k : Int)), (4, vI 0), (5, vI 0), (6, vI 0), (7, vP b14 0), (8, vI 0)] (WC.seq fun K19 hK19 => WC.block (WC.seq fun K20 hK20 => WC.region (WL.z (vI 0) 16 (WL.y (.bool false) 17 (x_neq rfl rfl rfl (by decide)) (WL.z (.bool false) 15 ?_)))))))
  refine WL.k hK20 (WC.no rfl ?_)
  refine WC.seq fun K21 hK21 => ?_
  obtain ⟨bb, oo, rfl, hrow⟩ := hIn (by omega)
  refine WC.region (WL.z (.slice (some ⟨bb, oo, none⟩) n cap) 20 (WL.z (vI (k : Int)) 21 (WL.y (vP bb (oo + k * 3)) 22 (x_ix (k) (oo + k * 3) Try.underlying42 sz75) (WL.z (vP bb (oo + k * 3)) 23 (WL.y (vI (c k)) 24 (x_load rfl rfl Try.underlying3 rfl ((HP.oldRange hH18 trivial (hrow k (by omega))) 0 _ rfl)) ?_)))))
  refine WL.c 74 #[vI (c k)] 25 ?_
  refine (Opens_any _ _).mono ?_
  rintro e w22 ⟨rfl, rfl⟩
  refine ⟨_, rfl, ?_⟩
  refine WL.z (.bool (!(opn (c k)))) 26 (WL.z (.bool (!(opn (c k)))) 19 (WL.k hK21 (WC.sb [(0, .slice (some ⟨bb, oo, none⟩) n cap), (1, vI (k : Int)), (4, vI 0), (5, vI 0), (6, vI 0), (7, vP b14 0), (8, vI 0), (15, .bool false), (19, .bool (!(opn (c k))))] ?_)))
  rcases Bool.eq_false_or_eq_true (opn (c k)) with hO | hO
  ·
   refine WC.no (congrArg (fun b => some (Value.bool (!b))) hO) ?_
   refine WC.skip (WQ.inNormal (WQ.then (hK19 _ _ _ (WC.seq fun K23 hK23 => ?_))))
   refine WC.still (by kernel_rfl) (by kernel_rfl) ?_
   have hH24 := HP.drew hH18
   refine WS.z (vP b14 1) 27 (WS.y (vS g1 n n) 28 (x_load rfl rfl Try.underlying33 rfl (HP.cell hH24 4 rfl rfl)) (WS.z (vI (k : Int)) 29 (WS.y (vP g1 k) 30 (x_ix (k) (k) Try.underlying33 sz3) (WS.y (vI (s.e k)) 31 (x_load rfl rfl Try.underlying3 rfl (HP.cell hH24 1 rfl (irow_get (by omega) rfl))) (WS.z (vP b14 2) 32 (WS.y (vS g2 n n) 33 (x_load rfl rfl Try.underlying33 rfl (HP.cell hH24 4 rfl rfl)) (WS.z (vI (k : Int)) 34 (WS.y (vP g2 k) 35 (x_ix (k) (k) Try.underlying33 sz3) (WS.y (vI (s.d k)) 36 (x_load rfl rfl Try.underlying3 rfl (HP.cell hH24 2 rfl (irow_get (by omega) rfl))) (WS.z (vI (s.e k)) 4 (WS.z (vI (s.d k)) 5 ?_)))))))))))
   refine WS.z (vI 0) 6 (WS.nilQ (WQ.then (hK23 _ _ _ (WC.sb [(0, .slice (some ⟨bb, oo, none⟩) n cap), (1, vI (k : Int)), (4, vI (s.e k)), (5, vI (s.d k)), (6, vI 0), (7, vP b14 0), (8, vI 0), (15, .bool false), (19, .bool (!(opn (c k))))] (WC.ret ?_)))))
   refine WQ.ret3 4 5 6 rfl rfl rfl rfl ?_
   exact ⟨by rw [mtc_ok hE hO hs], HP.below hH24⟩
  ·
   refine WC.yes (congrArg (fun b => some (Value.bool (!b))) hO) ?_
   refine WC.seq fun K25 hK25 => WC.region (WL.z (vI 0) 4 (WL.z (vI 0) 5 (WL.z (vI 3) 6 (WL.k hK25 (WC.ret ?_)))))
   refine WQ.inRet ?_
   refine WQ.thenRet ?_
   refine WQ.ret3 4 5 6 rfl rfl rfl rfl ?_
   exact ⟨by rw [mtc_none hE hO], HP.below hH18⟩
end Ec
end Go.Proofs.Ytmjnakhpekbenaa
namespace Go.Proofs.Ytmjnakhpekbenaa
namespace Ec
theorem okS_fail {c : Nat → Int} {n : Nat} (h : ∀ s', shp c n = some s' → s'.l ≠ []) : okS c n = false := by
  cases hs : shp c n with
  | none => unfold okS; rw [hs]
  | some s => exact okS_no hs (fun q => h s hs (List.length_eq_zero_iff.1 q.1))
theorem PR_fail1 {c : Nat → Int} {n nx : Nat} {d : Int} (h : PR c n 0 nx d) (hd : d < 0) : okS c n = false := by
  rcases h with ⟨_, _, h⟩ | ⟨h, _⟩
  · exact okS_fail (h _ rfl)
  · omega
theorem PR_state {c : Nat → Int} {n nx : Nat} {d : Int} (h : PR c n 0 nx d) (hd : ¬ d < 0) : ∃ s, shp c nx = some s ∧ s.l = [] ∧ (s.m : Int) = d := by
  rcases h with ⟨_, _, h⟩ | ⟨h, h1, h2, h3, h4⟩
  · omega
  · obtain ⟨s', g1, g2, g3, _⟩ := h4 ⟨[], fun _ => 0, fun _ => 0, fun _ => 0, fun _ => 0, 0⟩ rfl
    exact ⟨s', g1, g2, by rw [g3]; simp; omega⟩
theorem PR_fail2 {c : Nat → Int} {n nx : Nat} {d : Int} (h : PR c n 0 nx d) (hd : ¬ d < 0) (hn : (nx : Int) < n) : okS c n = false := by
  obtain ⟨s, h1, h2, _⟩ := PR_state h hd
  rcases h with ⟨_, _, h⟩ | ⟨_, _, _, h3, _⟩
  · omega
  · have hc := h3 (by omega)
    exact shp_bad h1 (stp_none_nil (opn_no.2 (by omega)) hc (by rw [h2]; rfl)) (by omega)
theorem PR_n {c : Nat → Int} {n nx : Nat} {d : Int} (h : PR c n 0 nx d) (hd : ¬ d < 0) (hn : ¬ (nx : Int) < n) : nx = n := by
  rcases h with ⟨_, _, h⟩ | ⟨_, _, _, h3, _⟩ <;> omega
theorem PR_deep {c : Nat → Int} {n nx : Nat} {d : Int} (h : PR c n 0 nx d) (hd : ¬ d < 0) (hn : ¬ (nx : Int) < n) (h6 : 6 < d) : okS c n = false := by
  obtain ⟨s, h1, h2, h3⟩ := PR_state h hd
  rw [PR_n h hd hn] at h1
  exact okS_no h1 (fun q => by omega)
theorem PR_good {c : Nat → Int} {n nx : Nat} {d : Int} (h : PR c n 0 nx d) (hd : ¬ d < 0) (hn : ¬ (nx : Int) < n) (h6 : ¬ 6 < d) : okS c n = true := by
  obtain ⟨s, h1, h2, h3⟩ := PR_state h hd
  rw [PR_n h hd hn] at h1
  exact okS_yes h1 (by rw [h2]; rfl) (by omega)
structure Bal (c : Nat → Int) (n : Nat) (s : Sh) : Prop where
  hs : shp c n = some s
  hl : s.l = []
  hm : s.m ≤ 6
theorem okS_bal {c : Nat → Int} {n : Nat} (h : okS c n = true) : Bal c n (shD c n) := by
  unfold okS at h
  cases hs : shp c n with
  | none => rw [hs] at h; cases h
  | some s =>
    rw [hs] at h
    simp only [Bool.and_eq_true, List.isEmpty_iff, decide_eq_true_eq] at h
    have e : shD c n = s := by unfold shD; rw [hs]; rfl
    rw [e]; exact ⟨hs, h.1, h.2⟩
section
variable {c : Nat → Int} {n : Nat} {s : Sh}
theorem bra_final (B : Bal c n s) {k e : Nat} {a d : Int} (hk : k < n) (h : BR c n k a e d) : a = s.e k ∧ (e : Int) = s.d k ∧ e < n := by
  obtain ⟨sk, hsk⟩ := shp_back B.hs (Nat.le_of_lt hk)
  rcases h with ⟨_, _, _, h⟩ | ⟨h1, h2, h3, h4⟩
  · exact absurd B.hl (h sk hsk s B.hs)
  · obtain ⟨s', g1, g2, g3, g4, g5, g6⟩ := h4 sk hsk
    have F := frz_at g1 B.hs (show e + 1 ≤ n by omega)
    have hkl : k ∉ s'.l := by rw [g2]; exact fun q => by have := (inv_of k sk hsk).lt k q; omega
    have q := F.out k (by omega) hkl
    exact ⟨by rw [q.2.1, g4], by rw [q.2.2, g5], h3⟩
theorem o_eq (B : Bal c n s) {k : Nat} {sk : Sh} (hk : k < n) (hsk : shp c k = some sk) : s.o k = top sk.l := by
  obtain ⟨s1, h1⟩ := shp_back B.hs (show k + 1 ≤ n by omega)
  obtain ⟨s2, h2, h3⟩ := shp_succ h1
  rw [hsk] at h2; cases h2
  rw [((frz_at h1 B.hs (show k + 1 ≤ n by omega)).o k (by omega)).1]
  rcases stp_inv h3 with ⟨_, rfl⟩ | ⟨_, _, _, rfl⟩ | ⟨_, r, x, _, _, _, rfl⟩ | ⟨_, r, x, _, _, rfl⟩ <;> exact upI_same _ _ _
theorem mem_stack (B : Bal c n s) {k : Nat} {sk : Sh} (hk : k ≤ n) (hsk : shp c k = some sk) (x : Nat) : x ∈ sk.l ↔ (x < k ∧ opn (c x) = true ∧ (k : Int) ≤ s.d x) := by
  have I := inv_of k sk hsk
  have F := frz_at hsk B.hs hk
  constructor
  · intro hx
    refine ⟨I.lt x hx, I.op x hx, ?_⟩
    rcases F.ins x hx with ⟨q, _⟩ | ⟨_, q⟩
    · rw [B.hl] at q; simp at q
    · exact q
  · rintro ⟨h1, h2, h3⟩
    refine Classical.byContradiction fun hx => ?_
    have q := (F.out x h1 hx).2.2
    rcases I.d x h1 with ⟨_, r | r⟩ | ⟨_, r, _⟩
    · exact hx r
    · rw [h2] at r; cases r
    · omega
theorem opener_none (B : Bal c n s) {k : Nat} (hk : k < n) (h : ∀ x, x < k → opn (c x) = true → s.d x < k) : s.o k = -1 := by
  obtain ⟨sk, hsk⟩ := shp_back B.hs (Nat.le_of_lt hk)
  rw [o_eq B hk hsk]
  have : sk.l = [] := List.eq_nil_iff_forall_not_mem.2 fun x hx => by
    have q := (mem_stack B (Nat.le_of_lt hk) hsk x).1 hx
    have := h x q.1 q.2.1
    omega
  rw [this]; rfl
theorem opener_some (B : Bal c n s) {k i : Nat} (hk : k < n) (hi : i < k) (ho : opn (c i) = true) (hd : (k : Int) ≤ s.d i) (h : ∀ x, i < x → x < k → opn (c x) = true → s.d x < k) : s.o k = (i : Int) := by
  obtain ⟨sk, hsk⟩ := shp_back B.hs (Nat.le_of_lt hk)
  rw [o_eq B hk hsk]
  have hil := (mem_stack B (Nat.le_of_lt hk) hsk i).2 ⟨hi, ho, hd⟩
  rcases List.eq_nil_or_concat sk.l with e | ⟨r, x, e⟩
  · rw [e] at hil; simp at hil
  · rw [List.concat_eq_append] at e
    have inc := (inv_of k sk hsk).inc
    rw [e] at inc hil
    have hx := (mem_stack B (Nat.le_of_lt hk) hsk x).1 (by rw [e]; simp)
    rw [e, top_app]
    rcases List.mem_append.1 hil with q | q
    · have h1 := (List.pairwise_append.1 inc).2.2 i q x (by simp)
      have := h x h1 hx.1 hx.2.1
      omega
    · simp at q; rw [q]
theorem d_range (B : Bal c n s) {k : Nat} (hk : k < n) (ho : opn (c k) = true) : (k : Int) < s.d k ∧ s.d k < n ∧ c (s.d k).toNat = 35 := by
  rcases (inv_of n s B.hs).d k hk with ⟨_, q | q⟩ | ⟨q1, q2, q3, _⟩
  · rw [B.hl] at q; simp at q
  · rw [ho] at q; cases q
  · exact ⟨q1, q2, q3⟩
theorem pre_stack {k : Nat} {sk : Sh} (hsk : shp c k = some sk) (ho : opn (c k) = true) : ∀ (i : Nat) (sj : Sh), shp c (k + 1 + i) = some sj → k ∈ sj.l → ∃ r, sj.l = (sk.l ++ [k]) ++ r
  | 0, sj, h, hk => by
    have h1 := shp_open hsk ho
    have h' : shp c (k + 1) = some sj := h
    rw [h1] at h'; cases h'
    exact ⟨[], by simp [oped]⟩
  | i + 1, sj, h, hk => by
    obtain ⟨s1, h1, h2⟩ := shp_succ (k := k + 1 + i) h
    have I := inv_of _ _ h1
    rcases stp_inv h2 with ⟨_, rfl⟩ | ⟨_, _, _, rfl⟩ | ⟨_, r, x, _, _, _, rfl⟩ | ⟨_, r, x, hl, _, rfl⟩
    · have hk' : k ∈ s1.l := by
        rcases List.mem_append.1 hk with q | q
        · exact q
        · simp at q; omega
      obtain ⟨r, hr⟩ := pre_stack hsk ho i s1 h1 hk'
      exact ⟨r ++ [k + 1 + i], by show s1.l ++ _ = _; rw [hr]; simp⟩
    · exact pre_stack hsk ho i s1 h1 hk
    · exact pre_stack hsk ho i s1 h1 hk
    · have hkr : k ∈ r := hk
      obtain ⟨r2, hr⟩ := pre_stack hsk ho i s1 h1 (by rw [hl]; exact List.mem_append_left _ hkr)
      have inc := I.inc
      rw [hl] at hr inc
      rcases List.eq_nil_or_concat r2 with e | ⟨r3, y, e⟩
      · rw [e, List.append_nil] at hr
        have := List.append_inj_right' hr rfl
        simp at this
        have := (List.pairwise_append.1 inc).2.2 k hkr x (by simp)
        omega
      · rw [List.concat_eq_append] at e
        rw [e, ← List.append_assoc] at hr
        exact ⟨r3, List.append_inj_left' hr rfl⟩
end
end Ec
end Go.Proofs.Ytmjnakhpekbenaa
namespace Go.Proofs.Ytmjnakhpekbenaa
open Go.RowKit
namespace Fw
section
variable {P : Program} {ρ : Operand → Value} {o : Oper} {ops : Array Oper} {Q : Exit → Act → World → Prop} {rest : List Oper} {n : Nat} {l : List (Nat × Value)} {w w0 : World} {S : Nat → Prop} {H H2 : List Ent}
theorem x_neqA {t u : TypeId} {x y : Operand} {xs ys : Array Value} {b b' : Bool} (ho : o.op = .binOp .neq t x y u) (hx : ρ x = .agg xs) (hy : ρ y = .agg ys) (hm : P.eqGuardType P.depth t = false) (he : (Op.equalIn 10000 t (.agg xs) (.agg ys)).run P w = .ok b w) (hb : (!b) = b') :
    (execOp ρ o).run P w = .ok (.value (.bool b')) w := by
  unfold execOp; rw [ho]; simp [hx, hy, run_eqGuard_agg _ _ _ _ _ _ _ hm, run_neq_struct, he, hb]
theorem HP.setSame (h : HP S w0 w H) (i : Nat) {e e' : Ent} (hi : H[i]? = some e) (hold : e'.holds w) (hb : e'.blk = e.blk) : HP S w0 w (H.set i e') :=
  h.change i hi rfl rfl rfl (Nat.le_refl _) (fun _ _ _ => rfl) hold (fun b q => .inl (by rw [← hb]; exact q))
theorem WL.appendSrc {o : Oper} {t e : TypeId} {inf : TypeInfo} {z : Value} {sz by' : Nat} {x y : Operand} {v : Value} {k m : Nat} {xs : List Value} (news : List Value) {p : Option Addr} {cp : Nat} (i : Nat) (hH : HP S w0 w H) (d : Nat) (hd : o.dst = some d) (hn : d < n) (hw : wants ops l o = some true)
    (ho : o.op = .call { callee := .builtin .append, args := #[x, y], argTypes := #[t, t] }) (hx : ev l x = some v) (hy : ev l y = some (.slice p m cp))
    (ht : P.underlying t = some (.slice e)) (hi' : P.info? e = some inf) (hz : inf.zero = some z) (hsz : inf.size = sz) (hby : inf.bytes = by') (hzs : z.cells.size = sz) (h0 : 0 < sz)
    (hi : H[i]? = some (.own v k xs e sz)) (hsrc : (∃ a, p = some a ∧ ∀ q u, news[q]? = some u → w.cell? (a.add q) = some u) ∨ (p = none ∧ m = 0 ∧ cp = 0)) (hl : news.length = m * sz) (h1 : ∀ u ∈ news, u.oneCell' = true) (h63 : k + m ≤ maxLen) (hb : (k + m) * by' ≤ 140737488355328)
    (h : ∀ v' w2, (v' = .slice none 0 0 ↔ v = .slice none 0 0 ∧ m = 0) → HP S w0 w2 (H.set i (.own v' (k + m) (xs ++ news) e sz)) → WL P ops Q rest n ((d, v') :: l) w2) : WL P ops Q (o :: rest) n l w := by
  intro a ha
  refine wpList_step fun K hK => ?_
  rw [if_pos (wants_spec ha hw)]
  unfold Oper.wp
  rcases hsrc with ⟨ad, rfl, hc⟩ | ⟨rfl, rfl, rfl⟩
  · obtain ⟨v', w2, hr, g1, g2, g3, g4⟩ := append_ent (P := P) w t o.type e inf z sz by' ht hi' hz hsz hby hzs h0 v k xs (hH.get i hi) ad m cp news hl hc h1 h63 hb
    rw [x_append (P := P) ho (ha.ev hx) (ha.ev hy) hr, Oper.upon_value, hd]
    refine hK _ _ (h v' w2 g3 ?_ _ (ha.put hn v'))
    exact hH.change i hi g2.os g2.tape g2.output g2.size (fun q hq hne => g2.block q hq fun e => hne e.symm) ⟨g1.1, g1.2⟩ g4
  · have hnil : news = [] := List.length_eq_zero_iff.1 (by rw [hl]; simp)
    subst hnil
    have hr := run_append_owned_none (P := P) (w := w) 0 t o.type e inf sz ht hi' v k xs (hH.get i hi)
    rw [x_append (P := P) ho (ha.ev hx) (ha.ev hy) hr, Oper.upon_value, hd]
    refine hK _ _ (h v w (by simp) ?_ _ (ha.put hn v))
    exact hH.setSame i hi (by have q := hH.get i hi; simpa using q) rfl
theorem HP.ownNil (h : HP S w0 w H) (e s : Nat) : HP S w0 w (H ++ [.own (.slice none 0 0) 0 [] e s]) := by
  refine ⟨h.os, h.tape, h.output, h.size, h.keep, ?_, ?_, ?_⟩
  · intro x hx
    rcases List.mem_append.1 hx with hx | hx
    · exact h.hold x hx
    · simp at hx; subst hx; exact World.ownsRow_nil _ _ _ _
  · intro x hx b hb'
    rcases List.mem_append.1 hx with hx | hx
    · exact h.fresh x hx b hb'
    · simp at hx; subst hx; simp [Ent.blk, Value.ownBlock] at hb'
  · refine List.pairwise_append.2 ⟨h.apart, by simp, fun x hx y hy b hb1 hb2 => ?_⟩
    simp at hy; subst hy; simp [Ent.blk, Value.ownBlock] at hb2
end
end Fw
end Go.Proofs.Ytmjnakhpekbenaa
namespace Go.Proofs.Ytmjnakhpekbenaa
open Go.RowKit Fw
namespace Fw
def InI (w : World) (p : Option Addr) (xs : List Int) : Prop := 0 < xs.length → ∃ g o, p = some ⟨g, o, none⟩ ∧ ∀ i, i < xs.length → w.rangeAt g (o + i) [vI (xs.getD i 0)]
theorem InI.below {w w' : World} {p : Option Addr} {xs : List Int} (h : InI w p xs) (hb : Below w.heap.size w w') : InI w' p xs := fun h0 => by
  obtain ⟨g, o, hp, hr⟩ := h h0
  exact ⟨g, o, hp, fun i hi => HP.oldRange (HP.of_below (S := Tr) hb) trivial (hr i hi)⟩
def Wi (x : Int) : Prop := -9223372036854775808 ≤ x ∧ x ≤ 9223372036854775807
theorem wi_of {x : Int} (h : (Lit.int .i64 x).wf = true) : Wi x := by
  simp only [Lit.wf, Bool.and_eq_true, decide_eq_true_eq] at h
  rw [show IntKind.i64.min = -9223372036854775808 from by decide, show IntKind.i64.max = 9223372036854775807 from by decide] at h
  exact h
end Fw
end Go.Proofs.Ytmjnakhpekbenaa
namespace Go.Proofs.Ytmjnakhpekbenaa
open Go.RowKit
namespace Fw
section
variable {P : Program} {ρ : Operand → Value} {o : Oper} {ops : Array Oper} {Q : Exit → Act → World → Prop} {rest : List Oper} {n : Nat} {l : List (Nat × Value)} {w w' w0 : World} {S : Nat → Prop} {H H2 : List Ent}
theorem HP.celToOwn (h : HP S w0 w H) (i : Nat) {g e s cap k : Nat} {cur : Array Value} (hi : H[i]? = some (.cel g cur e)) (hk : k ≤ cap) (hm : cap ≤ maxLen) (hs : cur.size = cap * s) :
    HP S w0 w (H.set i (.own (.slice (some ⟨g, 0, none⟩) k cap) k (cur.toList.take (k * s)) e s)) :=
  h.setSame i hi ⟨by
    have : k * s ≤ cap * s := Nat.mul_le_mul_right _ hk
    simp; omega, .inr ⟨g, cap, cur, rfl, Nat.zero_le _, h.get i hi, hk, hm, hs, rfl⟩⟩ rfl
theorem WL.clear {o : Oper} {t e : TypeId} {inf : TypeInfo} {z : Value} {sz : Nat} {x : Operand} {g off m cp : Nat} {c : Array Value} (i : Nat) (hH : HP S w0 w H) (hd : o.dst = none) (hw : wants ops l o = some true)
    (ho : o.op = .call { callee := .builtin .clear, args := #[x], argTypes := #[t] }) (hx : ev l x = some (.slice (some ⟨g, off, none⟩) m cp))
    (ht : P.underlying t = some (.slice e)) (hi' : P.info? e = some inf) (hz : inf.zero = some z) (hzs : z.cells.size = sz) (h1 : ∀ u ∈ z.cells.toList, u.oneCell' = true) (hi : H[i]? = some (.cel g c e)) (hfit : off + m * sz ≤ c.size)
    (h : ∀ (c' : Array Value) w2, c'.size = c.size → c'.toList.take off = c.toList.take off → HP S w0 w2 (H.set i (.cel g c' e)) → WL P ops Q rest n l w2) : WL P ops Q (o :: rest) n l w := by
  intro a ha
  refine wpList_step fun K hK => ?_
  rw [if_pos (wants_spec ha hw)]
  unfold Oper.wp
  have hzv : ∀ w, (zeroValue e).run P w = .ok z w := fun w => by simp [zeroValue, typeInfo, hi', hz]
  cases m with
  | zero =>
    have hr : (execOp a.eval o).run P w = .ok (.value (.tuple #[])) w := by
      unfold execOp; rw [ho]; simp [resolve, invoke, builtin, ha.ev hx, Builtin.clear_, run_underlying ht]
    rw [hr, Oper.upon_value, hd]
    refine hK _ _ (h c w rfl rfl ?_ _ ha)
    exact hH.setSame i hi (hH.get i hi) rfl
  | succ m =>
    have hzl : (Builtin.zeroCells z.cells (m + 1)).toList.length = (m + 1) * sz := by rw [← hzs]; simp [Builtin.zeroCells]
    have hst := run_storeCells_at P g off e (Builtin.zeroCells z.cells (m + 1)).toList 0 c w (hH.get i hi) (by rw [hzl]; simpa using hfit) (by
      intro v hv
      obtain ⟨j, hj, rfl⟩ : ∃ j, j < (m + 1) * z.cells.size ∧ z.cells[j % z.cells.size]! = v := by simpa [Builtin.zeroCells] using hv
      have h0 : 0 < z.cells.size := by
        rcases Nat.eq_zero_or_pos z.cells.size with q | q
        · rw [q] at hj; omega
        · exact q
      rw [getElem!_pos z.cells _ (Nat.mod_lt j h0)]
      exact h1 _ (by simp))
    simp only [Nat.add_zero] at hst
    have hr : (execOp a.eval o).run P w = .ok (.value (.tuple #[])) (w.setRow g (c.toList.take off ++ (Builtin.zeroCells z.cells (m + 1)).toList ++ c.toList.drop (off + (Builtin.zeroCells z.cells (m + 1)).toList.length)).toArray) := by
      unfold execOp; rw [ho]; simp [resolve, invoke, builtin, ha.ev hx, Builtin.clear_, run_underlying ht, hzv, hst]
    obtain ⟨X, hX⟩ : ∃ X : Array Value, X = (c.toList.take off ++ (Builtin.zeroCells z.cells (m + 1)).toList ++ c.toList.drop (off + (Builtin.zeroCells z.cells (m + 1)).toList.length)).toArray := ⟨_, rfl⟩
    rw [← hX] at hr
    rw [hr, Oper.upon_value, hd]
    refine hK _ _ (h X _ ?_ ?_ ?_ _ ha)
    · have hzl2 : (Builtin.zeroCells z.cells (m + 1)).size = (m + 1) * sz := by rw [← Array.length_toList]; exact hzl
      rw [hX]; simp only [List.size_toArray, List.length_append, List.length_take, List.length_drop, Array.length_toList]; omega
    · rw [hX, List.append_assoc, List.take_append_of_le_length (by simp; omega), List.take_take]; simp
    · exact hH.change i hi rfl rfl rfl (by simp) (fun k hk hne => setRow_other w g k _ (fun e => hne (by rw [e]; rfl))) (setRow_heap w g c _ e (0, 0) (hH.get i hi)) (fun b hb => .inl hb)
end
end Fw
end Go.Proofs.Ytmjnakhpekbenaa
namespace Go.Proofs.Ytmjnakhpekbenaa
open Go.RowKit
namespace Fw
section
variable {S : Nat → Prop} {w0 w w' : World} {H A B B' : List Ent}
def OwnB (w : World) (B : List Ent) : Prop := (∀ e, e ∈ B → e.holds w) ∧ B.Pairwise Apart
abbrev Out (B : List Ent) : Nat → Prop := fun b => ∀ e, e ∈ B → e.blk ≠ some b
theorem HP.startB (h : OwnB w B) : HP (Out B) w w B :=
  ⟨rfl, rfl, rfl, Nat.le_refl _, fun _ _ _ => rfl, h.1, fun x hx b hb _ hn => hn x hx hb, h.2⟩
theorem HP.ownB (h : HP S w0 w (A ++ B)) : OwnB w B := ⟨fun e he => h.hold e (List.mem_append_right _ he), (List.pairwise_append.1 h.apart).2.1⟩
theorem HP.exch (h : HP S w0 w (A ++ B)) (h2 : HP (Out B) w w' B') : HP S w0 w' (A ++ B') := by
  have hp := List.pairwise_append.1 h.apart
  have old : ∀ b, b < w.heap.size → ∀ e', e' ∈ B' → e'.blk = some b → ∃ e, e ∈ B ∧ e.blk = some b := fun b hb e' he' hb' => by
    refine Classical.byContradiction fun hn => h2.fresh e' he' b hb' hb fun e he q => hn ⟨e, he, q⟩
  refine ⟨h2.os.trans h.os, h2.tape.trans h.tape, h2.output.trans h.output, Nat.le_trans h.size h2.size, ?_, ?_, ?_, ?_⟩
  · intro k hk hS
    refine (h2.keep k (Nat.lt_of_lt_of_le hk h.size) fun e he q => h.fresh e (List.mem_append_right _ he) k q hk hS).trans (h.keep k hk hS)
  · intro e he
    rcases List.mem_append.1 he with he | he
    · refine Ent.keep (h.hold e (List.mem_append_left _ he)) fun b hb => h2.keep b (Ent.lt (h.hold e (List.mem_append_left _ he)) hb) fun x hx q => hp.2.2 e he x hx b hb q
    · exact h2.hold e he
  · intro e he b hb hlt
    rcases List.mem_append.1 he with he | he
    · exact h.fresh e (List.mem_append_left _ he) b hb hlt
    · obtain ⟨x, hx, q⟩ := old b (Nat.lt_of_lt_of_le hlt h.size) e he hb
      exact h.fresh x (List.mem_append_right _ hx) b q hlt
  · refine List.pairwise_append.2 ⟨hp.1, h2.apart, fun x hx y hy b hb1 hb2 => ?_⟩
    by_cases hlt : b < w.heap.size
    · obtain ⟨z, hz, q⟩ := old b hlt y hy hb2
      exact hp.2.2 x hx z hz b hb1 q
    · exact hlt (Ent.lt (h.hold x (List.mem_append_left _ hx)) hb1)
theorem HP.flip (h : HP S w0 w (A ++ B)) : HP S w0 w (B ++ A) := h.perm List.perm_append_comm
theorem HP.exchF {S : Nat → Prop} {w0 w w' : World} {A A' B : List Ent} (h : HP S w0 w (A ++ B)) (h2 : HP (Out A) w w' A') : HP S w0 w' (A' ++ B) := (h.flip.exch h2).flip
theorem HP.exchM {S : Nat → Prop} {w0 w w' : World} {A R R' C : List Ent} (h : HP S w0 w (A ++ (R ++ C))) (h2 : HP (Out R) w w' R') : HP S w0 w' (A ++ (R' ++ C)) := by
  have h3 : HP S w0 w (R ++ (C ++ A)) := by have q := h.flip; rwa [List.append_assoc] at q
  have h4 := h3.exchF h2
  rw [← List.append_assoc] at h4
  exact h4.flip
theorem HP.ownF {S : Nat → Prop} {w0 w : World} {A B : List Ent} (h : HP S w0 w (A ++ B)) : OwnB w A := HP.ownB h.flip
theorem HP.ownM {S : Nat → Prop} {w0 w : World} {A R C : List Ent} (h : HP S w0 w (A ++ (R ++ C))) : OwnB w R := by
  have h3 : HP S w0 w (R ++ (C ++ A)) := by have q := h.flip; rwa [List.append_assoc] at q
  exact h3.ownF
end
end Fw
end Go.Proofs.Ytmjnakhpekbenaa
namespace Go.Proofs.Ytmjnakhpekbenaa
open Go.RowKit
namespace Fw
section
variable {P : Program} {ops : Array Oper} {Q : Exit → Act → World → Prop} {n : Nat} {l l0 : List (Nat × Value)} {w w0 : World}
def freeH (ls : List Oper) (l0 : List (Nat × Value)) : Bool := l0.all fun p => ls.zipIdx.all fun q => match q.1.dst with
  | some d => !Nat.beq d p.1 || (List.range ls.length).all fun i => Nat.beq i q.2 || q.1.after.any fun e => Region.binds .any e && Nat.beq e.on i
  | none => true
theorem look_append2 {l l' : List (Nat × Value)} {t : Nat} {v : Value} (h : look (l ++ l') t = some v) : (t, v) ∈ l ∨ (look l' t = some v ∧ ∀ u, (t, u) ∉ l) := by
  induction l with
  | nil => exact .inr ⟨h, fun u hu => by cases hu⟩
  | cons p r ih =>
    obtain ⟨s, u⟩ := p
    have h' : look ((s, u) :: (r ++ l')) t = some v := h
    by_cases e : s = t
    · subst e; rw [look_cons_eq] at h'; cases h'; exact .inl (by simp)
    · rw [look_cons_ne e] at h'
      rcases ih h' with q | ⟨q, q2⟩
      · exact .inl (by simp [q])
      · refine .inr ⟨q, fun x hx => ?_⟩
        rcases List.mem_cons.1 hx with hx | hx
        · cases hx; exact e rfl
        · exact q2 x hx
theorem WC.confH {γ : Type} {id : Nat} {ls : List Oper} (l0 : List (Nat × Value)) (vs : γ → List Value) (WI : γ → (Nat → Bool) → World → Prop) (g0 : γ) (hm : P.follows .mixedOrders = true)
    (hsub : Sub l0 l) (hb : backB ls = true) (hd : distB ls = true) (hf : freeH ls l0 = true) (hlen : ∀ g, (vs g).length = ls.length) (hn : (ls.all fun o => match o.dst with | some d => Nat.blt d n | none => true) = true)
    (h0 : WI g0 (fun _ => false) w.drew) (hops : AllOk P ls.toArray l0 vs WI 0 ls)
    (hend : ∀ g D w2, (∀ i, Nat.blt i ls.length = true → D i = true) → WI g D w2 → WQ Q .normal n (allEnv ls (vs g) ++ l0) w2) : WC P (.region id ls.toArray true) Q n l w := by
  intro a ha
  refine wp_region_any hm ?_
  have hdst : ∀ (i j : Nat) (o o' : Oper) (d : Nat), ls[i]? = some o → ls[j]? = some o' → o.dst = some d → o'.dst = some d → i = j := fun i j o o' d h1 h2 h3 h4 => by
    rcases Nat.lt_trichotomy i j with q | q | q
    · exact absurd h4 (distB_spec hd i j o o' d q h1 h2 h3)
    · exact q
    · exact absurd h3 (distB_spec hd j i o' o d q h2 h1 h4)
  have hfree : ∀ (j : Nat) (o : Oper) (t : Nat) (v : Value), ls[j]? = some o → o.dst = some t → look l0 t = some v → ∀ i, i < ls.length → i = j ∨ ∃ e ∈ o.after, Region.binds .any e = true ∧ e.on = i := fun j o t v h1 h2 h3 => by
    have q := List.all_eq_true.1 (List.all_eq_true.1 hf (t, v) (look_mem h3)) (o, j) (by rw [List.mem_zipIdx_iff_getElem?]; simpa using h1)
    simp only [h2] at q
    rw [show Nat.beq t t = true from Nat.beq_refl t] at q
    intro i hi
    simp at q
    rcases q i hi with q3 | ⟨k, hk, q4, q5⟩
    · exact .inl q3
    · exact .inr ⟨o.after[k], Array.getElem_mem hk, q4, q5⟩
  have hnn : ∀ (i : Nat) (o : Oper) (d : Nat), ls[i]? = some o → o.dst = some d → d < n := fun i o d h1 h2 => by
    have q := List.all_eq_true.1 hn o (List.mem_of_getElem? h1)
    rw [h2] at q
    exact Nat.le_of_ble_eq_true q
  let I : (Nat → Bool) → Act → World → Prop := fun D a w => ∃ g, a.tmps.size = n ∧ a.defers = [] ∧
    (∀ (j : Nat) (o : Oper) (d : Nat), ls[j]? = some o → D j = true → o.dst = some d → a.tmps[d]? = some (((vs g)[j]?).getD undef)) ∧ (∀ t v, look l0 t = some v → (∀ (j : Nat) (o : Oper), ls[j]? = some o → o.dst = some t → D j = false) → a.tmps[t]? = some v) ∧ Clo ls.toArray D ∧ WI g D w
  refine any_inv (ops := ls.toArray) I ?_ ?_ ?_ _ _ a _ (by simp) (by
    refine Nat.le_trans (List.length_filter_le _ _) ?_
    simp) ?_
  · intro i o ho e he hbe
    have hm' : (o, i) ∈ ls.zipIdx := by
      rw [List.mem_zipIdx_iff_getElem?]; simpa using ho
    have q := List.all_eq_true.1 (List.all_eq_true.1 hb (o, i) hm') e (by simpa using he)
    rw [hbe] at q
    simpa using q
  · rintro D a w i o ⟨g, i1, i2, i3, i4, i6, i5⟩ ho hDi hdep
    have ho' : ls[i]? = some o := by simpa using ho
    have hfr : Fr n (depEnv ls.toArray (vs g) o ++ l0) a := by
      refine ⟨i1, i2, fun t v ht => ?_⟩
      rcases look_append ht with q | q
      · obtain ⟨e, he, heq⟩ := List.mem_filterMap.1 q
        cases hbe : Region.binds .any e with
        | false => rw [hbe] at heq; cases heq
        | true =>
          rw [hbe] at heq
          simp only [] at heq
          cases hoe : ls.toArray[e.on]? with
          | none => rw [hoe] at heq; cases heq
          | some oe =>
            rw [hoe] at heq
            simp only [Option.bind_some] at heq
            cases hde : oe.dst with
            | none => rw [hde] at heq; cases heq
            | some d =>
              rw [hde] at heq
              simp only [Option.map_some, Option.some.injEq, Prod.mk.injEq] at heq
              obtain ⟨rfl, rfl⟩ := heq
              exact i3 e.on oe d (by simpa using hoe) (hdep e (by simpa using he) hbe) hde
      · refine i4 t v q fun j oj hj hdj => ?_
        cases hDj : D j with
        | false => rfl
        | true =>
          have hil : i < ls.length := (List.getElem?_eq_some_iff.1 ho').1
          rcases hfree j oj t v hj hdj q i hil with rfl | ⟨e, he, hbe, heq⟩
          · rw [hDi] at hDj; cases hDj
          · have := i6 j oj (by simpa using hj) hDj e he hbe
            rw [heq, hDi] at this; cases this
    have hclo : Clo ls.toArray (updD D i) := fun j oj hj hDj e he hbe => by
      by_cases q : j = i
      · subst q
        rw [ho] at hj; cases hj
        by_cases q2 : e.on = j
        · rw [q2]; exact updD_same D j
        · rw [updD_ne q2]; exact hdep e he hbe
      · rw [updD_ne q] at hDj
        by_cases q2 : e.on = i
        · rw [q2]; exact updD_same D i
        · rw [updD_ne q2]; exact i6 j oj hj hDj e he hbe
    have hnext : ∀ (g' : γ) (v : Value) (w' : World), (∀ j, D j = true → (vs g')[j]? = (vs g)[j]?) → (∀ d, o.dst = some d → v = ((vs g')[i]?).getD undef) → WI g' (updD D i) w' → I (updD D i) (a.put o.dst v) w' := fun g' v w' hg hv hW => by
      refine ⟨g', ?_, ?_, ?_, ?_, hclo, hW⟩
      · cases o.dst <;> simp [Act.put, i1]
      · cases o.dst <;> simp [Act.put, i2]
      · intro j oj d hj hDj hdj
        by_cases e : j = i
        · subst e
          rw [ho'] at hj; cases hj
          rw [hdj, ← hv d hdj]
          have := hnn _ _ _ ho' hdj
          simp [Act.put, i1, this]
        · rw [updD_ne e] at hDj
          have h1 := i3 j oj d hj hDj hdj
          rw [← hg j hDj] at h1
          cases hdo : o.dst with
          | none => simpa [Act.put] using h1
          | some d' =>
            have hne : d' ≠ d := fun q => e (hdst j i oj o d hj ho' hdj (by rw [hdo, q]))
            simp [Act.put, Array.getElem?_setIfInBounds_ne hne, h1]
      · intro t u hu hno
        have hne : o.dst ≠ some t := fun q => by
          have := hno i o ho' q
          rw [updD_same] at this; cases this
        have hq := i4 t u hu fun j oj hj hdj => by
          have := hno j oj hj hdj
          by_cases e : j = i
          · subst e; rw [updD_same] at this; cases this
          · rwa [updD_ne e] at this
        cases hdo : o.dst with
        | none => simpa [Act.put] using hq
        | some d' =>
          have hne2 : d' ≠ t := fun q => hne (by rw [hdo, q])
          simp [Act.put, Array.getElem?_setIfInBounds_ne hne2, hq]
    have hok := AllOk.get hops ho'
    rw [Nat.zero_add] at hok
    unfold wpOp
    simp only [ho]
    rcases hok g D w hDi hdep i6 i5 with ⟨h1, h2, h3⟩ | ⟨h1, h2, h3⟩
    · rw [if_pos (wants_spec hfr h1)]
      refine .inl ?_
      unfold Oper.wp
      rw [exec_known hfr h2]
      rcases h3 with ⟨g', w', hg, hr, hW⟩ | ⟨w', hr, hdn, hW⟩ | ⟨f, args, hr, hc⟩
      · rw [hr, Oper.upon_value]
        exact hnext g' _ _ hg (fun _ _ => rfl) hW
      · rw [hr, Oper.upon_skip]
        exact hnext g _ _ (fun _ _ => rfl) (fun d hd' => by rw [hdn] at hd'; cases hd') hW
      · rw [hr, Oper.upon_enter]
        refine hc.mono ?_
        rintro e w' ⟨g', hg, rfl, hW⟩
        exact hnext g' _ _ hg (fun _ _ => rfl) hW
    · rw [if_neg (by rw [wants_spec hfr h1]; exact Bool.false_ne_true)]
      exact hnext g _ _ (fun _ _ => rfl) (fun _ _ => h2.symm) h3
  · rintro D a w ⟨g, i1, i2, i3, i4, i6, i5⟩ hall
    refine hend g D w (fun i hi => hall i (by simpa using hi)) i5 a ⟨i1, i2, fun t v ht => ?_⟩
    rcases look_append2 ht with q | ⟨q, q5⟩
    · obtain ⟨⟨o, u⟩, hp, heq⟩ := List.mem_filterMap.1 q
      obtain ⟨j, hj⟩ := List.mem_iff_getElem?.1 hp
      rw [List.getElem?_zip_eq_some] at hj
      cases hdo : o.dst with
      | none => simp [hdo] at heq
      | some d =>
        simp [hdo] at heq
        obtain ⟨rfl, rfl⟩ := heq
        have := i3 j o d hj.1 (hall j (by have := (List.getElem?_eq_some_iff.1 hj.1).1; simpa using this)) hdo
        rw [hj.2] at this
        simpa using this
    · refine i4 t v q fun j o hj hdj => ?_
      exfalso
      have hvj : ∃ u, (vs g)[j]? = some u := ⟨(vs g)[j]'(by rw [hlen]; exact (List.getElem?_eq_some_iff.1 hj).1), List.getElem?_eq_getElem _⟩
      obtain ⟨u, hu⟩ := hvj
      exact q5 u (List.mem_filterMap.2 ⟨(o, u), List.mem_iff_getElem?.2 ⟨j, by rw [List.getElem?_zip_eq_some]; exact ⟨hj, hu⟩⟩, by simp [hdj]⟩)
  · have hno : ∀ j, (Array.replicate ls.toArray.size false).getD j false = true → False := fun j hDj' => by
      by_cases hj : j < ls.length
      · simp [hj] at hDj'
      · simp [hj] at hDj'
    refine ⟨g0, ha.sz, ha.df, fun j o d _ hDj _ => (hno j hDj).elim, fun t v ht _ => ha.kn t v (hsub.look ht), fun j o _ hDj => (hno j hDj).elim, ?_⟩
    · have : (fun j => (Array.replicate ls.toArray.size false).getD j false) = fun _ => false := by
        funext j
        by_cases hj : j < ls.length <;> simp [hj]
      rw [this]
      exact h0
end
end Fw
end Go.Proofs.Ytmjnakhpekbenaa
namespace Go.Proofs.Ytmjnakhpekbenaa
open Go.RowKit Fw
namespace Ca
abbrev T2 := Int × Int
def tL (t : List T2) : List Value := t.flatMap fun p => [vI p.1, vI p.2]
theorem tL_len (t : List T2) : (tL t).length = t.length * 2 := by
  induction t with
  | nil => rfl
  | cons p r ih => simp [tL] at ih ⊢; omega
theorem tL_push (t : List T2) (a b : Int) : tL t ++ [vI a, vI b] = tL (t ++ [(a, b)]) := by simp [tL]
theorem tL_at : ∀ {t : List T2} {i : Nat}, i < t.length → (tL t)[i * 2]? = some (vI (t.getD i (0, 0)).1) ∧ (tL t)[i * 2 + 1]? = some (vI (t.getD i (0, 0)).2)
  | p :: r, 0, _ => by simp [tL]
  | p :: r, i + 1, h => by
    have := tL_at (t := r) (i := i) (by simpa using h)
    rw [show tL (p :: r) = vI p.1 :: vI p.2 :: tL r from rfl]
    rw [show (i + 1) * 2 = i * 2 + 1 + 1 by omega, show i * 2 + 1 + 1 + 1 = (i * 2 + 1) + 1 + 1 by omega]
    simpa using this
def InT (w : World) (p : Option Addr) (t : List T2) : Prop := 0 < t.length → ∃ g o, p = some ⟨g, o, none⟩ ∧ ∀ i, i < t.length → w.rangeAt g (o + i * 2) [vI (t.getD i (0, 0)).1, vI (t.getD i (0, 0)).2]
theorem InT.below {w w' : World} {p : Option Addr} {t : List T2} (h : InT w p t) (hb : Below w.heap.size w w') : InT w' p t := fun h0 => by
  obtain ⟨g, o, hp, hr⟩ := h h0
  exact ⟨g, o, hp, fun i hi => HP.oldRange (HP.of_below (S := Tr) hb) trivial (hr i hi)⟩
abbrev rowT (pv : Option Addr) (n cp : Nat) (t : List T2) : Ent := .own (.slice pv n cp) n (tL t) 83 2
theorem hadd (b o k : Nat) : (⟨b, o, none⟩ : Addr).add k = ⟨b, o + k, none⟩ := by unfold Addr.add; split <;> simp_all
theorem InT.own {w : World} {pv : Option Addr} {cp : Nat} {t : List T2} (h : Ent.holds w (rowT pv t.length cp t)) : InT w pv t := fun h0 => by
  have h2 : w.ownsRow 0 83 2 (.slice pv t.length cp) t.length (tL t) := h
  have hc := @World.ownsRow.cells _ _ _ _ _ _ _ h2
  rcases h2.2 with ⟨h0', h1⟩ | ⟨g, cap, cur, hv, hb, hg, hnc, hm, hs, hx⟩
  · omega
  · cases hv
    refine ⟨g, 0, rfl, fun i hi j v hv => ?_⟩
    have hc := hc (g := g) rfl
    obtain ⟨q1, q2⟩ := tL_at hi
    simp only [hadd, Nat.zero_add] at hc ⊢
    match j, hv with
    | 0, hv => simp at hv; subst hv; exact hc _ _ q1
    | 1, hv => simp at hv; subst hv; exact hc _ _ q2
    | j + 2, hv => simp at hv
theorem own_row {w : World} {v : Value} {n e s : Nat} {ys : List Value} (h : Ent.holds w (.own v n ys e s)) : ∃ pv cp, v = .slice pv n cp := by
  have h2 : w.ownsRow 0 e s v n ys := h
  rcases h2.2 with ⟨h0, h1⟩ | ⟨g, cap, cur, hv, _⟩
  · exact ⟨none, 0, by rw [h0, h1]⟩
  · exact ⟨_, cap, hv⟩
def wn (n a b : Int) : Bool := decide (a ≤ n) && decide (n ≤ b)
theorem wn_iff {n a b : Int} : wn n a b = true ↔ a ≤ n ∧ n ≤ b := by simp [wn]
def vG (s y l m : Int) : Bool := wn s 1 8 && (wn y 1 4 && (wn l 1 8 && wn m 0 100))
theorem vG_iff {s y l m : Int} : vG s y l m = true ↔ (1 ≤ s ∧ s ≤ 8) ∧ (1 ≤ y ∧ y ≤ 4) ∧ (1 ≤ l ∧ l ≤ 8) ∧ (0 ≤ m ∧ m ≤ 100) := by simp [vG, wn_iff]
def lnT (t : List T2) (i : Nat) : Int := (t.getD i (0, 0)).1
def agT (t : List T2) (i : Nat) : Int := (t.getD i (0, 0)).2
def sT (t : List T2) : Prop := t.Pairwise fun a b => a.1 < b.1
def ageT (t : List T2) (x : Int) : Option Int := (t.find? fun p => p.1 == x).map (·.2)
theorem lnT_get {t : List T2} {i : Nat} (h : i < t.length) : lnT t i = t[i].1 := by simp [lnT, List.getD_eq_getElem?_getD, h]
theorem agT_get {t : List T2} {i : Nat} (h : i < t.length) : agT t i = t[i].2 := by simp [agT, List.getD_eq_getElem?_getD, h]
theorem sT_lt {t : List T2} (h : sT t) {i j : Nat} (hij : i < j) (hj : j < t.length) : lnT t i < lnT t j := by
  rw [lnT_get (by omega), lnT_get hj]; exact List.pairwise_iff_getElem.1 h i j (by omega) hj hij
theorem age_at {t : List T2} (h : sT t) {k : Nat} (hk : k < t.length) : ageT t (lnT t k) = some (agT t k) := by
  unfold ageT
  have : t.find? (fun p => p.1 == lnT t k) = some t[k] := by
    rw [List.find?_eq_some_iff_getElem]
    refine ⟨by rw [lnT_get hk]; simp, k, hk, rfl, fun j hj => ?_⟩
    have := sT_lt h hj hk
    rw [lnT_get (by omega)] at this
    simp; omega
  rw [this, agT_get hk]; rfl
theorem age_none {t : List T2} {x : Int} (h : ∀ i, i < t.length → lnT t i ≠ x) : ageT t x = none := by
  unfold ageT
  rw [List.find?_eq_none.2 fun p hp => ?_]
  · rfl
  · obtain ⟨i, hi, rfl⟩ := List.mem_iff_getElem.1 hp
    have := h i hi
    rw [lnT_get hi] at this
    simpa using this
theorem age_no {t : List T2} (h : sT t) {x : Int} {k : Nat} (h1 : 0 < k → lnT t (k - 1) < x) (h2 : k < t.length → x < lnT t k) (hk : k ≤ t.length) : ageT t x = none := by
  refine age_none fun i hi e => ?_
  by_cases q : i < k
  · have q1 := h1 (by omega)
    by_cases q2 : i = k - 1
    · subst q2; omega
    · have := sT_lt h (show i < k - 1 by omega) (by omega); omega
  · have q1 := h2 (by omega)
    by_cases q2 : i = k
    · subst q2; omega
    · have := sT_lt h (show k < i by omega) hi; omega
end Ca
end Go.Proofs.Ytmjnakhpekbenaa
namespace Go.Proofs.Ytmjnakhpekbenaa
set_option maxRecDepth 20000
set_option maxHeartbeats 4000000
open Go.RowKit Fw
namespace Ca
theorem x_convI {P : Program} {ρ : Operand → Value} {o : Oper} {w : World} {s t : TypeId} {x : Operand} {k k' : IntKind} {X Z : Int} (ho : o.op = .convert s t x) (hx : ρ x = .int k X) (hs : (P.underlying s).isSome = true) (ht : P.underlying t = some (.int (P.intKind t))) (hk : P.intKind t = k') (hz : k'.wrap X = Z) :
    (execOp ρ o).run P w = .ok (.value (.int k' Z)) w := by
  subst hk
  unfold execOp; rw [ho]; simp [hx, run_convert_int w s t k X hs ht, hz]
theorem x_shr1 {P : Program} {ρ : Operand → Value} {o : Oper} {w : World} {t u : TypeId} {x y : Operand} {k yk : IntKind} {X : Int} (ho : o.op = .binOp .shr t x y u) (hx : ρ x = .int k X) (hy : ρ y = .int yk 1) (hk : 1 ≤ k.bits) :
    (execOp ρ o).run P w = .ok (.value (.int k (X / 2))) w := by
  exact x_bin ho hx hy g_int (by simp [binOp, shift_shr_any k yk X 1 (by omega), show min 1 k.bits = 1 by omega])
theorem sz3 : (Try.prog.info? 3).map (·.size) = some 1 := by kernel_rfl
theorem sz23 : (Try.prog.info? 23).map (·.size) = some 4 := by kernel_rfl
theorem sz83 : (Try.prog.info? 83).map (·.size) = some 2 := by kernel_rfl
theorem within_any (n a b : Int) (w : World) :
    Calls Try.prog 44 #[vI n, vI a, vI b] w fun e w' => e = .returned (.bool (wn n a b)) ∧ w = w' := by
  refine calls_of Try.func44 rfl (m := 15) rfl [(0, vI n), (1, vI a), (2, vI b)] (Fr_enter [vI n, vI a, vI b] 15 (Nat.le_of_ble_eq_true rfl)) ?_
  have hH1 : HP Tr w w [] := HP.refl w
  refine WC.seq fun K2 hK2 => WC.region (WL.z (.bool false) 6 (WL.k hK2 (WC.seq fun K3 hK3 => WC.region (WL.z (vI n) 7 (WL.z (vI a) 8 ?_)))))
  by_cases h1 : a ≤ n
  ·
    refine WL.y (.bool true) 9 (x_geq rfl rfl rfl (dT (h1))) (WL.z (.bool true) 10 (WL.z (vI n) 11 (WL.z (vI b) 12 ?_)))
    by_cases h2 : n ≤ b
    ·
      refine WL.y (.bool true) 13 (x_leq rfl rfl rfl (dT (h2))) (WL.z (.bool true) 14 (WL.z (.bool true) 6 (WL.k hK3 (WC.sb [(0, vI n), (1, vI a), (2, vI b), (6, .bool true)] (WC.ret ?_)))))
      refine WQ.ret1 6 rfl rfl ?_
      exact ⟨by rw [show wn n a b = true by unfold wn; simp [h1, h2]], rfl⟩
    ·
      refine WL.y (.bool false) 13 (x_leq rfl rfl rfl (dF (h2))) (WL.z (.bool false) 14 (WL.z (.bool false) 6 (WL.k hK3 (WC.sb [(0, vI n), (1, vI a), (2, vI b), (6, .bool false)] (WC.ret ?_)))))
      refine WQ.ret1 6 rfl rfl ?_
      exact ⟨by rw [show wn n a b = false by unfold wn; simp [h1, h2]], rfl⟩
  ·
    refine WL.y (.bool false) 9 (x_geq rfl rfl rfl (dF (h1))) (WL.z (.bool false) 10 (WL.p 11 (WL.p 12 (WL.p 13 (WL.z (.bool false) 14 (WL.z (.bool false) 6 (WL.k hK3 (WC.sb [(0, vI n), (1, vI a), (2, vI b), (6, .bool false)] (WC.ret ?_)))))))))
    refine WQ.ret1 6 rfl rfl ?_
    exact ⟨by rw [show wn n a b = false by unfold wn; simp [h1]], rfl⟩
theorem within_at {n a b : Int} {r : Bool} (h : wn n a b = r) (w : World) : Calls Try.prog 44 #[vI n, vI a, vI b] w fun e w' => e = .returned (.bool r) ∧ w = w' := h ▸ within_any n a b w
theorem Valid_any (s y l m : Int) (w : World) :
  Calls Try.prog 22 #[.agg #[vI s, vI y, vI l, vI m]] w fun e w' => e = .returned (.bool (vG s y l m)) ∧ Below w.heap.size w w' := by
 refine calls_of Try.func22 rfl (m := 21) rfl [(0, .agg #[vI s, vI y, vI l, vI m])] (Fr_enter [.agg #[vI s, vI y, vI l, vI m]] 21 (Nat.le_of_ble_eq_true rfl)) ?_
 have hH1 : HP Tr w w [] := HP.refl w
 refine WC.seq fun K2 hK2 => WC.region ?_
 refine WL.alloc (c := #[vI s, vI y, vI l, vI m]) (T := 23) hH1 1 rfl (by decide) rfl rfl (fun b1 => vP b1 0) (by kernel_rfl) (fun b1 w3 hw3 => ?_)
 have hH4 : HP Tr w w3 [.cel b1 #[vI s, vI y, vI l, vI m] 23] := hw3.2
 have nb1 := hw3.1
 clear hw3
 refine WL.z (.bool false) 2 (WL.k hK2 (WC.seq fun K5 hK5 => WC.region (WL.z (vP b1 0) 3 (WL.y (vI s) 4 (x_load rfl rfl Try.underlying3 rfl (HP.cell hH4 0 rfl rfl)) ?_))))
 rcases Bool.eq_false_or_eq_true (wn s 1 8) with h5 | h5
 ·
  refine WL.c 44 #[vI s, vI 1, vI 8] 5 ?_
  refine (within_at h5 _).mono ?_
  rintro e w6 ⟨rfl, rfl⟩
  refine ⟨_, rfl, ?_⟩
  refine WL.z (.bool true) 6 (WL.z (vP b1 1) 7 (WL.y (vI y) 8 (x_load rfl rfl Try.underlying3 rfl (HP.cell hH4 0 rfl rfl)) ?_))
  rcases Bool.eq_false_or_eq_true (wn y 1 4) with h9 | h9
  ·
   refine WL.c 44 #[vI y, vI 1, vI 4] 9 ?_
   refine (within_at h9 _).mono ?_
   rintro e w7 ⟨rfl, rfl⟩
   refine ⟨_, rfl, ?_⟩
   refine WL.z (.bool true) 10 (WL.z (.bool true) 11 (WL.z (vP b1 2) 12 (WL.y (vI l) 13 (x_load rfl rfl Try.underlying3 rfl (HP.cell hH4 0 rfl rfl)) ?_)))
   rcases Bool.eq_false_or_eq_true (wn l 1 8) with h14 | h14
   ·
    refine WL.c 44 #[vI l, vI 1, vI 8] 14 ?_
    refine (within_at h14 _).mono ?_
    rintro e w8 ⟨rfl, rfl⟩
    refine ⟨_, rfl, ?_⟩
    refine WL.z (.bool true) 15 (WL.z (.bool true) 16 (WL.z (vP b1 3) 17 (WL.y (vI m) 18 (x_load rfl rfl Try.underlying3 rfl (HP.cell hH4 0 rfl rfl)) ?_)))
    rcases Bool.eq_false_or_eq_true (wn m 0 100) with h19 | h19
    ·
     refine WL.c 44 #[vI m, vI 0, vI 100] 19 ?_
     refine (within_at h19 _).mono ?_
     rintro e w9 ⟨rfl, rfl⟩
     refine ⟨_, rfl, ?_⟩
     refine WL.z (.bool true) 20 (WL.z (.bool true) 2 (WL.k hK5 (WC.sb [(0, .agg #[vI s, vI y, vI l, vI m]), (1, vP b1 0), (2, .bool true)] (WC.ret ?_))))
     refine WQ.ret1 2 rfl rfl ?_
     exact ⟨by unfold vG; rw [h5, h9, h14, h19]; rfl, HP.below hH4⟩
    ·
     refine WL.c 44 #[vI m, vI 0, vI 100] 19 ?_
     refine (within_at h19 _).mono ?_
     rintro e w10 ⟨rfl, rfl⟩
     refine ⟨_, rfl, ?_⟩
     refine WL.z (.bool false) 20 (WL.z (.bool false) 2 (WL.k hK5 (WC.sb [(0, .agg #[vI s, vI y, vI l, vI m]), (1, vP b1 0), (2, .bool false)] (WC.ret ?_))))
     refine WQ.ret1 2 rfl rfl ?_
     exact ⟨by unfold vG; rw [h5, h9, h14, h19]; rfl, HP.below hH4⟩
   ·
    refine WL.c 44 #[vI l, vI 1, vI 8] 14 ?_
    refine (within_at h14 _).mono ?_
    rintro e w11 ⟨rfl, rfl⟩
    refine ⟨_, rfl, ?_⟩
    refine WL.z (.bool false) 15 (WL.z (.bool false) 16 (WL.p 17 (WL.p 18 (WL.p 19 (WL.z (.bool false) 20 (WL.z (.bool false) 2 (WL.k hK5 (WC.sb [(0, .agg #[vI s, vI y, vI l, vI m]), (1, vP b1 0), (2, .bool false)] (WC.ret ?_)))))))))
    refine WQ.ret1 2 rfl rfl ?_
    exact ⟨by unfold vG; rw [h5, h9, h14]; rfl, HP.below hH4⟩
  ·
   refine WL.c 44 #[vI y, vI 1, vI 4] 9 ?_
   refine (within_at h9 _).mono ?_
   rintro e w12 ⟨rfl, rfl⟩
   refine ⟨_, rfl, ?_⟩
   refine WL.z (.bool false) 10 (WL.z (.bool false) 11 (WL.p 12 (WL.p 13 (WL.p 14 (WL.z (.bool false) 15 (WL.z (.bool false) 16 (WL.p 17 (WL.p 18 (WL.p 19 (WL.z (.bool false) 20 (WL.z (.bool false) 2 ?_)))))))))))
   refine WL.k hK5 (WC.sb [(0, .agg #[vI s, vI y, vI l, vI m]), (1, vP b1 0), (2, .bool false)] (WC.ret ?_))
   refine WQ.ret1 2 rfl rfl ?_
   exact ⟨by unfold vG; rw [h5, h9]; rfl, HP.below hH4⟩
 ·
  refine WL.c 44 #[vI s, vI 1, vI 8] 5 ?_
  refine (within_at h5 _).mono ?_
  rintro e w13 ⟨rfl, rfl⟩
  refine ⟨_, rfl, ?_⟩
  refine WL.z (.bool false) 6 (WL.p 7 (WL.p 8 (WL.p 9 (WL.z (.bool false) 10 (WL.z (.bool false) 11 (WL.p 12 (WL.p 13 (WL.p 14 (WL.z (.bool false) 15 (WL.z (.bool false) 16 (WL.p 17 ?_)))))))))))
  refine WL.p 18 (WL.p 19 (WL.z (.bool false) 20 (WL.z (.bool false) 2 (WL.k hK5 (WC.sb [(0, .agg #[vI s, vI y, vI l, vI m]), (1, vP b1 0), (2, .bool false)] (WC.ret ?_))))))
  refine WQ.ret1 2 rfl rfl ?_
  exact ⟨by unfold vG; rw [h5]; rfl, HP.below hH4⟩
theorem rValid_any (s y l m : Int) (w : World) :
  Calls Try.prog 23 #[.agg #[vI s, vI y, vI l, vI m]] w fun e w' => e = .returned (.bool (vG s y l m)) ∧ Below w.heap.size w w' := by
 refine calls_of Try.func23 rfl (m := 41) rfl [(0, .agg #[vI s, vI y, vI l, vI m])] (Fr_enter [.agg #[vI s, vI y, vI l, vI m]] 41 (Nat.le_of_ble_eq_true rfl)) ?_
 have hH1 : HP Tr w w [] := HP.refl w
 refine WC.seq fun K2 hK2 => WC.region ?_
 refine WL.alloc (c := #[vI s, vI y, vI l, vI m]) (T := 23) hH1 1 rfl (by decide) rfl rfl (fun b1 => vP b1 0) (by kernel_rfl) (fun b1 w3 hw3 => ?_)
 have hH4 : HP Tr w w3 [.cel b1 #[vI s, vI y, vI l, vI m] 23] := hw3.2
 have nb1 := hw3.1
 clear hw3
 refine WL.z (.bool false) 2 (WL.k hK2 (WC.seq fun K5 hK5 => WC.region (WL.z (vP b1 0) 3 (WL.y (vI s) 4 (x_load rfl rfl Try.underlying3 rfl (HP.cell hH4 0 rfl rfl)) ?_))))
 by_cases h5 : (1 : Int) ≤ s
 ·
  refine WL.y (.bool true) 5 (x_geq rfl rfl rfl (dT (h5))) (WL.z (.bool true) 6 (WL.z (vP b1 0) 7 (WL.y (vI s) 8 (x_load rfl rfl Try.underlying3 rfl (HP.cell hH4 0 rfl rfl)) ?_)))
  by_cases h9 : s ≤ 8
  ·
   refine WL.y (.bool true) 9 (x_leq rfl rfl rfl (dT (h9))) (WL.z (.bool true) 10 (WL.z (.bool true) 11 (WL.z (vP b1 1) 12 (WL.y (vI y) 13 (x_load rfl rfl Try.underlying3 rfl (HP.cell hH4 0 rfl rfl)) ?_))))
   by_cases h14 : (1 : Int) ≤ y
   ·
    refine WL.y (.bool true) 14 (x_geq rfl rfl rfl (dT (h14))) (WL.z (.bool true) 15 (WL.z (.bool true) 16 (WL.z (vP b1 1) 17 (WL.y (vI y) 18 (x_load rfl rfl Try.underlying3 rfl (HP.cell hH4 0 rfl rfl)) ?_))))
    by_cases h19 : y ≤ 4
    ·
     refine WL.y (.bool true) 19 (x_leq rfl rfl rfl (dT (h19))) (WL.z (.bool true) 20 (WL.z (.bool true) 21 (WL.z (vP b1 2) 22 (WL.y (vI l) 23 (x_load rfl rfl Try.underlying3 rfl (HP.cell hH4 0 rfl rfl)) ?_))))
     by_cases h24 : (1 : Int) ≤ l
     ·
      refine WL.y (.bool true) 24 (x_geq rfl rfl rfl (dT (h24))) (WL.z (.bool true) 25 (WL.z (.bool true) 26 (WL.z (vP b1 2) 27 (WL.y (vI l) 28 (x_load rfl rfl Try.underlying3 rfl (HP.cell hH4 0 rfl rfl)) ?_))))
      by_cases h29 : l ≤ 8
      ·
       refine WL.y (.bool true) 29 (x_leq rfl rfl rfl (dT (h29))) (WL.z (.bool true) 30 (WL.z (.bool true) 31 (WL.z (vP b1 3) 32 (WL.y (vI m) 33 (x_load rfl rfl Try.underlying3 rfl (HP.cell hH4 0 rfl rfl)) ?_))))
       by_cases h34 : (0 : Int) ≤ m
       ·
        refine WL.y (.bool true) 34 (x_geq rfl rfl rfl (dT (h34))) (WL.z (.bool true) 35 (WL.z (.bool true) 36 (WL.z (vP b1 3) 37 (WL.y (vI m) 38 (x_load rfl rfl Try.underlying3 rfl (HP.cell hH4 0 rfl rfl)) ?_))))
        by_cases h39 : m ≤ 100
        ·
         refine WL.y (.bool true) 39 (x_leq rfl rfl rfl (dT (h39))) (WL.z (.bool true) 40 (WL.z (.bool true) 2 (WL.k hK5 (WC.sb [(0, .agg #[vI s, vI y, vI l, vI m]), (1, vP b1 0), (2, .bool true)] (WC.ret ?_)))))
         refine WQ.ret1 2 rfl rfl ?_
         exact ⟨by rw [show vG s y l m = true by unfold vG wn; simp [h5, h9, h14, h19, h24, h29, h34, h39]], HP.below hH4⟩
        ·
         refine WL.y (.bool false) 39 (x_leq rfl rfl rfl (dF (h39))) (WL.z (.bool false) 40 (WL.z (.bool false) 2 (WL.k hK5 (WC.sb [(0, .agg #[vI s, vI y, vI l, vI m]), (1, vP b1 0), (2, .bool false)] (WC.ret ?_)))))
         refine WQ.ret1 2 rfl rfl ?_
         exact ⟨by rw [show vG s y l m = false by unfold vG wn; simp [h5, h9, h14, h19, h24, h29, h34, h39]], HP.below hH4⟩
       ·
        refine WL.y (.bool false) 34 (x_geq rfl rfl rfl (dF (h34))) (WL.z (.bool false) 35 (WL.z (.bool false) 36 (WL.p 37 (WL.p 38 (WL.p 39 (WL.z (.bool false) 40 (WL.z (.bool false) 2 (WL.k hK5 (WC.sb [(0, .agg #[vI s, vI y, vI l, vI m]), (1, vP b1 0), (2, .bool false)] ?_)))))))))
        refine WC.ret ?_
        refine WQ.ret1 2 rfl rfl ?_
        exact ⟨by rw [show vG s y l m = false by unfold vG wn; simp [h5, h9, h14, h19, h24, h29, h34]], HP.below hH4⟩
      ·
       refine WL.y (.bool false) 29 (x_leq rfl rfl rfl (dF (h29))) (WL.z (.bool false) 30 (WL.z (.bool false) 31 (WL.p 32 (WL.p 33 (WL.p 34 (WL.z (.bool false) 35 (WL.z (.bool false) 36 (WL.p 37 (WL.p 38 (WL.p 39 (WL.z (.bool false) 40 ?_)))))))))))
       refine WL.z (.bool false) 2 (WL.k hK5 (WC.sb [(0, .agg #[vI s, vI y, vI l, vI m]), (1, vP b1 0), (2, .bool false)] (WC.ret ?_)))
       refine WQ.ret1 2 rfl rfl ?_
       exact ⟨by rw [show vG s y l m = false by unfold vG wn; simp [h5, h9, h14, h19, h24, h29]], HP.below hH4⟩
     ·
      refine WL.y (.bool false) 24 (x_geq rfl rfl rfl (dF (h24))) (WL.z (.bool false) 25 (WL.z (.bool false) 26 (WL.p 27 (WL.p 28 (WL.p 29 (WL.z (.bool false) 30 (WL.z (.bool false) 31 (WL.p 32 (WL.p 33 (WL.p 34 (WL.z (.bool false) 35 ?_)))))))))))
      refine WL.z (.bool false) 36 (WL.p 37 (WL.p 38 (WL.p 39 (WL.z (.bool false) 40 (WL.z (.bool false) 2 (WL.k hK5 (WC.sb [(0, .agg #[vI s, vI y, vI l, vI m]), (1, vP b1 0), (2, .bool false)] (WC.ret ?_))))))))
      refine WQ.ret1 2 rfl rfl ?_
      exact ⟨by rw [show vG s y l m = false by unfold vG wn; simp [h5, h9, h14, h19, h24]], HP.below hH4⟩
    ·
     refine WL.y (.bool false) 19 (x_leq rfl rfl rfl (dF (h19))) (WL.z (.bool false) 20 (WL.z (.bool false) 21 (WL.p 22 (WL.p 23 (WL.p 24 (WL.z (.bool false) 25 (WL.z (.bool false) 26 (WL.p 27 (WL.p 28 (WL.p 29 (WL.z (.bool false) 30 ?_)))))))))))
     refine WL.z (.bool false) 31 (WL.p 32 (WL.p 33 (WL.p 34 (WL.z (.bool false) 35 (WL.z (.bool false) 36 (WL.p 37 (WL.p 38 (WL.p 39 (WL.z (.bool false) 40 (WL.z (.bool false) 2 (WL.nil ?_)))))))))))
     refine WQ.then (hK5 _ _ _ (WC.sb [(0, .agg #[vI s, vI y, vI l, vI m]), (1, vP b1 0), (2, .bool false)] (WC.ret ?_)))
     refine WQ.ret1 2 rfl rfl ?_
     exact ⟨by rw [show vG s y l m = false by unfold vG wn; simp [h5, h9, h14, h19]], HP.below hH4⟩
   ·
    refine WL.y (.bool false) 14 (x_geq rfl rfl rfl (dF (h14))) (WL.z (.bool false) 15 (WL.z (.bool false) 16 (WL.p 17 (WL.p 18 (WL.p 19 (WL.z (.bool false) 20 (WL.z (.bool false) 21 (WL.p 22 (WL.p 23 (WL.p 24 (WL.z (.bool false) 25 ?_)))))))))))
    refine WL.z (.bool false) 26 (WL.p 27 (WL.p 28 (WL.p 29 (WL.z (.bool false) 30 (WL.z (.bool false) 31 (WL.p 32 (WL.p 33 (WL.p 34 (WL.z (.bool false) 35 (WL.z (.bool false) 36 (WL.p 37 ?_)))))))))))
    refine WL.p 38 (WL.p 39 (WL.z (.bool false) 40 (WL.z (.bool false) 2 (WL.k hK5 (WC.sb [(0, .agg #[vI s, vI y, vI l, vI m]), (1, vP b1 0), (2, .bool false)] (WC.ret ?_))))))
    refine WQ.ret1 2 rfl rfl ?_
    exact ⟨by rw [show vG s y l m = false by unfold vG wn; simp [h5, h9, h14]], HP.below hH4⟩
  ·
   refine WL.y (.bool false) 9 (x_leq rfl rfl rfl (dF (h9))) (WL.z (.bool false) 10 (WL.z (.bool false) 11 (WL.p 12 (WL.p 13 (WL.p 14 (WL.z (.bool false) 15 (WL.z (.bool false) 16 (WL.p 17 (WL.p 18 (WL.p 19 (WL.z (.bool false) 20 ?_)))))))))))
   refine WL.z (.bool false) 21 (WL.p 22 (WL.p 23 (WL.p 24 (WL.z (.bool false) 25 (WL.z (.bool false) 26 (WL.p 27 (WL.p 28 (WL.p 29 (WL.z (.bool false) 30 (WL.z (.bool false) 31 (WL.p 32 ?_)))))))))))
   refine WL.p 33 (WL.p 34 (WL.z (.bool false) 35 (WL.z (.bool false) 36 (WL.p 37 (WL.p 38 (WL.p 39 (WL.z (.bool false) 40 (WL.z (.bool false) 2 (WL.k hK5 ?_)))))))))
   refine WC.sb [(0, .agg #[vI s, vI y, vI l, vI m]), (1, vP b1 0), (2, .bool false)] (WC.ret ?_)
   refine WQ.ret1 2 rfl rfl ?_
   exact ⟨by rw [show vG s y l m = false by unfold vG wn; simp [h5, h9]], HP.below hH4⟩
 ·
  refine WL.y (.bool false) 5 (x_geq rfl rfl rfl (dF (h5))) (WL.z (.bool false) 6 (WL.p 7 (WL.p 8 (WL.p 9 (WL.z (.bool false) 10 (WL.z (.bool false) 11 (WL.p 12 (WL.p 13 (WL.p 14 (WL.z (.bool false) 15 (WL.z (.bool false) 16 ?_)))))))))))
  refine WL.p 17 (WL.p 18 (WL.p 19 (WL.z (.bool false) 20 (WL.z (.bool false) 21 (WL.p 22 (WL.p 23 (WL.p 24 (WL.z (.bool false) 25 (WL.z (.bool false) 26 (WL.p 27 (WL.p 28 ?_)))))))))))
  refine WL.p 29 (WL.z (.bool false) 30 (WL.z (.bool false) 31 (WL.p 32 (WL.p 33 (WL.p 34 (WL.z (.bool false) 35 (WL.z (.bool false) 36 (WL.p 37 (WL.p 38 (WL.p 39 (WL.z (.bool false) 40 ?_)))))))))))
  refine WL.z (.bool false) 2 (WL.k hK5 (WC.sb [(0, .agg #[vI s, vI y, vI l, vI m]), (1, vP b1 0), (2, .bool false)] (WC.ret ?_)))
  refine WQ.ret1 2 rfl rfl ?_
  exact ⟨by rw [show vG s y l m = false by unfold vG wn; simp [h5]], HP.below hH4⟩
theorem isNaN_any (a : Int) (w : World) :
    Calls Try.prog 114 #[vI a] w fun e w' => e = .returned (.bool false) ∧ w = w' := by
  refine calls_of Try.func114 rfl (m := 6) rfl [(0, vI a)] (Fr_enter [vI a] 6 (Nat.le_of_ble_eq_true rfl)) ?_
  have hH1 : HP Tr w w [] := HP.refl w
  refine WC.seq fun K2 hK2 => WC.region (WL.z (.bool false) 2 (WL.k hK2 (WC.seq fun K3 hK3 => WC.region (WL.z (vI a) 3 (WL.z (vI a) 4 (WL.y (.bool false) 5 (x_neq rfl rfl rfl (dF (fun h => h rfl))) (WL.z (.bool false) 2 ?_)))))))
  refine WL.k hK3 (WC.ret ?_)
  refine WQ.ret1 2 rfl rfl ?_
  exact ⟨rfl, rfl⟩
def cmpI (a b : Int) : Int := if a < b then -1 else if b < a then 1 else 0
theorem cmp_lt {a b : Int} (h : cmpI a b < 0) : a < b := by unfold cmpI at h; split at h <;> (try split at h) <;> omega
theorem cmp_ge {a b : Int} (h : ¬ cmpI a b < 0) : b ≤ a := by unfold cmpI at h; split at h <;> (try split at h) <;> omega
theorem cmp_eq {a b : Int} : cmpI a b = 0 ↔ a = b := by unfold cmpI; split <;> (try split) <;> omega
theorem Compare_any (a b : Int) (w : World) :
  Calls Try.prog 100 #[vI a, vI b] w fun e w' => e = .returned (.int .i64 (cmpI a b)) ∧ w = w' := by
 refine calls_of Try.func100 rfl (m := 20) rfl [(0, vI a), (1, vI b)] (Fr_enter [vI a, vI b] 20 (Nat.le_of_ble_eq_true rfl)) ?_
 have hH1 : HP Tr w w [] := HP.refl w
 refine WC.seq fun K2 hK2 => WC.region (WL.z (vI 0) 4 (WL.k hK2 (WC.seq fun K3 hK3 => WC.region (WL.z (vI a) 7 ?_))))
 refine WL.c 114 #[vI a] 8 ?_
 refine (isNaN_any _ _).mono ?_
 rintro e w4 ⟨rfl, rfl⟩
 refine ⟨_, rfl, ?_⟩
 refine WL.z (.bool false) 5 (WL.k hK3 (WC.seq fun K5 hK5 => WC.region (WL.z (vI b) 9 ?_)))
 refine WL.c 114 #[vI b] 10 ?_
 refine (isNaN_any _ _).mono ?_
 rintro e w6 ⟨rfl, rfl⟩
 refine ⟨_, rfl, ?_⟩
 refine WL.z (.bool false) 6 (WL.k hK5 (WC.seq fun K7 hK7 => WC.seq fun K8 hK8 => WC.region (WL.z (.bool false) 11 (WL.k hK8 ?_))))
 refine WC.no rfl ?_
 refine WC.skip (WQ.then (hK7 _ _ _ (WC.seq fun K9 hK9 => WC.seq fun K10 hK10 => WC.region (WL.z (.bool false) 13 (WL.k hK10 ?_)))))
 refine WC.no rfl ?_
 refine WC.skip (WQ.then (hK9 _ _ _ (WC.seq fun K11 hK11 => WC.seq fun K12 hK12 => WC.region (WL.z (vI a) 14 (WL.z (vI b) 15 ?_)))))
 by_cases h1 : a < b
 ·
  refine WL.y (.bool true) 16 (x_lss rfl rfl rfl (dT (h1))) (WL.k hK12 (WC.sb [(0, vI a), (1, vI b), (4, vI 0), (5, .bool false), (6, .bool false), (11, .bool false), (13, .bool false), (16, .bool true)] ?_))
  refine WC.yes rfl ?_
  refine WC.seq fun K13 hK13 => WC.region (WL.z (vI (-1)) 4 (WL.k hK13 (WC.ret ?_)))
  refine WQ.thenRet ?_
  refine WQ.ret1 4 rfl rfl ?_
  exact ⟨by unfold cmpI; simp [h1], rfl⟩
 ·
  refine WL.y (.bool false) 16 (x_lss rfl rfl rfl (dF (h1))) (WL.k hK12 (WC.sb [(0, vI a), (1, vI b), (4, vI 0), (5, .bool false), (6, .bool false), (11, .bool false), (13, .bool false), (16, .bool false)] ?_))
  refine WC.no rfl ?_
  refine WC.skip (WQ.then (hK11 _ _ _ (WC.seq fun K14 hK14 => WC.seq fun K15 hK15 => WC.region (WL.z (vI a) 17 (WL.z (vI b) 18 ?_)))))
  by_cases h2 : b < a
  ·
   refine WL.y (.bool true) 19 (x_gtr rfl rfl rfl (dT (h2))) (WL.k hK15 ?_)
   refine WC.yes rfl ?_
   refine WC.seq fun K16 hK16 => WC.region (WL.z (vI 1) 4 (WL.k hK16 (WC.ret ?_)))
   refine WQ.thenRet ?_
   refine WQ.ret1 4 rfl rfl ?_
   exact ⟨by unfold cmpI; simp [h1, h2], rfl⟩
  ·
   refine WL.y (.bool false) 19 (x_gtr rfl rfl rfl (dF (h2))) (WL.k hK15 ?_)
   refine WC.no rfl ?_
   refine WC.skip (WQ.then (hK14 _ _ _ (WC.seq fun K17 hK17 => WC.region (WL.z (vI 0) 4 (WL.k hK17 (WC.ret ?_))))))
   refine WQ.ret1 4 rfl rfl ?_
   exact ⟨by unfold cmpI; simp [h1, h2], rfl⟩
theorem fcmp_any (a c x : Int) (w : World) :
    Calls Try.prog 102 #[.agg #[vI a, vI c], vI x] w fun e w' => e = .returned (.int .i64 (cmpI a x)) ∧ Below w.heap.size w w' := by
  refine calls_of Try.func102 rfl (m := 9) rfl [(0, .agg #[vI a, vI c]), (1, vI x)] (Fr_enter [.agg #[vI a, vI c], vI x] 9 (Nat.le_of_ble_eq_true rfl)) ?_
  have hH1 : HP Tr w w [] := HP.refl w
  refine WC.seq fun K2 hK2 => WC.region ?_
  refine WL.alloc (c := #[vI a, vI c]) (T := 83) hH1 2 rfl (by decide) rfl rfl (fun b2 => vP b2 0) (by kernel_rfl) (fun b2 w3 hw3 => ?_)
  have hH4 : HP Tr w w3 [.cel b2 #[vI a, vI c] 83] := hw3.2
  have nb2 := hw3.1
  clear hw3
  refine WL.z (vI 0) 4 (WL.k hK2 (WC.seq fun K5 hK5 => WC.region (WL.y (vP b2 0) 5 (x_idxArr (0) (0) rfl rfl rfl Try.underlying83 sz3 (by omega) (by omega) (by omega)) (WL.y (vI a) 6 (x_load rfl rfl Try.underlying3 rfl (HP.cell hH4 0 rfl rfl)) (WL.z (vI x) 7 ?_)))))
  refine WL.c 100 #[vI a, vI x] 8 ?_
  refine (Compare_any _ _ _).mono ?_
  rintro e w6 ⟨rfl, rfl⟩
  refine ⟨_, rfl, ?_⟩
  refine WL.z (vI (cmpI a x)) 4 (WL.k hK5 (WC.ret ?_))
  refine WQ.ret1 4 rfl rfl ?_
  exact ⟨rfl, HP.below hH4⟩
theorem search_any (p : Option Addr) (t : List T2) (cp : Nat) (w : World) (hT : InT w p t) (x : Int) (hn : t.length ≤ 281474976710656) :
  Calls Try.prog 101 #[.slice p t.length cp, vI x, .func (.func 102) #[] #[]] w fun e w' => ∃ (k : Nat) (fb : Bool), e = .returned (.tuple #[.int .i64 (k : Int), .bool fb]) ∧ k ≤ t.length ∧ (0 < k → lnT t (k - 1) < x) ∧ (k < t.length → x ≤ lnT t k) ∧ (fb = decide (k < t.length ∧ lnT t k = x)) ∧ Below w.heap.size w w' := by
 refine calls_of Try.func101 rfl (m := 49) rfl [(0, .slice p t.length cp), (1, vI x), (2, .func (.func 102) #[] #[])] (Fr_enter [.slice p t.length cp, vI x, .func (.func 102) #[] #[]] 49 (Nat.le_of_ble_eq_true rfl)) ?_
 have hH1 : HP Tr w w [] := HP.refl w
 refine WC.seq fun K2 hK2 => WC.region (WL.z (vI 0) 6 (WL.z (.bool false) 7 (WL.k hK2 (WC.seq fun K3 hK3 => WC.region (WL.z (.slice p t.length cp) 12 (WL.z (vI (t.length : Int)) 13 (WL.z (vI (t.length : Int)) 8 ?_)))))))
 refine WL.k hK3 (WC.seq fun K4 hK4 => WC.region (WL.z (vI (t.length : Int)) 14 (WL.z (vI 0) 9 (WL.z (vI (t.length : Int)) 10 (WL.k hK4 (WC.seq fun K5 hK5 => ?_))))))
 refine WC.block ?_
 refine WC.loop (fun kk0 ll0 ww0 => ∃ (i : Nat) (j : Nat), ll0 = [(0, .slice p t.length cp), (1, vI x), (2, .func (.func 102) #[] #[]), (8, vI (t.length : Int)), (9, vI (i : Int)), (10, vI (j : Int))] ∧ kk0 = j - i ∧ (i ≤ j) ∧ (j ≤ t.length) ∧ (0 < i → lnT t (i - 1) < x) ∧ (j < t.length → x ≤ lnT t j) ∧ HP Tr w ww0 []) (t.length) [(0, .slice p t.length cp), (1, vI x), (2, .func (.func 102) #[] #[]), (8, vI (t.length : Int)), (9, vI 0), (10, vI (t.length : Int))] ⟨rfl, rfl, rfl, rfl, rfl, rfl, trivial⟩ ⟨0, t.length, rfl, rfl, Nat.zero_le _, Nat.le_refl _, fun q => absurd q (by omega), fun q => absurd q (by omega), hH1⟩ ?_
 rintro kk l w7 ⟨i, j, rfl, hkk, hij, hjM, hj2, hj3, hH8⟩ K6 hK6
 refine WC.seq fun K9 hK9 => WC.seq fun K10 hK10 => WC.region (WL.z (vI (i : Int)) 15 (WL.z (vI (j : Int)) 16 ?_))
 by_cases hlt : (i : Int) < (j : Int)
 ·
  refine WL.y (.bool true) 17 (x_lss rfl rfl rfl (dT (hlt))) (WL.k hK10 ?_)
  refine WC.yes rfl ?_
  refine WC.skip (WQ.then (hK9 _ _ _ (WC.block (WC.seq fun K11 hK11 => WC.region (WL.z (vI (i : Int)) 18 (WL.z (vI (j : Int)) 19 (WL.y (vI ((i + j : Nat) : Int)) 20 (x_ad (((i + j : Nat) : Int))) (WL.y (.int .u64 ((i + j : Nat) : Int)) 21 (x_convI rfl rfl (by kernel_rfl) (by kernel_rfl) (by kernel_rfl) (by rw [IntKind.wrap_u64]; omega)) (WL.y (.int .u64 (((i + j : Nat) : Int) / 2)) 22 (x_shr1 rfl rfl rfl (by decide)) (WL.y (vI (((i + j) / 2 : Nat) : Int)) 23 (x_convI rfl rfl (by kernel_rfl) (by kernel_rfl) (by kernel_rfl) (by rw [IntKind.wrap_i64]; omega)) ?_))))))))))
  refine WL.z (vI (((i + j) / 2 : Nat) : Int)) 11 (WL.k hK11 (WC.sb [(0, .slice p t.length cp), (1, vI x), (2, .func (.func 102) #[] #[]), (8, vI (t.length : Int)), (9, vI (i : Int)), (10, vI (j : Int)), (11, vI (((i + j) / 2 : Nat) : Int)), (17, .bool true)] (WC.seq fun K12 hK12 => ?_)))
  obtain ⟨g, o, rfl, hrow⟩ := hT (by omega)
  refine WC.region (WL.z (.func (.func 102) #[] #[]) 24 (WL.z (.slice (some ⟨g, o, none⟩) t.length cp) 25 (WL.z (vI (((i + j) / 2 : Nat) : Int)) 26 (WL.y (vP g (o + ((i + j) / 2) * 2)) 27 (x_idx (((i + j) / 2)) (o + ((i + j) / 2) * 2) rfl rfl rfl Try.underlying88 sz83 (by omega) (by omega) (by omega)) (WL.y (.agg #[vI (lnT t ((i + j) / 2)), vI (agT t ((i + j) / 2))]) 28 (x_loadS (cs := [vI (lnT t ((i + j) / 2)), vI (agT t ((i + j) / 2))]) rfl rfl Try.underlying83 rfl sz83 (HP.oldRange hH8 trivial (hrow ((i + j) / 2) (by omega)))) (WL.z (vI x) 29 ?_))))))
  refine WL.c 102 #[.agg #[vI (lnT t ((i + j) / 2)), vI (agT t ((i + j) / 2))], vI x] 30 ?_
  refine (fcmp_any _ _ _ _).mono ?_
  rintro e w13 ⟨rfl, hb14⟩
  refine ⟨_, rfl, ?_⟩
  have hH15 := HP.call hH8 hb14
  by_cases hL : cmpI (lnT t ((i + j) / 2)) x < 0
  ·
   refine WL.y (.bool true) 31 (x_lss rfl rfl rfl (dT (hL))) (WL.k hK12 (WC.sb [(0, .slice (some ⟨g, o, none⟩) t.length cp), (1, vI x), (2, .func (.func 102) #[] #[]), (8, vI (t.length : Int)), (9, vI (i : Int)), (10, vI (j : Int)), (11, vI (((i + j) / 2 : Nat) : Int)), (17, .bool true), (31, .bool true)] ?_))
   refine WC.yes rfl ?_
   refine WC.region (WL.z (vI (((i + j) / 2 : Nat) : Int)) 32 (WL.y (vI (((i + j) / 2 + 1 : Nat) : Int)) 33 (x_ad ((((i + j) / 2 + 1 : Nat) : Int))) (WL.z (vI (((i + j) / 2 + 1 : Nat) : Int)) 9 (WL.nil (WQ.inNormal (WQ.sb [(0, .slice (some ⟨g, o, none⟩) t.length cp), (1, vI x), (2, .func (.func 102) #[] #[]), (8, vI (t.length : Int)), (9, vI (((i + j) / 2 + 1 : Nat) : Int)), (10, vI (j : Int))] ?_))))))
   refine WQ.then (hK6 _ _ _ (by omega) ⟨(i + j) / 2 + 1, j, rfl, rfl, by omega, by omega, fun q => by rw [Nat.add_sub_cancel]; exact cmp_lt hL, hj3, hH15⟩)
  ·
   refine WL.y (.bool false) 31 (x_lss rfl rfl rfl (dF (hL))) (WL.k hK12 (WC.sb [(0, .slice (some ⟨g, o, none⟩) t.length cp), (1, vI x), (2, .func (.func 102) #[] #[]), (8, vI (t.length : Int)), (9, vI (i : Int)), (10, vI (j : Int)), (11, vI (((i + j) / 2 : Nat) : Int)), (17, .bool true), (31, .bool false)] ?_))
   refine WC.no rfl ?_
   refine WC.region (WL.z (vI (((i + j) / 2 : Nat) : Int)) 34 (WL.z (vI (((i + j) / 2 : Nat) : Int)) 10 (WL.nil (WQ.inNormal (WQ.sb [(0, .slice (some ⟨g, o, none⟩) t.length cp), (1, vI x), (2, .func (.func 102) #[] #[]), (8, vI (t.length : Int)), (9, vI (i : Int)), (10, vI (((i + j) / 2 : Nat) : Int))] ?_)))))
   refine WQ.then (hK6 _ _ _ (by omega) ⟨i, (i + j) / 2, rfl, rfl, by omega, by omega, hj2, fun q => cmp_ge hL, hH15⟩)
 ·
  refine WL.y (.bool false) 17 (x_lss rfl rfl rfl (dF (hlt))) (WL.k hK10 ?_)
  refine WC.no rfl ?_
  refine WC.exit (WQ.thenExit (WQ.thenExit (WQ.inExit (WQ.then (hK5 _ _ _ (WC.seq fun K16 hK16 => WC.region (WL.z (vI (i : Int)) 35 (WL.z (vI (i : Int)) 36 (WL.z (vI (t.length : Int)) 37 ?_)))))))))
  by_cases hlt2 : (i : Int) < (t.length : Int)
  ·
   obtain ⟨g, o, rfl, hrow⟩ := hT (by omega)
   refine WL.y (.bool true) 38 (x_lss rfl rfl rfl (dT (hlt2))) (WL.z (.bool true) 39 (WL.z (.func (.func 102) #[] #[]) 40 (WL.z (.slice (some ⟨g, o, none⟩) t.length cp) 41 (WL.z (vI (i : Int)) 42 (WL.y (vP g (o + i * 2)) 43 (x_ix (i) (o + i * 2) Try.underlying88 sz83) (WL.y (.agg #[vI (lnT t i), vI (agT t i)]) 44 (x_loadS (cs := [vI (lnT t i), vI (agT t i)]) rfl rfl Try.underlying83 rfl sz83 (HP.oldRange hH8 trivial (hrow i (by omega)))) (WL.z (vI x) 45 ?_)))))))
   refine WL.c 102 #[.agg #[vI (lnT t i), vI (agT t i)], vI x] 46 ?_
   refine (fcmp_any _ _ _ _).mono ?_
   rintro e w17 ⟨rfl, hb18⟩
   refine ⟨_, rfl, ?_⟩
   have hH19 := HP.call hH8 hb18
   by_cases hq : cmpI (lnT t i) x = 0
   ·
    refine WL.y (.bool true) 47 (x_eql rfl rfl rfl (dT (hq))) (WL.z (.bool true) 48 (WL.z (vI (i : Int)) 6 (WL.z (.bool true) 7 (WL.k hK16 (WC.sb [(0, .slice (some ⟨g, o, none⟩) t.length cp), (1, vI x), (2, .func (.func 102) #[] #[]), (6, vI (i : Int)), (7, .bool true), (8, vI (t.length : Int)), (9, vI (i : Int)), (10, vI (j : Int)), (17, .bool false)] (WC.ret ?_))))))
    refine WQ.ret2 6 7 rfl rfl rfl ?_
    obtain rfl : i = j := by omega
    exact ⟨i, _, rfl, by omega, hj2, hj3, (decide_eq_true ⟨by omega, cmp_eq.1 hq⟩).symm, HP.below hH19⟩
   ·
    refine WL.y (.bool false) 47 (x_eql rfl rfl rfl (dF (hq))) (WL.z (.bool false) 48 (WL.z (vI (i : Int)) 6 (WL.z (.bool false) 7 (WL.k hK16 (WC.sb [(0, .slice (some ⟨g, o, none⟩) t.length cp), (1, vI x), (2, .func (.func 102) #[] #[]), (6, vI (i : Int)), (7, .bool false), (8, vI (t.length : Int)), (9, vI (i : Int)), (10, vI (j : Int)), (17, .bool false)] (WC.ret ?_))))))
    refine WQ.ret2 6 7 rfl rfl rfl ?_
    obtain rfl : i = j := by omega
    exact ⟨i, _, rfl, by omega, hj2, hj3, (decide_eq_false (fun h => hq (cmp_eq.2 h.2))).symm, HP.below hH19⟩
  ·
   refine WL.y (.bool false) 38 (x_lss rfl rfl rfl (dF (hlt2))) (WL.z (.bool false) 39 (WL.p 40 (WL.p 41 (WL.p 42 (WL.p 43 (WL.p 44 (WL.p 45 (WL.p 46 (WL.p 47 (WL.z (.bool false) 48 (WL.z (vI (i : Int)) 6 ?_)))))))))))
   refine WL.z (.bool false) 7 (WL.k hK16 (WC.sb [(0, .slice p t.length cp), (1, vI x), (2, .func (.func 102) #[] #[]), (6, vI (i : Int)), (7, .bool false), (8, vI (t.length : Int)), (9, vI (i : Int)), (10, vI (j : Int)), (17, .bool false)] (WC.ret ?_)))
   refine WQ.ret2 6 7 rfl rfl rfl ?_
   obtain rfl : i = j := by omega
   exact ⟨i, _, rfl, by omega, hj2, hj3, (decide_eq_false (fun h => by omega)).symm, HP.below hH8⟩
theorem find_any (p : Option Addr) (t : List T2) (cp : Nat) (w : World) (hT : InT w p t) (x : Int) (hn : t.length ≤ 281474976710656) :
    Calls Try.prog 83 #[.slice p t.length cp, vI x] w fun e w' => ∃ (k : Nat) (fb : Bool), e = .returned (.tuple #[.int .i64 (k : Int), .bool fb]) ∧ k ≤ t.length ∧ (0 < k → lnT t (k - 1) < x) ∧ (k < t.length → x ≤ lnT t k) ∧ (fb = decide (k < t.length ∧ lnT t k = x)) ∧ Below w.heap.size w w' := by
  refine calls_of Try.func83 rfl (m := 11) rfl [(0, .slice p t.length cp), (1, vI x)] (Fr_enter [.slice p t.length cp, vI x] 11 (Nat.le_of_ble_eq_true rfl)) ?_
  have hH1 : HP Tr w w [] := HP.refl w
  refine WC.seq fun K2 hK2 => WC.region (WL.z (vI 0) 4 (WL.z (.bool false) 5 (WL.k hK2 (WC.seq fun K3 hK3 => WC.region (WL.z (.slice p t.length cp) 6 (WL.z (vI x) 7 ?_))))))
  refine WL.c 101 #[.slice p t.length cp, vI x, .func (.func 102) #[] #[]] 8 ?_
  refine (search_any _ t _ _ (hT.below (HP.below hH1)) x hn).mono ?_
  rintro e w4 ⟨k, fb, rfl, hk1, hk2, hk3, hfb, hb5⟩
  refine ⟨_, rfl, ?_⟩
  have hH6 := HP.call hH1 hb5
  refine WL.z (vI (k : Int)) 9 (WL.z (.bool fb) 10 (WL.z (vI (k : Int)) 4 (WL.z (.bool fb) 5 (WL.k hK3 (WC.sb [(0, .slice p t.length cp), (1, vI x), (4, vI (k : Int)), (5, .bool fb)] (WC.ret ?_))))))
  refine WQ.ret2 4 5 rfl rfl rfl ?_
  exact ⟨k, fb, rfl, hk1, hk2, hk3, hfb, HP.below hH6⟩
theorem age_any (p : Option Addr) (t : List T2) (cp : Nat) (w : World) (hT : InT w p t) (x d : Int) (hn : t.length ≤ 281474976710656) (hs : sT t) :
  Calls Try.prog 68 #[.slice p t.length cp, vI x, vI d] w fun e w' => e = .returned (.int .i64 ((ageT t x).getD d)) ∧ Below w.heap.size w w' := by
 refine calls_of Try.func68 rfl (m := 22) rfl [(0, .slice p t.length cp), (1, vI x), (2, vI d)] (Fr_enter [.slice p t.length cp, vI x, vI d] 22 (Nat.le_of_ble_eq_true rfl)) ?_
 have hH1 : HP Tr w w [] := HP.refl w
 refine WC.seq fun K2 hK2 => WC.region (WL.z (vI 0) 6 (WL.k hK2 (WC.seq fun K3 hK3 => WC.seq fun K4 hK4 => WC.region (WL.z (.slice p t.length cp) 10 (WL.z (vI x) 11 ?_)))))
 refine WL.c 83 #[.slice p t.length cp, vI x] 12 ?_
 refine (find_any _ t _ _ (hT.below (HP.below hH1)) x hn).mono ?_
 rintro e w5 ⟨k, fb, rfl, hk1, hk2, hk3, hfb, hb6⟩
 refine ⟨_, rfl, ?_⟩
 have hH7 := HP.call hH1 hb6
 refine WL.z (.tuple #[vI (k : Int), .bool fb]) 9 (WL.z (vI (k : Int)) 13 (WL.z (.bool fb) 14 (WL.z (vI (k : Int)) 7 (WL.z (.bool fb) 8 (WL.k hK4 (WC.sb [(0, .slice p t.length cp), (1, vI x), (2, vI d), (6, vI 0), (7, vI (k : Int)), (8, .bool fb)] (WC.seq fun K8 hK8 => WC.region (WL.z (.bool fb) 15 ?_))))))))
 refine WL.k hK8 ?_
 rcases Bool.eq_false_or_eq_true (fb) with c_fb | c_fb
 ·
  rw [c_fb] at hfb
  have hq := of_decide_eq_true hfb.symm
  obtain ⟨g, o, rfl, hrow⟩ := hT (by omega)
  refine WC.yes (congrArg (fun b => some (Value.bool b)) c_fb) ?_
  refine WC.seq fun K9 hK9 => WC.region (WL.z (.slice (some ⟨g, o, none⟩) t.length cp) 16 (WL.z (vI (k : Int)) 17 (WL.y (vP g (o + k * 2)) 18 (x_idx (k) (o + k * 2) rfl rfl rfl Try.underlying88 sz83 (by omega) (hq.1) (by omega)) (WL.y (vP g (o + k * 2 + 1)) 19 (x_idxArr (1) (o + k * 2 + 1) rfl rfl rfl Try.underlying83 sz3 (by omega) (by omega) (by omega)) (WL.y (vI (agT t k)) 20 (x_load rfl rfl Try.underlying3 rfl ((HP.oldRange hH7 trivial (hrow k (by omega))) 1 _ rfl)) (WL.z (vI (agT t k)) 6 (WL.k hK9 (WC.sb [(0, .slice (some ⟨g, o, none⟩) t.length cp), (1, vI x), (2, vI d), (6, vI (agT t k)), (7, vI (k : Int)), (8, .bool fb), (15, .bool fb)] ?_))))))))
  refine WC.ret ?_
  refine WQ.thenRet ?_
  refine WQ.ret1 6 rfl rfl ?_
  exact ⟨by rw [← hq.2, age_at hs hq.1]; rfl, HP.below hH7⟩
 ·
  refine WC.no (congrArg (fun b => some (Value.bool b)) c_fb) ?_
  refine WC.skip (WQ.then (hK3 _ _ _ (WC.seq fun K10 hK10 => WC.region (WL.z (vI d) 21 (WL.z (vI d) 6 (WL.k hK10 (WC.ret ?_)))))))
  refine WQ.ret1 6 rfl rfl ?_
  rw [c_fb] at hfb
  have hq := of_decide_eq_false hfb.symm
  exact ⟨by rw [age_no hs hk2 (fun h => by have := hk3 h; by_cases e : lnT t k = x; exact absurd ⟨h, e⟩ hq; omega) hk1]; rfl, HP.below hH7⟩
end Ca
end Go.Proofs.Ytmjnakhpekbenaa
namespace Go.Proofs.Ytmjnakhpekbenaa
open Go.RowKit
namespace Fw
namespace Fi
def fen (R : Option Nat) : Fence := { Fence.wide with round := R }
def noDef : Op → Bool
  | .defer _ => false
  | _ => true
theorem semAt_fen {R : Option Nat} {ρ : Operand → Value} {o : Oper} (h : noDef o.op = true) : o.semAt (fen R).round ρ = execOp ρ o := by
  cases R with
  | none => rfl
  | some l => exact Oper.semAt_some l ρ o fun c e => by rw [e] at h; cases h
structure Fr (ds : List Deferred) (n : Nat) (l : List (Nat × Value)) (a : Act) : Prop where
  sz : a.tmps.size = n
  df : a.defers = ds
  kn : ∀ t v, look l t = some v → a.tmps[t]? = some v
theorem Fr.ev {ds : List Deferred} {n : Nat} {l : List (Nat × Value)} {a : Act} (h : Fr ds n l a) {x : Operand} {v : Value} (hx : ev l x = some v) : a.eval x = v := by
  cases x with
  | tmp t => simp [Act.eval, h.kn t v hx]
  | const u => simpa [Fw.ev, Act.eval] using hx
  | global g => simpa [Fw.ev, Act.eval] using hx
  | func f => simpa [Fw.ev, Act.eval] using hx
theorem Fr.evD {ds : List Deferred} {n : Nat} {l : List (Nat × Value)} {a : Act} (h : Fr ds n l a) {x : Operand} (hx : (Fw.ev l x).isSome = true) : a.eval x = Fw.evD l x := by
  obtain ⟨v, hv⟩ := Option.isSome_iff_exists.1 hx
  rw [h.ev hv, Fw.evD, hv]; rfl
theorem Fr.put {ds : List Deferred} {n : Nat} {l : List (Nat × Value)} {a : Act} (h : Fr ds n l a) {d : Nat} (hd : d < n) (v : Value) : Fr ds n ((d, v) :: l) (a.put (some d) v) := by
  refine ⟨by simp [Act.put, h.sz], by simp [Act.put, h.df], fun t u ht => ?_⟩
  by_cases e : d = t
  · subst e
    rw [look_cons_eq] at ht
    cases ht
    simp [Act.put, h.sz, hd]
  · rw [look_cons_ne e] at ht
    have := h.kn t u ht
    simp [Act.put, Array.getElem?_setIfInBounds_ne e, this]
theorem Fr.sub {ds : List Deferred} {n : Nat} {l l' : List (Nat × Value)} {a : Act} (h : Fr ds n l a) (hs : Sub l' l) : Fr ds n l' a := ⟨h.sz, h.df, fun t v ht => h.kn t v (hs.look ht)⟩
theorem Fr.getD {ds : List Deferred} {n : Nat} {l : List (Nat × Value)} {a : Act} (h : Fr ds n l a) {t : Nat} {v : Value} (hx : look l t = some v) : a.tmps.getD t undef = v := by
  simp [h.kn t v hx]
def XL (R : Option Nat) (m0 : Nat) (ds : List Deferred) (P : Program) (ops : Array Oper) (Q : Exit → Act → World → Prop) (rest : List Oper) (n : Nat) (l : List (Nat × Value)) (w : World) : Prop := ∀ a, Fr ds n l a → wpListIn (fen R) m0 P ops Q rest a w
def XC (R : Option Nat) (m0 : Nat) (ds : List Deferred) (P : Program) (c : Code) (Q : Exit → Act → World → Prop) (n : Nat) (l : List (Nat × Value)) (w : World) : Prop := ∀ a, Fr ds n l a → Code.wpIn (fen R) m0 P c Q a w
def XQ (ds : List Deferred) (Q : Exit → Act → World → Prop) (e : Exit) (n : Nat) (l : List (Nat × Value)) (w : World) : Prop := ∀ a, Fr ds n l a → Q e a w
section
variable {R : Option Nat} {m0 : Nat} {ds : List Deferred} {P : Program} {ops : Array Oper} {Q : Exit → Act → World → Prop} {rest : List Oper} {n : Nat} {l l' : List (Nat × Value)} {w w' : World}
theorem XC.sub {c : Code} (hs : Sub l' l) (h : XC R m0 ds P c Q n l' w) : XC R m0 ds P c Q n l w := fun a ha => h a (ha.sub hs)
theorem XQ.sub {e : Exit} (hs : Sub l' l) (h : XQ ds Q e n l' w) : XQ ds Q e n l w := fun a ha => h a (ha.sub hs)
theorem wants_spec {a : Act} (ha : Fr ds n l a) {o : Oper} {b : Bool} (h : wants ops l o = some b) : Region.wanted o (yielded ops a.tmps) = b := by
  unfold wants at h
  unfold Region.wanted
  cases hg : o.guard with
  | none => rw [hg] at h; simpa using h
  | some jw =>
    obtain ⟨j, want⟩ := jw
    rw [hg] at h
    simp only [] at h ⊢
    cases ht : (ops[j]?).bind (·.dst) with
    | none => rw [ht] at h; cases h
    | some t =>
      rw [ht] at h
      simp only [Option.bind_some] at h
      cases hl : look l t with
      | none => rw [hl] at h; cases h
      | some u =>
        rw [hl] at h
        have hk := ha.kn t u hl
        cases u
        case bool c =>
          have : yielded ops a.tmps j = some c := by unfold yielded; rw [ht]; simp [hk]
          rw [this]
          simp only [] at h
          cases c <;> cases want <;> simpa using h
        case tuple xs =>
          have : yielded ops a.tmps j = none := by unfold yielded; rw [ht]; simp [hk]
          rw [this]
          simp only [] at h
          cases want <;> simpa using h
        all_goals (simp only [] at h; cases h)
theorem exec_known {a : Act} (ha : Fr ds n l a) {o : Oper} (h : known l o = true) : execOp a.eval o = execOp (evD l) o := by
  unfold known at h
  rw [Bool.and_eq_true] at h
  refine execOp_congr o (fun cs b e => by rw [e] at h; exact absurd h.1 (by simp [noSel])) fun x hx => ha.evD ?_
  exact List.all_eq_true.1 h.2 x (by simpa using hx)
theorem XL.val {o : Oper} {v : Value} (d : Nat) (hd : o.dst = some d) (hn : d < n) (hw : wants ops l o = some true) (hk : known l o = true)
    (hr : (execOp (evD l) o).run P w = .ok (.value v) w') (h : XL R m0 ds P ops Q rest n ((d, v) :: l) w') (hnd : noDef o.op = true := by rfl) : XL R m0 ds P ops Q (o :: rest) n l w := by
  intro a ha
  refine wpListIn_step fun K hK => ?_
  rw [if_pos (wants_spec ha hw)]
  unfold Oper.wpIn
  rw [semAt_fen hnd]
  refine ⟨fun _ _ => trivial, ?_⟩
  rw [exec_known ha hk, hr, Oper.uponIn_value, hd]
  exact hK _ _ (h _ (ha.put hn v))
theorem XL.pure {o : Oper} {v : Value} (d : Nat) (hd : o.dst = some d) (hn : d < n) (hw : wants ops l o = some true) (hk : known l o = true)
    (hr : (execOp (evD l) o).run P w = .ok (.value v) w) (h : XL R m0 ds P ops Q rest n ((d, v) :: l) w) (hnd : noDef o.op = true := by rfl) : XL R m0 ds P ops Q (o :: rest) n l w := XL.val d hd hn hw hk hr h hnd
theorem XL.call {o : Oper} {f : FuncId} {args : Array Value} (d : Nat) (hd : o.dst = some d) (hn : d < n) (hw : wants ops l o = some true) (hk : known l o = true)
    (hr : (execOp (evD l) o).run P w = .ok (.enter f args) w) (h : Calls P f args w fun e w'' => ∃ v, e = .returned v ∧ XL R m0 ds P ops Q rest n ((d, v) :: l) w'') (hnd : noDef o.op = true := by rfl) : XL R m0 ds P ops Q (o :: rest) n l w := by
  intro a ha
  refine wpListIn_step fun K hK => ?_
  rw [if_pos (wants_spec ha hw)]
  unfold Oper.wpIn
  rw [semAt_fen hnd]
  refine ⟨fun _ _ => trivial, ?_⟩
  rw [exec_known ha hk, hr, Oper.uponIn_enter]
  refine ⟨fun q => absurd q Bool.false_ne_true, ?_⟩
  have h2 : CallsIn Fence.wide (m0 - 1) P f args w _ := callsIn_wide.2 h
  have h3 : CallsIn (fen R) (m0 - 1) P f args w (fun e w'' => ∃ v, e = .returned v ∧ XL R m0 ds P ops Q rest n ((d, v) :: l) w'') := h2
  refine h3.mono ?_
  rintro e w'' ⟨v, rfl, hv⟩
  show K (a.put o.dst v) w''
  rw [hd]
  exact hK _ _ (hv _ (ha.put hn v))
theorem XL.nil (h : XQ ds Q .normal n l w) : XL R m0 ds P ops Q [] n l w := fun a ha => h a ha
theorem XC.seq {x y : Code} (h : ∀ K : Act → World → Prop, (∀ ds n l w, XC R m0 ds P y Q n l w → XQ ds (fun _ a w => K a w) .normal n l w) → XC R m0 ds P x (Exit.then K Q) n l w) : XC R m0 ds P (.seq x y) Q n l w :=
  fun a ha => wpIn_seq_k fun K hK => h K (fun ds n l w hy a ha => hK a w (hy a ha)) a ha
theorem XQ.then {K : Act → World → Prop} (h : XQ ds (fun _ a w => K a w) .normal n l w) : XQ ds (Exit.then K Q) .normal n l w := fun a ha => h a ha
theorem XQ.thenExit {K : Act → World → Prop} {id : Nat} (h : XQ ds Q (.exit id) n l w) : XQ ds (Exit.then K Q) (.exit id) n l w := fun a ha => h a ha
theorem XQ.thenRet {K : Act → World → Prop} (h : XQ ds Q .ret n l w) : XQ ds (Exit.then K Q) .ret n l w := fun a ha => h a ha
theorem XQ.inNormal {id : Nat} (h : XQ ds Q .normal n l w) : XQ ds (Exit.inBlock id Q) .normal n l w := fun a ha => h a ha
theorem XQ.inRet {id : Nat} (h : XQ ds Q .ret n l w) : XQ ds (Exit.inBlock id Q) .ret n l w := fun a ha => h a ha
theorem XQ.inExit {id : Nat} (h : XQ ds Q .normal n l w) : XQ ds (Exit.inBlock id Q) (.exit id) n l w := fun a ha => by
  show (if id = id then Q .normal a w else Q (.exit id) a w)
  rw [if_pos rfl]; exact h a ha
theorem XC.skip (h : XQ ds Q .normal n l w) : XC R m0 ds P .skip Q n l w := fun a ha => wpIn_skip (h a ha)
theorem XC.ret (h : XQ ds Q .ret n l w) : XC R m0 ds P .ret Q n l w := fun a ha => wpIn_ret (h a ha)
theorem XC.exit {id : Nat} (h : XQ ds Q (.exit id) n l w) : XC R m0 ds P (.exit id) Q n l w := fun a ha => wpIn_exit (h a ha)
theorem XC.block {id : Nat} {c : Code} (h : XC R m0 ds P c (Exit.inBlock id Q) n l w) : XC R m0 ds P (.block id c) Q n l w := fun a ha => wpIn_block (h a ha)
theorem XC.yes {c : Operand} {x y : Code} (hc : ev l c = some (.bool true)) (h : XC R m0 ds P x Q n l w) : XC R m0 ds P (.cond c x y) Q n l w := fun a ha => wpIn_cond_true (ha.ev hc) (h a ha)
theorem XC.no {c : Operand} {x y : Code} (hc : ev l c = some (.bool false)) (h : XC R m0 ds P y Q n l w) : XC R m0 ds P (.cond c x y) Q n l w := fun a ha => wpIn_cond_false (ha.ev hc) (h a ha)
theorem XC.region {id : Nat} {ls : List Oper} (h : XL R m0 ds P ls.toArray Q ls n l w) : XC R m0 ds P (.region id ls.toArray false) Q n l w := fun a ha => wpIn_region_lit (h a ha)
theorem wpIn_loop_ghost {F : Fence} {n : Nat} {c : Code} {a : Act} (I : Nat → Act → World → Prop) (k0 : Nat) (h₀ : I k0 a w)
    (round : ∀ k a w, I k a w → c.wpIn F n P (Exit.then (fun a' w' => ∃ k', k' < k ∧ I k' a' w') Q) a w) : (Code.loop c).wpIn F n P Q a w := by
  intro b k cs hro hb hr
  have key : ∀ j a w, I j a w →
      ∃ e a' w', Q e a' w' ∧ ArrivesIn (Machine.fenced P F) P (lone (b.atR a (.code c :: .inLoop c :: k)) cs w) b k cs e a' w' := by
    intro j
    induction j using Nat.strongRecOn with
    | _ j ih =>
      intro a w hI
      obtain ⟨e, a₁, w₁, hq, harr⟩ := round j a w hI b (.inLoop c :: k) cs hro hb hr
      cases e with
      | normal =>
        obtain ⟨k', hlt, hI₁⟩ := hq
        obtain ⟨e₂, a₂, w₂, hq₂, harr₂⟩ := ih k' hlt a₁ w₁ hI₁
        exact ⟨e₂, a₂, w₂, hq₂, .of_steps (StepsIn.trans harr (.one (fenced_calm hb hr rfl) stepR_inLoop)) harr₂⟩
      | exit id => exact ⟨_, a₁, w₁, hq, .pass (x := .inLoop c) rfl (fun _ _ => .inl (by simp)) harr⟩
      | goto l => exact ⟨_, a₁, w₁, hq, .pass (x := .inLoop c) rfl (fun _ _ => .inl (by simp)) harr⟩
      | ret => exact ⟨_, a₁, w₁, hq, .pass (x := .inLoop c) rfl (fun _ _ => .inl (by simp)) harr⟩
      | panic ch => exact ⟨_, a₁, w₁, hq, .pass (x := .inLoop c) rfl (fun _ _ => .inl (by simp)) harr⟩
      | outgrown => exact ⟨_, a₁, w₁, hq, .pass (x := .inLoop c) rfl (fun _ _ => .inl (by simp)) harr⟩
  obtain ⟨e, a', w', hq, harr⟩ := key _ a w h₀
  exact ⟨e, a', w', hq, .of_steps (.one (fenced_calm hb hr rfl) stepR_loop) harr⟩
theorem XC.loop {c : Code} (I : Nat → List (Nat × Value) → World → Prop) (k0 : Nat) (l0 : List (Nat × Value)) (hs : Sub l0 l) (h0 : I k0 l0 w)
    (round : ∀ k l w, I k l w → ∀ K : Act → World → Prop, (∀ k' l' w', k' < k → I k' l' w' → XQ ds (fun _ a w => K a w) .normal n l' w') → XC R m0 ds P c (Exit.then K Q) n l w) : XC R m0 ds P (.loop c) Q n l w := by
  intro a ha
  refine wpIn_loop_ghost (fun k a w => ∃ l, Fr ds n l a ∧ I k l w) k0 ⟨l0, ha.sub hs, h0⟩ ?_
  rintro k a w ⟨l, hf, hI⟩
  exact round k l w hI _ (fun k' l' w' hlt hI' a' ha' => ⟨k', hlt, l', ha', hI'⟩) a hf
end
section
variable {R : Option Nat} {m0 : Nat} {ds : List Deferred} {P : Program} {ops : Array Oper} {Q : Exit → Act → World → Prop} {rest : List Oper} {n : Nat} {l : List (Nat × Value)} {w w0 : World} {S : Nat → Prop} {H H2 : List Ent}
theorem XL.alloc {o : Oper} {c : Array Value} {T : TypeId} (hH : HP S w0 w H) (d : Nat) (hd : o.dst = some d) (hn : d < n) (hw : wants ops l o = some true) (hk : known l o = true) (V : Nat → Value)
    (hr : (execOp (evD l) o).run P w = .ok (.value (V w.heap.size)) (w.alloc (.cells c T))) (h : ∀ b w2, w0.heap.size ≤ b ∧ HP S w0 w2 (H ++ [.cel b c T]) → XL R m0 ds P ops Q rest n ((d, V b) :: l) w2) (hnd : noDef o.op = true := by rfl) : XL R m0 ds P ops Q (o :: rest) n l w :=
  XL.val d hd hn hw hk hr (h _ _ ⟨hH.size, hH.alloc c T⟩) hnd
theorem XL.store {o : Oper} {t : TypeId} {x y : Operand} {b off : Nat} {c c' : Array Value} {T : TypeId} {v : Value} (i : Nat) (hH : HP S w0 w H) (ho : o.op = .store t x y) (hd : o.dst = none) (hw : wants ops l o = some true)
    (hi : H[i]? = some (.cel b c T)) (hx : ev l x = some (.pointer (some ⟨b, off, none⟩))) (hy : ev l y = some v) (hs : (P.info? t).map (·.size) = some 1) (h1 : v.oneCell' = true) (hlt : off < c.size) (hc : c.setIfInBounds off v = c') (h2 : H.set i (.cel b c' T) = H2)
    (h : ∀ w2, HP S w0 w2 H2 → XL R m0 ds P ops Q rest n l w2) (hnd : noDef o.op = true := by rfl) : XL R m0 ds P ops Q (o :: rest) n l w := by
  intro a ha
  refine wpListIn_step fun K hK => ?_
  rw [if_pos (wants_spec ha hw)]
  unfold Oper.wpIn
  rw [semAt_fen hnd]
  refine ⟨fun _ _ => trivial, ?_⟩
  rw [x_store (P := P) ho (ha.ev hx) (ha.ev hy) hs h1 (hH.cell i hi (Array.getElem?_eq_getElem hlt)) (hH.free i hi), Oper.uponIn_skip, hd]
  refine hK _ _ (h _ ?_ _ ha)
  rw [← h2, ← hc]
  exact hH.set i hi
theorem XL.storeS {o : Oper} {t : TypeId} {x y : Operand} {b off : Nat} {c c' cells : Array Value} {T : TypeId} (i : Nat) (hH : HP S w0 w H) (ho : o.op = .store t x y) (hd : o.dst = none) (hw : wants ops l o = some true)
    (hi : H[i]? = some (.cel b c T)) (hx : ev l x = some (.pointer (some ⟨b, off, none⟩))) (hy : ev l y = some (.agg cells)) (hs : (P.info? t).map (·.size) = some cells.size) (h1 : cells.toList.all (·.oneCell') = true) (hlt : off + cells.size ≤ c.size)
    (hc : cells.toList.zipIdx.foldl (fun (c : Array Value) (p : Value × Nat) => c.setIfInBounds (off + p.2) p.1) c = c') (h2 : H.set i (.cel b c' T) = H2)
    (h : ∀ w2, HP S w0 w2 H2 → XL R m0 ds P ops Q rest n l w2) (hnd : noDef o.op = true := by rfl) : XL R m0 ds P ops Q (o :: rest) n l w := by
  intro a ha
  refine wpListIn_step fun K hK => ?_
  rw [if_pos (wants_spec ha hw)]
  unfold Oper.wpIn
  rw [semAt_fen hnd]
  refine ⟨fun _ _ => trivial, ?_⟩
  rw [x_storeS (P := P) ho (ha.ev hx) (ha.ev hy) hs h1 (fun j hj => ⟨by rw [hH.cell i hi (Array.getElem?_eq_getElem (show off + j < c.size by omega))]; rfl, hH.free i hi⟩), Oper.uponIn_skip, hd]
  refine hK _ _ (h _ ?_ _ ha)
  rw [← h2, ← hc]
  exact Go.Proofs.Ytmjnakhpekbenaa.Fw.HP.setCells i cells.toList hH hi
theorem XL.append {o : Oper} {t e : TypeId} {inf : TypeInfo} {z : Value} {sz by' : Nat} {x y : Operand} {v : Value} {k m : Nat} {xs news : List Value} {bn cp : Nat} {cn : Array Value} (i j : Nat) (hH : HP S w0 w H) (d : Nat) (hd : o.dst = some d) (hn : d < n) (hw : wants ops l o = some true)
    (ho : o.op = .call { callee := .builtin .append, args := #[x, y], argTypes := #[t, t] }) (hx : ev l x = some v) (hy : ev l y = some (.slice (some ⟨bn, 0, none⟩) m cp))
    (ht : P.underlying t = some (.slice e)) (hi' : P.info? e = some inf) (hz : inf.zero = some z) (hsz : inf.size = sz) (hby : inf.bytes = by') (hzs : z.cells.size = sz) (h0 : 0 < sz)
    (hi : H[i]? = some (.own v k xs e sz)) (hj : H[j]? = some (.cel bn cn e)) (hnews : cn.toList.take news.length = news) (hl : news.length = m * sz) (h1 : ∀ u ∈ news, u.oneCell' = true) (h63 : k + m ≤ maxLen) (hb : (k + m) * by' ≤ 140737488355328)
    (h : ∀ v' w2, (v' = .slice none 0 0 ↔ v = .slice none 0 0 ∧ m = 0) → HP S w0 w2 (H.set i (.own v' (k + m) (xs ++ news) e sz)) → XL R m0 ds P ops Q rest n ((d, v') :: l) w2) (hnd : noDef o.op = true := by rfl) : XL R m0 ds P ops Q (o :: rest) n l w := by
  intro a ha
  refine wpListIn_step fun K hK => ?_
  rw [if_pos (wants_spec ha hw)]
  obtain ⟨v', w2, hr, g1, g2, g3, g4⟩ := append_ent (P := P) w t o.type e inf z sz by' ht hi' hz hsz hby hzs h0 v k xs (hH.get i hi) ⟨bn, 0, none⟩ m cp news hl (fun q u hu => by
    rw [Addr.add_mid]
    exact hH.range j hj (by simpa using hnews) q u hu) h1 h63 hb
  unfold Oper.wpIn
  rw [semAt_fen hnd]
  refine ⟨fun _ _ => trivial, ?_⟩
  rw [x_append (P := P) ho (ha.ev hx) (ha.ev hy) hr, Oper.uponIn_value, hd]
  refine hK _ _ (h v' w2 g3 ?_ _ (ha.put hn v'))
  exact hH.change i hi g2.os g2.tape g2.output g2.size (fun q hq hne => g2.block q hq fun e => hne e.symm) ⟨g1.1, g1.2⟩ g4
end
end Fi
end Fw
end Go.Proofs.Ytmjnakhpekbenaa
namespace Go.Proofs.Ytmjnakhpekbenaa
open Go.RowKit
namespace Fw
namespace Fi
section
variable {R : Option Nat} {m0 : Nat} {ds : List Deferred} {F : Fence} {P : Program} {ops : Array Oper} {Q : Exit → Act → World → Prop} {n : Nat} {l l0 : List (Nat × Value)} {w w0 : World}
theorem any_invX (I : (Nat → Bool) → Act → World → Prop) (hback : ∀ (i : Nat) (o : Oper), ops[i]? = some o → ∀ e ∈ o.after, Region.binds .any e = true → e.on < i)
    (hstep : ∀ D a w i o, I D a w → ops[i]? = some o → D i = false → (∀ e ∈ o.after, Region.binds .any e = true → D e.on = true) → wpOpIn F m0 P ops Q i (I (updD D i)) a w)
    (hend : ∀ D a w, I D a w → (∀ i, i < ops.size → D i = true) → Q .normal a w) :
    ∀ (fuel : Nat) (listed : Array Bool) (a : Act) (w : World), listed.size = ops.size → (listed.toList.filter (! ·)).length ≤ fuel → I (fun j => listed.getD j false) a w → wpAnyIn F m0 P .any ops Q fuel listed a w := by
  have hdone : ∀ (listed : Array Bool), listed.size = ops.size → Region.ready .any ops listed = [] → ∀ i, i < ops.size → listed.getD i false = true := by
    intro listed hsz hr i
    induction i using Nat.strongRecOn with
    | _ i ih =>
      intro hi
      cases hl : listed.getD i false with
      | true => rfl
      | false =>
        exfalso
        have hmem : i ∈ Region.ready .any ops listed := by
          rw [mem_ready]
          refine ⟨?_, ops[i], Array.getElem?_eq_getElem hi, fun e he hb => ?_⟩
          · have hi' : i < listed.size := by omega
            simp [hi'] at hl ⊢
            exact hl
          · have := hback i ops[i] (Array.getElem?_eq_getElem hi) e he hb
            exact ih e.on this (by omega)
        rw [hr] at hmem; cases hmem
  intro fuel
  induction fuel with
  | zero =>
    intro listed a w hsz hcnt hI
    have hall : ∀ i, i < listed.size → listed.getD i false = true := by
      intro i hi
      have h0 : listed.toList.filter (! ·) = [] := List.length_eq_zero_iff.1 (by omega)
      rw [List.filter_eq_nil_iff] at h0
      have := h0 listed[i] (by simp)
      simpa [hi] using this
    have hr : Region.ready .any ops listed = [] := by
      refine List.eq_nil_iff_forall_not_mem.2 fun j hj => ?_
      rw [mem_ready] at hj
      obtain ⟨h1, o, ho, -⟩ := hj
      have hj' : j < listed.size := by rw [hsz]; exact (Array.getElem?_eq_some_iff.1 ho).1
      have := hall j hj'
      simp [hj'] at h1 this
      rw [h1] at this; cases this
    exact ⟨hr, hend _ a w hI fun i hi => hall i (by omega)⟩
  | succ fuel ih =>
    intro listed a w hsz hcnt hI
    refine ⟨fun hr => hend _ a w hI fun i hi => hdone listed hsz hr i hi, fun i hi => ?_⟩
    have hi' := hi
    rw [mem_ready] at hi
    obtain ⟨h1, o, ho, hdep⟩ := hi
    have hlt : i < ops.size := (Array.getElem?_eq_some_iff.1 ho).1
    have hlt' : i < listed.size := by omega
    have hf : listed[i] = false := by simpa [hlt'] using h1
    have hD : ∀ j, (listed.setIfInBounds i true).getD j false = updD (fun j => listed.getD j false) i j := by
      intro j
      by_cases e : j = i
      · subst e; rw [updD_same]; simp [hlt']
      · rw [updD_ne e, getD_set_ne false (Ne.symm e)]
    refine wpOpIn_mono (fun a' w' h => ih (listed.setIfInBounds i true) a' w' (by simpa using hsz) ?_ ?_) (hstep _ a w i o hI ho (by simpa [hlt'] using hf) hdep)
    · have hset : (listed.setIfInBounds i true).toList = listed.toList.take i ++ true :: listed.toList.drop (i + 1) := by
        rw [Array.toList_setIfInBounds, List.set_eq_take_append_cons_drop]
        simp [hlt']
      have hold : listed.toList = listed.toList.take i ++ false :: listed.toList.drop (i + 1) := by
        have q : listed.toList[i]'(by simpa using hlt') = false := by simpa using hf
        have q2 := (List.take_append_drop i listed.toList).symm
        rw [List.drop_eq_getElem_cons (by simpa using hlt'), q] at q2
        exact q2
      rw [hset]
      rw [hold] at hcnt
      simp only [List.filter_append, List.length_append, List.filter_cons] at hcnt ⊢
      simp at hcnt ⊢
      omega
    · rw [show (fun j => (listed.setIfInBounds i true).getD j false) = updD (fun j => listed.getD j false) i from funext hD]
      exact h
def RoundOk {γ : Type} (R : Option Nat) (m0 : Nat) (P : Program) (ops : Array Oper) (l0 : List (Nat × Value)) (vs : γ → List Value) (WI : γ → (Nat → Bool) → World → Prop) (i : Nat) (o : Oper) : Prop :=
  ∀ g D w, D i = false → (∀ e ∈ o.after, Region.binds .any e = true → D e.on = true) → Clo ops D → WI g D w →
    wants ops (depEnv ops (vs g) o ++ l0) o = some true ∧ known (depEnv ops (vs g) o ++ l0) o = true ∧
      ∃ l fn tmps assign body, (execOp (evD (depEnv ops (vs g) o ++ l0)) o).run P w = .ok (.round l fn tmps assign body) w ∧ RoundIn (fen R) (m0 - 1) P l fn tmps assign body w fun e w' => ∃ g', (∀ j, D j = true → (vs g')[j]? = (vs g)[j]?) ∧ e = .returned (((vs g')[i]?).getD undef) ∧ WI g' (updD D i) w'
inductive AllOkX {γ : Type} (R : Option Nat) (m0 : Nat) (P : Program) (ops : Array Oper) (l0 : List (Nat × Value)) (vs : γ → List Value) (WI : γ → (Nat → Bool) → World → Prop) : Nat → List Oper → Prop
  | nil (k : Nat) : AllOkX R m0 P ops l0 vs WI k []
  | cons {k : Nat} {o : Oper} {r : List Oper} (h : OpOk P ops l0 vs WI k o) (t : AllOkX R m0 P ops l0 vs WI (k + 1) r) : AllOkX R m0 P ops l0 vs WI k (o :: r)
  | consR {k : Nat} {o : Oper} {r : List Oper} (h : RoundOk R m0 P ops l0 vs WI k o) (t : AllOkX R m0 P ops l0 vs WI (k + 1) r) : AllOkX R m0 P ops l0 vs WI k (o :: r)
theorem AllOkX.get {γ : Type} {vs : γ → List Value} {WI : γ → (Nat → Bool) → World → Prop} : ∀ {ls : List Oper} {k i : Nat} {o : Oper}, AllOkX R m0 P ops l0 vs WI k ls → ls[i]? = some o → OpOk P ops l0 vs WI (k + i) o ∨ RoundOk R m0 P ops l0 vs WI (k + i) o
  | [], _, i, _, _, h => by simp at h
  | x :: r, k, 0, o, h, hi => by
    cases h with
    | cons h1 h2 => simp at hi; subst hi; exact .inl h1
    | consR h1 h2 => simp at hi; subst hi; exact .inr h1
  | x :: r, k, i + 1, o, h, hi => by
    cases h with
    | cons h1 h2 =>
      have := AllOkX.get h2 (i := i) (by simpa using hi)
      rw [show k + (i + 1) = k + 1 + i by omega]; exact this
    | consR h1 h2 =>
      have := AllOkX.get h2 (i := i) (by simpa using hi)
      rw [show k + (i + 1) = k + 1 + i by omega]; exact this
theorem XC.confH {γ : Type} {id : Nat} {ls : List Oper} (l0 : List (Nat × Value)) (vs : γ → List Value) (WI : γ → (Nat → Bool) → World → Prop) (g0 : γ) (hm : P.follows .mixedOrders = true)
    (hsub : Sub l0 l) (hb : backB ls = true) (hd : distB ls = true) (hf : freeH ls l0 = true) (hlen : ∀ g, (vs g).length = ls.length) (hn : (ls.all fun o => match o.dst with | some d => Nat.blt d n | none => true) = true)
    (h0 : WI g0 (fun _ => false) w.drew) (hops : AllOkX R m0 P ls.toArray l0 vs WI 0 ls)
    (hend : ∀ g D w2, (∀ i, Nat.blt i ls.length = true → D i = true) → WI g D w2 → XQ ds Q .normal n (allEnv ls (vs g) ++ l0) w2) (hdfB : (ls.all fun o => noDef o.op) = true := by rfl) : XC R m0 ds P (.region id ls.toArray true) Q n l w := by
  intro a ha
  have hdf : ∀ (i : Nat) (o : Oper), ls[i]? = some o → noDef o.op = true := fun i o ho => List.all_eq_true.1 hdfB o (List.mem_of_getElem? ho)
  refine wpIn_region_any hm ?_
  have hdst : ∀ (i j : Nat) (o o' : Oper) (d : Nat), ls[i]? = some o → ls[j]? = some o' → o.dst = some d → o'.dst = some d → i = j := fun i j o o' d h1 h2 h3 h4 => by
    rcases Nat.lt_trichotomy i j with q | q | q
    · exact absurd h4 (distB_spec hd i j o o' d q h1 h2 h3)
    · exact q
    · exact absurd h3 (distB_spec hd j i o' o d q h2 h1 h4)
  have hfree : ∀ (j : Nat) (o : Oper) (t : Nat) (v : Value), ls[j]? = some o → o.dst = some t → look l0 t = some v → ∀ i, i < ls.length → i = j ∨ ∃ e ∈ o.after, Region.binds .any e = true ∧ e.on = i := fun j o t v h1 h2 h3 => by
    have q := List.all_eq_true.1 (List.all_eq_true.1 hf (t, v) (look_mem h3)) (o, j) (by rw [List.mem_zipIdx_iff_getElem?]; simpa using h1)
    simp only [h2] at q
    rw [show Nat.beq t t = true from Nat.beq_refl t] at q
    intro i hi
    simp at q
    rcases q i hi with q3 | ⟨k, hk, q4, q5⟩
    · exact .inl q3
    · exact .inr ⟨o.after[k], Array.getElem_mem hk, q4, q5⟩
  have hnn : ∀ (i : Nat) (o : Oper) (d : Nat), ls[i]? = some o → o.dst = some d → d < n := fun i o d h1 h2 => by
    have q := List.all_eq_true.1 hn o (List.mem_of_getElem? h1)
    rw [h2] at q
    exact Nat.le_of_ble_eq_true q
  let I : (Nat → Bool) → Act → World → Prop := fun D a w => ∃ g, a.tmps.size = n ∧ a.defers = ds ∧
    (∀ (j : Nat) (o : Oper) (d : Nat), ls[j]? = some o → D j = true → o.dst = some d → a.tmps[d]? = some (((vs g)[j]?).getD undef)) ∧ (∀ t v, look l0 t = some v → (∀ (j : Nat) (o : Oper), ls[j]? = some o → o.dst = some t → D j = false) → a.tmps[t]? = some v) ∧ Clo ls.toArray D ∧ WI g D w
  refine any_invX (F := fen R) (m0 := m0) (ops := ls.toArray) I ?_ ?_ ?_ _ _ a _ (by simp) (by
    refine Nat.le_trans (List.length_filter_le _ _) ?_
    simp) ?_
  · intro i o ho e he hbe
    have hm' : (o, i) ∈ ls.zipIdx := by
      rw [List.mem_zipIdx_iff_getElem?]; simpa using ho
    have q := List.all_eq_true.1 (List.all_eq_true.1 hb (o, i) hm') e (by simpa using he)
    rw [hbe] at q
    simpa using q
  · rintro D a w i o ⟨g, i1, i2, i3, i4, i6, i5⟩ ho hDi hdep
    have ho' : ls[i]? = some o := by simpa using ho
    have hfr : Fr ds n (depEnv ls.toArray (vs g) o ++ l0) a := by
      refine ⟨i1, i2, fun t v ht => ?_⟩
      rcases look_append ht with q | q
      · obtain ⟨e, he, heq⟩ := List.mem_filterMap.1 q
        cases hbe : Region.binds .any e with
        | false => rw [hbe] at heq; cases heq
        | true =>
          rw [hbe] at heq
          simp only [] at heq
          cases hoe : ls.toArray[e.on]? with
          | none => rw [hoe] at heq; cases heq
          | some oe =>
            rw [hoe] at heq
            simp only [Option.bind_some] at heq
            cases hde : oe.dst with
            | none => rw [hde] at heq; cases heq
            | some d =>
              rw [hde] at heq
              simp only [Option.map_some, Option.some.injEq, Prod.mk.injEq] at heq
              obtain ⟨rfl, rfl⟩ := heq
              exact i3 e.on oe d (by simpa using hoe) (hdep e (by simpa using he) hbe) hde
      · refine i4 t v q fun j oj hj hdj => ?_
        cases hDj : D j with
        | false => rfl
        | true =>
          have hil : i < ls.length := (List.getElem?_eq_some_iff.1 ho').1
          rcases hfree j oj t v hj hdj q i hil with rfl | ⟨e, he, hbe, heq⟩
          · rw [hDi] at hDj; cases hDj
          · have := i6 j oj (by simpa using hj) hDj e he hbe
            rw [heq, hDi] at this; cases this
    have hclo : Clo ls.toArray (updD D i) := fun j oj hj hDj e he hbe => by
      by_cases q : j = i
      · subst q
        rw [ho] at hj; cases hj
        by_cases q2 : e.on = j
        · rw [q2]; exact updD_same D j
        · rw [updD_ne q2]; exact hdep e he hbe
      · rw [updD_ne q] at hDj
        by_cases q2 : e.on = i
        · rw [q2]; exact updD_same D i
        · rw [updD_ne q2]; exact i6 j oj hj hDj e he hbe
    have hnext : ∀ (g' : γ) (v : Value) (w' : World), (∀ j, D j = true → (vs g')[j]? = (vs g)[j]?) → (∀ d, o.dst = some d → v = ((vs g')[i]?).getD undef) → WI g' (updD D i) w' → I (updD D i) (a.put o.dst v) w' := fun g' v w' hg hv hW => by
      refine ⟨g', ?_, ?_, ?_, ?_, hclo, hW⟩
      · cases o.dst <;> simp [Act.put, i1]
      · cases o.dst <;> simp [Act.put, i2]
      · intro j oj d hj hDj hdj
        by_cases e : j = i
        · subst e
          rw [ho'] at hj; cases hj
          rw [hdj, ← hv d hdj]
          have := hnn _ _ _ ho' hdj
          simp [Act.put, i1, this]
        · rw [updD_ne e] at hDj
          have h1 := i3 j oj d hj hDj hdj
          rw [← hg j hDj] at h1
          cases hdo : o.dst with
          | none => simpa [Act.put] using h1
          | some d' =>
            have hne : d' ≠ d := fun q => e (hdst j i oj o d hj ho' hdj (by rw [hdo, q]))
            simp [Act.put, Array.getElem?_setIfInBounds_ne hne, h1]
      · intro t u hu hno
        have hne : o.dst ≠ some t := fun q => by
          have := hno i o ho' q
          rw [updD_same] at this; cases this
        have hq := i4 t u hu fun j oj hj hdj => by
          have := hno j oj hj hdj
          by_cases e : j = i
          · subst e; rw [updD_same] at this; cases this
          · rwa [updD_ne e] at this
        cases hdo : o.dst with
        | none => simpa [Act.put] using hq
        | some d' =>
          have hne2 : d' ≠ t := fun q => hne (by rw [hdo, q])
          simp [Act.put, Array.getElem?_setIfInBounds_ne hne2, hq]
    have hok := AllOkX.get hops ho'
    rw [Nat.zero_add] at hok
    unfold wpOpIn
    simp only [ho]
    rcases hok with hok | hok
    · rcases hok g D w hDi hdep i6 i5 with ⟨h1, h2, h3⟩ | ⟨h1, h2, h3⟩
      · rw [if_pos (wants_spec hfr h1)]
        unfold Oper.wpIn
        rw [semAt_fen (hdf i o ho')]
        refine ⟨fun _ _ => trivial, ?_⟩
        rw [exec_known hfr h2]
        rcases h3 with ⟨g', w', hg, hr, hW⟩ | ⟨w', hr, hdn, hW⟩ | ⟨f, args, hr, hc⟩
        · rw [hr, Oper.uponIn_value]
          exact hnext g' _ _ hg (fun _ _ => rfl) hW
        · rw [hr, Oper.uponIn_skip]
          exact hnext g _ _ (fun _ _ => rfl) (fun d hd' => by rw [hdn] at hd'; cases hd') hW
        · rw [hr, Oper.uponIn_enter]
          refine ⟨fun q => absurd q Bool.false_ne_true, ?_⟩
          have h2 : CallsIn Fence.wide (m0 - 1) P f args w _ := callsIn_wide.2 hc
          have h3 : CallsIn (fen R) (m0 - 1) P f args w _ := h2
          refine h3.mono ?_
          rintro e w' ⟨g', hg, rfl, hW⟩
          exact hnext g' _ _ hg (fun _ _ => rfl) hW
      · rw [if_neg (by rw [wants_spec hfr h1]; exact Bool.false_ne_true)]
        exact ⟨fun _ _ => trivial, hnext g _ _ (fun _ _ => rfl) (fun _ _ => h2.symm) h3⟩
    · obtain ⟨h1, h2, l, fn, tmps, assign, body, hr, hc⟩ := hok g D w hDi hdep i6 i5
      rw [if_pos (wants_spec hfr h1)]
      unfold Oper.wpIn
      rw [semAt_fen (hdf i o ho')]
      refine ⟨fun _ _ => trivial, ?_⟩
      rw [exec_known hfr h2, hr, Oper.uponIn_round]
      refine ⟨fun q => absurd q Bool.false_ne_true, ?_⟩
      refine hc.mono ?_
      rintro e w' ⟨g', hg, rfl, hW⟩
      exact hnext g' _ _ hg (fun _ _ => rfl) hW
  · rintro D a w ⟨g, i1, i2, i3, i4, i6, i5⟩ hall
    refine hend g D w (fun i hi => hall i (by simpa using hi)) i5 a ⟨i1, i2, fun t v ht => ?_⟩
    rcases look_append2 ht with q | ⟨q, q5⟩
    · obtain ⟨⟨o, u⟩, hp, heq⟩ := List.mem_filterMap.1 q
      obtain ⟨j, hj⟩ := List.mem_iff_getElem?.1 hp
      rw [List.getElem?_zip_eq_some] at hj
      cases hdo : o.dst with
      | none => simp [hdo] at heq
      | some d =>
        simp [hdo] at heq
        obtain ⟨rfl, rfl⟩ := heq
        have := i3 j o d hj.1 (hall j (by have := (List.getElem?_eq_some_iff.1 hj.1).1; simpa using this)) hdo
        rw [hj.2] at this
        simpa using this
    · refine i4 t v q fun j o hj hdj => ?_
      exfalso
      have hvj : ∃ u, (vs g)[j]? = some u := ⟨(vs g)[j]'(by rw [hlen]; exact (List.getElem?_eq_some_iff.1 hj).1), List.getElem?_eq_getElem _⟩
      obtain ⟨u, hu⟩ := hvj
      exact q5 u (List.mem_filterMap.2 ⟨(o, u), List.mem_iff_getElem?.2 ⟨j, by rw [List.getElem?_zip_eq_some]; exact ⟨hj, hu⟩⟩, by simp [hdj]⟩)
  · have hno : ∀ j, (Array.replicate ls.toArray.size false).getD j false = true → False := fun j hDj' => by
      by_cases hj : j < ls.length
      · simp [hj] at hDj'
      · simp [hj] at hDj'
    refine ⟨g0, ha.sz, ha.df, fun j o d _ hDj _ => (hno j hDj).elim, fun t v ht _ => ha.kn t v (hsub.look ht), fun j o _ hDj => (hno j hDj).elim, ?_⟩
    · have : (fun j => (Array.replicate ls.toArray.size false).getD j false) = fun _ => false := by
        funext j
        by_cases hj : j < ls.length <;> simp [hj]
      rw [this]
      exact h0
end
end Fi
end Fw
end Go.Proofs.Ytmjnakhpekbenaa
namespace Go.Proofs.Ytmjnakhpekbenaa
open Go.RowKit
namespace Fw
namespace Fi
open Fw (Out OwnB)
theorem HPgrown {S : Nat → Prop} {w0 W W' : World} {H : List Ent} {row : Option Nat} (h : HP S w0 W H) (hg : W.grownBy W' row) (hr : ∀ r, row = some r → w0.heap.size ≤ r ∧ ∃ o : Obj, W.heap[r]? = some o ∧ o.isCells = false) : HP S w0 W' H := by
  refine ⟨hg.os.trans h.os, hg.tape.trans h.tape, hg.output.trans h.output, Nat.le_trans h.size hg.size, fun k hk hS => ?_, fun e he => ?_, h.fresh, h.apart⟩
  · rw [hg.block k (Nat.lt_of_lt_of_le hk h.size) fun e => by have := (hr k e.symm).1; omega]
    exact h.keep k hk hS
  · refine Fw.Ent.keep (h.hold e he) fun b hb => hg.block b (Fw.Ent.lt (h.hold e he) hb) fun q => ?_
    obtain ⟨-, o, ho, hc⟩ := hr b q.symm
    have hcell : ∃ c T z, W.heap[b]? = some (.cells c T z) := by
      have := h.hold e he
      cases e with
      | cel b' c T => simp only [Fw.Ent.blk, Option.some.injEq] at hb; subst hb; exact ⟨_, _, _, this⟩
      | own v k xs e s =>
        rcases this.2 with ⟨rfl, _⟩ | ⟨g, cap, cur, rfl, _, hh, _⟩
        · cases hb
        · simp only [Fw.Ent.blk, Value.ownBlock, Option.some.injEq] at hb; subst hb; exact ⟨_, _, _, hh⟩
    obtain ⟨c, T, z, hcc⟩ := hcell
    rw [hcc] at ho; cases ho; cases hc
theorem HPcells {S : Nat → Prop} {w0 W : World} {H : List Ent} (h : HP S w0 W H) {e : Ent} (he : e ∈ H) {b : Nat} (hb : e.blk = some b) : ∃ c T z, W.heap[b]? = some (.cells c T z) := by
  have := h.hold e he
  cases e with
  | cel b' c T => simp only [Fw.Ent.blk, Option.some.injEq] at hb; subst hb; exact ⟨_, _, _, this⟩
  | own v k xs e s =>
    rcases this.2 with ⟨rfl, _⟩ | ⟨g, cap, cur, rfl, _, hh, _⟩
    · cases hb
    · simp only [Fw.Ent.blk, Value.ownBlock, Option.some.injEq] at hb; subst hb; exact ⟨_, _, _, hh⟩
def KpB (n0 : Nat) (KB : List Nat) (A B : World) : Prop := (∀ k, k < n0 → B.heap[k]? = A.heap[k]?) ∧ ∀ b, b ∈ KB → B.heap[b]? = A.heap[b]?
theorem KpB.trans {n0 : Nat} {KB : List Nat} {A B C : World} (h : KpB n0 KB A B) (k : KpB n0 KB B C) : KpB n0 KB A C := ⟨fun i hi => (k.1 i hi).trans (h.1 i hi), fun b hb => (k.2 b hb).trans (h.2 b hb)⟩
def bodyP {X : Type} (S : Nat → Prop) (W : World) (H : X → List Ent) : Exit → Act → World → Prop
  | .normal, _, W' => ∃ g, HP S W W' (H g)
  | _, _, _ => False
section
variable {P : Program} {Q : Exit → Act → World → Prop} {n : Nat} {l : List (Nat × Value)} {w wl : World} {m0 : Nat}
theorem calls_ofX {f : FuncId} {fn : Func} {c : Code} {args : Array Value} {R : Ending → World → Prop} (hf : P.funcs[f]? = some fn) (hb : fn.body = some c) {m : Nat} (hm : fn.ntmps = m) (ts : List (Nat × Value))
    (hfr : Fr [] m ts ⟨args ++ Array.replicate (m - args.size) undef, []⟩) (h : XC none 5 [] P c (bodyPostM (fen none) 5 P fn R) m ts w) : Calls P f args w R := by
  refine callsIn_wide.1 (callsIn_of_wp_marks (F := Fence.wide) (n := 5) hf hb trivial ?_)
  rw [hm]
  exact h _ hfr
theorem XQ.end0B {fn : Func} {R : Ending → World → Prop} (hr : fn.results = #[]) (hR : R (.returned (.tuple #[])) w) : XQ [] (bodyPost P fn R) .normal n l w := fun a ha => bodyPost_end (v := .tuple #[]) (results_none hr _ _ _) ha.df hR
theorem XQ.ret0B {fn : Func} {R : Ending → World → Prop} (hr : fn.results = #[]) (hR : R (.returned (.tuple #[])) w) : XQ [] (bodyPost P fn R) .ret n l w := fun a ha => bodyPost_ret (v := .tuple #[]) (results_none hr _ _ _) ha.df hR
theorem callsIn_ofX {f : FuncId} {fn : Func} {c : Code} {args : Array Value} {R : Ending → World → Prop} (hf : P.funcs[f]? = some fn) (hb : fn.body = some c) {m : Nat} (hm : fn.ntmps = m) (ts : List (Nat × Value))
    (hfr : Fr [] m ts ⟨args ++ Array.replicate (m - args.size) undef, []⟩) (h : XC none m0 [] P c (bodyPost P fn R) m ts w) : CallsIn (fen none) m0 P f args w R := by
  refine callsIn_of_wp hf hb trivial ?_
  rw [hm]
  exact h _ hfr
theorem Fr_enter (vs : List Value) (m : Nat) (h : vs.length ≤ m) : Fr [] m (Fw.enum 0 vs) ⟨vs.toArray ++ Array.replicate (m - vs.toArray.size) undef, []⟩ := by
  have q := Fw.Fr_enter vs m h
  exact ⟨q.sz, q.df, q.kn⟩
theorem XQ.ret1M {fn : Func} {R : Ending → World → Prop} {v : Value} {D : Nat} (t : Nat) (hr : fn.results = #[.tmp t]) (h1 : look l t = some v) (hK : w.heap[D]? = some (.deferred (some []))) (hR : R (.returned v) (w.putObj D (.deferred none))) : XQ [{ target := .collected D, args := #[] }] (bodyPostM (fen none) 5 P fn R) .ret n l w := fun a ha => by
  show LeavesInM _ _ _ _ _ _ a.defers _ _
  rw [ha.df]
  exact ⟨by simp, .inl ⟨_, _, rfl, run_takeDeferred hK, v, by rw [results_tmp hr, ha.getD h1], hR⟩⟩
theorem XC.rangeFunc2 {α X : Type} {g : Operand} {p1 p2 d1 d2 i1 i2 : Nat} {t1 t2 : TypeId} {ps1 ps2 : String} {af1 af2 : Array Edge} {body : Code} {gf : Nat} {lb : Array Value} {w0 : World}
    (hg : ev l g = some (.func (.func gf) #[] lb)) (eg : ∀ args w, (callFunc gf args).run P w = .ok (.enter gf args) w)
    (e1 e2 : α → Value) {S Sp : List α → Prop} {N : Nat} (Hf : List α → X → List Ent) (KB : List Nat)
    (hseq : SeqStopsK (fen none) 4 P gf lb (fun x => #[e1 x, e2 x]) (KpB w0.heap.size KB) S Sp N wl)
    (hKB : ∀ b, b ∈ KB → ∃ c T, ∀ pre x, (Go.Proofs.Ytmjnakhpekbenaa.Fw.Ent.cel b c T) ∈ Hf pre x) (x0 : X) (h0 : HP Tr w0 wl (Hf [] x0))
    (hp1 : p1 < n) (hp2 : p2 < n) (hd1 : d1 < n) (hd2 : d2 < n) (hne : p1 ≠ p2) (hne2 : d1 ≠ p2)
    (hbody : ∀ ll pre x W gx, pre.length < N → OwnB W (Hf pre gx) → XC (some ll) 3 [] P body (bodyP (Out (Hf pre gx)) W (Hf (pre ++ [x]))) n ((d2, e2 x) :: (d1, e1 x) :: (p2, e2 x) :: (p1, e1 x) :: l) W)
    (hdone : ∀ D xs W gx, wl.heap.size ≤ D → S xs → HP Tr w0 W (Hf xs gx) → W.heap[D]? = some (.deferred (some [])) → XQ [{ target := .collected D, args := #[] }] Q .normal n l W) :
    XC none 5 [] P (.rangeFunc g #[p1, p2] (.seq (.region i1 #[{ dst := some d1, op := .assign (.tmp p1), type := t1, pos := ps1, after := af1, guard := none }] false) (.region i2 #[{ dst := some d2, op := .assign (.tmp p2), type := t2, pos := ps2, after := af2, guard := none }] false)) body) Q n l wl := by
  intro a ha
  have hKBlt : ∀ b, b ∈ KB → b < wl.heap.size := fun b hb => by
    obtain ⟨c, T, h⟩ := hKB b hb
    exact Fw.Ent.lt (h0.hold _ (h [] x0)) rfl
  refine wpIn_rangeFunc_ownG (F := fen none) (n := 5) (w0 := wl) rfl (by omega) (gf := gf) (lb := lb) (ha.ev hg) trivial eg hseq (fun h k => h.trans k) ?_ (Below.refl _ _) (fun _ => rfl)
    (fun pre W => ∃ gx, HP Tr w0 W (Hf pre gx)) (fun _ _ _ => False) ?_ (fun _ _ _ _ _ hs _ _ => hs) ⟨x0, h0⟩
    (fun x => (({ tmps := (a.tmps.setIfInBounds p1 (e1 x)).setIfInBounds p2 (e2 x), defers := [] } : Act).put (some d1) (e1 x)).put (some d2) (e2 x)) ?_ ?_ ?_ ?_
  · intro W r o o' hr ho hc _
    refine ⟨fun k hk => ?_, fun b hb => ?_⟩
    · exact World.putObj_heap_other (by have := h0.size; omega)
    · exact World.putObj_heap_other (by have := hKBlt b hb; omega)
  · rintro pre W W' row ⟨gx, h⟩ hgr hr
    exact ⟨gx, HPgrown h hgr fun r e => ⟨by have := (hr r e).1; have := h0.size; omega, (hr r e).2⟩⟩
  · intro ll x W K hK
    have f1 : Fr [] n ((p2, e2 x) :: (p1, e1 x) :: l) ({ tmps := (a.tmps.setIfInBounds p1 (e1 x)).setIfInBounds p2 (e2 x), defers := [] } : Act) := by
      have b0 : Fr [] n l { tmps := a.tmps, defers := [] } := ⟨ha.sz, rfl, ha.kn⟩
      exact (b0.put hp1 (e1 x)).put hp2 (e2 x)
    have hz : ((#[p1, p2].zip #[e1 x, e2 x]).foldl (fun (t : Array Value) (p, v) => t.setIfInBounds p v) a.tmps) = (a.tmps.setIfInBounds p1 (e1 x)).setIfInBounds p2 (e2 x) := by simp
    rw [hz]
    show Code.wpIn (fen (some ll)) 3 P _ _ ({ tmps := (a.tmps.setIfInBounds p1 (e1 x)).setIfInBounds p2 (e2 x), defers := [] } : Act) W
    refine wpIn_seq_k fun K' hK' => ?_
    refine wpIn_region_lit (l := [_]) ?_
    refine wpListIn_plain rfl fun K2 hK2 => ?_
    unfold Oper.wpIn
    rw [semAt_fen rfl]
    refine ⟨fun _ _ => trivial, ?_⟩
    rw [show (execOp _ _).run P W = .ok (.value (e1 x)) W from by
      rw [exec_known f1 (o := { dst := some d1, op := .assign (.tmp p1), type := t1, pos := ps1, after := af1, guard := none }) (by
        have : look ((p2, e2 x) :: (p1, e1 x) :: l) p1 = some (e1 x) := by rw [look_cons_ne (Ne.symm hne), look_cons_eq]
        simp [known, noSel, Op.operands, ev, this])]
      have : look ((p2, e2 x) :: (p1, e1 x) :: l) p1 = some (e1 x) := by rw [look_cons_ne (Ne.symm hne), look_cons_eq]
      simp [execOp, evD, ev, this, Sem.run]]
    rw [Oper.uponIn_value]
    refine hK2 _ _ ?_
    refine hK' _ _ ?_
    refine wpIn_region_lit (l := [_]) ?_
    refine wpListIn_plain rfl fun K3 hK3 => ?_
    unfold Oper.wpIn
    rw [semAt_fen rfl]
    refine ⟨fun _ _ => trivial, ?_⟩
    have f2 := f1.put hd1 (e1 x)
    rw [show (execOp _ _).run P W = .ok (.value (e2 x)) W from by
      rw [exec_known f2 (o := { dst := some d2, op := .assign (.tmp p2), type := t2, pos := ps2, after := af2, guard := none }) (by
        have : look ((d1, e1 x) :: (p2, e2 x) :: (p1, e1 x) :: l) p2 = some (e2 x) := by rw [look_cons_ne hne2, look_cons_eq]
        simp [known, noSel, Op.operands, ev, this])]
      have : look ((d1, e1 x) :: (p2, e2 x) :: (p1, e1 x) :: l) p2 = some (e2 x) := by rw [look_cons_ne hne2, look_cons_eq]
      simp [execOp, evD, ev, this, Sem.run]]
    rw [Oper.uponIn_value]
    exact hK3 _ _ hK
  · rintro ll pre x W ⟨gx, h⟩ hlt
    have hO : OwnB W (Hf pre gx) := ⟨h.hold, h.apart⟩
    have f1 : Fr [] n ((d2, e2 x) :: (d1, e1 x) :: (p2, e2 x) :: (p1, e1 x) :: l) ((({ tmps := (a.tmps.setIfInBounds p1 (e1 x)).setIfInBounds p2 (e2 x), defers := [] } : Act).put (some d1) (e1 x)).put (some d2) (e2 x)) := by
      have b0 : Fr [] n l { tmps := a.tmps, defers := [] } := ⟨ha.sz, rfl, ha.kn⟩
      exact (((b0.put hp1 (e1 x)).put hp2 (e2 x)).put hd1 (e1 x)).put hd2 (e2 x)
    refine wpIn_mono (hbody ll pre x W gx hlt hO _ f1) fun e a' W' hq => ?_
    cases e with
    | normal =>
      obtain ⟨gx', hq⟩ := hq
      refine ⟨⟨hq.size, fun k o _ ho hc => ?_⟩, ⟨fun k hk => ?_, fun b hb => ?_⟩, gx', ?_⟩
      · rw [hq.keep k (Array.getElem?_eq_some_iff.1 ho).1 fun e he hbk => ?_]; exact ho
        obtain ⟨c, T, z, hcc⟩ := HPcells h he hbk
        rw [hcc] at ho; cases ho; cases hc
      · exact hq.keep k (by have := h.size; omega) fun e he hbk => h.fresh e he k hbk hk trivial
      · obtain ⟨c, T, hm⟩ := hKB b hb
        have q1 : W.heap[b]? = some (.cells c T (0, 0)) := h.hold _ (hm pre gx)
        have q2 : W'.heap[b]? = some (.cells c T (0, 0)) := hq.hold _ (hm (pre ++ [x]) gx')
        rw [q1, q2]
      · have := Go.Proofs.Ytmjnakhpekbenaa.Fw.HP.exch (A := []) (B := Hf pre gx) h hq
        simpa using this
    | exit id => exact hq.elim
    | goto t => exact hq.elim
    | ret => exact hq.elim
    | panic c => exact hq.elim
    | outgrown => exact hq.elim
  · rintro D xs W hD hS ⟨gx, h⟩ hK
    have := hdone D xs W gx hD hS h hK
    exact this _ ⟨ha.sz, by rw [ha.df], ha.kn⟩
  · rintro D c pre W _ _ h _
    exact h.elim
end
end Fi
end Fw
end Go.Proofs.Ytmjnakhpekbenaa
namespace Go.Proofs.Ytmjnakhpekbenaa
set_option maxRecDepth 20000
set_option maxHeartbeats 4000000
open Go.RowKit Fw
namespace Ca
def inS (s x : Int) (p : T2) : Bool := decide (p.1 ≠ x) && decide (p.1.tmod s = x.tmod s)
abbrev TV := { q : T2 // -1000 ≤ q.2 ∧ q.2 ≤ 1000 }
def osA (s x : Int) (t : List TV) : List TV := t.filter fun q => inS s x q.1
theorem os_take {s x : Int} {t : List TV} {i : Nat} {xa : TV} (h : t[i]? = some xa) : osA s x (t.take (i + 1)) = osA s x (t.take i) ++ (if inS s x xa.1 = true then [xa] else []) := by
  unfold osA
  rw [List.take_add_one, List.filter_append, h]
  simp [List.filter_cons]
structure Rd (n0 : Nat) (W : World) (b3 b4 b5 : Nat) (p : Option Addr) (t : List T2) (cp : Nat) (s x : Int) : Prop where
  h3 : W.heap[b3]? = some (.cells #[.slice p t.length cp] 88 (0, 0))
  h4 : W.heap[b4]? = some (.cells #[vI s] 3 (0, 0))
  h5 : W.heap[b5]? = some (.cells #[vI x] 3 (0, 0))
  ht : 0 < t.length → ∃ g o, p = some ⟨g, o, none⟩ ∧ g < n0 ∧ ∀ i, i < t.length → W.rangeAt g (o + i * 2) [vI (lnT t i), vI (agT t i)]
theorem rangeAt_heap {W W' : World} {g o : Nat} {cs : List Value} (h : W'.heap[g]? = W.heap[g]?) (hr : W.rangeAt g o cs) : W'.rangeAt g o cs := fun j v hv => by
  have := hr j v hv
  unfold World.cell? at this ⊢
  rw [h]; exact this
theorem Rd.keep {n0 : Nat} {W W' : World} {b3 b4 b5 : Nat} {p : Option Addr} {t : List T2} {cp : Nat} {s x : Int} (h : Rd n0 W b3 b4 b5 p t cp s x) (hk : Fi.KpB n0 [b3, b4, b5] W W') : Rd n0 W' b3 b4 b5 p t cp s x :=
  ⟨(hk.2 b3 (by simp)).trans h.h3, (hk.2 b4 (by simp)).trans h.h4, (hk.2 b5 (by simp)).trans h.h5, fun h0 => by
    obtain ⟨g, o, hp, hg, hr⟩ := h.ht h0
    exact ⟨g, o, hp, hg, fun i hi => rangeAt_heap (hk.1 g hg) (hr i hi)⟩⟩
theorem Rd.below {n0 : Nat} {W W' : World} {b3 b4 b5 : Nat} {p : Option Addr} {t : List T2} {cp : Nat} {s x : Int} (h : Rd n0 W b3 b4 b5 p t cp s x) (hb : Below W.heap.size W W') : Rd n0 W' b3 b4 b5 p t cp s x := by
  have lt : ∀ {b o}, W.heap[b]? = some o → b < W.heap.size := fun h => (Array.getElem?_eq_some_iff.1 h).1
  exact ⟨(hb.block _ (lt h.h3)).trans h.h3, (hb.block _ (lt h.h4)).trans h.h4, (hb.block _ (lt h.h5)).trans h.h5, fun h0 => by
    obtain ⟨g, o, hp, hg, hr⟩ := h.ht h0
    exact ⟨g, o, hp, hg, fun i hi => HP.oldRange (HP.of_below (S := Tr) hb) trivial (hr i hi)⟩⟩
theorem Rd.cell {n0 : Nat} {W : World} {b3 b4 b5 : Nat} {p : Option Addr} {t : List T2} {cp : Nat} {s x : Int} (h : Rd n0 W b3 b4 b5 p t cp s x) : W.cell? ⟨b3, 0, none⟩ = some (.slice p t.length cp) ∧ W.cell? ⟨b4, 0, none⟩ = some (vI s) ∧ W.cell? ⟨b5, 0, none⟩ = some (vI x) := by
  refine ⟨?_, ?_, ?_⟩ <;> simp [World.cell?, h.h3, h.h4, h.h5]
theorem grown_hp {w w' : World} {H : List Ent} (h : HP Tr w w' H) : w.grownBy w' none := ⟨h.os, h.tape, h.output, h.size, fun k hk _ => h.keep k hk trivial⟩
theorem others_any (p : Option Addr) (t : List T2) (cp : Nat) (s x : Int) (w : World) : Calls Try.prog 97 #[.slice p t.length cp, vI s, vI x] w fun e w' => ∃ b3 b4 b5, e = .returned (.func (.func 111) #[] #[vP b3 0, vP b5 0, vP b4 0]) ∧ HP Tr w w' [.cel b3 #[.slice p t.length cp] 88, .cel b4 #[vI s] 3, .cel b5 #[vI x] 3] := by
  refine calls_of Try.func97 rfl (m := 8) rfl [(0, .slice p t.length cp), (1, vI s), (2, vI x)] (Fr_enter [.slice p t.length cp, vI s, vI x] 8 (Nat.le_of_ble_eq_true rfl)) ?_
  have hH1 : HP Tr w w [] := HP.refl w
  refine WC.seq fun K2 hK2 => WC.region ?_
  refine WL.alloc (c := #[.slice p t.length cp]) (T := 88) hH1 3 rfl (by decide) rfl rfl (fun b3 => vP b3 0) (by kernel_rfl) (fun b3 w3 hw3 => ?_)
  have hH4 : HP Tr w w3 [.cel b3 #[.slice p t.length cp] 88] := hw3.2
  have nb3 := hw3.1
  clear hw3
  refine WL.alloc (c := #[vI s]) (T := 3) hH4 4 rfl (by decide) rfl rfl (fun b4 => vP b4 0) (by kernel_rfl) (fun b4 w5 hw5 => ?_)
  have hH6 : HP Tr w w5 [.cel b3 #[.slice p t.length cp] 88, .cel b4 #[vI s] 3] := hw5.2
  have nb4 := hw5.1
  clear hw5
  refine WL.alloc (c := #[vI x]) (T := 3) hH6 5 rfl (by decide) rfl rfl (fun b5 => vP b5 0) (by kernel_rfl) (fun b5 w7 hw7 => ?_)
  have hH8 : HP Tr w w7 [.cel b3 #[.slice p t.length cp] 88, .cel b4 #[vI s] 3, .cel b5 #[vI x] 3] := hw7.2
  have nb5 := hw7.1
  clear hw7
  refine WL.z (.nilFunc) 6 (WL.k hK2 (WC.seq fun K9 hK9 => WC.region (WL.z (.func (.func 111) #[] #[vP b3 0, vP b5 0, vP b4 0]) 7 (WL.z (.func (.func 111) #[] #[vP b3 0, vP b5 0, vP b4 0]) 6 (WL.k hK9 (WC.ret ?_))))))
  refine WQ.ret1 6 rfl rfl ?_
  exact ⟨b3, b4, b5, rfl, hH8⟩

theorem os_pre {s x : Int} {t : List TV} {i : Nat} : osA s x (t.take i) <+: osA s x t := by
  have h := List.take_append_drop i t
  refine ⟨osA s x (t.drop i), ?_⟩
  unfold osA
  rw [← List.filter_append, h]
theorem ln_ta {ta : List TV} {t : List T2} (h : t = ta.map (·.1)) {i : Nat} {xa : TV} (hx : ta[i]? = some xa) : xa.1.1 = lnT t i ∧ xa.1.2 = agT t i := by
  subst h; simp [lnT, agT, List.getD_eq_getElem?_getD, hx]
theorem yield_op {P : Program} {ρ : Operand → Value} {o : Oper} {W : World} {l : Nat} {u v : Value} {x y z : Operand} {at' : Array TypeId} {fn : FuncId} {tmps : Array Value} {assign body : Code} (hy : (Instr.yield l #[u, v]).run P W = .ok (.round l fn tmps assign body) W)
    (ho : o.op = .call { callee := .value z, args := #[x, y], argTypes := at' }) (hz : ρ z = .func (.yield l) #[] #[] := by rfl) (hx : ρ x = u := by rfl) (hy2 : ρ y = v := by rfl) : (execOp ρ o).run P W = .ok (.round l fn tmps assign body) W := by
  unfold execOp; rw [ho]
  simp [resolve, invoke, Deferred.ofValue, hz, hx, hy2, hy]
theorem others_stops (n0 : Nat) (wl : World) (b3 b4 b5 : Nat) (p : Option Addr) (ta : List TV) (t : List T2) (ht9 : t = ta.map (·.1)) (cp : Nat) (s x : Int) (hs0 : s ≠ 0) (hn : t.length ≤ 281474976710656) (hn0 : n0 ≤ wl.heap.size) (hRd9 : Rd n0 wl b3 b4 b5 p t cp s x) :
    SeqStopsK (Fi.fen none) 4 Try.prog 111 #[vP b3 0, vP b5 0, vP b4 0] (fun q : TV => #[vI q.1.1, vI q.1.2]) (Fi.KpB n0 [b3, b4, b5]) (fun xs => xs = osA s x ta) (fun pre => pre <+: osA s x ta) (osA s x ta).length wl := by
  intro ll J Jx W hbw hJ hJx hY h0
  have hl9 : t.length = ta.length := by rw [ht9]; simp
  have hRd0 : Rd n0 W b3 b4 b5 p t cp s x := hRd9.below hbw
  open Fi in
  have hcells := hRd0.cell
  refine callsIn_ofX Try.func111 rfl (m := 37) rfl [(0, .func (.yield ll) #[] #[]), (1, vP b3 0), (2, vP b5 0), (3, vP b4 0)] (Fr_enter [.func (.yield ll) #[] #[], vP b3 0, vP b5 0, vP b4 0] 37 (Nat.le_of_ble_eq_true rfl)) ?_
  have hH1 : HP Tr W W [] := HP.refl W
  have hH2 : HP Tr W _ [] := HP.refl W
  refine XC.seq fun K3 hK3 => ?_
  refine XC.region ?_
  refine XL.pure (v := .slice p t.length cp) 7 rfl (Nat.le_of_ble_eq_true rfl) rfl rfl (x_load rfl rfl Try.underlying88 rfl (HP.old hH2 trivial hcells.1)) ?_
  refine XL.pure (v := vI (t.length : Int)) 8 rfl (Nat.le_of_ble_eq_true rfl) rfl rfl (by kernel_rfl) ?_
  refine XL.pure (v := vI 0) 9 rfl (Nat.le_of_ble_eq_true rfl) rfl rfl (by kernel_rfl) ?_
  refine XL.nil ?_
  refine XQ.then ?_
  refine hK3 _ _ _ _ ?_
  refine XC.block ?_
  refine XC.loop (fun kk0 ll0 ww0 => ∃ (i : Nat), ll0 = [(0, .func (.yield ll) #[] #[]), (1, vP b3 0), (2, vP b5 0), (3, vP b4 0), (7, .slice p t.length cp), (8, vI (t.length : Int)), (9, vI (i : Int))] ∧ kk0 = t.length - i ∧ (i ≤ t.length) ∧ (J (osA s x (ta.take i)) ww0) ∧ (Rd n0 ww0 b3 b4 b5 p t cp s x) ∧ HP Tr ww0 ww0 []) (t.length) [(0, .func (.yield ll) #[] #[]), (1, vP b3 0), (2, vP b5 0), (3, vP b4 0), (7, .slice p t.length cp), (8, vI (t.length : Int)), (9, vI 0)] ⟨rfl, rfl, rfl, rfl, rfl, rfl, rfl, trivial⟩ ⟨0, rfl, rfl, Nat.zero_le _, h0, hRd0, HP.refl _⟩ ?_
  rintro kk l w5 ⟨i, rfl, hkk, hi, hJp, hRd, hH6⟩ K4 hK4
  have hH7 : HP Tr w5 w5 [] := HP.refl w5
  have hcells := hRd.cell
  refine XC.seq fun K8 hK8 => ?_
  refine XC.region ?_
  by_cases hlt : (i : Int) < (t.length : Int)
  ·
    refine XL.pure (v := .bool true) 10 rfl (Nat.le_of_ble_eq_true rfl) rfl rfl (x_lss rfl rfl rfl (dT (hlt))) ?_
    refine XL.nil ?_
    refine XQ.then ?_
    refine hK8 _ _ _ _ ?_
    refine XC.seq fun K9 hK9 => ?_
    refine XC.yes rfl ?_
    refine XC.skip ?_
    refine XQ.then ?_
    refine hK9 _ _ _ _ ?_
    refine XC.seq fun K10 hK10 => ?_
    refine XC.block ?_
    refine XC.seq fun K11 hK11 => ?_
    obtain ⟨g, o, rfl, hg0, hrow⟩ := hRd.ht (by omega)
    obtain ⟨xa, hxa⟩ : ∃ xa, ta[i]? = some xa := ⟨ta[i]'(by rw [← hl9]; omega), List.getElem?_eq_getElem _⟩
    obtain ⟨hxa1, hxa2⟩ := ln_ta ht9 hxa
    have htk := os_take (s := s) (x := x) hxa
    refine XC.region ?_
    refine XL.pure (v := vP g (o + i * 2)) 11 rfl (Nat.le_of_ble_eq_true rfl) rfl rfl (x_ix (i) (o + i * 2) Try.underlying88 sz83) ?_
    refine XL.pure (v := .agg #[vI (lnT t i), vI (agT t i)]) 12 rfl (Nat.le_of_ble_eq_true rfl) rfl rfl (x_loadS (cs := [vI (lnT t i), vI (agT t i)]) rfl rfl Try.underlying83 rfl sz83 (HP.oldRange hH7 trivial (hrow i (by omega)))) ?_
    refine XL.alloc (c := #[vI 0, vI 0]) (T := 83) hH7 6 rfl (by decide) rfl rfl (fun b6 => vP b6 0) (by kernel_rfl) (fun b6 w12 hw12 => ?_)
    have hH13 : HP Tr w5 w12 [.cel b6 #[vI 0, vI 0] 83] := hw12.2
    have nb6 := hw12.1
    clear hw12
    refine XL.storeS (H2 := [.cel b6 #[vI (lnT t i), vI (agT t i)] 83]) 0 hH13 rfl rfl rfl rfl rfl rfl sz83 rfl (Nat.le_of_ble_eq_true rfl) rfl rfl ?_
    intro w14 hH15
    refine XL.nil ?_
    refine XQ.then ?_
    refine hK11 _ _ _ _ ?_
    refine XC.seq fun K16 hK16 => ?_
    by_cases hx1 : lnT t i = x
    ·
      have hin : inS s x xa.1 = false := by unfold inS; rw [hxa1]; simp [hx1]
      rw [hin] at htk
      simp only [if_true, Bool.false_eq_true, if_false, List.append_nil] at htk
      refine XC.confH (γ := Unit) [(6, vP b6 0), (12, .agg #[vI (lnT t i), vI (agT t i)]), (11, vP g (o + i * 2)), (10, .bool true), (0, .func (.yield ll) #[] #[]), (1, vP b3 0), (2, vP b5 0), (3, vP b4 0), (7, .slice (some ⟨g, o, none⟩) t.length cp), (8, vI (t.length : Int)), (9, vI (i : Int))] (fun gy => [vP b6 0, vI (lnT t i), vI x, .bool false, .bool false, undef, undef, undef, undef, undef, undef, undef, undef, .bool false, .bool false, undef, undef, undef, undef, undef, undef, undef, .bool false]) (fun gy D wz => HP Tr w5 wz [.cel b6 #[vI (lnT t i), vI (agT t i)] 83]) () (by kernel_rfl) ⟨rfl, rfl, rfl, rfl, rfl, rfl, rfl, rfl, rfl, rfl, rfl, trivial⟩ (by kernel_rfl) (by kernel_rfl) (by kernel_rfl) (fun _ => rfl) (by kernel_rfl) (HP.drew hH15) ?_ ?_
      · refine AllOkX.cons ?o0 (AllOkX.cons ?o1 (AllOkX.cons ?o2 (AllOkX.cons ?o3 (AllOkX.cons ?o4 (AllOkX.cons ?o5 (AllOkX.cons ?o6 (AllOkX.cons ?o7 (AllOkX.cons ?o8 (AllOkX.cons ?o9 (AllOkX.cons ?o10 (AllOkX.cons ?o11 (AllOkX.cons ?o12 (AllOkX.cons ?o13 (AllOkX.cons ?o14 (AllOkX.cons ?o15 (AllOkX.cons ?o16 (AllOkX.cons ?o17 (AllOkX.cons ?o18 (AllOkX.cons ?o19 (AllOkX.cons ?o20 (AllOkX.cons ?o21 (AllOkX.cons ?o22 (AllOkX.nil _)))))))))))))))))))))))
        case o0 =>
          intro gy D wz hDi hdep hclo hW
          exact .inl ⟨rfl, rfl, .inl ⟨gy, wz, fun _ _ => rfl, x_idxArr (0) (0) rfl rfl rfl Try.underlying83 sz3 (by omega) (by omega) (by omega), hW⟩⟩
        case o1 =>
          intro gy D wz hDi hdep hclo hW
          exact .inl ⟨rfl, rfl, .inl ⟨gy, wz, fun _ _ => rfl, x_load rfl rfl Try.underlying3 rfl (HP.cell hW 0 rfl rfl), hW⟩⟩
        case o2 =>
          intro gy D wz hDi hdep hclo hW
          exact .inl ⟨rfl, rfl, .inl ⟨gy, wz, fun _ _ => rfl, x_load rfl rfl Try.underlying3 rfl (HP.old hW trivial hcells.2.2), hW⟩⟩
        case o3 =>
          intro gy D wz hDi hdep hclo hW
          exact .inl ⟨rfl, rfl, .inl ⟨gy, wz, fun _ _ => rfl, x_neq rfl rfl rfl (dF (fun h => h hx1)), hW⟩⟩
        case o4 =>
          intro gy D wz hDi hdep hclo hW
          exact .inl ⟨rfl, rfl, .inl ⟨gy, wz, fun _ _ => rfl, by kernel_rfl, hW⟩⟩
        case o5 =>
          intro gy D wz hDi hdep hclo hW
          exact .inr ⟨rfl, rfl, hW⟩
        case o6 =>
          intro gy D wz hDi hdep hclo hW
          exact .inr ⟨rfl, rfl, hW⟩
        case o7 =>
          intro gy D wz hDi hdep hclo hW
          exact .inr ⟨rfl, rfl, hW⟩
        case o8 =>
          intro gy D wz hDi hdep hclo hW
          exact .inr ⟨rfl, rfl, hW⟩
        case o9 =>
          intro gy D wz hDi hdep hclo hW
          exact .inr ⟨rfl, rfl, hW⟩
        case o10 =>
          intro gy D wz hDi hdep hclo hW
          exact .inr ⟨rfl, rfl, hW⟩
        case o11 =>
          intro gy D wz hDi hdep hclo hW
          exact .inr ⟨rfl, rfl, hW⟩
        case o12 =>
          intro gy D wz hDi hdep hclo hW
          exact .inr ⟨rfl, rfl, hW⟩
        case o13 =>
          intro gy D wz hDi hdep hclo hW
          exact .inl ⟨rfl, rfl, .inl ⟨gy, wz, fun _ _ => rfl, by kernel_rfl, hW⟩⟩
        case o14 =>
          intro gy D wz hDi hdep hclo hW
          exact .inl ⟨rfl, rfl, .inl ⟨gy, wz, fun _ _ => rfl, by kernel_rfl, hW⟩⟩
        case o15 =>
          intro gy D wz hDi hdep hclo hW
          exact .inr ⟨rfl, rfl, hW⟩
        case o16 =>
          intro gy D wz hDi hdep hclo hW
          exact .inr ⟨rfl, rfl, hW⟩
        case o17 =>
          intro gy D wz hDi hdep hclo hW
          exact .inr ⟨rfl, rfl, hW⟩
        case o18 =>
          intro gy D wz hDi hdep hclo hW
          exact .inr ⟨rfl, rfl, hW⟩
        case o19 =>
          intro gy D wz hDi hdep hclo hW
          exact .inr ⟨rfl, rfl, hW⟩
        case o20 =>
          intro gy D wz hDi hdep hclo hW
          exact .inr ⟨rfl, rfl, hW⟩
        case o21 =>
          intro gy D wz hDi hdep hclo hW
          exact .inr ⟨rfl, rfl, hW⟩
        case o22 =>
          intro gy D wz hDi hdep hclo hW
          exact .inl ⟨rfl, rfl, .inl ⟨gy, wz, fun _ _ => rfl, by kernel_rfl, hW⟩⟩
      rintro gy D w17 hall hH18
      clear hall
      refine XQ.sub (l' := [(0, .func (.yield ll) #[] #[]), (1, vP b3 0), (2, vP b5 0), (3, vP b4 0), (6, vP b6 0), (7, .slice (some ⟨g, o, none⟩) t.length cp), (8, vI (t.length : Int)), (9, vI (i : Int)), (10, .bool true), (35, .bool false)]) ⟨rfl, rfl, rfl, rfl, rfl, rfl, rfl, rfl, rfl, rfl, trivial⟩ ?_
      refine XQ.then ?_
      refine hK16 _ _ _ _ ?_
      refine XC.no rfl ?_
      refine XC.skip ?_
      refine XQ.inNormal ?_
      refine XQ.then ?_
      refine hK10 _ _ _ _ ?_
      refine XC.region ?_
      refine XL.pure (v := vI ((i + 1 : Nat) : Int)) 36 rfl (Nat.le_of_ble_eq_true rfl) rfl rfl (x_ad (((i + 1 : Nat) : Int))) ?_
      refine XL.pure (v := vI ((i + 1 : Nat) : Int)) 9 rfl (Nat.le_of_ble_eq_true rfl) rfl rfl (by kernel_rfl) ?_
      refine XL.nil ?_
      refine XQ.sub (l' := [(0, .func (.yield ll) #[] #[]), (1, vP b3 0), (2, vP b5 0), (3, vP b4 0), (7, .slice (some ⟨g, o, none⟩) t.length cp), (8, vI (t.length : Int)), (9, vI ((i + 1 : Nat) : Int))]) ⟨rfl, rfl, rfl, rfl, rfl, rfl, rfl, trivial⟩ ?_
      refine XQ.then (hK4 _ _ _ (by omega) ⟨i + 1, rfl, rfl, by omega, by rw [htk]; exact hJ _ _ _ none hJp (grown_hp hH18) (fun r e => by cases e), hRd.below (HP.below hH18), HP.refl _⟩)
    ·
      by_cases hx2 : (lnT t i).tmod s = x.tmod s
      ·
        have hin : inS s x xa.1 = true := by unfold inS; rw [hxa1]; simp [hx1, hx2]
        rw [hin] at htk
        simp only [if_true, Bool.false_eq_true, if_false, List.append_nil] at htk
        have hlen : (osA s x (ta.take i)).length < (osA s x ta).length := by have q9 := (os_pre (s := s) (x := x) (t := ta) (i := i + 1)).length_le; rw [htk] at q9; simp at q9; omega
        refine XC.confH (γ := Bool) [(6, vP b6 0), (12, .agg #[vI (lnT t i), vI (agT t i)]), (11, vP g (o + i * 2)), (10, .bool true), (0, .func (.yield ll) #[] #[]), (1, vP b3 0), (2, vP b5 0), (3, vP b4 0), (7, .slice (some ⟨g, o, none⟩) t.length cp), (8, vI (t.length : Int)), (9, vI (i : Int))] (fun gy => [vP b6 0, vI (lnT t i), vI x, .bool true, .bool true, vP b6 0, vI (lnT t i), vI s, vI ((lnT t i).tmod s), vI x, vI s, vI ((x).tmod s), .bool true, .bool true, .bool true, .func (.yield ll) #[] #[], vP b6 0, vI (lnT t i), vP b6 1, vI (agT t i), .bool gy, .bool (!gy), .bool (!gy)]) (fun gy D wz => (D 20 = false → (HP Tr w5 wz [.cel b6 #[vI (lnT t i), vI (agT t i)] 83] ∧ J (osA s x (ta.take i)) wz)) ∧ (D 20 = true → ((gy = true ∧ J (osA s x (ta.take i) ++ [xa]) wz ∧ Rd n0 wz b3 b4 b5 (some ⟨g, o, none⟩) t cp s x) ∨ (gy = false ∧ Jx (osA s x (ta.take i) ++ [xa]) wz)))) false (by kernel_rfl) ⟨rfl, rfl, rfl, rfl, rfl, rfl, rfl, rfl, rfl, rfl, rfl, trivial⟩ (by kernel_rfl) (by kernel_rfl) (by kernel_rfl) (fun _ => rfl) (by kernel_rfl) ⟨fun _ => ⟨HP.drew hH15, hJ _ _ _ none hJp (grown_hp (HP.drew hH15)) (fun r e => by cases e)⟩, (fun h => by cases h)⟩ ?_ ?_
        · refine AllOkX.cons ?o0 (AllOkX.cons ?o1 (AllOkX.cons ?o2 (AllOkX.cons ?o3 (AllOkX.cons ?o4 (AllOkX.cons ?o5 (AllOkX.cons ?o6 (AllOkX.cons ?o7 (AllOkX.cons ?o8 (AllOkX.cons ?o9 (AllOkX.cons ?o10 (AllOkX.cons ?o11 (AllOkX.cons ?o12 (AllOkX.cons ?o13 (AllOkX.cons ?o14 (AllOkX.cons ?o15 (AllOkX.cons ?o16 (AllOkX.cons ?o17 (AllOkX.cons ?o18 (AllOkX.cons ?o19 (AllOkX.consR ?o20 (AllOkX.cons ?o21 (AllOkX.cons ?o22 (AllOkX.nil _)))))))))))))))))))))))
          case o0 =>
            intro gy D wz hDi hdep hclo hWI
            have d1 : D 1 = false := by
              cases h : D 1 with
              | false => rfl
              | true => exact absurd (hclo 1 _ rfl h ⟨0, .data⟩ (by simp) rfl) (by rw [hDi]; exact Bool.false_ne_true)
            have d3 : D 3 = false := by
              cases h : D 3 with
              | false => rfl
              | true => exact absurd (hclo 3 _ rfl h ⟨1, .data⟩ (by simp) rfl) (by rw [d1]; exact Bool.false_ne_true)
            have d4 : D 4 = false := by
              cases h : D 4 with
              | false => rfl
              | true => exact absurd (hclo 4 _ rfl h ⟨3, .data⟩ (by simp) rfl) (by rw [d3]; exact Bool.false_ne_true)
            have d14 : D 14 = false := by
              cases h : D 14 with
              | false => rfl
              | true => exact absurd (hclo 14 _ rfl h ⟨4, .chain⟩ (by simp) rfl) (by rw [d4]; exact Bool.false_ne_true)
            have d20 : D 20 = false := by
              cases h : D 20 with
              | false => rfl
              | true => exact absurd (hclo 20 _ rfl h ⟨14, .chain⟩ (by simp) rfl) (by rw [d14]; exact Bool.false_ne_true)
            obtain ⟨hW0, hJ9⟩ := hWI.1 d20
            have hW := hW0
            exact .inl ⟨rfl, rfl, .inl ⟨gy, wz, fun _ _ => rfl, x_idxArr (0) (0) rfl rfl rfl Try.underlying83 sz3 (by omega) (by omega) (by omega), hWI⟩⟩
          case o1 =>
            intro gy D wz hDi hdep hclo hWI
            have d3 : D 3 = false := by
              cases h : D 3 with
              | false => rfl
              | true => exact absurd (hclo 3 _ rfl h ⟨1, .data⟩ (by simp) rfl) (by rw [hDi]; exact Bool.false_ne_true)
            have d4 : D 4 = false := by
              cases h : D 4 with
              | false => rfl
              | true => exact absurd (hclo 4 _ rfl h ⟨3, .data⟩ (by simp) rfl) (by rw [d3]; exact Bool.false_ne_true)
            have d14 : D 14 = false := by
              cases h : D 14 with
              | false => rfl
              | true => exact absurd (hclo 14 _ rfl h ⟨4, .chain⟩ (by simp) rfl) (by rw [d4]; exact Bool.false_ne_true)
            have d20 : D 20 = false := by
              cases h : D 20 with
              | false => rfl
              | true => exact absurd (hclo 20 _ rfl h ⟨14, .chain⟩ (by simp) rfl) (by rw [d14]; exact Bool.false_ne_true)
            obtain ⟨hW0, hJ9⟩ := hWI.1 d20
            have hW := hW0
            exact .inl ⟨rfl, rfl, .inl ⟨gy, wz, fun _ _ => rfl, x_load rfl rfl Try.underlying3 rfl (HP.cell hW 0 rfl rfl), hWI⟩⟩
          case o2 =>
            intro gy D wz hDi hdep hclo hWI
            have d3 : D 3 = false := by
              cases h : D 3 with
              | false => rfl
              | true => exact absurd (hclo 3 _ rfl h ⟨2, .data⟩ (by simp) rfl) (by rw [hDi]; exact Bool.false_ne_true)
            have d4 : D 4 = false := by
              cases h : D 4 with
              | false => rfl
              | true => exact absurd (hclo 4 _ rfl h ⟨3, .data⟩ (by simp) rfl) (by rw [d3]; exact Bool.false_ne_true)
            have d14 : D 14 = false := by
              cases h : D 14 with
              | false => rfl
              | true => exact absurd (hclo 14 _ rfl h ⟨4, .chain⟩ (by simp) rfl) (by rw [d4]; exact Bool.false_ne_true)
            have d20 : D 20 = false := by
              cases h : D 20 with
              | false => rfl
              | true => exact absurd (hclo 20 _ rfl h ⟨14, .chain⟩ (by simp) rfl) (by rw [d14]; exact Bool.false_ne_true)
            obtain ⟨hW0, hJ9⟩ := hWI.1 d20
            have hW := hW0
            exact .inl ⟨rfl, rfl, .inl ⟨gy, wz, fun _ _ => rfl, x_load rfl rfl Try.underlying3 rfl (HP.old hW trivial hcells.2.2), hWI⟩⟩
          case o3 =>
            intro gy D wz hDi hdep hclo hWI
            have d4 : D 4 = false := by
              cases h : D 4 with
              | false => rfl
              | true => exact absurd (hclo 4 _ rfl h ⟨3, .data⟩ (by simp) rfl) (by rw [hDi]; exact Bool.false_ne_true)
            have d14 : D 14 = false := by
              cases h : D 14 with
              | false => rfl
              | true => exact absurd (hclo 14 _ rfl h ⟨4, .chain⟩ (by simp) rfl) (by rw [d4]; exact Bool.false_ne_true)
            have d20 : D 20 = false := by
              cases h : D 20 with
              | false => rfl
              | true => exact absurd (hclo 20 _ rfl h ⟨14, .chain⟩ (by simp) rfl) (by rw [d14]; exact Bool.false_ne_true)
            obtain ⟨hW0, hJ9⟩ := hWI.1 d20
            have hW := hW0
            exact .inl ⟨rfl, rfl, .inl ⟨gy, wz, fun _ _ => rfl, x_neq rfl rfl rfl (dT (hx1)), hWI⟩⟩
          case o4 =>
            intro gy D wz hDi hdep hclo hWI
            have d14 : D 14 = false := by
              cases h : D 14 with
              | false => rfl
              | true => exact absurd (hclo 14 _ rfl h ⟨4, .chain⟩ (by simp) rfl) (by rw [hDi]; exact Bool.false_ne_true)
            have d20 : D 20 = false := by
              cases h : D 20 with
              | false => rfl
              | true => exact absurd (hclo 20 _ rfl h ⟨14, .chain⟩ (by simp) rfl) (by rw [d14]; exact Bool.false_ne_true)
            obtain ⟨hW0, hJ9⟩ := hWI.1 d20
            have hW := hW0
            exact .inl ⟨rfl, rfl, .inl ⟨gy, wz, fun _ _ => rfl, by kernel_rfl, hWI⟩⟩
          case o5 =>
            intro gy D wz hDi hdep hclo hWI
            have d6 : D 6 = false := by
              cases h : D 6 with
              | false => rfl
              | true => exact absurd (hclo 6 _ rfl h ⟨5, .data⟩ (by simp) rfl) (by rw [hDi]; exact Bool.false_ne_true)
            have d8 : D 8 = false := by
              cases h : D 8 with
              | false => rfl
              | true => exact absurd (hclo 8 _ rfl h ⟨6, .data⟩ (by simp) rfl) (by rw [d6]; exact Bool.false_ne_true)
            have d12 : D 12 = false := by
              cases h : D 12 with
              | false => rfl
              | true => exact absurd (hclo 12 _ rfl h ⟨8, .data⟩ (by simp) rfl) (by rw [d8]; exact Bool.false_ne_true)
            have d13 : D 13 = false := by
              cases h : D 13 with
              | false => rfl
              | true => exact absurd (hclo 13 _ rfl h ⟨12, .data⟩ (by simp) rfl) (by rw [d12]; exact Bool.false_ne_true)
            have d14 : D 14 = false := by
              cases h : D 14 with
              | false => rfl
              | true => exact absurd (hclo 14 _ rfl h ⟨13, .data⟩ (by simp) rfl) (by rw [d13]; exact Bool.false_ne_true)
            have d20 : D 20 = false := by
              cases h : D 20 with
              | false => rfl
              | true => exact absurd (hclo 20 _ rfl h ⟨14, .chain⟩ (by simp) rfl) (by rw [d14]; exact Bool.false_ne_true)
            obtain ⟨hW0, hJ9⟩ := hWI.1 d20
            have hW := hW0
            exact .inl ⟨rfl, rfl, .inl ⟨gy, wz, fun _ _ => rfl, x_idxArr (0) (0) rfl rfl rfl Try.underlying83 sz3 (by omega) (by omega) (by omega), hWI⟩⟩
          case o6 =>
            intro gy D wz hDi hdep hclo hWI
            have d8 : D 8 = false := by
              cases h : D 8 with
              | false => rfl
              | true => exact absurd (hclo 8 _ rfl h ⟨6, .data⟩ (by simp) rfl) (by rw [hDi]; exact Bool.false_ne_true)
            have d12 : D 12 = false := by
              cases h : D 12 with
              | false => rfl
              | true => exact absurd (hclo 12 _ rfl h ⟨8, .data⟩ (by simp) rfl) (by rw [d8]; exact Bool.false_ne_true)
            have d13 : D 13 = false := by
              cases h : D 13 with
              | false => rfl
              | true => exact absurd (hclo 13 _ rfl h ⟨12, .data⟩ (by simp) rfl) (by rw [d12]; exact Bool.false_ne_true)
            have d14 : D 14 = false := by
              cases h : D 14 with
              | false => rfl
              | true => exact absurd (hclo 14 _ rfl h ⟨13, .data⟩ (by simp) rfl) (by rw [d13]; exact Bool.false_ne_true)
            have d20 : D 20 = false := by
              cases h : D 20 with
              | false => rfl
              | true => exact absurd (hclo 20 _ rfl h ⟨14, .chain⟩ (by simp) rfl) (by rw [d14]; exact Bool.false_ne_true)
            obtain ⟨hW0, hJ9⟩ := hWI.1 d20
            have hW := hW0
            exact .inl ⟨rfl, rfl, .inl ⟨gy, wz, fun _ _ => rfl, x_load rfl rfl Try.underlying3 rfl (HP.cell hW 0 rfl rfl), hWI⟩⟩
          case o7 =>
            intro gy D wz hDi hdep hclo hWI
            have d8 : D 8 = false := by
              cases h : D 8 with
              | false => rfl
              | true => exact absurd (hclo 8 _ rfl h ⟨7, .data⟩ (by simp) rfl) (by rw [hDi]; exact Bool.false_ne_true)
            have d12 : D 12 = false := by
              cases h : D 12 with
              | false => rfl
              | true => exact absurd (hclo 12 _ rfl h ⟨8, .data⟩ (by simp) rfl) (by rw [d8]; exact Bool.false_ne_true)
            have d13 : D 13 = false := by
              cases h : D 13 with
              | false => rfl
              | true => exact absurd (hclo 13 _ rfl h ⟨12, .data⟩ (by simp) rfl) (by rw [d12]; exact Bool.false_ne_true)
            have d14 : D 14 = false := by
              cases h : D 14 with
              | false => rfl
              | true => exact absurd (hclo 14 _ rfl h ⟨13, .data⟩ (by simp) rfl) (by rw [d13]; exact Bool.false_ne_true)
            have d20 : D 20 = false := by
              cases h : D 20 with
              | false => rfl
              | true => exact absurd (hclo 20 _ rfl h ⟨14, .chain⟩ (by simp) rfl) (by rw [d14]; exact Bool.false_ne_true)
            obtain ⟨hW0, hJ9⟩ := hWI.1 d20
            have hW := hW0
            exact .inl ⟨rfl, rfl, .inl ⟨gy, wz, fun _ _ => rfl, x_load rfl rfl Try.underlying3 rfl (HP.old hW trivial hcells.2.1), hWI⟩⟩
          case o8 =>
            intro gy D wz hDi hdep hclo hWI
            have d12 : D 12 = false := by
              cases h : D 12 with
              | false => rfl
              | true => exact absurd (hclo 12 _ rfl h ⟨8, .data⟩ (by simp) rfl) (by rw [hDi]; exact Bool.false_ne_true)
            have d13 : D 13 = false := by
              cases h : D 13 with
              | false => rfl
              | true => exact absurd (hclo 13 _ rfl h ⟨12, .data⟩ (by simp) rfl) (by rw [d12]; exact Bool.false_ne_true)
            have d14 : D 14 = false := by
              cases h : D 14 with
              | false => rfl
              | true => exact absurd (hclo 14 _ rfl h ⟨13, .data⟩ (by simp) rfl) (by rw [d13]; exact Bool.false_ne_true)
            have d20 : D 20 = false := by
              cases h : D 20 with
              | false => rfl
              | true => exact absurd (hclo 20 _ rfl h ⟨14, .chain⟩ (by simp) rfl) (by rw [d14]; exact Bool.false_ne_true)
            obtain ⟨hW0, hJ9⟩ := hWI.1 d20
            have hW := hW0
            exact .inl ⟨rfl, rfl, .inl ⟨gy, wz, fun _ _ => rfl, x_rem rfl rfl rfl hs0 rfl, hWI⟩⟩
          case o9 =>
            intro gy D wz hDi hdep hclo hWI
            have d11 : D 11 = false := by
              cases h : D 11 with
              | false => rfl
              | true => exact absurd (hclo 11 _ rfl h ⟨9, .data⟩ (by simp) rfl) (by rw [hDi]; exact Bool.false_ne_true)
            have d12 : D 12 = false := by
              cases h : D 12 with
              | false => rfl
              | true => exact absurd (hclo 12 _ rfl h ⟨11, .data⟩ (by simp) rfl) (by rw [d11]; exact Bool.false_ne_true)
            have d13 : D 13 = false := by
              cases h : D 13 with
              | false => rfl
              | true => exact absurd (hclo 13 _ rfl h ⟨12, .data⟩ (by simp) rfl) (by rw [d12]; exact Bool.false_ne_true)
            have d14 : D 14 = false := by
              cases h : D 14 with
              | false => rfl
              | true => exact absurd (hclo 14 _ rfl h ⟨13, .data⟩ (by simp) rfl) (by rw [d13]; exact Bool.false_ne_true)
            have d20 : D 20 = false := by
              cases h : D 20 with
              | false => rfl
              | true => exact absurd (hclo 20 _ rfl h ⟨14, .chain⟩ (by simp) rfl) (by rw [d14]; exact Bool.false_ne_true)
            obtain ⟨hW0, hJ9⟩ := hWI.1 d20
            have hW := hW0
            exact .inl ⟨rfl, rfl, .inl ⟨gy, wz, fun _ _ => rfl, x_load rfl rfl Try.underlying3 rfl (HP.old hW trivial hcells.2.2), hWI⟩⟩
          case o10 =>
            intro gy D wz hDi hdep hclo hWI
            have d11 : D 11 = false := by
              cases h : D 11 with
              | false => rfl
              | true => exact absurd (hclo 11 _ rfl h ⟨10, .data⟩ (by simp) rfl) (by rw [hDi]; exact Bool.false_ne_true)
            have d12 : D 12 = false := by
              cases h : D 12 with
              | false => rfl
              | true => exact absurd (hclo 12 _ rfl h ⟨11, .data⟩ (by simp) rfl) (by rw [d11]; exact Bool.false_ne_true)
            have d13 : D 13 = false := by
              cases h : D 13 with
              | false => rfl
              | true => exact absurd (hclo 13 _ rfl h ⟨12, .data⟩ (by simp) rfl) (by rw [d12]; exact Bool.false_ne_true)
            have d14 : D 14 = false := by
              cases h : D 14 with
              | false => rfl
              | true => exact absurd (hclo 14 _ rfl h ⟨13, .data⟩ (by simp) rfl) (by rw [d13]; exact Bool.false_ne_true)
            have d20 : D 20 = false := by
              cases h : D 20 with
              | false => rfl
              | true => exact absurd (hclo 20 _ rfl h ⟨14, .chain⟩ (by simp) rfl) (by rw [d14]; exact Bool.false_ne_true)
            obtain ⟨hW0, hJ9⟩ := hWI.1 d20
            have hW := hW0
            exact .inl ⟨rfl, rfl, .inl ⟨gy, wz, fun _ _ => rfl, x_load rfl rfl Try.underlying3 rfl (HP.old hW trivial hcells.2.1), hWI⟩⟩
          case o11 =>
            intro gy D wz hDi hdep hclo hWI
            have d12 : D 12 = false := by
              cases h : D 12 with
              | false => rfl
              | true => exact absurd (hclo 12 _ rfl h ⟨11, .data⟩ (by simp) rfl) (by rw [hDi]; exact Bool.false_ne_true)
            have d13 : D 13 = false := by
              cases h : D 13 with
              | false => rfl
              | true => exact absurd (hclo 13 _ rfl h ⟨12, .data⟩ (by simp) rfl) (by rw [d12]; exact Bool.false_ne_true)
            have d14 : D 14 = false := by
              cases h : D 14 with
              | false => rfl
              | true => exact absurd (hclo 14 _ rfl h ⟨13, .data⟩ (by simp) rfl) (by rw [d13]; exact Bool.false_ne_true)
            have d20 : D 20 = false := by
              cases h : D 20 with
              | false => rfl
              | true => exact absurd (hclo 20 _ rfl h ⟨14, .chain⟩ (by simp) rfl) (by rw [d14]; exact Bool.false_ne_true)
            obtain ⟨hW0, hJ9⟩ := hWI.1 d20
            have hW := hW0
            exact .inl ⟨rfl, rfl, .inl ⟨gy, wz, fun _ _ => rfl, x_rem rfl rfl rfl hs0 rfl, hWI⟩⟩
          case o12 =>
            intro gy D wz hDi hdep hclo hWI
            have d13 : D 13 = false := by
              cases h : D 13 with
              | false => rfl
              | true => exact absurd (hclo 13 _ rfl h ⟨12, .data⟩ (by simp) rfl) (by rw [hDi]; exact Bool.false_ne_true)
            have d14 : D 14 = false := by
              cases h : D 14 with
              | false => rfl
              | true => exact absurd (hclo 14 _ rfl h ⟨13, .data⟩ (by simp) rfl) (by rw [d13]; exact Bool.false_ne_true)
            have d20 : D 20 = false := by
              cases h : D 20 with
              | false => rfl
              | true => exact absurd (hclo 20 _ rfl h ⟨14, .chain⟩ (by simp) rfl) (by rw [d14]; exact Bool.false_ne_true)
            obtain ⟨hW0, hJ9⟩ := hWI.1 d20
            have hW := hW0
            exact .inl ⟨rfl, rfl, .inl ⟨gy, wz, fun _ _ => rfl, x_eql rfl rfl rfl (dT (hx2)), hWI⟩⟩
          case o13 =>
            intro gy D wz hDi hdep hclo hWI
            have d14 : D 14 = false := by
              cases h : D 14 with
              | false => rfl
              | true => exact absurd (hclo 14 _ rfl h ⟨13, .data⟩ (by simp) rfl) (by rw [hDi]; exact Bool.false_ne_true)
            have d20 : D 20 = false := by
              cases h : D 20 with
              | false => rfl
              | true => exact absurd (hclo 20 _ rfl h ⟨14, .chain⟩ (by simp) rfl) (by rw [d14]; exact Bool.false_ne_true)
            obtain ⟨hW0, hJ9⟩ := hWI.1 d20
            have hW := hW0
            exact .inl ⟨rfl, rfl, .inl ⟨gy, wz, fun _ _ => rfl, by kernel_rfl, hWI⟩⟩
          case o14 =>
            intro gy D wz hDi hdep hclo hWI
            have d20 : D 20 = false := by
              cases h : D 20 with
              | false => rfl
              | true => exact absurd (hclo 20 _ rfl h ⟨14, .chain⟩ (by simp) rfl) (by rw [hDi]; exact Bool.false_ne_true)
            obtain ⟨hW0, hJ9⟩ := hWI.1 d20
            have hW := hW0
            exact .inl ⟨rfl, rfl, .inl ⟨gy, wz, fun _ _ => rfl, by kernel_rfl, hWI⟩⟩
          case o15 =>
            intro gy D wz hDi hdep hclo hWI
            have d20 : D 20 = false := by
              cases h : D 20 with
              | false => rfl
              | true => exact absurd (hclo 20 _ rfl h ⟨15, .data⟩ (by simp) rfl) (by rw [hDi]; exact Bool.false_ne_true)
            obtain ⟨hW0, hJ9⟩ := hWI.1 d20
            have hW := hW0
            exact .inl ⟨rfl, rfl, .inl ⟨gy, wz, fun _ _ => rfl, by kernel_rfl, hWI⟩⟩
          case o16 =>
            intro gy D wz hDi hdep hclo hWI
            have d17 : D 17 = false := by
              cases h : D 17 with
              | false => rfl
              | true => exact absurd (hclo 17 _ rfl h ⟨16, .data⟩ (by simp) rfl) (by rw [hDi]; exact Bool.false_ne_true)
            have d20 : D 20 = false := by
              cases h : D 20 with
              | false => rfl
              | true => exact absurd (hclo 20 _ rfl h ⟨17, .data⟩ (by simp) rfl) (by rw [d17]; exact Bool.false_ne_true)
            obtain ⟨hW0, hJ9⟩ := hWI.1 d20
            have hW := hW0
            exact .inl ⟨rfl, rfl, .inl ⟨gy, wz, fun _ _ => rfl, x_idxArr (0) (0) rfl rfl rfl Try.underlying83 sz3 (by omega) (by omega) (by omega), hWI⟩⟩
          case o17 =>
            intro gy D wz hDi hdep hclo hWI
            have d20 : D 20 = false := by
              cases h : D 20 with
              | false => rfl
              | true => exact absurd (hclo 20 _ rfl h ⟨17, .data⟩ (by simp) rfl) (by rw [hDi]; exact Bool.false_ne_true)
            obtain ⟨hW0, hJ9⟩ := hWI.1 d20
            have hW := hW0
            exact .inl ⟨rfl, rfl, .inl ⟨gy, wz, fun _ _ => rfl, x_load rfl rfl Try.underlying3 rfl (HP.cell hW 0 rfl rfl), hWI⟩⟩
          case o18 =>
            intro gy D wz hDi hdep hclo hWI
            have d19 : D 19 = false := by
              cases h : D 19 with
              | false => rfl
              | true => exact absurd (hclo 19 _ rfl h ⟨18, .data⟩ (by simp) rfl) (by rw [hDi]; exact Bool.false_ne_true)
            have d20 : D 20 = false := by
              cases h : D 20 with
              | false => rfl
              | true => exact absurd (hclo 20 _ rfl h ⟨19, .data⟩ (by simp) rfl) (by rw [d19]; exact Bool.false_ne_true)
            obtain ⟨hW0, hJ9⟩ := hWI.1 d20
            have hW := hW0
            exact .inl ⟨rfl, rfl, .inl ⟨gy, wz, fun _ _ => rfl, x_idxArr (1) (1) rfl rfl rfl Try.underlying83 sz3 (by omega) (by omega) (by omega), hWI⟩⟩
          case o19 =>
            intro gy D wz hDi hdep hclo hWI
            have d20 : D 20 = false := by
              cases h : D 20 with
              | false => rfl
              | true => exact absurd (hclo 20 _ rfl h ⟨19, .data⟩ (by simp) rfl) (by rw [hDi]; exact Bool.false_ne_true)
            obtain ⟨hW0, hJ9⟩ := hWI.1 d20
            have hW := hW0
            exact .inl ⟨rfl, rfl, .inl ⟨gy, wz, fun _ _ => rfl, x_load rfl rfl Try.underlying3 rfl (HP.cell hW 0 rfl rfl), hWI⟩⟩
          case o20 =>
            intro gy D wz hDi hdep hclo hWI
            obtain ⟨hW, hJ9⟩ := hWI.1 hDi
            have hYx := hY _ xa wz hJ9 hlen
            simp only [hxa1, hxa2] at hYx
            obtain ⟨fn, tmps, assign, body, hy, hR⟩ := hYx
            have hrd9 := hRd.below (HP.below hW)
            refine ⟨rfl, rfl, ll, fn, tmps, assign, body, yield_op hy rfl, hR.mono ?_⟩
            have d21 : D 21 = false := by
              cases h : D 21 with
              | false => rfl
              | true => exact absurd (hclo 21 _ rfl h ⟨20, .data⟩ (by simp) rfl) (by rw [hDi]; exact Bool.false_ne_true)
            have d21 : D 21 = false := by
              cases h : D 21 with
              | false => rfl
              | true => exact absurd (hclo 21 _ rfl h ⟨20, .data⟩ (by simp) rfl) (by rw [hDi]; exact Bool.false_ne_true)
            have d22 : D 22 = false := by
              cases h : D 22 with
              | false => rfl
              | true => exact absurd (hclo 22 _ rfl h ⟨21, .data⟩ (by simp) rfl) (by rw [d21]; exact Bool.false_ne_true)
            rintro e W' (⟨rfl, hJ', hk⟩ | ⟨rfl, hJx'⟩)
            · refine ⟨true, fun j hj => ?_, rfl, ⟨(fun h => Bool.noConfusion (show true = false from h)), fun _ => .inl ⟨rfl, hJ', hrd9.keep hk⟩⟩⟩
              match j, hj with
              | 0, hj => rfl
              | 1, hj => rfl
              | 2, hj => rfl
              | 3, hj => rfl
              | 4, hj => rfl
              | 5, hj => rfl
              | 6, hj => rfl
              | 7, hj => rfl
              | 8, hj => rfl
              | 9, hj => rfl
              | 10, hj => rfl
              | 11, hj => rfl
              | 12, hj => rfl
              | 13, hj => rfl
              | 14, hj => rfl
              | 15, hj => rfl
              | 16, hj => rfl
              | 17, hj => rfl
              | 18, hj => rfl
              | 19, hj => rfl
              | 20, hj => rw [hDi] at hj; cases hj
              | 21, hj => exact absurd hj (by rw [d21]; exact Bool.false_ne_true)
              | 22, hj => exact absurd hj (by rw [d22]; exact Bool.false_ne_true)
              | j + 23, _ => rfl
            · refine ⟨false, fun j hj => ?_, rfl, ⟨(fun h => Bool.noConfusion (show true = false from h)), fun _ => .inr ⟨rfl, hJx'⟩⟩⟩
              match j, hj with
              | 0, hj => rfl
              | 1, hj => rfl
              | 2, hj => rfl
              | 3, hj => rfl
              | 4, hj => rfl
              | 5, hj => rfl
              | 6, hj => rfl
              | 7, hj => rfl
              | 8, hj => rfl
              | 9, hj => rfl
              | 10, hj => rfl
              | 11, hj => rfl
              | 12, hj => rfl
              | 13, hj => rfl
              | 14, hj => rfl
              | 15, hj => rfl
              | 16, hj => rfl
              | 17, hj => rfl
              | 18, hj => rfl
              | 19, hj => rfl
              | 20, hj => rw [hDi] at hj; cases hj
              | 21, hj => exact absurd hj (by rw [d21]; exact Bool.false_ne_true)
              | 22, hj => exact absurd hj (by rw [d22]; exact Bool.false_ne_true)
              | j + 23, _ => rfl
          case o21 =>
            intro gy D wz hDi hdep hclo hWI
            exact .inl ⟨rfl, rfl, .inl ⟨gy, wz, fun _ _ => rfl, by kernel_rfl, hWI⟩⟩
          case o22 =>
            intro gy D wz hDi hdep hclo hWI
            exact .inl ⟨rfl, rfl, .inl ⟨gy, wz, fun _ _ => rfl, by kernel_rfl, hWI⟩⟩
        rintro gy D w19 hall hWI
        have hpost := hWI.2 (hall 20 (by kernel_rfl))
        clear hall hWI
        skip
        refine XQ.sub (l' := [(0, .func (.yield ll) #[] #[]), (1, vP b3 0), (2, vP b5 0), (3, vP b4 0), (6, vP b6 0), (7, .slice (some ⟨g, o, none⟩) t.length cp), (8, vI (t.length : Int)), (9, vI (i : Int)), (10, .bool true), (35, .bool (!gy))]) ⟨rfl, rfl, rfl, rfl, rfl, rfl, rfl, rfl, rfl, rfl, trivial⟩ ?_
        rcases hpost with ⟨rfl, hJ', hRd'⟩ | ⟨rfl, hJx'⟩
        ·
          refine XQ.then ?_
          refine hK16 _ _ _ _ ?_
          refine XC.no rfl ?_
          refine XC.skip ?_
          refine XQ.inNormal ?_
          refine XQ.then ?_
          refine hK10 _ _ _ _ ?_
          refine XC.region ?_
          refine XL.pure (v := vI ((i + 1 : Nat) : Int)) 36 rfl (Nat.le_of_ble_eq_true rfl) rfl rfl (x_ad (((i + 1 : Nat) : Int))) ?_
          refine XL.pure (v := vI ((i + 1 : Nat) : Int)) 9 rfl (Nat.le_of_ble_eq_true rfl) rfl rfl (by kernel_rfl) ?_
          refine XL.nil ?_
          refine XQ.sub (l' := [(0, .func (.yield ll) #[] #[]), (1, vP b3 0), (2, vP b5 0), (3, vP b4 0), (7, .slice (some ⟨g, o, none⟩) t.length cp), (8, vI (t.length : Int)), (9, vI ((i + 1 : Nat) : Int))]) ⟨rfl, rfl, rfl, rfl, rfl, rfl, rfl, trivial⟩ ?_
          refine XQ.then (hK4 _ _ _ (by omega) ⟨i + 1, rfl, rfl, by omega, by rw [htk]; exact hJ', hRd', HP.refl _⟩)
        ·
          refine XQ.then ?_
          refine hK16 _ _ _ _ ?_
          refine XC.yes rfl ?_
          refine XC.ret ?_
          refine XQ.inRet ?_
          refine XQ.thenRet ?_
          refine XQ.thenRet ?_
          refine XQ.inRet ?_
          refine XQ.ret0B rfl ?_
          exact ⟨⟨_, rfl⟩, .inr ⟨_, (by have q9 := os_pre (s := s) (x := x) (t := ta) (i := i + 1); rw [htk] at q9; exact q9), hJx'⟩⟩
      ·
        have hin : inS s x xa.1 = false := by unfold inS; rw [hxa1]; simp [hx1, hx2]
        rw [hin] at htk
        simp only [if_true, Bool.false_eq_true, if_false, List.append_nil] at htk
        refine XC.confH (γ := Unit) [(6, vP b6 0), (12, .agg #[vI (lnT t i), vI (agT t i)]), (11, vP g (o + i * 2)), (10, .bool true), (0, .func (.yield ll) #[] #[]), (1, vP b3 0), (2, vP b5 0), (3, vP b4 0), (7, .slice (some ⟨g, o, none⟩) t.length cp), (8, vI (t.length : Int)), (9, vI (i : Int))] (fun gy => [vP b6 0, vI (lnT t i), vI x, .bool true, .bool true, vP b6 0, vI (lnT t i), vI s, vI ((lnT t i).tmod s), vI x, vI s, vI ((x).tmod s), .bool false, .bool false, .bool false, undef, undef, undef, undef, undef, undef, undef, .bool false]) (fun gy D wz => HP Tr w5 wz [.cel b6 #[vI (lnT t i), vI (agT t i)] 83]) () (by kernel_rfl) ⟨rfl, rfl, rfl, rfl, rfl, rfl, rfl, rfl, rfl, rfl, rfl, trivial⟩ (by kernel_rfl) (by kernel_rfl) (by kernel_rfl) (fun _ => rfl) (by kernel_rfl) (HP.drew hH15) ?_ ?_
        · refine AllOkX.cons ?o0 (AllOkX.cons ?o1 (AllOkX.cons ?o2 (AllOkX.cons ?o3 (AllOkX.cons ?o4 (AllOkX.cons ?o5 (AllOkX.cons ?o6 (AllOkX.cons ?o7 (AllOkX.cons ?o8 (AllOkX.cons ?o9 (AllOkX.cons ?o10 (AllOkX.cons ?o11 (AllOkX.cons ?o12 (AllOkX.cons ?o13 (AllOkX.cons ?o14 (AllOkX.cons ?o15 (AllOkX.cons ?o16 (AllOkX.cons ?o17 (AllOkX.cons ?o18 (AllOkX.cons ?o19 (AllOkX.cons ?o20 (AllOkX.cons ?o21 (AllOkX.cons ?o22 (AllOkX.nil _)))))))))))))))))))))))
          case o0 =>
            intro gy D wz hDi hdep hclo hW
            exact .inl ⟨rfl, rfl, .inl ⟨gy, wz, fun _ _ => rfl, x_idxArr (0) (0) rfl rfl rfl Try.underlying83 sz3 (by omega) (by omega) (by omega), hW⟩⟩
          case o1 =>
            intro gy D wz hDi hdep hclo hW
            exact .inl ⟨rfl, rfl, .inl ⟨gy, wz, fun _ _ => rfl, x_load rfl rfl Try.underlying3 rfl (HP.cell hW 0 rfl rfl), hW⟩⟩
          case o2 =>
            intro gy D wz hDi hdep hclo hW
            exact .inl ⟨rfl, rfl, .inl ⟨gy, wz, fun _ _ => rfl, x_load rfl rfl Try.underlying3 rfl (HP.old hW trivial hcells.2.2), hW⟩⟩
          case o3 =>
            intro gy D wz hDi hdep hclo hW
            exact .inl ⟨rfl, rfl, .inl ⟨gy, wz, fun _ _ => rfl, x_neq rfl rfl rfl (dT (hx1)), hW⟩⟩
          case o4 =>
            intro gy D wz hDi hdep hclo hW
            exact .inl ⟨rfl, rfl, .inl ⟨gy, wz, fun _ _ => rfl, by kernel_rfl, hW⟩⟩
          case o5 =>
            intro gy D wz hDi hdep hclo hW
            exact .inl ⟨rfl, rfl, .inl ⟨gy, wz, fun _ _ => rfl, x_idxArr (0) (0) rfl rfl rfl Try.underlying83 sz3 (by omega) (by omega) (by omega), hW⟩⟩
          case o6 =>
            intro gy D wz hDi hdep hclo hW
            exact .inl ⟨rfl, rfl, .inl ⟨gy, wz, fun _ _ => rfl, x_load rfl rfl Try.underlying3 rfl (HP.cell hW 0 rfl rfl), hW⟩⟩
          case o7 =>
            intro gy D wz hDi hdep hclo hW
            exact .inl ⟨rfl, rfl, .inl ⟨gy, wz, fun _ _ => rfl, x_load rfl rfl Try.underlying3 rfl (HP.old hW trivial hcells.2.1), hW⟩⟩
          case o8 =>
            intro gy D wz hDi hdep hclo hW
            exact .inl ⟨rfl, rfl, .inl ⟨gy, wz, fun _ _ => rfl, x_rem rfl rfl rfl hs0 rfl, hW⟩⟩
          case o9 =>
            intro gy D wz hDi hdep hclo hW
            exact .inl ⟨rfl, rfl, .inl ⟨gy, wz, fun _ _ => rfl, x_load rfl rfl Try.underlying3 rfl (HP.old hW trivial hcells.2.2), hW⟩⟩
          case o10 =>
            intro gy D wz hDi hdep hclo hW
            exact .inl ⟨rfl, rfl, .inl ⟨gy, wz, fun _ _ => rfl, x_load rfl rfl Try.underlying3 rfl (HP.old hW trivial hcells.2.1), hW⟩⟩
          case o11 =>
            intro gy D wz hDi hdep hclo hW
            exact .inl ⟨rfl, rfl, .inl ⟨gy, wz, fun _ _ => rfl, x_rem rfl rfl rfl hs0 rfl, hW⟩⟩
          case o12 =>
            intro gy D wz hDi hdep hclo hW
            exact .inl ⟨rfl, rfl, .inl ⟨gy, wz, fun _ _ => rfl, x_eql rfl rfl rfl (dF (hx2)), hW⟩⟩
          case o13 =>
            intro gy D wz hDi hdep hclo hW
            exact .inl ⟨rfl, rfl, .inl ⟨gy, wz, fun _ _ => rfl, by kernel_rfl, hW⟩⟩
          case o14 =>
            intro gy D wz hDi hdep hclo hW
            exact .inl ⟨rfl, rfl, .inl ⟨gy, wz, fun _ _ => rfl, by kernel_rfl, hW⟩⟩
          case o15 =>
            intro gy D wz hDi hdep hclo hW
            exact .inr ⟨rfl, rfl, hW⟩
          case o16 =>
            intro gy D wz hDi hdep hclo hW
            exact .inr ⟨rfl, rfl, hW⟩
          case o17 =>
            intro gy D wz hDi hdep hclo hW
            exact .inr ⟨rfl, rfl, hW⟩
          case o18 =>
            intro gy D wz hDi hdep hclo hW
            exact .inr ⟨rfl, rfl, hW⟩
          case o19 =>
            intro gy D wz hDi hdep hclo hW
            exact .inr ⟨rfl, rfl, hW⟩
          case o20 =>
            intro gy D wz hDi hdep hclo hW
            exact .inr ⟨rfl, rfl, hW⟩
          case o21 =>
            intro gy D wz hDi hdep hclo hW
            exact .inr ⟨rfl, rfl, hW⟩
          case o22 =>
            intro gy D wz hDi hdep hclo hW
            exact .inl ⟨rfl, rfl, .inl ⟨gy, wz, fun _ _ => rfl, by kernel_rfl, hW⟩⟩
        rintro gy D w20 hall hH21
        clear hall
        refine XQ.sub (l' := [(0, .func (.yield ll) #[] #[]), (1, vP b3 0), (2, vP b5 0), (3, vP b4 0), (6, vP b6 0), (7, .slice (some ⟨g, o, none⟩) t.length cp), (8, vI (t.length : Int)), (9, vI (i : Int)), (10, .bool true), (35, .bool false)]) ⟨rfl, rfl, rfl, rfl, rfl, rfl, rfl, rfl, rfl, rfl, trivial⟩ ?_
        refine XQ.then ?_
        refine hK16 _ _ _ _ ?_
        refine XC.no rfl ?_
        refine XC.skip ?_
        refine XQ.inNormal ?_
        refine XQ.then ?_
        refine hK10 _ _ _ _ ?_
        refine XC.region ?_
        refine XL.pure (v := vI ((i + 1 : Nat) : Int)) 36 rfl (Nat.le_of_ble_eq_true rfl) rfl rfl (x_ad (((i + 1 : Nat) : Int))) ?_
        refine XL.pure (v := vI ((i + 1 : Nat) : Int)) 9 rfl (Nat.le_of_ble_eq_true rfl) rfl rfl (by kernel_rfl) ?_
        refine XL.nil ?_
        refine XQ.sub (l' := [(0, .func (.yield ll) #[] #[]), (1, vP b3 0), (2, vP b5 0), (3, vP b4 0), (7, .slice (some ⟨g, o, none⟩) t.length cp), (8, vI (t.length : Int)), (9, vI ((i + 1 : Nat) : Int))]) ⟨rfl, rfl, rfl, rfl, rfl, rfl, rfl, trivial⟩ ?_
        refine XQ.then (hK4 _ _ _ (by omega) ⟨i + 1, rfl, rfl, by omega, by rw [htk]; exact hJ _ _ _ none hJp (grown_hp hH21) (fun r e => by cases e), hRd.below (HP.below hH21), HP.refl _⟩)
  ·
    refine XL.pure (v := .bool false) 10 rfl (Nat.le_of_ble_eq_true rfl) rfl rfl (x_lss rfl rfl rfl (dF (hlt))) ?_
    refine XL.nil ?_
    refine XQ.then ?_
    refine hK8 _ _ _ _ ?_
    refine XC.seq fun K22 hK22 => ?_
    refine XC.no rfl ?_
    refine XC.exit ?_
    refine XQ.thenExit ?_
    refine XQ.thenExit ?_
    refine XQ.inExit ?_
    refine XQ.end0B rfl ?_
    exact ⟨⟨_, rfl⟩, .inl ⟨_, rfl, by rw [List.take_of_length_le (show ta.length ≤ i by omega)] at hJp; exact hJp⟩⟩
end Ca
end Go.Proofs.Ytmjnakhpekbenaa
namespace Go.Proofs
open Go.Shelf
def Try.lays125_ren : Go.Shelf.Ren := ⟨fun | 125 => 113 | 128 => 128 | 129 => 129 | n => n, fun | 46 => 139 | 3 => 3 | 51 => 150 | 53 => 152 | 4 => 4 | 5 => 5 | 9 => 9 | n => n, fun | n => n⟩
theorem Try.lays125 : Go.Proofs.Lays.n125 Try.prog Try.lays125_ren := {
  mixed := by kernel_rfl
  f125 := Try.func113.trans (congrArg some (by kernel_rfl))
  f128 := Try.func128.trans (congrArg some (by kernel_rfl))
  f129 := Try.func129.trans (congrArg some (by kernel_rfl))
  t3 := Try.underlying3
  a3 := Try.isAgg3
  z3 := Try.sizeOf3
  v3 := Try.zeroValue3
  t4 := Try.underlying4
  a4 := Try.isAgg4
  z4 := Try.sizeOf4
  v4 := Try.zeroValue4
  t5 := Try.underlying5
  a5 := Try.isAgg5
  z5 := Try.sizeOf5
  v5 := Try.zeroValue5
  t9 := Try.underlying9
  a9 := Try.isAgg9
  z9 := Try.sizeOf9
  v9 := Try.zeroValue9
  t46 := Try.underlying139
  a46 := Try.isAgg139
  z46 := Try.sizeOf139
  v46 := Try.zeroValue139
  t51 := Try.underlying150
  a51 := Try.isAgg150
  z51 := Try.sizeOf150
  v51 := Try.zeroValue150
  t53 := Try.underlying152
  a53 := Try.isAgg152
  z53 := Try.sizeOf152
  v53 := Try.zeroValue152 }
theorem Try.bits_Len (x : Int) (w : World) (h0 : 0 ≤ x) (h1 : x ≤ 18446744073709551615) :
    Calls Try.prog 113 #[.int .u64 x] w fun e w' => e = .returned (.int .i64 (Lib.bitLen x.toNat)) ∧ w' = w := Any.bits_Len Try.lays125 x w h0 h1
def Try.lays108_ren : Go.Shelf.Ren := ⟨fun | 108 => 67 | n => n, fun | 28 => 33 | 3 => 3 | 0 => 0 | 4 => 4 | n => n, fun | n => n⟩
theorem Try.lays108 : Go.Proofs.Lays.n108 Try.prog Try.lays108_ren := {
  mixed := by kernel_rfl
  f108 := Try.func67.trans (congrArg some (by kernel_rfl))
  t0 := Try.underlying0
  a0 := Try.isAgg0
  z0 := Try.sizeOf0
  v0 := Try.zeroValue0
  t3 := Try.underlying3
  a3 := Try.isAgg3
  z3 := Try.sizeOf3
  v3 := Try.zeroValue3
  t4 := Try.underlying4
  a4 := Try.isAgg4
  z4 := Try.sizeOf4
  v4 := Try.zeroValue4
  t28 := Try.underlying33
  a28 := Try.isAgg33
  z28 := Try.sizeOf33
  v28 := Try.zeroValue33 }
open Go.Lib in
theorem Try.slices_Index_int (b off n c : Nat) (zs : List Int) (x : Int) (w : World) (hz : n ≤ zs.length) (hbig : n ≤ 9223372036854775807) (hc : ∀ j, j < zs.length → w.cell? ⟨b, off + j, none⟩ = some (.int .i64 (zs.getD j 0))) :
    Calls Try.prog 67 #[.slice (some ⟨b, off, none⟩) n c, .int .i64 x] w fun e w' => e = .returned (.int .i64 (Lib.idxOf (zs.take n) x)) ∧ w' = w := Any.slices_Index_int Try.lays108 b off n c zs x w hz hbig hc
open Go.Lib in
theorem Try.slices_Index_int_empty (a : Option Addr) (c : Nat) (x : Int) (w : World) :
    Calls Try.prog 67 #[.slice a 0 c, .int .i64 x] w fun e w' => e = .returned (.int .i64 (Lib.idxOf [] x)) ∧ w' = w := Any.slices_Index_int_empty Try.lays108 a c x w
def Try.lays107_ren : Go.Shelf.Ren := ⟨fun | 107 => 45 | 108 => 67 | n => n, fun | 28 => 33 | 3 => 3 | 4 => 4 | 0 => 0 | n => n, fun | n => n⟩
theorem Try.lays107 : Go.Proofs.Lays.n107 Try.prog Try.lays107_ren := {
  mixed := by kernel_rfl
  f107 := Try.func45.trans (congrArg some (by kernel_rfl))
  f108 := Try.func67.trans (congrArg some (by kernel_rfl))
  t0 := Try.underlying0
  a0 := Try.isAgg0
  z0 := Try.sizeOf0
  v0 := Try.zeroValue0
  t3 := Try.underlying3
  a3 := Try.isAgg3
  z3 := Try.sizeOf3
  v3 := Try.zeroValue3
  t4 := Try.underlying4
  a4 := Try.isAgg4
  z4 := Try.sizeOf4
  v4 := Try.zeroValue4
  t28 := Try.underlying33
  a28 := Try.isAgg33
  z28 := Try.sizeOf33
  v28 := Try.zeroValue33 }
open Go.Lib in
theorem Try.slices_Contains_int (b off n c : Nat) (zs : List Int) (x : Int) (w : World) (hz : n ≤ zs.length) (hbig : n ≤ 9223372036854775807) (hc : ∀ j, j < zs.length → w.cell? ⟨b, off + j, none⟩ = some (.int .i64 (zs.getD j 0))) :
    Calls Try.prog 45 #[.slice (some ⟨b, off, none⟩) n c, .int .i64 x] w fun e w' => e = .returned (.bool ((zs.take n).contains x)) ∧ w' = w := Any.slices_Contains_int Try.lays107 b off n c zs x w hz hbig hc
open Go.Lib in
def Try.laysNm215_ren : Go.Shelf.Ren := ⟨fun | 15 => 72 | n => n, fun | 22 => 33 | 3 => 3 | 4 => 4 | n => n, fun | n => n⟩
theorem Try.laysNm215 : Go.Proofs.Lays2.n15 Try.prog Try.laysNm215_ren := {
  mixed := by kernel_rfl
  f15 := Try.func72.trans (congrArg some (by kernel_rfl))
  t3 := Try.underlying3
  a3 := Try.isAgg3
  z3 := Try.sizeOf3
  v3 := Try.zeroValue3
  t4 := Try.underlying4
  a4 := Try.isAgg4
  z4 := Try.sizeOf4
  v4 := Try.zeroValue4
  t22 := Try.underlying33
  a22 := Try.isAgg33
  z22 := Try.sizeOf33
  v22 := Try.zeroValue33
  i3 := by kernel_rfl }
open Go.RowKit Go.Lib in
theorem Try.slices_Clone_int (b off n c : Nat) (zs : List Int) (w : World) (hz : n ≤ zs.length) (hbig : n * 8 ≤ 140737488355328) (hc : ∀ j, j < zs.length → w.cell? ⟨b, off + j, none⟩ = some (.int .i64 (zs.getD j 0))) :
    Calls Try.prog 72 #[.slice (some ⟨b, off, none⟩) n c] w fun e w' => ∃ v', e = .returned v' ∧ w'.ownsRow w.heap.size 3 1 v' n ((zs.take n).map (Value.int .i64)) ∧ v' ≠ .slice none 0 0 ∧ Below w.heap.size w w' := Any.slices_Clone_int Try.laysNm215 b off n c zs w hz hbig hc
open Go.RowKit Go.Lib in
theorem Try.slices_Clone_int_nil (n c : Nat) (w : World) :
    Calls Try.prog 72 #[.slice none n c] w fun e w' => e = .returned (.slice none 0 0) ∧ w' = w := Any.slices_Clone_int_nil Try.laysNm215 n c w
open Go.RowKit Go.Lib in
theorem Try.slices_Clone_int_zero (a : Addr) (c : Nat) (w : World) :
    Calls Try.prog 72 #[.slice (some a) 0 c] w fun e w' => ∃ v', e = .returned v' ∧ w'.ownsRow w.heap.size 3 1 v' 0 [] ∧ v' ≠ .slice none 0 0 ∧ Below w.heap.size w w' := Any.slices_Clone_int_zero Try.laysNm215 a c w
def Try.laysNm223_ren : Go.Shelf.Ren := ⟨fun | 23 => 73 | n => n, fun | 22 => 33 | 3 => 3 | 4 => 4 | 0 => 0 | n => n, fun | n => n⟩
theorem Try.laysNm223 : Go.Proofs.Lays2.n23 Try.prog Try.laysNm223_ren := {
  mixed := by kernel_rfl
  f23 := Try.func73.trans (congrArg some (by kernel_rfl))
  t0 := Try.underlying0
  a0 := Try.isAgg0
  z0 := Try.sizeOf0
  v0 := Try.zeroValue0
  t3 := Try.underlying3
  a3 := Try.isAgg3
  z3 := Try.sizeOf3
  v3 := Try.zeroValue3
  t4 := Try.underlying4
  a4 := Try.isAgg4
  z4 := Try.sizeOf4
  v4 := Try.zeroValue4
  t22 := Try.underlying33
  a22 := Try.isAgg33
  z22 := Try.sizeOf33
  v22 := Try.zeroValue33
  i3 := by kernel_rfl }
open Go.RowKit Go.Lib Go.Sort in
theorem Try.slices_Delete_int (blk off cap i j : Nat) (zs : List Int) (w : World) (hH : Holds (Value.int .i64) w blk off zs.toArray) (hcap : zs.length ≤ cap) (hm : cap ≤ 9223372036854775807) (hij : i ≤ j) (hj : j ≤ zs.length) :
    Calls Try.prog 73 #[.slice (some ⟨blk, off, none⟩) zs.length cap, .int .i64 i, .int .i64 j] w fun e w' => e = .returned (.slice (some ⟨blk, off, none⟩) (zs.length - (j - i)) cap) ∧ ∃ q, w' = putRow (Value.int .i64) (Sort.ahead w q) blk off (zs.take i ++ zs.drop j ++ List.replicate (j - i) 0).toArray := Any.slices_Delete_int Try.laysNm223 blk off cap i j zs w hH hcap hm hij hj
open Go.RowKit Go.Lib Go.Sort in
open Go.RowKit Go.Lib in
open Go.RowKit Go.Lib in
def Try.laysSlF014_f112_ren : Go.Shelf.Ren := ⟨fun | 14 => 112 | 20 => 120 | 21 => 121 | 22 => 122 | 23 => 123 | 24 => 124 | 25 => 125 | 26 => 126 | 27 => 127 | 46 => 134 | 47 => 135 | 48 => 136 | 49 => 137 | 50 => 138 | 15 => 113 | 57 => 142 | 28 => 128 | 29 => 129 | n => n, fun | 24 => 83 | 22 => 49 | 3 => 3 | 25 => 127 | 4 => 4 | 0 => 0 | 46 => 144 | 45 => 143 | 50 => 102 | 66 => 159 | 39 => 139 | 55 => 152 | 70 => 163 | 76 => 168 | 77 => 96 | 53 => 150 | 5 => 5 | 9 => 9 | n => n, fun | n => n⟩
theorem Try.laysSlF014_f112 : Go.Proofs.SlLaysF0.n14 Try.prog Try.laysSlF014_f112_ren := {
  mixed := by kernel_rfl
  f14 := ⟨Try.f112.name, by decide, Try.func112.trans (congrArg some (by kernel_rfl))⟩
  f15 := Try.func113.trans (congrArg some (by kernel_rfl))
  f20 := ⟨Try.f120.name, by decide, Try.func120.trans (congrArg some (by kernel_rfl))⟩
  f21 := ⟨Try.f121.name, by decide, Try.func121.trans (congrArg some (by kernel_rfl))⟩
  f22 := ⟨Try.f122.name, by decide, Try.func122.trans (congrArg some (by kernel_rfl))⟩
  f23 := ⟨Try.f123.name, by decide, Try.func123.trans (congrArg some (by kernel_rfl))⟩
  f24 := ⟨Try.f124.name, by decide, Try.func124.trans (congrArg some (by kernel_rfl))⟩
  f25 := ⟨Try.f125.name, by decide, Try.func125.trans (congrArg some (by kernel_rfl))⟩
  f26 := ⟨Try.f126.name, by decide, Try.func126.trans (congrArg some (by kernel_rfl))⟩
  f27 := ⟨Try.f127.name, by decide, Try.func127.trans (congrArg some (by kernel_rfl))⟩
  f28 := Try.func128.trans (congrArg some (by kernel_rfl))
  f29 := Try.func129.trans (congrArg some (by kernel_rfl))
  f46 := ⟨Try.f134.name, by decide, Try.func134.trans (congrArg some (by kernel_rfl))⟩
  f47 := Try.func135.trans (congrArg some (by kernel_rfl))
  f48 := Try.func136.trans (congrArg some (by kernel_rfl))
  f49 := ⟨Try.f137.name, by decide, Try.func137.trans (congrArg some (by kernel_rfl))⟩
  f50 := ⟨Try.f138.name, by decide, Try.func138.trans (congrArg some (by kernel_rfl))⟩
  f57 := ⟨Try.f142.name, by decide, Try.func142.trans (congrArg some (by kernel_rfl))⟩
  t0 := Try.underlying0
  a0 := Try.isAgg0
  z0 := Try.sizeOf0
  v0 := Try.zeroValue0
  t3 := Try.underlying3
  a3 := Try.isAgg3
  z3 := Try.sizeOf3
  v3 := Try.zeroValue3
  t4 := Try.underlying4
  a4 := Try.isAgg4
  z4 := Try.sizeOf4
  v4 := Try.zeroValue4
  t5 := Try.underlying5
  a5 := Try.isAgg5
  z5 := Try.sizeOf5
  v5 := Try.zeroValue5
  t9 := Try.underlying9
  a9 := Try.isAgg9
  z9 := Try.sizeOf9
  v9 := Try.zeroValue9
  t22 := Try.underlying49
  a22 := Try.isAgg49
  z22 := Try.sizeOf49
  v22 := Try.zeroValue49
  t25 := Try.underlying127
  a25 := Try.isAgg127
  z25 := Try.sizeOf127
  v25 := Try.zeroValue127
  t39 := Try.underlying139
  a39 := Try.isAgg139
  z39 := Try.sizeOf139
  v39 := Try.zeroValue139
  t45 := Try.underlying143
  a45 := Try.isAgg143
  z45 := Try.sizeOf143
  v45 := Try.zeroValue143
  t46 := Try.underlying144
  a46 := Try.isAgg144
  z46 := Try.sizeOf144
  v46 := Try.zeroValue144
  t50 := Try.underlying102
  a50 := Try.isAgg102
  z50 := Try.sizeOf102
  v50 := Try.zeroValue102
  t53 := Try.underlying150
  a53 := Try.isAgg150
  z53 := Try.sizeOf150
  v53 := Try.zeroValue150
  t55 := Try.underlying152
  a55 := Try.isAgg152
  z55 := Try.sizeOf152
  v55 := Try.zeroValue152
  t66 := Try.underlying159
  a66 := Try.isAgg159
  z66 := Try.sizeOf159
  v66 := Try.zeroValue159
  t70 := Try.underlying163
  a70 := Try.isAgg163
  z70 := Try.sizeOf163
  v70 := Try.zeroValue163
  t76 := Try.underlying168
  a76 := Try.isAgg168
  z76 := Try.sizeOf168
  v76 := Try.zeroValue168
  t77 := Try.underlying96
  a77 := Try.isAgg96
  z77 := Try.sizeOf96
  v77 := Try.zeroValue96 }
open Go.RowKit Go.Lib Go.Sort in
theorem Try.pdqsortCmpFunc_all {α : Type} [Inhabited α] (k : Nat) (aE : ∀ w, (isAgg 83).run Try.prog w = .ok true w) (zE : ∀ w, (Go.sizeOf 83).run Try.prog w = .ok k w) (enc : α → List Value) (cf : α → α → Int) (g : Nat) (cb : Array Value) (hO : SWO (ltOf cf)) (blk off cap : Nat) (d0 : Array α) (w0 : World) (eg : ∀ args w, (callFunc g args).run Try.prog w = .ok (.enter g args) w) (hcmp : CmpLays Try.prog g cb enc k cf blk off d0.size w0) (R : RowK enc k w0 blk off d0) :
    ∀ (N a b limit : Nat) (d : Array α) (w : World), b - a < N → d0.size = d.size → SWK enc k w0 blk off d w → a ≤ b → b ≤ d.size → d.size < 4611686018427387904 → limit < 4611686018427387904 → Below (ltOf cf) a b d →
    Calls Try.prog 112 #[.slice (some ⟨blk, off, none⟩) d.size cap, .int .i64 a, .int .i64 b, .int .i64 limit, .func (.func g) #[] cb] w fun e w' => e = .returned (.tuple #[]) ∧ SWK enc k w0 blk off (pdq (ltOf cf) d a b limit true true) w' := AnyQ.pdqsortCmpFunc_all Try.laysSlF014_f112 k aE zE enc cf g cb hO blk off cap d0 w0 eg hcmp R
end Go.Proofs
namespace Go.Proofs.Ytmjnakhpekbenaa
open Go.RowKit Fw
namespace Ca
open Go.Sort (swp SWO PermIn SortedIn flatK putRowK HoldsK Holds putRow putCells mapBlock onCells grow ahead)
def enc2 (p : T2) : List Value := [vI p.1, vI p.2]
def cfT (x y : T2) : Int := cmpI x.1 y.1
set_option maxHeartbeats 1000000 in
theorem closure99 (x y : T2) (W : World) : Calls Try.prog 99 #[.agg #[vI x.1, vI x.2], .agg #[vI y.1, vI y.2]] W fun e w' => e = .returned (.int .i64 (cmpI x.1 y.1)) ∧ ∃ q os', w' = Go.Sort.grow (W.drewN q) os' := by
  have hcon := fun W' => Compare_any x.1 y.1 W'
  generalize cmpI x.1 y.1 = r at hcon ⊢
  go_enter Try.func99, Try.ntmps99
  go_wp2_with (go_at_call 100; refine (hcon _).mono ?_; rintro e w' ⟨rfl, rfl⟩)
  go_ret
  exact ⟨rfl, 0, _, by rw [Go.Sort.alloc_eq_grow, Go.Sort.alloc_eq_grow, Go.Sort.grow_grow]; rfl⟩
theorem lt_iff {x y : T2} : ltOf cfT x y = true ↔ x.1 < y.1 := by
  unfold ltOf cfT
  rw [decide_eq_true_eq]
  exact ⟨cmp_lt, fun h => by unfold cmpI; rw [if_pos h]; decide⟩
theorem lt_no {x y : T2} : ltOf cfT x y = false ↔ y.1 ≤ x.1 := by
  cases h : ltOf cfT x y with
  | true => have := lt_iff.1 h; exact ⟨fun q => (by cases q), fun q => by omega⟩
  | false => exact ⟨fun _ => by have : ¬ x.1 < y.1 := fun q => by rw [lt_iff.2 q] at h; cases h
                                omega, fun _ => rfl⟩
theorem swo : SWO (ltOf cfT) :=
  ⟨fun x => lt_no.2 (Int.le_refl _), fun x y z h1 h2 => lt_iff.2 (Int.lt_trans (lt_iff.1 h1) (lt_iff.1 h2)), fun x y z h1 h2 => lt_no.2 (Int.le_trans (lt_no.1 h2) (lt_no.1 h1))⟩
theorem flat_eq (t : List T2) : flatK enc2 2 t.toArray = (tL t).toArray := by
  apply Array.ext
  · simp [tL_len]
  · intro j h1 h2
    have hj : j < t.length * 2 := by simpa using h1
    have e1 : (flatK enc2 2 t.toArray)[j] = (flatK enc2 2 t.toArray)[j]! := (getElem!_pos (flatK enc2 2 t.toArray) j h1).symm
    rw [e1, Go.Sort.get_flatK enc2 2 t.toArray j (by simpa using hj)]
    have hi : j / 2 < t.length := by omega
    obtain ⟨q1, q2⟩ := tL_at hi
    have e2 : t.toArray[j / 2]! = t.getD (j / 2) (0, 0) := by simp [List.getD_eq_getElem?_getD, hi]
    rw [e2]
    have e3 : (tL t)[j]? = some (tL t).toArray[j] := by simp
    by_cases hm : j % 2 = 0
    · rw [show j / 2 * 2 = j by omega] at q1
      rw [q1] at e3
      rw [hm]
      simpa [enc2] using Option.some.inj e3
    · have hm1 : j % 2 = 1 := by omega
      rw [show j / 2 * 2 + 1 = j by omega] at q2
      rw [q2] at e3
      rw [hm1]
      simpa [enc2] using Option.some.inj e3
theorem holds_own {w : World} {g cp : Nat} {t : List T2} (h : Ent.holds w (rowT (some ⟨g, 0, none⟩) t.length cp t)) : HoldsK enc2 2 w g 0 t.toArray ∧ g < w.heap.size := by
  have h2 : w.ownsRow 0 83 2 (.slice (some ⟨g, 0, none⟩) t.length cp) t.length (tL t) := h
  have hc := @World.ownsRow.cells _ _ _ _ _ _ _ h2
  rcases h2.2 with ⟨h0', h1⟩ | ⟨g', cap, cur, hv, hb, hg, hnc, hm, hs, hx⟩
  · cases h0'
  · cases hv
    refine ⟨?_, (Array.getElem?_eq_some_iff.1 hg).1⟩
    unfold HoldsK
    rw [flat_eq]
    intro j hj
    have hj' : j < (tL t).length := by simpa using hj
    refine ⟨?_, by simp [World.frozen?, hg]⟩
    have := hc (g := g) rfl j _ (List.getElem?_eq_getElem hj')
    rw [hadd] at this
    rw [this]
    simp [hj']
theorem sorted_hp {w : World} {g cp n : Nat} {t t' : List T2} {os : Array Obj} (h : Ent.holds w (rowT (some ⟨g, 0, none⟩) t.length cp t)) (hl : t'.length = t.length) :
    HP (Out [rowT (some ⟨g, 0, none⟩) t.length cp t]) w (Go.Sort.grow (putRowK enc2 2 (Go.Sort.ahead w n) g 0 t'.toArray) os) [rowT (some ⟨g, 0, none⟩) t.length cp t'] := by
  have h2 : w.ownsRow 0 83 2 (.slice (some ⟨g, 0, none⟩) t.length cp) t.length (tL t) := h
  rcases h2.2 with ⟨h0', h1⟩ | ⟨g', cap, cur, hv, hb, hg, hnc, hm, hs, hx⟩
  · cases h0'
  · cases hv
    have hlt := (Array.getElem?_eq_some_iff.1 hg).1
    have hheap : (Go.Sort.grow (putRowK enc2 2 (Go.Sort.ahead w n) g 0 t'.toArray) os).heap = w.heap.modify g (onCells (putCells id 0 (tL t').toArray)) ++ os := by
      unfold putRowK; rw [flat_eq]; rfl
    refine ⟨rfl, rfl, rfl, by rw [hheap]; simp, fun k hk hO => ?_, fun e he => ?_, fun e he b hb hlt' hO => ?_, by simp⟩
    · have hne : g ≠ k := fun e => hO _ (List.mem_singleton.2 rfl) (by rw [← e]; rfl)
      rw [hheap, Array.getElem?_append_left (by simpa using hk), Array.getElem?_modify, if_neg hne]
    · obtain rfl := List.mem_singleton.1 he
      refine ⟨by rw [tL_len, hl], .inr ⟨g, cp, putCells id 0 (tL t').toArray cur, rfl, Nat.zero_le _, ?_, hnc, hm, by simp [putCells, hs], ?_⟩⟩
      · rw [hheap, Array.getElem?_append_left (by simpa using hlt), Array.getElem?_modify, if_pos rfl, hg]; rfl
      · refine List.ext_getElem? fun q => ?_
        rw [List.getElem?_take]
        have hsz : (tL t').length = t.length * 2 := by rw [tL_len, hl]
        by_cases hq : q < t.length * 2
        · rw [if_pos hq]
          have hcur : q < cur.size := by rw [hs]; have := Nat.mul_le_mul_right 2 hnc; omega
          rw [Array.getElem?_toList]
          simp only [putCells, Array.getElem?_mapIdx, Array.getElem?_eq_getElem hcur, Option.map_some, List.size_toArray, Nat.zero_le, true_and, Nat.zero_add, hsz, hq, if_true, Nat.sub_zero, id]
          rw [List.getElem?_eq_getElem (by omega)]
          simp [show q < (tL t').length by omega]
        · rw [if_neg hq, List.getElem?_eq_none (by omega)]
    · obtain rfl := List.mem_singleton.1 he
      exact hO _ (List.mem_singleton.2 rfl) hb
def leT (t : List T2) : Prop := t.Pairwise fun a b => a.1 ≤ b.1
theorem pdq_any (pv : Option Addr) (cp : Nat) (t : List T2) (L : Nat) (w : World) (hB : OwnB w [rowT pv t.length cp t]) (h0 : 0 < t.length) (hn : t.length ≤ 281474976710656) (hL : L ≤ 281474976710656) :
    Calls Try.prog 112 #[.slice pv t.length cp, vI 0, vI (t.length : Int), vI (L : Int), .func (.func 99) #[] #[]] w fun e w' => e = .returned (.tuple #[]) ∧ ∃ t', t'.Perm t ∧ leT t' ∧ HP (Out [rowT pv t.length cp t]) w w' [rowT pv t.length cp t'] := by
  have hO := hB.1 _ (List.mem_singleton.2 rfl)
  obtain ⟨g, rfl⟩ : ∃ g, pv = some ⟨g, 0, none⟩ := by
    have h2 : w.ownsRow 0 83 2 (.slice pv t.length cp) t.length (tL t) := hO
    rcases h2.2 with ⟨h0', h1⟩ | ⟨g', cap, cur, hv, _⟩
    · omega
    · cases hv; exact ⟨g', rfl⟩
  obtain ⟨hH, hlt⟩ := holds_own hO
  have R : RowK enc2 2 w g 0 t.toArray := ⟨fun _ => rfl, fun x v hv => by simp [enc2] at hv; rcases hv with rfl | rfl <;> rfl, hH, hlt⟩
  have eg : ∀ args w, (callFunc 99 args).run Try.prog w = .ok (.enter 99 args) w := enters_of Try.func99 (by kernel_rfl) rfl
  have hcmp : CmpLays Try.prog 99 #[] enc2 2 cfT g 0 t.toArray.size w := fun m os dk _ x y => closure99 x y _
  have h := Try.pdqsortCmpFunc_all (α := T2) 2 Try.isAgg83 Try.sizeOf83 enc2 cfT 99 #[] swo g 0 cp t.toArray w eg hcmp R (t.length + 1) 0 t.length L t.toArray w (by omega) rfl (SWK.start hH) (by omega) (by simp) (by simp; omega) (by omega) (.inl rfl)
  have hs := Go.Sort.pdq_sorts (ltOf cfT) swo t.toArray 0 t.length L true true (Nat.zero_le _) (by simp) (Or.inl rfl)
  generalize Go.Sort.pdq (ltOf cfT) t.toArray 0 t.length L true true = d' at h hs
  obtain ⟨hp, hsd⟩ := hs
  refine h.mono ?_
  rintro e w' ⟨rfl, n, os, rfl⟩
  have hsz : d'.size = t.length := by simpa using hp.1
  have hperm : d'.toList.Perm t := by
    have := hp.2.2
    rw [show d'.extract 0 t.length = d' by rw [← hsz]; simp, show t.toArray.extract 0 t.length = t.toArray by simp] at this
    simpa using this
  refine ⟨rfl, d'.toList, hperm, List.pairwise_iff_getElem.2 fun i j hi hj hij => ?_, ?_⟩
  · have hj' : j < t.length := by simpa [hsz] using hj
    have := lt_no.1 (hsd i j (Nat.zero_le _) hij (by simpa using hj'))
    have hi' : i < d'.size := by omega
    rw [getElem!_pos d' i hi', getElem!_pos d' j (by omega)] at this
    simpa using this
  · have := sorted_hp (n := n) (os := os) (t' := d'.toList) hO (by simpa using hsz)
    rw [show d'.toList.toArray = d' by simp] at this
    exact this
end Ca
end Go.Proofs.Ytmjnakhpekbenaa
namespace Go.Proofs.Ytmjnakhpekbenaa
set_option maxRecDepth 20000
set_option maxHeartbeats 4000000
open Go.RowKit Fw
namespace Ca
theorem len1 (A : List T2) (z : T2) : (A ++ [z]).length = A.length + 1 := by simp
theorem bitLenAux_le : ∀ (f x : Nat), Lib.bitLenAux f x ≤ f
  | 0, _ => Nat.le_refl _
  | f + 1, x => by
    unfold Lib.bitLenAux
    have := bitLenAux_le f (x / 2)
    split <;> omega
theorem bitLen_le {n : Nat} : Lib.bitLen n ≤ 64 := bitLenAux_le 64 n
def outT (s x : Int) (t : List T2) : List T2 := t.filter fun q => decide (q.1.tmod s ≠ x.tmod s)
theorem out_take {s x : Int} {t : List T2} {i : Nat} (h : i < t.length) : outT s x (t.take (i + 1)) = outT s x (t.take i) ++ (if (lnT t i).tmod s ≠ x.tmod s then [(lnT t i, agT t i)] else []) := by
  unfold outT
  rw [List.take_add_one, List.filter_append, List.getElem?_eq_getElem h, lnT_get h, agT_get h]
  by_cases q : t[i].1.tmod s = x.tmod s <;> simp [List.filter_cons, q]
def old1 (y d : Int) (q : T2) : List T2 := if (if q.2 < d then q.2 + 1 else q.2) < y then [(q.1, if q.2 < d then q.2 + 1 else q.2)] else []
def oldT (y d : Int) (l : List TV) : List T2 := l.flatMap fun q => old1 y d q.1
theorem old_snoc (y d : Int) (l : List TV) (q : TV) : oldT y d (l ++ [q]) = oldT y d l ++ old1 y d q.1 := by simp [oldT]
theorem old1_len (y d : Int) (q : T2) : (old1 y d q).length ≤ 1 := by
  unfold old1
  generalize (if q.2 < d then q.2 + 1 else q.2) = a
  split
  · exact Nat.le_refl _
  · exact Nat.zero_le _
theorem oldT_len (y d : Int) : ∀ l : List TV, (oldT y d l).length ≤ l.length
  | [] => by simp [oldT]
  | q :: r => by
    have := oldT_len y d r
    have h1 := old1_len y d q.1
    simp only [oldT, List.flatMap_cons, List.length_append, List.length_cons] at this ⊢
    omega
theorem infoT : ∃ i, Try.prog.info? 83 = some i ∧ i.zero = some (.agg #[.int .i64 0, .int .i64 0]) ∧ i.size = 2 ∧ i.bytes = 16 := by
  obtain ⟨i, hi, h⟩ := Option.map_eq_some_iff.1 (show (Try.prog.info? 83).map (fun i => (i.zero, i.size, i.bytes)) = some (some (.agg #[.int .i64 0, .int .i64 0]), 2, 16) by kernel_rfl)
  simp only [Prod.mk.injEq] at h
  exact ⟨i, hi, h.1, h.2.1, h.2.2⟩
theorem rd_of {w W : World} {H : List Ent} {b3 b4 b5 : Nat} {p : Option Addr} {t : List T2} {cp : Nat} {s x : Int} (h : HP Tr w W H) (hT : InT w p t) (h3 : Ent.cel b3 #[.slice p t.length cp] 88 ∈ H) (h4 : Ent.cel b4 #[vI s] 3 ∈ H) (h5 : Ent.cel b5 #[vI x] 3 ∈ H) : Rd w.heap.size W b3 b4 b5 p t cp s x :=
  ⟨h.hold _ h3, h.hold _ h4, h.hold _ h5, fun h0 => by
    obtain ⟨g, o, hp, hr⟩ := hT h0
    exact ⟨g, o, hp, World.block_lt_of_cell? w _ (hr 0 h0 0 _ rfl), fun i hi => HP.oldRange h trivial (hr i hi)⟩⟩
theorem ta_of : ∀ {t : List T2}, (∀ i, i < t.length → -1000 ≤ agT t i ∧ agT t i ≤ 1000) → ∃ ta : List TV, t = ta.map (·.1)
  | [], _ => ⟨[], rfl⟩
  | q :: r, h => by
    obtain ⟨ta, rfl⟩ := ta_of (t := r) fun i hi => by have := h (i + 1) (by simpa using hi); simpa [agT] using this
    exact ⟨⟨q, by have := h 0 (by simp); simpa [agT] using this⟩ :: ta, by simp⟩
theorem osA_len (s x : Int) (ta : List TV) : (osA s x ta).length ≤ ta.length := List.length_filter_le _ _
theorem outT_len (s x : Int) (t : List T2) : (outT s x t).length ≤ t.length := List.length_filter_le _ _
theorem sz88 : (Try.prog.info? 88).map (·.size) = some 1 := by kernel_rfl
theorem SortFunc_any (pv : Option Addr) (cp : Nat) (t : List T2) (w : World) (hB : OwnB w [rowT pv t.length cp t]) (h0 : 0 < t.length) (hn : t.length ≤ 281474976710000) :
    Calls Try.prog 98 #[.slice pv t.length cp, .func (.func 99) #[] #[]] w fun e w' => e = .returned (.tuple #[]) ∧ ∃ t', t'.Perm t ∧ leT t' ∧ HP (Out [rowT pv t.length cp t]) w w' [rowT pv t.length cp t'] := by
  refine calls_of Try.func98 rfl (m := 14) rfl [(0, .slice pv t.length cp), (1, .func (.func 99) #[] #[])] (Fr_enter [.slice pv t.length cp, .func (.func 99) #[] #[]] 14 (Nat.le_of_ble_eq_true rfl)) ?_
  refine WC.seq fun K1 hK1 => WC.region (WL.z (.slice pv t.length cp) 5 (WL.z (vI (t.length : Int)) 6 (WL.z (vI (t.length : Int)) 4 (WL.k hK1 (WC.region (WL.z (.slice pv t.length cp) 7 (WL.z (vI (t.length : Int)) 8 (WL.z (vI (t.length : Int)) 9 ?_))))))))
  refine WL.y (.int .u64 ((t.length : Nat) : Int)) 10 (x_convI rfl rfl (by kernel_rfl) (by kernel_rfl) (by kernel_rfl) (by rw [IntKind.wrap_u64]; omega)) ?_
  refine WL.c 113 #[.int .u64 ((t.length : Nat) : Int)] 11 ?_
  refine (((Try.bits_Len ((t.length : Nat) : Int) _ (by omega) (by omega)).mono fun e w' h => (⟨h.1, h.2.symm⟩ : _ ∧ _ = w'))).mono ?_
  rintro e w2 ⟨rfl, rfl⟩
  refine ⟨_, rfl, ?_⟩
  refine WL.z (.func (.func 99) #[] #[]) 12 ?_
  refine WL.c 112 #[.slice pv t.length cp, vI 0, vI (t.length : Int), vI ((Lib.bitLen (Int.toNat ((t.length : Nat) : Int)) : Nat) : Int), .func (.func 99) #[] #[]] 13 ?_
  refine (pdq_any pv cp t _ _ (HP.ownF (A := [rowT pv t.length cp t]) (B := []) (by simpa using (HP.startB hB))) h0 (by omega) (Nat.le_trans bitLen_le (by omega))).mono ?_
  rintro e w4 ⟨rfl, t', hp, hle, hb4⟩
  refine ⟨_, rfl, ?_⟩
  refine WL.nil ?_
  refine WQ.end0 rfl ?_
  exact ⟨rfl, t', hp, hle, hb4⟩
theorem aged_any (p : Option Addr) (t : List T2) (ta : List TV) (cp : Nat) (s y l m x d : Int) (w : World) (hT : InT w p t) (ht9 : t = ta.map (·.1)) (hs0 : s ≠ 0) (hd : -1000 ≤ d ∧ d ≤ 1000) (hn : t.length ≤ 100000) :
    Calls Try.prog 82 #[.slice p t.length cp, .agg #[vI s, vI y, vI l, vI m], vI x, vI d] w fun e w' => ∃ t' pv cp', e = .returned (.slice pv t'.length cp') ∧ t'.Perm (outT s x t ++ oldT y d (osA s x ta) ++ [(x, 0)]) ∧ leT t' ∧ HP Tr w w' [rowT pv t'.length cp' t'] := by
  open Fi in
  refine Fi.calls_ofX Try.func82 rfl (m := 66) rfl [(0, .slice p t.length cp), (1, .agg #[vI s, vI y, vI l, vI m]), (2, vI x), (3, vI d)] (Fi.Fr_enter [.slice p t.length cp, .agg #[vI s, vI y, vI l, vI m], vI x, vI d] 66 (Nat.le_of_ble_eq_true rfl)) ?_
  have hH1 : HP Tr w w [] := HP.refl w
  refine XC.seq fun K2 hK2 => ?_
  refine XC.region ?_
  refine XL.alloc (c := #[vI s, vI y, vI l, vI m]) (T := 23) hH1 5 rfl (by decide) rfl rfl (fun b5 => vP b5 0) (by kernel_rfl) (fun b5 w3 hw3 => ?_)
  have hH4 : HP Tr w w3 [.cel b5 #[vI s, vI y, vI l, vI m] 23] := hw3.2
  have nb5 := hw3.1
  clear hw3
  refine XL.alloc (c := #[vI d]) (T := 3) hH4 7 rfl (by decide) rfl rfl (fun b7 => vP b7 0) (by kernel_rfl) (fun b7 w5 hw5 => ?_)
  have hH6 : HP Tr w w5 [.cel b5 #[vI s, vI y, vI l, vI m] 23, .cel b7 #[vI d] 3] := hw5.2
  have nb7 := hw5.1
  clear hw5
  refine XL.pure (v := .slice none 0 0) 8 rfl (Nat.le_of_ble_eq_true rfl) rfl rfl (by kernel_rfl) ?_
  refine XL.nil ?_
  refine XQ.then ?_
  refine hK2 _ _ _ _ ?_
  refine XC.seq fun K7 hK7 => ?_
  refine XC.region ?_
  refine XL.alloc (c := #[]) (T := 83) hH6 14 rfl (by decide) rfl rfl (fun b14 => vS b14 0 0) (by kernel_rfl) (fun b14 w8 hw8 => ?_)
  have hH9 : HP Tr w w8 [.cel b5 #[vI s, vI y, vI l, vI m] 23, .cel b7 #[vI d] 3, .cel b14 #[] 83] := hw8.2
  have nb14 := hw8.1
  clear hw8
  refine XL.alloc (c := #[.slice none 0 0]) (T := 88) hH9 9 rfl (by decide) rfl rfl (fun b9 => vP b9 0) (by kernel_rfl) (fun b9 w10 hw10 => ?_)
  have hH11 : HP Tr w w10 [.cel b5 #[vI s, vI y, vI l, vI m] 23, .cel b7 #[vI d] 3, .cel b14 #[] 83, .cel b9 #[.slice none 0 0] 88] := hw10.2
  have nb9 := hw10.1
  clear hw10
  refine XL.store (H2 := [.cel b5 #[vI s, vI y, vI l, vI m] 23, .cel b7 #[vI d] 3, .cel b14 #[] 83, .cel b9 #[vS b14 0 0] 88]) 3 hH11 rfl rfl rfl rfl rfl rfl sz88 rfl (Nat.le_of_ble_eq_true rfl) rfl rfl ?_
  intro w12 hH13
  refine XL.nil ?_
  refine XQ.then ?_
  refine hK7 _ _ _ _ ?_
  refine XC.seq fun K14 hK14 => ?_
  refine XC.seq fun K15 hK15 => ?_
  have hO9 := HP.celToOwn hH13 2 (k := 0) (cap := 0) (s := 2) rfl (Nat.le_refl _) (by decide) rfl
  have hH16 : HP Tr w _ [.cel b5 #[vI s, vI y, vI l, vI m] 23, .cel b7 #[vI d] 3, rowT (some ⟨b14, 0, none⟩) ([] : List T2).length 0 ([] : List T2), .cel b9 #[.slice (some ⟨b14, 0, none⟩) ([] : List T2).length 0] 88] := HP.eq hO9 rfl
  refine XC.region ?_
  refine XL.pure (v := .slice p t.length cp) 15 rfl (Nat.le_of_ble_eq_true rfl) rfl rfl (by kernel_rfl) ?_
  refine XL.pure (v := vI (t.length : Int)) 16 rfl (Nat.le_of_ble_eq_true rfl) rfl rfl (by kernel_rfl) ?_
  refine XL.pure (v := vI 0) 17 rfl (Nat.le_of_ble_eq_true rfl) rfl rfl (by kernel_rfl) ?_
  refine XL.nil ?_
  refine XQ.then ?_
  refine hK15 _ _ _ _ ?_
  refine XC.block ?_
  refine XC.loop (fun kk0 ll0 ww0 => ∃ (i : Nat) (A : List T2) (pv : Option Addr) (cp2 : Nat), ll0 = [(0, .slice p t.length cp), (2, vI x), (5, vP b5 0), (7, vP b7 0), (9, vP b9 0), (15, .slice p t.length cp), (16, vI (t.length : Int)), (17, vI (i : Int))] ∧ kk0 = t.length - i ∧ (i ≤ t.length) ∧ (A = outT s x (t.take i)) ∧ (A.length ≤ i) ∧ HP Tr w ww0 [.cel b5 #[vI s, vI y, vI l, vI m] 23, .cel b7 #[vI d] 3, rowT pv A.length cp2 A, .cel b9 #[.slice pv A.length cp2] 88]) (t.length) [(0, .slice p t.length cp), (2, vI x), (5, vP b5 0), (7, vP b7 0), (9, vP b9 0), (15, .slice p t.length cp), (16, vI (t.length : Int)), (17, vI 0)] ⟨rfl, rfl, rfl, rfl, rfl, rfl, rfl, rfl, trivial⟩ ⟨0, [], (some ⟨b14, 0, none⟩), 0, rfl, rfl, Nat.zero_le _, by simp [outT], Nat.zero_le _, hH16⟩ ?_
  rintro kk l w18 ⟨i, A, pv, cp2, rfl, hkk, hi, hA, hAl, hH19⟩ K17 hK17
  refine XC.seq fun K20 hK20 => ?_
  refine XC.region ?_
  by_cases hlt : (i : Int) < (t.length : Int)
  ·
    refine XL.pure (v := .bool true) 18 rfl (Nat.le_of_ble_eq_true rfl) rfl rfl (x_lss rfl rfl rfl (dT (hlt))) ?_
    refine XL.nil ?_
    refine XQ.then ?_
    refine hK20 _ _ _ _ ?_
    refine XC.seq fun K21 hK21 => ?_
    refine XC.yes rfl ?_
    refine XC.skip ?_
    refine XQ.then ?_
    refine hK21 _ _ _ _ ?_
    refine XC.seq fun K22 hK22 => ?_
    refine XC.block ?_
    refine XC.seq fun K23 hK23 => ?_
    obtain ⟨g, o, rfl, hrow⟩ := hT (by omega)
    have hot := out_take (s := s) (x := x) (show i < t.length by omega)
    refine XC.region ?_
    refine XL.pure (v := vP g (o + i * 2)) 19 rfl (Nat.le_of_ble_eq_true rfl) rfl rfl (x_ix (i) (o + i * 2) Try.underlying88 sz83) ?_
    refine XL.pure (v := .agg #[vI (lnT t i), vI (agT t i)]) 20 rfl (Nat.le_of_ble_eq_true rfl) rfl rfl (x_loadS (cs := [vI (lnT t i), vI (agT t i)]) rfl rfl Try.underlying83 rfl sz83 (HP.oldRange hH19 trivial (hrow i (by omega)))) ?_
    refine XL.alloc (c := #[vI 0, vI 0]) (T := 83) hH19 11 rfl (by decide) rfl rfl (fun b11 => vP b11 0) (by kernel_rfl) (fun b11 w24 hw24 => ?_)
    have hH25 : HP Tr w w24 [.cel b5 #[vI s, vI y, vI l, vI m] 23, .cel b7 #[vI d] 3, rowT pv A.length cp2 A, .cel b9 #[.slice pv A.length cp2] 88, .cel b11 #[vI 0, vI 0] 83] := hw24.2
    have nb11 := hw24.1
    clear hw24
    refine XL.storeS (H2 := [.cel b5 #[vI s, vI y, vI l, vI m] 23, .cel b7 #[vI d] 3, rowT pv A.length cp2 A, .cel b9 #[.slice pv A.length cp2] 88, .cel b11 #[vI (lnT t i), vI (agT t i)] 83]) 4 hH25 rfl rfl rfl rfl rfl rfl sz83 rfl (Nat.le_of_ble_eq_true rfl) rfl rfl ?_
    intro w26 hH27
    refine XL.nil ?_
    refine XQ.then ?_
    refine hK23 _ _ _ _ ?_
    refine XC.seq fun K28 hK28 => ?_
    by_cases hx2 : (lnT t i).tmod s = x.tmod s
    ·
      rw [if_neg (fun h => h hx2), List.append_nil] at hot
      refine XC.confH (γ := Unit) [(11, vP b11 0), (20, .agg #[vI (lnT t i), vI (agT t i)]), (19, vP g (o + i * 2)), (18, .bool true), (0, .slice (some ⟨g, o, none⟩) t.length cp), (2, vI x), (5, vP b5 0), (7, vP b7 0), (9, vP b9 0), (15, .slice (some ⟨g, o, none⟩) t.length cp), (16, vI (t.length : Int)), (17, vI (i : Int))] (fun gy => [vP b11 0, vI (lnT t i), vP b5 0, vI s, vI ((lnT t i).tmod s), vI x, vP b5 0, vI s, vI (x.tmod s), .bool false]) (fun gy D wz => HP Tr w wz [.cel b5 #[vI s, vI y, vI l, vI m] 23, .cel b7 #[vI d] 3, rowT pv A.length cp2 A, .cel b9 #[.slice pv A.length cp2] 88, .cel b11 #[vI (lnT t i), vI (agT t i)] 83]) () (by kernel_rfl) ⟨rfl, rfl, rfl, rfl, rfl, rfl, rfl, rfl, rfl, rfl, rfl, rfl, trivial⟩ (by kernel_rfl) (by kernel_rfl) (by kernel_rfl) (fun _ => rfl) (by kernel_rfl) (HP.drew hH27) ?_ ?_
      · refine AllOkX.cons ?o0 (AllOkX.cons ?o1 (AllOkX.cons ?o2 (AllOkX.cons ?o3 (AllOkX.cons ?o4 (AllOkX.cons ?o5 (AllOkX.cons ?o6 (AllOkX.cons ?o7 (AllOkX.cons ?o8 (AllOkX.cons ?o9 (AllOkX.nil _))))))))))
        case o0 =>
          intro gy D wz hDi hdep hclo hW
          exact .inl ⟨rfl, rfl, .inl ⟨gy, wz, fun _ _ => rfl, x_idxArr (0) (0) rfl rfl rfl Try.underlying83 sz3 (by omega) (by omega) (by omega), hW⟩⟩
        case o1 =>
          intro gy D wz hDi hdep hclo hW
          exact .inl ⟨rfl, rfl, .inl ⟨gy, wz, fun _ _ => rfl, x_load rfl rfl Try.underlying3 rfl (HP.cell hW 4 rfl rfl), hW⟩⟩
        case o2 =>
          intro gy D wz hDi hdep hclo hW
          exact .inl ⟨rfl, rfl, .inl ⟨gy, wz, fun _ _ => rfl, by kernel_rfl, hW⟩⟩
        case o3 =>
          intro gy D wz hDi hdep hclo hW
          exact .inl ⟨rfl, rfl, .inl ⟨gy, wz, fun _ _ => rfl, x_load rfl rfl Try.underlying3 rfl (HP.cell hW 0 rfl rfl), hW⟩⟩
        case o4 =>
          intro gy D wz hDi hdep hclo hW
          exact .inl ⟨rfl, rfl, .inl ⟨gy, wz, fun _ _ => rfl, x_rem rfl rfl rfl hs0 rfl, hW⟩⟩
        case o5 =>
          intro gy D wz hDi hdep hclo hW
          exact .inl ⟨rfl, rfl, .inl ⟨gy, wz, fun _ _ => rfl, by kernel_rfl, hW⟩⟩
        case o6 =>
          intro gy D wz hDi hdep hclo hW
          exact .inl ⟨rfl, rfl, .inl ⟨gy, wz, fun _ _ => rfl, by kernel_rfl, hW⟩⟩
        case o7 =>
          intro gy D wz hDi hdep hclo hW
          exact .inl ⟨rfl, rfl, .inl ⟨gy, wz, fun _ _ => rfl, x_load rfl rfl Try.underlying3 rfl (HP.cell hW 0 rfl rfl), hW⟩⟩
        case o8 =>
          intro gy D wz hDi hdep hclo hW
          exact .inl ⟨rfl, rfl, .inl ⟨gy, wz, fun _ _ => rfl, x_rem rfl rfl rfl hs0 rfl, hW⟩⟩
        case o9 =>
          intro gy D wz hDi hdep hclo hW
          exact .inl ⟨rfl, rfl, .inl ⟨gy, wz, fun _ _ => rfl, x_neq rfl rfl rfl (dF (fun h => h hx2)), hW⟩⟩
      rintro gy D w29 hall hH30
      clear hall
      refine XQ.sub (l' := [(0, .slice (some ⟨g, o, none⟩) t.length cp), (2, vI x), (5, vP b5 0), (7, vP b7 0), (9, vP b9 0), (11, vP b11 0), (15, .slice (some ⟨g, o, none⟩) t.length cp), (16, vI (t.length : Int)), (17, vI (i : Int)), (18, .bool true), (30, .bool false)]) ⟨rfl, rfl, rfl, rfl, rfl, rfl, rfl, rfl, rfl, rfl, rfl, trivial⟩ ?_
      refine XQ.then ?_
      refine hK28 _ _ _ _ ?_
      refine XC.no rfl ?_
      refine XC.skip ?_
      refine XQ.inNormal ?_
      refine XQ.then ?_
      refine hK22 _ _ _ _ ?_
      refine XC.region ?_
      refine XL.pure (v := vI ((i + 1 : Nat) : Int)) 35 rfl (Nat.le_of_ble_eq_true rfl) rfl rfl (x_ad (((i + 1 : Nat) : Int))) ?_
      refine XL.pure (v := vI ((i + 1 : Nat) : Int)) 17 rfl (Nat.le_of_ble_eq_true rfl) rfl rfl (by kernel_rfl) ?_
      refine XL.nil ?_
      refine XQ.sub (l' := [(0, .slice (some ⟨g, o, none⟩) t.length cp), (2, vI x), (5, vP b5 0), (7, vP b7 0), (9, vP b9 0), (15, .slice (some ⟨g, o, none⟩) t.length cp), (16, vI (t.length : Int)), (17, vI ((i + 1 : Nat) : Int))]) ⟨rfl, rfl, rfl, rfl, rfl, rfl, rfl, rfl, trivial⟩ ?_
      refine XQ.then (hK17 _ _ _ (by omega) ⟨i + 1, A, pv, cp2, rfl, rfl, by omega, by rw [hot, hA], by first | omega | (simp; omega), (HP.drop hH30 4)⟩)
    ·
      rw [if_pos hx2] at hot
      refine XC.confH (γ := Unit) [(11, vP b11 0), (20, .agg #[vI (lnT t i), vI (agT t i)]), (19, vP g (o + i * 2)), (18, .bool true), (0, .slice (some ⟨g, o, none⟩) t.length cp), (2, vI x), (5, vP b5 0), (7, vP b7 0), (9, vP b9 0), (15, .slice (some ⟨g, o, none⟩) t.length cp), (16, vI (t.length : Int)), (17, vI (i : Int))] (fun gy => [vP b11 0, vI (lnT t i), vP b5 0, vI s, vI ((lnT t i).tmod s), vI x, vP b5 0, vI s, vI (x.tmod s), .bool true]) (fun gy D wz => HP Tr w wz [.cel b5 #[vI s, vI y, vI l, vI m] 23, .cel b7 #[vI d] 3, rowT pv A.length cp2 A, .cel b9 #[.slice pv A.length cp2] 88, .cel b11 #[vI (lnT t i), vI (agT t i)] 83]) () (by kernel_rfl) ⟨rfl, rfl, rfl, rfl, rfl, rfl, rfl, rfl, rfl, rfl, rfl, rfl, trivial⟩ (by kernel_rfl) (by kernel_rfl) (by kernel_rfl) (fun _ => rfl) (by kernel_rfl) (HP.drew hH27) ?_ ?_
      · refine AllOkX.cons ?o0 (AllOkX.cons ?o1 (AllOkX.cons ?o2 (AllOkX.cons ?o3 (AllOkX.cons ?o4 (AllOkX.cons ?o5 (AllOkX.cons ?o6 (AllOkX.cons ?o7 (AllOkX.cons ?o8 (AllOkX.cons ?o9 (AllOkX.nil _))))))))))
        case o0 =>
          intro gy D wz hDi hdep hclo hW
          exact .inl ⟨rfl, rfl, .inl ⟨gy, wz, fun _ _ => rfl, x_idxArr (0) (0) rfl rfl rfl Try.underlying83 sz3 (by omega) (by omega) (by omega), hW⟩⟩
        case o1 =>
          intro gy D wz hDi hdep hclo hW
          exact .inl ⟨rfl, rfl, .inl ⟨gy, wz, fun _ _ => rfl, x_load rfl rfl Try.underlying3 rfl (HP.cell hW 4 rfl rfl), hW⟩⟩
        case o2 =>
          intro gy D wz hDi hdep hclo hW
          exact .inl ⟨rfl, rfl, .inl ⟨gy, wz, fun _ _ => rfl, by kernel_rfl, hW⟩⟩
        case o3 =>
          intro gy D wz hDi hdep hclo hW
          exact .inl ⟨rfl, rfl, .inl ⟨gy, wz, fun _ _ => rfl, x_load rfl rfl Try.underlying3 rfl (HP.cell hW 0 rfl rfl), hW⟩⟩
        case o4 =>
          intro gy D wz hDi hdep hclo hW
          exact .inl ⟨rfl, rfl, .inl ⟨gy, wz, fun _ _ => rfl, x_rem rfl rfl rfl hs0 rfl, hW⟩⟩
        case o5 =>
          intro gy D wz hDi hdep hclo hW
          exact .inl ⟨rfl, rfl, .inl ⟨gy, wz, fun _ _ => rfl, by kernel_rfl, hW⟩⟩
        case o6 =>
          intro gy D wz hDi hdep hclo hW
          exact .inl ⟨rfl, rfl, .inl ⟨gy, wz, fun _ _ => rfl, by kernel_rfl, hW⟩⟩
        case o7 =>
          intro gy D wz hDi hdep hclo hW
          exact .inl ⟨rfl, rfl, .inl ⟨gy, wz, fun _ _ => rfl, x_load rfl rfl Try.underlying3 rfl (HP.cell hW 0 rfl rfl), hW⟩⟩
        case o8 =>
          intro gy D wz hDi hdep hclo hW
          exact .inl ⟨rfl, rfl, .inl ⟨gy, wz, fun _ _ => rfl, x_rem rfl rfl rfl hs0 rfl, hW⟩⟩
        case o9 =>
          intro gy D wz hDi hdep hclo hW
          exact .inl ⟨rfl, rfl, .inl ⟨gy, wz, fun _ _ => rfl, x_neq rfl rfl rfl (dT (hx2)), hW⟩⟩
      rintro gy D w31 hall hH32
      clear hall
      refine XQ.sub (l' := [(0, .slice (some ⟨g, o, none⟩) t.length cp), (2, vI x), (5, vP b5 0), (7, vP b7 0), (9, vP b9 0), (11, vP b11 0), (15, .slice (some ⟨g, o, none⟩) t.length cp), (16, vI (t.length : Int)), (17, vI (i : Int)), (18, .bool true), (30, .bool true)]) ⟨rfl, rfl, rfl, rfl, rfl, rfl, rfl, rfl, rfl, rfl, rfl, trivial⟩ ?_
      refine XQ.then ?_
      refine hK28 _ _ _ _ ?_
      refine XC.yes rfl ?_
      refine XC.region ?_
      refine XL.pure (v := .slice pv A.length cp2) 31 rfl (Nat.le_of_ble_eq_true rfl) rfl rfl (x_load rfl rfl Try.underlying88 rfl (HP.cell hH32 3 rfl rfl)) ?_
      refine XL.pure (v := .agg #[vI (lnT t i), vI (agT t i)]) 32 rfl (Nat.le_of_ble_eq_true rfl) rfl rfl (x_loadS (cs := [vI (lnT t i), vI (agT t i)]) rfl rfl Try.underlying83 rfl sz83 (HP.range hH32 4 rfl rfl)) ?_
      refine XL.alloc (c := #[vI (lnT t i), vI (agT t i)]) (T := 83) hH32 33 rfl (by decide) rfl rfl (fun b33 => vS b33 1 1) (by kernel_rfl) (fun b33 w33 hw33 => ?_)
      have hH34 : HP Tr w w33 [.cel b5 #[vI s, vI y, vI l, vI m] 23, .cel b7 #[vI d] 3, rowT pv A.length cp2 A, .cel b9 #[.slice pv A.length cp2] 88, .cel b11 #[vI (lnT t i), vI (agT t i)] 83, .cel b33 #[vI (lnT t i), vI (agT t i)] 83] := hw33.2
      have nb33 := hw33.1
      clear hw33
      obtain ⟨i0, hi0, hz0, hz1, hz2⟩ := infoT
      refine XL.append (news := [vI (lnT t i), vI (agT t i)]) 2 5 hH34 34 rfl (by decide) rfl rfl rfl rfl Try.underlying88 hi0 hz0 hz1 hz2 rfl (by decide) rfl rfl rfl rfl (by simp [Value.oneCell']) (by unfold maxLen; omega) (by omega) ?_
      rintro v7 w7 - hA7
      obtain ⟨pv7, cp7, rfl⟩ := own_row (HP.get hA7 2 rfl)
      have e7 : A.length + 1 = (A ++ [(lnT t i, agT t i)]).length := (len1 _ _).symm
      rw [tL_push, e7] at hA7
      rw [e7]
      have hH35 : HP Tr w _ [.cel b5 #[vI s, vI y, vI l, vI m] 23, .cel b7 #[vI d] 3, rowT pv7 (A ++ [(lnT t i, agT t i)]).length cp7 (A ++ [(lnT t i, agT t i)]), .cel b9 #[.slice pv A.length cp2] 88, .cel b11 #[vI (lnT t i), vI (agT t i)] 83, .cel b33 #[vI (lnT t i), vI (agT t i)] 83] := hA7
      refine XL.store (H2 := [.cel b5 #[vI s, vI y, vI l, vI m] 23, .cel b7 #[vI d] 3, rowT pv7 (A ++ [(lnT t i, agT t i)]).length cp7 (A ++ [(lnT t i, agT t i)]), .cel b9 #[.slice pv7 ((A ++ [(lnT t i, agT t i)]).length) cp7] 88, .cel b11 #[vI (lnT t i), vI (agT t i)] 83, .cel b33 #[vI (lnT t i), vI (agT t i)] 83]) 3 hH35 rfl rfl rfl rfl rfl rfl sz88 rfl (Nat.le_of_ble_eq_true rfl) rfl rfl ?_
      intro w36 hH37
      refine XL.nil ?_
      refine XQ.inNormal ?_
      refine XQ.then ?_
      refine hK22 _ _ _ _ ?_
      refine XC.region ?_
      refine XL.pure (v := vI ((i + 1 : Nat) : Int)) 35 rfl (Nat.le_of_ble_eq_true rfl) rfl rfl (x_ad (((i + 1 : Nat) : Int))) ?_
      refine XL.pure (v := vI ((i + 1 : Nat) : Int)) 17 rfl (Nat.le_of_ble_eq_true rfl) rfl rfl (by kernel_rfl) ?_
      refine XL.nil ?_
      refine XQ.sub (l' := [(0, .slice (some ⟨g, o, none⟩) t.length cp), (2, vI x), (5, vP b5 0), (7, vP b7 0), (9, vP b9 0), (15, .slice (some ⟨g, o, none⟩) t.length cp), (16, vI (t.length : Int)), (17, vI ((i + 1 : Nat) : Int))]) ⟨rfl, rfl, rfl, rfl, rfl, rfl, rfl, rfl, trivial⟩ ?_
      refine XQ.then (hK17 _ _ _ (by omega) ⟨i + 1, (A ++ [(lnT t i, agT t i)]), pv7, cp7, rfl, rfl, by omega, by rw [hot, hA], by first | omega | (simp; omega), (HP.drop (HP.drop hH37 5) 4)⟩)
  ·
    refine XL.pure (v := .bool false) 18 rfl (Nat.le_of_ble_eq_true rfl) rfl rfl (x_lss rfl rfl rfl (dF (hlt))) ?_
    refine XL.nil ?_
    refine XQ.then ?_
    refine hK20 _ _ _ _ ?_
    refine XC.seq fun K38 hK38 => ?_
    refine XC.no rfl ?_
    refine XC.exit ?_
    refine XQ.thenExit ?_
    refine XQ.thenExit ?_
    refine XQ.inExit ?_
    refine XQ.then ?_
    refine hK14 _ _ _ _ ?_
    refine XC.seq fun K39 hK39 => ?_
    refine XC.seq fun K40 hK40 => ?_
    refine XC.region ?_
    refine XL.pure (v := .slice p t.length cp) 36 rfl (Nat.le_of_ble_eq_true rfl) rfl rfl (by kernel_rfl) ?_
    refine XL.pure (v := vP b5 0) 37 rfl (Nat.le_of_ble_eq_true rfl) rfl rfl (by kernel_rfl) ?_
    refine XL.pure (v := vI s) 38 rfl (Nat.le_of_ble_eq_true rfl) rfl rfl (x_load rfl rfl Try.underlying3 rfl (HP.cell hH19 0 rfl rfl)) ?_
    refine XL.pure (v := vI x) 39 rfl (Nat.le_of_ble_eq_true rfl) rfl rfl (by kernel_rfl) ?_
    have hA9 : A = outT s x t := by rw [hA, List.take_of_length_le (by omega)]
    subst hA9
    refine XL.call (f := 97) (args := #[.slice p t.length cp, vI s, vI x]) 40 rfl (Nat.le_of_ble_eq_true rfl) rfl rfl (by kernel_rfl) ?_
    refine (others_any p t cp s x _).mono ?_
    rintro e w41 ⟨q3, q4, q5, rfl, hb42⟩
    refine ⟨_, rfl, ?_⟩
    have hH43 : HP Tr w _ [.cel b5 #[vI s, vI y, vI l, vI m] 23, .cel b7 #[vI d] 3, rowT pv (outT s x t).length cp2 (outT s x t), .cel b9 #[.slice pv (outT s x t).length cp2] 88, .cel q3 #[.slice p t.length cp] 88, .cel q4 #[vI s] 3, .cel q5 #[vI x] 3] := HP.trans hH19 hb42
    refine XL.nil ?_
    refine XQ.then ?_
    refine hK40 _ _ _ _ ?_
    refine XC.block ?_
    have hbase : outT s x t = outT s x t ++ oldT y d [] := by simp [oldT]
    have hW8 := hH43
    have hosl := osA_len s x ta
    have houl := outT_len s x t
    have hl9 : t.length = ta.length := by rw [ht9]; simp
    refine XC.rangeFunc2 (w0 := w) (Hf := fun (pre : List TV) (gx : Option Addr × Nat) => [Go.Proofs.Ytmjnakhpekbenaa.Fw.Ent.cel b5 #[vI s, vI y, vI l, vI m] 23, Go.Proofs.Ytmjnakhpekbenaa.Fw.Ent.cel b7 #[vI d] 3, rowT gx.1 (outT s x t ++ oldT y d pre).length gx.2 (outT s x t ++ oldT y d pre), Go.Proofs.Ytmjnakhpekbenaa.Fw.Ent.cel b9 #[.slice gx.1 (outT s x t ++ oldT y d pre).length gx.2] 88, Go.Proofs.Ytmjnakhpekbenaa.Fw.Ent.cel q3 #[.slice p t.length cp] 88, Go.Proofs.Ytmjnakhpekbenaa.Fw.Ent.cel q4 #[vI s] 3, Go.Proofs.Ytmjnakhpekbenaa.Fw.Ent.cel q5 #[vI x] 3]) (KB := [q3, q4, q5]) rfl (enters_of Try.func111 (by kernel_rfl) rfl) (fun q : TV => vI q.1.1) (fun q : TV => vI q.1.2) (others_stops w.heap.size _ q3 q4 q5 p ta t ht9 cp s x hs0 (by omega) (HP.below hW8).size (rd_of hW8 hT (by simp) (by simp) (by simp))) ?_ (pv, cp2) (HP.eq hW8 (by simp [oldT])) (by decide) (by decide) (by decide) (by decide) (by decide) (by decide) ?_ ?_
    · intro bb hbb
      simp only [List.mem_cons, List.not_mem_nil, or_false] at hbb
      rcases hbb with rfl | rfl | rfl
      · exact ⟨_, _, fun pre gx => List.mem_of_getElem? (i := 4) rfl⟩
      · exact ⟨_, _, fun pre gx => List.mem_of_getElem? (i := 5) rfl⟩
      · exact ⟨_, _, fun pre gx => List.mem_of_getElem? (i := 6) rfl⟩
    · rintro ll pre qx W ⟨pv9, cp9⟩ hlt hOB
      have hold9 := oldT_len y d pre
      have hqx := qx.2
      have hH44 := HP.startB hOB
      refine XC.block ?_
      refine XC.seq fun K45 hK45 => ?_
      refine XC.seq fun K46 hK46 => ?_
      refine XC.region ?_
      refine XL.pure (v := vI qx.1.2) 43 rfl (Nat.le_of_ble_eq_true rfl) rfl rfl (by kernel_rfl) ?_
      refine XL.pure (v := vI d) 44 rfl (Nat.le_of_ble_eq_true rfl) rfl rfl (x_load rfl rfl Try.underlying3 rfl (HP.cell hH44 1 rfl rfl)) ?_
      by_cases h45 : qx.1.2 < d
      ·
        refine XL.pure (v := .bool true) 45 rfl (Nat.le_of_ble_eq_true rfl) rfl rfl (x_lss rfl rfl rfl (dT (h45))) ?_
        refine XL.nil ?_
        refine XQ.then ?_
        refine hK46 _ _ _ _ ?_
        refine XC.sub (l' := [(0, .slice p t.length cp), (2, vI x), (5, vP b5 0), (7, vP b7 0), (9, vP b9 0), (12, vI qx.1.1), (13, vI qx.1.2), (15, .slice p t.length cp), (16, vI (t.length : Int)), (17, vI (i : Int)), (18, .bool false), (45, .bool true)]) ⟨rfl, rfl, rfl, rfl, rfl, rfl, rfl, rfl, rfl, rfl, rfl, rfl, trivial⟩ ?_
        refine XC.yes rfl ?_
        refine XC.region ?_
        refine XL.pure (v := vI qx.1.2) 46 rfl (Nat.le_of_ble_eq_true rfl) rfl rfl (by kernel_rfl) ?_
        refine XL.pure (v := vI (qx.1.2 + 1)) 47 rfl (Nat.le_of_ble_eq_true rfl) rfl rfl (x_ad (qx.1.2 + 1)) ?_
        refine XL.pure (v := vI (qx.1.2 + 1)) 13 rfl (Nat.le_of_ble_eq_true rfl) rfl rfl (by kernel_rfl) ?_
        refine XL.nil ?_
        refine XQ.then ?_
        refine hK45 _ _ _ _ ?_
        refine XC.seq fun K47 hK47 => ?_
        refine XC.region ?_
        refine XL.pure (v := vI (qx.1.2 + 1)) 48 rfl (Nat.le_of_ble_eq_true rfl) rfl rfl (by kernel_rfl) ?_
        refine XL.pure (v := vP b5 1) 49 rfl (Nat.le_of_ble_eq_true rfl) rfl rfl (by kernel_rfl) ?_
        refine XL.pure (v := vI y) 50 rfl (Nat.le_of_ble_eq_true rfl) rfl rfl (x_load rfl rfl Try.underlying3 rfl (HP.cell hH44 0 rfl rfl)) ?_
        by_cases h51 : qx.1.2 + 1 < y
        ·
          refine XL.pure (v := .bool true) 51 rfl (Nat.le_of_ble_eq_true rfl) rfl rfl (x_lss rfl rfl rfl (dT (h51))) ?_
          refine XL.nil ?_
          refine XQ.then ?_
          refine hK47 _ _ _ _ ?_
          refine XC.sub (l' := [(0, .slice p t.length cp), (2, vI x), (5, vP b5 0), (7, vP b7 0), (9, vP b9 0), (12, vI qx.1.1), (13, vI (qx.1.2 + 1)), (15, .slice p t.length cp), (16, vI (t.length : Int)), (17, vI (i : Int)), (18, .bool false), (45, .bool true), (51, .bool true)]) ⟨rfl, rfl, rfl, rfl, rfl, rfl, rfl, rfl, rfl, rfl, rfl, rfl, rfl, trivial⟩ ?_
          refine XC.yes rfl ?_
          refine XC.region ?_
          refine XL.pure (v := .slice pv9 ((outT s x t ++ oldT y d pre).length) cp9) 52 rfl (Nat.le_of_ble_eq_true rfl) rfl rfl (x_load rfl rfl Try.underlying88 rfl (HP.cell hH44 3 rfl rfl)) ?_
          refine XL.pure (v := vI qx.1.1) 53 rfl (Nat.le_of_ble_eq_true rfl) rfl rfl (by kernel_rfl) ?_
          refine XL.pure (v := vI (qx.1.2 + 1)) 54 rfl (Nat.le_of_ble_eq_true rfl) rfl rfl (by kernel_rfl) ?_
          refine XL.pure (v := .agg #[vI qx.1.1, vI (qx.1.2 + 1)]) 55 rfl (Nat.le_of_ble_eq_true rfl) rfl rfl (by kernel_rfl) ?_
          refine XL.alloc (c := #[vI qx.1.1, vI (qx.1.2 + 1)]) (T := 83) hH44 56 rfl (by decide) rfl rfl (fun b56 => vS b56 1 1) (by kernel_rfl) (fun b56 w48 hw48 => ?_)
          have hH49 : HP (Out [Go.Proofs.Ytmjnakhpekbenaa.Fw.Ent.cel b5 #[vI s, vI y, vI l, vI m] 23, Go.Proofs.Ytmjnakhpekbenaa.Fw.Ent.cel b7 #[vI d] 3, rowT pv9 (outT s x t ++ oldT y d pre).length cp9 (outT s x t ++ oldT y d pre), Go.Proofs.Ytmjnakhpekbenaa.Fw.Ent.cel b9 #[.slice pv9 (outT s x t ++ oldT y d pre).length cp9] 88, Go.Proofs.Ytmjnakhpekbenaa.Fw.Ent.cel q3 #[.slice p t.length cp] 88, Go.Proofs.Ytmjnakhpekbenaa.Fw.Ent.cel q4 #[vI s] 3, Go.Proofs.Ytmjnakhpekbenaa.Fw.Ent.cel q5 #[vI x] 3]) W w48 [.cel b5 #[vI s, vI y, vI l, vI m] 23, .cel b7 #[vI d] 3, rowT pv9 (outT s x t ++ oldT y d pre).length cp9 (outT s x t ++ oldT y d pre), .cel b9 #[.slice pv9 (outT s x t ++ oldT y d pre).length cp9] 88, .cel q3 #[.slice p t.length cp] 88, .cel q4 #[vI s] 3, .cel q5 #[vI x] 3, .cel b56 #[vI qx.1.1, vI (qx.1.2 + 1)] 83] := hw48.2
          have nb56 := hw48.1
          clear hw48
          obtain ⟨i0, hi0, hz0, hz1, hz2⟩ := infoT
          refine XL.append (news := [vI qx.1.1, vI (qx.1.2 + 1)]) 2 7 hH49 57 rfl (by decide) rfl rfl rfl rfl Try.underlying88 hi0 hz0 hz1 hz2 rfl (by decide) rfl rfl rfl rfl (by simp [Value.oneCell']) (by unfold maxLen; rw [List.length_append]; omega) (by rw [List.length_append]; omega) ?_
          rintro v7 w7 - hA7
          obtain ⟨pv7, cp7, rfl⟩ := own_row (HP.get hA7 2 rfl)
          have e7 : (outT s x t ++ oldT y d pre).length + 1 = ((outT s x t ++ oldT y d pre) ++ [(qx.1.1, qx.1.2 + 1)]).length := (len1 _ _).symm
          rw [tL_push, e7] at hA7
          rw [e7]
          have hH50 : HP (Out [Go.Proofs.Ytmjnakhpekbenaa.Fw.Ent.cel b5 #[vI s, vI y, vI l, vI m] 23, Go.Proofs.Ytmjnakhpekbenaa.Fw.Ent.cel b7 #[vI d] 3, rowT pv9 (outT s x t ++ oldT y d pre).length cp9 (outT s x t ++ oldT y d pre), Go.Proofs.Ytmjnakhpekbenaa.Fw.Ent.cel b9 #[.slice pv9 (outT s x t ++ oldT y d pre).length cp9] 88, Go.Proofs.Ytmjnakhpekbenaa.Fw.Ent.cel q3 #[.slice p t.length cp] 88, Go.Proofs.Ytmjnakhpekbenaa.Fw.Ent.cel q4 #[vI s] 3, Go.Proofs.Ytmjnakhpekbenaa.Fw.Ent.cel q5 #[vI x] 3]) W _ [.cel b5 #[vI s, vI y, vI l, vI m] 23, .cel b7 #[vI d] 3, rowT pv7 ((outT s x t ++ oldT y d pre) ++ [(qx.1.1, qx.1.2 + 1)]).length cp7 ((outT s x t ++ oldT y d pre) ++ [(qx.1.1, qx.1.2 + 1)]), .cel b9 #[.slice pv9 (outT s x t ++ oldT y d pre).length cp9] 88, .cel q3 #[.slice p t.length cp] 88, .cel q4 #[vI s] 3, .cel q5 #[vI x] 3, .cel b56 #[vI qx.1.1, vI (qx.1.2 + 1)] 83] := hA7
          refine XL.store (H2 := [.cel b5 #[vI s, vI y, vI l, vI m] 23, .cel b7 #[vI d] 3, rowT pv7 ((outT s x t ++ oldT y d pre) ++ [(qx.1.1, qx.1.2 + 1)]).length cp7 ((outT s x t ++ oldT y d pre) ++ [(qx.1.1, qx.1.2 + 1)]), .cel b9 #[.slice pv7 (((outT s x t ++ oldT y d pre) ++ [(qx.1.1, qx.1.2 + 1)]).length) cp7] 88, .cel q3 #[.slice p t.length cp] 88, .cel q4 #[vI s] 3, .cel q5 #[vI x] 3, .cel b56 #[vI qx.1.1, vI (qx.1.2 + 1)] 83]) 3 hH50 rfl rfl rfl rfl rfl rfl sz88 rfl (Nat.le_of_ble_eq_true rfl) rfl rfl ?_
          intro w51 hH52
          refine XL.nil ?_
          refine XQ.inNormal ?_
          exact fun _ _ => ⟨(pv7, cp7), HP.eq (HP.drop hH52 7) (by rw [old_snoc, show old1 y d qx.1 = [(qx.1.1, qx.1.2 + 1)] by unfold old1; simp [h45, h51], ← List.append_assoc]; rfl)⟩
        ·
          refine XL.pure (v := .bool false) 51 rfl (Nat.le_of_ble_eq_true rfl) rfl rfl (x_lss rfl rfl rfl (dF (h51))) ?_
          refine XL.nil ?_
          refine XQ.then ?_
          refine hK47 _ _ _ _ ?_
          refine XC.sub (l' := [(0, .slice p t.length cp), (2, vI x), (5, vP b5 0), (7, vP b7 0), (9, vP b9 0), (12, vI qx.1.1), (13, vI (qx.1.2 + 1)), (15, .slice p t.length cp), (16, vI (t.length : Int)), (17, vI (i : Int)), (18, .bool false), (45, .bool true), (51, .bool false)]) ⟨rfl, rfl, rfl, rfl, rfl, rfl, rfl, rfl, rfl, rfl, rfl, rfl, rfl, trivial⟩ ?_
          refine XC.no rfl ?_
          refine XC.skip ?_
          refine XQ.inNormal ?_
          exact fun _ _ => ⟨(pv9, cp9), HP.eq hH44 (by rw [old_snoc, show old1 y d qx.1 = [] by unfold old1; simp [h45, h51], List.append_nil])⟩
      ·
        refine XL.pure (v := .bool false) 45 rfl (Nat.le_of_ble_eq_true rfl) rfl rfl (x_lss rfl rfl rfl (dF (h45))) ?_
        refine XL.nil ?_
        refine XQ.then ?_
        refine hK46 _ _ _ _ ?_
        refine XC.sub (l' := [(0, .slice p t.length cp), (2, vI x), (5, vP b5 0), (7, vP b7 0), (9, vP b9 0), (12, vI qx.1.1), (13, vI qx.1.2), (15, .slice p t.length cp), (16, vI (t.length : Int)), (17, vI (i : Int)), (18, .bool false), (45, .bool false)]) ⟨rfl, rfl, rfl, rfl, rfl, rfl, rfl, rfl, rfl, rfl, rfl, rfl, trivial⟩ ?_
        refine XC.no rfl ?_
        refine XC.skip ?_
        refine XQ.then ?_
        refine hK45 _ _ _ _ ?_
        refine XC.seq fun K53 hK53 => ?_
        refine XC.region ?_
        refine XL.pure (v := vI qx.1.2) 48 rfl (Nat.le_of_ble_eq_true rfl) rfl rfl (by kernel_rfl) ?_
        refine XL.pure (v := vP b5 1) 49 rfl (Nat.le_of_ble_eq_true rfl) rfl rfl (by kernel_rfl) ?_
        refine XL.pure (v := vI y) 50 rfl (Nat.le_of_ble_eq_true rfl) rfl rfl (x_load rfl rfl Try.underlying3 rfl (HP.cell hH44 0 rfl rfl)) ?_
        by_cases h51 : qx.1.2 < y
        ·
          refine XL.pure (v := .bool true) 51 rfl (Nat.le_of_ble_eq_true rfl) rfl rfl (x_lss rfl rfl rfl (dT (h51))) ?_
          refine XL.nil ?_
          refine XQ.then ?_
          refine hK53 _ _ _ _ ?_
          refine XC.yes rfl ?_
          refine XC.region ?_
          refine XL.pure (v := .slice pv9 ((outT s x t ++ oldT y d pre).length) cp9) 52 rfl (Nat.le_of_ble_eq_true rfl) rfl rfl (x_load rfl rfl Try.underlying88 rfl (HP.cell hH44 3 rfl rfl)) ?_
          refine XL.pure (v := vI qx.1.1) 53 rfl (Nat.le_of_ble_eq_true rfl) rfl rfl (by kernel_rfl) ?_
          refine XL.pure (v := vI qx.1.2) 54 rfl (Nat.le_of_ble_eq_true rfl) rfl rfl (by kernel_rfl) ?_
          refine XL.pure (v := .agg #[vI qx.1.1, vI qx.1.2]) 55 rfl (Nat.le_of_ble_eq_true rfl) rfl rfl (by kernel_rfl) ?_
          refine XL.alloc (c := #[vI qx.1.1, vI qx.1.2]) (T := 83) hH44 56 rfl (by decide) rfl rfl (fun b56 => vS b56 1 1) (by kernel_rfl) (fun b56 w54 hw54 => ?_)
          have hH55 : HP (Out [Go.Proofs.Ytmjnakhpekbenaa.Fw.Ent.cel b5 #[vI s, vI y, vI l, vI m] 23, Go.Proofs.Ytmjnakhpekbenaa.Fw.Ent.cel b7 #[vI d] 3, rowT pv9 (outT s x t ++ oldT y d pre).length cp9 (outT s x t ++ oldT y d pre), Go.Proofs.Ytmjnakhpekbenaa.Fw.Ent.cel b9 #[.slice pv9 (outT s x t ++ oldT y d pre).length cp9] 88, Go.Proofs.Ytmjnakhpekbenaa.Fw.Ent.cel q3 #[.slice p t.length cp] 88, Go.Proofs.Ytmjnakhpekbenaa.Fw.Ent.cel q4 #[vI s] 3, Go.Proofs.Ytmjnakhpekbenaa.Fw.Ent.cel q5 #[vI x] 3]) W w54 [.cel b5 #[vI s, vI y, vI l, vI m] 23, .cel b7 #[vI d] 3, rowT pv9 (outT s x t ++ oldT y d pre).length cp9 (outT s x t ++ oldT y d pre), .cel b9 #[.slice pv9 (outT s x t ++ oldT y d pre).length cp9] 88, .cel q3 #[.slice p t.length cp] 88, .cel q4 #[vI s] 3, .cel q5 #[vI x] 3, .cel b56 #[vI qx.1.1, vI qx.1.2] 83] := hw54.2
          have nb56 := hw54.1
          clear hw54
          obtain ⟨i0, hi0, hz0, hz1, hz2⟩ := infoT
          refine XL.append (news := [vI qx.1.1, vI qx.1.2]) 2 7 hH55 57 rfl (by decide) rfl rfl rfl rfl Try.underlying88 hi0 hz0 hz1 hz2 rfl (by decide) rfl rfl rfl rfl (by simp [Value.oneCell']) (by unfold maxLen; rw [List.length_append]; omega) (by rw [List.length_append]; omega) ?_
          rintro v7 w7 - hA7
          obtain ⟨pv7, cp7, rfl⟩ := own_row (HP.get hA7 2 rfl)
          have e7 : (outT s x t ++ oldT y d pre).length + 1 = ((outT s x t ++ oldT y d pre) ++ [(qx.1.1, qx.1.2)]).length := (len1 _ _).symm
          rw [tL_push, e7] at hA7
          rw [e7]
          have hH56 : HP (Out [Go.Proofs.Ytmjnakhpekbenaa.Fw.Ent.cel b5 #[vI s, vI y, vI l, vI m] 23, Go.Proofs.Ytmjnakhpekbenaa.Fw.Ent.cel b7 #[vI d] 3, rowT pv9 (outT s x t ++ oldT y d pre).length cp9 (outT s x t ++ oldT y d pre), Go.Proofs.Ytmjnakhpekbenaa.Fw.Ent.cel b9 #[.slice pv9 (outT s x t ++ oldT y d pre).length cp9] 88, Go.Proofs.Ytmjnakhpekbenaa.Fw.Ent.cel q3 #[.slice p t.length cp] 88, Go.Proofs.Ytmjnakhpekbenaa.Fw.Ent.cel q4 #[vI s] 3, Go.Proofs.Ytmjnakhpekbenaa.Fw.Ent.cel q5 #[vI x] 3]) W _ [.cel b5 #[vI s, vI y, vI l, vI m] 23, .cel b7 #[vI d] 3, rowT pv7 ((outT s x t ++ oldT y d pre) ++ [(qx.1.1, qx.1.2)]).length cp7 ((outT s x t ++ oldT y d pre) ++ [(qx.1.1, qx.1.2)]), .cel b9 #[.slice pv9 (outT s x t ++ oldT y d pre).length cp9] 88, .cel q3 #[.slice p t.length cp] 88, .cel q4 #[vI s] 3, .cel q5 #[vI x] 3, .cel b56 #[vI qx.1.1, vI qx.1.2] 83] := hA7
          refine XL.store (H2 := [.cel b5 #[vI s, vI y, vI l, vI m] 23, .cel b7 #[vI d] 3, rowT pv7 ((outT s x t ++ oldT y d pre) ++ [(qx.1.1, qx.1.2)]).length cp7 ((outT s x t ++ oldT y d pre) ++ [(qx.1.1, qx.1.2)]), .cel b9 #[.slice pv7 (((outT s x t ++ oldT y d pre) ++ [(qx.1.1, qx.1.2)]).length) cp7] 88, .cel q3 #[.slice p t.length cp] 88, .cel q4 #[vI s] 3, .cel q5 #[vI x] 3, .cel b56 #[vI qx.1.1, vI qx.1.2] 83]) 3 hH56 rfl rfl rfl rfl rfl rfl sz88 rfl (Nat.le_of_ble_eq_true rfl) rfl rfl ?_
          intro w57 hH58
          refine XL.nil ?_
          refine XQ.inNormal ?_
          exact fun _ _ => ⟨(pv7, cp7), HP.eq (HP.drop hH58 7) (by rw [old_snoc, show old1 y d qx.1 = [(qx.1.1, qx.1.2)] by unfold old1; simp [h45, h51], ← List.append_assoc]; rfl)⟩
        ·
          refine XL.pure (v := .bool false) 51 rfl (Nat.le_of_ble_eq_true rfl) rfl rfl (x_lss rfl rfl rfl (dF (h51))) ?_
          refine XL.nil ?_
          refine XQ.then ?_
          refine hK53 _ _ _ _ ?_
          refine XC.no rfl ?_
          refine XC.skip ?_
          refine XQ.inNormal ?_
          exact fun _ _ => ⟨(pv9, cp9), HP.eq hH44 (by rw [old_snoc, show old1 y d qx.1 = [] by unfold old1; simp [h45, h51], List.append_nil])⟩
    · rintro D xs W ⟨pv8, cp8⟩ hD rfl hF8 hK8
      have hold9 := oldT_len y d (osA s x ta)
      have hH59 : HP (Out [Go.Proofs.Ytmjnakhpekbenaa.Fw.Ent.cel b5 #[vI s, vI y, vI l, vI m] 23, Go.Proofs.Ytmjnakhpekbenaa.Fw.Ent.cel b7 #[vI d] 3, rowT pv8 (outT s x t ++ oldT y d (osA s x ta)).length cp8 (outT s x t ++ oldT y d (osA s x ta)), Go.Proofs.Ytmjnakhpekbenaa.Fw.Ent.cel b9 #[.slice pv8 (outT s x t ++ oldT y d (osA s x ta)).length cp8] 88, Go.Proofs.Ytmjnakhpekbenaa.Fw.Ent.cel q3 #[.slice p t.length cp] 88, Go.Proofs.Ytmjnakhpekbenaa.Fw.Ent.cel q4 #[vI s] 3, Go.Proofs.Ytmjnakhpekbenaa.Fw.Ent.cel q5 #[vI x] 3]) W W [.cel b5 #[vI s, vI y, vI l, vI m] 23, .cel b7 #[vI d] 3, rowT pv8 (outT s x t ++ oldT y d (osA s x ta)).length cp8 (outT s x t ++ oldT y d (osA s x ta)), .cel b9 #[.slice pv8 (outT s x t ++ oldT y d (osA s x ta)).length cp8] 88, .cel q3 #[.slice p t.length cp] 88, .cel q4 #[vI s] 3, .cel q5 #[vI x] 3] := HP.startB ⟨hF8.hold, hF8.apart⟩
      refine XQ.inNormal ?_
      refine XQ.then ?_
      refine hK39 _ _ _ _ ?_
      refine XC.seq fun K60 hK60 => ?_
      refine XC.region ?_
      refine XL.pure (v := .slice pv8 ((outT s x t ++ oldT y d (osA s x ta)).length) cp8) 58 rfl (Nat.le_of_ble_eq_true rfl) rfl rfl (x_load rfl rfl Try.underlying88 rfl (HP.cell hH59 3 rfl rfl)) ?_
      refine XL.pure (v := vI x) 59 rfl (Nat.le_of_ble_eq_true rfl) rfl rfl (by kernel_rfl) ?_
      refine XL.pure (v := .agg #[vI x, vI 0]) 60 rfl (Nat.le_of_ble_eq_true rfl) rfl rfl (by kernel_rfl) ?_
      refine XL.alloc (c := #[vI x, vI 0]) (T := 83) hH59 61 rfl (by decide) rfl rfl (fun b61 => vS b61 1 1) (by kernel_rfl) (fun b61 w61 hw61 => ?_)
      have hH62 : HP (Out [Go.Proofs.Ytmjnakhpekbenaa.Fw.Ent.cel b5 #[vI s, vI y, vI l, vI m] 23, Go.Proofs.Ytmjnakhpekbenaa.Fw.Ent.cel b7 #[vI d] 3, rowT pv8 (outT s x t ++ oldT y d (osA s x ta)).length cp8 (outT s x t ++ oldT y d (osA s x ta)), Go.Proofs.Ytmjnakhpekbenaa.Fw.Ent.cel b9 #[.slice pv8 (outT s x t ++ oldT y d (osA s x ta)).length cp8] 88, Go.Proofs.Ytmjnakhpekbenaa.Fw.Ent.cel q3 #[.slice p t.length cp] 88, Go.Proofs.Ytmjnakhpekbenaa.Fw.Ent.cel q4 #[vI s] 3, Go.Proofs.Ytmjnakhpekbenaa.Fw.Ent.cel q5 #[vI x] 3]) W w61 [.cel b5 #[vI s, vI y, vI l, vI m] 23, .cel b7 #[vI d] 3, rowT pv8 (outT s x t ++ oldT y d (osA s x ta)).length cp8 (outT s x t ++ oldT y d (osA s x ta)), .cel b9 #[.slice pv8 (outT s x t ++ oldT y d (osA s x ta)).length cp8] 88, .cel q3 #[.slice p t.length cp] 88, .cel q4 #[vI s] 3, .cel q5 #[vI x] 3, .cel b61 #[vI x, vI 0] 83] := hw61.2
      have nb61 := hw61.1
      clear hw61
      obtain ⟨i0, hi0, hz0, hz1, hz2⟩ := infoT
      refine XL.append (news := [vI x, vI 0]) 2 7 hH62 62 rfl (by decide) rfl rfl rfl rfl Try.underlying88 hi0 hz0 hz1 hz2 rfl (by decide) rfl rfl rfl rfl (by simp [Value.oneCell']) (by unfold maxLen; rw [List.length_append]; omega) (by rw [List.length_append]; omega) ?_
      rintro v7 w7 - hA7
      obtain ⟨pv7, cp7, rfl⟩ := own_row (HP.get hA7 2 rfl)
      have e7 : (outT s x t ++ oldT y d (osA s x ta)).length + 1 = ((outT s x t ++ oldT y d (osA s x ta)) ++ [(x, 0)]).length := (len1 _ _).symm
      rw [tL_push, e7] at hA7
      rw [e7]
      have hH63 : HP (Out [Go.Proofs.Ytmjnakhpekbenaa.Fw.Ent.cel b5 #[vI s, vI y, vI l, vI m] 23, Go.Proofs.Ytmjnakhpekbenaa.Fw.Ent.cel b7 #[vI d] 3, rowT pv8 (outT s x t ++ oldT y d (osA s x ta)).length cp8 (outT s x t ++ oldT y d (osA s x ta)), Go.Proofs.Ytmjnakhpekbenaa.Fw.Ent.cel b9 #[.slice pv8 (outT s x t ++ oldT y d (osA s x ta)).length cp8] 88, Go.Proofs.Ytmjnakhpekbenaa.Fw.Ent.cel q3 #[.slice p t.length cp] 88, Go.Proofs.Ytmjnakhpekbenaa.Fw.Ent.cel q4 #[vI s] 3, Go.Proofs.Ytmjnakhpekbenaa.Fw.Ent.cel q5 #[vI x] 3]) W _ [.cel b5 #[vI s, vI y, vI l, vI m] 23, .cel b7 #[vI d] 3, rowT pv7 ((outT s x t ++ oldT y d (osA s x ta)) ++ [(x, 0)]).length cp7 ((outT s x t ++ oldT y d (osA s x ta)) ++ [(x, 0)]), .cel b9 #[.slice pv8 (outT s x t ++ oldT y d (osA s x ta)).length cp8] 88, .cel q3 #[.slice p t.length cp] 88, .cel q4 #[vI s] 3, .cel q5 #[vI x] 3, .cel b61 #[vI x, vI 0] 83] := hA7
      refine XL.store (H2 := [.cel b5 #[vI s, vI y, vI l, vI m] 23, .cel b7 #[vI d] 3, rowT pv7 ((outT s x t ++ oldT y d (osA s x ta)) ++ [(x, 0)]).length cp7 ((outT s x t ++ oldT y d (osA s x ta)) ++ [(x, 0)]), .cel b9 #[.slice pv7 (((outT s x t ++ oldT y d (osA s x ta)) ++ [(x, 0)]).length) cp7] 88, .cel q3 #[.slice p t.length cp] 88, .cel q4 #[vI s] 3, .cel q5 #[vI x] 3, .cel b61 #[vI x, vI 0] 83]) 3 hH63 rfl rfl rfl rfl rfl rfl sz88 rfl (Nat.le_of_ble_eq_true rfl) rfl rfl ?_
      intro w64 hH65
      refine XL.nil ?_
      refine XQ.then ?_
      refine hK60 _ _ _ _ ?_
      refine XC.sub (l' := [(0, .slice p t.length cp), (2, vI x), (5, vP b5 0), (7, vP b7 0), (9, vP b9 0), (15, .slice p t.length cp), (16, vI (t.length : Int)), (17, vI (i : Int)), (18, .bool false)]) ⟨rfl, rfl, rfl, rfl, rfl, rfl, rfl, rfl, rfl, trivial⟩ ?_
      refine XC.seq fun K66 hK66 => ?_
      refine XC.region ?_
      refine XL.pure (v := .slice pv7 (((outT s x t ++ oldT y d (osA s x ta)) ++ [(x, 0)]).length) cp7) 63 rfl (Nat.le_of_ble_eq_true rfl) rfl rfl (x_load rfl rfl Try.underlying88 rfl (HP.cell hH65 3 rfl rfl)) ?_
      refine XL.call (f := 98) (args := #[.slice pv7 (((outT s x t ++ oldT y d (osA s x ta)) ++ [(x, 0)]).length) cp7, .func (.func 99) #[] #[]]) 64 rfl (Nat.le_of_ble_eq_true rfl) rfl rfl (by kernel_rfl) ?_
      refine (SortFunc_any pv7 cp7 ((outT s x t ++ oldT y d (osA s x ta)) ++ [(x, 0)]) _ (HP.ownM (A := [Go.Proofs.Ytmjnakhpekbenaa.Fw.Ent.cel b5 #[vI s, vI y, vI l, vI m] 23, Go.Proofs.Ytmjnakhpekbenaa.Fw.Ent.cel b7 #[vI d] 3]) (R := [rowT pv7 ((outT s x t ++ oldT y d (osA s x ta)) ++ [(x, 0)]).length cp7 ((outT s x t ++ oldT y d (osA s x ta)) ++ [(x, 0)])]) (C := [Go.Proofs.Ytmjnakhpekbenaa.Fw.Ent.cel b9 #[.slice pv7 (((outT s x t ++ oldT y d (osA s x ta)) ++ [(x, 0)]).length) cp7] 88, Go.Proofs.Ytmjnakhpekbenaa.Fw.Ent.cel q3 #[.slice p t.length cp] 88, Go.Proofs.Ytmjnakhpekbenaa.Fw.Ent.cel q4 #[vI s] 3, Go.Proofs.Ytmjnakhpekbenaa.Fw.Ent.cel q5 #[vI x] 3, Go.Proofs.Ytmjnakhpekbenaa.Fw.Ent.cel b61 #[vI x, vI 0] 83]) hH65) (by rw [len1]; omega) (by rw [len1, List.length_append]; omega)).mono ?_
      rintro e w9 ⟨rfl, t', hp9, hle9, hb9⟩
      refine ⟨_, rfl, ?_⟩
      have hpl : t'.length = ((outT s x t ++ oldT y d (osA s x ta)) ++ [(x, 0)]).length := hp9.length_eq
      have hH67 : HP (Out [Go.Proofs.Ytmjnakhpekbenaa.Fw.Ent.cel b5 #[vI s, vI y, vI l, vI m] 23, Go.Proofs.Ytmjnakhpekbenaa.Fw.Ent.cel b7 #[vI d] 3, rowT pv8 (outT s x t ++ oldT y d (osA s x ta)).length cp8 (outT s x t ++ oldT y d (osA s x ta)), Go.Proofs.Ytmjnakhpekbenaa.Fw.Ent.cel b9 #[.slice pv8 (outT s x t ++ oldT y d (osA s x ta)).length cp8] 88, Go.Proofs.Ytmjnakhpekbenaa.Fw.Ent.cel q3 #[.slice p t.length cp] 88, Go.Proofs.Ytmjnakhpekbenaa.Fw.Ent.cel q4 #[vI s] 3, Go.Proofs.Ytmjnakhpekbenaa.Fw.Ent.cel q5 #[vI x] 3]) W _ [.cel b5 #[vI s, vI y, vI l, vI m] 23, .cel b7 #[vI d] 3, rowT pv7 ((outT s x t ++ oldT y d (osA s x ta)) ++ [(x, 0)]).length cp7 t', .cel b9 #[.slice pv7 (((outT s x t ++ oldT y d (osA s x ta)) ++ [(x, 0)]).length) cp7] 88, .cel q3 #[.slice p t.length cp] 88, .cel q4 #[vI s] 3, .cel q5 #[vI x] 3, .cel b61 #[vI x, vI 0] 83] := HP.exchM (A := [Go.Proofs.Ytmjnakhpekbenaa.Fw.Ent.cel b5 #[vI s, vI y, vI l, vI m] 23, Go.Proofs.Ytmjnakhpekbenaa.Fw.Ent.cel b7 #[vI d] 3]) (R := [rowT pv7 ((outT s x t ++ oldT y d (osA s x ta)) ++ [(x, 0)]).length cp7 ((outT s x t ++ oldT y d (osA s x ta)) ++ [(x, 0)])]) (C := [Go.Proofs.Ytmjnakhpekbenaa.Fw.Ent.cel b9 #[.slice pv7 (((outT s x t ++ oldT y d (osA s x ta)) ++ [(x, 0)]).length) cp7] 88, Go.Proofs.Ytmjnakhpekbenaa.Fw.Ent.cel q3 #[.slice p t.length cp] 88, Go.Proofs.Ytmjnakhpekbenaa.Fw.Ent.cel q4 #[vI s] 3, Go.Proofs.Ytmjnakhpekbenaa.Fw.Ent.cel q5 #[vI x] 3, Go.Proofs.Ytmjnakhpekbenaa.Fw.Ent.cel b61 #[vI x, vI 0] 83]) hH65 hb9
      refine XL.nil ?_
      refine XQ.then ?_
      refine hK66 _ _ _ _ ?_
      refine XC.seq fun K68 hK68 => ?_
      refine XC.region ?_
      refine XL.pure (v := .slice pv7 (((outT s x t ++ oldT y d (osA s x ta)) ++ [(x, 0)]).length) cp7) 65 rfl (Nat.le_of_ble_eq_true rfl) rfl rfl (x_load rfl rfl Try.underlying88 rfl (HP.cell hH67 3 rfl rfl)) ?_
      refine XL.pure (v := .slice pv7 (((outT s x t ++ oldT y d (osA s x ta)) ++ [(x, 0)]).length) cp7) 8 rfl (Nat.le_of_ble_eq_true rfl) rfl rfl (by kernel_rfl) ?_
      refine XL.nil ?_
      refine XQ.then ?_
      refine hK68 _ _ _ _ ?_
      refine XC.ret ?_
      have hKD : (_ : World).heap[D]? = some (.deferred (some [])) := (hH67.keep D (Array.getElem?_eq_some_iff.1 hK8).1 (fun e he hq => by obtain ⟨c9, T9, z9, hc9⟩ := Fi.HPcells hF8 he hq; rw [hc9] at hK8; cases hK8)).trans hK8
      have hFin := HP.exch (A := []) hF8 hH67
      simp only [List.nil_append] at hFin
      refine XQ.ret1M 8 rfl rfl hKD ?_
      refine ⟨t', pv7, cp7, by rw [hpl], hp9, hle9, ?_⟩
      rw [← hpl] at hFin
      have hFin2 := (HP.drop (HP.drop (HP.drop (HP.drop (HP.drop (HP.drop (HP.drop hFin 7) 6) 5) 4) 3) 1) 0)
      exact Fi.HPgrown hFin2 (grownBy_putObj' _ D _) (fun r e => by cases e; exact ⟨by have := (HP.below hW8).size; omega, _, hKD, rfl⟩)
end Ca
end Go.Proofs.Ytmjnakhpekbenaa
namespace Go.Proofs.Ytmjnakhpekbenaa
open Go.RowKit Fw
namespace Ca
def stE (s y x d : Int) (q : T2) : List T2 := if q.1 = x then [] else if q.1.tmod s = x.tmod s then old1 y d q else if q.2 < y then [q] else []
def rL (s y x d : Int) : List T2 → List T2
  | [] => [(x, 0)]
  | q :: r => if x ≤ q.1 then (x, 0) :: (q :: r).flatMap (stE s y x d) else stE s y x d q ++ rL s y x d r
theorem old1_fst {y d : Int} {q a : T2} (h : a ∈ old1 y d q) : a.1 = q.1 := by
  unfold old1 at h
  generalize (if q.2 < d then q.2 + 1 else q.2) = a9 at h
  split at h
  · rw [List.mem_singleton.1 h]
  · cases h
theorem stE_fst {s y x d : Int} {q a : T2} (h : a ∈ stE s y x d q) : a.1 = q.1 ∧ q.1 ≠ x := by
  unfold stE at h
  by_cases h1 : q.1 = x
  · rw [if_pos h1] at h; cases h
  · rw [if_neg h1] at h
    refine ⟨?_, h1⟩
    by_cases h2 : q.1.tmod s = x.tmod s
    · rw [if_pos h2] at h; exact old1_fst h
    · rw [if_neg h2] at h
      split at h
      · rw [List.mem_singleton.1 h]
      · cases h
theorem stE_len (s y x d : Int) (q : T2) : (stE s y x d q).length ≤ 1 := by
  unfold stE
  by_cases h1 : q.1 = x
  · rw [if_pos h1]; exact Nat.zero_le _
  · rw [if_neg h1]
    by_cases h2 : q.1.tmod s = x.tmod s
    · rw [if_pos h2]; exact old1_len y d q
    · rw [if_neg h2]; split
      · exact Nat.le_refl _
      · exact Nat.zero_le _
theorem fm_perm {s y x d : Int} : ∀ {ta : List TV}, (∀ q ∈ ta, q.1.2 < y) → ((ta.map (·.1)).flatMap (stE s y x d)).Perm (outT s x (ta.map (·.1)) ++ oldT y d (osA s x ta))
  | [], _ => by simp [outT, oldT, osA]
  | q :: r, h => by
    have ih := fm_perm (s := s) (x := x) (d := d) (ta := r) fun a ha => h a (List.mem_cons_of_mem _ ha)
    have hq := h q (by simp)
    simp only [List.map_cons, List.flatMap_cons]
    by_cases h2 : q.1.1.tmod s = x.tmod s
    · have ho : outT s x (q.1 :: r.map (·.1)) = outT s x (r.map (·.1)) := by unfold outT; rw [List.filter_cons, if_neg (by simp [h2])]
      by_cases h1 : q.1.1 = x
      · have hs : osA s x (q :: r) = osA s x r := by unfold osA inS; rw [List.filter_cons, if_neg (by simp [h1])]
        rw [ho, hs, show stE s y x d q.1 = [] by unfold stE; rw [if_pos h1], List.nil_append]
        exact ih
      · have hs : osA s x (q :: r) = q :: osA s x r := by unfold osA inS; rw [List.filter_cons, if_pos (by simp [h1, h2])]
        rw [ho, hs, show stE s y x d q.1 = old1 y d q.1 by unfold stE; rw [if_neg h1, if_pos h2], show oldT y d (q :: osA s x r) = old1 y d q.1 ++ oldT y d (osA s x r) by simp [oldT]]
        refine (ih.append_left _).trans ?_
        rw [← List.append_assoc, ← List.append_assoc]
        exact List.Perm.append_right _ List.perm_append_comm
    · have h1 : q.1.1 ≠ x := fun e => h2 (by rw [e])
      have ho : outT s x (q.1 :: r.map (·.1)) = q.1 :: outT s x (r.map (·.1)) := by unfold outT; rw [List.filter_cons, if_pos (by simp [h2])]
      have hs : osA s x (q :: r) = osA s x r := by unfold osA inS; rw [List.filter_cons, if_neg (by simp [h2])]
      rw [ho, hs, show stE s y x d q.1 = [q.1] by unfold stE; rw [if_neg h1, if_neg h2, if_pos hq]]
      exact ih.cons _
theorem rL_perm {s y x d : Int} : ∀ t : List T2, (rL s y x d t).Perm (t.flatMap (stE s y x d) ++ [(x, 0)])
  | [] => List.Perm.refl _
  | q :: r => by
    simp only [rL]
    split
    · exact List.perm_append_comm (l₁ := [(x, 0)])
    · rw [List.flatMap_cons, List.append_assoc]
      exact (rL_perm r).append_left _
def ltT (t : List T2) : Prop := t.Pairwise fun a b => a.1 < b.1
theorem fm_mem {s y x d : Int} {t : List T2} {a : T2} (h : a ∈ t.flatMap (stE s y x d)) : ∃ q ∈ t, a.1 = q.1 ∧ q.1 ≠ x := by
  obtain ⟨q, hq, ha⟩ := List.mem_flatMap.1 h
  exact ⟨q, hq, stE_fst ha⟩
theorem one_pair {l : List T2} {R : T2 → T2 → Prop} (h : l.length ≤ 1) : l.Pairwise R := by
  match l, h with
  | [], _ => exact List.Pairwise.nil
  | [a], _ => exact List.pairwise_singleton _ _
theorem fm_sorted {s y x d : Int} : ∀ {t : List T2}, sT t → ltT (t.flatMap (stE s y x d))
  | [], _ => List.Pairwise.nil
  | q :: r, h => by
    have hh := List.pairwise_cons.1 h
    rw [List.flatMap_cons]
    refine List.pairwise_append.2 ⟨one_pair (stE_len ..), fm_sorted hh.2, fun a ha b hb => ?_⟩
    obtain ⟨q', hq', e, -⟩ := fm_mem hb
    rw [(stE_fst ha).1, e]
    exact hh.1 q' hq'
theorem rL_mem {s y x d : Int} {t : List T2} {a : T2} (h : a ∈ rL s y x d t) : a.1 = x ∨ ∃ q ∈ t, a.1 = q.1 := by
  have := (rL_perm t).mem_iff.1 h
  rcases List.mem_append.1 this with h | h
  · obtain ⟨q, hq, e, -⟩ := fm_mem h; exact .inr ⟨q, hq, e⟩
  · rw [List.mem_singleton.1 h]; exact .inl rfl
theorem rL_sorted {s y x d : Int} : ∀ {t : List T2}, sT t → ltT (rL s y x d t)
  | [], _ => List.pairwise_singleton _ _
  | q :: r, h => by
    have hh := List.pairwise_cons.1 h
    simp only [rL]
    split
    · rename_i hx
      refine List.pairwise_cons.2 ⟨fun a ha => ?_, fm_sorted h⟩
      obtain ⟨q', hq', e, hne⟩ := fm_mem ha
      rw [e]
      show x < q'.1
      rcases List.mem_cons.1 hq' with rfl | hq'
      · omega
      · have := hh.1 q' hq'; omega
    · rename_i hx
      refine List.pairwise_append.2 ⟨one_pair (stE_len ..), rL_sorted hh.2, fun a ha b hb => ?_⟩
      rw [(stE_fst ha).1]
      rcases rL_mem hb with e | ⟨q', hq', e⟩
      · rw [e]; omega
      · rw [e]; exact hh.1 q' hq'
theorem sorted_eq {a b : List T2} (hp : a.Perm b) (ha : leT a) (hb : ltT b) : a = b := by
  refine List.Perm.eq_of_pairwise (le := fun p q : T2 => p.1 ≤ q.1) (fun p q hp' hq' h1 h2 => ?_) ha (hb.imp fun h => Int.le_of_lt h) hp
  have hp2 := hp.mem_iff.1 hp'
  obtain ⟨i, hi, rfl⟩ := List.mem_iff_getElem.1 hp2
  obtain ⟨j, hj, rfl⟩ := List.mem_iff_getElem.1 hq'
  rcases Nat.lt_trichotomy i j with h | h | h
  · have := List.pairwise_iff_getElem.1 hb i j hi hj h; omega
  · subst h; rfl
  · have := List.pairwise_iff_getElem.1 hb j i hj hi h; omega
theorem aged_eq {s y x d : Int} {ta : List TV} {t t' : List T2} (ht : t = ta.map (·.1)) (hv : ∀ q ∈ ta, q.1.2 < y) (hs : sT t) (hp : t'.Perm (outT s x t ++ oldT y d (osA s x ta) ++ [(x, 0)])) (hl : leT t') : t' = rL s y x d t := by
  refine sorted_eq ?_ hl (rL_sorted hs)
  refine hp.trans (List.Perm.trans ?_ (rL_perm t).symm)
  subst ht
  exact (fm_perm hv).symm.append_right _
end Ca
end Go.Proofs.Ytmjnakhpekbenaa
namespace Go.Proofs.Ytmjnakhpekbenaa
open Go.RowKit Fw
namespace Ca
theorem drop_t {t : List T2} {i : Nat} (h : i < t.length) : t.drop i = (lnT t i, agT t i) :: t.drop (i + 1) := by
  rw [List.drop_eq_getElem_cons h, lnT_get h, agT_get h]
theorem age_some {t : List T2} {x a : Int} (h : ageT t x = some a) : ∃ i, i < t.length ∧ agT t i = a := by
  unfold ageT at h
  obtain ⟨q, hq, rfl⟩ := Option.map_eq_some_iff.1 h
  obtain ⟨i, hi, rfl⟩ := List.mem_iff_getElem.1 (List.mem_of_find?_eq_some hq)
  exact ⟨i, hi, agT_get hi⟩
def rest (s y x d : Int) (inn : Bool) (t : List T2) : List T2 := match inn with
  | true => t.flatMap (stE s y x d)
  | false => rL s y x d t
end Ca
end Go.Proofs.Ytmjnakhpekbenaa
namespace Go.Proofs.Ytmjnakhpekbenaa
set_option maxRecDepth 20000
set_option maxHeartbeats 4000000
open Go.RowKit Fw
namespace Ca
structure VT (s y l m : Int) (t : List T2) : Prop where
  s1 : 1 ≤ s
  s2 : s ≤ 8
  y1 : 1 ≤ y
  y2 : y ≤ 4
  l1 : 1 ≤ l
  l2 : l ≤ 8
  m1 : 0 ≤ m
  m2 : m ≤ 100
  ag : ∀ i, i < t.length → 0 ≤ agT t i ∧ agT t i ≤ y - 1
  ln : ∀ i, i < t.length → 0 ≤ lnT t i ∧ lnT t i ≤ 999
  so : sT t
  len : t.length ≤ 1000
theorem aged2_any (p : Option Addr) (t : List T2) (cp : Nat) (s y l m x d : Int) (w : World) (hT : InT w p t) (hV : VT s y l m t) (hd : -1000 ≤ d ∧ d ≤ 1000) :
    Calls Try.prog 82 #[.slice p t.length cp, .agg #[vI s, vI y, vI l, vI m], vI x, vI d] w fun e w' => ∃ pv cp', e = .returned (.slice pv (rL s y x d t).length cp') ∧ HP Tr w w' [rowT pv (rL s y x d t).length cp' (rL s y x d t)] := by
  have hl := hV.len
  obtain ⟨ta, hta⟩ := ta_of (t := t) fun i hi => by have := hV.ag i hi; have := hV.y2; omega
  refine (aged_any p t ta cp s y l m x d w hT hta (by have := hV.s1; omega) hd (by omega)).mono ?_
  rintro e w' ⟨t', pv, cp', rfl, hp, hle, hb⟩
  have := aged_eq (y := y) hta (fun q hq => by
    obtain ⟨i, hi, rfl⟩ := List.mem_iff_getElem.1 hq
    have h2 := hV.ag i (by rw [hta]; simpa using hi)
    have h3 := (ln_ta hta (List.getElem?_eq_getElem hi)).2
    rw [h3]; omega) hV.so hp hle
  subst this
  exact ⟨pv, cp', rfl, hb⟩
theorem age_bd {s y l m : Int} {t : List T2} (hV : VT s y l m t) (x : Int) : 0 ≤ (ageT t x).getD y ∧ (ageT t x).getD y ≤ 4 := by
  have h1 := hV.y1
  have h2 := hV.y2
  cases q : ageT t x with
  | none => simp; omega
  | some a => obtain ⟨i, hi, he⟩ := age_some q; have := hV.ag i hi; simp; omega
def tcH (s y x k : Int) (t : List T2) : List T2 := rL s y x ((ageT t x).getD y + k) t
def TcR (s y x k : Int) (t : List T2) (w : World) (e : Ending) (w' : World) : Prop := ∃ pv cp', e = .returned (.slice pv (tcH s y x k t).length cp') ∧ HP Tr w w' [rowT pv (tcH s y x k t).length cp' (tcH s y x k t)]
theorem wn_no2 {a : Int} (h : ¬ (0 ≤ a ∧ a ≤ 999)) : wn a 0 999 = false := by
  cases q : wn a 0 999 with
  | false => rfl
  | true => exact absurd (wn_iff.1 q) h
theorem touch0_any (p : Option Addr) (t : List T2) (cp : Nat) (s y l m x : Int) (w : World) (hT : InT w p t) (hV : VT s y l m t) :
  Calls Try.prog 59 #[.agg #[vI s, vI y, vI l, vI m], .slice p t.length cp, vI x] w (TcR s y x 0 t w) := by
 have hage := age_bd hV x
 refine calls_of Try.func59 rfl (m := 16) rfl [(0, .agg #[vI s, vI y, vI l, vI m]), (1, .slice p t.length cp), (2, vI x)] (Fr_enter [.agg #[vI s, vI y, vI l, vI m], .slice p t.length cp, vI x] 16 (Nat.le_of_ble_eq_true rfl)) ?_
 have hH1 : HP Tr w w [] := HP.refl w
 refine WC.seq fun K2 hK2 => WC.region ?_
 refine WL.alloc (c := #[vI s, vI y, vI l, vI m]) (T := 23) hH1 3 rfl (by decide) rfl rfl (fun b3 => vP b3 0) (by kernel_rfl) (fun b3 w3 hw3 => ?_)
 have hH4 : HP Tr w w3 [.cel b3 #[vI s, vI y, vI l, vI m] 23] := hw3.2
 have nb3 := hw3.1
 clear hw3
 refine WL.z (.slice none 0 0) 6 (WL.k hK2 (WC.seq fun K5 hK5 => ?_))
 refine WC.confG (γ := Option Addr × Nat × Unit) [(3, vP b3 0), (0, .agg #[vI s, vI y, vI l, vI m]), (1, .slice p t.length cp), (2, vI x)] (fun gy => [.slice p t.length cp, .agg #[vI s, vI y, vI l, vI m], vI x, .slice p t.length cp, vI x, vP b3 1, vI y, vI ((ageT t x).getD y), .slice gy.1 ((rL s y x ((ageT t x).getD y) t).length) gy.2.1, .slice gy.1 ((rL s y x ((ageT t x).getD y) t).length) gy.2.1]) (fun gy D wz => HP Tr w wz ([.cel b3 #[vI s, vI y, vI l, vI m] 23] ++ ((bif D 8 then [rowT gy.1 (rL s y x ((ageT t x).getD y) t).length gy.2.1 (rL s y x ((ageT t x).getD y) t)] else []) ++ []))) (none, 0, ()) (by kernel_rfl) ⟨rfl, rfl, rfl, rfl, trivial⟩ (by kernel_rfl) (by kernel_rfl) (by kernel_rfl) (fun _ => rfl) (by kernel_rfl) (HP.drew hH4) ?_ ?_
 ·
  refine AllOk.cons ?o0 (AllOk.cons ?o1 (AllOk.cons ?o2 (AllOk.cons ?o3 (AllOk.cons ?o4 (AllOk.cons ?o5 (AllOk.cons ?o6 (AllOk.cons ?o7 (AllOk.cons ?o8 (AllOk.cons ?o9 (AllOk.nil _))))))))))
  case o0 =>
   intro gy D wz hDi hdep hclo hW
   exact cfv gy wz (by kernel_rfl) hW
  case o1 =>
   intro gy D wz hDi hdep hclo hW
   exact cfv gy wz (x_loadS (cs := [vI s, vI y, vI l, vI m]) rfl rfl Try.underlying23 rfl sz23 (HP.range hW 0 rfl rfl)) hW
  case o2 =>
   intro gy D wz hDi hdep hclo hW
   exact cfv gy wz (by kernel_rfl) hW
  case o3 =>
   intro gy D wz hDi hdep hclo hW
   exact cfv gy wz (by kernel_rfl) hW
  case o4 =>
   intro gy D wz hDi hdep hclo hW
   exact cfv gy wz (by kernel_rfl) hW
  case o5 =>
   intro gy D wz hDi hdep hclo hW
   exact cfv gy wz (by kernel_rfl) hW
  case o6 =>
   intro gy D wz hDi hdep hclo hW
   exact cfv gy wz (x_load rfl rfl Try.underlying3 rfl (HP.cell hW 0 rfl rfl)) hW
  case o7 =>
   intro gy D wz hDi hdep hclo hW
   have d8 : D 8 = false := by
    cases h : D 8 with
    | false => rfl
    | true => exact absurd (hclo 8 _ rfl h ⟨7, .data⟩ (by simp) rfl) (by rw [hDi]; exact Bool.false_ne_true)
   have hW2 := hW
   simp only [d8, cond_true, cond_false, List.append_nil, List.nil_append, List.cons_append] at hW2
   exact .inl ⟨rfl, rfl, .inr (.inr ⟨68, #[.slice p t.length cp, vI x, vI y], by kernel_rfl, (age_any _ t _ _ (hT.below (HP.below hW)) x y (by have := hV.len; omega) hV.so).mono fun e w2 h => ⟨gy, fun _ _ => rfl, h.1, HP.call hW h.2⟩⟩)⟩
  case o8 =>
   intro gy D wz hDi hdep hclo hW
   have d9 : D 9 = false := by
    cases h : D 9 with
    | false => rfl
    | true => exact absurd (hclo 9 _ rfl h ⟨8, .data⟩ (by simp) rfl) (by rw [hDi]; exact Bool.false_ne_true)
   have hW2 := hW
   simp only [hDi, cond_true, cond_false, List.append_nil, List.nil_append, List.cons_append] at hW2
   refine .inl ⟨rfl, rfl, .inr (.inr ⟨82, #[.slice p t.length cp, .agg #[vI s, vI y, vI l, vI m], vI x, vI ((ageT t x).getD y)], by kernel_rfl, (aged2_any _ t _ s y l m x _ _ (hT.below (HP.below hW2)) hV (by have := age_bd hV x; omega)).mono ?_⟩)⟩
   rintro e w3 ⟨pv, cp9, rfl, hb⟩
   refine ⟨⟨pv, cp9, ()⟩, fun j hj => ?_, rfl, ?_⟩
   ·
    match j, hj with
    | 0, hj => rfl
    | 1, hj => rfl
    | 2, hj => rfl
    | 3, hj => rfl
    | 4, hj => rfl
    | 5, hj => rfl
    | 6, hj => rfl
    | 7, hj => rfl
    | 8, hj => rw [hDi] at hj; cases hj
    | 9, hj => exact absurd hj (by rw [d9]; exact Bool.false_ne_true)
    | j + 10, _ => rfl
   ·
    show HP Tr w w3 ([.cel b3 #[vI s, vI y, vI l, vI m] 23] ++ ([rowT pv (rL s y x ((ageT t x).getD y) t).length cp9 (rL s y x ((ageT t x).getD y) t)] ++ []))
    simp only [cond_true, cond_false, List.append_nil, List.nil_append, List.cons_append]
    exact HP.trans hW2 hb
  case o9 =>
   intro gy D wz hDi hdep hclo hW
   exact cfv gy wz (by kernel_rfl) hW
 rintro ⟨pv, cp9, gu⟩ D w6 hall hH7
 simp only [hall 8 (by kernel_rfl), cond_true, List.append_nil, List.nil_append, List.cons_append] at hH7
 clear hall
 refine WQ.sb [(0, .agg #[vI s, vI y, vI l, vI m]), (1, .slice p t.length cp), (2, vI x), (3, vP b3 0), (6, .slice pv ((rL s y x ((ageT t x).getD y) t).length) cp9)] (WQ.then (hK5 _ _ _ (WC.ret ?_)))
 refine WQ.ret1 6 rfl rfl ?_
 have e9 : tcH s y x 0 t = (rL s y x ((ageT t x).getD y) t) := by unfold tcH; rw [Int.add_zero]
 exact ⟨pv, cp9, by rw [e9], by rw [e9]; exact HP.eq (HP.drop hH7 0) rfl⟩
end Ca
end Go.Proofs.Ytmjnakhpekbenaa
namespace Go.Proofs.Ytmjnakhpekbenaa
open Go.RowKit
namespace Fw
section
variable {P : Program} {S : Nat → Prop} {w0 w : World} {H : List Ent} {γ : Type} {Wt Kn R1 R2 : Prop} {ρ : Operand → Value} {o : Oper} {val : γ → Value} {agr : γ → Prop} {WI : γ → World → Prop}
theorem cf_alloc {c : Array Value} {T : TypeId} (hH : HP S w0 w H) (V : Nat → Value) (hw : Wt) (hk : Kn) (hr : (execOp ρ o).run P w = .ok (.value (V w.heap.size)) (w.alloc (.cells c T)))
    (k : ∀ b w', HP S w0 w' (H ++ [.cel b c T]) → ∃ g', agr g' ∧ val g' = V b ∧ WI g' w') :
    (Wt ∧ Kn ∧ ((∃ g' w', agr g' ∧ (execOp ρ o).run P w = .ok (.value (val g')) w' ∧ WI g' w') ∨ R1)) ∨ R2 := by
  obtain ⟨g', h1, h2, h3⟩ := k _ _ (HP.alloc hH c T)
  exact .inl ⟨hw, hk, .inl ⟨g', _, h1, by rw [h2]; exact hr, h3⟩⟩
theorem cf_append {t e : TypeId} {inf : TypeInfo} {z : Value} {sz by' : Nat} {x y : Operand} {v : Value} {k m : Nat} {xs : List Value} (news : List Value) {bn cp : Nat} {cn : Array Value} (i j : Nat) (hH : HP S w0 w H) (hw : Wt) (hkn : Kn)
    (ho : o.op = .call { callee := .builtin .append, args := #[x, y], argTypes := #[t, t] }) (hx : ρ x = v) (hy : ρ y = .slice (some ⟨bn, 0, none⟩) m cp)
    (ht : P.underlying t = some (.slice e)) (hi' : P.info? e = some inf) (hz : inf.zero = some z) (hsz : inf.size = sz) (hby : inf.bytes = by') (hzs : z.cells.size = sz) (h0 : 0 < sz)
    (hi : H[i]? = some (.own v k xs e sz)) (hj : H[j]? = some (.cel bn cn e)) (hnews : cn.toList.take news.length = news) (hl : news.length = m * sz) (h1 : ∀ u ∈ news, u.oneCell' = true) (h63 : k + m ≤ maxLen) (hb : (k + m) * by' ≤ 140737488355328)
    (h : ∀ v' w2, HP S w0 w2 (H.set i (.own v' (k + m) (xs ++ news) e sz)) → ∃ g', agr g' ∧ val g' = v' ∧ WI g' w2) :
    (Wt ∧ Kn ∧ ((∃ g' w', agr g' ∧ (execOp ρ o).run P w = .ok (.value (val g')) w' ∧ WI g' w') ∨ R1)) ∨ R2 := by
  obtain ⟨v', w2, hr, g1, g2, g3, g4⟩ := append_ent (P := P) w t o.type e inf z sz by' ht hi' hz hsz hby hzs h0 v k xs (hH.get i hi) ⟨bn, 0, none⟩ m cp news hl (fun q u hu => by
    rw [Addr.add_mid]
    exact hH.range j hj (by simpa using hnews) q u hu) h1 h63 hb
  obtain ⟨g', a1, a2, a3⟩ := h v' w2 (hH.change i hi g2.os g2.tape g2.output g2.size (fun q hq hne => g2.block q hq fun e => hne e.symm) ⟨g1.1, g1.2⟩ g4)
  exact .inl ⟨hw, hkn, .inl ⟨g', w2, a1, by rw [a2]; exact x_append (P := P) ho hx hy hr, a3⟩⟩
theorem cf_appendSrc {t e : TypeId} {inf : TypeInfo} {z : Value} {sz by' : Nat} {x y : Operand} {v : Value} {k m : Nat} {xs : List Value} (news : List Value) {p : Option Addr} {cp : Nat} (i : Nat) (hH : HP S w0 w H) (hw : Wt) (hkn : Kn)
    (ho : o.op = .call { callee := .builtin .append, args := #[x, y], argTypes := #[t, t] }) (hx : ρ x = v) (hy : ρ y = .slice p m cp)
    (ht : P.underlying t = some (.slice e)) (hi' : P.info? e = some inf) (hz : inf.zero = some z) (hsz : inf.size = sz) (hby : inf.bytes = by') (hzs : z.cells.size = sz) (h0 : 0 < sz)
    (hi : H[i]? = some (.own v k xs e sz)) (hsrc : (∃ a, p = some a ∧ ∀ q u, news[q]? = some u → w.cell? (a.add q) = some u) ∨ (p = none ∧ m = 0 ∧ cp = 0)) (hl : news.length = m * sz) (h1 : ∀ u ∈ news, u.oneCell' = true) (h63 : k + m ≤ maxLen) (hb : (k + m) * by' ≤ 140737488355328)
    (h : ∀ v' w2, HP S w0 w2 (H.set i (.own v' (k + m) (xs ++ news) e sz)) → ∃ g', agr g' ∧ val g' = v' ∧ WI g' w2) :
    (Wt ∧ Kn ∧ ((∃ g' w', agr g' ∧ (execOp ρ o).run P w = .ok (.value (val g')) w' ∧ WI g' w') ∨ R1)) ∨ R2 := by
  rcases hsrc with ⟨ad, rfl, hc⟩ | ⟨rfl, rfl, rfl⟩
  · obtain ⟨v', w2, hr, g1, g2, g3, g4⟩ := append_ent (P := P) w t o.type e inf z sz by' ht hi' hz hsz hby hzs h0 v k xs (hH.get i hi) ad m cp news hl hc h1 h63 hb
    obtain ⟨g', a1, a2, a3⟩ := h v' w2 (hH.change i hi g2.os g2.tape g2.output g2.size (fun q hq hne => g2.block q hq fun e => hne e.symm) ⟨g1.1, g1.2⟩ g4)
    exact .inl ⟨hw, hkn, .inl ⟨g', w2, a1, by rw [a2]; exact x_append (P := P) ho hx hy hr, a3⟩⟩
  · have hnil : news = [] := List.length_eq_zero_iff.1 (by rw [hl]; simp)
    subst hnil
    have hr := run_append_owned_none (P := P) (w := w) 0 t o.type e inf sz ht hi' v k xs (hH.get i hi)
    obtain ⟨g', a1, a2, a3⟩ := h v w (hH.setSame i hi (by have q := hH.get i hi; simpa using q) rfl)
    exact .inl ⟨hw, hkn, .inl ⟨g', w, a1, by rw [a2]; exact x_append (P := P) ho hx hy hr, a3⟩⟩
theorem cf_makeOwn {t e : TypeId} {inf : TypeInfo} {z : Value} {sz by' cap : Nat} {x y : Operand} {C : Int} (hH : HP S w0 w H) (hw : Wt) (hkn : Kn)
    (ho : o.op = .makeSlice t x y) (hx : ρ x = .int .i64 0) (hy : ρ y = .int .i64 C) (hC : C = (cap : Int))
    (ht : P.underlying t = some (.slice e)) (hi' : P.info? e = some inf) (hz : inf.zero = some z) (hsz : inf.size = sz) (hby : inf.bytes = by') (hzs : z.cells.size = sz) (hb : by' * cap ≤ 281474976710656) (h63 : cap ≤ maxLen)
    (h : ∀ g w2, HP S w0 w2 (H ++ [.own (.slice (some ⟨g, 0, none⟩) 0 cap) 0 [] e sz]) → ∃ g', agr g' ∧ val g' = .slice (some ⟨g, 0, none⟩) 0 cap ∧ WI g' w2) :
    (Wt ∧ Kn ∧ ((∃ g' w', agr g' ∧ (execOp ρ o).run P w = .ok (.value (val g')) w' ∧ WI g' w') ∨ R1)) ∨ R2 := by
  subst hC
  have hmx : cap ≤ 9223372036854775807 := h63
  have hr := run_make (P := P) w t e inf z ht hi' hz .i64 .i64 0 (cap : Int) (Int.le_refl 0) (by omega) (by rw [hby]; omega) (by omega)
  have q := HP.alloc hH (madeCells z.cells (cap * inf.size)) e
  have q2 := q.setSame H.length (e := .cel w.heap.size (madeCells z.cells (cap * inf.size)) e) (e' := .own (.slice (some ⟨w.heap.size, 0, none⟩) 0 cap) 0 [] e sz) (by simp)
    (World.ownsRow_made (size := sz) w _ cap (Nat.zero_le _) h63 (by rw [← hsz]; simp [madeCells])) rfl
  obtain ⟨g', a1, a2, a3⟩ := h w.heap.size (w.alloc (.cells (madeCells z.cells (cap * inf.size)) e)) (by simpa using q2)
  simp only [Int.toNat_natCast, Int.toNat_zero] at hr
  exact .inl ⟨hw, hkn, .inl ⟨g', _, a1, by rw [a2]; exact x_makeR (P := P) ho hx hy hr, a3⟩⟩
end
end Fw
end Go.Proofs.Ytmjnakhpekbenaa
