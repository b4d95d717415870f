/- What the proof of CachePreempted stands on, part 5 of 5. -/
import Derived.BigQuiet
import Derived.BigRegion
import Derived.CallsIn
import Derived.ChangeAlike
import Derived.ChangeArms
import Derived.ChangeKeysEq
import Derived.ChangeSlices
import Derived.Deep.AppendLies
import Derived.Deep.CutRange
import Derived.Deep.DeepCutAuto
import Derived.Deep.Heap
import Derived.Deep.LoopGhost
import Derived.Deep.Matrix
import Derived.Deep.MidRow
import Derived.Deep.QuietTactic
import Derived.Deep.Slices
import Derived.Great.BuildSlice
import Derived.Great.Walk
import Derived.Ground.Names2Prog
import Derived.Ground.SlgnProg
import Derived.Ground.SlsfProg
import Derived.Handy
import Derived.KernelRfl
import Derived.Laws.AppendOwn
import Derived.Laws.AppendOwnNone
import Derived.Laws.CopyRow
import Derived.Laws.Externs
import Derived.Laws.MakeOwn
import Derived.Laws.Rows
import Derived.Laws.StructEq
import Derived.Lib.AppendZerosOnto
import Derived.Lib.Overlaps
import Derived.Lib.QuietBelow
import Derived.Lib.SliceRun
import Derived.Maps.Own
import Derived.Maps.OwnOps
import Derived.Maps.OwnSet
import Derived.Maps.Views
import Derived.OpenShut
import Derived.Orders
import Derived.OrdersIn
import Derived.RangeFuncFrom
import Derived.RangeFuncLeaves
import Derived.RangeFuncWrites
import Derived.RegionTactic
import Derived.Shelf.SlSortCmp.HeapSortK
import Derived.Shelf.SlSortCmp.InsertionK
import Derived.Shelf.SlSortCmp.MedianK
import Derived.Shelf.SlSortCmp.NoneTotal
import Derived.Shelf.SlSortCmp.PartialInsertionK
import Derived.Shelf.SlSortCmp.PartitionEqualK
import Derived.Shelf.SlSortCmp.PartitionK
import Derived.Shelf.SlSortCmp.PdqK
import Derived.Shelf.SlSortCmp.PivotK
import Derived.Shelf.SlSortCmp.ReverseRangeK
import Derived.Shelf.SlSortCmp.SiftDownK
import Derived.Shelf.Slices.Cells
import Derived.Shelf.Slices.Clone
import Derived.Shelf.Slices.Delete
import Derived.Shelf.Slices.Empties
import Derived.Shelf.Slices.SearchI
import Derived.Shelf.Slices.Turned
import Derived.Shelf.SlicesE.Clone
import Derived.Shelf.SlicesE.Delete
import Derived.Shelf.SlicesQ.Reverse
import Derived.Shelf.Small.Bits
import Derived.Shelf.Small.Wraps
import Derived.Shelf.Strconv.Itoa0
import Derived.SizedLaws
import Derived.Sort.AssemblyPlain
import Derived.Still
import Derived.StillTail
import Derived.TacticsIn
import Derived.Test.YtmjnakhpekbenaaProg
import Derived.WalkKit
import Derived.WalkLawsBesides
import Derived.Test.YtmjnakhpekbenaaCachePreemptedD
set_option linter.unusedVariables false
set_option linter.unusedSimpArgs false
namespace Go.Proofs.Ytmjnakhpekbenaa
set_option maxRecDepth 20000
set_option maxHeartbeats 4000000
open Go.RowKit Fw
namespace Ca
theorem Must_any (s y l m : Int) (p : Option Addr) (n cap : Nat) (c A B : Nat → Int) (R : Fl.Tr) (hR : okC s y l m c A B n = true → Fl.Is (cdOf c n) R 0 n ∧ ∀ (pb : Nat) (cq : Option Addr) (cap b6 b4 ga : Nat), BrAll (BrP0 s y l m pb cq n cap b6 b4 ga c A B) (BrA0 s y l m pb cq n cap b6 b4 ga c A B) R) (w : World) (hIn : Ec.InC w p n c A B) (hn : n ≤ 400) :
  Calls Try.prog 46 #[.agg #[vI s, vI y, vI l, vI m], .slice p n cap] w (MarkR0 s y l m c A B n R w) := by
 refine calls_of Try.func46 rfl (m := 11) rfl [(0, .agg #[vI s, vI y, vI l, vI m]), (1, .slice p n cap)] (Fr_enter [.agg #[vI s, vI y, vI l, vI m], .slice p n cap] 11 (Nat.le_of_ble_eq_true rfl)) ?_
 have hH1 : HP Tr w w [] := HP.refl w
 refine WC.seq fun K2 hK2 => WC.region ?_
 refine WL.alloc (c := #[vI s, vI y, vI l, vI m]) (T := 23) hH1 2 rfl (by decide) rfl rfl (fun b2 => vP b2 0) (by kernel_rfl) (fun b2 w3 hw3 => ?_)
 have hH4 : HP Tr w w3 [.cel b2 #[vI s, vI y, vI l, vI m] 23] := hw3.2
 have nb2 := hw3.1
 clear hw3
 refine WL.z (.slice none 0 0) 4 (WL.z (vI 0) 5 (WL.k hK2 (WC.seq fun K5 hK5 => WC.region (WL.y (.agg #[vI s, vI y, vI l, vI m]) 6 (x_loadS (cs := [vI s, vI y, vI l, vI m]) rfl rfl Try.underlying23 rfl sz23 (HP.range hH4 0 rfl rfl)) (WL.z (.slice p n cap) 7 ?_)))))
 refine WL.c 70 #[.agg #[vI s, vI y, vI l, vI m], .slice p n cap, .func (.func 59) #[] #[], .func (.func 63) #[] #[]] 8 ?_
 refine (marks0_any s y l m p n cap c A B R hR _ (hIn.below (HP.below hH4)) hn).mono ?_
 rintro e w4 (⟨hno, rfl, hb⟩ | ⟨hyes, go, rfl, hb⟩)
 ·
  refine ⟨_, rfl, ?_⟩
  have hH6 := HP.call hH4 hb
  refine WL.z (.slice none 0 0) 9 (WL.z (vI 1) 10 (WL.z (.slice none 0 0) 4 (WL.z (vI 1) 5 (WL.k hK5 (WC.sb [(0, .agg #[vI s, vI y, vI l, vI m]), (1, .slice p n cap), (2, vP b2 0), (4, .slice none 0 0), (5, vI 1)] (WC.ret ?_))))))
  refine WQ.ret2 4 5 rfl rfl rfl ?_
  exact .inl ⟨hno, rfl, HP.below hH6⟩
 ·
  refine ⟨_, rfl, ?_⟩
  have hH7 : HP Tr w _ [.cel b2 #[vI s, vI y, vI l, vI m] 23, .cel go (brow n (mk0 s y l c n R)) 4] := HP.trans hH4 hb
  refine WL.z (vS go n n) 9 (WL.z (vI 0) 10 (WL.z (vS go n n) 4 (WL.z (vI 0) 5 (WL.k hK5 (WC.sb [(0, .agg #[vI s, vI y, vI l, vI m]), (1, .slice p n cap), (2, vP b2 0), (4, vS go n n), (5, vI 0)] (WC.ret ?_))))))
  refine WQ.ret2 4 5 rfl rfl rfl ?_
  exact .inr ⟨hyes, go, rfl, HP.drop hH7 0⟩
def c0 : Nat → Int := fun _ => 0
def R5 : Fl.Tr := .one 0 (.one 1 (.one 2 (.one 3 (.one 4 .nil))))
theorem ok5 : okC 1 2 4 1 c0 c0 c0 5 = true := by kernel_rfl
theorem mk5 : brow 5 (mk0 1 2 4 c0 5 R5) = #[.bool false, .bool true, .bool true, .bool true, .bool false] := by kernel_rfl
theorem is5 : Fl.Is (cdOf c0 5) R5 0 5 := ⟨rfl, fun h => absurd (show (29 : Int) ≤ 0 from h.1) (by decide), rfl, fun h => absurd (show (29 : Int) ≤ 0 from h.1) (by decide), rfl, fun h => absurd (show (29 : Int) ≤ 0 from h.1) (by decide), rfl, fun h => absurd (show (29 : Int) ≤ 0 from h.1) (by decide), rfl, fun h => absurd (show (29 : Int) ≤ 0 from h.1) (by decide), rfl⟩
theorem must5_any (gc : Nat) (w : World) (hIn : Ec.InC w (some ⟨gc, 0, none⟩) 5 c0 c0 c0) :
    Calls Try.prog 46 #[.agg #[vI 1, vI 2, vI 4, vI 1], vS gc 5 5] w fun e w' => ∃ go, e = .returned (.tuple #[vS go 5 5, vI 0]) ∧ HP Tr w w' [.cel go #[.bool false, .bool true, .bool true, .bool true, .bool false] 4] :=
  (Must_any 1 2 4 1 (some ⟨gc, 0, none⟩) 5 5 c0 c0 c0 R5 (fun _ => ⟨is5, fun _ _ _ _ _ _ => trivial⟩) w hIn (by decide)).mono fun e w' h => by
    rcases h with ⟨h, _⟩ | ⟨_, go, h1, h2⟩
    · rw [ok5] at h; cases h
    · exact ⟨go, h1, by rw [mk5] at h2; exact h2⟩
theorem touch5_any (q : Option Addr) (cp : Nat) (b10 : Nat) (w : World) (hS : InS2 w q [⟨some ⟨b10, 0, none⟩, [], 0⟩]) :
    Calls Try.prog 12 #[.agg #[vI 1, vI 2, vI 4, vI 1], .slice q 1 cp, vI 1] w fun e w' => ∃ pv cp' r, e = .returned (.tuple #[.slice pv 1 cp', .bool false, vI 0]) ∧ r.xs = [0] ∧ InS2 w' pv [r] ∧ Below w.heap.size w w' :=
  (Touch_any 1 2 4 1 1 q [⟨some ⟨b10, 0, none⟩, [], 0⟩] cp w hS (by simp)).mono fun e w' h => by
    rcases h with ⟨h, _⟩ | ⟨_, pv, cp', S', h1, h2, h3, h4⟩
    · have e0 : stX [⟨some ⟨b10, 0, none⟩, [], 0⟩] = [[]] := rfl
      rw [e0] at h; exact absurd h (by decide +kernel)
    · have e1 : stp 1 2 4 1 (stX [⟨some ⟨b10, 0, none⟩, [], 0⟩]) = [[0]] := by kernel_rfl
      have e2 : hitN 1 4 1 (stX [⟨some ⟨b10, 0, none⟩, [], 0⟩]) = 0 := by kernel_rfl
      rw [e1] at h2
      rw [e2] at h1
      match S', h2, h1, h3 with
      | [], h2, _, _ => cases h2
      | [r], h2, h1, h3 => exact ⟨pv, cp', r, h1, by simpa [stX] using h2, h3, h4⟩
      | r :: r2 :: S', h2, _, _ => simp [stX] at h2
theorem info75 : ∃ i, Try.prog.info? 75 = some i ∧ i.zero = some (.agg #[.int .i64 0, .int .i64 0, .int .i64 0]) ∧ i.size = 3 ∧ i.bytes = 24 := Ec.infoR'
theorem make5 (W : World) : (Instr.makeSlice 42 (.int .i64 5) (.int .i64 5)).run Try.prog W = .ok (.slice (some ⟨W.heap.size, 0, none⟩) 5 5) (W.alloc (.cells (madeCells #[.int .i64 0, .int .i64 0, .int .i64 0] (5 * 3)) 75)) := by
  obtain ⟨i0, hi0, hz0, hz1, hz2⟩ := info75
  have hr := run_make (P := Try.prog) W 42 75 i0 _ Try.underlying42 hi0 hz0 .i64 .i64 5 5 (by omega) (by omega) (by rw [hz2]; omega) (by omega)
  rw [hz1] at hr
  exact hr
theorem made15 {k : Nat} (hk : k < 15) : (madeCells #[Value.int .i64 0, .int .i64 0, .int .i64 0] (5 * 3))[k]? = some (Value.int .i64 0) := by
  have h : k % 3 = 0 ∨ k % 3 = 1 ∨ k % 3 = 2 := by omega
  unfold madeCells
  rcases h with h | h | h <;> simp [hk, h]
theorem in5 {w : World} {g : Nat} (h : Ent.holds w (.cel g (madeCells #[.int .i64 0, .int .i64 0, .int .i64 0] (5 * 3)) 75)) : Ec.InC w (some ⟨g, 0, none⟩) 5 c0 c0 c0 := fun _ => ⟨g, 0, rfl, fun i hi j v hv => by
  have h2 : w.heap[g]? = some (.cells _ 75 (0, 0)) := h
  rw [cell_of_row w g _ _ 75 (0, 0) h2]
  have hv2 : v = .int .i64 0 ∧ j < 3 := by
    match j, hv with
    | 0, hv => simp [c0] at hv; exact ⟨hv.symm, by omega⟩
    | 1, hv => simp [c0] at hv; exact ⟨hv.symm, by omega⟩
    | 2, hv => simp [c0] at hv; exact ⟨hv.symm, by omega⟩
    | j + 3, hv => simp at hv
  obtain ⟨rfl, hj⟩ := hv2
  have hlt : 0 + i * 3 + j < 15 := by omega
  generalize 0 + i * 3 + j = k at hlt
  exact made15 hlt⟩
theorem sane_any (w : World) :
  Calls Try.prog 16 #[] w fun e w' => e = .returned (.bool true) ∧ Below w.heap.size w w' := by
 refine calls_of Try.func16 rfl (m := 74) rfl [] (Fr_enter [] 74 (Nat.le_of_ble_eq_true rfl)) ?_
 have hH1 : HP Tr w w [] := HP.refl w
 refine WC.seq fun K2 hK2 => WC.region (WL.z (.bool false) 0 (WL.k hK2 (WC.seq fun K3 hK3 => WC.region (WL.z (.agg #[vI 1, vI 2, vI 4, vI 1]) 7 ?_))))
 refine WL.alloc (c := #[vI 0, vI 0, vI 0, vI 0]) (T := 23) hH1 1 rfl (by decide) rfl rfl (fun b1 => vP b1 0) (by kernel_rfl) (fun b1 w4 hw4 => ?_)
 have hH5 : HP Tr w w4 [.cel b1 #[vI 0, vI 0, vI 0, vI 0] 23] := hw4.2
 have nb1 := hw4.1
 clear hw4
 refine WL.storeS (H2 := [.cel b1 #[vI 1, vI 2, vI 4, vI 1] 23]) 0 hH5 rfl rfl rfl rfl rfl rfl sz23 rfl (Nat.le_of_ble_eq_true rfl) rfl rfl ?_
 intro w6 hH7
 refine WL.k hK3 (WC.seq fun K8 hK8 => WC.region (WL.y (.agg #[vI 1, vI 2, vI 4, vI 1]) 9 (x_loadS (cs := [vI 1, vI 2, vI 4, vI 1]) rfl rfl Try.underlying23 rfl sz23 (HP.range hH7 0 rfl rfl)) ?_))
 refine WL.alloc (c := #[]) (T := 3) hH7 10 rfl (by decide) rfl rfl (fun b10 => vS b10 0 0) (by kernel_rfl) (fun b10 w9 hw9 => ?_)
 have hH10 : HP Tr w w9 [.cel b1 #[vI 1, vI 2, vI 4, vI 1] 23, .cel b10 #[] 3] := hw9.2
 have nb10 := hw9.1
 clear hw9
 refine WL.alloc (c := #[vS b10 0 0]) (T := 33) hH10 11 rfl (by decide) rfl rfl (fun b11 => vS b11 1 1) (by kernel_rfl) (fun b11 w11 hw11 => ?_)
 have hH12 : HP Tr w w11 [.cel b1 #[vI 1, vI 2, vI 4, vI 1] 23, .cel b10 #[] 3, .cel b11 #[vS b10 0 0] 33] := hw11.2
 have nb11 := hw11.1
 clear hw11
 have hS9 : InS2 _ (some ⟨b11, 0, none⟩) [⟨some ⟨b10, 0, none⟩, [], 0⟩] := ⟨fun _ => ⟨b11, 0, rfl, fun i hi j v hv => by
    have hi : i < 1 := hi
    obtain rfl : i = 0 := by omega
    match j, hv with
    | 0, hv => cases hv; exact HP.cell hH12 2 rfl rfl
    | j + 1, hv => simp at hv⟩, fun r hr => by obtain rfl := List.mem_singleton.1 hr; exact ⟨fun h => absurd h (by simp), Nat.le_refl _, Nat.zero_le _, fun x hx => by cases hx⟩⟩
 refine WL.c 12 #[.agg #[vI 1, vI 2, vI 4, vI 1], vS b11 1 1, vI 1] 12 ?_
 refine (touch5_any (some ⟨b11, 0, none⟩) 1 b10 _ hS9).mono ?_
 rintro e w13 ⟨pvt, cpt, rt, rfl, hrx, hIt, hb14⟩
 refine ⟨_, rfl, ?_⟩
 have hH15 := HP.call hH12 hb14
 refine WL.z (.tuple #[.slice pvt 1 cpt, .bool false, vI 0]) 8 (WL.z (.slice pvt 1 cpt) 13 (WL.z (.bool false) 14 (WL.z (vI 0) 15 (WL.z (.slice pvt 1 cpt) 2 (WL.z (.bool false) 3 (WL.z (vI 0) 4 (WL.k hK8 (WC.sb [(0, .bool false), (1, vP b1 0), (2, .slice pvt 1 cpt), (3, .bool false), (4, vI 0)] (WC.seq fun K16 hK16 => ?_)))))))))
 have hInv := hH15
 have hb1r : ∀ i9, i9 < 1 → World.rangeAt w13 b1 i9 [vI 1, vI 2, vI 4, vI 1] := fun i9 h9 => match i9, h9 with | 0, _ => HP.range hInv 0 rfl rfl | n + 1, h9 => absurd h9 (by omega)
 have hH17 : HP Tr w13 w13 [] := HP.refl w13
 refine WC.confG (γ := Nat × Nat × Unit) [(0, .bool false), (1, vP b1 0), (2, .slice pvt 1 cpt), (3, .bool false), (4, vI 0)] (fun gy => [.agg #[vI 1, vI 2, vI 4, vI 1], vS gy.1 5 5, .tuple #[vS gy.2.1 5 5, vI 0], .tuple #[vS gy.2.1 5 5, vI 0], vS gy.2.1 5 5, vI 0, vS gy.2.1 5 5, vI 0]) (fun gy D wz => HP Tr w13 wz ([] ++ ((bif D 1 then [Ent.cel gy.1 (madeCells #[.int .i64 0, .int .i64 0, .int .i64 0] (5 * 3)) 75] else []) ++ ((bif D 2 then [Ent.cel gy.2.1 #[.bool false, .bool true, .bool true, .bool true, .bool false] 4] else []) ++ [])))) (0, 0, ()) (by kernel_rfl) ⟨rfl, rfl, rfl, rfl, rfl, trivial⟩ (by kernel_rfl) (by kernel_rfl) (by kernel_rfl) (fun _ => rfl) (by kernel_rfl) (HP.drew hH17) ?_ ?_
 ·
  refine AllOk.cons ?o0 (AllOk.cons ?o1 (AllOk.cons ?o2 (AllOk.cons ?o3 (AllOk.cons ?o4 (AllOk.cons ?o5 (AllOk.cons ?o6 (AllOk.cons ?o7 (AllOk.nil _))))))))
  case o0 =>
   intro gy D wz hDi hdep hclo hW
   exact cfv gy wz (x_loadS (cs := [vI 1, vI 2, vI 4, vI 1]) rfl rfl Try.underlying23 rfl sz23 (HP.oldRange hW trivial (hb1r 0 (by omega)))) hW
  case o1 =>
   intro gy D wz hDi hdep hclo hW
   have d2 : D 2 = false := by
    cases h : D 2 with
    | false => rfl
    | true => exact absurd (hclo 2 _ rfl h ⟨1, .data⟩ (by simp) rfl) (by rw [hDi]; exact Bool.false_ne_true)
   have hW2 := hW
   try simp only [d2, hDi, cond_true, cond_false, List.append_nil, List.nil_append, List.cons_append] at hW2
   refine cf_alloc (c := (madeCells #[.int .i64 0, .int .i64 0, .int .i64 0] (5 * 3))) (T := 75) hW2 (fun b18 => vS b18 5 5) rfl rfl (x_makeR rfl rfl rfl (make5 _)) ?_
   rintro b18 w3 hA
   refine ⟨⟨b18, gy.2.1, ()⟩, fun j hj => ?_, rfl, ?_⟩
   ·
    match j, hj with
    | 0, hj => rfl
    | 1, hj => rw [hDi] at hj; cases hj
    | 2, hj => rfl
    | 3, hj => rfl
    | 4, hj => rfl
    | 5, hj => rfl
    | 6, hj => rfl
    | 7, hj => rfl
    | j + 8, _ => rfl
   ·
    show HP Tr w13 w3 ([] ++ ([Ent.cel b18 (madeCells #[.int .i64 0, .int .i64 0, .int .i64 0] (5 * 3)) 75] ++ ((bif D 2 then [Ent.cel gy.2.1 #[.bool false, .bool true, .bool true, .bool true, .bool false] 4] else []) ++ [])))
    try simp only [d2, cond_true, cond_false, List.append_nil, List.nil_append, List.cons_append]
    exact hA
  case o2 =>
   intro gy D wz hDi hdep hclo hW
   have d1 : D 1 = true := hdep ⟨1, .data⟩ (by simp) rfl
   have d3 : D 3 = false := by
    cases h : D 3 with
    | false => rfl
    | true => exact absurd (hclo 3 _ rfl h ⟨2, .data⟩ (by simp) rfl) (by rw [hDi]; exact Bool.false_ne_true)
   have d4 : D 4 = false := by
    cases h : D 4 with
    | false => rfl
    | true => exact absurd (hclo 4 _ rfl h ⟨3, .data⟩ (by simp) rfl) (by rw [d3]; exact Bool.false_ne_true)
   have d6 : D 6 = false := by
    cases h : D 6 with
    | false => rfl
    | true => exact absurd (hclo 6 _ rfl h ⟨2, .chain⟩ (by simp) rfl) (by rw [hDi]; exact Bool.false_ne_true)
   have hW2 := hW
   try simp only [d1, hDi, cond_true, cond_false, List.append_nil, List.nil_append, List.cons_append] at hW2
   refine .inl ⟨rfl, rfl, .inr (.inr ⟨46, #[.agg #[vI 1, vI 2, vI 4, vI 1], vS gy.1 5 5], by kernel_rfl, (must5_any gy.1 _ (in5 (HP.get hW2 0 rfl))).mono ?_⟩)⟩
   rintro e w3 ⟨go, rfl, hb9⟩
   have hA := HP.trans hW2 hb9
   refine ⟨⟨gy.1, go, ()⟩, fun j hj => ?_, rfl, ?_⟩
   ·
    match j, hj with
    | 0, hj => rfl
    | 1, hj => rfl
    | 2, hj => rw [hDi] at hj; cases hj
    | 3, hj => exact absurd hj (by rw [d3]; exact Bool.false_ne_true)
    | 4, hj => exact absurd hj (by rw [d4]; exact Bool.false_ne_true)
    | 5, hj => rfl
    | 6, hj => exact absurd hj (by rw [d6]; exact Bool.false_ne_true)
    | 7, hj => rfl
    | j + 8, _ => rfl
   ·
    show HP Tr w13 w3 ([] ++ ((bif D 1 then [Ent.cel gy.1 (madeCells #[.int .i64 0, .int .i64 0, .int .i64 0] (5 * 3)) 75] else []) ++ ([Ent.cel go #[.bool false, .bool true, .bool true, .bool true, .bool false] 4] ++ [])))
    try simp only [d1, cond_true, cond_false, List.append_nil, List.nil_append, List.cons_append]
    exact hA
  case o3 =>
   intro gy D wz hDi hdep hclo hW
   exact cfv gy wz (by kernel_rfl) hW
  case o4 =>
   intro gy D wz hDi hdep hclo hW
   exact cfv gy wz (by kernel_rfl) hW
  case o5 =>
   intro gy D wz hDi hdep hclo hW
   exact cfv gy wz (by kernel_rfl) hW
  case o6 =>
   intro gy D wz hDi hdep hclo hW
   exact cfv gy wz (by kernel_rfl) hW
  case o7 =>
   intro gy D wz hDi hdep hclo hW
   exact cfv gy wz (by kernel_rfl) hW
 rintro ⟨b18, go, gu⟩ D w18 hall hH19
 simp only [hall 1 (by kernel_rfl), hall 2 (by kernel_rfl), cond_true, List.append_nil, List.nil_append, List.cons_append] at hH19
 clear hall
 refine WQ.sb [(0, .bool false), (1, vP b1 0), (2, .slice pvt 1 cpt), (3, .bool false), (4, vI 0), (5, vS go 5 5), (6, vI 0)] (WQ.then (hK16 _ _ _ (WC.seq fun K20 hK20 => ?_)))
 obtain ⟨gt, ot, rfl, hrt⟩ := hIt.row (by simp)
 obtain ⟨gr, orr, hqr, hrr⟩ := (hIt.inn rt (by simp)).row (by simp [hrx])
 refine WC.region (WL.z (vI 0) 22 (WL.y (.bool true) 23 (x_eql rfl rfl rfl (by decide)) (WL.z (.bool true) 24 (WL.z (.bool false) 25 (WL.z (.bool true) 26 (WL.z (.bool true) 27 (WL.z (.bool true) 28 (WL.z (.slice (some ⟨gt, ot, none⟩) 1 cpt) 29 (WL.z (vI 1) 30 (WL.y (.bool true) 31 (x_eql rfl rfl rfl (by decide)) (WL.z (.bool true) 32 ?_)))))))))))
 refine WL.z (.bool true) 33 (WL.z (.slice (some ⟨gt, ot, none⟩) 1 cpt) 34 (WL.y (vP gt ot) 35 (x_ix (0) (ot) Try.underlying24 sz33) (WL.y (.slice (some ⟨gr, orr, none⟩) 1 rt.c) 36 (x_load rfl rfl Try.underlying33 rfl (by have q9 := (hrt 0 (by simp)) 0 _ rfl; simp only [List.getD_cons_zero, slV, hqr, hrx, List.length_cons, List.length_nil] at q9; exact HP.old hH19 trivial q9)) (WL.z (vI 1) 37 (WL.y (.bool true) 38 (x_eql rfl rfl rfl (by decide)) (WL.z (.bool true) 39 (WL.z (.bool true) 40 (WL.z (.slice (some ⟨gt, ot, none⟩) 1 cpt) 41 (WL.y (vP gt ot) 42 (x_ix (0) (ot) Try.underlying24 sz33) (WL.y (.slice (some ⟨gr, orr, none⟩) 1 rt.c) 43 (x_load rfl rfl Try.underlying33 rfl (by have q9 := (hrt 0 (by simp)) 0 _ rfl; simp only [List.getD_cons_zero, slV, hqr, hrx, List.length_cons, List.length_nil] at q9; exact HP.old hH19 trivial q9)) ?_))))))))))
 refine WL.y (vP gr orr) 44 (x_ix (0) (orr) Try.underlying33 sz3) (WL.y (vI 0) 45 (x_load rfl rfl Try.underlying3 rfl (by have q9 := (hrr 0 (by simp [hrx])) 0 _ rfl; rw [hrx] at q9; exact HP.old hH19 trivial q9)) (WL.y (.bool true) 46 (x_eql rfl rfl rfl (by decide)) (WL.z (.bool true) 47 (WL.z (.bool true) 48 (WL.z (vI 0) 49 (WL.y (.bool true) 50 (x_eql rfl rfl rfl (by decide)) (WL.z (.bool true) 51 (WL.z (.bool true) 52 (WL.z (vS go 5 5) 53 (WL.z (vI 5) 54 (WL.y (.bool true) 55 (x_eql rfl rfl rfl (by decide)) ?_)))))))))))
 refine WL.z (.bool true) 56 (WL.z (.bool true) 57 (WL.z (vS go 5 5) 58 (WL.y (vP go 0) 59 (x_ix (0) (0) Try.underlying39 sz4) (WL.y (.bool false) 60 (x_load rfl rfl Try.underlying4 rfl (HP.cell hH19 1 rfl rfl)) (WL.z (.bool true) 61 (WL.z (.bool true) 62 (WL.z (.bool true) 63 (WL.z (vS go 5 5) 64 (WL.y (vP go 1) 65 (x_ix (1) (1) Try.underlying39 sz4) (WL.y (.bool true) 66 (x_load rfl rfl Try.underlying4 rfl (HP.cell hH19 1 rfl rfl)) (WL.z (.bool true) 67 ?_)))))))))))
 refine WL.z (.bool true) 68 (WL.z (vS go 5 5) 69 (WL.y (vP go 4) 70 (x_ix (4) (4) Try.underlying39 sz4) (WL.y (.bool false) 71 (x_load rfl rfl Try.underlying4 rfl (HP.cell hH19 1 rfl rfl)) (WL.z (.bool true) 72 (WL.z (.bool true) 73 (WL.z (.bool true) 0 (WL.k hK20 (WC.sb [(0, .bool true), (1, vP b1 0), (2, .slice (some ⟨gt, ot, none⟩) 1 cpt), (3, .bool false), (4, vI 0), (5, vS go 5 5), (6, vI 0)] (WC.ret ?_)))))))))
 refine WQ.ret1 0 rfl rfl ?_
 exact ⟨rfl, HP.below (HP.trans hInv hH19)⟩
end Ca
end Go.Proofs.Ytmjnakhpekbenaa
namespace Go.Proofs.Ytmjnakhpekbenaa
set_option maxRecDepth 20000
set_option maxHeartbeats 4000000
open Go.RowKit Fw
namespace Ca
theorem eqTg (x y x' y' : Int) (w : World) : (Op.equalIn 10000 83 (.agg #[.int .i64 x, .int .i64 y]) (.agg #[.int .i64 x', .int .i64 y'])).run Try.prog w = .ok (decide (x = x' ∧ y = y')) w := by
  have hi1 : ∀ (a a' : Int) (w : World), (Op.equalIn 9999 3 (.int .i64 a) (.int .i64 a')).run Try.prog w = .ok (decide (a = a')) w := fun a a' w => by
    rw [show (9999 : Nat) = 9998 + 1 from rfl, run_equalIn_int w 9998 3 .i64 .i64 a a' Try.underlying3]; by_cases h : a = a' <;> simp [h]
  obtain ⟨i, hi⟩ : ∃ i, Try.prog.info? 3 = some i := Option.map_eq_some_iff.1 (show (Try.prog.info? 3).map (·.size) = some 1 by kernel_rfl) |>.imp fun _ h => h.1
  have hp : Try.prog.plainKey 3 = true := by kernel_rfl
  have hc : Try.prog.cellsOf 3 = 1 := by kernel_rfl
  rw [show (10000 : Nat) = 9999 + 1 from rfl, run_equalIn_array w 9999 _ _ Try.underlying83 hi, hc]
  have p0 : ∀ (x y : Int) (w : World), (part 3 #[Value.int .i64 x, .int .i64 y] (0 * 1)).run Try.prog w = .ok (.int .i64 x) w := fun x y w => run_part_plain w hp rfl
  have p1 : ∀ (x y : Int) (w : World), (part 3 #[Value.int .i64 x, .int .i64 y] (1 * 1)).run Try.prog w = .ok (.int .i64 y) w := fun x y w => run_part_plain w hp rfl
  have e2 : List.range 2 = [0, 1] := rfl
  rw [e2]
  by_cases h1 : x = x'
  · by_cases h2 : y = y'
    · simp [Op.eqItems, Sem.run_bind, p0, p1, hi1, Result.andThen_ok, h1, h2]
    · simp [Op.eqItems, Sem.run_bind, p0, p1, hi1, Result.andThen_ok, h1, h2]
  · simp [Op.eqItems, Sem.run_bind, p0, p1, hi1, Result.andThen_ok, h1]
theorem tab_eq {t u : List T2} (hl : t.length = u.length) (h : ∀ i, i < t.length → lnT t i = lnT u i ∧ agT t i = agT u i) : t = u :=
  List.ext_getElem hl fun i h1 h2 => by
    have := h i h1
    rw [lnT_get h1, lnT_get h2, agT_get h1, agT_get h2] at this
    exact Prod.ext this.1 this.2
theorem Equal_any (p p2 : Option Addr) (t u : List T2) (cp cp2 : Nat) (w : World) (hT : InT w p t) (hU : InT w p2 u) (hn : t.length ≤ 281474976710656) :
  Calls Try.prog 88 #[.slice p t.length cp, .slice p2 u.length cp2] w fun e w' => e = .returned (.bool (decide (t = u))) ∧ Below w.heap.size w w' := by
 refine calls_of Try.func88 rfl (m := 26) rfl [(0, .slice p t.length cp), (1, .slice p2 u.length cp2)] (Fr_enter [.slice p t.length cp, .slice p2 u.length cp2] 26 (Nat.le_of_ble_eq_true rfl)) ?_
 have hH1 : HP Tr w w [] := HP.refl w
 refine WC.seq fun K2 hK2 => WC.region (WL.z (.bool false) 4 (WL.k hK2 (WC.seq fun K3 hK3 => WC.seq fun K4 hK4 => WC.region (WL.z (.slice p t.length cp) 6 (WL.z (vI (t.length : Int)) 7 (WL.z (.slice p2 u.length cp2) 8 ?_))))))
 refine WL.z (vI (u.length : Int)) 9 ?_
 by_cases hlen0 : (t.length : Int) ≠ (u.length : Int)
 ·
  have hlen : ¬ t.length = u.length := by omega
  refine WL.y (.bool true) 10 (x_neq rfl rfl rfl (dT (hlen0))) (WL.k hK4 ?_)
  refine WC.yes rfl ?_
  refine WC.seq fun K5 hK5 => WC.region (WL.z (.bool false) 4 (WL.k hK5 (WC.ret ?_)))
  refine WQ.thenRet ?_
  refine WQ.ret1 4 rfl rfl ?_
  exact ⟨by rw [decide_eq_false (fun e => hlen (by subst e; rfl))], HP.below hH1⟩
 ·
  have hlen : t.length = u.length := by omega
  refine WL.y (.bool false) 10 (x_neq rfl rfl rfl (dF (hlen0))) (WL.k hK4 ?_)
  refine WC.no rfl ?_
  refine WC.skip (WQ.then (hK3 _ _ _ (WC.seq fun K6 hK6 => WC.seq fun K7 hK7 => WC.region (WL.z (.slice p t.length cp) 11 (WL.z (vI (t.length : Int)) 12 (WL.z (vI 0) 13 (WL.k hK7 ?_)))))))
  refine WC.block ?_
  refine WC.loop (fun kk0 ll0 ww0 => ∃ (i : Nat), ll0 = [(0, .slice p t.length cp), (1, .slice p2 u.length cp2), (12, vI (t.length : Int)), (13, vI (i : Int))] ∧ kk0 = t.length - i ∧ (i ≤ t.length) ∧ (∀ j, j < i → lnT t j = lnT u j ∧ agT t j = agT u j) ∧ HP Tr w ww0 []) (t.length) [(0, .slice p t.length cp), (1, .slice p2 u.length cp2), (12, vI (t.length : Int)), (13, vI 0)] ⟨rfl, rfl, rfl, rfl, trivial⟩ ⟨0, rfl, rfl, Nat.zero_le _, fun j hj => by omega, hH1⟩ ?_
  rintro kk l w9 ⟨i, rfl, hkk, hi, hall, hH10⟩ K8 hK8
  refine WC.seq fun K11 hK11 => WC.region ?_
  by_cases hlt : (i : Int) < (t.length : Int)
  ·
   refine WL.y (.bool true) 14 (x_lss rfl rfl rfl (dT (hlt))) (WL.k hK11 (WC.seq fun K12 hK12 => ?_))
   refine WC.yes rfl ?_
   refine WC.skip (WQ.then (hK12 _ _ _ (WC.seq fun K13 hK13 => WC.block (WC.seq fun K14 hK14 => WC.region (WL.z (vI (i : Int)) 15 (WL.z (vI (i : Int)) 5 (WL.k hK14 ?_)))))))
   refine WC.seq fun K15 hK15 => ?_
   obtain ⟨g, o, rfl, hrow⟩ := hT (by omega)
   obtain ⟨g2, o2, rfl, hrow2⟩ := hU (by omega)
   refine WC.still (by kernel_rfl) (by kernel_rfl) ?_
   have hH16 := HP.drew hH10
   refine WS.z (.slice (some ⟨g, o, none⟩) t.length cp) 16 (WS.z (vI (i : Int)) 17 (WS.y (vP g (o + i * 2)) 18 (x_ix (i) (o + i * 2) Try.underlying88 sz83) (WS.y (.agg #[vI (lnT t i), vI (agT t i)]) 19 (x_loadS (cs := [vI (lnT t i), vI (agT t i)]) rfl rfl Try.underlying83 rfl sz83 (HP.oldRange hH16 trivial (hrow i (by omega)))) (WS.z (.slice (some ⟨g2, o2, none⟩) u.length cp2) 20 (WS.z (vI (i : Int)) 21 (WS.y (vP g2 (o2 + i * 2)) 22 (x_ix (i) (o2 + i * 2) Try.underlying88 sz83) (WS.y (.agg #[vI (lnT u i), vI (agT u i)]) 23 (x_loadS (cs := [vI (lnT u i), vI (agT u i)]) rfl rfl Try.underlying83 rfl sz83 (HP.oldRange hH16 trivial (hrow2 i (by omega)))) ?_)))))))
   by_cases hq : lnT t i = lnT u i ∧ agT t i = agT u i
   ·
    refine WS.y (.bool false) 24 (x_neqA rfl rfl rfl (by kernel_rfl) (eqTg _ _ _ _ _) (by rw [decide_eq_true hq]; rfl)) (WS.nilQ (WQ.then (hK15 _ _ _ (WC.sb [(0, .slice (some ⟨g, o, none⟩) t.length cp), (1, .slice (some ⟨g2, o2, none⟩) u.length cp2), (5, vI (i : Int)), (12, vI (t.length : Int)), (13, vI (i : Int)), (14, .bool true), (24, .bool false)] ?_))))
    refine WC.no rfl ?_
    refine WC.skip (WQ.inNormal (WQ.then (hK13 _ _ _ (WC.region (WL.y (vI ((i + 1 : Nat) : Int)) 25 (x_ad (((i + 1 : Nat) : Int))) (WL.z (vI ((i + 1 : Nat) : Int)) 13 (WL.nil (WQ.sb [(0, .slice (some ⟨g, o, none⟩) t.length cp), (1, .slice (some ⟨g2, o2, none⟩) u.length cp2), (12, vI (t.length : Int)), (13, vI ((i + 1 : Nat) : Int))] ?_))))))))
    refine WQ.then (hK8 _ _ _ (by omega) ⟨i + 1, rfl, rfl, by omega, fun j hj => by
          by_cases q9 : j = i
          · subst q9; exact hq
          · exact hall j (by omega), hH16⟩)
   ·
    refine WS.y (.bool true) 24 (x_neqA rfl rfl rfl (by kernel_rfl) (eqTg _ _ _ _ _) (by rw [decide_eq_false hq]; rfl)) (WS.nilQ (WQ.then (hK15 _ _ _ (WC.sb [(0, .slice (some ⟨g, o, none⟩) t.length cp), (1, .slice (some ⟨g2, o2, none⟩) u.length cp2), (5, vI (i : Int)), (12, vI (t.length : Int)), (13, vI (i : Int)), (14, .bool true), (24, .bool true)] ?_))))
    refine WC.yes rfl ?_
    refine WC.seq fun K17 hK17 => WC.region (WL.z (.bool false) 4 (WL.k hK17 (WC.ret ?_)))
    refine WQ.inRet ?_
    refine WQ.thenRet ?_
    refine WQ.thenRet ?_
    refine WQ.inRet ?_
    refine WQ.thenRet ?_
    refine WQ.ret1 4 rfl rfl ?_
    exact ⟨by rw [decide_eq_false (fun e => hq (by subst e; exact ⟨rfl, rfl⟩))], HP.below hH16⟩
  ·
   refine WL.y (.bool false) 14 (x_lss rfl rfl rfl (dF (hlt))) (WL.k hK11 (WC.seq fun K18 hK18 => ?_))
   refine WC.no rfl ?_
   refine WC.exit (WQ.thenExit (WQ.thenExit (WQ.inExit (WQ.then (hK6 _ _ _ (WC.seq fun K19 hK19 => WC.region (WL.z (.bool true) 4 (WL.k hK19 ?_))))))))
   refine WC.ret ?_
   refine WQ.ret1 4 rfl rfl ?_
   exact ⟨by rw [decide_eq_true (tab_eq (by omega) fun j hj => hall j (by omega))], HP.below hH10⟩
theorem caught_any (i : Int) (r r2 : Value) (w : World) :
    Calls Try.prog 89 #[vI i, r, r2] w fun e w' => e = .returned r ∧ w = w' := by
  refine calls_of Try.func89 rfl (m := 8) rfl [(0, vI i), (1, r), (2, r2)] (Fr_enter [vI i, r, r2] 8 (Nat.le_of_ble_eq_true rfl)) ?_
  have hH1 : HP Tr w w [] := HP.refl w
  refine WC.seq fun K2 hK2 => WC.region (WL.z (.slice none 0 0) 6 (WL.k hK2 (WC.seq fun K3 hK3 => WC.region (WL.z r 7 (WL.z r 6 (WL.nil (WQ.then ?_)))))))
  refine hK3 _ _ _ (WC.ret ?_)
  refine WQ.ret1 6 rfl rfl ?_
  exact ⟨rfl, rfl⟩
end Ca
end Go.Proofs.Ytmjnakhpekbenaa
namespace Go.Proofs.Ytmjnakhpekbenaa
set_option maxRecDepth 20000
set_option maxHeartbeats 4000000
open Go.RowKit Fw
namespace Ca
theorem BEq_at {P : Program} {f : Nat} {args : Array Value} {w : World} {q : Bool} {r : Bool} (hr : q = r) (h : Calls P f args w fun e w' => e = .returned (.bool q) ∧ Below w.heap.size w w') : Calls P f args w fun e w' => e = .returned (.bool r) ∧ Below w.heap.size w w' := hr ▸ h
theorem aR_up {n i : Nat} {A : Nat → TbI} {r : TbI} (h : i < n) : (aR n (upA A i r))[i]? = some (tbV r) := by
  rw [aR_get h]; unfold upA; rw [if_pos rfl]
theorem tb_store {s y l m : Int} {w : World} {g n i : Nat} {A : Nat → TbI} {v : Value} {r : TbI} (h : TbOk s y l m w r) (hg : Ent.holds w (.cel g (aR n A) 88)) : TbOk s y l m (w.setCell ⟨g, i, none⟩ v) r := ⟨fun h0 => by
    obtain ⟨b, o, hq, hr⟩ := h.inn h0
    have hne : b ≠ g := fun e => by
      subst e
      have hc := hr 0 h0 0 _ rfl
      have h2 : w.heap[b]? = some (.cells (aR n A) 88 (0, 0)) := hg
      rw [cell_of_row w b _ _ 88 (0, 0) h2] at hc
      obtain ⟨r9, hr9⟩ := aR_in hc
      cases hr9
    refine ⟨b, o, hq, fun i9 hi9 j u hu => ?_⟩
    have hc := hr i9 hi9 j u hu
    exact (World.cell?_of_block (a := ⟨b, o + i9 * 2 + j, none⟩) (heap_setCell_other w ⟨g, i, none⟩ b v hne)).trans hc, h.ok⟩
theorem iter_stop {O : Fl.Ops (List T2)} {f : List T2 → (Nat → List T2) → List T2 × (Nat → List T2)} {t : List T2} {ah : Nat → List T2} (h : O.J t (f t ah).1 = t) : ∀ k, Fl.iter O f k t ah = f t ah
  | 0 => rfl
  | k + 1 => by rw [Fl.iter, if_pos h]
theorem iter_go {O : Fl.Ops (List T2)} {f : List T2 → (Nat → List T2) → List T2 × (Nat → List T2)} {t : List T2} {ah : Nat → List T2} {k : Nat} (h : ¬ O.J t (f t ah).1 = t) : Fl.iter O f (k + 1) t ah = Fl.iter O f k (O.J t (f t ah).1) (f t ah).2 := by
  rw [Fl.iter, if_neg h]
theorem fold_step {O : Fl.Ops (List T2)} {ah : Nat → List T2} {a v : Nat} {x : List T2} (h : v < a) : Fl.fold O ah v (a - v) x = Fl.fold O ah (v + 1) (a - (v + 1)) (O.J x (O.F v (ah v))) := by
  obtain ⟨k, hk⟩ : ∃ k, a - v = k + 1 := ⟨a - v - 1, by omega⟩
  rw [hk, show a - (v + 1) = k by omega, Fl.fold]
theorem fold_end {O : Fl.Ops (List T2)} {ah : Nat → List T2} {a v : Nat} {x : List T2} (h : a ≤ v) : Fl.fold O ah v (a - v) x = x := by
  rw [show a - v = 0 by omega, Fl.fold]
theorem last0_any (s y l m : Int) (pb : Nat) (cq : Option Addr) (n cap b6 b4 ga : Nat) (c A B : Nat → Int) (hg0 : vG s y l m = true) (hn9 : n ≤ 400) (k j : Nat) (R9 : Fl.Tr) (hl : ∀ (w : World) (T : Nat → TbI) (r : TbI), Env s y l m pb cq n cap b6 b4 59 63 ga c A B w T → TbOk s y l m w r → (∀ i, TbOk s y l m w (T i)) → Calls Try.prog 108 #[vP pb 0, vI (k : Int), vI (j : Int), tbV r] w (TabR s y l m pb cq n cap b6 b4 63 ga T (Fl.sol (ops0 s y l) (cdOf c n) R9 r.t (tabs T)) w)) (hjn : j < n) (w : World) (T : Nat → TbI) (r : TbI) (hE : Env s y l m pb cq n cap b6 b4 59 63 ga c A B w T) (hr : TbOk s y l m w r) (hT : ∀ i, TbOk s y l m w (T i)) :
  Calls Try.prog 133 #[vP pb 0, vI (k : Int), vI (j : Int), .slice r.q r.t.length r.c] w (TabR s y l m pb cq n cap b6 b4 63 ga T (Fl.last (ops0 s y l) (Fl.sol (ops0 s y l) (cdOf c n) R9) j r.t (tabs T)) w) := by
 refine calls_of Try.func133 rfl (m := 28) rfl [(0, vP pb 0), (1, vI (k : Int)), (2, vI (j : Int)), (3, .slice r.q r.t.length r.c)] (Fr_enter [vP pb 0, vI (k : Int), vI (j : Int), .slice r.q r.t.length r.c] 28 (Nat.le_of_ble_eq_true rfl)) ?_
 have hM0 : HP (Out [pE pb cq n cap b6 b4 63 ga, aE ga n T]) w w [pE pb cq n cap b6 b4 63 ga, aE ga n T] := HP.startB hE.own
 refine WC.seq fun K1 hK1 => WC.region (WL.z (.slice none 0 0) 8 (WL.k hK1 (WC.seq fun K2 hK2 => WC.region (WL.z (vP pb 0) 9 (WL.z (vI (k : Int)) 10 (WL.z (vI (j : Int)) 11 (WL.z (.slice r.q r.t.length r.c) 12 ?_)))))))
 refine WL.c 108 #[vP pb 0, vI (k : Int), vI (j : Int), .slice r.q r.t.length r.c] 13 ?_
 refine (hl _ T _ (hE.keep (HP.startB hE.own)) (hE.tab hr (HP.startB hE.own)) (fun i9 => hE.tab (hT i9) (HP.startB hE.own))).mono ?_
 rintro e w3 ⟨r1, T1, rfl, hbw3, hr1, hT1, hXr1⟩
 refine ⟨_, rfl, ?_⟩
 have hH4 : HP (Out [pE pb cq n cap b6 b4 63 ga, aE ga n T]) w w3 [.cel pb #[.slice cq n cap, .func (.func 87) #[] #[vP b6 0, vP b4 0], .func (.func 63) #[] #[], .func (.func 88) #[] #[], .func (.func 89) #[] #[], vS ga n n] 112, .cel ga (aR n T1) 88] := HP.exchF (A := [pE pb cq n cap b6 b4 63 ga, aE ga n T]) (B := []) (HP.startB hE.own) hbw3
 have hF5 : HP (Out [pE pb cq n cap b6 b4 63 ga, aE ga n T]) w w3 [pE pb cq n cap b6 b4 63 ga, aE ga n T1] := hH4
 have hM5 := HP.exch (A := []) hM0 hF5
 have hE5 := hE.keep hF5
 have hk5_r := hE.tab hr hF5
 have hH6 := HP.startB hE5.own
 refine WL.z (.slice r1.q r1.t.length r1.c) 3 (WL.k hK2 (WC.sb [(0, vP pb 0), (1, vI (k : Int)), (2, vI (j : Int)), (3, .slice r1.q r1.t.length r1.c), (8, .slice none 0 0)] (WC.seq fun K7 hK7 => WC.region (WL.z (vP pb 0) 14 (WL.z (vP pb 0) 15 (WL.z (vP pb 5) 16 (WL.y (vS ga n n) 17 (x_load rfl rfl Try.underlying110 rfl (HP.cell hH6 0 rfl rfl)) (WL.z (vI (j : Int)) 18 ?_))))))))
 refine WL.z (.slice r1.q r1.t.length r1.c) 19 (WL.y (vP ga j) 20 (x_ix (j) (j) Try.underlying110 sz88) ?_)
 refine WL.store (c' := aR n (upA T1 j r1)) (H2 := _) 1 hH6 rfl rfl rfl rfl rfl rfl sz88 rfl (by rw [aR_size]; omega) (aR_set n j T1 r1) rfl ?_
 intro w8 hBw8
 have hH9 : HP (Out [pE pb cq n cap b6 b4 63 ga, aE ga n T1]) w3 w8 [.cel pb #[.slice cq n cap, .func (.func 87) #[] #[vP b6 0, vP b4 0], .func (.func 63) #[] #[], .func (.func 88) #[] #[], .func (.func 89) #[] #[], vS ga n n] 112, .cel ga (aR n (upA T1 j r1)) 88] := hBw8
 have hUw8 : ∀ i9, TbOk s y l m w8 ((upA T1 j r1) i9) := fun i9 => by unfold upA; split; exact (hE5.tab hr1 hH9); exact hE5.tab (hT1 i9) hH9
 have hF10 : HP (Out [pE pb cq n cap b6 b4 63 ga, aE ga n T1]) w3 w8 [pE pb cq n cap b6 b4 63 ga, aE ga n (upA T1 j r1)] := hH9
 have hM10 := HP.exch (A := []) hM5 hF10
 have hE10 := hE5.keep hF10
 have hk10_r := hE5.tab hk5_r hF10
 have hk10_r1 := hE5.tab hr1 hF10
 have hH11 := HP.startB hE10.own
 refine WL.k hK7 (WC.sb [(0, vP pb 0), (1, vI (k : Int)), (2, vI (j : Int)), (3, .slice r1.q r1.t.length r1.c), (8, .slice none 0 0)] (WC.seq fun K12 hK12 => WC.region (WL.z (vP pb 0) 21 (WL.z (vP pb 0) 22 (WL.z (vP pb 1) 23 (WL.y (.func (.func 87) #[] #[vP b6 0, vP b4 0]) 24 (x_load rfl rfl Try.underlying107 rfl (HP.cell hH11 0 rfl rfl)) (WL.z (vI (j : Int)) 25 (WL.z (.slice r1.q r1.t.length r1.c) 26 ?_))))))))
 refine WL.c 87 #[vI (j : Int), .slice r1.q r1.t.length r1.c, vP b6 0, vP b4 0] 27 ?_
 refine (do0_any s y l m j r1.q r1.t r1.c b6 b4 _ (hE10.keep hH11).how (hE10.keep hH11).geo (hE10.tab hk10_r1 hH11).inn hk10_r1.ok (by omega)).mono ?_
 rintro e w13 ⟨pv9, cp9, rfl, hbw13⟩
 refine ⟨_, rfl, ?_⟩
 have hH14 : HP (Out [pE pb cq n cap b6 b4 63 ga, aE ga n (upA T1 j r1)]) w8 w13 [.cel pb #[.slice cq n cap, .func (.func 87) #[] #[vP b6 0, vP b4 0], .func (.func 63) #[] #[], .func (.func 88) #[] #[], .func (.func 89) #[] #[], vS ga n n] 112, .cel ga (aR n (upA T1 j r1)) 88, rowT pv9 (tcH s y ((j : Int) / l) 0 r1.t).length cp9 (tcH s y ((j : Int) / l) 0 r1.t)] := HP.trans hH11 hbw13
 have hrd : TbOk s y l m w13 (⟨pv9, (tcH s y ((j : Int) / l) 0 r1.t), cp9⟩ : TbI) := ⟨InT.own (HP.get hH14 2 rfl), VT_tc hk10_r1.ok (line_of (vG_iff.1 hg0).2.2.1 (by omega))⟩
 have hF15 : HP (Out [pE pb cq n cap b6 b4 63 ga, aE ga n (upA T1 j r1)]) w8 w13 [pE pb cq n cap b6 b4 63 ga, aE ga n (upA T1 j r1)] := (HP.drop hH14 2)
 have hM15 := HP.exch (A := []) hM10 hF15
 have hE15 := hE10.keep hF15
 have hk15_r := hE10.tab hk10_r hF15
 have hk15_r1 := hE10.tab hk10_r1 hF15
 have hT15 := fun i9 => hE10.tab (hUw8 i9) hF15
 have hH16 := HP.startB hE15.own
 refine WL.z (.slice pv9 ((tcH s y ((j : Int) / l) 0 r1.t).length) cp9) 8 (WL.k hK12 (WC.sb [(0, vP pb 0), (1, vI (k : Int)), (2, vI (j : Int)), (3, .slice r1.q r1.t.length r1.c), (8, .slice pv9 ((tcH s y ((j : Int) / l) 0 r1.t).length) cp9)] (WC.ret ?_)))
 refine WQ.ret1 8 rfl rfl ?_
 refine ⟨⟨pv9, (tcH s y ((j : Int) / l) 0 r1.t), cp9⟩, upA T1 j r1, rfl, hM15, hrd, hT15, ?_⟩
 rw [tabs_up]
 unfold Fl.last
 rw [← hXr1]
 rfl
theorem brP0_any (s y l m : Int) (pb : Nat) (cq : Option Addr) (n cap b6 b4 ga : Nat) (c A B : Nat → Int) (hg0 : vG s y l m = true) (hn9 : n ≤ 400) (i E : Nat) (Rb : Fl.Tr) (hop : 29 ≤ c i ∧ c i ≤ 32) (hiE : i + 1 ≤ E) (hEn : E < n) (hlb : ∀ (w : World) (T : Nat → TbI) (r : TbI), Env s y l m pb cq n cap b6 b4 59 63 ga c A B w T → TbOk s y l m w r → (∀ i, TbOk s y l m w (T i)) → Calls Try.prog 108 #[vP pb 0, vI ((i + 1 : Nat) : Int), vI (E : Int), tbV r] w (TabR s y l m pb cq n cap b6 b4 63 ga T (Fl.sol (ops0 s y l) (cdOf c n) Rb r.t (tabs T)) w)) (w : World) (T : Nat → TbI) (r : TbI) (hE : Env s y l m pb cq n cap b6 b4 59 63 ga c A B w T) (hr : TbOk s y l m w r) (hT : ∀ i, TbOk s y l m w (T i)) :
  Calls Try.prog 119 #[vP pb 0, vI (i : Int), vI (-1), vI (E : Int), .slice r.q r.t.length r.c] w (TabR s y l m pb cq n cap b6 b4 63 ga T (brkP (ops0 s y l) (cdOf c n) i E (Fl.sol (ops0 s y l) (cdOf c n) Rb) r.t (tabs T)) w) := by
 refine calls_of Try.func119 rfl (m := 170) rfl [(0, vP pb 0), (1, vI (i : Int)), (2, vI (-1)), (3, vI (E : Int)), (4, .slice r.q r.t.length r.c)] (Fr_enter [vP pb 0, vI (i : Int), vI (-1), vI (E : Int), .slice r.q r.t.length r.c] 170 (Nat.le_of_ble_eq_true rfl)) ?_
 have hM0 : HP (Out [pE pb cq n cap b6 b4 63 ga, aE ga n T]) w w [pE pb cq n cap b6 b4 63 ga, aE ga n T] := HP.startB hE.own
 refine WC.seq fun K1 hK1 => WC.region (WL.z (.slice none 0 0) 10 (WL.k hK1 (WC.seq fun K2 hK2 => WC.seq fun K3 hK3 => ?_)))
 obtain ⟨gc, oc, hqc, hrowc⟩ := hE.code (by omega)
 have hgc9 := out_int hE.own (hrowc i (by omega) 0 _ rfl)
 refine WC.region (WL.z (vP pb 0) 18 (WL.z (vP pb 0) 19 (WL.z (vP pb 0) 20 (WL.y (.slice cq n cap) 21 (x_load rfl rfl Try.underlying42 rfl (HP.cell (HP.startB hE.own) 0 rfl rfl)) (WL.z (vI (i : Int)) 22 (WL.y (vP gc (oc + i * 3)) 23 (x_idx (b := gc) (off := oc) i (oc + i * 3) rfl (by rw [← hqc]; rfl) rfl Try.underlying42 sz75 (by omega) (by omega) (by omega)) (WL.z (vP gc (oc + i * 3)) 24 (WL.y (vI (c i)) 25 (x_load rfl rfl Try.underlying3 rfl ((HP.oldRange (HP.startB hE.own) hgc9 (hrowc i (by omega))) 0 _ rfl)) (WL.k hK3 ?_)))))))))
 refine WC.sb [(0, vP pb 0), (1, vI (i : Int)), (2, vI (-1)), (3, vI (E : Int)), (4, .slice r.q r.t.length r.c), (10, .slice none 0 0), (25, vI (c i))] (WC.block (WC.seq fun K4 hK4 => WC.region ?_))
 by_cases h29 : c i = 29
 ·
  refine WL.y (.bool true) 27 (x_eql rfl rfl rfl (dT (h29))) (WL.z (.bool true) 26 (WL.k hK4 ?_))
  refine WC.yes rfl ?_
  refine WC.seq fun K5 hK5 => WC.seq fun K6 hK6 => WC.region (WL.z (vI (-1)) 28 (WL.y (.bool false) 29 (x_geq rfl rfl rfl (by decide)) (WL.k hK6 ?_)))
  refine WC.no rfl ?_
  refine WC.skip (WQ.then (hK5 _ _ _ (WC.seq fun K7 hK7 => ?_)))
  refine WC.confG (γ := TbI × (Nat → TbI) × Option Addr × Nat × Unit) [(29, .bool false), (28, vI (-1)), (26, .bool true), (27, .bool true), (0, vP pb 0), (1, vI (i : Int)), (2, vI (-1)), (3, vI (E : Int)), (4, .slice r.q r.t.length r.c), (10, .slice none 0 0), (25, vI (c i))] (fun gy => [vP pb 0, vP pb 0, vP pb 5, vS ga n n, vI (E : Int), vP pb 0, vP pb 0, vP pb 2, .func (.func 63) #[] #[], .slice r.q r.t.length r.c, vP pb 0, vI (i : Int), vI ((i + 1 : Nat) : Int), vI (E : Int), .slice r.q r.t.length r.c, .slice gy.1.q gy.1.t.length gy.1.c, .slice gy.2.2.1 ((jM r.t gy.1.t).length) gy.2.2.2.1, vP ga E, undef]) (fun gy D wz => HP (Out [pE pb cq n cap b6 b4 63 ga, aE ga n T]) w wz ([.cel pb #[.slice cq n cap, .func (.func 87) #[] #[vP b6 0, vP b4 0], .func (.func 63) #[] #[], .func (.func 88) #[] #[], .func (.func 89) #[] #[], vS ga n n] 112, (bif D 18 then Ent.cel ga (aR n (upA gy.2.1 E (⟨gy.2.2.1, (jM r.t gy.1.t), gy.2.2.2.1⟩ : TbI))) 88 else (bif D 15 then Ent.cel ga (aR n gy.2.1) 88 else Ent.cel ga (aR n T) 88))] ++ ((bif D 16 then [rowT gy.2.2.1 (jM r.t gy.1.t).length gy.2.2.2.1 (jM r.t gy.1.t)] else []) ++ [])) ∧ (D 15 = true → (TbOk s y l m wz gy.1 ∧ (∀ i9, TbOk s y l m wz (gy.2.1 i9)) ∧ (gy.1.t, tabs gy.2.1) = Fl.sol (ops0 s y l) (cdOf c n) Rb r.t (tabs T)))) (⟨none, [], 0⟩, (fun _ => ⟨none, [], 0⟩), none, 0, ()) (by kernel_rfl) ⟨rfl, rfl, rfl, rfl, rfl, rfl, rfl, rfl, rfl, rfl, rfl, trivial⟩ (by kernel_rfl) (by kernel_rfl) (by kernel_rfl) (fun _ => rfl) (by kernel_rfl) (⟨HP.drew (HP.startB hE.own), (fun h => by cases h)⟩) ?_ ?_
  ·
   refine AllOk.cons ?o0 (AllOk.cons ?o1 (AllOk.cons ?o2 (AllOk.cons ?o3 (AllOk.cons ?o4 (AllOk.cons ?o5 (AllOk.cons ?o6 (AllOk.cons ?o7 (AllOk.cons ?o8 (AllOk.cons ?o9 (AllOk.cons ?o10 (AllOk.cons ?o11 (AllOk.cons ?o12 (AllOk.cons ?o13 (AllOk.cons ?o14 (AllOk.cons ?o15 (AllOk.cons ?o16 (AllOk.cons ?o17 (AllOk.cons ?o18 (AllOk.nil _)))))))))))))))))))
   case o0 =>
    rintro gy D wz hDi hdep hclo ⟨hW, hX0⟩
    exact cfv gy wz (by kernel_rfl) ⟨hW, hX0⟩
   case o1 =>
    rintro gy D wz hDi hdep hclo ⟨hW, hX0⟩
    exact cfv gy wz (by kernel_rfl) ⟨hW, hX0⟩
   case o2 =>
    rintro gy D wz hDi hdep hclo ⟨hW, hX0⟩
    exact cfv gy wz (by kernel_rfl) ⟨hW, hX0⟩
   case o3 =>
    rintro gy D wz hDi hdep hclo ⟨hW, hX0⟩
    exact cfv gy wz (x_load rfl rfl Try.underlying110 rfl (HP.cell hW 0 rfl rfl)) ⟨hW, hX0⟩
   case o4 =>
    rintro gy D wz hDi hdep hclo ⟨hW, hX0⟩
    exact cfv gy wz (by kernel_rfl) ⟨hW, hX0⟩
   case o5 =>
    rintro gy D wz hDi hdep hclo ⟨hW, hX0⟩
    exact cfv gy wz (by kernel_rfl) ⟨hW, hX0⟩
   case o6 =>
    rintro gy D wz hDi hdep hclo ⟨hW, hX0⟩
    exact cfv gy wz (by kernel_rfl) ⟨hW, hX0⟩
   case o7 =>
    rintro gy D wz hDi hdep hclo ⟨hW, hX0⟩
    exact cfv gy wz (by kernel_rfl) ⟨hW, hX0⟩
   case o8 =>
    rintro gy D wz hDi hdep hclo ⟨hW, hX0⟩
    exact cfv gy wz (x_load rfl rfl Try.underlying85 rfl (HP.cell hW 0 rfl rfl)) ⟨hW, hX0⟩
   case o9 =>
    rintro gy D wz hDi hdep hclo ⟨hW, hX0⟩
    exact cfv gy wz (by kernel_rfl) ⟨hW, hX0⟩
   case o10 =>
    rintro gy D wz hDi hdep hclo ⟨hW, hX0⟩
    exact cfv gy wz (by kernel_rfl) ⟨hW, hX0⟩
   case o11 =>
    rintro gy D wz hDi hdep hclo ⟨hW, hX0⟩
    exact cfv gy wz (by kernel_rfl) ⟨hW, hX0⟩
   case o12 =>
    rintro gy D wz hDi hdep hclo ⟨hW, hX0⟩
    exact cfv gy wz (x_ad (((i + 1 : Nat) : Int))) ⟨hW, hX0⟩
   case o13 =>
    rintro gy D wz hDi hdep hclo ⟨hW, hX0⟩
    exact cfv gy wz (by kernel_rfl) ⟨hW, hX0⟩
   case o14 =>
    rintro gy D wz hDi hdep hclo ⟨hW, hX0⟩
    exact cfv gy wz (by kernel_rfl) ⟨hW, hX0⟩
   case o15 =>
    rintro gy D wz hDi hdep hclo ⟨hW, hX0⟩
    have d16 : D 16 = false := by
     cases h : D 16 with
     | false => rfl
     | true => exact absurd (hclo 16 _ rfl h ⟨15, .data⟩ (by simp) rfl) (by rw [hDi]; exact Bool.false_ne_true)
    have d18 : D 18 = false := by
     cases h : D 18 with
     | false => rfl
     | true => exact absurd (hclo 18 _ rfl h ⟨15, .phase⟩ (by simp) rfl) (by rw [hDi]; exact Bool.false_ne_true)
    have hW2 := hW
    try simp only [d16, d18, hDi, cond_true, cond_false, List.append_nil, List.nil_append, List.cons_append] at hW2
    refine .inl ⟨rfl, rfl, .inr (.inr ⟨108, #[vP pb 0, vI ((i + 1 : Nat) : Int), vI (E : Int), .slice r.q r.t.length r.c], by kernel_rfl, (hlb _ T _ (hE.keep hW2) (hE.tab hr hW2) (fun i9 => hE.tab (hT i9) hW2)).mono ?_⟩)⟩
    rintro e w3 ⟨r2, T2, rfl, hb9, hr9, hT9, hX9⟩
    have hA := HP.exchF (A := [pE pb cq n cap b6 b4 63 ga, aE ga n T]) (B := []) hW2 hb9
    refine ⟨⟨r2, T2, gy.2.2.1, gy.2.2.2.1, ()⟩, fun j hj => ?_, rfl, ⟨?_, fun _ => ⟨hr9, hT9, hX9⟩⟩⟩
    ·
     match j, hj with
     | 0, hj => rfl
     | 1, hj => rfl
     | 2, hj => rfl
     | 3, hj => rfl
     | 4, hj => rfl
     | 5, hj => rfl
     | 6, hj => rfl
     | 7, hj => rfl
     | 8, hj => rfl
     | 9, hj => rfl
     | 10, hj => rfl
     | 11, hj => rfl
     | 12, hj => rfl
     | 13, hj => rfl
     | 14, hj => rfl
     | 15, hj => rw [hDi] at hj; cases hj
     | 16, hj => exact absurd hj (by rw [d16]; exact Bool.false_ne_true)
     | 17, hj => rfl
     | 18, hj => rfl
     | j + 19, _ => rfl
    ·
     show HP (Out [pE pb cq n cap b6 b4 63 ga, aE ga n T]) w w3 ([.cel pb #[.slice cq n cap, .func (.func 87) #[] #[vP b6 0, vP b4 0], .func (.func 63) #[] #[], .func (.func 88) #[] #[], .func (.func 89) #[] #[], vS ga n n] 112, (bif D 18 then Ent.cel ga (aR n (upA T2 E (⟨gy.2.2.1, (jM r.t r2.t), gy.2.2.2.1⟩ : TbI))) 88 else Ent.cel ga (aR n T2) 88)] ++ ((bif D 16 then [rowT gy.2.2.1 (jM r.t r2.t).length gy.2.2.2.1 (jM r.t r2.t)] else []) ++ []))
     try simp only [d16, d18, cond_true, cond_false, List.append_nil, List.nil_append, List.cons_append]
     exact hA
   case o16 =>
    rintro gy D wz hDi hdep hclo ⟨hW, hX0⟩
    have d15 : D 15 = true := hdep ⟨15, .data⟩ (by simp) rfl
    have d18 : D 18 = false := by
     cases h : D 18 with
     | false => rfl
     | true => exact absurd (hclo 18 _ rfl h ⟨16, .data⟩ (by simp) rfl) (by rw [hDi]; exact Bool.false_ne_true)
    have hW2 := hW
    try simp only [d15, d18, hDi, cond_true, cond_false, List.append_nil, List.nil_append, List.cons_append] at hW2
    refine .inl ⟨rfl, rfl, .inr (.inr ⟨63, #[.slice r.q r.t.length r.c, .slice gy.1.q gy.1.t.length gy.1.c], by kernel_rfl, (joinMust_any r.q gy.1.q r.t gy.1.t r.c gy.1.c _ (hE.tab hr hW2).inn (hX0 d15).1.inn (by have := (hE.tab hr hW2).ok.len; omega) (by have := (hX0 d15).1.ok.len; omega) (hX0 d15).1.ok.so).mono ?_⟩)⟩
    rintro e w3 ⟨pvj, cpj, rfl, hbj⟩
    have hA := HP.trans hW2 hbj
    refine ⟨⟨gy.1, gy.2.1, pvj, cpj, ()⟩, fun j hj => ?_, rfl, ⟨?_, fun h9 => ⟨(hX0 h9).1.below (HP.below hbj), (fun i9 => ((hX0 h9).2.1 i9).below (HP.below hbj)), (hX0 h9).2.2⟩⟩⟩
    ·
     match j, hj with
     | 0, hj => rfl
     | 1, hj => rfl
     | 2, hj => rfl
     | 3, hj => rfl
     | 4, hj => rfl
     | 5, hj => rfl
     | 6, hj => rfl
     | 7, hj => rfl
     | 8, hj => rfl
     | 9, hj => rfl
     | 10, hj => rfl
     | 11, hj => rfl
     | 12, hj => rfl
     | 13, hj => rfl
     | 14, hj => rfl
     | 15, hj => rfl
     | 16, hj => rw [hDi] at hj; cases hj
     | 17, hj => rfl
     | 18, hj => rfl
     | j + 19, _ => rfl
    ·
     show HP (Out [pE pb cq n cap b6 b4 63 ga, aE ga n T]) w w3 ([.cel pb #[.slice cq n cap, .func (.func 87) #[] #[vP b6 0, vP b4 0], .func (.func 63) #[] #[], .func (.func 88) #[] #[], .func (.func 89) #[] #[], vS ga n n] 112, (bif D 18 then Ent.cel ga (aR n (upA gy.2.1 E (⟨pvj, (jM r.t gy.1.t), cpj⟩ : TbI))) 88 else (bif D 15 then Ent.cel ga (aR n gy.2.1) 88 else Ent.cel ga (aR n T) 88))] ++ ([rowT pvj (jM r.t gy.1.t).length cpj (jM r.t gy.1.t)] ++ []))
     try simp only [d15, d18, cond_true, cond_false, List.append_nil, List.nil_append, List.cons_append]
     exact hA
   case o17 =>
    rintro gy D wz hDi hdep hclo ⟨hW, hX0⟩
    exact cfv gy wz (x_ix (E) (E) Try.underlying110 sz88) ⟨hW, hX0⟩
   case o18 =>
    rintro gy D wz hDi hdep hclo ⟨hW, hX0⟩
    have d15 : D 15 = true := hdep ⟨15, .phase⟩ (by simp) rfl
    have d16 : D 16 = true := hdep ⟨16, .data⟩ (by simp) rfl
    have hW2 := hW
    simp only [d15, d16, hDi, cond_true, cond_false, List.append_nil, List.nil_append, List.cons_append] at hW2
    have h4 := HP.set (off := E) (v := tbV (⟨gy.2.2.1, (jM r.t gy.1.t), gy.2.2.2.1⟩ : TbI)) hW2 1 rfl
    rw [aR_set] at h4
    refine .inl ⟨rfl, rfl, .inr (.inl ⟨_, x_store rfl rfl rfl sz88 rfl (HP.cell hW2 1 rfl (aR_get (by omega))) (HP.free hW2 1 rfl), rfl, ?_, fun h9 => ⟨tb_store (hX0 h9).1 (HP.get hW2 1 rfl), (fun i9 => tb_store ((hX0 h9).2.1 i9) (HP.get hW2 1 rfl)), (hX0 h9).2.2⟩⟩)⟩
    show HP (Out [pE pb cq n cap b6 b4 63 ga, aE ga n T]) w (wz.setCell ⟨ga, E, none⟩ (tbV (⟨gy.2.2.1, (jM r.t gy.1.t), gy.2.2.2.1⟩ : TbI))) ([.cel pb #[.slice cq n cap, .func (.func 87) #[] #[vP b6 0, vP b4 0], .func (.func 63) #[] #[], .func (.func 88) #[] #[], .func (.func 89) #[] #[], vS ga n n] 112, Ent.cel ga (aR n (upA gy.2.1 E (⟨gy.2.2.1, (jM r.t gy.1.t), gy.2.2.2.1⟩ : TbI))) 88] ++ ((bif D 16 then [rowT gy.2.2.1 (jM r.t gy.1.t).length gy.2.2.2.1 (jM r.t gy.1.t)] else []) ++ []))
    simp only [d15, d16, cond_true, cond_false, List.append_nil, List.nil_append, List.cons_append]
    exact h4
  rintro ⟨r2, T2, pvj, cpj, gu⟩ D w8 hall ⟨hH9, hX0⟩
  have hOr2 := hX0 (hall 15 (by kernel_rfl))
  clear hX0
  simp only [hall 15 (by kernel_rfl), hall 16 (by kernel_rfl), hall 18 (by kernel_rfl), cond_true, List.append_nil, List.nil_append, List.cons_append] at hH9
  clear hall
  refine WQ.sb [(0, vP pb 0), (1, vI (i : Int)), (2, vI (-1)), (3, vI (E : Int)), (4, .slice r.q r.t.length r.c), (10, .slice none 0 0), (25, vI (c i)), (26, .bool true), (29, .bool false)] ?_
  obtain ⟨hr2, hT2, hXr2⟩ := hOr2
  have hjok : VT s y l m (jM r.t r2.t) := VT_jM hr.ok hr2.ok
  have hjn : TbOk s y l m w8 (⟨pvj, (jM r.t r2.t), cpj⟩ : TbI) := ⟨InT.own (HP.get hH9 2 rfl), hjok⟩
  have hTU : ∀ i9, TbOk s y l m w8 ((upA T2 E (⟨pvj, (jM r.t r2.t), cpj⟩ : TbI)) i9) := fun i9 => by unfold upA; split; exact hjn; exact hT2 i9
  have hF10 : HP (Out [pE pb cq n cap b6 b4 63 ga, aE ga n T]) w w8 [pE pb cq n cap b6 b4 63 ga, aE ga n (upA T2 E (⟨pvj, (jM r.t r2.t), cpj⟩ : TbI))] := (HP.drop hH9 2)
  have hM10 := HP.exch (A := []) hM0 hF10
  have hE10 := hE.keep hF10
  have hk10_r := hE.tab hr hF10
  have hH11 := HP.startB hE10.own
  refine WQ.then (hK7 _ _ _ (WC.seq fun K12 hK12 => ?_))
  refine WC.confG (γ := Option Addr × Nat × Unit) [(0, vP pb 0), (1, vI (i : Int)), (2, vI (-1)), (3, vI (E : Int)), (4, .slice r.q r.t.length r.c), (25, vI (c i)), (26, .bool true), (29, .bool false)] (fun gy => [vP pb 0, vP pb 0, vP pb 1, .func (.func 87) #[] #[vP b6 0, vP b4 0], vI (E : Int), vP pb 0, vP pb 0, vP pb 5, vS ga n n, vI (E : Int), vP ga E, .slice pvj ((jM r.t r2.t).length) cpj, .slice gy.1 ((tcH s y ((E : Int) / l) 0 (jM r.t r2.t)).length) gy.2.1, .slice gy.1 ((tcH s y ((E : Int) / l) 0 (jM r.t r2.t)).length) gy.2.1]) (fun gy D wz => HP (Out [pE pb cq n cap b6 b4 63 ga, aE ga n (upA T2 E (⟨pvj, (jM r.t r2.t), cpj⟩ : TbI))]) w8 wz ([.cel pb #[.slice cq n cap, .func (.func 87) #[] #[vP b6 0, vP b4 0], .func (.func 63) #[] #[], .func (.func 88) #[] #[], .func (.func 89) #[] #[], vS ga n n] 112, .cel ga (aR n (upA T2 E (⟨pvj, (jM r.t r2.t), cpj⟩ : TbI))) 88] ++ ((bif D 12 then [rowT gy.1 (tcH s y ((E : Int) / l) 0 (jM r.t r2.t)).length gy.2.1 (tcH s y ((E : Int) / l) 0 (jM r.t r2.t))] else []) ++ []))) (none, 0, ()) (by kernel_rfl) ⟨rfl, rfl, rfl, rfl, rfl, rfl, rfl, rfl, trivial⟩ (by kernel_rfl) (by kernel_rfl) (by kernel_rfl) (fun _ => rfl) (by kernel_rfl) (HP.drew hH11) ?_ ?_
  ·
   refine AllOk.cons ?o0 (AllOk.cons ?o1 (AllOk.cons ?o2 (AllOk.cons ?o3 (AllOk.cons ?o4 (AllOk.cons ?o5 (AllOk.cons ?o6 (AllOk.cons ?o7 (AllOk.cons ?o8 (AllOk.cons ?o9 (AllOk.cons ?o10 (AllOk.cons ?o11 (AllOk.cons ?o12 (AllOk.cons ?o13 (AllOk.nil _))))))))))))))
   case o0 =>
    intro gy D wz hDi hdep hclo hW
    exact cfv gy wz (by kernel_rfl) hW
   case o1 =>
    intro gy D wz hDi hdep hclo hW
    exact cfv gy wz (by kernel_rfl) hW
   case o2 =>
    intro gy D wz hDi hdep hclo hW
    exact cfv gy wz (by kernel_rfl) hW
   case o3 =>
    intro gy D wz hDi hdep hclo hW
    exact cfv gy wz (x_load rfl rfl Try.underlying107 rfl (HP.cell hW 0 rfl rfl)) hW
   case o4 =>
    intro gy D wz hDi hdep hclo hW
    exact cfv gy wz (by kernel_rfl) hW
   case o5 =>
    intro gy D wz hDi hdep hclo hW
    exact cfv gy wz (by kernel_rfl) hW
   case o6 =>
    intro gy D wz hDi hdep hclo hW
    exact cfv gy wz (by kernel_rfl) hW
   case o7 =>
    intro gy D wz hDi hdep hclo hW
    exact cfv gy wz (by kernel_rfl) hW
   case o8 =>
    intro gy D wz hDi hdep hclo hW
    exact cfv gy wz (x_load rfl rfl Try.underlying110 rfl (HP.cell hW 0 rfl rfl)) hW
   case o9 =>
    intro gy D wz hDi hdep hclo hW
    exact cfv gy wz (by kernel_rfl) hW
   case o10 =>
    intro gy D wz hDi hdep hclo hW
    exact cfv gy wz (x_ix (E) (E) Try.underlying110 sz88) hW
   case o11 =>
    intro gy D wz hDi hdep hclo hW
    exact cfv gy wz (x_load rfl rfl Try.underlying88 rfl (HP.cell hW 1 rfl (aR_up (by omega)))) hW
   case o12 =>
    intro gy D wz hDi hdep hclo hW
    have d13 : D 13 = false := by
     cases h : D 13 with
     | false => rfl
     | true => exact absurd (hclo 13 _ rfl h ⟨12, .data⟩ (by simp) rfl) (by rw [hDi]; exact Bool.false_ne_true)
    have hW2 := hW
    try simp only [hDi, cond_true, cond_false, List.append_nil, List.nil_append, List.cons_append] at hW2
    refine .inl ⟨rfl, rfl, .inr (.inr ⟨87, #[vI (E : Int), .slice pvj ((jM r.t r2.t).length) cpj, vP b6 0, vP b4 0], by kernel_rfl, (do0_any s y l m E pvj (jM r.t r2.t) cpj b6 b4 _ (hE10.keep hW2).how (hE10.keep hW2).geo (hE10.tab hjn hW2).inn hjok (by omega)).mono ?_⟩)⟩
    rintro e w3 ⟨pvd, cpd, rfl, hbd⟩
    have hA := HP.trans hW2 hbd
    refine ⟨⟨pvd, cpd, ()⟩, fun j hj => ?_, rfl, ?_⟩
    ·
     match j, hj with
     | 0, hj => rfl
     | 1, hj => rfl
     | 2, hj => rfl
     | 3, hj => rfl
     | 4, hj => rfl
     | 5, hj => rfl
     | 6, hj => rfl
     | 7, hj => rfl
     | 8, hj => rfl
     | 9, hj => rfl
     | 10, hj => rfl
     | 11, hj => rfl
     | 12, hj => rw [hDi] at hj; cases hj
     | 13, hj => exact absurd hj (by rw [d13]; exact Bool.false_ne_true)
     | j + 14, _ => rfl
    ·
     show HP (Out [pE pb cq n cap b6 b4 63 ga, aE ga n (upA T2 E (⟨pvj, (jM r.t r2.t), cpj⟩ : TbI))]) w8 w3 ([.cel pb #[.slice cq n cap, .func (.func 87) #[] #[vP b6 0, vP b4 0], .func (.func 63) #[] #[], .func (.func 88) #[] #[], .func (.func 89) #[] #[], vS ga n n] 112, .cel ga (aR n (upA T2 E (⟨pvj, (jM r.t r2.t), cpj⟩ : TbI))) 88] ++ ([rowT pvd (tcH s y ((E : Int) / l) 0 (jM r.t r2.t)).length cpd (tcH s y ((E : Int) / l) 0 (jM r.t r2.t))] ++ []))
     try simp only [cond_true, cond_false, List.append_nil, List.nil_append, List.cons_append]
     exact hA
   case o13 =>
    intro gy D wz hDi hdep hclo hW
    exact cfv gy wz (by kernel_rfl) hW
  rintro ⟨pvd, cpd, gu⟩ D w13 hall hH14
  simp only [hall 12 (by kernel_rfl), cond_true, List.append_nil, List.nil_append, List.cons_append] at hH14
  clear hall
  refine WQ.sb [(0, vP pb 0), (1, vI (i : Int)), (2, vI (-1)), (3, vI (E : Int)), (4, .slice r.q r.t.length r.c), (10, .slice pvd ((tcH s y ((E : Int) / l) 0 (jM r.t r2.t)).length) cpd), (25, vI (c i)), (26, .bool true), (29, .bool false)] ?_
  have hdn : TbOk s y l m w13 (⟨pvd, (tcH s y ((E : Int) / l) 0 (jM r.t r2.t)), cpd⟩ : TbI) := ⟨InT.own (HP.get hH14 2 rfl), VT_tc hjok (line_of (vG_iff.1 hg0).2.2.1 (by omega))⟩
  have hF15 : HP (Out [pE pb cq n cap b6 b4 63 ga, aE ga n (upA T2 E (⟨pvj, (jM r.t r2.t), cpj⟩ : TbI))]) w8 w13 [pE pb cq n cap b6 b4 63 ga, aE ga n (upA T2 E (⟨pvj, (jM r.t r2.t), cpj⟩ : TbI))] := (HP.drop hH14 2)
  have hM15 := HP.exch (A := []) hM10 hF15
  have hE15 := hE10.keep hF15
  have hk15_r := hE10.tab hk10_r hF15
  have hk15_j := hE10.tab hjn hF15
  have hT15 := fun i9 => hE10.tab (hTU i9) hF15
  have hH16 := HP.startB hE15.own
  refine WQ.then (hK12 _ _ _ (WC.ret ?_))
  refine WQ.inRet ?_
  refine WQ.thenRet ?_
  refine WQ.ret1 10 rfl rfl ?_
  refine ⟨⟨pvd, (tcH s y ((E : Int) / l) 0 (jM r.t r2.t)), cpd⟩, (upA T2 E (⟨pvj, (jM r.t r2.t), cpj⟩ : TbI)), rfl, hM15, hdn, hT15, ?_⟩
  rw [tabs_up]
  unfold brkP
  rw [if_pos (show (cdOf c n).c i = 29 from h29), ← hXr2]
  rfl
 ·
  refine WL.y (.bool false) 27 (x_eql rfl rfl rfl (dF (h29))) (WL.z (.bool false) 26 (WL.k hK4 ?_))
  refine WC.no rfl ?_
  refine WC.seq fun K17 hK17 => WC.region ?_
  by_cases h30 : c i = 30
  ·
   refine WL.y (.bool true) 80 (x_eql rfl rfl rfl (dT (h30))) (WL.z (.bool true) 79 (WL.k hK17 ?_))
   refine WC.yes rfl ?_
   refine WC.seq fun K18 hK18 => WC.region (WL.z (.slice r.q r.t.length r.c) 81 (WL.z (.slice r.q r.t.length r.c) 12 (WL.k hK18 (WC.block ?_))))
   refine WC.loop (fun kk0 ll0 ww0 => ∃ (kf : Nat) (rin : TbI) (T1 : Nat → TbI), ll0 = [(0, vP pb 0), (1, vI (i : Int)), (3, vI (E : Int)), (4, .slice r.q r.t.length r.c), (12, .slice rin.q rin.t.length rin.c)] ∧ kk0 = kf ∧ ((ops0 s y l).mu rin.t ≤ kf) ∧ (Fl.iter (ops0 s y l) (Fl.last (ops0 s y l) (Fl.sol (ops0 s y l) (cdOf c n) Rb) E) kf rin.t (tabs T1) = Fl.iter (ops0 s y l) (Fl.last (ops0 s y l) (Fl.sol (ops0 s y l) (cdOf c n) Rb) E) ((ops0 s y l).mu r.t) r.t (tabs T)) ∧ (TbOk s y l m ww0 r) ∧ (TbOk s y l m ww0 rin) ∧ (∀ i, TbOk s y l m ww0 (T1 i)) ∧ (HP (Out [pE pb cq n cap b6 b4 63 ga, aE ga n T]) w ww0 [pE pb cq n cap b6 b4 63 ga, aE ga n T1]) ∧ HP Tr ww0 ww0 []) ((ops0 s y l).mu r.t) [(0, vP pb 0), (1, vI (i : Int)), (3, vI (E : Int)), (4, .slice r.q r.t.length r.c), (12, .slice r.q r.t.length r.c)] ⟨rfl, rfl, rfl, rfl, rfl, trivial⟩ ⟨(ops0 s y l).mu r.t, r, T, rfl, rfl, Nat.le_refl _, rfl, hr, hr, hT, hM0, HP.refl _⟩ ?_
   rintro kk l w20 ⟨kf, rin, T1, rfl, hkk, hkf, hit, hr1, hrin, hT1, hM, hH21⟩ K19 hK19
   have hE1 := hE.keep hM
   have hH22 := HP.startB hE1.own
   refine WC.block (WC.seq fun K23 hK23 => WC.region (WL.z (vP pb 0) 82 (WL.z (vI (i : Int)) 83 (WL.y (vI ((i + 1 : Nat) : Int)) 84 (x_ad (((i + 1 : Nat) : Int))) (WL.z (vI (E : Int)) 85 (WL.z (.slice rin.q rin.t.length rin.c) 86 ?_))))))
   refine WL.c 133 #[vP pb 0, vI ((i + 1 : Nat) : Int), vI (E : Int), .slice rin.q rin.t.length rin.c] 87 ?_
   refine (last0_any s y l m pb cq n cap b6 b4 ga c A B hg0 hn9 (i + 1) E Rb hlb (by omega) _ T1 _ (hE1.keep hH22) (hE1.tab hrin hH22) (fun i9 => hE1.tab (hT1 i9) hH22)).mono ?_
   rintro e w24 ⟨rb, T2, rfl, hbw24, hrb, hT2, hXrb⟩
   refine ⟨_, rfl, ?_⟩
   have hH25 : HP (Out [pE pb cq n cap b6 b4 63 ga, aE ga n T1]) w20 w24 [.cel pb #[.slice cq n cap, .func (.func 87) #[] #[vP b6 0, vP b4 0], .func (.func 63) #[] #[], .func (.func 88) #[] #[], .func (.func 89) #[] #[], vS ga n n] 112, .cel ga (aR n T2) 88] := HP.exchF (A := [pE pb cq n cap b6 b4 63 ga, aE ga n T1]) (B := []) hH22 hbw24
   have hF26 : HP (Out [pE pb cq n cap b6 b4 63 ga, aE ga n T1]) w20 w24 [pE pb cq n cap b6 b4 63 ga, aE ga n T2] := hH25
   have hM26 := HP.exch (A := []) hM hF26
   have hE26 := hE1.keep hF26
   have hk26_r := hE1.tab hr1 hF26
   have hk26_rin := hE1.tab hrin hF26
   have hH27 := HP.startB hE26.own
   refine WL.z (.slice rb.q rb.t.length rb.c) 13 (WL.k hK23 (WC.sb [(0, vP pb 0), (1, vI (i : Int)), (3, vI (E : Int)), (4, .slice r.q r.t.length r.c), (12, .slice rin.q rin.t.length rin.c), (13, .slice rb.q rb.t.length rb.c)] (WC.seq fun K28 hK28 => WC.region (WL.z (vP pb 0) 88 (WL.z (vP pb 0) 89 (WL.z (vP pb 2) 90 (WL.y (.func (.func 63) #[] #[]) 91 (x_load rfl rfl Try.underlying85 rfl (HP.cell hH27 0 rfl rfl)) (WL.z (.slice rin.q rin.t.length rin.c) 92 ?_))))))))
   refine WL.z (.slice rb.q rb.t.length rb.c) 93 ?_
   refine WL.c 63 #[.slice rin.q rin.t.length rin.c, .slice rb.q rb.t.length rb.c] 94 ?_
   refine (joinMust_any rin.q rb.q rin.t rb.t rin.c rb.c _ (hE26.tab hk26_rin hH27).inn (hE26.tab hrb hH27).inn (by have := (hE26.tab hk26_rin hH27).ok.len; omega) (by have := (hE26.tab hrb hH27).ok.len; omega) (hE26.tab hrb hH27).ok.so).mono ?_
   rintro e w29 ⟨pvnx, cpnx, rfl, hbw29⟩
   refine ⟨_, rfl, ?_⟩
   have hH30 : HP (Out [pE pb cq n cap b6 b4 63 ga, aE ga n T2]) w24 w29 [.cel pb #[.slice cq n cap, .func (.func 87) #[] #[vP b6 0, vP b4 0], .func (.func 63) #[] #[], .func (.func 88) #[] #[], .func (.func 89) #[] #[], vS ga n n] 112, .cel ga (aR n T2) 88, rowT pvnx (jM rin.t rb.t).length cpnx (jM rin.t rb.t)] := HP.trans hH27 hbw29
   have hnx : TbOk s y l m w29 (⟨pvnx, (jM rin.t rb.t), cpnx⟩ : TbI) := ⟨InT.own (HP.get hH30 2 rfl), VT_jM hk26_rin.ok hrb.ok⟩
   have hF31 : HP (Out [pE pb cq n cap b6 b4 63 ga, aE ga n T2]) w24 w29 [pE pb cq n cap b6 b4 63 ga, aE ga n T2] := (HP.drop hH30 2)
   have hM31 := HP.exch (A := []) hM26 hF31
   have hE31 := hE26.keep hF31
   have hk31_r := hE26.tab hk26_r hF31
   have hk31_rin := hE26.tab hk26_rin hF31
   have hk31_rb := hE26.tab hrb hF31
   have hT31 := fun i9 => hE26.tab (hT2 i9) hF31
   have hH32 := HP.startB hE31.own
   refine WL.z (.slice pvnx ((jM rin.t rb.t).length) cpnx) 14 (WL.k hK28 (WC.sb [(0, vP pb 0), (1, vI (i : Int)), (3, vI (E : Int)), (4, .slice r.q r.t.length r.c), (12, .slice rin.q rin.t.length rin.c), (13, .slice rb.q rb.t.length rb.c), (14, .slice pvnx ((jM rin.t rb.t).length) cpnx)] (WC.seq fun K33 hK33 => WC.seq fun K34 hK34 => WC.region (WL.z (vP pb 0) 95 (WL.z (vP pb 0) 96 (WL.z (vP pb 3) 97 (WL.y (.func (.func 88) #[] #[]) 98 (x_load rfl rfl Try.underlying108 rfl (HP.cell hH32 0 rfl rfl)) ?_)))))))
   refine WL.z (.slice pvnx ((jM rin.t rb.t).length) cpnx) 99 (WL.z (.slice rin.q rin.t.length rin.c) 100 ?_)
   by_cases hq : (jM rin.t rb.t) = rin.t
   ·
    refine WL.c 88 #[.slice pvnx ((jM rin.t rb.t).length) cpnx, .slice rin.q rin.t.length rin.c] 101 ?_
    refine (BEq_at (by exact decide_eq_true hq) (Equal_any pvnx rin.q (jM rin.t rb.t) rin.t cpnx rin.c _ (hE31.tab hnx hH32).inn (hE31.tab hk31_rin hH32).inn (by have q9 : (jM rin.t rb.t).length ≤ 1000 := hnx.ok.len; omega))).mono ?_
    rintro e wq ⟨rfl, hbq⟩
    refine ⟨_, rfl, ?_⟩
    have hH35 := HP.call hH32 hbq
    have hF36 : HP (Out [pE pb cq n cap b6 b4 63 ga, aE ga n T2]) w29 wq [pE pb cq n cap b6 b4 63 ga, aE ga n T2] := hH35
    have hM36 := HP.exch (A := []) hM31 hF36
    have hE36 := hE31.keep hF36
    have hk36_r := hE31.tab hk31_r hF36
    have hk36_rin := hE31.tab hk31_rin hF36
    have hk36_rb := hE31.tab hk31_rb hF36
    have hk36_nx := hE31.tab hnx hF36
    have hT36 := fun i9 => hE31.tab (hT31 i9) hF36
    have hH37 := HP.startB hE36.own
    refine WL.k hK34 (WC.sb [(0, vP pb 0), (1, vI (i : Int)), (3, vI (E : Int)), (4, .slice r.q r.t.length r.c), (12, .slice rin.q rin.t.length rin.c), (13, .slice rb.q rb.t.length rb.c), (14, .slice pvnx ((jM rin.t rb.t).length) cpnx), (101, .bool true)] ?_)
    refine WC.yes rfl ?_
    refine WC.seq fun K38 hK38 => WC.region (WL.z (vP pb 0) 102 (WL.z (vP pb 0) 103 (WL.z (vP pb 2) 104 (WL.y (.func (.func 63) #[] #[]) 105 (x_load rfl rfl Try.underlying85 rfl (HP.cell hH37 0 rfl rfl)) (WL.z (.slice r.q r.t.length r.c) 106 (WL.z (.slice rb.q rb.t.length rb.c) 107 ?_))))))
    refine WL.c 63 #[.slice r.q r.t.length r.c, .slice rb.q rb.t.length rb.c] 108 ?_
    refine (joinMust_any r.q rb.q r.t rb.t r.c rb.c _ (hE36.tab hk36_r hH37).inn (hE36.tab hk36_rb hH37).inn (by have := (hE36.tab hk36_r hH37).ok.len; omega) (by have := (hE36.tab hk36_rb hH37).ok.len; omega) (hE36.tab hk36_rb hH37).ok.so).mono ?_
    rintro e w39 ⟨pvfj, cpfj, rfl, hbw39⟩
    refine ⟨_, rfl, ?_⟩
    have hH40 : HP (Out [pE pb cq n cap b6 b4 63 ga, aE ga n T2]) wq w39 [.cel pb #[.slice cq n cap, .func (.func 87) #[] #[vP b6 0, vP b4 0], .func (.func 63) #[] #[], .func (.func 88) #[] #[], .func (.func 89) #[] #[], vS ga n n] 112, .cel ga (aR n T2) 88, rowT pvfj (jM r.t rb.t).length cpfj (jM r.t rb.t)] := HP.trans hH37 hbw39
    have hfj : TbOk s y l m w39 (⟨pvfj, (jM r.t rb.t), cpfj⟩ : TbI) := ⟨InT.own (HP.get hH40 2 rfl), VT_jM hk36_r.ok hk36_rb.ok⟩
    have hF41 : HP (Out [pE pb cq n cap b6 b4 63 ga, aE ga n T2]) wq w39 [pE pb cq n cap b6 b4 63 ga, aE ga n T2] := (HP.drop hH40 2)
    have hM41 := HP.exch (A := []) hM36 hF41
    have hE41 := hE36.keep hF41
    have hk41_r := hE36.tab hk36_r hF41
    have hk41_rin := hE36.tab hk36_rin hF41
    have hk41_rb := hE36.tab hk36_rb hF41
    have hk41_nx := hE36.tab hk36_nx hF41
    have hT41 := fun i9 => hE36.tab (hT36 i9) hF41
    have hH42 := HP.startB hE41.own
    refine WL.z (.slice pvfj ((jM r.t rb.t).length) cpfj) 10 (WL.k hK38 (WC.sb [(0, vP pb 0), (1, vI (i : Int)), (3, vI (E : Int)), (4, .slice r.q r.t.length r.c), (10, .slice pvfj ((jM r.t rb.t).length) cpfj), (12, .slice rin.q rin.t.length rin.c), (13, .slice rb.q rb.t.length rb.c), (14, .slice pvnx ((jM rin.t rb.t).length) cpnx), (101, .bool true)] (WC.ret ?_)))
    refine WQ.thenRet ?_
    refine WQ.inRet ?_
    refine WQ.thenRet ?_
    refine WQ.inRet ?_
    refine WQ.inRet ?_
    refine WQ.thenRet ?_
    refine WQ.ret1 10 rfl rfl ?_
    have hXb : (Fl.last (ops0 s y l) (Fl.sol (ops0 s y l) (cdOf c n) Rb) E) rin.t (tabs T1) = (rb.t, tabs T2) := hXrb.symm
    have hst := iter_stop (O := (ops0 s y l)) (f := (Fl.last (ops0 s y l) (Fl.sol (ops0 s y l) (cdOf c n) Rb) E)) (t := rin.t) (ah := tabs T1) (by rw [hXb]; exact hq) kf
    rw [hst, hXb] at hit
    refine ⟨⟨pvfj, (jM r.t rb.t), cpfj⟩, T2, rfl, hM41, hfj, hT41, ?_⟩
    unfold brkP
    rw [if_neg (show ¬ (cdOf c n).c i = 29 from h29), if_pos (show (cdOf c n).c i = 30 from h30), ← hit]
    rfl
   ·
    refine WL.c 88 #[.slice pvnx ((jM rin.t rb.t).length) cpnx, .slice rin.q rin.t.length rin.c] 101 ?_
    refine (BEq_at (by exact decide_eq_false hq) (Equal_any pvnx rin.q (jM rin.t rb.t) rin.t cpnx rin.c _ (hE31.tab hnx hH32).inn (hE31.tab hk31_rin hH32).inn (by have q9 : (jM rin.t rb.t).length ≤ 1000 := hnx.ok.len; omega))).mono ?_
    rintro e wq ⟨rfl, hbq⟩
    refine ⟨_, rfl, ?_⟩
    have hH43 := HP.call hH32 hbq
    have hF44 : HP (Out [pE pb cq n cap b6 b4 63 ga, aE ga n T2]) w29 wq [pE pb cq n cap b6 b4 63 ga, aE ga n T2] := hH43
    have hM44 := HP.exch (A := []) hM31 hF44
    have hE44 := hE31.keep hF44
    have hk44_r := hE31.tab hk31_r hF44
    have hk44_rin := hE31.tab hk31_rin hF44
    have hk44_rb := hE31.tab hk31_rb hF44
    have hk44_nx := hE31.tab hnx hF44
    have hT44 := fun i9 => hE31.tab (hT31 i9) hF44
    have hH45 := HP.startB hE44.own
    refine WL.k hK34 (WC.sb [(0, vP pb 0), (1, vI (i : Int)), (3, vI (E : Int)), (4, .slice r.q r.t.length r.c), (12, .slice rin.q rin.t.length rin.c), (13, .slice rb.q rb.t.length rb.c), (14, .slice pvnx ((jM rin.t rb.t).length) cpnx), (101, .bool false)] ?_)
    refine WC.no rfl ?_
    refine WC.skip (WQ.then (hK33 _ _ _ (WC.region (WL.z (.slice pvnx ((jM rin.t rb.t).length) cpnx) 109 (WL.z (.slice pvnx ((jM rin.t rb.t).length) cpnx) 12 (WL.nil (WQ.inNormal ?_)))))))
    have hXb : (Fl.last (ops0 s y l) (Fl.sol (ops0 s y l) (cdOf c n) Rb) E) rin.t (tabs T1) = (rb.t, tabs T2) := hXrb.symm
    have hJ9 : (ops0 s y l).J rin.t ((Fl.last (ops0 s y l) (Fl.sol (ops0 s y l) (cdOf c n) Rb) E) rin.t (tabs T1)).1 = (jM rin.t rb.t) := by rw [hXb]; rfl
    have hlt9 : (ops0 s y l).mu (jM rin.t rb.t) < (ops0 s y l).mu rin.t := mu_ltM _ _ hk44_rin.ok hk44_nx.ok (jM_left hk44_rin.ok.so) (fun e => hq e.symm)
    obtain ⟨kf2, rfl⟩ : ∃ k9, kf = k9 + 1 := ⟨kf - 1, by omega⟩
    have hgo := iter_go (O := (ops0 s y l)) (f := (Fl.last (ops0 s y l) (Fl.sol (ops0 s y l) (cdOf c n) Rb) E)) (t := rin.t) (ah := tabs T1) (k := kf2) (by rw [hJ9]; exact hq)
    rw [hJ9, hXb] at hgo
    refine WQ.sb [(0, vP pb 0), (1, vI (i : Int)), (3, vI (E : Int)), (4, .slice r.q r.t.length r.c), (12, .slice pvnx ((jM rin.t rb.t).length) cpnx)] ?_
    refine WQ.then (hK19 _ _ _ (by omega) ⟨kf2, (⟨pvnx, (jM rin.t rb.t), cpnx⟩ : TbI), T2, rfl, rfl, (show (ops0 s y l).mu (jM rin.t rb.t) ≤ kf2 by omega), hgo.symm.trans hit, hk44_r, hk44_nx, hT44, hM44, HP.refl _⟩)
  ·
   refine WL.y (.bool false) 80 (x_eql rfl rfl rfl (dF (h30))) (WL.z (.bool false) 79 (WL.k hK17 ?_))
   refine WC.no rfl ?_
   refine WC.seq fun K46 hK46 => WC.region (WL.y (.bool false) 111 (x_eql rfl rfl rfl (dF (by omega))) (WL.z (.bool false) 110 (WL.k hK46 ?_)))
   refine WC.no rfl ?_
   refine WC.skip (WQ.inNormal (WQ.then (hK2 _ _ _ (WC.seq fun K47 hK47 => WC.region (WL.z (vP pb 0) 164 (WL.z (vI (i : Int)) 165 (WL.y (vI ((i + 1 : Nat) : Int)) 166 (x_ad (((i + 1 : Nat) : Int))) (WL.z (vI (E : Int)) 167 (WL.z (.slice r.q r.t.length r.c) 168 ?_)))))))))
   refine WL.c 133 #[vP pb 0, vI ((i + 1 : Nat) : Int), vI (E : Int), .slice r.q r.t.length r.c] 169 ?_
   refine (last0_any s y l m pb cq n cap b6 b4 ga c A B hg0 hn9 (i + 1) E Rb hlb (by omega) _ T _ (hE.keep (HP.startB hE.own)) (hE.tab hr (HP.startB hE.own)) (fun i9 => hE.tab (hT i9) (HP.startB hE.own))).mono ?_
   rintro e w48 ⟨r1, T1, rfl, hbw48, hr1, hT1, hXr1⟩
   refine ⟨_, rfl, ?_⟩
   have hH49 : HP (Out [pE pb cq n cap b6 b4 63 ga, aE ga n T]) w w48 [.cel pb #[.slice cq n cap, .func (.func 87) #[] #[vP b6 0, vP b4 0], .func (.func 63) #[] #[], .func (.func 88) #[] #[], .func (.func 89) #[] #[], vS ga n n] 112, .cel ga (aR n T1) 88] := HP.exchF (A := [pE pb cq n cap b6 b4 63 ga, aE ga n T]) (B := []) (HP.startB hE.own) hbw48
   have hF50 : HP (Out [pE pb cq n cap b6 b4 63 ga, aE ga n T]) w w48 [pE pb cq n cap b6 b4 63 ga, aE ga n T1] := hH49
   have hM50 := HP.exch (A := []) hM0 hF50
   have hE50 := hE.keep hF50
   have hk50_r := hE.tab hr hF50
   have hH51 := HP.startB hE50.own
   refine WL.z (.slice r1.q r1.t.length r1.c) 10 (WL.k hK47 (WC.sb [(0, vP pb 0), (1, vI (i : Int)), (2, vI (-1)), (3, vI (E : Int)), (4, .slice r.q r.t.length r.c), (10, .slice r1.q r1.t.length r1.c), (25, vI (c i)), (26, .bool false), (79, .bool false), (110, .bool false)] (WC.ret ?_)))
   refine WQ.ret1 10 rfl rfl ?_
   refine ⟨r1, T1, rfl, hM50, hr1, hT1, ?_⟩
   unfold brkP
   rw [if_neg (show ¬ (cdOf c n).c i = 29 from h29), if_neg (show ¬ (cdOf c n).c i = 30 from h30)]
   exact hXr1
theorem brA0_any (s y l m : Int) (pb : Nat) (cq : Option Addr) (n cap b6 b4 ga : Nat) (c A B : Nat → Int) (hg0 : vG s y l m = true) (hn9 : n ≤ 400) (i a E : Nat) (Ra Rb : Fl.Tr) (hop : c i = 29 ∨ c i = 33) (hia : i + 1 ≤ a) (haE : a + 1 ≤ E) (hEn : E < n) (hla : ∀ (w : World) (T : Nat → TbI) (r : TbI), Env s y l m pb cq n cap b6 b4 59 63 ga c A B w T → TbOk s y l m w r → (∀ i, TbOk s y l m w (T i)) → Calls Try.prog 108 #[vP pb 0, vI ((i + 1 : Nat) : Int), vI (a : Int), tbV r] w (TabR s y l m pb cq n cap b6 b4 63 ga T (Fl.sol (ops0 s y l) (cdOf c n) Ra r.t (tabs T)) w)) (hlb : ∀ (w : World) (T : Nat → TbI) (r : TbI), Env s y l m pb cq n cap b6 b4 59 63 ga c A B w T → TbOk s y l m w r → (∀ i, TbOk s y l m w (T i)) → Calls Try.prog 108 #[vP pb 0, vI ((a + 1 : Nat) : Int), vI (E : Int), tbV r] w (TabR s y l m pb cq n cap b6 b4 63 ga T (Fl.sol (ops0 s y l) (cdOf c n) Rb r.t (tabs T)) w)) (w : World) (T : Nat → TbI) (r : TbI) (hE : Env s y l m pb cq n cap b6 b4 59 63 ga c A B w T) (hr : TbOk s y l m w r) (hT : ∀ i, TbOk s y l m w (T i)) :
  Calls Try.prog 119 #[vP pb 0, vI (i : Int), vI (a : Int), vI (E : Int), .slice r.q r.t.length r.c] w (TabR s y l m pb cq n cap b6 b4 63 ga T (brkA (ops0 s y l) (cdOf c n) i a E (Fl.sol (ops0 s y l) (cdOf c n) Ra) (Fl.sol (ops0 s y l) (cdOf c n) Rb) r.t (tabs T)) w) := by
 refine calls_of Try.func119 rfl (m := 170) rfl [(0, vP pb 0), (1, vI (i : Int)), (2, vI (a : Int)), (3, vI (E : Int)), (4, .slice r.q r.t.length r.c)] (Fr_enter [vP pb 0, vI (i : Int), vI (a : Int), vI (E : Int), .slice r.q r.t.length r.c] 170 (Nat.le_of_ble_eq_true rfl)) ?_
 have hM0 : HP (Out [pE pb cq n cap b6 b4 63 ga, aE ga n T]) w w [pE pb cq n cap b6 b4 63 ga, aE ga n T] := HP.startB hE.own
 refine WC.seq fun K1 hK1 => WC.region (WL.z (.slice none 0 0) 10 (WL.k hK1 (WC.seq fun K2 hK2 => WC.seq fun K3 hK3 => ?_)))
 obtain ⟨gc, oc, hqc, hrowc⟩ := hE.code (by omega)
 have hgc9 := out_int hE.own (hrowc i (by omega) 0 _ rfl)
 refine WC.region (WL.z (vP pb 0) 18 (WL.z (vP pb 0) 19 (WL.z (vP pb 0) 20 (WL.y (.slice cq n cap) 21 (x_load rfl rfl Try.underlying42 rfl (HP.cell (HP.startB hE.own) 0 rfl rfl)) (WL.z (vI (i : Int)) 22 (WL.y (vP gc (oc + i * 3)) 23 (x_idx (b := gc) (off := oc) i (oc + i * 3) rfl (by rw [← hqc]; rfl) rfl Try.underlying42 sz75 (by omega) (by omega) (by omega)) (WL.z (vP gc (oc + i * 3)) 24 (WL.y (vI (c i)) 25 (x_load rfl rfl Try.underlying3 rfl ((HP.oldRange (HP.startB hE.own) hgc9 (hrowc i (by omega))) 0 _ rfl)) (WL.k hK3 ?_)))))))))
 refine WC.sb [(0, vP pb 0), (1, vI (i : Int)), (2, vI (a : Int)), (3, vI (E : Int)), (4, .slice r.q r.t.length r.c), (10, .slice none 0 0), (25, vI (c i))] (WC.block (WC.seq fun K4 hK4 => WC.region ?_))
 by_cases h29 : c i = 29
 ·
  refine WL.y (.bool true) 27 (x_eql rfl rfl rfl (dT (h29))) (WL.z (.bool true) 26 (WL.k hK4 ?_))
  refine WC.yes rfl ?_
  refine WC.seq fun K5 hK5 => WC.seq fun K6 hK6 => WC.region (WL.z (vI (a : Int)) 28 (WL.y (.bool true) 29 (x_geq rfl rfl rfl (dT (by omega))) (WL.k hK6 ?_)))
  refine WC.yes rfl ?_
  refine WC.seq fun K7 hK7 => WC.region (WL.z (vP pb 0) 30 (WL.z (vI (i : Int)) 31 (WL.y (vI ((i + 1 : Nat) : Int)) 32 (x_ad (((i + 1 : Nat) : Int))) (WL.z (vI (a : Int)) 33 (WL.z (.slice r.q r.t.length r.c) 34 ?_)))))
  refine WL.c 133 #[vP pb 0, vI ((i + 1 : Nat) : Int), vI (a : Int), .slice r.q r.t.length r.c] 35 ?_
  refine (last0_any s y l m pb cq n cap b6 b4 ga c A B hg0 hn9 (i + 1) a Ra hla (by omega) _ T _ (hE.keep (HP.startB hE.own)) (hE.tab hr (HP.startB hE.own)) (fun i9 => hE.tab (hT i9) (HP.startB hE.own))).mono ?_
  rintro e w8 ⟨r1, T1, rfl, hbw8, hr1, hT1, hXr1⟩
  refine ⟨_, rfl, ?_⟩
  have hH9 : HP (Out [pE pb cq n cap b6 b4 63 ga, aE ga n T]) w w8 [.cel pb #[.slice cq n cap, .func (.func 87) #[] #[vP b6 0, vP b4 0], .func (.func 63) #[] #[], .func (.func 88) #[] #[], .func (.func 89) #[] #[], vS ga n n] 112, .cel ga (aR n T1) 88] := HP.exchF (A := [pE pb cq n cap b6 b4 63 ga, aE ga n T]) (B := []) (HP.startB hE.own) hbw8
  have hF10 : HP (Out [pE pb cq n cap b6 b4 63 ga, aE ga n T]) w w8 [pE pb cq n cap b6 b4 63 ga, aE ga n T1] := hH9
  have hM10 := HP.exch (A := []) hM0 hF10
  have hE10 := hE.keep hF10
  have hk10_r := hE.tab hr hF10
  have hH11 := HP.startB hE10.own
  refine WL.z (.slice r1.q r1.t.length r1.c) 11 (WL.k hK7 (WC.sb [(0, vP pb 0), (1, vI (i : Int)), (2, vI (a : Int)), (3, vI (E : Int)), (4, .slice r.q r.t.length r.c), (10, .slice none 0 0), (11, .slice r1.q r1.t.length r1.c), (25, vI (c i)), (26, .bool true), (29, .bool true)] (WC.seq fun K12 hK12 => ?_)))
  refine WC.confG (γ := TbI × (Nat → TbI) × Option Addr × Nat × Unit) [(0, vP pb 0), (1, vI (i : Int)), (2, vI (a : Int)), (3, vI (E : Int)), (4, .slice r.q r.t.length r.c), (11, .slice r1.q r1.t.length r1.c), (25, vI (c i)), (26, .bool true), (29, .bool true)] (fun gy => [vP pb 0, vP pb 0, vP pb 2, .func (.func 63) #[] #[], .slice r1.q r1.t.length r1.c, vP pb 0, vI (a : Int), vI ((a + 1 : Nat) : Int), vI (E : Int), .slice r.q r.t.length r.c, .slice gy.1.q gy.1.t.length gy.1.c, .slice gy.2.2.1 ((jM r1.t gy.1.t).length) gy.2.2.2.1, .slice gy.2.2.1 ((jM r1.t gy.1.t).length) gy.2.2.2.1]) (fun gy D wz => HP (Out [pE pb cq n cap b6 b4 63 ga, aE ga n T1]) w8 wz ([.cel pb #[.slice cq n cap, .func (.func 87) #[] #[vP b6 0, vP b4 0], .func (.func 63) #[] #[], .func (.func 88) #[] #[], .func (.func 89) #[] #[], vS ga n n] 112, (bif D 10 then Ent.cel ga (aR n gy.2.1) 88 else Ent.cel ga (aR n T1) 88)] ++ ((bif D 11 then [rowT gy.2.2.1 (jM r1.t gy.1.t).length gy.2.2.2.1 (jM r1.t gy.1.t)] else []) ++ [])) ∧ (D 10 = true → (TbOk s y l m wz gy.1 ∧ (∀ i9, TbOk s y l m wz (gy.2.1 i9)) ∧ (gy.1.t, tabs gy.2.1) = Fl.last (ops0 s y l) (Fl.sol (ops0 s y l) (cdOf c n) Rb) E r.t (tabs T1)))) (⟨none, [], 0⟩, (fun _ => ⟨none, [], 0⟩), none, 0, ()) (by kernel_rfl) ⟨rfl, rfl, rfl, rfl, rfl, rfl, rfl, rfl, rfl, trivial⟩ (by kernel_rfl) (by kernel_rfl) (by kernel_rfl) (fun _ => rfl) (by kernel_rfl) (⟨HP.drew hH11, (fun h => by cases h)⟩) ?_ ?_
  ·
   refine AllOk.cons ?o0 (AllOk.cons ?o1 (AllOk.cons ?o2 (AllOk.cons ?o3 (AllOk.cons ?o4 (AllOk.cons ?o5 (AllOk.cons ?o6 (AllOk.cons ?o7 (AllOk.cons ?o8 (AllOk.cons ?o9 (AllOk.cons ?o10 (AllOk.cons ?o11 (AllOk.cons ?o12 (AllOk.nil _)))))))))))))
   case o0 =>
    rintro gy D wz hDi hdep hclo ⟨hW, hX0⟩
    exact cfv gy wz (by kernel_rfl) ⟨hW, hX0⟩
   case o1 =>
    rintro gy D wz hDi hdep hclo ⟨hW, hX0⟩
    exact cfv gy wz (by kernel_rfl) ⟨hW, hX0⟩
   case o2 =>
    rintro gy D wz hDi hdep hclo ⟨hW, hX0⟩
    exact cfv gy wz (by kernel_rfl) ⟨hW, hX0⟩
   case o3 =>
    rintro gy D wz hDi hdep hclo ⟨hW, hX0⟩
    exact cfv gy wz (x_load rfl rfl Try.underlying85 rfl (HP.cell hW 0 rfl rfl)) ⟨hW, hX0⟩
   case o4 =>
    rintro gy D wz hDi hdep hclo ⟨hW, hX0⟩
    exact cfv gy wz (by kernel_rfl) ⟨hW, hX0⟩
   case o5 =>
    rintro gy D wz hDi hdep hclo ⟨hW, hX0⟩
    exact cfv gy wz (by kernel_rfl) ⟨hW, hX0⟩
   case o6 =>
    rintro gy D wz hDi hdep hclo ⟨hW, hX0⟩
    exact cfv gy wz (by kernel_rfl) ⟨hW, hX0⟩
   case o7 =>
    rintro gy D wz hDi hdep hclo ⟨hW, hX0⟩
    exact cfv gy wz (x_ad (((a + 1 : Nat) : Int))) ⟨hW, hX0⟩
   case o8 =>
    rintro gy D wz hDi hdep hclo ⟨hW, hX0⟩
    exact cfv gy wz (by kernel_rfl) ⟨hW, hX0⟩
   case o9 =>
    rintro gy D wz hDi hdep hclo ⟨hW, hX0⟩
    exact cfv gy wz (by kernel_rfl) ⟨hW, hX0⟩
   case o10 =>
    rintro gy D wz hDi hdep hclo ⟨hW, hX0⟩
    have d11 : D 11 = false := by
     cases h : D 11 with
     | false => rfl
     | true => exact absurd (hclo 11 _ rfl h ⟨10, .data⟩ (by simp) rfl) (by rw [hDi]; exact Bool.false_ne_true)
    have d12 : D 12 = false := by
     cases h : D 12 with
     | false => rfl
     | true => exact absurd (hclo 12 _ rfl h ⟨10, .phase⟩ (by simp) rfl) (by rw [hDi]; exact Bool.false_ne_true)
    have hW2 := hW
    try simp only [d11, hDi, cond_true, cond_false, List.append_nil, List.nil_append, List.cons_append] at hW2
    refine .inl ⟨rfl, rfl, .inr (.inr ⟨133, #[vP pb 0, vI ((a + 1 : Nat) : Int), vI (E : Int), .slice r.q r.t.length r.c], by kernel_rfl, (last0_any s y l m pb cq n cap b6 b4 ga c A B hg0 hn9 (a + 1) E Rb hlb (by omega) _ T1 _ (hE10.keep hW2) (hE10.tab hk10_r hW2) (fun i9 => hE10.tab (hT1 i9) hW2)).mono ?_⟩)⟩
    rintro e w3 ⟨r2, T2, rfl, hb9, hr9, hT9, hX9⟩
    have hA := HP.exchF (A := [pE pb cq n cap b6 b4 63 ga, aE ga n T1]) (B := []) hW2 hb9
    refine ⟨⟨r2, T2, gy.2.2.1, gy.2.2.2.1, ()⟩, fun j hj => ?_, rfl, ⟨?_, fun _ => ⟨hr9, hT9, hX9⟩⟩⟩
    ·
     match j, hj with
     | 0, hj => rfl
     | 1, hj => rfl
     | 2, hj => rfl
     | 3, hj => rfl
     | 4, hj => rfl
     | 5, hj => rfl
     | 6, hj => rfl
     | 7, hj => rfl
     | 8, hj => rfl
     | 9, hj => rfl
     | 10, hj => rw [hDi] at hj; cases hj
     | 11, hj => exact absurd hj (by rw [d11]; exact Bool.false_ne_true)
     | 12, hj => exact absurd hj (by rw [d12]; exact Bool.false_ne_true)
     | j + 13, _ => rfl
    ·
     show HP (Out [pE pb cq n cap b6 b4 63 ga, aE ga n T1]) w8 w3 ([.cel pb #[.slice cq n cap, .func (.func 87) #[] #[vP b6 0, vP b4 0], .func (.func 63) #[] #[], .func (.func 88) #[] #[], .func (.func 89) #[] #[], vS ga n n] 112, Ent.cel ga (aR n T2) 88] ++ ((bif D 11 then [rowT gy.2.2.1 (jM r1.t r2.t).length gy.2.2.2.1 (jM r1.t r2.t)] else []) ++ []))
     try simp only [d11, cond_true, cond_false, List.append_nil, List.nil_append, List.cons_append]
     exact hA
   case o11 =>
    rintro gy D wz hDi hdep hclo ⟨hW, hX0⟩
    have d10 : D 10 = true := hdep ⟨10, .data⟩ (by simp) rfl
    have d12 : D 12 = false := by
     cases h : D 12 with
     | false => rfl
     | true => exact absurd (hclo 12 _ rfl h ⟨11, .data⟩ (by simp) rfl) (by rw [hDi]; exact Bool.false_ne_true)
    have hW2 := hW
    try simp only [d10, hDi, cond_true, cond_false, List.append_nil, List.nil_append, List.cons_append] at hW2
    refine .inl ⟨rfl, rfl, .inr (.inr ⟨63, #[.slice r1.q r1.t.length r1.c, .slice gy.1.q gy.1.t.length gy.1.c], by kernel_rfl, (joinMust_any r1.q gy.1.q r1.t gy.1.t r1.c gy.1.c _ (hE10.tab hr1 hW2).inn (hX0 d10).1.inn (by have := (hE10.tab hr1 hW2).ok.len; omega) (by have := (hX0 d10).1.ok.len; omega) (hX0 d10).1.ok.so).mono ?_⟩)⟩
    rintro e w3 ⟨pvj, cpj, rfl, hbj⟩
    have hA := HP.trans hW2 hbj
    refine ⟨⟨gy.1, gy.2.1, pvj, cpj, ()⟩, fun j hj => ?_, rfl, ⟨?_, fun h9 => ⟨(hX0 h9).1.below (HP.below hbj), (fun i9 => ((hX0 h9).2.1 i9).below (HP.below hbj)), (hX0 h9).2.2⟩⟩⟩
    ·
     match j, hj with
     | 0, hj => rfl
     | 1, hj => rfl
     | 2, hj => rfl
     | 3, hj => rfl
     | 4, hj => rfl
     | 5, hj => rfl
     | 6, hj => rfl
     | 7, hj => rfl
     | 8, hj => rfl
     | 9, hj => rfl
     | 10, hj => rfl
     | 11, hj => rw [hDi] at hj; cases hj
     | 12, hj => exact absurd hj (by rw [d12]; exact Bool.false_ne_true)
     | j + 13, _ => rfl
    ·
     show HP (Out [pE pb cq n cap b6 b4 63 ga, aE ga n T1]) w8 w3 ([.cel pb #[.slice cq n cap, .func (.func 87) #[] #[vP b6 0, vP b4 0], .func (.func 63) #[] #[], .func (.func 88) #[] #[], .func (.func 89) #[] #[], vS ga n n] 112, (bif D 10 then Ent.cel ga (aR n gy.2.1) 88 else Ent.cel ga (aR n T1) 88)] ++ ([rowT pvj (jM r1.t gy.1.t).length cpj (jM r1.t gy.1.t)] ++ []))
     try simp only [d10, cond_true, cond_false, List.append_nil, List.nil_append, List.cons_append]
     exact hA
   case o12 =>
    rintro gy D wz hDi hdep hclo ⟨hW, hX0⟩
    exact cfv gy wz (by kernel_rfl) ⟨hW, hX0⟩
  rintro ⟨r2, T2, pvj, cpj, gu⟩ D w13 hall ⟨hH14, hX0⟩
  have hOr2 := hX0 (hall 10 (by kernel_rfl))
  clear hX0
  simp only [hall 10 (by kernel_rfl), hall 11 (by kernel_rfl), cond_true, List.append_nil, List.nil_append, List.cons_append] at hH14
  clear hall
  refine WQ.sb [(0, vP pb 0), (1, vI (i : Int)), (2, vI (a : Int)), (3, vI (E : Int)), (4, .slice r.q r.t.length r.c), (10, .slice pvj ((jM r1.t r2.t).length) cpj), (11, .slice r1.q r1.t.length r1.c), (25, vI (c i)), (26, .bool true), (29, .bool true)] ?_
  obtain ⟨hr2, hT2, hXr2⟩ := hOr2
  have hj : TbOk s y l m w13 (⟨pvj, (jM r1.t r2.t), cpj⟩ : TbI) := ⟨InT.own (HP.get hH14 2 rfl), VT_jM hr1.ok hr2.ok⟩
  have hF15 : HP (Out [pE pb cq n cap b6 b4 63 ga, aE ga n T1]) w8 w13 [pE pb cq n cap b6 b4 63 ga, aE ga n T2] := (HP.drop hH14 2)
  have hM15 := HP.exch (A := []) hM10 hF15
  have hE15 := hE10.keep hF15
  have hk15_r := hE10.tab hk10_r hF15
  have hk15_r1 := hE10.tab hr1 hF15
  have hH16 := HP.startB hE15.own
  refine WQ.then (hK12 _ _ _ (WC.ret ?_))
  refine WQ.thenRet ?_
  refine WQ.inRet ?_
  refine WQ.thenRet ?_
  refine WQ.ret1 10 rfl rfl ?_
  refine ⟨⟨pvj, (jM r1.t r2.t), cpj⟩, T2, rfl, hM15, hj, hT2, ?_⟩
  unfold brkA
  rw [if_pos (show (cdOf c n).c i = 29 from h29), ← hXr1]
  rw [← hXr2]
  rfl
 ·
  refine WL.y (.bool false) 27 (x_eql rfl rfl rfl (dF (h29))) (WL.z (.bool false) 26 (WL.k hK4 ?_))
  refine WC.no rfl ?_
  refine WC.seq fun K17 hK17 => WC.region (WL.y (.bool false) 80 (x_eql rfl rfl rfl (dF (by omega))) (WL.z (.bool false) 79 (WL.k hK17 ?_)))
  refine WC.no rfl ?_
  refine WC.seq fun K18 hK18 => WC.region (WL.y (.bool true) 111 (x_eql rfl rfl rfl (dT (by omega))) (WL.z (.bool true) 110 (WL.k hK18 ?_)))
  refine WC.yes rfl ?_
  refine WC.seq fun K19 hK19 => WC.region (WL.z (vP pb 0) 112 (WL.z (vI (i : Int)) 113 (WL.y (vI ((i + 1 : Nat) : Int)) 114 (x_ad (((i + 1 : Nat) : Int))) (WL.z (vI (a : Int)) 115 (WL.z (.slice r.q r.t.length r.c) 116 ?_)))))
  refine WL.c 133 #[vP pb 0, vI ((i + 1 : Nat) : Int), vI (a : Int), .slice r.q r.t.length r.c] 117 ?_
  refine (last0_any s y l m pb cq n cap b6 b4 ga c A B hg0 hn9 (i + 1) a Ra hla (by omega) _ T _ (hE.keep (HP.startB hE.own)) (hE.tab hr (HP.startB hE.own)) (fun i9 => hE.tab (hT i9) (HP.startB hE.own))).mono ?_
  rintro e w20 ⟨r1, T1, rfl, hbw20, hr1, hT1, hXr1⟩
  refine ⟨_, rfl, ?_⟩
  have hH21 : HP (Out [pE pb cq n cap b6 b4 63 ga, aE ga n T]) w w20 [.cel pb #[.slice cq n cap, .func (.func 87) #[] #[vP b6 0, vP b4 0], .func (.func 63) #[] #[], .func (.func 88) #[] #[], .func (.func 89) #[] #[], vS ga n n] 112, .cel ga (aR n T1) 88] := HP.exchF (A := [pE pb cq n cap b6 b4 63 ga, aE ga n T]) (B := []) (HP.startB hE.own) hbw20
  have hF22 : HP (Out [pE pb cq n cap b6 b4 63 ga, aE ga n T]) w w20 [pE pb cq n cap b6 b4 63 ga, aE ga n T1] := hH21
  have hM22 := HP.exch (A := []) hM0 hF22
  have hE22 := hE.keep hF22
  have hk22_r := hE.tab hr hF22
  have hH23 := HP.startB hE22.own
  refine WL.z (.slice r1.q r1.t.length r1.c) 15 (WL.k hK19 (WC.sb [(0, vP pb 0), (1, vI (i : Int)), (2, vI (a : Int)), (3, vI (E : Int)), (4, .slice r.q r.t.length r.c), (10, .slice none 0 0), (15, .slice r1.q r1.t.length r1.c), (25, vI (c i)), (26, .bool false), (79, .bool false), (110, .bool true)] (WC.seq fun K24 hK24 => WC.region (WL.z (.slice r.q r.t.length r.c) 118 (WL.z (.slice r.q r.t.length r.c) 16 (WL.k hK24 ?_))))))
  refine WC.seq fun K25 hK25 => WC.seq fun K26 hK26 => WC.region (WL.z (vI (i : Int)) 119 (WL.y (vI ((i + 1 : Nat) : Int)) 120 (x_ad (((i + 1 : Nat) : Int))) (WL.z (vI ((i + 1 : Nat) : Int)) 17 (WL.k hK26 (WC.block ?_)))))
  have hEt := hE22
  refine WC.loop (fun kk0 ll0 ww0 => ∃ (v : Nat) (rc : TbI), ll0 = [(0, vP pb 0), (2, vI (a : Int)), (3, vI (E : Int)), (4, .slice r.q r.t.length r.c), (15, .slice r1.q r1.t.length r1.c), (16, .slice rc.q rc.t.length rc.c), (17, vI (v : Int))] ∧ kk0 = a - v ∧ (i + 1 ≤ v) ∧ (v ≤ a) ∧ (Fl.fold (ops0 s y l) (tabs T1) v (a - v) rc.t = Fl.fold (ops0 s y l) (tabs T1) (i + 1) (a - (i + 1)) r.t) ∧ (TbOk s y l m ww0 r) ∧ (TbOk s y l m ww0 r1) ∧ (TbOk s y l m ww0 rc) ∧ (∀ i, TbOk s y l m ww0 (T1 i)) ∧ (HP (Out [pE pb cq n cap b6 b4 63 ga, aE ga n T1]) w20 ww0 [pE pb cq n cap b6 b4 63 ga, aE ga n T1]) ∧ HP Tr ww0 ww0 []) (a - (i + 1)) [(0, vP pb 0), (2, vI (a : Int)), (3, vI (E : Int)), (4, .slice r.q r.t.length r.c), (15, .slice r1.q r1.t.length r1.c), (16, .slice r.q r.t.length r.c), (17, vI ((i + 1 : Nat) : Int))] ⟨rfl, rfl, rfl, rfl, rfl, rfl, rfl, trivial⟩ ⟨i + 1, r, rfl, rfl, Nat.le_refl _, by omega, rfl, hk22_r, hr1, hk22_r, hT1, HP.startB hE22.own, HP.refl _⟩ ?_
  rintro kk l w28 ⟨v, rc, rfl, hkk, hv1, hv2, hfo, hr3, hr4, hrc, hT3, hM2, hH29⟩ K27 hK27
  have hE1 := hEt.keep hM2
  have hMo := HP.exch (A := []) hM22 hM2
  have hH30 := HP.startB hE1.own
  refine WC.seq fun K31 hK31 => WC.seq fun K32 hK32 => WC.region (WL.z (vI (v : Int)) 121 (WL.z (vI (a : Int)) 122 ?_))
  by_cases hlt : (v : Int) < (a : Int)
  ·
   refine WL.y (.bool true) 123 (x_lss rfl rfl rfl (dT (hlt))) (WL.k hK32 ?_)
   refine WC.yes rfl ?_
   refine WC.skip (WQ.then (hK31 _ _ _ (WC.seq fun K33 hK33 => WC.block ?_)))
   refine WC.confH (γ := Option Addr × Nat × Option Addr × Nat × Unit) [(123, .bool true), (122, vI (a : Int)), (121, vI (v : Int)), (0, vP pb 0), (2, vI (a : Int)), (3, vI (E : Int)), (4, .slice r.q r.t.length r.c), (15, .slice r1.q r1.t.length r1.c), (16, .slice rc.q rc.t.length rc.c), (17, vI (v : Int))] (fun gy => [vP pb 0, vP pb 0, vP pb 2, .func (.func 63) #[] #[], .slice rc.q rc.t.length rc.c, vP pb 0, vP pb 0, vP pb 4, .func (.func 89) #[] #[], vI (v : Int), vP pb 0, vP pb 0, vP pb 1, .func (.func 87) #[] #[vP b6 0, vP b4 0], vI (v : Int), vP pb 0, vP pb 0, vP pb 5, vS ga n n, vI (v : Int), vP ga v, .slice ((T1 v).q) ((T1 v).t.length) ((T1 v).c), .slice gy.1 ((tcH s y ((v : Int) / l) 0 (T1 v).t).length) gy.2.1, .slice r.q r.t.length r.c, .slice gy.1 ((tcH s y ((v : Int) / l) 0 (T1 v).t).length) gy.2.1, .slice gy.2.2.1 ((jM rc.t (tcH s y ((v : Int) / l) 0 (T1 v).t)).length) gy.2.2.2.1, .slice gy.2.2.1 ((jM rc.t (tcH s y ((v : Int) / l) 0 (T1 v).t)).length) gy.2.2.2.1]) (fun gy D wz => HP (Out [pE pb cq n cap b6 b4 63 ga, aE ga n T1]) w28 wz ([.cel pb #[.slice cq n cap, .func (.func 87) #[] #[vP b6 0, vP b4 0], .func (.func 63) #[] #[], .func (.func 88) #[] #[], .func (.func 89) #[] #[], vS ga n n] 112, .cel ga (aR n T1) 88] ++ ((bif D 22 then [rowT gy.1 (tcH s y ((v : Int) / l) 0 (T1 v).t).length gy.2.1 (tcH s y ((v : Int) / l) 0 (T1 v).t)] else []) ++ ((bif D 25 then [rowT gy.2.2.1 (jM rc.t (tcH s y ((v : Int) / l) 0 (T1 v).t)).length gy.2.2.2.1 (jM rc.t (tcH s y ((v : Int) / l) 0 (T1 v).t))] else []) ++ [])))) (none, 0, none, 0, ()) (by kernel_rfl) ⟨rfl, rfl, rfl, rfl, rfl, rfl, rfl, rfl, rfl, rfl, trivial⟩ (by kernel_rfl) (by kernel_rfl) (by kernel_rfl) (fun _ => rfl) (by kernel_rfl) (HP.drew hH30) ?_ ?_
   ·
    refine AllOk.cons ?o0 (AllOk.cons ?o1 (AllOk.cons ?o2 (AllOk.cons ?o3 (AllOk.cons ?o4 (AllOk.cons ?o5 (AllOk.cons ?o6 (AllOk.cons ?o7 (AllOk.cons ?o8 (AllOk.cons ?o9 (AllOk.cons ?o10 (AllOk.cons ?o11 (AllOk.cons ?o12 (AllOk.cons ?o13 (AllOk.cons ?o14 (AllOk.cons ?o15 (AllOk.cons ?o16 (AllOk.cons ?o17 (AllOk.cons ?o18 (AllOk.cons ?o19 (AllOk.cons ?o20 (AllOk.cons ?o21 (AllOk.cons ?o22 (AllOk.cons ?o23 (AllOk.cons ?o24 (AllOk.cons ?o25 (AllOk.cons ?o26 (AllOk.nil _)))))))))))))))))))))))))))
    case o0 =>
     intro gy D wz hDi hdep hclo hW
     exact cfv gy wz (by kernel_rfl) hW
    case o1 =>
     intro gy D wz hDi hdep hclo hW
     exact cfv gy wz (by kernel_rfl) hW
    case o2 =>
     intro gy D wz hDi hdep hclo hW
     exact cfv gy wz (by kernel_rfl) hW
    case o3 =>
     intro gy D wz hDi hdep hclo hW
     exact cfv gy wz (x_load rfl rfl Try.underlying85 rfl (HP.cell hW 0 rfl rfl)) hW
    case o4 =>
     intro gy D wz hDi hdep hclo hW
     exact cfv gy wz (by kernel_rfl) hW
    case o5 =>
     intro gy D wz hDi hdep hclo hW
     exact cfv gy wz (by kernel_rfl) hW
    case o6 =>
     intro gy D wz hDi hdep hclo hW
     exact cfv gy wz (by kernel_rfl) hW
    case o7 =>
     intro gy D wz hDi hdep hclo hW
     exact cfv gy wz (by kernel_rfl) hW
    case o8 =>
     intro gy D wz hDi hdep hclo hW
     exact cfv gy wz (x_load rfl rfl Try.underlying109 rfl (HP.cell hW 0 rfl rfl)) hW
    case o9 =>
     intro gy D wz hDi hdep hclo hW
     exact cfv gy wz (by kernel_rfl) hW
    case o10 =>
     intro gy D wz hDi hdep hclo hW
     exact cfv gy wz (by kernel_rfl) hW
    case o11 =>
     intro gy D wz hDi hdep hclo hW
     exact cfv gy wz (by kernel_rfl) hW
    case o12 =>
     intro gy D wz hDi hdep hclo hW
     exact cfv gy wz (by kernel_rfl) hW
    case o13 =>
     intro gy D wz hDi hdep hclo hW
     exact cfv gy wz (x_load rfl rfl Try.underlying107 rfl (HP.cell hW 0 rfl rfl)) hW
    case o14 =>
     intro gy D wz hDi hdep hclo hW
     exact cfv gy wz (by kernel_rfl) hW
    case o15 =>
     intro gy D wz hDi hdep hclo hW
     exact cfv gy wz (by kernel_rfl) hW
    case o16 =>
     intro gy D wz hDi hdep hclo hW
     exact cfv gy wz (by kernel_rfl) hW
    case o17 =>
     intro gy D wz hDi hdep hclo hW
     exact cfv gy wz (by kernel_rfl) hW
    case o18 =>
     intro gy D wz hDi hdep hclo hW
     exact cfv gy wz (x_load rfl rfl Try.underlying110 rfl (HP.cell hW 0 rfl rfl)) hW
    case o19 =>
     intro gy D wz hDi hdep hclo hW
     exact cfv gy wz (by kernel_rfl) hW
    case o20 =>
     intro gy D wz hDi hdep hclo hW
     exact cfv gy wz (x_ix (v) (v) Try.underlying110 sz88) hW
    case o21 =>
     intro gy D wz hDi hdep hclo hW
     exact cfv gy wz (x_load rfl rfl Try.underlying88 rfl (HP.cell hW 1 rfl (aR_get (by omega)))) hW
    case o22 =>
     intro gy D wz hDi hdep hclo hW
     have d24 : D 24 = false := by
      cases h : D 24 with
      | false => rfl
      | true => exact absurd (hclo 24 _ rfl h ⟨22, .data⟩ (by simp) rfl) (by rw [hDi]; exact Bool.false_ne_true)
     have d25 : D 25 = false := by
      cases h : D 25 with
      | false => rfl
      | true => exact absurd (hclo 25 _ rfl h ⟨24, .data⟩ (by simp) rfl) (by rw [d24]; exact Bool.false_ne_true)
     have hW2 := hW
     try simp only [d25, hDi, cond_true, cond_false, List.append_nil, List.nil_append, List.cons_append] at hW2
     refine .inl ⟨rfl, rfl, .inr (.inr ⟨87, #[vI (v : Int), .slice ((T1 v).q) ((T1 v).t.length) ((T1 v).c), vP b6 0, vP b4 0], by kernel_rfl, (do0_any s y l m v (T1 v).q (T1 v).t (T1 v).c b6 b4 _ (hE1.keep hW2).how (hE1.keep hW2).geo (hE1.tab (hT3 v) hW2).inn (hT3 v).ok (by omega)).mono ?_⟩)⟩
     rintro e w3 ⟨pvd, cpd, rfl, hbd⟩
     have hA := HP.trans hW2 hbd
     refine ⟨⟨pvd, cpd, gy.2.2.1, gy.2.2.2.1, ()⟩, fun j hj => ?_, rfl, ?_⟩
     ·
      match j, hj with
      | 0, hj => rfl
      | 1, hj => rfl
      | 2, hj => rfl
      | 3, hj => rfl
      | 4, hj => rfl
      | 5, hj => rfl
      | 6, hj => rfl
      | 7, hj => rfl
      | 8, hj => rfl
      | 9, hj => rfl
      | 10, hj => rfl
      | 11, hj => rfl
      | 12, hj => rfl
      | 13, hj => rfl
      | 14, hj => rfl
      | 15, hj => rfl
      | 16, hj => rfl
      | 17, hj => rfl
      | 18, hj => rfl
      | 19, hj => rfl
      | 20, hj => rfl
      | 21, hj => rfl
      | 22, hj => rw [hDi] at hj; cases hj
      | 23, hj => rfl
      | 24, hj => exact absurd hj (by rw [d24]; exact Bool.false_ne_true)
      | 25, hj => rfl
      | 26, hj => rfl
      | j + 27, _ => rfl
     ·
      show HP (Out [pE pb cq n cap b6 b4 63 ga, aE ga n T1]) w28 w3 ([.cel pb #[.slice cq n cap, .func (.func 87) #[] #[vP b6 0, vP b4 0], .func (.func 63) #[] #[], .func (.func 88) #[] #[], .func (.func 89) #[] #[], vS ga n n] 112, .cel ga (aR n T1) 88] ++ ([rowT pvd (tcH s y ((v : Int) / l) 0 (T1 v).t).length cpd (tcH s y ((v : Int) / l) 0 (T1 v).t)] ++ ((bif D 25 then [rowT gy.2.2.1 (jM rc.t (tcH s y ((v : Int) / l) 0 (T1 v).t)).length gy.2.2.2.1 (jM rc.t (tcH s y ((v : Int) / l) 0 (T1 v).t))] else []) ++ [])))
      try simp only [d25, cond_true, cond_false, List.append_nil, List.nil_append, List.cons_append]
      exact hA
    case o23 =>
     intro gy D wz hDi hdep hclo hW
     exact cfv gy wz (by kernel_rfl) hW
    case o24 =>
     intro gy D wz hDi hdep hclo hW
     exact .inl ⟨rfl, rfl, .inr (.inr ⟨89, #[vI (v : Int), .slice gy.1 ((tcH s y ((v : Int) / l) 0 (T1 v).t).length) gy.2.1, .slice r.q r.t.length r.c], by kernel_rfl, (caught_any _ _ _ _).mono fun e w2 h => ⟨gy, fun _ _ => rfl, h.1, by rw [← h.2]; exact hW⟩⟩)⟩
    case o25 =>
     intro gy D wz hDi hdep hclo hW
     have d24 : D 24 = true := hdep ⟨24, .data⟩ (by simp) rfl
     have d22 : D 22 = true := hclo 24 _ rfl d24 ⟨22, .data⟩ (by simp) rfl
     have d26 : D 26 = false := by
      cases h : D 26 with
      | false => rfl
      | true => exact absurd (hclo 26 _ rfl h ⟨25, .data⟩ (by simp) rfl) (by rw [hDi]; exact Bool.false_ne_true)
     have hW2 := hW
     try simp only [d22, hDi, cond_true, cond_false, List.append_nil, List.nil_append, List.cons_append] at hW2
     have hdo : TbOk s y l m wz (⟨gy.1, (tcH s y ((v : Int) / l) 0 (T1 v).t), gy.2.1⟩ : TbI) := ⟨InT.own (HP.get hW2 2 rfl), VT_tc (hT3 v).ok (line_of (vG_iff.1 hg0).2.2.1 (by omega))⟩
     refine .inl ⟨rfl, rfl, .inr (.inr ⟨63, #[.slice rc.q rc.t.length rc.c, .slice gy.1 ((tcH s y ((v : Int) / l) 0 (T1 v).t).length) gy.2.1], by kernel_rfl, (joinMust_any rc.q (⟨gy.1, (tcH s y ((v : Int) / l) 0 (T1 v).t), gy.2.1⟩ : TbI).q rc.t (⟨gy.1, (tcH s y ((v : Int) / l) 0 (T1 v).t), gy.2.1⟩ : TbI).t rc.c (⟨gy.1, (tcH s y ((v : Int) / l) 0 (T1 v).t), gy.2.1⟩ : TbI).c _ (hE1.tab hrc hW2).inn hdo.inn (by have := (hE1.tab hrc hW2).ok.len; omega) (by have := hdo.ok.len; omega) hdo.ok.so).mono ?_⟩)⟩
     rintro e w3 ⟨pvj, cpj, rfl, hbj⟩
     have hA := HP.trans hW2 hbj
     refine ⟨⟨gy.1, gy.2.1, pvj, cpj, ()⟩, fun j hj => ?_, rfl, ?_⟩
     ·
      match j, hj with
      | 0, hj => rfl
      | 1, hj => rfl
      | 2, hj => rfl
      | 3, hj => rfl
      | 4, hj => rfl
      | 5, hj => rfl
      | 6, hj => rfl
      | 7, hj => rfl
      | 8, hj => rfl
      | 9, hj => rfl
      | 10, hj => rfl
      | 11, hj => rfl
      | 12, hj => rfl
      | 13, hj => rfl
      | 14, hj => rfl
      | 15, hj => rfl
      | 16, hj => rfl
      | 17, hj => rfl
      | 18, hj => rfl
      | 19, hj => rfl
      | 20, hj => rfl
      | 21, hj => rfl
      | 22, hj => rfl
      | 23, hj => rfl
      | 24, hj => rfl
      | 25, hj => rw [hDi] at hj; cases hj
      | 26, hj => exact absurd hj (by rw [d26]; exact Bool.false_ne_true)
      | j + 27, _ => rfl
     ·
      show HP (Out [pE pb cq n cap b6 b4 63 ga, aE ga n T1]) w28 w3 ([.cel pb #[.slice cq n cap, .func (.func 87) #[] #[vP b6 0, vP b4 0], .func (.func 63) #[] #[], .func (.func 88) #[] #[], .func (.func 89) #[] #[], vS ga n n] 112, .cel ga (aR n T1) 88] ++ ((bif D 22 then [rowT gy.1 (tcH s y ((v : Int) / l) 0 (T1 v).t).length gy.2.1 (tcH s y ((v : Int) / l) 0 (T1 v).t)] else []) ++ ([rowT pvj (jM rc.t (tcH s y ((v : Int) / l) 0 (T1 v).t)).length cpj (jM rc.t (tcH s y ((v : Int) / l) 0 (T1 v).t))] ++ [])))
      try simp only [d22, cond_true, cond_false, List.append_nil, List.nil_append, List.cons_append]
      exact hA
    case o26 =>
     intro gy D wz hDi hdep hclo hW
     exact cfv gy wz (by kernel_rfl) hW
   rintro ⟨pvd, cpd, pvj, cpj, gu⟩ D w34 hall hH35
   simp only [hall 22 (by kernel_rfl), hall 25 (by kernel_rfl), cond_true, List.append_nil, List.nil_append, List.cons_append] at hH35
   clear hall
   refine WQ.sb [(0, vP pb 0), (2, vI (a : Int)), (3, vI (E : Int)), (4, .slice r.q r.t.length r.c), (15, .slice r1.q r1.t.length r1.c), (16, .slice pvj ((jM rc.t (tcH s y ((v : Int) / l) 0 (T1 v).t)).length) cpj), (17, vI (v : Int)), (123, .bool true)] ?_
   have hcj : TbOk s y l m w34 (⟨pvj, (jM rc.t (tcH s y ((v : Int) / l) 0 (T1 v).t)), cpj⟩ : TbI) := ⟨InT.own (HP.get hH35 3 rfl), VT_jM hrc.ok (VT_tc (hT3 v).ok (line_of (vG_iff.1 hg0).2.2.1 (by omega)))⟩
   have hF36 : HP (Out [pE pb cq n cap b6 b4 63 ga, aE ga n T1]) w28 w34 [pE pb cq n cap b6 b4 63 ga, aE ga n T1] := (HP.drop (HP.drop hH35 3) 2)
   have hM36 := HP.exch (A := []) hMo hF36
   have hE36 := hE1.keep hF36
   have hk36_r := hE1.tab hr3 hF36
   have hk36_r1 := hE1.tab hr4 hF36
   have hk36_rc := hE1.tab hrc hF36
   have hT36 := fun i9 => hE1.tab (hT3 i9) hF36
   have hH37 := HP.startB hE36.own
   refine WQ.inNormal (WQ.then (hK33 _ _ _ (WC.region (WL.z (vI (v : Int)) 124 (WL.y (vI ((v + 1 : Nat) : Int)) 125 (x_ad (((v + 1 : Nat) : Int))) (WL.z (vI ((v + 1 : Nat) : Int)) 17 (WL.nil (WQ.sb [(0, vP pb 0), (2, vI (a : Int)), (3, vI (E : Int)), (4, .slice r.q r.t.length r.c), (15, .slice r1.q r1.t.length r1.c), (16, .slice pvj ((jM rc.t (tcH s y ((v : Int) / l) 0 (T1 v).t)).length) cpj), (17, vI ((v + 1 : Nat) : Int))] ?_))))))))
   refine WQ.then (hK27 _ _ _ (by omega) ⟨v + 1, (⟨pvj, (jM rc.t (tcH s y ((v : Int) / l) 0 (T1 v).t)), cpj⟩ : TbI), rfl, rfl, by omega, by omega, (fold_step (O := (ops0 s y l)) (ah := tabs T1) (a := a) (v := v) (x := rc.t) (by omega)).symm.trans hfo, hk36_r, hk36_r1, hcj, hT36, HP.exch (A := []) hM2 hF36, HP.refl _⟩)
  ·
   refine WL.y (.bool false) 123 (x_lss rfl rfl rfl (dF (hlt))) (WL.k hK32 ?_)
   refine WC.no rfl ?_
   refine WC.exit (WQ.thenExit (WQ.thenExit (WQ.inExit (WQ.then (hK25 _ _ _ (WC.seq fun K38 hK38 => ?_))))))
   have hfo2 : Fl.fold (ops0 s y l) (tabs T1) (i + 1) (a - (i + 1)) r.t = rc.t := by rw [← hfo, fold_end (by omega)]
   refine WC.confG (γ := TbI × (Nat → TbI) × Option Addr × Nat × Unit) [(123, .bool false), (122, vI (a : Int)), (121, vI (v : Int)), (0, vP pb 0), (2, vI (a : Int)), (3, vI (E : Int)), (4, .slice r.q r.t.length r.c), (15, .slice r1.q r1.t.length r1.c), (16, .slice rc.q rc.t.length rc.c), (17, vI (v : Int))] (fun gy => [vP pb 0, vP pb 0, vP pb 2, .func (.func 63) #[] #[], .slice r1.q r1.t.length r1.c, vP pb 0, vI (a : Int), vI ((a + 1 : Nat) : Int), vI (E : Int), .slice rc.q rc.t.length rc.c, .slice gy.1.q gy.1.t.length gy.1.c, .slice gy.2.2.1 ((jM r1.t gy.1.t).length) gy.2.2.2.1, .slice gy.2.2.1 ((jM r1.t gy.1.t).length) gy.2.2.2.1]) (fun gy D wz => HP (Out [pE pb cq n cap b6 b4 63 ga, aE ga n T1]) w28 wz ([.cel pb #[.slice cq n cap, .func (.func 87) #[] #[vP b6 0, vP b4 0], .func (.func 63) #[] #[], .func (.func 88) #[] #[], .func (.func 89) #[] #[], vS ga n n] 112, (bif D 10 then Ent.cel ga (aR n gy.2.1) 88 else Ent.cel ga (aR n T1) 88)] ++ ((bif D 11 then [rowT gy.2.2.1 (jM r1.t gy.1.t).length gy.2.2.2.1 (jM r1.t gy.1.t)] else []) ++ [])) ∧ (D 10 = true → (TbOk s y l m wz gy.1 ∧ (∀ i9, TbOk s y l m wz (gy.2.1 i9)) ∧ (gy.1.t, tabs gy.2.1) = Fl.last (ops0 s y l) (Fl.sol (ops0 s y l) (cdOf c n) Rb) E rc.t (tabs T1)))) (⟨none, [], 0⟩, (fun _ => ⟨none, [], 0⟩), none, 0, ()) (by kernel_rfl) ⟨rfl, rfl, rfl, rfl, rfl, rfl, rfl, rfl, rfl, rfl, trivial⟩ (by kernel_rfl) (by kernel_rfl) (by kernel_rfl) (fun _ => rfl) (by kernel_rfl) (⟨HP.drew hH30, (fun h => by cases h)⟩) ?_ ?_
   ·
    refine AllOk.cons ?o0 (AllOk.cons ?o1 (AllOk.cons ?o2 (AllOk.cons ?o3 (AllOk.cons ?o4 (AllOk.cons ?o5 (AllOk.cons ?o6 (AllOk.cons ?o7 (AllOk.cons ?o8 (AllOk.cons ?o9 (AllOk.cons ?o10 (AllOk.cons ?o11 (AllOk.cons ?o12 (AllOk.nil _)))))))))))))
    case o0 =>
     rintro gy D wz hDi hdep hclo ⟨hW, hX0⟩
     exact cfv gy wz (by kernel_rfl) ⟨hW, hX0⟩
    case o1 =>
     rintro gy D wz hDi hdep hclo ⟨hW, hX0⟩
     exact cfv gy wz (by kernel_rfl) ⟨hW, hX0⟩
    case o2 =>
     rintro gy D wz hDi hdep hclo ⟨hW, hX0⟩
     exact cfv gy wz (by kernel_rfl) ⟨hW, hX0⟩
    case o3 =>
     rintro gy D wz hDi hdep hclo ⟨hW, hX0⟩
     exact cfv gy wz (x_load rfl rfl Try.underlying85 rfl (HP.cell hW 0 rfl rfl)) ⟨hW, hX0⟩
    case o4 =>
     rintro gy D wz hDi hdep hclo ⟨hW, hX0⟩
     exact cfv gy wz (by kernel_rfl) ⟨hW, hX0⟩
    case o5 =>
     rintro gy D wz hDi hdep hclo ⟨hW, hX0⟩
     exact cfv gy wz (by kernel_rfl) ⟨hW, hX0⟩
    case o6 =>
     rintro gy D wz hDi hdep hclo ⟨hW, hX0⟩
     exact cfv gy wz (by kernel_rfl) ⟨hW, hX0⟩
    case o7 =>
     rintro gy D wz hDi hdep hclo ⟨hW, hX0⟩
     exact cfv gy wz (x_ad (((a + 1 : Nat) : Int))) ⟨hW, hX0⟩
    case o8 =>
     rintro gy D wz hDi hdep hclo ⟨hW, hX0⟩
     exact cfv gy wz (by kernel_rfl) ⟨hW, hX0⟩
    case o9 =>
     rintro gy D wz hDi hdep hclo ⟨hW, hX0⟩
     exact cfv gy wz (by kernel_rfl) ⟨hW, hX0⟩
    case o10 =>
     rintro gy D wz hDi hdep hclo ⟨hW, hX0⟩
     have d11 : D 11 = false := by
      cases h : D 11 with
      | false => rfl
      | true => exact absurd (hclo 11 _ rfl h ⟨10, .data⟩ (by simp) rfl) (by rw [hDi]; exact Bool.false_ne_true)
     have d12 : D 12 = false := by
      cases h : D 12 with
      | false => rfl
      | true => exact absurd (hclo 12 _ rfl h ⟨10, .phase⟩ (by simp) rfl) (by rw [hDi]; exact Bool.false_ne_true)
     have hW2 := hW
     try simp only [d11, hDi, cond_true, cond_false, List.append_nil, List.nil_append, List.cons_append] at hW2
     refine .inl ⟨rfl, rfl, .inr (.inr ⟨133, #[vP pb 0, vI ((a + 1 : Nat) : Int), vI (E : Int), .slice rc.q rc.t.length rc.c], by kernel_rfl, (last0_any s y l m pb cq n cap b6 b4 ga c A B hg0 hn9 (a + 1) E Rb hlb (by omega) _ T1 _ (hE1.keep hW2) (hE1.tab hrc hW2) (fun i9 => hE1.tab (hT3 i9) hW2)).mono ?_⟩)⟩
     rintro e w3 ⟨r2, T2, rfl, hb9, hr9, hT9, hX9⟩
     have hA := HP.exchF (A := [pE pb cq n cap b6 b4 63 ga, aE ga n T1]) (B := []) hW2 hb9
     refine ⟨⟨r2, T2, gy.2.2.1, gy.2.2.2.1, ()⟩, fun j hj => ?_, rfl, ⟨?_, fun _ => ⟨hr9, hT9, hX9⟩⟩⟩
     ·
      match j, hj with
      | 0, hj => rfl
      | 1, hj => rfl
      | 2, hj => rfl
      | 3, hj => rfl
      | 4, hj => rfl
      | 5, hj => rfl
      | 6, hj => rfl
      | 7, hj => rfl
      | 8, hj => rfl
      | 9, hj => rfl
      | 10, hj => rw [hDi] at hj; cases hj
      | 11, hj => exact absurd hj (by rw [d11]; exact Bool.false_ne_true)
      | 12, hj => exact absurd hj (by rw [d12]; exact Bool.false_ne_true)
      | j + 13, _ => rfl
     ·
      show HP (Out [pE pb cq n cap b6 b4 63 ga, aE ga n T1]) w28 w3 ([.cel pb #[.slice cq n cap, .func (.func 87) #[] #[vP b6 0, vP b4 0], .func (.func 63) #[] #[], .func (.func 88) #[] #[], .func (.func 89) #[] #[], vS ga n n] 112, Ent.cel ga (aR n T2) 88] ++ ((bif D 11 then [rowT gy.2.2.1 (jM r1.t r2.t).length gy.2.2.2.1 (jM r1.t r2.t)] else []) ++ []))
      try simp only [d11, cond_true, cond_false, List.append_nil, List.nil_append, List.cons_append]
      exact hA
    case o11 =>
     rintro gy D wz hDi hdep hclo ⟨hW, hX0⟩
     have d10 : D 10 = true := hdep ⟨10, .data⟩ (by simp) rfl
     have d12 : D 12 = false := by
      cases h : D 12 with
      | false => rfl
      | true => exact absurd (hclo 12 _ rfl h ⟨11, .data⟩ (by simp) rfl) (by rw [hDi]; exact Bool.false_ne_true)
     have hW2 := hW
     try simp only [d10, hDi, cond_true, cond_false, List.append_nil, List.nil_append, List.cons_append] at hW2
     refine .inl ⟨rfl, rfl, .inr (.inr ⟨63, #[.slice r1.q r1.t.length r1.c, .slice gy.1.q gy.1.t.length gy.1.c], by kernel_rfl, (joinMust_any r1.q gy.1.q r1.t gy.1.t r1.c gy.1.c _ (hE1.tab hr4 hW2).inn (hX0 d10).1.inn (by have := (hE1.tab hr4 hW2).ok.len; omega) (by have := (hX0 d10).1.ok.len; omega) (hX0 d10).1.ok.so).mono ?_⟩)⟩
     rintro e w3 ⟨pvj, cpj, rfl, hbj⟩
     have hA := HP.trans hW2 hbj
     refine ⟨⟨gy.1, gy.2.1, pvj, cpj, ()⟩, fun j hj => ?_, rfl, ⟨?_, fun h9 => ⟨(hX0 h9).1.below (HP.below hbj), (fun i9 => ((hX0 h9).2.1 i9).below (HP.below hbj)), (hX0 h9).2.2⟩⟩⟩
     ·
      match j, hj with
      | 0, hj => rfl
      | 1, hj => rfl
      | 2, hj => rfl
      | 3, hj => rfl
      | 4, hj => rfl
      | 5, hj => rfl
      | 6, hj => rfl
      | 7, hj => rfl
      | 8, hj => rfl
      | 9, hj => rfl
      | 10, hj => rfl
      | 11, hj => rw [hDi] at hj; cases hj
      | 12, hj => exact absurd hj (by rw [d12]; exact Bool.false_ne_true)
      | j + 13, _ => rfl
     ·
      show HP (Out [pE pb cq n cap b6 b4 63 ga, aE ga n T1]) w28 w3 ([.cel pb #[.slice cq n cap, .func (.func 87) #[] #[vP b6 0, vP b4 0], .func (.func 63) #[] #[], .func (.func 88) #[] #[], .func (.func 89) #[] #[], vS ga n n] 112, (bif D 10 then Ent.cel ga (aR n gy.2.1) 88 else Ent.cel ga (aR n T1) 88)] ++ ([rowT pvj (jM r1.t gy.1.t).length cpj (jM r1.t gy.1.t)] ++ []))
      try simp only [d10, cond_true, cond_false, List.append_nil, List.nil_append, List.cons_append]
      exact hA
    case o12 =>
     rintro gy D wz hDi hdep hclo ⟨hW, hX0⟩
     exact cfv gy wz (by kernel_rfl) ⟨hW, hX0⟩
   rintro ⟨r2, T2, pvj, cpj, gu⟩ D w39 hall ⟨hH40, hX0⟩
   have hOr2 := hX0 (hall 10 (by kernel_rfl))
   clear hX0
   simp only [hall 10 (by kernel_rfl), hall 11 (by kernel_rfl), cond_true, List.append_nil, List.nil_append, List.cons_append] at hH40
   clear hall
   refine WQ.sb [(0, vP pb 0), (2, vI (a : Int)), (3, vI (E : Int)), (4, .slice r.q r.t.length r.c), (10, .slice pvj ((jM r1.t r2.t).length) cpj), (15, .slice r1.q r1.t.length r1.c), (16, .slice rc.q rc.t.length rc.c), (17, vI (v : Int)), (123, .bool false)] ?_
   obtain ⟨hr2, hT2, hXr2⟩ := hOr2
   have hj : TbOk s y l m w39 (⟨pvj, (jM r1.t r2.t), cpj⟩ : TbI) := ⟨InT.own (HP.get hH40 2 rfl), VT_jM hr4.ok hr2.ok⟩
   have hF41 : HP (Out [pE pb cq n cap b6 b4 63 ga, aE ga n T1]) w28 w39 [pE pb cq n cap b6 b4 63 ga, aE ga n T2] := (HP.drop hH40 2)
   have hM41 := HP.exch (A := []) hMo hF41
   have hE41 := hE1.keep hF41
   have hk41_r := hE1.tab hr3 hF41
   have hk41_r1 := hE1.tab hr4 hF41
   have hk41_rc := hE1.tab hrc hF41
   have hH42 := HP.startB hE41.own
   refine WQ.then (hK38 _ _ _ (WC.ret ?_))
   refine WQ.inRet ?_
   refine WQ.thenRet ?_
   refine WQ.ret1 10 rfl rfl ?_
   refine ⟨⟨pvj, (jM r1.t r2.t), cpj⟩, T2, rfl, hM41, hj, hT2, ?_⟩
   unfold brkA
   rw [if_neg (show ¬ (cdOf c n).c i = 29 from h29), ← hXr1, hfo2]
   rw [← hXr2]
   rfl
end Ca
end Go.Proofs.Ytmjnakhpekbenaa
namespace Go.Proofs.Ytmjnakhpekbenaa
open Go.RowKit Fw
namespace Ca
theorem br_all0 (s y l m : Int) (pb : Nat) (cq : Option Addr) (n cap b6 b4 ga : Nat) (c A B : Nat → Int) (hg0 : vG s y l m = true) (hn9 : n ≤ 400) (hc : Ec.chk c A B false n = 0) : ∀ (R : Fl.Tr) (k j : Nat), Fl.Is (cdOf c n) R k j → j ≤ n → BrAll (BrP0 s y l m pb cq n cap b6 b4 ga c A B) (BrA0 s y l m pb cq n cap b6 b4 ga c A B) R
  | .nil, k, j, h, hj => trivial
  | .one i r, k, j, h, hj => br_all0 s y l m pb cq n cap b6 b4 ga c A B hg0 hn9 hc r (k + 1) j h.2.2 hj
  | .plain i E b r, k, j, h, hj => by
    obtain ⟨h1, h2, h3, h4, h5, h6, h7, h8⟩ := h
    subst h1
    have h9 := h8.le
    have h10 := h7.le
    have hb := br_all0 s y l m pb cq n cap b6 b4 ga c A B hg0 hn9 hc b _ _ h7 (by omega)
    exact ⟨fun w T r' hE hr hT => brP0_any s y l m pb cq n cap b6 b4 ga c A B hg0 hn9 i E b h2 (by omega) (by omega) (fun w T r hE hr hT => list0_any s y l m pb cq n cap b6 b4 ga c A B hg0 hc b (i + 1) E h7 (by omega) hb w T r hE hr hT) w T r' hE hr hT, br_all0 s y l m pb cq n cap b6 b4 ga c A B hg0 hn9 hc r _ _ h8 hj⟩
  | .alt i a E b1 b2 r, k, j, h, hj => by
    obtain ⟨h1, h2, h3, h4, h5, h6, h7, h8, h9, h10, h11⟩ := h
    subst h1
    have h12 := h9.le
    have h13 := h10.le
    have h14 := h11.le
    have hb1 := br_all0 s y l m pb cq n cap b6 b4 ga c A B hg0 hn9 hc b1 _ _ h9 (by omega)
    have hb2 := br_all0 s y l m pb cq n cap b6 b4 ga c A B hg0 hn9 hc b2 _ _ h10 (by omega)
    exact ⟨fun w T r' hE hr hT => brA0_any s y l m pb cq n cap b6 b4 ga c A B hg0 hn9 i a E b1 b2 h2 (by omega) (by omega) (by omega) (fun w T r hE hr hT => list0_any s y l m pb cq n cap b6 b4 ga c A B hg0 hc b1 (i + 1) a h9 (by omega) hb1 w T r hE hr hT) (fun w T r hE hr hT => list0_any s y l m pb cq n cap b6 b4 ga c A B hg0 hc b2 (a + 1) E h10 (by omega) hb2 w T r hE hr hT) w T r' hE hr hT, br_all0 s y l m pb cq n cap b6 b4 ga c A B hg0 hn9 hc r _ _ h11 hj⟩
noncomputable def trC (c : Nat → Int) (n : Nat) : Fl.Tr := open Classical in if h : ∃ R, Fl.Is (cdOf c n) R 0 n then Classical.choose h else .nil
theorem trC_is {c A B : Nat → Int} {n : Nat} (h : Ec.chk c A B false n = 0) : Fl.Is (cdOf c n) (trC c n) 0 n := by
  have h1 := is_tree h
  unfold trC
  rw [dif_pos h1]
  exact Classical.choose_spec h1
theorem hR0 {s y l m : Int} {n : Nat} {c A B : Nat → Int} (hn : n ≤ 400) (h : okC s y l m c A B n = true) : Fl.Is (cdOf c n) (trC c n) 0 n ∧ ∀ (pb : Nat) (cq : Option Addr) (cap b6 b4 ga : Nat), BrAll (BrP0 s y l m pb cq n cap b6 b4 ga c A B) (BrA0 s y l m pb cq n cap b6 b4 ga c A B) (trC c n) := by
  obtain ⟨h1, h2, h3⟩ := okC_iff.1 h
  exact ⟨trC_is h2, fun pb cq cap b6 b4 ga => br_all0 s y l m pb cq n cap b6 b4 ga c A B h1 hn h2 _ 0 n (trC_is h2) (Nat.le_refl _)⟩
theorem MustA (s y l m : Int) (p : Option Addr) (n cap : Nat) (c A B : Nat → Int) (w : World) (hIn : Ec.InC w p n c A B) (hn : n ≤ 400) :
    Calls Try.prog 46 #[.agg #[vI s, vI y, vI l, vI m], .slice p n cap] w (MarkR0 s y l m c A B n (trC c n) w) := Must_any s y l m p n cap c A B (trC c n) (hR0 hn) w hIn hn
end Ca
end Go.Proofs.Ytmjnakhpekbenaa
namespace Go.Proofs.Ytmjnakhpekbenaa
open Go.Maps Go.RowKit Go.Sort
namespace Fw
section
variable {P : Program} {ρ : Operand → Value} {o : Oper} {ops : Array Oper} {Q : Exit → Act → World → Prop} {rest : List Oper} {n : Nat} {l : List (Nat × Value)} {w w' w0 : World} {S : Nat → Prop} {H H2 : List Ent}
theorem HP.obj (h : HP S w0 w H) (o : Obj) : HP S w0 (w.alloc o) H := HP.call h ((Below.refl w.heap.size w).alloc (Nat.le_refl _) o)
theorem HP.grown {mb : Nat} (h : HP S w0 w H) (hg : w.grownBy w' (some mb)) (hm : w0.heap.size ≤ mb) (hne : ∀ e ∈ H, e.blk ≠ some mb) : HP S w0 w' H :=
  ⟨hg.os.trans h.os, hg.tape.trans h.tape, hg.output.trans h.output, Nat.le_trans h.size hg.size, fun k hk hs => (hg.block k (Nat.lt_of_lt_of_le hk h.size) (fun e => by injection e; omega)).trans (h.keep k hk hs),
    fun e he => Ent.keep (h.hold e he) (fun b hb => hg.block b (Ent.lt (h.hold e he) hb) (fun q => hne e he (by rw [hb, q]))), h.fresh, h.apart⟩
theorem WL.mapMake {o : Oper} {t : TypeId} (d : Nat) (hd : o.dst = some d) (hn : d < n) (hw : wants ops l o = some true) (ho : o.op = .makeMap t none)
    (h : WL P ops Q rest n ((d, .map (some w.heap.size)) :: l) (w.alloc (.map #[] 0))) : WL P ops Q (o :: rest) n l w := by
  intro a ha
  refine wpList_step fun K hK => ?_
  rw [if_pos (wants_spec ha hw)]
  unfold Oper.wp
  have hr : (execOp a.eval o).run P w = .ok (.value (.map (some w.heap.size))) (w.alloc (.map #[] 0)) := by
    unfold execOp; rw [ho]
    have := run_makeMap (P := P) t w
    simp [this]
  rw [hr, Oper.upon_value, hd]
  exact hK _ _ (h _ (ha.put hn _))
theorem WL.mapPut {o : Oper} {m x v : Operand} {t k e : TypeId} {R : Value → Option (DataW Unit × List MemPlace)} {mb N : Nat} {D : DataW Unit} {key val : Value} {kl : Lit} {d : DataW Unit} {ps : List MemPlace} (hd : o.dst = none) (hw : wants ops l o = some true)
    (ho : o.op = .mapUpdate t m x v) (hm : ev l m = some (.map (some mb))) (hx : ev l x = some key) (hv : ev l v = some val) (K : Keyed P k) (ht : P.underlying t = some (.map k e)) (hown : w.ownsMap P k R mb N D) (hn : N < maxLen)
    (hkey : keyOf P k key = some kl) (hval : R val = some (d, ps)) (h : ∀ w', w'.ownsMap P k R mb (N + 1) (D.put kl d) → w.grownBy w' (some mb) → WL P ops Q rest n l w') : WL P ops Q (o :: rest) n l w := by
  intro a ha
  refine wpList_step fun K' hK' => ?_
  rw [if_pos (wants_spec ha hw)]
  unfold Oper.wp
  obtain ⟨w', hrun, r1, r2⟩ := hown.update K ht hn hkey hval
  have hr : (execOp a.eval o).run P w = .ok .skip w' := by
    unfold execOp; rw [ho]
    simp [ha.ev hm, ha.ev hx, ha.ev hv, hrun]
  rw [hr, Oper.upon_skip, hd]
  exact hK' _ _ (h w' r1 r2 _ ha)
theorem x_lenMap {t k e : TypeId} {R : Value → Option (DataW Unit × List MemPlace)} {mb N : Nat} {D : DataW Unit} {x : Operand} (ho : o.op = .call { callee := .builtin .len, args := #[x], argTypes := #[t] }) (hx : ρ x = .map (some mb)) (ht : P.underlying t = some (.map k e)) (hown : w.ownsMap P k R mb N D) :
    (execOp ρ o).run P w = .ok (.value (.int .i64 (Maps.size D))) w := by
  unfold execOp; rw [ho]
  have := hown.len ht o.type
  simp [resolve, invoke, builtin, hx, this]
end
end Fw
open Fw
namespace Ca
theorem cs_all (pb : Nat) (cq : Option Addr) (n cap gp : Nat) (c A B p : Nat → Int) (hc : Ec.chk c A B false n = 0) (hp : ∀ i, 0 ≤ p i ∧ p i ≤ 100) (hA : ∀ i, i < n → (cdOf c n).c i = 30 → 0 ≤ A i ∧ A i ≤ 50) : ∀ (R : Fl.Tr) (k j : Nat), Fl.Is (cdOf c n) R k j → j ≤ n → Sm (cdOf c n) A p R → CsAll (CsP pb cq n cap gp c A B p) R
  | .nil, k, j, h, hj, hs => trivial
  | .one i r, k, j, h, hj, hs => cs_all pb cq n cap gp c A B p hc hp hA r (k + 1) j h.2.2 hj hs
  | .plain i E b r, k, j, h, hj, hs => by
    obtain ⟨h1, h2, h3, h4, h5, h6, h7, h8⟩ := h
    subst h1
    have h9 := h8.le
    have h10 := h7.le
    have h11 := hp E
    obtain ⟨s1, s2, s3⟩ := hs
    exact ⟨fun w hC => clist_any pb cq n cap gp c A B p hc hp hA b (i + 1) E h7 (by omega) s2 (by omega) (cs_all pb cq n cap gp c A B p hc hp hA b _ _ h7 (by omega) s2) w hC, cs_all pb cq n cap gp c A B p hc hp hA r _ _ h8 hj s3⟩
  | .alt i a E b1 b2 r, k, j, h, hj, hs => by
    obtain ⟨h1, h2, h3, h4, h5, h6, h7, h8, h9, h10, h11⟩ := h
    subst h1
    have h12 := h9.le
    have h13 := h10.le
    have h14 := h11.le
    have h15 := hp E
    have h16 := hp a
    obtain ⟨s1, s2, s3, s4, s5⟩ := hs
    exact ⟨⟨fun w hC => clist_any pb cq n cap gp c A B p hc hp hA b1 (i + 1) a h9 (by omega) s3 (by omega) (cs_all pb cq n cap gp c A B p hc hp hA b1 _ _ h9 (by omega) s3) w hC, fun w hC => clist_any pb cq n cap gp c A B p hc hp hA b2 (a + 1) E h10 (by omega) s4 (by omega) (cs_all pb cq n cap gp c A B p hc hp hA b2 _ _ h10 (by omega) s4) w hC⟩, cs_all pb cq n cap gp c A B p hc hp hA r _ _ h11 hj s5⟩
theorem loop_of {c A B : Nat → Int} {n : Nat} (hc : Ec.chk c A B false n = 0) : ∀ i, i < n → (cdOf c n).c i = 30 → 0 ≤ A i ∧ A i ≤ 50 := fun i hi h30 => by
  have h := Ec.allV_spec.1 (Ec.chk_ok hc).2.1 i hi
  have e : c i = ((30 : Nat) : Int) := h30
  rw [e, Ec.vld_nat 30 (by decide)] at h
  have e2 : (Ec.sp 30).a = 12 := by kernel_rfl
  rw [e2] at h
  simp only [Bool.and_eq_true] at h
  have h1 := h.1
  have e3 : Ec.mosts 12 = 50 := by kernel_rfl
  unfold Ec.rng at h1
  simp [e3] at h1
  exact h1
def prc (m : Int) (f : Nat → Bool) : Nat → Int := fun i => if f i then 0 else m
theorem prc_bd {m : Int} (hm : 0 ≤ m ∧ m ≤ 100) (f : Nat → Bool) (i : Nat) : 0 ≤ prc m f i ∧ prc m f i ≤ 100 := by unfold prc; split <;> omega
noncomputable def penV (s y l m : Int) (c A : Nat → Int) (n : Nat) : Int := cst (cdOf c n) A (prc m (mk0 s y l c n (trC c n))) (trC c n)
theorem cost_facts {c A B : Nat → Int} {n : Nat} {p : Nat → Int} (hc : Ec.chk c A B false n = 0) (hp : ∀ i, 0 ≤ p i ∧ p i ≤ 100) : Sm (cdOf c n) A p (trC c n) ∧ 0 ≤ cst (cdOf c n) A p (trC c n) ∧ cst (cdOf c n) A p (trC c n) ≤ 187500000000000 := by
  have h1 := trC_is hc
  have h2 := dep_chk hc h1
  have h3 := (Ec.chk_ok hc).1
  exact ⟨sm_of hp (loop_of hc) _ 0 n h1 (Nat.le_refl _) h3 h2, cst_K hp (loop_of hc) h1 (Nat.le_refl _) h3 h2⟩
theorem Clist (pb : Nat) (cq : Option Addr) (n cap gp : Nat) (c A B p : Nat → Int) (hc : Ec.chk c A B false n = 0) (hp : ∀ i, 0 ≤ p i ∧ p i ≤ 100) (w : World) (hC : CEnv pb cq n cap gp c A B p w) :
    Calls Try.prog 51 #[vP pb 0, vI 0, vI (n : Int)] w fun e w' => e = .returned (.int .i64 (cst (cdOf c n) A p (trC c n))) ∧ Below w.heap.size w w' := by
  obtain ⟨h1, h2, h3⟩ := cost_facts (A := A) hc hp
  exact clist_any pb cq n cap gp c A B p hc hp (loop_of hc) (trC c n) 0 n (trC_is hc) (Nat.le_refl _) h1 (by omega) (cs_all pb cq n cap gp c A B p hc hp (loop_of hc) _ 0 n (trC_is hc) (Nat.le_refl _) h1) w hC
def lnH (l : Int) (f : Nat → Bool) (i k : Nat) : Bool := (List.range i).any fun j => f j && decide ((j : Int) / l = (k : Int))
def lnC (l : Int) (f : Nat → Bool) (i N : Nat) : Nat := (List.range N).countP (lnH l f i)
theorem lnH_iff {l : Int} {f : Nat → Bool} {i k : Nat} : lnH l f i k = true ↔ ∃ j, j < i ∧ f j = true ∧ (j : Int) / l = (k : Int) := by
  unfold lnH; simp [List.any_eq_true]
theorem lnC_0 (l : Int) (f : Nat → Bool) (N : Nat) : lnC l f 0 N = 0 := by unfold lnC lnH; simp
theorem lnH_no {l : Int} {f : Nat → Bool} {i : Nat} (h : f i = false) (k : Nat) : lnH l f (i + 1) k = lnH l f i k := by
  unfold lnH; rw [List.range_succ, List.any_append]; simp [h]
theorem lnH_yes {l : Int} {f : Nat → Bool} {i a : Nat} (h : f i = true) (ha : (i : Int) / l = (a : Int)) (k : Nat) : lnH l f (i + 1) k = (lnH l f i k || decide (a = k)) := by
  unfold lnH; rw [List.range_succ, List.any_append]; simp only [List.any_cons, List.any_nil, h, ha, Bool.true_and, Bool.or_false]
  rw [show decide ((a : Int) = (k : Int)) = decide (a = k) from decide_eq_decide.2 (by omega)]
theorem countP_one {p q : Nat → Bool} {a : Nat} (h : ∀ k, q k = (p k || decide (a = k))) : ∀ N, (List.range N).countP q = (List.range N).countP p + (if p a = false ∧ a < N then 1 else 0)
  | 0 => by simp
  | N + 1 => by
    rw [List.range_succ, List.countP_append, List.countP_append, countP_one h N, List.countP_singleton, List.countP_singleton, h N]
    by_cases e : a = N
    · subst e
      cases hp : p a <;> simp [hp]
    · have e2 : decide (a = N) = false := decide_eq_false e
      rw [e2, Bool.or_false]
      have e3 : (p a = false ∧ a < N + 1) ↔ (p a = false ∧ a < N) := ⟨fun q => ⟨q.1, by have := q.2; omega⟩, fun q => ⟨q.1, by have := q.2; omega⟩⟩
      simp only [e3]
      omega
theorem lnC_no {l : Int} {f : Nat → Bool} {i N : Nat} (h : f i = false) : lnC l f (i + 1) N = lnC l f i N := by
  unfold lnC; rw [show lnH l f (i + 1) = lnH l f i from funext (lnH_no h)]
theorem lnC_yes {l : Int} {f : Nat → Bool} {i a N : Nat} (h : f i = true) (ha : (i : Int) / l = (a : Int)) (hN : a < N) : lnC l f (i + 1) N = lnC l f i N + (if lnH l f i a = false then 1 else 0) := by
  unfold lnC; rw [countP_one (lnH_yes h ha) N]; simp [hN]
theorem lnC_le (l : Int) (f : Nat → Bool) (i N : Nat) : lnC l f i N ≤ N := by
  unfold lnC; exact Nat.le_trans (List.countP_le_length) (by simp)
structure MRel (l : Int) (f : Nat → Bool) (i : Nat) (D : DataW Unit) : Prop where
  tidy : Maps.Tidy D
  has_ : ∀ k : Nat, Maps.has D (.int .i64 (k : Int)) = lnH l f i k
  sz : Maps.size D = lnC l f i 1000
theorem MRel.start (l : Int) (f : Nat → Bool) : MRel l f 0 (.map []) := ⟨tidy_empty, fun k => by simp [Maps.has, lnH], by rw [lnC_0]; rfl⟩
theorem keyLit9 (a : Int) : WideAt.IsKeyLit (.int .i64 a) := by simp [WideAt.IsKeyLit]
theorem MRel.no {l : Int} {f : Nat → Bool} {i : Nat} {D : DataW Unit} (h : MRel l f i D) (hf : f i = false) : MRel l f (i + 1) D := ⟨h.tidy, fun k => by rw [lnH_no hf]; exact h.has_ k, by rw [lnC_no hf]; exact h.sz⟩
theorem MRel.yes {l : Int} {f : Nat → Bool} {i a : Nat} {D : DataW Unit} (h : MRel l f i D) (hf : f i = true) (ha : (i : Int) / l = (a : Int)) (hN : a < 1000) (d : DataW Unit) : MRel l f (i + 1) (D.put (.int .i64 ((i : Int) / l)) d) := by
  rw [ha]
  refine ⟨h.tidy.put (keyLit9 _) d, fun k => ?_, ?_⟩
  · rw [lnH_yes hf ha]
    by_cases e : a = k
    · subst e; rw [has_put_same h.tidy.isMap (keyLit9 _) d]; simp
    · rw [has_put_other (fun q => e (by injection q with _ q; omega)) d, h.has_ k]; simp [e]
  · rw [size_put h.tidy d, h.has_ a, h.sz, lnC_yes hf ha hN]
    cases lnH l f i a <;> simp
theorem law39 : Keyed Try.prog 3 := int_keyed Try.underlying3
end Ca
end Go.Proofs.Ytmjnakhpekbenaa
namespace Go.Proofs.Ytmjnakhpekbenaa
set_option maxRecDepth 20000
set_option maxHeartbeats 4000000
open Go.RowKit Fw
namespace Ca
def tryD (C : Fl.Cd) (v : Nat) : Nat → Int
  | 0 => -1
  | k + 1 => if C.c k = 33 ∧ (v : Int) < C.e k then (k : Int) else tryD C v k
theorem tryD_no {C : Fl.Cd} {v j : Nat} {X : Int} (h : tryD C v (j + 1) = X) (hn : ¬ (C.c j = 33 ∧ (v : Int) < C.e j)) : tryD C v j = X := by
  unfold tryD at h; rw [if_neg hn] at h; exact h
theorem tryD_yes {C : Fl.Cd} {v j : Nat} {X : Int} (h : tryD C v (j + 1) = X) (h1 : C.c j = 33) (h2 : (v : Int) < C.e j) : (j : Int) = X := by
  unfold tryD at h; rw [if_pos ⟨h1, h2⟩] at h; exact h
theorem tryD_spec {C : Fl.Cd} {v : Nat} : ∀ k, tryD C v k = -1 ∨ ∃ t : Nat, tryD C v k = (t : Int) ∧ t < k ∧ C.c t = 33 ∧ (v : Int) < C.e t ∧ ∀ u, t < u → u < k → C.c u = 33 → ¬ (v : Int) < C.e u
  | 0 => .inl rfl
  | k + 1 => by
    unfold tryD
    by_cases h : C.c k = 33 ∧ (v : Int) < C.e k
    · rw [if_pos h]
      exact .inr ⟨k, rfl, by omega, h.1, h.2, fun u h1 h2 => by omega⟩
    · rw [if_neg h]
      rcases tryD_spec (C := C) (v := v) k with q | ⟨t, q1, q2, q3, q4, q5⟩
      · exact .inl q
      · refine .inr ⟨t, q1, by omega, q3, q4, fun u h1 h2 h3 => ?_⟩
        by_cases e : u = k
        · subst e; exact fun h4 => h ⟨h3, h4⟩
        · exact q5 u h1 (by omega) h3
theorem tryD_trp {C : Fl.Cd} {v t a : Nat} (h : tryD C v v = (t : Int)) (ha : C.e t = (a : Int)) : Trp C v (a + 1) := by
  rcases tryD_spec (C := C) (v := v) v with q | ⟨t', q1, q2, q3, q4, q5⟩
  · omega
  · obtain rfl : t = t' := by omega
    exact ⟨t, q2, q3, q4, q5, by omega⟩
section
variable {C : Fl.Cd} {A : Nat → Int} {v x E : Nat} {r : Nat → Int}
theorem Stp.if1 (h : C.c v = 29) : Stp C A v r (v + 1) r := .inl ⟨h, rfl, .inl rfl⟩
theorem Stp.if2 (h : C.c v = 29) (he : C.e v = (x : Int)) : Stp C A v r (x + 1) r := .inl ⟨h, rfl, .inr (.inl ⟨by omega, by omega⟩)⟩
theorem Stp.if3 (h : C.c v = 29) (he : C.e v = -1) (hd : C.d v = (E : Int)) : Stp C A v r E r := .inl ⟨h, rfl, .inr (.inr ⟨by omega, by omega⟩)⟩
theorem Stp.els (h : C.c v = 34) (ho : C.o v = (x : Int)) (hd : C.d x = (E : Int)) : Stp C A v r (E + 1) r := .inr (.inl ⟨h, rfl, by rw [ho, Int.toNat_natCast, hd]; omega⟩)
theorem Stp.lp0 (h : C.c v = 30) (hd : C.d v = (E : Int)) : Stp C A v r (E + 1) r := .inr (.inr (.inl ⟨h, .inl ⟨rfl, by omega⟩⟩))
theorem Stp.lp1 (h : C.c v = 30) {k : Int} (h1 : ¬ k ≤ 0) (h2 : k ≤ A v) : Stp C A v r (v + 1) (upI r v k) := .inr (.inr (.inl ⟨h, .inr ⟨k, by omega, h2, rfl, rfl⟩⟩))
theorem Stp.en1 (h : C.c v = 35) (ho : C.o v = (x : Int)) (hx : C.c x = 30) (h1 : 0 < r x - 1) : Stp C A v r (x + 1) (upI r x (r x - 1)) := .inr (.inr (.inr (.inl ⟨h, by rw [ho]; exact hx, by rw [ho]; rfl, .inl ⟨by rw [ho, Int.toNat_natCast]; omega, by rw [ho]; rfl⟩⟩)))
theorem Stp.en2 (h : C.c v = 35) (ho : C.o v = (x : Int)) (hx : C.c x = 30) (h1 : ¬ 0 < r x - 1) : Stp C A v r (v + 1) (upI r x (r x - 1)) := .inr (.inr (.inr (.inl ⟨h, by rw [ho]; exact hx, by rw [ho]; rfl, .inr ⟨by rw [ho, Int.toNat_natCast]; omega, rfl⟩⟩)))
theorem Stp.en3 (h : C.c v = 35) (ho : C.o v = (x : Int)) (hx : C.c x ≠ 30) : Stp C A v r (v + 1) r := .inr (.inr (.inr (.inr (.inl ⟨h, by rw [ho]; exact hx, rfl, rfl⟩))))
theorem Stp.df (h1 : C.c v ≠ 29) (h2 : C.c v ≠ 34) (h3 : C.c v ≠ 30) (h4 : C.c v ≠ 35) : Stp C A v r (v + 1) r := .inr (.inr (.inr (.inr (.inr ⟨h1, h2, h3, h4, rfl, rfl⟩))))
theorem Stp.bd {v' : Nat} {r' : Nat → Int} {k : Int} (h : Stp C A v r v' r') (hA : C.c v = 30 → A v ≤ 50) (hk : 0 ≤ k) (hr : ∀ i, -k ≤ r i ∧ r i ≤ 50) : ∀ i, -(k + 1) ≤ r' i ∧ r' i ≤ 50 := by
  have same : ∀ i, -(k + 1) ≤ r i ∧ r i ≤ 50 := fun i => by have := hr i; omega
  have up : ∀ (j : Nat) (z : Int), -(k + 1) ≤ z ∧ z ≤ 50 → ∀ i, -(k + 1) ≤ upR r j z i ∧ upR r j z i ≤ 50 := fun j z hz i => by
    unfold upR; split
    · exact hz
    · exact same i
  rcases h with ⟨-, rfl, -⟩ | ⟨-, rfl, -⟩ | ⟨h, ⟨rfl, -⟩ | ⟨z, h1, h2, rfl, -⟩⟩ | ⟨-, -, rfl, -⟩ | ⟨-, -, rfl, -⟩ | ⟨-, -, -, -, rfl, -⟩
  · exact same
  · exact same
  · exact same
  · exact up _ _ ⟨by omega, by have := hA h; omega⟩
  · have := hr (C.o v).toNat
    exact up _ _ ⟨by omega, by omega⟩
  · exact same
  · exact same
end
section
open Ec
variable {c A B : Nat → Int} {n : Nat}
theorem at34o {i : Nat} (hc : chk c A B false n = 0) (hi : i < n) (h : c i = 34) : ∃ x E : Nat, x < n ∧ opO c A B n (i : Int) = (x : Int) ∧ maA c A B n (x : Int) = (i : Int) ∧ maE c A B n (x : Int) = (E : Int) ∧ E < n ∧ (cdOf c n).o i = (x : Int) ∧ (cdOf c n).d x = (E : Int) := by
  have Bb := chk_bal hc
  obtain ⟨si, hsi⟩ := shp_ex Bb (k := i) (by omega)
  obtain ⟨r, x, hl, he, ho, hx⟩ := else_at Bb hi h hsi
  have hxi : x < i := (inv_of i si hsi).lt x (by rw [hl]; simp)
  have hop : opn (c x) = true := opn_iff.2 (by omega)
  obtain ⟨h1, h2, h3⟩ := d_range Bb (show x < n by omega) hop
  obtain ⟨m1, m2⟩ := ma_of hc (show x < n by omega) hop
  obtain ⟨E, hE⟩ : ∃ E : Nat, (shD c n).d x = (E : Int) := ⟨((shD c n).d x).toNat, by omega⟩
  exact ⟨x, E, by omega, op_of hc hi ho, m1.trans he, m2.trans hE, by omega, ho, hE⟩
theorem at35o {i : Nat} (hc : chk c A B false n = 0) (hi : i < n) (h : c i = 35) : ∃ x : Nat, x < n ∧ opO c A B n (i : Int) = (x : Int) ∧ (cdOf c n).o i = (x : Int) := by
  have Bb := chk_bal hc
  obtain ⟨si, hsi⟩ := shp_ex Bb (k := i) (by omega)
  obtain ⟨r, x, s1, hl, -, -, hd, ho, -⟩ := end_at Bb hi h hsi
  have hxi : x < i := (inv_of i si hsi).lt x (by rw [hl]; simp)
  exact ⟨x, by omega, op_of hc hi ho, ho⟩
end
def nI (xs : List Nat) : List Int := xs.map fun a : Nat => (a : Int)
theorem nI_snoc (xs : List Nat) (a : Nat) : nI xs ++ [(a : Int)] = nI (xs ++ [a]) := by simp [nI]
theorem nI_len (xs : List Nat) : (nI xs).length = xs.length := by simp [nI]
theorem nI_get {xs : List Nat} (i : Nat) : (nI xs).getD i 0 = ((xs.getD i 0 : Nat) : Int) := by
  unfold nI
  rw [List.getD_eq_getElem?_getD, List.getD_eq_getElem?_getD, List.getElem?_map]
  cases xs[i]? <;> rfl
theorem iR_push1 (A : List Int) (v : Int) : iR A ++ [vI v] = iR (A ++ [v]) := by simp [iR]
theorem tmod_in {k n : Nat} (h : 0 < n) : ∃ j : Nat, ((k : Int)).tmod (n : Int) = (j : Int) ∧ j < n := by
  have h1 : ((k : Int)).tmod (n : Int) = (k : Int) % (n : Int) := Int.tmod_eq_emod_of_nonneg (by omega)
  exact ⟨k % n, by rw [h1]; rfl, Nat.mod_lt _ h⟩
theorem tmod_le {x a : Int} (h : 0 ≤ a) : x.tmod (a + 1) ≤ a := by
  have := Int.tmod_lt_of_pos x (show 0 < a + 1 by omega)
  omega
theorem try_any (p : Option Addr) (n cap : Nat) (c A0 B : Nat → Int) (v : Nat) (w : World) (hIn : Ec.InC w p n c A0 B) (hc : Ec.chk c A0 B false n = 0) (hv : v < n) :
  Calls Try.prog 55 #[.slice p n cap, vI (v : Int)] w fun e w' => e = .returned (.int .i64 (tryD (cdOf c n) v v)) ∧ Below w.heap.size w w' := by
 have hn9 := (Ec.chk_ok hc).1
 refine calls_of Try.func55 rfl (m := 32) rfl [(0, .slice p n cap), (1, vI (v : Int))] (Fr_enter [.slice p n cap, vI (v : Int)] 32 (Nat.le_of_ble_eq_true rfl)) ?_
 have hH1 : HP Tr w w [] := HP.refl w
 refine WC.seq fun K2 hK2 => WC.region (WL.z (vI 0) 4 (WL.k hK2 (WC.seq fun K3 hK3 => WC.seq fun K4 hK4 => WC.region (WL.z (vI (v : Int)) 9 (WL.y (vI ((v : Int) - 1)) 10 (x_sub (Z := (v : Int) - 1) rfl rfl rfl (by omega) (by omega) (by omega)) (WL.z (vI ((v : Int) - 1)) 5 ?_))))))
 refine WL.k hK4 (WC.block ?_)
 refine WC.loop (fun kk0 ll0 ww0 => ∃ (k : Nat), ll0 = [(0, .slice p n cap), (1, vI (v : Int)), (5, vI ((k : Int) - 1))] ∧ kk0 = k ∧ (k ≤ v) ∧ (tryD (cdOf c n) v k = tryD (cdOf c n) v v) ∧ HP Tr w ww0 []) (v) [(0, .slice p n cap), (1, vI (v : Int)), (5, vI ((v : Int) - 1))] ⟨rfl, rfl, rfl, trivial⟩ ⟨v, rfl, rfl, Nat.le_refl _, rfl, hH1⟩ ?_
 rintro kk l w6 ⟨k, rfl, hkk, hk, hk2, hH7⟩ K5 hK5
 refine WC.seq fun K8 hK8 => WC.seq fun K9 hK9 => WC.region (WL.z (vI ((k : Int) - 1)) 11 ?_)
 by_cases h12 : (0 : Int) ≤ (k : Int) - 1
 ·
  refine WL.y (.bool true) 12 (x_geq rfl rfl rfl (dT (h12))) (WL.k hK9 ?_)
  refine WC.yes rfl ?_
  refine WC.skip (WQ.then (hK8 _ _ _ (WC.seq fun K10 hK10 => WC.block (WC.seq fun K11 hK11 => WC.seq fun K12 hK12 => ?_))))
  obtain ⟨bb, oo, rfl, hrow⟩ := hIn (by omega)
  obtain ⟨j, rfl⟩ : ∃ j, k = j + 1 := ⟨k - 1, by omega⟩
  have ej : ((j + 1 : Nat) : Int) - 1 = (j : Int) := by omega
  rw [ej]
  refine WC.region (WL.z (.slice (some ⟨bb, oo, none⟩) n cap) 15 (WL.z (vI (j : Int)) 16 (WL.y (vP bb (oo + j * 3)) 17 (x_ix (j) (oo + j * 3) Try.underlying42 sz75) (WL.z (vP bb (oo + j * 3)) 18 (WL.y (vI (c j)) 19 (x_load rfl rfl Try.underlying3 rfl ((HP.oldRange hH7 trivial (hrow j (by omega))) 0 _ rfl)) ?_)))))
  by_cases h33 : c j ≠ 33
  ·
   refine WL.y (.bool true) 20 (x_neq rfl rfl rfl (dT (h33))) (WL.k hK12 (WC.sb [(0, .slice (some ⟨bb, oo, none⟩) n cap), (1, vI (v : Int)), (5, vI (j : Int)), (12, .bool true), (20, .bool true)] ?_))
   refine WC.yes rfl ?_
   refine WC.exit (WQ.thenExit (WQ.inExit (WQ.then (hK10 _ _ _ (WC.region (WL.z (vI (j : Int)) 13 (WL.y (vI ((j : Int) - 1)) 14 (x_sub (Z := (j : Int) - 1) rfl rfl rfl (by omega) (by omega) (by omega)) (WL.z (vI ((j : Int) - 1)) 5 (WL.nil (WQ.sb [(0, .slice (some ⟨bb, oo, none⟩) n cap), (1, vI (v : Int)), (5, vI ((j : Int) - 1))] ?_))))))))))
   refine WQ.then (hK5 _ _ _ (by omega) ⟨j, rfl, rfl, by omega, tryD_no hk2 (fun h => h33 h.1), hH7⟩)
  ·
   refine WL.y (.bool false) 20 (x_neq rfl rfl rfl (dF (h33))) (WL.k hK12 (WC.sb [(0, .slice (some ⟨bb, oo, none⟩) n cap), (1, vI (v : Int)), (5, vI (j : Int)), (12, .bool true), (20, .bool false)] ?_))
   refine WC.no rfl ?_
   refine WC.skip (WQ.then (hK11 _ _ _ (WC.seq fun K13 hK13 => ?_)))
   have h33 : c j = 33 := by omega
   obtain ⟨E, hiE, hEn, hme, hdE, hcase⟩ := at_op hc (show j < n by omega) (Ec.opn_iff.2 (show 29 ≤ c j ∧ c j ≤ 33 by omega))
   obtain ⟨a, hia, han, hm1, he⟩ : ∃ a : Nat, j < a ∧ a < n ∧ Ec.maA c A0 B n (j : Int) = (a : Int) ∧ (Ec.shD c n).e j = (a : Int) := by
    rcases hcase with ⟨hm1, he, h9⟩ | ⟨a, hia, han, hm1, he, h9⟩
    · omega
    · exact ⟨a, hia, han, hm1, he⟩
   refine WC.region (WL.z (.slice (some ⟨bb, oo, none⟩) n cap) 22 (WL.z (vI (j : Int)) 23 ?_))
   refine WL.c 56 #[.slice (some ⟨bb, oo, none⟩) n cap, vI (j : Int)] 24 ?_
   refine (rMatch_at hm1 hme _ (hIn.below (HP.below hH7)) (by omega) (by omega)).mono ?_
   rintro e w14 ⟨rfl, hb15⟩
   refine ⟨_, rfl, ?_⟩
   have hH16 := HP.call hH7 hb15
   refine WL.z (.tuple #[vI (a : Int), vI (E : Int), vI (Ec.maF c A0 B n (j : Int))]) 21 (WL.z (vI (a : Int)) 25 (WL.z (vI (E : Int)) 26 (WL.z (vI (Ec.maF c A0 B n (j : Int))) 27 (WL.z (vI (a : Int)) 6 (WL.z (vI (E : Int)) 7 (WL.z (vI (Ec.maF c A0 B n (j : Int))) 8 (WL.k hK13 (WC.sb [(0, .slice (some ⟨bb, oo, none⟩) n cap), (1, vI (v : Int)), (5, vI (j : Int)), (6, vI (a : Int)), (12, .bool true), (20, .bool false)] (WC.seq fun K17 hK17 => ?_)))))))))
   refine WC.region (WL.z (vI (v : Int)) 28 (WL.z (vI (a : Int)) 29 ?_))
   by_cases h30 : (v : Int) < (a : Int)
   ·
    refine WL.y (.bool true) 30 (x_lss rfl rfl rfl (dT (h30))) (WL.k hK17 ?_)
    refine WC.yes rfl ?_
    refine WC.seq fun K18 hK18 => WC.region (WL.z (vI (j : Int)) 31 (WL.z (vI (j : Int)) 4 (WL.k hK18 (WC.ret ?_))))
    refine WQ.inRet ?_
    refine WQ.thenRet ?_
    refine WQ.thenRet ?_
    refine WQ.inRet ?_
    refine WQ.thenRet ?_
    refine WQ.ret1 4 rfl rfl ?_
    exact ⟨by rw [← tryD_yes hk2 h33 (by rw [show (cdOf c n).e j = (a : Int) from he]; exact h30)], HP.below hH16⟩
   ·
    refine WL.y (.bool false) 30 (x_lss rfl rfl rfl (dF (h30))) (WL.k hK17 ?_)
    refine WC.no rfl ?_
    refine WC.skip (WQ.inNormal (WQ.then (hK10 _ _ _ (WC.region (WL.z (vI (j : Int)) 13 (WL.y (vI ((j : Int) - 1)) 14 (x_sub (Z := (j : Int) - 1) rfl rfl rfl (by omega) (by omega) (by omega)) (WL.z (vI ((j : Int) - 1)) 5 (WL.nil (WQ.sb [(0, .slice (some ⟨bb, oo, none⟩) n cap), (1, vI (v : Int)), (5, vI ((j : Int) - 1))] ?_)))))))))
    refine WQ.then (hK5 _ _ _ (by omega) ⟨j, rfl, rfl, by omega, tryD_no hk2 (fun h => h30 (by have q := h.2; rw [show (cdOf c n).e j = (a : Int) from he] at q; exact q)), hH16⟩)
 ·
  refine WL.y (.bool false) 12 (x_geq rfl rfl rfl (dF (h12))) (WL.k hK9 ?_)
  refine WC.no rfl ?_
  refine WC.exit (WQ.thenExit (WQ.thenExit (WQ.inExit (WQ.then (hK3 _ _ _ (WC.seq fun K19 hK19 => WC.region (WL.z (vI (-1)) 4 (WL.k hK19 ?_))))))))
  refine WC.ret ?_
  refine WQ.ret1 4 rfl rfl ?_
  exact ⟨by rw [← hk2, show k = 0 by omega]; rfl, HP.below hH7⟩
theorem next_any (p : Option Addr) (n cap : Nat) (c A0 B : Nat → Int) (v : Nat) (x : Int) (g : Nat) (r : Nat → Int) (pl : Option Addr) (cl : Nat) (zs : List Int) (w0 w : World) (hIn : Ec.InC w0 p n c A0 B) (hc : Ec.chk c A0 B false n = 0) (hv : v < n) (hr : ∀ i, -1000 ≤ r i ∧ r i ≤ 1000) (hH : HP Tr w0 w [rowI' pl cl zs, .cel g (irow n r) 3]) :
  Calls Try.prog 57 #[.slice p n cap, vI (v : Int), vI x, vS g n n] w fun e w' => ∃ (v' : Nat) (r' : Nat → Int), e = .returned (.int .i64 (v' : Int)) ∧ Stp (cdOf c n) A0 v r v' r' ∧ HP Tr w0 w' [rowI' pl cl zs, .cel g (irow n r') 3] := by
 have hn9 := (Ec.chk_ok hc).1
 refine calls_of Try.func57 rfl (m := 118) rfl [(0, .slice p n cap), (1, vI (v : Int)), (2, vI x), (3, vS g n n)] (Fr_enter [.slice p n cap, vI (v : Int), vI x, vS g n n] 118 (Nat.le_of_ble_eq_true rfl)) ?_
 refine WC.seq fun K1 hK1 => WC.region (WL.z (vI 0) 8 (WL.k hK1 (WC.seq fun K2 hK2 => WC.seq fun K3 hK3 => ?_)))
 obtain ⟨bb, oo, rfl, hrow⟩ := hIn (by omega)
 refine WC.region (WL.z (.slice (some ⟨bb, oo, none⟩) n cap) 23 (WL.z (vI (v : Int)) 24 (WL.y (vP bb (oo + v * 3)) 25 (x_ix (v) (oo + v * 3) Try.underlying42 sz75) (WL.z (vP bb (oo + v * 3)) 26 (WL.y (vI (c v)) 27 (x_load rfl rfl Try.underlying3 rfl ((HP.oldRange hH trivial (hrow v (by omega))) 0 _ rfl)) (WL.k hK3 (WC.block (WC.seq fun K4 hK4 => WC.region ?_))))))))
 by_cases h29 : c v = 29
 ·
  obtain ⟨E, hiE, hEn, hme, hdE, hcase⟩ := at_op hc (show v < n by omega) (Ec.opn_iff.2 (show 29 ≤ c v ∧ c v ≤ 33 by omega))
  refine WL.y (.bool true) 29 (x_eql rfl rfl rfl (dT (h29))) (WL.z (.bool true) 28 (WL.k hK4 ?_))
  refine WC.yes rfl ?_
  refine WC.seq fun K5 hK5 => ?_
  rcases hcase with ⟨hm1, he, h9⟩ | ⟨a, hia, han, hm1, he, h9⟩
  ·
   refine WC.region (WL.z (.slice (some ⟨bb, oo, none⟩) n cap) 31 (WL.z (vI (v : Int)) 32 ?_))
   refine WL.c 56 #[.slice (some ⟨bb, oo, none⟩) n cap, vI (v : Int)] 33 ?_
   refine (rMatch_at hm1 hme _ (hIn.below (HP.below hH)) (by omega) (by omega)).mono ?_
   rintro e w6 ⟨rfl, hb7⟩
   refine ⟨_, rfl, ?_⟩
   have hH8 : HP Tr w0 _ [rowI' pl cl zs, .cel g (irow n r) 3] := HP.call hH hb7
   refine WL.z (.tuple #[vI (-1), vI (E : Int), vI (Ec.maF c A0 B n (v : Int))]) 30 (WL.z (vI (-1)) 34 (WL.z (vI (E : Int)) 35 (WL.z (vI (Ec.maF c A0 B n (v : Int))) 36 (WL.z (vI (-1)) 9 (WL.z (vI (E : Int)) 10 (WL.z (vI (Ec.maF c A0 B n (v : Int))) 11 (WL.k hK5 (WC.sb [(0, .slice (some ⟨bb, oo, none⟩) n cap), (1, vI (v : Int)), (2, vI x), (3, vS g n n), (8, vI 0), (9, vI (-1)), (10, vI (E : Int)), (27, vI (c v)), (28, .bool true)] (WC.seq fun K9 hK9 => ?_)))))))))
   refine WC.seq fun K10 hK10 => WC.region (WL.z (vI x) 37 (WL.y (vI (x.tmod 2)) 38 (x_rem rfl rfl rfl (by decide) rfl) ?_))
   by_cases h39 : x.tmod 2 ≠ 0
   ·
    refine WL.y (.bool true) 39 (x_neq rfl rfl rfl (dT (h39))) (WL.k hK10 ?_)
    refine WC.yes rfl ?_
    refine WC.seq fun K11 hK11 => WC.region (WL.z (vI (v : Int)) 40 (WL.y (vI ((v + 1 : Nat) : Int)) 41 (x_ad (((v + 1 : Nat) : Int))) (WL.z (vI ((v + 1 : Nat) : Int)) 8 (WL.k hK11 (WC.ret ?_)))))
    refine WQ.thenRet ?_
    refine WQ.inRet ?_
    refine WQ.thenRet ?_
    refine WQ.ret1 8 rfl rfl ?_
    exact ⟨v + 1, r, rfl, Stp.if1 h29, hH8⟩
   ·
    refine WL.y (.bool false) 39 (x_neq rfl rfl rfl (dF (h39))) (WL.k hK10 ?_)
    refine WC.no rfl ?_
    refine WC.skip (WQ.then (hK9 _ _ _ (WC.seq fun K12 hK12 => WC.seq fun K13 hK13 => WC.region (WL.z (vI (-1)) 42 (WL.y (.bool false) 43 (x_geq rfl rfl rfl (by decide)) (WL.k hK13 ?_))))))
    refine WC.no rfl ?_
    refine WC.skip (WQ.then (hK12 _ _ _ (WC.seq fun K14 hK14 => WC.region (WL.z (vI (E : Int)) 46 (WL.z (vI (E : Int)) 8 (WL.k hK14 (WC.ret ?_)))))))
    refine WQ.inRet ?_
    refine WQ.thenRet ?_
    refine WQ.ret1 8 rfl rfl ?_
    exact ⟨E, r, rfl, Stp.if3 h29 he hdE, hH8⟩
  ·
   refine WC.region (WL.z (.slice (some ⟨bb, oo, none⟩) n cap) 31 (WL.z (vI (v : Int)) 32 ?_))
   refine WL.c 56 #[.slice (some ⟨bb, oo, none⟩) n cap, vI (v : Int)] 33 ?_
   refine (rMatch_at hm1 hme _ (hIn.below (HP.below hH)) (by omega) (by omega)).mono ?_
   rintro e w15 ⟨rfl, hb16⟩
   refine ⟨_, rfl, ?_⟩
   have hH17 : HP Tr w0 _ [rowI' pl cl zs, .cel g (irow n r) 3] := HP.call hH hb16
   refine WL.z (.tuple #[vI (a : Int), vI (E : Int), vI (Ec.maF c A0 B n (v : Int))]) 30 (WL.z (vI (a : Int)) 34 (WL.z (vI (E : Int)) 35 (WL.z (vI (Ec.maF c A0 B n (v : Int))) 36 (WL.z (vI (a : Int)) 9 (WL.z (vI (E : Int)) 10 (WL.z (vI (Ec.maF c A0 B n (v : Int))) 11 (WL.k hK5 (WC.sb [(0, .slice (some ⟨bb, oo, none⟩) n cap), (1, vI (v : Int)), (2, vI x), (3, vS g n n), (8, vI 0), (9, vI (a : Int)), (10, vI (E : Int)), (27, vI (c v)), (28, .bool true)] (WC.seq fun K18 hK18 => ?_)))))))))
   refine WC.seq fun K19 hK19 => WC.region (WL.z (vI x) 37 (WL.y (vI (x.tmod 2)) 38 (x_rem rfl rfl rfl (by decide) rfl) ?_))
   by_cases h39 : x.tmod 2 ≠ 0
   ·
    refine WL.y (.bool true) 39 (x_neq rfl rfl rfl (dT (h39))) (WL.k hK19 ?_)
    refine WC.yes rfl ?_
    refine WC.seq fun K20 hK20 => WC.region (WL.z (vI (v : Int)) 40 (WL.y (vI ((v + 1 : Nat) : Int)) 41 (x_ad (((v + 1 : Nat) : Int))) (WL.z (vI ((v + 1 : Nat) : Int)) 8 (WL.k hK20 (WC.ret ?_)))))
    refine WQ.thenRet ?_
    refine WQ.inRet ?_
    refine WQ.thenRet ?_
    refine WQ.ret1 8 rfl rfl ?_
    exact ⟨v + 1, r, rfl, Stp.if1 h29, hH17⟩
   ·
    refine WL.y (.bool false) 39 (x_neq rfl rfl rfl (dF (h39))) (WL.k hK19 ?_)
    refine WC.no rfl ?_
    refine WC.skip (WQ.then (hK18 _ _ _ (WC.seq fun K21 hK21 => WC.seq fun K22 hK22 => WC.region (WL.z (vI (a : Int)) 42 (WL.y (.bool true) 43 (x_geq rfl rfl rfl (dT (by omega))) (WL.k hK22 ?_))))))
    refine WC.yes rfl ?_
    refine WC.seq fun K23 hK23 => WC.region (WL.z (vI (a : Int)) 44 (WL.y (vI ((a + 1 : Nat) : Int)) 45 (x_ad (((a + 1 : Nat) : Int))) (WL.z (vI ((a + 1 : Nat) : Int)) 8 (WL.k hK23 (WC.sb [(0, .slice (some ⟨bb, oo, none⟩) n cap), (1, vI (v : Int)), (2, vI x), (3, vS g n n), (8, vI ((a + 1 : Nat) : Int)), (9, vI (a : Int)), (10, vI (E : Int)), (27, vI (c v)), (28, .bool true), (39, .bool false), (43, .bool true)] (WC.ret ?_))))))
    refine WQ.thenRet ?_
    refine WQ.inRet ?_
    refine WQ.thenRet ?_
    refine WQ.ret1 8 rfl rfl ?_
    exact ⟨a + 1, r, rfl, Stp.if2 h29 he, hH17⟩
 ·
  refine WL.y (.bool false) 29 (x_eql rfl rfl rfl (dF (h29))) (WL.z (.bool false) 28 (WL.k hK4 ?_))
  refine WC.no rfl ?_
  refine WC.seq fun K24 hK24 => WC.region ?_
  by_cases h34 : c v = 34
  ·
   obtain ⟨x0, E, hx0, hox, hmx, hme, hEn, hov, hdx⟩ := at34o hc hv h34
   refine WL.y (.bool true) 48 (x_eql rfl rfl rfl (dT (h34))) (WL.z (.bool true) 47 (WL.k hK24 (WC.sb [(0, .slice (some ⟨bb, oo, none⟩) n cap), (1, vI (v : Int)), (2, vI x), (3, vS g n n), (8, vI 0), (27, vI (c v)), (28, .bool false), (47, .bool true)] ?_)))
   refine WC.yes rfl ?_
   refine WC.seq fun K25 hK25 => WC.region (WL.z (.slice (some ⟨bb, oo, none⟩) n cap) 50 (WL.z (vI (v : Int)) 51 ?_))
   refine WL.c 81 #[.slice (some ⟨bb, oo, none⟩) n cap, vI (v : Int)] 52 ?_
   refine (rOpener_at hox _ (hIn.below (HP.below hH)) (by omega) (by omega)).mono ?_
   rintro e w26 ⟨rfl, hb27⟩
   refine ⟨_, rfl, ?_⟩
   have hH28 : HP Tr w0 _ [rowI' pl cl zs, .cel g (irow n r) 3] := HP.call hH hb27
   refine WL.z (.tuple #[vI (x0 : Int), vI (Ec.opF c A0 B n (v : Int))]) 49 (WL.z (vI (x0 : Int)) 53 (WL.z (vI (Ec.opF c A0 B n (v : Int))) 54 (WL.z (vI (x0 : Int)) 12 (WL.z (vI (Ec.opF c A0 B n (v : Int))) 13 (WL.k hK25 (WC.sb [(0, .slice (some ⟨bb, oo, none⟩) n cap), (1, vI (v : Int)), (2, vI x), (3, vS g n n), (8, vI 0), (12, vI (x0 : Int)), (27, vI (c v)), (28, .bool false), (47, .bool true)] (WC.seq fun K29 hK29 => WC.region (WL.z (.slice (some ⟨bb, oo, none⟩) n cap) 56 ?_))))))))
   refine WL.z (vI (x0 : Int)) 57 ?_
   refine WL.c 56 #[.slice (some ⟨bb, oo, none⟩) n cap, vI (x0 : Int)] 58 ?_
   refine (rMatch_at hmx hme _ (hIn.below (HP.below hH28)) (by omega) (by omega)).mono ?_
   rintro e w30 ⟨rfl, hb31⟩
   refine ⟨_, rfl, ?_⟩
   have hH32 := HP.call hH28 hb31
   refine WL.z (.tuple #[vI (v : Int), vI (E : Int), vI (Ec.maF c A0 B n (x0 : Int))]) 55 (WL.z (vI (v : Int)) 59 (WL.z (vI (E : Int)) 60 (WL.z (vI (Ec.maF c A0 B n (x0 : Int))) 61 (WL.z (vI (v : Int)) 14 (WL.z (vI (E : Int)) 15 (WL.z (vI (Ec.maF c A0 B n (x0 : Int))) 16 (WL.k hK29 (WC.sb [(0, .slice (some ⟨bb, oo, none⟩) n cap), (1, vI (v : Int)), (2, vI x), (3, vS g n n), (8, vI 0), (12, vI (x0 : Int)), (15, vI (E : Int)), (27, vI (c v)), (28, .bool false), (47, .bool true)] (WC.seq fun K33 hK33 => ?_)))))))))
   refine WC.region (WL.z (vI (E : Int)) 62 (WL.y (vI ((E + 1 : Nat) : Int)) 63 (x_ad (((E + 1 : Nat) : Int))) (WL.z (vI ((E + 1 : Nat) : Int)) 8 (WL.k hK33 (WC.ret ?_)))))
   refine WQ.inRet ?_
   refine WQ.thenRet ?_
   refine WQ.ret1 8 rfl rfl ?_
   exact ⟨E + 1, r, rfl, Stp.els h34 hov hdx, hH32⟩
  ·
   refine WL.y (.bool false) 48 (x_eql rfl rfl rfl (dF (h34))) (WL.z (.bool false) 47 (WL.k hK24 (WC.sb [(0, .slice (some ⟨bb, oo, none⟩) n cap), (1, vI (v : Int)), (2, vI x), (3, vS g n n), (8, vI 0), (27, vI (c v)), (28, .bool false), (47, .bool false)] ?_)))
   refine WC.no rfl ?_
   refine WC.seq fun K34 hK34 => WC.region ?_
   by_cases h30 : c v = 30
   ·
    obtain ⟨E, hiE, hEn, hme, hdE, hcase⟩ := at_op hc (show v < n by omega) (Ec.opn_iff.2 (show 29 ≤ c v ∧ c v ≤ 33 by omega))
    refine WL.y (.bool true) 65 (x_eql rfl rfl rfl (dT (h30))) (WL.z (.bool true) 64 (WL.k hK34 ?_))
    refine WC.yes rfl ?_
    refine WC.seq fun K35 hK35 => ?_
    obtain ⟨hm1, he⟩ : Ec.maA c A0 B n (v : Int) = -1 ∧ (Ec.shD c n).e v = -1 := by
     rcases hcase with ⟨hm1, he, h9⟩ | ⟨a, hia, han, hm1, he, h9⟩
     · exact ⟨hm1, he⟩
     · omega
    refine WC.region (WL.z (.slice (some ⟨bb, oo, none⟩) n cap) 67 (WL.z (vI (v : Int)) 68 ?_))
    refine WL.c 56 #[.slice (some ⟨bb, oo, none⟩) n cap, vI (v : Int)] 69 ?_
    refine (rMatch_at hm1 hme _ (hIn.below (HP.below hH)) (by omega) (by omega)).mono ?_
    rintro e w36 ⟨rfl, hb37⟩
    refine ⟨_, rfl, ?_⟩
    have hH38 : HP Tr w0 _ [rowI' pl cl zs, .cel g (irow n r) 3] := HP.call hH hb37
    refine WL.z (.tuple #[vI (-1), vI (E : Int), vI (Ec.maF c A0 B n (v : Int))]) 66 (WL.z (vI (-1)) 70 (WL.z (vI (E : Int)) 71 (WL.z (vI (Ec.maF c A0 B n (v : Int))) 72 (WL.z (vI (-1)) 17 (WL.z (vI (E : Int)) 18 (WL.z (vI (Ec.maF c A0 B n (v : Int))) 19 (WL.k hK35 (WC.sb [(0, .slice (some ⟨bb, oo, none⟩) n cap), (1, vI (v : Int)), (2, vI x), (3, vS g n n), (8, vI 0), (18, vI (E : Int)), (27, vI (c v)), (28, .bool false), (47, .bool false), (64, .bool true)] (WC.seq fun K39 hK39 => ?_)))))))))
    have hAv := loop_of hc v hv h30
    refine WC.region (WL.z (vI x) 73 (WL.z (.slice (some ⟨bb, oo, none⟩) n cap) 74 (WL.z (vI (v : Int)) 75 (WL.y (vP bb (oo + v * 3)) 76 (x_ix (v) (oo + v * 3) Try.underlying42 sz75) (WL.z (vP bb (oo + v * 3 + 1)) 77 (WL.y (vI (A0 v)) 78 (x_load rfl rfl Try.underlying3 rfl ((HP.oldRange hH38 trivial (hrow v (by omega))) 1 _ rfl)) (WL.y (vI ((A0 v) + 1)) 79 (x_ad ((A0 v) + 1)) ?_)))))))
    have hAv := loop_of hc v hv h30
    have hkm := tmod_le (x := x) hAv.1
    generalize hk : x.tmod (A0 v + 1) = k at hkm
    refine WL.y (vI k) 80 (x_rem rfl rfl rfl (by omega) hk) (WL.z (vI k) 20 (WL.k hK39 (WC.sb [(0, .slice (some ⟨bb, oo, none⟩) n cap), (1, vI (v : Int)), (2, vI x), (3, vS g n n), (8, vI 0), (18, vI (E : Int)), (20, vI k), (27, vI (c v)), (28, .bool false), (47, .bool false), (64, .bool true)] (WC.seq fun K40 hK40 => WC.seq fun K41 hK41 => WC.region (WL.z (vI k) 81 ?_)))))
    by_cases h82 : k ≤ 0
    ·
     refine WL.y (.bool true) 82 (x_leq rfl rfl rfl (dT (h82))) (WL.k hK41 ?_)
     refine WC.yes rfl ?_
     refine WC.seq fun K42 hK42 => WC.region (WL.z (vI (E : Int)) 83 (WL.y (vI ((E + 1 : Nat) : Int)) 84 (x_ad (((E + 1 : Nat) : Int))) (WL.z (vI ((E + 1 : Nat) : Int)) 8 (WL.k hK42 (WC.ret ?_)))))
     refine WQ.thenRet ?_
     refine WQ.inRet ?_
     refine WQ.thenRet ?_
     refine WQ.ret1 8 rfl rfl ?_
     exact ⟨E + 1, r, rfl, Stp.lp0 h30 hdE, hH38⟩
    ·
     refine WL.y (.bool false) 82 (x_leq rfl rfl rfl (dF (h82))) (WL.k hK41 ?_)
     refine WC.no rfl ?_
     refine WC.skip (WQ.then (hK40 _ _ _ (WC.region (WL.z (vS g n n) 85 (WL.z (vI (v : Int)) 86 (WL.z (vI k) 87 (WL.y (vP g v) 88 (x_ix (v) (v) Try.underlying33 sz3) ?_)))))))
     refine WL.store (H2 := [rowI' pl cl zs, .cel g (irow n (upI r v k)) 3]) 1 hH38 rfl rfl rfl rfl rfl rfl sz3 rfl (by simp [size_irow]; omega) (irow_set _ _ _ _) rfl ?_
     intro w43 hH44
     refine WL.nil (WQ.inNormal (WQ.then (hK2 _ _ _ (WC.seq fun K45 hK45 => WC.region (WL.z (vI (v : Int)) 116 (WL.y (vI ((v + 1 : Nat) : Int)) 117 (x_ad (((v + 1 : Nat) : Int))) (WL.z (vI ((v + 1 : Nat) : Int)) 8 (WL.k hK45 ?_))))))))
     refine WC.sb [(0, .slice (some ⟨bb, oo, none⟩) n cap), (1, vI (v : Int)), (2, vI x), (3, vS g n n), (8, vI ((v + 1 : Nat) : Int)), (18, vI (E : Int)), (20, vI k), (27, vI (c v)), (28, .bool false), (47, .bool false), (64, .bool true), (82, .bool false)] (WC.ret ?_)
     refine WQ.ret1 8 rfl rfl ?_
     exact ⟨v + 1, upI r v k, rfl, Stp.lp1 h30 h82 hkm, hH44⟩
   ·
    refine WL.y (.bool false) 65 (x_eql rfl rfl rfl (dF (h30))) (WL.z (.bool false) 64 (WL.k hK34 ?_))
    refine WC.no rfl ?_
    refine WC.seq fun K46 hK46 => WC.region ?_
    by_cases h35 : c v = 35
    ·
     obtain ⟨x0, hx0, hox, hov⟩ := at35o hc hv h35
     refine WL.y (.bool true) 90 (x_eql rfl rfl rfl (dT (h35))) (WL.z (.bool true) 89 (WL.k hK46 ?_))
     refine WC.yes rfl ?_
     refine WC.seq fun K47 hK47 => WC.region (WL.z (.slice (some ⟨bb, oo, none⟩) n cap) 92 (WL.z (vI (v : Int)) 93 ?_))
     refine WL.c 81 #[.slice (some ⟨bb, oo, none⟩) n cap, vI (v : Int)] 94 ?_
     refine (rOpener_at hox _ (hIn.below (HP.below hH)) (by omega) (by omega)).mono ?_
     rintro e w48 ⟨rfl, hb49⟩
     refine ⟨_, rfl, ?_⟩
     have hH50 : HP Tr w0 _ [rowI' pl cl zs, .cel g (irow n r) 3] := HP.call hH hb49
     refine WL.z (.tuple #[vI (x0 : Int), vI (Ec.opF c A0 B n (v : Int))]) 91 (WL.z (vI (x0 : Int)) 95 (WL.z (vI (Ec.opF c A0 B n (v : Int))) 96 (WL.z (vI (x0 : Int)) 21 (WL.z (vI (Ec.opF c A0 B n (v : Int))) 22 (WL.k hK47 (WC.sb [(0, .slice (some ⟨bb, oo, none⟩) n cap), (1, vI (v : Int)), (2, vI x), (3, vS g n n), (8, vI 0), (21, vI (x0 : Int)), (27, vI (c v)), (28, .bool false), (47, .bool false), (64, .bool false), (89, .bool true)] (WC.seq fun K51 hK51 => WC.region (WL.z (.slice (some ⟨bb, oo, none⟩) n cap) 97 ?_))))))))
     refine WL.z (vI (x0 : Int)) 98 (WL.y (vP bb (oo + x0 * 3)) 99 (x_ix (x0) (oo + x0 * 3) Try.underlying42 sz75) (WL.z (vP bb (oo + x0 * 3)) 100 (WL.y (vI (c x0)) 101 (x_load rfl rfl Try.underlying3 rfl ((HP.oldRange hH50 trivial (hrow x0 (by omega))) 0 _ rfl)) ?_)))
     by_cases h102 : c x0 = 30
     ·
      refine WL.y (.bool true) 102 (x_eql rfl rfl rfl (dT (h102))) (WL.k hK51 ?_)
      refine WC.yes rfl ?_
      refine WC.seq fun K52 hK52 => WC.region (WL.z (vS g n n) 103 (WL.z (vI (x0 : Int)) 104 (WL.y (vP g x0) 105 (x_ix (x0) (x0) Try.underlying33 sz3) (WL.y (vI (r x0)) 106 (x_load rfl rfl Try.underlying3 rfl (HP.cell hH50 1 rfl (irow_get (by omega) rfl))) (WL.y (vI (r x0 - 1)) 107 (x_sub (Z := r x0 - 1) rfl rfl rfl (rfl) (by have := hr x0; omega) (by have := hr x0; omega)) (WL.y (vP g x0) 108 (x_ix (x0) (x0) Try.underlying33 sz3) ?_))))))
      refine WL.store (H2 := [rowI' pl cl zs, .cel g (irow n (upI r x0 (r x0 - 1))) 3]) 1 hH50 rfl rfl rfl rfl rfl rfl sz3 rfl (by simp [size_irow]; omega) (irow_set _ _ _ _) rfl ?_
      intro w53 hH54
      refine WL.k hK52 (WC.sb [(0, .slice (some ⟨bb, oo, none⟩) n cap), (1, vI (v : Int)), (2, vI x), (3, vS g n n), (8, vI 0), (21, vI (x0 : Int)), (27, vI (c v)), (28, .bool false), (47, .bool false), (64, .bool false), (89, .bool true), (102, .bool true)] (WC.seq fun K55 hK55 => WC.region (WL.z (vS g n n) 109 (WL.z (vI (x0 : Int)) 110 (WL.y (vP g x0) 111 (x_ix (x0) (x0) Try.underlying33 sz3) (WL.y (vI (r x0 - 1)) 112 (x_load rfl rfl Try.underlying3 rfl (HP.cell hH54 1 rfl (irow_get (by omega) (if_pos rfl)))) ?_))))))
      by_cases h113 : (0 : Int) < r x0 - 1
      ·
       refine WL.y (.bool true) 113 (x_gtr rfl rfl rfl (dT (h113))) (WL.k hK55 ?_)
       refine WC.yes rfl ?_
       refine WC.seq fun K56 hK56 => WC.region (WL.z (vI (x0 : Int)) 114 (WL.y (vI ((x0 + 1 : Nat) : Int)) 115 (x_ad (((x0 + 1 : Nat) : Int))) (WL.z (vI ((x0 + 1 : Nat) : Int)) 8 (WL.k hK56 (WC.sb [(0, .slice (some ⟨bb, oo, none⟩) n cap), (1, vI (v : Int)), (2, vI x), (3, vS g n n), (8, vI ((x0 + 1 : Nat) : Int)), (21, vI (x0 : Int)), (27, vI (c v)), (28, .bool false), (47, .bool false), (64, .bool false), (89, .bool true), (102, .bool true), (113, .bool true)] (WC.ret ?_))))))
       refine WQ.inRet ?_
       refine WQ.thenRet ?_
       refine WQ.ret1 8 rfl rfl ?_
       exact ⟨x0 + 1, upI r x0 (r x0 - 1), rfl, Stp.en1 h35 hov h102 h113, hH54⟩
      ·
       refine WL.y (.bool false) 113 (x_gtr rfl rfl rfl (dF (h113))) (WL.k hK55 ?_)
       refine WC.no rfl ?_
       refine WC.skip (WQ.inNormal (WQ.then (hK2 _ _ _ (WC.seq fun K57 hK57 => WC.region (WL.z (vI (v : Int)) 116 (WL.y (vI ((v + 1 : Nat) : Int)) 117 (x_ad (((v + 1 : Nat) : Int))) (WL.z (vI ((v + 1 : Nat) : Int)) 8 (WL.k hK57 ?_))))))))
       refine WC.sb [(0, .slice (some ⟨bb, oo, none⟩) n cap), (1, vI (v : Int)), (2, vI x), (3, vS g n n), (8, vI ((v + 1 : Nat) : Int)), (21, vI (x0 : Int)), (27, vI (c v)), (28, .bool false), (47, .bool false), (64, .bool false), (89, .bool true), (102, .bool true), (113, .bool false)] (WC.ret ?_)
       refine WQ.ret1 8 rfl rfl ?_
       exact ⟨v + 1, upI r x0 (r x0 - 1), rfl, Stp.en2 h35 hov h102 h113, hH54⟩
     ·
      refine WL.y (.bool false) 102 (x_eql rfl rfl rfl (dF (h102))) (WL.k hK51 ?_)
      refine WC.no rfl ?_
      refine WC.skip (WQ.inNormal (WQ.then (hK2 _ _ _ (WC.seq fun K58 hK58 => WC.region (WL.z (vI (v : Int)) 116 (WL.y (vI ((v + 1 : Nat) : Int)) 117 (x_ad (((v + 1 : Nat) : Int))) (WL.z (vI ((v + 1 : Nat) : Int)) 8 (WL.k hK58 ?_))))))))
      refine WC.sb [(0, .slice (some ⟨bb, oo, none⟩) n cap), (1, vI (v : Int)), (2, vI x), (3, vS g n n), (8, vI ((v + 1 : Nat) : Int)), (21, vI (x0 : Int)), (27, vI (c v)), (28, .bool false), (47, .bool false), (64, .bool false), (89, .bool true), (102, .bool false)] (WC.ret ?_)
      refine WQ.ret1 8 rfl rfl ?_
      exact ⟨v + 1, r, rfl, Stp.en3 h35 hov h102, hH50⟩
    ·
     refine WL.y (.bool false) 90 (x_eql rfl rfl rfl (dF (h35))) (WL.z (.bool false) 89 (WL.k hK46 ?_))
     refine WC.no rfl ?_
     refine WC.skip (WQ.inNormal (WQ.then (hK2 _ _ _ (WC.seq fun K59 hK59 => WC.region (WL.z (vI (v : Int)) 116 (WL.y (vI ((v + 1 : Nat) : Int)) 117 (x_ad (((v + 1 : Nat) : Int))) (WL.z (vI ((v + 1 : Nat) : Int)) 8 (WL.k hK59 ?_))))))))
     refine WC.ret ?_
     refine WQ.ret1 8 rfl rfl ?_
     exact ⟨v + 1, r, rfl, Stp.df h29 h34 h30 h35, hH⟩
theorem walk_any (p : Option Addr) (n cap : Nat) (c A0 B : Nat → Int) (pk : Option Addr) (ck : Nat) (zs : List Int) (w : World) (hIn : Ec.InC w p n c A0 B) (hc : Ec.chk c A0 B false n = 0) (hK : InI w pk zs) :
  Calls Try.prog 29 #[.slice p n cap, .slice pk zs.length ck] w fun e w' => ∃ pl cl xs v r, e = .returned (.slice pl (nI xs).length cl) ∧ HP Tr w w' [rowI' pl cl (nI xs)] ∧ Wk (cdOf c n) A0 n xs v r ∧ xs.length ≤ 900 := by
 have hn9 := (Ec.chk_ok hc).1
 refine calls_of Try.func29 rfl (m := 65) rfl [(0, .slice p n cap), (1, .slice pk zs.length ck)] (Fr_enter [.slice p n cap, .slice pk zs.length ck] 65 (Nat.le_of_ble_eq_true rfl)) ?_
 have hH1 : HP Tr w w [] := HP.refl w
 refine WC.seq fun K2 hK2 => WC.region (WL.z (.slice none 0 0) 4 (WL.k hK2 (WC.seq fun K3 hK3 => WC.region (WL.z (.slice none 0 0) 5 (WL.k hK3 ?_)))))
 refine WC.seq fun K4 hK4 => WC.region (WL.z (.slice p n cap) 13 (WL.z (vI (n : Int)) 14 ?_))
 refine WL.alloc (c := irow n (fun _ => 0)) (T := 3) hH1 15 rfl (by decide) rfl rfl (fun g => vS g n n) (x_makeR rfl rfl rfl (Ec.makeI2 n (by omega) _)) (fun g w9 hw9 => ?_)
 have hH5 : HP Tr w w9 [.cel g (irow n (fun _ => 0)) 3] := hw9.2
 clear hw9
 refine WL.z (vS g n n) 6 (WL.k hK4 (WC.seq fun K6 hK6 => WC.region (WL.z (vI 0) 7 (WL.k hK6 (WC.seq fun K7 hK7 => WC.block ?_)))))
 refine WC.loop (fun kk0 ll0 ww0 => ∃ (v : Nat) (ws : List Int) (xs : List Nat) (pl : Option Addr) (cl : Nat) (r : Nat → Int), ll0 = [(0, .slice p n cap), (1, .slice pk zs.length ck), (5, .slice pl ws.length cl), (6, vS g n n), (7, vI (v : Int))] ∧ kk0 = 900 - xs.length ∧ (Wk (cdOf c n) A0 n xs v r) ∧ (ws = nI xs) ∧ (∀ i, -(xs.length : Int) ≤ r i ∧ r i ≤ 50) ∧ (xs.length ≤ 900) ∧ HP Tr w ww0 [rowI' pl cl ws, .cel g (irow n r) 3]) (900) [(0, .slice p n cap), (1, .slice pk zs.length ck), (5, .slice none 0 0), (6, vS g n n), (7, vI 0)] ⟨rfl, rfl, rfl, rfl, rfl, trivial⟩ ⟨0, [], [], none, 0, (fun _ => 0), rfl, rfl, .nil _, rfl, (fun _ => ⟨by simp, by simp⟩), Nat.zero_le _, (HP.perm (HP.ownNil hH5 3 1) (List.Perm.swap _ _ _))⟩ ?_
 rintro kk l w9 ⟨v, ws, xs, pl, cl, r, rfl, hkk, hw, hws, hrb, hl9, hH10⟩ K8 hK8
 refine WC.seq fun K11 hK11 => WC.seq fun K12 hK12 => WC.region (WL.z (vI (v : Int)) 16 (WL.z (.slice p n cap) 17 (WL.z (vI (n : Int)) 18 ?_)))
 by_cases h19 : (v : Int) < (n : Int)
 ·
  have hlt : v < n := by omega
  refine WL.y (.bool true) 19 (x_lss rfl rfl rfl (dT (h19))) (WL.z (.bool true) 20 (WL.z (.slice pl ws.length cl) 21 (WL.z (vI (ws.length : Int)) 22 ?_)))
  by_cases hl2 : (ws.length : Int) < 900
  ·
   refine WL.y (.bool true) 23 (x_lss rfl rfl rfl (dT (hl2))) (WL.z (.bool true) 24 (WL.k hK12 (WC.sb [(0, .slice p n cap), (1, .slice pk zs.length ck), (5, .slice pl ws.length cl), (6, vS g n n), (7, vI (v : Int)), (24, .bool true)] ?_)))
   refine WC.yes rfl ?_
   refine WC.skip (WQ.then (hK11 _ _ _ (WC.block (WC.seq fun K13 hK13 => WC.region (WL.z (.slice pl ws.length cl) 25 (WL.z (vI (v : Int)) 26 ?_))))))
   refine WL.alloc (c := #[vI (v : Int)]) (T := 3) hH10 27 rfl (by decide) rfl rfl (fun b27 => vS b27 1 1) (by kernel_rfl) (fun b27 w14 hw14 => ?_)
   have hH15 : HP Tr w w14 [rowI' pl cl ws, .cel g (irow n r) 3, .cel b27 #[vI (v : Int)] 3] := hw14.2
   have nb27 := hw14.1
   clear hw14
   have hwl : ws.length = xs.length := by rw [hws, nI_len]
   have hl7 : (ws ++ [(v : Int)]).length = ws.length + 1 := by simp
   obtain ⟨j0, hj0, jz0, jz1, jz2⟩ := infoI
   refine WL.append (news := [vI (v : Int)]) 0 2 hH15 28 rfl (by decide) rfl rfl rfl rfl Try.underlying33 hj0 jz0 jz1 jz2 rfl (by decide) rfl rfl rfl rfl (by simp [Value.oneCell']) (by unfold maxLen; omega) (by omega) ?_
   rintro v7 w7 - hA7
   obtain ⟨pv7, cp7, rfl⟩ := own_row (HP.get hA7 0 rfl)
   rw [iR_push1, ← hl7] at hA7
   rw [← hl7]
   have hH16 : HP Tr w _ [rowI' pv7 cp7 (ws ++ [(v : Int)]), .cel g (irow n r) 3, .cel b27 #[vI (v : Int)] 3] := hA7
   refine WL.z (.slice pv7 ((ws ++ [(v : Int)]).length) cp7) 5 (WL.k hK13 (WC.seq fun K17 hK17 => WC.region (WL.z (vI 0) 8 (WL.k hK17 (WC.seq fun K18 hK18 => WC.seq fun K19 hK19 => ?_)))))
   refine WC.region (WL.z (.slice pk zs.length ck) 29 (WL.z (vI (zs.length : Int)) 30 ?_))
   by_cases h31 : (0 : Int) < (zs.length : Int)
   ·
    refine WL.y (.bool true) 31 (x_gtr rfl rfl rfl (dT (h31))) (WL.k hK19 (WC.sb [(0, .slice p n cap), (1, .slice pk zs.length ck), (5, .slice pv7 ((ws ++ [(v : Int)]).length) cp7), (6, vS g n n), (7, vI (v : Int)), (8, vI 0), (24, .bool true), (31, .bool true)] ?_))
    refine WC.yes rfl ?_
    obtain ⟨gL, oL, hpL, hrowL⟩ := hK (by omega)
    obtain ⟨kz, hkz, hkz2⟩ := tmod_in (k := ws.length) (show 0 < zs.length by omega)
    subst hpL
    refine WC.region (WL.z (.slice (some ⟨gL, oL, none⟩) zs.length ck) 32 (WL.z (.slice pv7 ((ws ++ [(v : Int)]).length) cp7) 33 (WL.z (vI (((ws ++ [(v : Int)]).length : Nat) : Int)) 34 (WL.y (vI (ws.length : Int)) 35 (x_sub (Z := (ws.length : Int)) rfl rfl rfl (by omega) (by omega) (by omega)) (WL.z (.slice (some ⟨gL, oL, none⟩) zs.length ck) 36 (WL.z (vI (zs.length : Int)) 37 (WL.y (vI (kz : Int)) 38 (x_rem rfl rfl rfl (by omega) hkz) (WL.y (vP gL (oL + kz)) 39 (x_ix (kz) (oL + kz) Try.underlying33 sz3) (WL.y (vI (zs.getD kz 0)) 40 (x_load rfl rfl Try.underlying3 rfl ((HP.oldRange hH16 trivial (hrowL kz (by omega))) 0 _ rfl)) (WL.z (vI (zs.getD kz 0)) 8 (WL.nil ?_)))))))))))
    refine WQ.then (hK18 _ _ _ (WC.sb [(0, .slice p n cap), (1, .slice (some ⟨gL, oL, none⟩) zs.length ck), (5, .slice pv7 ((ws ++ [(v : Int)]).length) cp7), (6, vS g n n), (7, vI (v : Int)), (8, vI (zs.getD kz 0)), (24, .bool true), (31, .bool true)] (WC.seq fun K20 hK20 => WC.region (WL.z (.slice p n cap) 41 (WL.z (vI (v : Int)) 42 ?_)))))
    refine WL.c 55 #[.slice p n cap, vI (v : Int)] 43 ?_
    refine (try_any p n cap c A0 B v _ (hIn.below (HP.below hH16)) hc hlt).mono ?_
    rintro e w21 ⟨rfl, hb22⟩
    refine ⟨_, rfl, ?_⟩
    have hH23 := HP.call hH16 hb22
    generalize htv : tryD (cdOf c n) v v = tv
    refine WL.z (vI tv) 9 (WL.k hK20 (WC.seq fun K24 hK24 => WC.seq fun K25 hK25 => WC.region (WL.z (vI (zs.getD kz 0)) 44 ?_)))
    by_cases h45 : zs.getD kz 0 = 7
    ·
     refine WL.y (.bool true) 45 (x_eql rfl rfl rfl (dT (h45))) (WL.z (.bool true) 46 (WL.z (vI tv) 47 ?_))
     by_cases h48 : (0 : Int) ≤ tv
     ·
      refine WL.y (.bool true) 48 (x_geq rfl rfl rfl (dT (h48))) (WL.z (.bool true) 49 (WL.k hK25 (WC.sb [(0, .slice p n cap), (1, .slice (some ⟨gL, oL, none⟩) zs.length ck), (5, .slice pv7 ((ws ++ [(v : Int)]).length) cp7), (6, vS g n n), (7, vI (v : Int)), (8, vI (zs.getD kz 0)), (9, vI tv), (24, .bool true), (31, .bool true), (49, .bool true)] ?_)))
      refine WC.yes rfl ?_
      refine WC.seq fun K26 hK26 => ?_
      obtain ⟨t, rfl, ht1, ht2⟩ : ∃ t : Nat, tv = (t : Int) ∧ t < v ∧ c t = 33 := by
       rcases tryD_spec (C := cdOf c n) (v := v) v with q | ⟨t', q1, q2, q3, -⟩
       · omega
       · exact ⟨t', by omega, q2, q3⟩
      obtain ⟨E, hiE, hEn, hme, hdE, hcase⟩ := at_op hc (show t < n by omega) (Ec.opn_iff.2 (show 29 ≤ c t ∧ c t ≤ 33 by omega))
      obtain ⟨a, hia, han, hm1, he⟩ : ∃ a : Nat, t < a ∧ a < n ∧ Ec.maA c A0 B n (t : Int) = (a : Int) ∧ (Ec.shD c n).e t = (a : Int) := by
       rcases hcase with ⟨hm1, he, h9⟩ | ⟨a, hia, han, hm1, he, h9⟩
       · omega
       · exact ⟨a, hia, han, hm1, he⟩
      refine WC.region (WL.z (.slice p n cap) 51 (WL.z (vI (t : Int)) 52 ?_))
      refine WL.c 56 #[.slice p n cap, vI (t : Int)] 53 ?_
      refine (rMatch_at hm1 hme _ (hIn.below (HP.below hH23)) (by omega) (by omega)).mono ?_
      rintro e w27 ⟨rfl, hb28⟩
      refine ⟨_, rfl, ?_⟩
      have hH29 := HP.call hH23 hb28
      refine WL.z (.tuple #[vI (a : Int), vI (E : Int), vI (Ec.maF c A0 B n (t : Int))]) 50 (WL.z (vI (a : Int)) 54 (WL.z (vI (E : Int)) 55 (WL.z (vI (Ec.maF c A0 B n (t : Int))) 56 (WL.z (vI (a : Int)) 10 (WL.z (vI (E : Int)) 11 (WL.z (vI (Ec.maF c A0 B n (t : Int))) 12 (WL.k hK26 (WC.sb [(0, .slice p n cap), (1, .slice (some ⟨gL, oL, none⟩) zs.length ck), (5, .slice pv7 ((ws ++ [(v : Int)]).length) cp7), (6, vS g n n), (7, vI (v : Int)), (8, vI (zs.getD kz 0)), (9, vI (t : Int)), (10, vI (a : Int)), (24, .bool true), (31, .bool true), (49, .bool true)] (WC.seq fun K30 hK30 => ?_)))))))))
      refine WC.region (WL.z (vI (a : Int)) 57 (WL.y (vI ((a + 1 : Nat) : Int)) 58 (x_ad (((a + 1 : Nat) : Int))) (WL.z (vI ((a + 1 : Nat) : Int)) 7 (WL.k hK30 (WC.exit (WQ.thenExit (WQ.inExit (WQ.sb [(0, .slice p n cap), (1, .slice (some ⟨gL, oL, none⟩) zs.length ck), (5, .slice pv7 ((ws ++ [(v : Int)]).length) cp7), (6, vS g n n), (7, vI ((a + 1 : Nat) : Int))] ?_))))))))
      refine WQ.then (hK8 _ _ _ (by rw [List.length_append, List.length_singleton]; omega) ⟨a + 1, (ws ++ [(v : Int)]), xs ++ [v], pv7, cp7, r, rfl, rfl, hw.trp hlt (tryD_trp htv he), by rw [hws, nI_snoc], (fun i => by have := hrb i; rw [List.length_append, List.length_singleton]; omega), by rw [List.length_append, List.length_singleton]; omega, (HP.drop hH29 2)⟩)
     ·
      refine WL.y (.bool false) 48 (x_geq rfl rfl rfl (dF (h48))) (WL.z (.bool false) 49 (WL.k hK25 (WC.sb [(0, .slice p n cap), (1, .slice (some ⟨gL, oL, none⟩) zs.length ck), (5, .slice pv7 ((ws ++ [(v : Int)]).length) cp7), (6, vS g n n), (7, vI (v : Int)), (8, vI (zs.getD kz 0)), (9, vI tv), (24, .bool true), (31, .bool true), (49, .bool false)] ?_)))
      refine WC.no rfl ?_
      refine WC.skip (WQ.then (hK24 _ _ _ (WC.region (WL.z (.slice p n cap) 59 (WL.z (vI (v : Int)) 60 (WL.z (vI (zs.getD kz 0)) 61 (WL.z (vS g n n) 62 ?_)))))))
      refine WL.c 57 #[.slice p n cap, vI (v : Int), vI (zs.getD kz 0), vS g n n] 63 ?_
      refine (next_any p n cap c A0 B v (zs.getD kz 0) g r pv7 cp7 (ws ++ [(v : Int)]) w _ hIn hc hlt (fun i => by have := hrb i; omega) (HP.drop hH23 2)).mono ?_
      rintro e w9 ⟨v', r', rfl, hS, hH9⟩
      refine ⟨_, rfl, ?_⟩
      have hH31 : HP Tr w w9 [rowI' pv7 cp7 (ws ++ [(v : Int)]), .cel g (irow n r') 3] := hH9
      refine WL.z (vI (v' : Int)) 7 (WL.nil (WQ.inNormal (WQ.sb [(0, .slice p n cap), (1, .slice (some ⟨gL, oL, none⟩) zs.length ck), (5, .slice pv7 ((ws ++ [(v : Int)]).length) cp7), (6, vS g n n), (7, vI (v' : Int))] ?_)))
      refine WQ.then (hK8 _ _ _ (by rw [List.length_append, List.length_singleton]; omega) ⟨v', (ws ++ [(v : Int)]), xs ++ [v], pv7, cp7, r', rfl, rfl, hw.stp hlt hS, by rw [hws, nI_snoc], (fun i => by have := hS.bd (fun h9 => (loop_of hc v hlt h9).2) (show 0 ≤ (xs.length : Int) by omega) hrb i; rw [List.length_append, List.length_singleton]; omega), by rw [List.length_append, List.length_singleton]; omega, hH31⟩)
    ·
     refine WL.y (.bool false) 45 (x_eql rfl rfl rfl (dF (h45))) (WL.z (.bool false) 46 (WL.p 47 (WL.p 48 (WL.z (.bool false) 49 (WL.k hK25 (WC.sb [(0, .slice p n cap), (1, .slice (some ⟨gL, oL, none⟩) zs.length ck), (5, .slice pv7 ((ws ++ [(v : Int)]).length) cp7), (6, vS g n n), (7, vI (v : Int)), (8, vI (zs.getD kz 0)), (9, vI tv), (24, .bool true), (31, .bool true), (49, .bool false)] ?_))))))
     refine WC.no rfl ?_
     refine WC.skip (WQ.then (hK24 _ _ _ (WC.region (WL.z (.slice p n cap) 59 (WL.z (vI (v : Int)) 60 (WL.z (vI (zs.getD kz 0)) 61 (WL.z (vS g n n) 62 ?_)))))))
     refine WL.c 57 #[.slice p n cap, vI (v : Int), vI (zs.getD kz 0), vS g n n] 63 ?_
     refine (next_any p n cap c A0 B v (zs.getD kz 0) g r pv7 cp7 (ws ++ [(v : Int)]) w _ hIn hc hlt (fun i => by have := hrb i; omega) (HP.drop hH23 2)).mono ?_
     rintro e w9 ⟨v', r', rfl, hS, hH9⟩
     refine ⟨_, rfl, ?_⟩
     have hH32 : HP Tr w w9 [rowI' pv7 cp7 (ws ++ [(v : Int)]), .cel g (irow n r') 3] := hH9
     refine WL.z (vI (v' : Int)) 7 (WL.nil (WQ.inNormal (WQ.sb [(0, .slice p n cap), (1, .slice (some ⟨gL, oL, none⟩) zs.length ck), (5, .slice pv7 ((ws ++ [(v : Int)]).length) cp7), (6, vS g n n), (7, vI (v' : Int))] ?_)))
     refine WQ.then (hK8 _ _ _ (by rw [List.length_append, List.length_singleton]; omega) ⟨v', (ws ++ [(v : Int)]), xs ++ [v], pv7, cp7, r', rfl, rfl, hw.stp hlt hS, by rw [hws, nI_snoc], (fun i => by have := hS.bd (fun h9 => (loop_of hc v hlt h9).2) (show 0 ≤ (xs.length : Int) by omega) hrb i; rw [List.length_append, List.length_singleton]; omega), by rw [List.length_append, List.length_singleton]; omega, hH32⟩)
   ·
    refine WL.y (.bool false) 31 (x_gtr rfl rfl rfl (dF (h31))) (WL.k hK19 (WC.sb [(0, .slice p n cap), (1, .slice pk zs.length ck), (5, .slice pv7 ((ws ++ [(v : Int)]).length) cp7), (6, vS g n n), (7, vI (v : Int)), (8, vI 0), (24, .bool true), (31, .bool false)] ?_))
    refine WC.no rfl ?_
    refine WC.skip (WQ.then (hK18 _ _ _ (WC.seq fun K33 hK33 => WC.region (WL.z (.slice p n cap) 41 (WL.z (vI (v : Int)) 42 ?_)))))
    refine WL.c 55 #[.slice p n cap, vI (v : Int)] 43 ?_
    refine (try_any p n cap c A0 B v _ (hIn.below (HP.below hH16)) hc hlt).mono ?_
    rintro e w34 ⟨rfl, hb35⟩
    refine ⟨_, rfl, ?_⟩
    have hH36 := HP.call hH16 hb35
    generalize htv : tryD (cdOf c n) v v = tv
    refine WL.z (vI tv) 9 (WL.k hK33 (WC.seq fun K37 hK37 => WC.seq fun K38 hK38 => WC.region (WL.z (vI 0) 44 (WL.y (.bool false) 45 (x_eql rfl rfl rfl (by decide)) (WL.z (.bool false) 46 (WL.p 47 (WL.p 48 ?_)))))))
    refine WL.z (.bool false) 49 (WL.k hK38 (WC.sb [(0, .slice p n cap), (1, .slice pk zs.length ck), (5, .slice pv7 ((ws ++ [(v : Int)]).length) cp7), (6, vS g n n), (7, vI (v : Int)), (8, vI 0), (9, vI tv), (24, .bool true), (31, .bool false), (49, .bool false)] ?_))
    refine WC.no rfl ?_
    refine WC.skip (WQ.then (hK37 _ _ _ (WC.region (WL.z (.slice p n cap) 59 (WL.z (vI (v : Int)) 60 (WL.z (vI 0) 61 (WL.z (vS g n n) 62 ?_)))))))
    refine WL.c 57 #[.slice p n cap, vI (v : Int), vI 0, vS g n n] 63 ?_
    refine (next_any p n cap c A0 B v 0 g r pv7 cp7 (ws ++ [(v : Int)]) w _ hIn hc hlt (fun i => by have := hrb i; omega) (HP.drop hH36 2)).mono ?_
    rintro e w9 ⟨v', r', rfl, hS, hH9⟩
    refine ⟨_, rfl, ?_⟩
    have hH39 : HP Tr w w9 [rowI' pv7 cp7 (ws ++ [(v : Int)]), .cel g (irow n r') 3] := hH9
    refine WL.z (vI (v' : Int)) 7 (WL.nil (WQ.inNormal (WQ.sb [(0, .slice p n cap), (1, .slice pk zs.length ck), (5, .slice pv7 ((ws ++ [(v : Int)]).length) cp7), (6, vS g n n), (7, vI (v' : Int))] ?_)))
    refine WQ.then (hK8 _ _ _ (by rw [List.length_append, List.length_singleton]; omega) ⟨v', (ws ++ [(v : Int)]), xs ++ [v], pv7, cp7, r', rfl, rfl, hw.stp hlt hS, by rw [hws, nI_snoc], (fun i => by have := hS.bd (fun h9 => (loop_of hc v hlt h9).2) (show 0 ≤ (xs.length : Int) by omega) hrb i; rw [List.length_append, List.length_singleton]; omega), by rw [List.length_append, List.length_singleton]; omega, hH39⟩)
  ·
   refine WL.y (.bool false) 23 (x_lss rfl rfl rfl (dF (hl2))) (WL.z (.bool false) 24 (WL.k hK12 (WC.sb [(0, .slice p n cap), (1, .slice pk zs.length ck), (5, .slice pl ws.length cl), (6, vS g n n), (7, vI (v : Int)), (24, .bool false)] ?_)))
   refine WC.no rfl ?_
   refine WC.exit (WQ.thenExit (WQ.thenExit (WQ.inExit (WQ.then (hK7 _ _ _ (WC.seq fun K40 hK40 => WC.region (WL.z (.slice pl ws.length cl) 64 (WL.z (.slice pl ws.length cl) 4 (WL.nil (WQ.then ?_))))))))))
   refine hK40 _ _ _ (WC.ret ?_)
   refine WQ.ret1 4 rfl rfl ?_
   subst hws
   exact ⟨pl, cl, xs, v, r, rfl, (HP.drop hH10 1), hw, hl9⟩
 ·
  refine WL.y (.bool false) 19 (x_lss rfl rfl rfl (dF (h19))) (WL.z (.bool false) 20 (WL.p 21 (WL.p 22 (WL.p 23 (WL.z (.bool false) 24 (WL.k hK12 (WC.sb [(0, .slice p n cap), (1, .slice pk zs.length ck), (5, .slice pl ws.length cl), (6, vS g n n), (7, vI (v : Int)), (24, .bool false)] ?_)))))))
  refine WC.no rfl ?_
  refine WC.exit (WQ.thenExit (WQ.thenExit (WQ.inExit (WQ.then (hK7 _ _ _ (WC.seq fun K41 hK41 => WC.region (WL.z (.slice pl ws.length cl) 64 (WL.z (.slice pl ws.length cl) 4 (WL.nil (WQ.then ?_))))))))))
  refine hK41 _ _ _ (WC.ret ?_)
  refine WQ.ret1 4 rfl rfl ?_
  subst hws
  exact ⟨pl, cl, xs, v, r, rfl, (HP.drop hH10 1), hw, hl9⟩
end Ca
end Go.Proofs.Ytmjnakhpekbenaa
namespace Go.Proofs.Ytmjnakhpekbenaa
open Go.RowKit Fw Go.ChangeShapes Go.WideShapes
namespace Ca
structure StIn (w : World) (p : Option Addr) (S : List SlI) : Prop where
  inn : InS2 w p S
  nil : ∀ r ∈ S, r.q = none → r.c = 0
  len : S.length * 24 ≤ 140737488351232
  rows : ∀ r ∈ S, r.xs.length * 8 ≤ 140737488351232
theorem StIn.below {w w' : World} {p : Option Addr} {S : List SlI} (h : StIn w p S) (hb : Below w.heap.size w w') : StIn w' p S := ⟨h.inn.below hb, h.nil, h.len, h.rows⟩
theorem addr_none {w : World} {a : Addr} {v : Value} (h : w.cell? a = some v) : a.spot = none := by
  unfold World.cell? at h
  cases hsp : a.spot with
  | none => rfl
  | some q => rw [hsp] at h; simp at h; split at h <;> simp at h
theorem weightsAll_mem {H : Type} {P : Program} {t : TypeId} : ∀ {l : List (DataW H)} {d : DataW H}, d ∈ l → ∀ x ∈ DataW.weights P t d, x ∈ DataW.weightsAll P t l
  | d :: r, e, h, x, hx => by
    rw [DataW.weightsAll, List.mem_append]
    rcases List.mem_cons.1 h with rfl | h
    · exact .inl hx
    · exact .inr (weightsAll_mem h x hx)
theorem sized_inner {H : Type} {P : Program} {ts : List TypeId} {ds : List (DataW H)} (h : (DataW.weightsEach P ts ds).all (· ≤ reachBytes) = true) {j : Nat} {t e q : TypeId} {elems spare e' sp' : List (DataW H)}
    (ht : ts[j]? = some t) (hd : ds[j]? = some (.slice elems spare)) (hu : P.underlying t = some (.slice e)) (hu2 : P.underlying e = some (.slice q)) (hx : DataW.slice e' sp' ∈ elems) : (e'.length + sp'.length) * P.bytesOf q ≤ reachBytes := by
  refine of_decide_eq_true (List.all_eq_true.1 h _ (DataW.weights_mem_each ht hd _ ?_))
  simp only [DataW.weights, hu, List.mem_cons, List.mem_append]
  exact Or.inr (Or.inl (weightsAll_mem hx _ (by simp [DataW.weights, hu2])))
theorem bytes33 : Try.prog.bytesOf 33 = 24 := by kernel_rfl
theorem bytes3 : Try.prog.bytesOf 3 = 8 := by kernel_rfl
theorem rowsS {H : Type} {enc : TypeId × Value → H} {W : World} {p : Option Addr} {n cap : Nat} {d : DataW H} {pl : List MemPlace}
    (h : DataW.Trod enc Try.prog W 0 (fun _ => true) true 24 (.slice p n cap) d pl)
    (hz : ∀ elems spare, d = .slice elems spare → (elems.length + spare.length) * Try.prog.bytesOf 33 ≤ reachBytes ∧ ∀ e' sp', DataW.slice e' sp' ∈ elems → (e'.length + sp'.length) * Try.prog.bytesOf 3 ≤ reachBytes) :
    ∃ S : List SlI, n = S.length ∧ StIn W p S := by
  obtain ⟨fuel, hf⟩ := h
  rcases Go.Deep.open_int_rows (k := .i64) Try.underlying24 Try.underlying33 Try.underlying3 (by kernel_rfl) (by kernel_rfl) hf with ⟨hc, -⟩ | ⟨a, len, cap', A, L, C, Z, hc, -, hl, hm, hx, hr⟩
  · simp [Value.cells] at hc
    obtain ⟨rfl, rfl, rfl⟩ := hc
    exact ⟨[], rfl, ⟨⟨(fun h => absurd h (by simp)), (fun r hr => by cases hr)⟩, (fun r hr => by cases hr), (by simp), (fun r hr => by cases hr)⟩⟩
  · simp [Value.cells] at hc
    obtain ⟨rfl, rfl, rfl⟩ := hc
    simp only [Prod.mk.injEq] at hx
    obtain ⟨hz1, hz2⟩ := hz _ _ hx.1
    rw [bytes33] at hz1
    rw [bytes3] at hz2
    simp only [List.length_map, List.length_range, reachBytes] at hz1
    have hrow : ∀ r, r < n → (Z r).take (L r) = (Z r).take (L r) ∧ ((Z r).take (L r)).length = L r := fun r hrn => ⟨rfl, by
      have := (hr r (by omega)); rw [List.length_take]; omega⟩
    refine ⟨(List.range n).map fun r => ⟨A r, (Z r).take (L r), C r⟩, by simp, ⟨⟨fun h0 => ?_, fun r hrm => ?_⟩, fun r hrm => ?_, by simp; omega, fun r hrm => ?_⟩⟩
    · have hn0 : 0 < n := by simpa using h0
      have hsp := addr_none (hr 0 (by omega)).1
      obtain ⟨b, o, sp⟩ := a
      have hsp2 : sp = none := by
        have e : ((⟨b, o, sp⟩ : Addr).add 0).spot = sp := by unfold Addr.add; split <;> simp_all
        rw [e] at hsp; exact hsp
      subst hsp2
      refine ⟨b, o, rfl, fun i hi j v hv => ?_⟩
      have hi : i < n := by simpa using hi
      match j, hv with
      | 0, hv =>
        simp at hv; subst hv
        have h1 := (hr i (by omega)).1
        rw [hadd] at h1
        simp only [Nat.add_zero, List.getElem?_map, List.getElem?_range hi, Option.map_some, Option.getD_some]
        show W.cell? _ = some (.slice (A i) ((Z i).take (L i)).length (C i))
        rw [(hrow i hi).2]; exact h1
      | j + 1, hv => simp at hv
    · obtain ⟨i, hi, rfl⟩ := List.mem_map.1 hrm
      have hi := List.mem_range.1 hi
      obtain ⟨q1, q2, q3, q4, q5, q6, q7⟩ := hr i (by omega)
      refine ⟨fun h0 => ?_, ?_, q3, fun x hx => wi_of (q5 x (List.mem_of_mem_take hx))⟩
      · rw [(hrow i hi).2] at h0
        cases ha : A i with
        | none => have := q6 ha; omega
        | some a' =>
          obtain ⟨-, hc⟩ := q7 a' ha
          have hsp := addr_none (hc 0 (by omega))
          obtain ⟨b, o, sp⟩ := a'
          have hsp2 : sp = none := by
            have e : ((⟨b, o, sp⟩ : Addr).add 0).spot = sp := by unfold Addr.add; split <;> simp_all
            rw [e] at hsp; exact hsp
          subst hsp2
          refine ⟨b, o, by simp [ha], fun c hcl j v hv => ?_⟩
          have hcl : c < L i := by rw [← (hrow i hi).2]; exact hcl
          match j, hv with
          | 0, hv =>
            simp at hv; subst hv
            have h1 := hc c (by omega)
            rw [hadd] at h1
            rw [Nat.add_zero, h1]
            simp [List.getElem?_take, hcl]
          | j + 1, hv => simp at hv
      · show ((Z i).take (L i)).length ≤ C i
        rw [(hrow i hi).2]; exact q2
    · obtain ⟨i, hi, rfl⟩ := List.mem_map.1 hrm
      have hi := List.mem_range.1 hi
      exact (hr i (by omega)).2.2.2.2.2.1
    · obtain ⟨i, hi, rfl⟩ := List.mem_map.1 hrm
      have hi := List.mem_range.1 hi
      obtain ⟨q1, q2, q3, q4, q5, q6, q7⟩ := hr i (by omega)
      show ((Z i).take (L i)).length * 8 ≤ _
      rw [(hrow i hi).2]
      cases ha : A i with
      | none => have := q6 ha; omega
      | some a' =>
        have := hz2 _ _ (List.mem_map.2 ⟨i, List.mem_range.2 hi, by simp only [Go.Deep.intRow, ha]; rfl⟩)
        simp only [lits, List.length_map, List.length_take, List.length_drop, reachBytes] at this
        omega
end Ca
end Go.Proofs.Ytmjnakhpekbenaa
namespace Go.Proofs.Ytmjnakhpekbenaa
set_option maxRecDepth 20000
set_option maxHeartbeats 4000000
open Go.RowKit Fw
namespace Ca
def preR (x : Int) (k i : Nat) : List Int := if i = k then [x] else []
def rRow (y x : Int) (k i : Nat) (xs : List Int) : List Int := preR x k i ++ (xs.filter fun z => z != x).take (y.toNat - (preR x k i).length)
def rSt (y x : Int) (k : Nat) (X : List (List Int)) (n : Nat) : List (List Int) := (List.range n).map fun i => rRow y x k i (X.getD i [])
theorem rSt_step (y x : Int) (k : Nat) (X : List (List Int)) (n : Nat) : rSt y x k X (n + 1) = rSt y x k X n ++ [rRow y x k n (X.getD n [])] := by simp [rSt, List.range_succ]
theorem rSt_eq {s y l m a : Int} {X : List (List Int)} (h : okSt s y l m X = true) (ha : 0 ≤ a ∧ a ≤ 999) : rSt y (a / l) (setN s l a) X X.length = stp s y l a X := by
  obtain ⟨h1, h2, h3⟩ := okSt_iff.1 h
  obtain ⟨hs, hy, hl, -⟩ := vG_iff.1 h1
  obtain ⟨e1, e2⟩ := setN_spec hs hl ha
  refine List.ext_getElem (by simp [rSt, stp]) fun i q1 q2 => ?_
  have hi : i < X.length := by simpa [rSt] using q1
  have g : X.getD i [] = X[i] := by simp [List.getD_eq_getElem?_getD, hi]
  have ok := h3 i hi
  have e3 : (rSt y (a / l) (setN s l a) X X.length)[i] = rRow y (a / l) (setN s l a) i (X.getD i []) := by simp [rSt]
  have e4 : (stp s y l a X)[i] = (X.set (setN s l a) (tcX y (a / l) (X.getD (setN s l a) [])))[i]'(by simpa using hi) := rfl
  rw [e3, e4]
  unfold rRow preR
  by_cases q : setN s l a = i
  · rw [if_pos q.symm]
    subst q
    rw [List.getElem_set_self, tcX_eq ok hy.1]
    rfl
  · rw [if_neg (fun e => q e.symm), List.getElem_set_ne q, List.nil_append, g]
    rw [g] at ok
    obtain ⟨o1, o2, o3⟩ := okR_iff2.1 ok
    rw [filter_self (fun hx => by have := (o2 _ hx).2; omega), List.take_of_length_le (by simp; omega)]
theorem ft_step {xs : List Int} {j : Nat} {x : Int} (hj : j < xs.length) : (xs.take (j + 1)).filter (fun z => z != x) = (xs.take j).filter (fun z => z != x) ++ (if xs.getD j 0 = x then [] else [xs.getD j 0]) := by
  rw [List.take_add_one, List.filter_append, List.getElem?_eq_getElem hj]
  have e : xs.getD j 0 = xs[j] := by simp [List.getD_eq_getElem?_getD, hj]
  rw [e]
  by_cases q : xs[j] = x
  · rw [if_pos q]; simp [q]
  · rw [if_neg q]; simp [q]
def ftA (y x : Int) (pre xs : List Int) (j : Nat) : List Int := pre ++ ((xs.take j).filter fun z => z != x).take (y.toNat - pre.length)
theorem ft_skip {y x : Int} {pre xs : List Int} {j : Nat} (hj : j < xs.length) (h : xs.getD j 0 = x) : ftA y x pre xs (j + 1) = ftA y x pre xs j := by
  unfold ftA; rw [ft_step hj, if_pos h, List.append_nil]
theorem ft_add {y x : Int} {pre xs : List Int} {j : Nat} (hj : j < xs.length) (h : xs.getD j 0 ≠ x) (hl : ((ftA y x pre xs j).length : Int) < y) : ftA y x pre xs (j + 1) = ftA y x pre xs j ++ [xs.getD j 0] := by
  unfold ftA at hl ⊢
  simp only [List.length_append, List.length_take] at hl
  rw [ft_step hj, if_neg h, List.append_assoc, List.take_of_length_le (l := _ ++ [xs.getD j 0]) (by simp; omega), List.take_of_length_le (l := List.filter _ _) (by omega)]
theorem ft_full {y x : Int} {pre xs : List Int} {j : Nat} (hj : j < xs.length) (hp : (pre.length : Int) ≤ y) (hl : ¬ ((ftA y x pre xs j).length : Int) < y) : ftA y x pre xs (j + 1) = ftA y x pre xs j := by
  unfold ftA at hl ⊢
  simp only [List.length_append, List.length_take] at hl
  rw [ft_step hj, List.take_append_of_le_length (by omega)]
theorem ft_end {y x : Int} {k i : Nat} {pre xs : List Int} {j : Nat} (hp : pre = preR x k i) (hj : xs.length ≤ j) : ftA y x pre xs j = rRow y x k i xs := by
  unfold ftA rRow; rw [List.take_of_length_le hj, hp]
theorem iR_push (A : List Int) (v : Int) : iR A ++ [vI v] = iR (A ++ [v]) := by simp [iR]
theorem ow_end3 {w0 w W : World} {b : Nat} {c : Array Value} {T : TypeId} {pv pv8 : Option Addr} {cp cp8 : Nat} {S2 : List SlI} {r : SlI} (h : HP Tr w0 w ([Ent.cel b c T, rowS pv cp S2] ++ S2.map rowE)) (h2 : HP (Out [Ent.cel b c T, rowS pv cp S2]) w W [Ent.cel b c T, .own (.slice pv8 (S2.length + 1) cp8) (S2.length + 1) (S2.map slV ++ [slV r]) 33 1, rowE r]) :
    HP Tr w0 W ([Ent.cel b c T, rowS pv8 cp8 (S2 ++ [r])] ++ (S2 ++ [r]).map rowE) := by
  have h3 := HP.exchF (A := [Ent.cel b c T, rowS pv cp S2]) (B := S2.map rowE) h h2
  have e : (Ent.own (.slice pv8 (S2.length + 1) cp8) (S2.length + 1) (S2.map slV ++ [slV r]) 33 1) = rowS pv8 cp8 (S2 ++ [r]) := by simp [rowS]
  rw [e] at h3
  refine HP.perm h3 ?_
  rw [List.map_append]
  exact List.Perm.cons _ (List.Perm.cons _ (List.perm_append_comm (l₁ := [rowE r]) (l₂ := S2.map rowE)))
theorem rValidState_at {s y l m : Int} {S : List SlI} {r : Bool} (h : okSt s y l m (stX S) = r) (p : Option Addr) (cp : Nat) (w : World) (hS : InS2 w p S) (hn : S.length ≤ 281474976710656) :
    Calls Try.prog 19 #[.agg #[vI s, vI y, vI l, vI m], .slice p S.length cp] w fun e w' => e = .returned (.bool r) ∧ Below w.heap.size w w' := h ▸ rValidState_any s y l m p S cp w hS hn
theorem ft_wi {y x : Int} {k i : Nat} {pre xs : List Int} {j : Nat} (hw : ∀ z ∈ xs, Wi z) (hx : 0 ≤ x ∧ x ≤ 999) (hp : pre = preR x k i) : ∀ z ∈ ftA y x pre xs j, Wi z := fun z hz => by
  unfold ftA at hz
  rcases List.mem_append.1 hz with q | q
  · rw [hp] at q
    unfold preR at q
    split at q
    · obtain rfl := List.mem_singleton.1 q; exact ⟨by omega, by omega⟩
    · cases q
  · exact hw z (List.mem_of_mem_take (List.mem_filter.1 (List.mem_of_mem_take q)).1)
theorem out_in3 {w0 w W : World} {B : List Ent} {A H : List Ent} {q : Option Addr} {xs : List Int} (h : HP Tr w0 w (B ++ A)) (hI : InI w0 q xs) (h9 : HP (Out B) w W H) : InI W q xs := fun h0 => by
  obtain ⟨g, o, hq, hr⟩ := hI h0
  exact ⟨g, o, hq, fun i hi => HP.oldRange h9 (out_old h (row_lt hr h0 rfl)) (HP.oldRange (S := Tr) (HP.of_below (HP.below h)) trivial (hr i hi))⟩
theorem out_below {w0 w W : World} {B A H : List Ent} (h : HP Tr w0 w (B ++ A)) (h9 : HP (Out B) w W H) : Below w0.heap.size w0 W :=
  ⟨h9.os.trans h.os, h9.tape.trans h.tape, h9.output.trans h.output, Nat.le_trans h.size h9.size, fun k hk => (h9.keep k (Nat.lt_of_lt_of_le hk h.size) (out_old h hk)).trans (h.keep k hk trivial)⟩
theorem out_rows {w0 w W : World} {B B' : List Ent} {S2 : List SlI} (h : HP Tr w0 w (B ++ S2.map rowE)) (h9 : HP (Out B) w W B') (hw : ∀ r ∈ S2, ∀ x ∈ r.xs, Wi x) : ∀ r ∈ S2, InR W r := fun r hr => by
  have h3 := HP.exchF (A := B) (B := S2.map rowE) h h9
  exact (row_InR (h3.hold (rowE r) (List.mem_append_right _ (List.mem_map.2 ⟨r, hr, rfl⟩))) (hw r hr)).1
theorem rTouch_any (s y l m a : Int) (p : Option Addr) (S : List SlI) (cp : Nat) (w : World) (hS : InS2 w p S) (hn : S.length ≤ 281474976710656) :
  Calls Try.prog 13 #[.agg #[vI s, vI y, vI l, vI m], .slice p S.length cp, vI a] w (TouR s y l m a S w) := by
 refine calls_of Try.func13 rfl (m := 95) rfl [(0, .agg #[vI s, vI y, vI l, vI m]), (1, .slice p S.length cp), (2, vI a)] (Fr_enter [.agg #[vI s, vI y, vI l, vI m], .slice p S.length cp, vI a] 95 (Nat.le_of_ble_eq_true rfl)) ?_
 have hH1 : HP Tr w w [] := HP.refl w
 refine WC.seq fun K2 hK2 => WC.region ?_
 refine WL.alloc (c := #[vI s, vI y, vI l, vI m]) (T := 23) hH1 3 rfl (by decide) rfl rfl (fun b3 => vP b3 0) (by kernel_rfl) (fun b3 w3 hw3 => ?_)
 have hH4 : HP Tr w w3 [.cel b3 #[vI s, vI y, vI l, vI m] 23] := hw3.2
 have nb3 := hw3.1
 clear hw3
 refine WL.z (.slice none 0 0) 6 (WL.z (.bool false) 7 (WL.z (vI 0) 8 (WL.k hK2 (WC.seq fun K5 hK5 => WC.seq fun K6 hK6 => WC.region (WL.y (.agg #[vI s, vI y, vI l, vI m]) 15 (x_loadS (cs := [vI s, vI y, vI l, vI m]) rfl rfl Try.underlying23 rfl sz23 (HP.range hH4 0 rfl rfl)) (WL.z (.slice p S.length cp) 16 ?_))))))
 rcases Bool.eq_false_or_eq_true (okSt s y l m (stX S)) with hv | hv
 ·
  obtain ⟨hSs, hrl⟩ := okSt_rows hv
  obtain ⟨⟨hs1, hs2⟩, ⟨hy1, hy2⟩, ⟨hl1, hl2⟩, -⟩ := vG_iff.1 (okSt_iff.1 hv).1
  refine WL.c 19 #[.agg #[vI s, vI y, vI l, vI m], .slice p S.length cp] 17 ?_
  refine (rValidState_at hv p cp _ (hS.below (HP.below hH4)) hn).mono ?_
  rintro e w7 ⟨rfl, hb8⟩
  refine ⟨_, rfl, ?_⟩
  have hH9 := HP.call hH4 hb8
  refine WL.z (.bool false) 18 (WL.z (.bool false) 19 (WL.z (vI a) 20 ?_))
  by_cases h21 : a < 0
  ·
   refine WL.y (.bool true) 21 (x_lss rfl rfl rfl (dT (h21))) (WL.z (.bool true) 22 (WL.z (.bool true) 23 (WL.p 24 (WL.p 25 (WL.z (.bool true) 26 (WL.k hK6 (WC.sb [(0, .agg #[vI s, vI y, vI l, vI m]), (1, .slice p S.length cp), (2, vI a), (3, vP b3 0), (6, .slice none 0 0), (7, .bool false), (8, vI 0), (26, .bool true)] ?_)))))))
   refine WC.yes rfl ?_
   refine WC.seq fun K10 hK10 => ?_
   have hno : tOk s y l m a (stX S) = false := by unfold tOk; rw [hv, wn_no2 (by omega)]; rfl
   refine WC.region (WL.z (.slice none 0 0) 6 (WL.z (.bool false) 7 (WL.z (vI 1) 8 (WL.k hK10 (WC.ret ?_)))))
   refine WQ.thenRet ?_
   refine WQ.ret3 6 7 8 rfl rfl rfl rfl ?_
   exact .inl ⟨hno, rfl, HP.below hH9⟩
  ·
   refine WL.y (.bool false) 21 (x_lss rfl rfl rfl (dF (h21))) (WL.z (.bool false) 22 (WL.z (.bool false) 23 (WL.z (vI a) 24 ?_)))
   by_cases h25 : (999 : Int) < a
   ·
    refine WL.y (.bool true) 25 (x_gtr rfl rfl rfl (dT (h25))) (WL.z (.bool true) 26 (WL.k hK6 (WC.sb [(0, .agg #[vI s, vI y, vI l, vI m]), (1, .slice p S.length cp), (2, vI a), (3, vP b3 0), (6, .slice none 0 0), (7, .bool false), (8, vI 0), (26, .bool true)] ?_)))
    refine WC.yes rfl ?_
    refine WC.seq fun K11 hK11 => ?_
    have hno : tOk s y l m a (stX S) = false := by unfold tOk; rw [hv, wn_no2 (by omega)]; rfl
    refine WC.region (WL.z (.slice none 0 0) 6 (WL.z (.bool false) 7 (WL.z (vI 1) 8 (WL.k hK11 (WC.ret ?_)))))
    refine WQ.thenRet ?_
    refine WQ.ret3 6 7 8 rfl rfl rfl rfl ?_
    exact .inl ⟨hno, rfl, HP.below hH9⟩
   ·
    refine WL.y (.bool false) 25 (x_gtr rfl rfl rfl (dF (h25))) (WL.z (.bool false) 26 (WL.k hK6 (WC.sb [(0, .agg #[vI s, vI y, vI l, vI m]), (1, .slice p S.length cp), (2, vI a), (3, vP b3 0), (6, .slice none 0 0), (7, .bool false), (8, vI 0), (26, .bool false)] ?_)))
    refine WC.no rfl ?_
    refine WC.skip (WQ.then (hK5 _ _ _ (WC.seq fun K12 hK12 => WC.region (WL.z (vI a) 27 (WL.z (vP b3 2) 28 (WL.y (vI l) 29 (x_load rfl rfl Try.underlying3 rfl (HP.cell hH9 0 rfl rfl)) ?_))))))
    have ha : 0 ≤ a ∧ a ≤ 999 := ⟨by omega, by omega⟩
    have hyes : tOk s y l m a (stX S) = true := by unfold tOk; rw [hv]; exact wn_iff.2 ha
    obtain ⟨hk1, hk2⟩ := setN_spec ⟨hs1, hs2⟩ ⟨hl1, hl2⟩ ha
    have heq := rSt_eq hv ha
    have hxb := line_bd ⟨hl1, hl2⟩ ha
    have hhit : hitN s l a (stX S) = if 0 ≤ plcV (a / l) ((stX S).getD (setN s l a) []) then 1 else 0 := by unfold hitN; rw [idx_plc]
    refine WL.y (vI (a / l)) 30 (x_quo rfl rfl rfl (by omega) (tdiv_pos (by omega) (by omega)) (by have := Int.ediv_nonneg (show 0 ≤ a by omega) (show 0 ≤ l by omega); omega) (by have := Int.ediv_le_self l (show 0 ≤ a by omega); omega)) (WL.z (vI (a / l)) 9 (WL.k hK12 (WC.seq fun K13 hK13 => ?_)))
    generalize hkd : setN s l a = k at hk1 hk2 heq hhit
    generalize hxd : a / l = x at hk1 heq hhit hxb ⊢
    refine WC.region (WL.z (vI x) 31 (WL.z (vP b3 0) 32 (WL.y (vI s) 33 (x_load rfl rfl Try.underlying3 rfl (HP.cell hH9 0 rfl rfl)) (WL.y (vI (k : Int)) 34 (x_rem rfl rfl rfl (by omega) hk1) (WL.z (vI (k : Int)) 10 (WL.k hK13 (WC.sb [(0, .agg #[vI s, vI y, vI l, vI m]), (1, .slice p S.length cp), (2, vI a), (3, vP b3 0), (6, .slice none 0 0), (7, .bool false), (8, vI 0), (9, vI x), (10, vI (k : Int)), (26, .bool false)] (WC.seq fun K14 hK14 => WC.region ?_))))))))
    refine WL.z (.slice none 0 0) 11 (WL.k hK14 (WC.seq fun K15 hK15 => WC.seq fun K16 hK16 => WC.region (WL.z (vI 0) 12 (WL.k hK16 (WC.block ?_)))))
    refine WC.loop (fun kk0 ll0 ww0 => ∃ (i : Nat) (S2 : List SlI) (pv : Option Addr) (cp2 : Nat), ll0 = [(1, .slice p S.length cp), (2, vI a), (3, vP b3 0), (9, vI x), (10, vI (k : Int)), (11, .slice pv S2.length cp2), (12, vI (i : Int))] ∧ kk0 = S.length - i ∧ (i ≤ S.length) ∧ (stX S2 = rSt y x k (stX S) i) ∧ (HP Tr w ww0 ([Go.Proofs.Ytmjnakhpekbenaa.Fw.Ent.cel b3 #[vI s, vI y, vI l, vI m] 23, rowS pv cp2 S2] ++ S2.map rowE)) ∧ (∀ r ∈ S2, ∀ x ∈ r.xs, Wi x) ∧ HP Tr ww0 ww0 []) (S.length) [(1, .slice p S.length cp), (2, vI a), (3, vP b3 0), (9, vI x), (10, vI (k : Int)), (11, .slice none 0 0), (12, vI 0)] ⟨rfl, rfl, rfl, rfl, rfl, rfl, rfl, trivial⟩ ⟨0, [], none, 0, rfl, rfl, Nat.zero_le _, rfl, HP.eq (HP.ownNil hH9 33 1) rfl, (fun r h => by cases h), HP.refl _⟩ ?_
    rintro kk l w18 ⟨i, S2, pv, cp2, rfl, hkk, hi, hX9, hI9, hWi9, hH19⟩ K17 hK17
    have hl2 : S2.length = i := by have q9 := congrArg List.length hX9; rw [stX_len] at q9; simpa [rSt] using q9
    have hInv := hI9
    have hR0 := HP.ownF (A := [Go.Proofs.Ytmjnakhpekbenaa.Fw.Ent.cel b3 #[vI s, vI y, vI l, vI m] 23, rowS pv cp2 S2]) (B := S2.map rowE) hI9
    have hH20 := HP.startB hR0
    refine WC.seq fun K21 hK21 => WC.seq fun K22 hK22 => WC.region (WL.z (vI (i : Int)) 35 (WL.z (.slice p S.length cp) 36 (WL.z (vI (S.length : Int)) 37 ?_)))
    by_cases hlt : (i : Int) < (S.length : Int)
    ·
     refine WL.y (.bool true) 38 (x_lss rfl rfl rfl (dT (hlt))) (WL.k hK22 ?_)
     refine WC.yes rfl ?_
     refine WC.skip (WQ.then (hK21 _ _ _ (WC.seq fun K23 hK23 => WC.block (WC.seq fun K24 hK24 => ?_))))
     obtain ⟨⟨rq, rxs, rc⟩, hr⟩ : ∃ r, S[i]? = some r := ⟨S[i]'(by omega), List.getElem?_eq_getElem _⟩
     obtain ⟨hr1, hr2, hr3, hr4⟩ := stX_at hr
     obtain ⟨gS, oS, hpS, hrowS0⟩ := hS.row (by omega)
     have hgSl := row_lt hrowS0 (show 0 < S.length by omega) rfl
     have hrowS := fun i9 h9 => HP.oldRange (S := Tr) (HP.of_below (HP.below hInv)) trivial (hrowS0 i9 h9)
     have hgS := out_old hInv hgSl
     have hIRw := hS.inn _ hr4
     have hrl9 := hrl _ hr4
     simp only [] at hr1 hrl9
     subst hpS
     refine WC.region (WL.z (.slice none 0 0) 13 (WL.k hK24 ?_))
     have hH25 : HP (Out [Go.Proofs.Ytmjnakhpekbenaa.Fw.Ent.cel b3 #[vI s, vI y, vI l, vI m] 23, rowS pv cp2 S2]) w18 _ [.cel b3 #[vI s, vI y, vI l, vI m] 23, rowS pv cp2 S2, .own (.slice none 0 0) 0 [] 3 1] := HP.ownNil hH20 3 1
     refine WC.cut (fun lz w2 => ∃ (pre : List Int) (pvl : Option Addr) (cpl : Nat), lz = [(1, .slice (some ⟨gS, oS, none⟩) S.length cp), (2, vI a), (3, vP b3 0), (9, vI x), (10, vI (k : Int)), (11, .slice pv S2.length cp2), (12, vI (i : Int)), (13, .slice pvl pre.length cpl), (38, .bool true)] ∧ (pre = preR x k i) ∧ HP (Out [Go.Proofs.Ytmjnakhpekbenaa.Fw.Ent.cel b3 #[vI s, vI y, vI l, vI m] 23, rowS pv cp2 S2]) w18 w2 [.cel b3 #[vI s, vI y, vI l, vI m] 23, rowS pv cp2 S2, rowI' pvl cpl pre]) ?_ ?_
     ·
      refine WC.seq fun K26 hK26 => WC.region (WL.z (vI (i : Int)) 41 (WL.z (vI (k : Int)) 42 ?_))
      by_cases h43 : (i : Int) = (k : Int)
      ·
       refine WL.y (.bool true) 43 (x_eql rfl rfl rfl (dT (h43))) (WL.k hK26 ?_)
       refine WC.yes rfl ?_
       refine WC.region (WL.z (.slice none 0 0) 44 (WL.z (vI x) 45 ?_))
       refine WL.alloc (c := #[vI x]) (T := 3) hH25 46 rfl (by decide) rfl rfl (fun b46 => vS b46 1 1) (by kernel_rfl) (fun b46 w27 hw27 => ?_)
       have hH28 : HP (Out [Go.Proofs.Ytmjnakhpekbenaa.Fw.Ent.cel b3 #[vI s, vI y, vI l, vI m] 23, rowS pv cp2 S2]) w18 w27 [.cel b3 #[vI s, vI y, vI l, vI m] 23, rowS pv cp2 S2, .own (.slice none 0 0) 0 [] 3 1, .cel b46 #[vI x] 3] := hw27.2
       have nb46 := hw27.1
       clear hw27
       obtain ⟨j0, hj0, jz0, jz1, jz2⟩ := infoI
       refine WL.append (news := [vI x]) 2 3 hH28 47 rfl (by decide) rfl rfl rfl rfl Try.underlying33 hj0 jz0 jz1 jz2 rfl (by decide) rfl rfl rfl rfl (by simp [Value.oneCell']) (by decide) (by decide) ?_
       rintro v7 w7 - hA7
       obtain ⟨pv7, cp7, rfl⟩ := own_row (HP.get hA7 2 rfl)
       have hH29 : HP (Out [Go.Proofs.Ytmjnakhpekbenaa.Fw.Ent.cel b3 #[vI s, vI y, vI l, vI m] 23, rowS pv cp2 S2]) w18 _ [.cel b3 #[vI s, vI y, vI l, vI m] 23, rowS pv cp2 S2, rowI' pv7 cp7 [x], .cel b46 #[vI x] 3] := HP.eq hA7 rfl
       refine WL.z (.slice pv7 (([x] : List Int).length) cp7) 13 (WL.nil (WQ.sb [(1, .slice (some ⟨gS, oS, none⟩) S.length cp), (2, vI a), (3, vP b3 0), (9, vI x), (10, vI (k : Int)), (11, .slice pv S2.length cp2), (12, vI (i : Int)), (13, .slice pv7 (([x] : List Int).length) cp7), (38, .bool true)] ?_))
       exact WQ.cut ⟨[x], pv7, cp7, rfl, by unfold preR; rw [if_pos (by omega)], (HP.drop hH29 3)⟩
      ·
       refine WL.y (.bool false) 43 (x_eql rfl rfl rfl (dF (h43))) (WL.k hK26 ?_)
       refine WC.no rfl ?_
       refine WC.skip (WQ.sb [(1, .slice (some ⟨gS, oS, none⟩) S.length cp), (2, vI a), (3, vP b3 0), (9, vI x), (10, vI (k : Int)), (11, .slice pv S2.length cp2), (12, vI (i : Int)), (13, .slice none (([] : List Int).length) 0), (38, .bool true)] ?_)
       exact WQ.cut ⟨[], none, 0, rfl, by unfold preR; rw [if_neg (by omega)], hH25⟩
     ·
      rintro lz w31 ⟨pre, pvl, cpl, rfl, hpre, hH30⟩
      have hpl : pre.length ≤ 1 := by rw [hpre]; unfold preR; split <;> simp
      refine WC.seq fun K32 hK32 => WC.seq fun K33 hK33 => WC.region (WL.z (vI 0) 14 (WL.k hK33 (WC.block ?_)))
      have hft0 : pre.length = (ftA y x pre rxs 0).length := by simp [ftA]
      rw [hft0]
      refine WC.loop (fun kk0 ll0 ww0 => ∃ (j : Nat) (pv6 : Option Addr) (cp6 : Nat), ll0 = [(1, .slice (some ⟨gS, oS, none⟩) S.length cp), (2, vI a), (3, vP b3 0), (9, vI x), (10, vI (k : Int)), (11, .slice pv S2.length cp2), (12, vI (i : Int)), (13, .slice pv6 ((ftA y x pre rxs j).length) cp6), (14, vI (j : Int))] ∧ kk0 = rxs.length - j ∧ (j ≤ rxs.length) ∧ HP (Out [Go.Proofs.Ytmjnakhpekbenaa.Fw.Ent.cel b3 #[vI s, vI y, vI l, vI m] 23, rowS pv cp2 S2]) w18 ww0 [.cel b3 #[vI s, vI y, vI l, vI m] 23, rowS pv cp2 S2, rowI' pv6 cp6 (ftA y x pre rxs j)]) (rxs.length) [(1, .slice (some ⟨gS, oS, none⟩) S.length cp), (2, vI a), (3, vP b3 0), (9, vI x), (10, vI (k : Int)), (11, .slice pv S2.length cp2), (12, vI (i : Int)), (13, .slice pvl ((ftA y x pre rxs 0).length) cpl), (14, vI 0)] ⟨rfl, rfl, rfl, rfl, rfl, rfl, rfl, rfl, rfl, trivial⟩ ⟨0, pvl, cpl, rfl, rfl, Nat.zero_le _, (HP.eq hH30 (by simp [ftA]))⟩ ?_
      rintro kk l w35 ⟨j, pv6, cp6, rfl, hkk, hj, hH36⟩ K34 hK34
      refine WC.seq fun K37 hK37 => WC.seq fun K38 hK38 => WC.region (WL.z (vI (j : Int)) 48 (WL.z (.slice (some ⟨gS, oS, none⟩) S.length cp) 49 (WL.z (vI (i : Int)) 50 (WL.y (vP gS (oS + i)) 51 (x_ix (i) (oS + i) Try.underlying24 sz33) (WL.y (.slice rq rxs.length rc) 52 (x_load rfl rfl Try.underlying33 rfl (by have q9 := (HP.oldRange hH36 hgS (hrowS i (by omega))) 0 _ rfl; rw [hr2] at q9; exact q9)) (WL.z (vI (rxs.length : Int)) 53 ?_))))))
      by_cases hlj : (j : Int) < (rxs.length : Int)
      ·
       refine WL.y (.bool true) 54 (x_lss rfl rfl rfl (dT (hlj))) (WL.k hK38 (WC.sb [(1, .slice (some ⟨gS, oS, none⟩) S.length cp), (2, vI a), (3, vP b3 0), (9, vI x), (10, vI (k : Int)), (11, .slice pv S2.length cp2), (12, vI (i : Int)), (13, .slice pv6 ((ftA y x pre rxs j).length) cp6), (14, vI (j : Int)), (54, .bool true)] ?_))
       refine WC.yes rfl ?_
       refine WC.skip (WQ.then (hK37 _ _ _ (WC.seq fun K39 hK39 => WC.block (WC.seq fun K40 hK40 => ?_))))
       obtain ⟨gx, ox, hqx, hrowx0⟩ := hIRw.row (by simpa using (show 0 < rxs.length by omega))
       simp only [] at hqx hrowx0
       have hgxl := row_lt hrowx0 (show 0 < rxs.length by omega) rfl
       have hrowx := fun i9 h9 => HP.oldRange (S := Tr) (HP.of_below (HP.below hInv)) trivial (hrowx0 i9 h9)
       have hgx := out_old hInv hgxl
       subst hqx
       refine WC.region (WL.z (.slice (some ⟨gS, oS, none⟩) S.length cp) 57 (WL.z (vI (i : Int)) 58 (WL.y (vP gS (oS + i)) 59 (x_ix (i) (oS + i) Try.underlying24 sz33) (WL.y (.slice (some ⟨gx, ox, none⟩) rxs.length rc) 60 (x_load rfl rfl Try.underlying33 rfl (by have q9 := (HP.oldRange hH36 hgS (hrowS i (by omega))) 0 _ rfl; rw [hr2] at q9; exact q9)) (WL.z (vI (j : Int)) 61 (WL.y (vP gx (ox + j)) 62 (x_ix (j) (ox + j) Try.underlying33 sz3) (WL.y (vI (rxs.getD j 0)) 63 (x_load rfl rfl Try.underlying3 rfl ((HP.oldRange hH36 hgx (hrowx j (by omega))) 0 _ rfl)) (WL.z (vI x) 64 ?_))))))))
       by_cases h65 : rxs.getD j 0 ≠ x
       ·
        refine WL.y (.bool true) 65 (x_neq rfl rfl rfl (dT (h65))) (WL.z (.bool true) 66 (WL.z (.slice pv6 ((ftA y x pre rxs j).length) cp6) 67 (WL.z (vI (((ftA y x pre rxs j).length : Nat) : Int)) 68 (WL.z (vP b3 1) 69 (WL.y (vI y) 70 (x_load rfl rfl Try.underlying3 rfl (HP.cell hH36 0 rfl rfl)) ?_)))))
        by_cases h71 : (((ftA y x pre rxs j).length : Nat) : Int) < y
        ·
         refine WL.y (.bool true) 71 (x_lss rfl rfl rfl (dT (h71))) (WL.z (.bool true) 72 (WL.k hK40 (WC.sb [(1, .slice (some ⟨gS, oS, none⟩) S.length cp), (2, vI a), (3, vP b3 0), (9, vI x), (10, vI (k : Int)), (11, .slice pv S2.length cp2), (12, vI (i : Int)), (13, .slice pv6 ((ftA y x pre rxs j).length) cp6), (14, vI (j : Int)), (54, .bool true), (72, .bool true)] ?_)))
         refine WC.yes rfl ?_
         refine WC.region (WL.z (.slice pv6 ((ftA y x pre rxs j).length) cp6) 73 (WL.z (.slice (some ⟨gS, oS, none⟩) S.length cp) 74 (WL.z (vI (i : Int)) 75 (WL.y (vP gS (oS + i)) 76 (x_ix (i) (oS + i) Try.underlying24 sz33) (WL.y (.slice (some ⟨gx, ox, none⟩) rxs.length rc) 77 (x_load rfl rfl Try.underlying33 rfl (by have q9 := (HP.oldRange hH36 hgS (hrowS i (by omega))) 0 _ rfl; rw [hr2] at q9; exact q9)) (WL.z (vI (j : Int)) 78 (WL.y (vP gx (ox + j)) 79 (x_ix (j) (ox + j) Try.underlying33 sz3) (WL.y (vI (rxs.getD j 0)) 80 (x_load rfl rfl Try.underlying3 rfl ((HP.oldRange hH36 hgx (hrowx j (by omega))) 0 _ rfl)) ?_))))))))
         refine WL.alloc (c := #[vI (rxs.getD j 0)]) (T := 3) hH36 81 rfl (by decide) rfl rfl (fun b81 => vS b81 1 1) (by kernel_rfl) (fun b81 w41 hw41 => ?_)
         have hH42 : HP (Out [Go.Proofs.Ytmjnakhpekbenaa.Fw.Ent.cel b3 #[vI s, vI y, vI l, vI m] 23, rowS pv cp2 S2]) w18 w41 [.cel b3 #[vI s, vI y, vI l, vI m] 23, rowS pv cp2 S2, rowI' pv6 cp6 (ftA y x pre rxs j), .cel b81 #[vI (rxs.getD j 0)] 3] := hw41.2
         have nb81 := hw41.1
         clear hw41
         obtain ⟨j0, hj0, jz0, jz1, jz2⟩ := infoI
         refine WL.append (news := [vI (rxs.getD j 0)]) 2 3 hH42 82 rfl (by decide) rfl rfl rfl rfl Try.underlying33 hj0 jz0 jz1 jz2 rfl (by decide) rfl rfl rfl rfl (by simp [Value.oneCell']) (by unfold maxLen; omega) (by omega) ?_
         rintro v7 w7 - hA7
         obtain ⟨pv7, cp7, rfl⟩ := own_row (HP.get hA7 2 rfl)
         have e7 : (ftA y x pre rxs j).length + 1 = ((ftA y x pre rxs j) ++ [rxs.getD j 0]).length := by simp
         rw [iR_push, e7] at hA7
         rw [e7]
         have hH43 : HP (Out [Go.Proofs.Ytmjnakhpekbenaa.Fw.Ent.cel b3 #[vI s, vI y, vI l, vI m] 23, rowS pv cp2 S2]) w18 _ [.cel b3 #[vI s, vI y, vI l, vI m] 23, rowS pv cp2 S2, rowI' pv7 cp7 ((ftA y x pre rxs j) ++ [rxs.getD j 0]), .cel b81 #[vI (rxs.getD j 0)] 3] := HP.eq hA7 rfl
         refine WL.z (.slice pv7 (((ftA y x pre rxs j) ++ [rxs.getD j 0]).length) cp7) 13 (WL.nil (WQ.inNormal (WQ.then (hK39 _ _ _ (WC.sb [(1, .slice (some ⟨gS, oS, none⟩) S.length cp), (2, vI a), (3, vP b3 0), (9, vI x), (10, vI (k : Int)), (11, .slice pv S2.length cp2), (12, vI (i : Int)), (13, .slice pv7 (((ftA y x pre rxs j) ++ [rxs.getD j 0]).length) cp7), (14, vI (j : Int)), (54, .bool true), (72, .bool true)] (WC.region (WL.z (vI (j : Int)) 55 (WL.y (vI ((j + 1 : Nat) : Int)) 56 (x_ad (((j + 1 : Nat) : Int))) (WL.z (vI ((j + 1 : Nat) : Int)) 14 (WL.nil ?_))))))))))
         have hft : ftA y x pre rxs (j + 1) = ftA y x pre rxs j ++ [rxs.getD j 0] := ft_add (by omega) h65 h71
         rw [← hft]
         refine WQ.sb [(1, .slice (some ⟨gS, oS, none⟩) S.length cp), (2, vI a), (3, vP b3 0), (9, vI x), (10, vI (k : Int)), (11, .slice pv S2.length cp2), (12, vI (i : Int)), (13, .slice pv7 ((ftA y x pre rxs (j + 1)).length) cp7), (14, vI ((j + 1 : Nat) : Int))] ?_
         refine WQ.then (hK34 _ _ _ (by omega) ⟨j + 1, pv7, cp7, rfl, rfl, by omega, (by rw [hft]; exact (HP.drop hH43 3))⟩)
        ·
         refine WL.y (.bool false) 71 (x_lss rfl rfl rfl (dF (h71))) (WL.z (.bool false) 72 (WL.k hK40 (WC.sb [(1, .slice (some ⟨gS, oS, none⟩) S.length cp), (2, vI a), (3, vP b3 0), (9, vI x), (10, vI (k : Int)), (11, .slice pv S2.length cp2), (12, vI (i : Int)), (13, .slice pv6 ((ftA y x pre rxs j).length) cp6), (14, vI (j : Int)), (54, .bool true), (72, .bool false)] ?_)))
         refine WC.no rfl ?_
         refine WC.skip (WQ.inNormal (WQ.then (hK39 _ _ _ (WC.region (WL.z (vI (j : Int)) 55 (WL.y (vI ((j + 1 : Nat) : Int)) 56 (x_ad (((j + 1 : Nat) : Int))) (WL.z (vI ((j + 1 : Nat) : Int)) 14 (WL.nil ?_))))))))
         have hft : ftA y x pre rxs (j + 1) = ftA y x pre rxs j := ft_full (by omega) (by omega) h71
         rw [← hft]
         refine WQ.sb [(1, .slice (some ⟨gS, oS, none⟩) S.length cp), (2, vI a), (3, vP b3 0), (9, vI x), (10, vI (k : Int)), (11, .slice pv S2.length cp2), (12, vI (i : Int)), (13, .slice pv6 ((ftA y x pre rxs (j + 1)).length) cp6), (14, vI ((j + 1 : Nat) : Int))] ?_
         refine WQ.then (hK34 _ _ _ (by omega) ⟨j + 1, pv6, cp6, rfl, rfl, by omega, (by rw [hft]; exact hH36)⟩)
       ·
        refine WL.y (.bool false) 65 (x_neq rfl rfl rfl (dF (h65))) (WL.z (.bool false) 66 (WL.p 67 (WL.p 68 (WL.p 69 (WL.p 70 (WL.p 71 (WL.z (.bool false) 72 (WL.k hK40 (WC.sb [(1, .slice (some ⟨gS, oS, none⟩) S.length cp), (2, vI a), (3, vP b3 0), (9, vI x), (10, vI (k : Int)), (11, .slice pv S2.length cp2), (12, vI (i : Int)), (13, .slice pv6 ((ftA y x pre rxs j).length) cp6), (14, vI (j : Int)), (54, .bool true), (72, .bool false)] ?_)))))))))
        refine WC.no rfl ?_
        refine WC.skip (WQ.inNormal (WQ.then (hK39 _ _ _ (WC.region (WL.z (vI (j : Int)) 55 (WL.y (vI ((j + 1 : Nat) : Int)) 56 (x_ad (((j + 1 : Nat) : Int))) (WL.z (vI ((j + 1 : Nat) : Int)) 14 (WL.nil ?_))))))))
        have hft : ftA y x pre rxs (j + 1) = ftA y x pre rxs j := ft_skip (by omega) (Classical.not_not.1 h65)
        rw [← hft]
        refine WQ.sb [(1, .slice (some ⟨gS, oS, none⟩) S.length cp), (2, vI a), (3, vP b3 0), (9, vI x), (10, vI (k : Int)), (11, .slice pv S2.length cp2), (12, vI (i : Int)), (13, .slice pv6 ((ftA y x pre rxs (j + 1)).length) cp6), (14, vI ((j + 1 : Nat) : Int))] ?_
        refine WQ.then (hK34 _ _ _ (by omega) ⟨j + 1, pv6, cp6, rfl, rfl, by omega, (by rw [hft]; exact hH36)⟩)
      ·
       refine WL.y (.bool false) 54 (x_lss rfl rfl rfl (dF (hlj))) (WL.k hK38 (WC.sb [(1, .slice (some ⟨gS, oS, none⟩) S.length cp), (2, vI a), (3, vP b3 0), (9, vI x), (10, vI (k : Int)), (11, .slice pv S2.length cp2), (12, vI (i : Int)), (13, .slice pv6 ((ftA y x pre rxs j).length) cp6), (14, vI (j : Int)), (54, .bool false)] ?_))
       refine WC.no rfl ?_
       refine WC.exit (WQ.thenExit (WQ.thenExit (WQ.inExit (WQ.then (hK32 _ _ _ ?_)))))
       have hft := ft_end (y := y) (xs := rxs) (j := j) hpre (by omega)
       have hftl : (ftA y x pre rxs j).length ≤ 10 := by unfold ftA; simp; omega
       refine WC.region (WL.z (.slice pv S2.length cp2) 83 (WL.z (.slice pv6 ((ftA y x pre rxs j).length) cp6) 84 ?_))
       refine WL.alloc (c := #[.slice pv6 ((ftA y x pre rxs j).length) cp6]) (T := 33) hH36 85 rfl (by decide) rfl rfl (fun b85 => vS b85 1 1) (by kernel_rfl) (fun b85 w44 hw44 => ?_)
       have hH45 : HP (Out [Go.Proofs.Ytmjnakhpekbenaa.Fw.Ent.cel b3 #[vI s, vI y, vI l, vI m] 23, rowS pv cp2 S2]) w18 w44 [.cel b3 #[vI s, vI y, vI l, vI m] 23, rowS pv cp2 S2, rowI' pv6 cp6 (ftA y x pre rxs j), .cel b85 #[.slice pv6 ((ftA y x pre rxs j).length) cp6] 33] := hw44.2
       have nb85 := hw44.1
       clear hw44
       obtain ⟨i0, hi0, hz0, hz1, hz2⟩ := infoL
       refine WL.append (news := [.slice pv6 (ftA y x pre rxs j).length cp6]) 1 3 hH45 86 rfl (by decide) rfl rfl rfl rfl Try.underlying24 hi0 hz0 hz1 hz2 rfl (by decide) rfl rfl rfl rfl (by simp [Value.oneCell']) (by unfold maxLen; omega) (by omega) ?_
       rintro v8 w8 - hA8
       obtain ⟨pv8, cp8, rfl⟩ := own_row (HP.get hA8 1 rfl)
       have hH46 : HP (Out [Go.Proofs.Ytmjnakhpekbenaa.Fw.Ent.cel b3 #[vI s, vI y, vI l, vI m] 23, rowS pv cp2 S2]) w18 _ [.cel b3 #[vI s, vI y, vI l, vI m] 23, .own (.slice pv8 (S2.length + 1) cp8) (S2.length + 1) (S2.map slV ++ [.slice pv6 (ftA y x pre rxs j).length cp6]) 33 1, rowI' pv6 cp6 (ftA y x pre rxs j), .cel b85 #[.slice pv6 ((ftA y x pre rxs j).length) cp6] 33] := hA8
       refine WL.z (.slice pv8 (S2.length + 1) cp8) 11 (WL.nil (WQ.inNormal (WQ.then (hK23 _ _ _ (WC.region (WL.z (vI (i : Int)) 39 (WL.y (vI ((i + 1 : Nat) : Int)) 40 (x_ad (((i + 1 : Nat) : Int))) (WL.z (vI ((i + 1 : Nat) : Int)) 12 (WL.nil ?_)))))))))
       have hE9 : HP Tr w _ ([Go.Proofs.Ytmjnakhpekbenaa.Fw.Ent.cel b3 #[vI s, vI y, vI l, vI m] 23, rowS pv8 cp8 (S2 ++ [(⟨pv6, ftA y x pre rxs j, cp6⟩ : SlI)])] ++ (S2 ++ [(⟨pv6, ftA y x pre rxs j, cp6⟩ : SlI)]).map rowE) := ow_end3 hInv (HP.drop hH46 3)
       rw [show S2.length + 1 = (S2 ++ [(⟨pv6, ftA y x pre rxs j, cp6⟩ : SlI)]).length by simp]
       refine WQ.sb [(1, .slice (some ⟨gS, oS, none⟩) S.length cp), (2, vI a), (3, vP b3 0), (9, vI x), (10, vI (k : Int)), (11, .slice pv8 ((S2 ++ [(⟨pv6, ftA y x pre rxs j, cp6⟩ : SlI)]).length) cp8), (12, vI ((i + 1 : Nat) : Int))] ?_
       refine WQ.then (hK17 _ _ _ (by omega) ⟨i + 1, (S2 ++ [(⟨pv6, ftA y x pre rxs j, cp6⟩ : SlI)]), pv8, cp8, rfl, rfl, by omega, by rw [rSt_step, ← hX9, hr1, ← hft]; simp [stX], hE9, (fun r9 h9 => by
                rcases List.mem_append.1 h9 with q | q
                · exact hWi9 r9 q
                · obtain rfl := List.mem_singleton.1 q; exact ft_wi (hIRw.hw) hxb (by rw [hpre])), HP.refl _⟩)
    ·
     refine WL.y (.bool false) 38 (x_lss rfl rfl rfl (dF (hlt))) (WL.k hK22 ?_)
     refine WC.no rfl ?_
     refine WC.exit (WQ.thenExit (WQ.thenExit (WQ.inExit (WQ.then (hK15 _ _ _ (WC.seq fun K47 hK47 => ?_))))))
     obtain ⟨⟨rq, rxs, rc⟩, hr⟩ : ∃ r, S[k]? = some r := ⟨S[k]'(by omega), List.getElem?_eq_getElem _⟩
     obtain ⟨hr1, hr2, hr3, hr4⟩ := stX_at hr
     obtain ⟨gS, oS, hpS, hrowS0⟩ := hS.row (by omega)
     have hgSl := row_lt hrowS0 (show 0 < S.length by omega) rfl
     have hrowS := fun i9 h9 => HP.oldRange (S := Tr) (HP.of_below (HP.below hInv)) trivial (hrowS0 i9 h9)
     have hgS := out_old hInv hgSl
     have hIRw := hS.inn _ hr4
     have hrl9 := hrl _ hr4
     simp only [] at hr1 hrl9
     subst hpS
     have hIRk := hIRw.below (HP.below hInv)
     refine WC.region (WL.z (.slice pv S2.length cp2) 87 (WL.z (.slice (some ⟨gS, oS, none⟩) S.length cp) 88 (WL.z (vI (k : Int)) 89 (WL.y (vP gS (oS + k)) 90 (x_ix (k) (oS + k) Try.underlying24 sz33) (WL.y (.slice rq rxs.length rc) 91 (x_load rfl rfl Try.underlying33 rfl (by have q9 := (HP.oldRange hH20 hgS (hrowS k (by omega))) 0 _ rfl; rw [hr2] at q9; exact q9)) (WL.z (vI x) 92 ?_))))))
     refine WL.c 42 #[.slice rq rxs.length rc, vI x] 93 ?_
     refine (place_any rq rxs rc _ (out_in3 hInv hIRw.row hH20) (by omega) x).mono ?_
     rintro e w48 ⟨rfl, hb49⟩
     refine ⟨_, rfl, ?_⟩
     have hH50 := HP.call hH20 hb49
     by_cases h94 : (0 : Int) ≤ plcV x rxs
     ·
      refine WL.y (.bool true) 94 (x_geq rfl rfl rfl (dT (h94))) (WL.z (.slice pv S2.length cp2) 6 (WL.z (.bool true) 7 (WL.z (vI 0) 8 (WL.k hK47 (WC.sb [(1, .slice (some ⟨gS, oS, none⟩) S.length cp), (2, vI a), (3, vP b3 0), (6, .slice pv S2.length cp2), (7, .bool true), (8, vI 0), (9, vI x), (10, vI (k : Int)), (11, .slice pv S2.length cp2), (12, vI (i : Int)), (38, .bool false)] (WC.ret ?_))))))
      refine WQ.ret3 6 7 8 rfl rfl rfl rfl ?_
      exact .inr ⟨hyes, pv, cp2, S2, by rw [hhit, hr1, if_pos h94]; rfl, by rw [hX9, show i = (stX S).length by rw [stX_len]; omega, heq], in_own (HP.get hH50 1 rfl) (out_rows hInv hH50 hWi9), out_below hInv hH50⟩
     ·
      refine WL.y (.bool false) 94 (x_geq rfl rfl rfl (dF (h94))) (WL.z (.slice pv S2.length cp2) 6 (WL.z (.bool false) 7 (WL.z (vI 0) 8 (WL.k hK47 (WC.sb [(1, .slice (some ⟨gS, oS, none⟩) S.length cp), (2, vI a), (3, vP b3 0), (6, .slice pv S2.length cp2), (7, .bool false), (8, vI 0), (9, vI x), (10, vI (k : Int)), (11, .slice pv S2.length cp2), (12, vI (i : Int)), (38, .bool false)] (WC.ret ?_))))))
      refine WQ.ret3 6 7 8 rfl rfl rfl rfl ?_
      exact .inr ⟨hyes, pv, cp2, S2, by rw [hhit, hr1, if_neg h94]; rfl, by rw [hX9, show i = (stX S).length by rw [stX_len]; omega, heq], in_own (HP.get hH50 1 rfl) (out_rows hInv hH50 hWi9), out_below hInv hH50⟩
 ·
  refine WL.c 19 #[.agg #[vI s, vI y, vI l, vI m], .slice p S.length cp] 17 ?_
  refine (rValidState_at hv p cp _ (hS.below (HP.below hH4)) hn).mono ?_
  rintro e w51 ⟨rfl, hb52⟩
  refine ⟨_, rfl, ?_⟩
  have hH53 := HP.call hH4 hb52
  refine WL.z (.bool true) 18 (WL.z (.bool true) 19 (WL.p 20 (WL.p 21 (WL.z (.bool true) 22 (WL.z (.bool true) 23 (WL.p 24 (WL.p 25 (WL.z (.bool true) 26 (WL.k hK6 ?_)))))))))
  refine WC.sb [(0, .agg #[vI s, vI y, vI l, vI m]), (1, .slice p S.length cp), (2, vI a), (3, vP b3 0), (6, .slice none 0 0), (7, .bool false), (8, vI 0), (26, .bool true)] ?_
  refine WC.yes rfl ?_
  refine WC.seq fun K54 hK54 => ?_
  have hno : tOk s y l m a (stX S) = false := by unfold tOk; rw [hv]; rfl
  refine WC.region (WL.z (.slice none 0 0) 6 (WL.z (.bool false) 7 (WL.z (vI 1) 8 (WL.k hK54 (WC.ret ?_)))))
  refine WQ.thenRet ?_
  refine WQ.ret3 6 7 8 rfl rfl rfl rfl ?_
  exact .inl ⟨hno, rfl, HP.below hH53⟩
end Ca
end Go.Proofs.Ytmjnakhpekbenaa
namespace Go.Proofs.Ytmjnakhpekbenaa
open Go.RowKit Fw Go.ChangeShapes Go.WideShapes
namespace Ca
structure SlIn (w : World) (p : Option Addr) (c : Nat) (xs : List Int) : Prop where
  nil : p = none → c = 0
  inn : InI w p xs
  wi : ∀ x ∈ xs, Wi x
  len : xs.length * 8 ≤ 140737488351232
theorem rowsI8 {H : Type} {enc : TypeId × Value → H} {W : World} {p : Option Addr} {n cap : Nat} {d : DataW H} {pl : List MemPlace}
    (h : DataW.Trod enc Try.prog W 0 (fun _ => true) true 33 (.slice p n cap) d pl) 
    (hz : ∀ elems spare, d = .slice elems spare → (elems.length + spare.length) * Try.prog.bytesOf 3 ≤ reachBytes) : ∃ xs : List Int, n = xs.length ∧ SlIn W p cap xs := by
  obtain ⟨fuel, hf⟩ := h
  rcases Go.ChangeShapes.open_ints (k := .i64) Try.underlying33 Try.underlying3 (by kernel_rfl) hf with ⟨hc, -⟩ | ⟨a, len, cap', zs, hc, -, hl, hm, hzz, hx, hcell, hw⟩
  · simp [Value.cells] at hc
    obtain ⟨rfl, rfl, rfl⟩ := hc
    exact ⟨[], rfl, ⟨fun _ => rfl, fun h => absurd h (by simp), fun x hx => by simp at hx, by simp⟩⟩
  · simp [Value.cells] at hc
    obtain ⟨rfl, rfl, rfl⟩ := hc
    simp only [if_true] at hzz
    simp only [Prod.mk.injEq] at hx
    have hz1 := hz _ _ hx.1
    rw [bytes3] at hz1
    simp only [lits, List.length_map, List.length_take, List.length_drop, reachBytes] at hz1
    have hlen : (zs.take n).length = n := by simp; omega
    refine ⟨zs.take n, hlen.symm, ⟨fun h => by (cases h), fun h0 => ?_, fun x hx => wi_of (hw x (List.mem_of_mem_take hx)), by rw [hlen]; omega⟩⟩
    have hsp := addr_none (hcell 0 (by omega))
    obtain ⟨b, o, sp⟩ := a
    have hsp2 : sp = none := by
      have e : ((⟨b, o, sp⟩ : Addr).add 0).spot = sp := by unfold Addr.add; split <;> simp_all
      rw [e] at hsp; exact hsp
    subst hsp2
    refine ⟨b, o, rfl, fun i hi j v hv => ?_⟩
    rw [hlen] at hi
    match j, hv with
    | 0, hv =>
      simp at hv; subst hv
      have hc := hcell i (by omega)
      rw [hadd] at hc
      rw [show o + i + 0 = o + i by omega, hc]
      simp [List.getD_eq_getElem?_getD, List.getElem?_take, hi]
    | j + 1, hv => simp at hv
def smX (X : List (List Int)) : Prop := X.length ≤ 281474976710656 ∧ ∀ x ∈ X, x.length ≤ 281474976710656
theorem smX_in {w : World} {p : Option Addr} {S : List SlI} (h : StIn w p S) : smX (stX S) := ⟨by rw [stX_len]; have := h.len; omega, fun x hx => by
  obtain ⟨r, hr, rfl⟩ := List.mem_map.1 hx
  have := h.rows r hr; omega⟩
theorem smX_ok {s y l m : Int} {X : List (List Int)} (h : okSt s y l m X = true) : smX X := by
  obtain ⟨h1, h2, h3⟩ := okSt_iff.1 h
  obtain ⟨hs, hy, -, -⟩ := vG_iff.1 h1
  refine ⟨by omega, fun x hx => ?_⟩
  obtain ⟨k, hk, rfl⟩ := List.mem_iff_getElem.1 hx
  have := (okR_iff.1 (h3 k hk)).1
  rw [List.getD_eq_getElem?_getD, List.getElem?_eq_getElem hk] at this
  simp only [Option.getD_some] at this; omega
theorem okSt_nil {s y l m : Int} (h : vG s y l m = true) : okSt s y l m (stX (nilS s.toNat)) = true := by
  obtain ⟨hs, hy, -, -⟩ := vG_iff.1 h
  refine okSt_iff.2 ⟨h, by rw [stX_len]; simp; omega, fun k hk => ?_⟩
  have e : (stX (nilS s.toNat)).getD k [] = [] := by
    simp only [stX, List.map_replicate, List.getD_eq_getElem?_getD, List.getElem?_replicate]
    split <;> rfl
  rw [e]
  exact okR_iff.2 ⟨by simp; omega, fun i hi => absurd hi (by simp)⟩
theorem rVSt_at {s y l m : Int} {X : List (List Int)} {r : Bool} (h : okSt s y l m X = r) (p : Option Addr) (S : List SlI) (cp : Nat) (w : World) (hS : InS2 w p S) (hX : stX S = X) (hm : smX X) :
    Calls Try.prog 19 #[.agg #[vI s, vI y, vI l, vI m], .slice p S.length cp] w fun e w' => e = .returned (.bool r) ∧ Below w.heap.size w w' := by
  subst hX; exact h ▸ rValidState_any s y l m p S cp w hS (by rw [← stX_len]; exact hm.1)
theorem own3_any (p : Option Addr) (S : List SlI) (cp : Nat) (w : World) (hS : StIn w p S) :
    Calls Try.prog 11 #[.slice p S.length cp] w fun e w' => ∃ pv cp' S', e = .returned (.slice pv S'.length cp') ∧ stX S' = stX S ∧ InS2 w' pv S' ∧ Below w.heap.size w w' :=
  own_any p S cp w hS.inn hS.len hS.rows hS.nil
def TouQ (s y l m a : Int) (X : List (List Int)) (w : World) (e : Ending) (w' : World) : Prop :=
  (tOk s y l m a X = false ∧ e = .returned (.tuple #[.slice none 0 0, .bool false, vI 1]) ∧ Below w.heap.size w w') ∨
  (tOk s y l m a X = true ∧ ∃ pv cp S', e = .returned (.tuple #[.slice pv S'.length cp, .bool (decide (hitN s l a X = 1)), vI 0]) ∧ stX S' = stp s y l a X ∧ InS2 w' pv S' ∧ Below w.heap.size w w')
theorem rTouch3_any {X : List (List Int)} (s y l m a : Int) (p : Option Addr) (S : List SlI) (cp : Nat) (w : World) (hS : InS2 w p S) (hX : stX S = X) (hm : smX X) :
    Calls Try.prog 13 #[.agg #[vI s, vI y, vI l, vI m], .slice p S.length cp, vI a] w (TouQ s y l m a X w) := by
  subst hX; exact rTouch_any s y l m a p S cp w hS (by rw [← stX_len]; exact hm.1)
theorem tOk_iff {s y l m a : Int} {X : List (List Int)} : tOk s y l m a X = true ↔ okSt s y l m X = true ∧ 0 ≤ a ∧ a ≤ 999 := by
  unfold tOk; rw [Bool.and_eq_true, wn_iff]
theorem rTouch_yes3 {X : List (List Int)} (s y l m a : Int) (p : Option Addr) (S : List SlI) (cp : Nat) (w : World) (hS : InS2 w p S) (hX : stX S = X) (h : tOk s y l m a X = true) :
    Calls Try.prog 13 #[.agg #[vI s, vI y, vI l, vI m], .slice p S.length cp, vI a] w fun e w' => ∃ pv cp S', e = .returned (.tuple #[.slice pv S'.length cp, .bool (decide (hitN s l a X = 1)), vI 0]) ∧ stX S' = stp s y l a X ∧ InS2 w' pv S' ∧ Below w.heap.size w w' :=
  (rTouch3_any s y l m a p S cp w hS hX (smX_ok (tOk_iff.1 h).1)).mono fun e w' q => by
    rcases q with ⟨q, -⟩ | ⟨-, q⟩
    · rw [h] at q; cases q
    · exact q
end Ca
end Go.Proofs.Ytmjnakhpekbenaa
namespace Go.Proofs.Ytmjnakhpekbenaa
open Go.RowKit Fw
namespace Ca
theorem tmod_k {x s : Int} (hx : 0 ≤ x) (hs : 1 ≤ s) : ∃ k : Nat, x.tmod s = (k : Int) ∧ (k : Int) < s := by
  have h1 : x.tmod s = x % s := Int.tmod_eq_emod_of_nonneg hx
  have h2 := Int.emod_nonneg x (show s ≠ 0 by omega)
  have h3 := Int.emod_lt_of_pos x (show 0 < s by omega)
  exact ⟨(x % s).toNat, by rw [h1]; omega, by omega⟩
end Ca
end Go.Proofs.Ytmjnakhpekbenaa
namespace Go.Proofs.Ytmjnakhpekbenaa
open Fw
namespace Ca
theorem plcV_at {xs : List Int} (hn : xs.Nodup) {z : Int} {p : Nat} (h : xs[p]? = some z) : plcV z xs = (p : Int) := by
  have hp := (List.getElem?_eq_some_iff.1 h).1
  have hz := (List.getElem?_eq_some_iff.1 h).2
  have e : plc z xs = some p := plc_some hp (by rw [List.getD_eq_getElem?_getD, h]; rfl) fun i hi => by
    rw [List.getD_eq_getElem?_getD, List.getElem?_eq_getElem (by omega)]
    simp only [Option.getD_some]
    intro q
    have := (List.nodup_iff_pairwise_ne.1 hn)
    have := List.pairwise_iff_getElem.1 this i p (by omega) hp hi
    exact this (by rw [q, hz])
  unfold plcV; rw [e]
theorem plcV_in {xs : List Int} {z : Int} (h : 0 ≤ plcV z xs) : ∃ p : Nat, plcV z xs = (p : Int) ∧ xs[p]? = some z := by
  rcases plc_spec z xs with ⟨h1, -⟩ | ⟨k, h1, h2, h3, -⟩
  · unfold plcV at h; rw [h1] at h; exact absurd h (by decide)
  · refine ⟨k, by unfold plcV; rw [h1], ?_⟩
    rw [List.getD_eq_getElem?_getD, List.getElem?_eq_getElem h2] at h3
    rw [List.getElem?_eq_getElem h2]; simpa using h3
theorem filter_at {xs : List Int} (hn : xs.Nodup) {x : Int} {px : Nat} (h : xs[px]? = some x) (j : Nat) : (xs.filter fun z => z != x)[j]? = if j < px then xs[j]? else xs[j + 1]? := by
  have hp := (List.getElem?_eq_some_iff.1 h).1
  rw [← erase_eq hn hp (by rw [List.getD_eq_getElem?_getD, h]; rfl), List.getElem?_eraseIdx]
theorem filter_no {xs : List Int} {x : Int} (h : x ∉ xs) : (xs.filter fun z => z != x) = xs := filter_self h
theorem mem_or {xs : List Int} (x : Int) : x ∉ xs ∨ ∃ px : Nat, xs[px]? = some x := by
  by_cases h : x ∈ xs
  · exact .inr (List.mem_iff_getElem?.1 h)
  · exact .inl h
theorem tc_fwd {xs : List Int} {y x z : Int} {p : Nat} (hn : xs.Nodup) (hl : (xs.length : Int) ≤ y) (hy : 1 ≤ y) (hz : z ≠ x) (h : xs[p]? = some z) :
    (∀ px : Nat, xs[px]? = some x → (p < px → (tcF y x xs)[p + 1]? = some z) ∧ (px < p → (tcF y x xs)[p]? = some z)) ∧ (x ∉ xs → (p : Int) < y - 1 → (tcF y x xs)[p + 1]? = some z) := by
  have hp := (List.getElem?_eq_some_iff.1 h).1
  refine ⟨fun px hx => ?_, fun hx hpy => ?_⟩
  · have hpx := (List.getElem?_eq_some_iff.1 hx).1
    constructor
    · intro hlt
      unfold tcF
      rw [List.getElem?_cons_succ, List.getElem?_take, if_pos (by omega), filter_at hn hx, if_pos hlt]; exact h
    · intro hlt
      unfold tcF
      obtain ⟨q, rfl⟩ : ∃ q, p = q + 1 := ⟨p - 1, by omega⟩
      rw [List.getElem?_cons_succ, List.getElem?_take, if_pos (by omega), filter_at hn hx, if_neg (by omega)]; exact h
  · unfold tcF
    rw [List.getElem?_cons_succ, List.getElem?_take, if_pos (by omega), filter_no hx]; exact h
theorem tcF_nodup {xs : List Int} {y x : Int} (hn : xs.Nodup) : (tcF y x xs).Nodup := by
  unfold tcF
  refine List.nodup_cons.2 ⟨fun h => ?_, List.Nodup.sublist (List.take_sublist _ _) (List.Nodup.sublist List.filter_sublist hn)⟩
  have := (List.mem_filter.1 (List.mem_of_mem_take h)).2
  simp at this
def mustP (s : Int) (X : List (List Int)) (t : List T2) : Prop := ∀ z c, ageT t z = some c → 0 ≤ plcV z (X.getD (z.tmod s).toNat []) ∧ plcV z (X.getD (z.tmod s).toNat []) ≤ c
section
variable {s y l m : Int}
theorem row_ok {X : List (List Int)} (h : okSt s y l m X = true) {k : Nat} (hk : k < X.length) : ((X.getD k []).length : Int) ≤ y ∧ (∀ x ∈ X.getD k [], (0 ≤ x ∧ x ≤ 999) ∧ x.tmod s = (k : Int)) ∧ (X.getD k []).Nodup :=
  okR_iff2.1 ((okSt_iff.1 h).2.2 k hk)
theorem stp_row {X : List (List Int)} {a : Int} (h : okSt s y l m X = true) (ha : 0 ≤ a ∧ a ≤ 999) (k : Nat) (hk : k < X.length) :
    (stp s y l a X).getD k [] = if k = setN s l a then tcF y (a / l) (X.getD k []) else X.getD k [] := by
  obtain ⟨h1, h2, h3⟩ := okSt_iff.1 h
  obtain ⟨hs, hy, hl, -⟩ := vG_iff.1 h1
  obtain ⟨e1, e2⟩ := setN_spec hs hl ha
  unfold stp
  by_cases e : k = setN s l a
  · rw [if_pos e, ← e, getD_set_eq hk, tcX_eq (h3 k hk) hy.1]
  · rw [if_neg e, getD_set_ne (fun q => e q.symm)]
theorem must_touch {X : List (List Int)} {t : List T2} {a : Int} (h : okSt s y l m X = true) (hV : VT s y l m t) (ha : 0 ≤ a ∧ a ≤ 999) (hm : mustP s X t) : mustP s (stp s y l a X) (tcH s y (a / l) 0 t) := by
  obtain ⟨h1, h2, h3⟩ := okSt_iff.1 h
  obtain ⟨hs, hy, hl, -⟩ := vG_iff.1 h1
  obtain ⟨e1, e2⟩ := setN_spec hs hl ha
  have hK : setN s l a < X.length := by omega
  intro z c hc
  rw [age_tc hV] at hc
  unfold agA at hc
  by_cases hz : z = a / l
  · rw [if_pos hz] at hc; cases hc
    subst hz
    rw [e1, Int.toNat_natCast, stp_row h ha _ hK, if_pos rfl]
    have hp : plcV (a / l) (tcF y (a / l) (X.getD (setN s l a) [])) = ((0 : Nat) : Int) := plcV_at (tcF_nodup (row_ok h hK).2.2) rfl
    rw [hp]; omega
  · rw [if_neg hz] at hc
    obtain ⟨c0, g1, g2⟩ := Option.bind_eq_some_iff.1 hc
    obtain ⟨b1, b2⟩ := hm z c0 g1
    have hzr := (hV.age g1).1
    obtain ⟨k, hk, hks⟩ := tmod_k hzr.1 hs.1
    rw [hk, Int.toNat_natCast] at b1 b2 ⊢
    have hkl : k < X.length := by omega
    rw [stp_row h ha k hkl]
    unfold agS at g2
    by_cases hkk : k = setN s l a
    · rw [if_pos hkk]
      rw [if_pos (by rw [hk, e1, hkk])] at g2
      obtain ⟨p, hp1, hp2⟩ := plcV_in b1
      rw [hp1] at b2
      obtain ⟨r1, -, r3⟩ := row_ok h hkl
      have hfw := tc_fwd (y := y) (x := a / l) r3 r1 hy.1 hz hp2
      have hnd := tcF_nodup (y := y) (x := a / l) r3
      simp only [Int.add_zero] at g2
      split at g2
      · rename_i hlt
        cases g2
        rcases mem_or (xs := X.getD k []) (a / l) with hx | ⟨px, hx⟩
        · -- the line was not there: so the table does not have it
          have hno : ageT t (a / l) = none := by
            cases q : ageT t (a / l) with
            | none => rfl
            | some d =>
              have q2 := (hm _ _ q).1
              rw [e1, Int.toNat_natCast, ← hkk] at q2
              obtain ⟨px, -, hpx⟩ := plcV_in q2
              exact absurd (List.mem_of_getElem? hpx) hx
          rw [hno] at hlt ⊢
          have hc0 := (hV.age g1).2
          have e9 : bmp ((none : Option Int).getD y) c0 = c0 + 1 := by unfold bmp; rw [if_pos (by simp; omega)]
          rw [e9] at hlt ⊢
          have := plcV_at hnd (hfw.2 hx (by omega))
          rw [this]; omega
        · have hd : ∀ d, ageT t (a / l) = some d → (px : Int) ≤ d := fun d q => by
            have q2 := hm _ _ q
            rw [e1, Int.toNat_natCast, ← hkk] at q2
            rw [plcV_at r3 hx] at q2
            exact q2.2
          have hne : p ≠ px := fun q => hz (by rw [q, hx] at hp2; cases hp2; rfl)
          rcases Nat.lt_or_gt_of_ne hne with hlt2 | hgt
          · rw [plcV_at hnd ((hfw.1 px hx).1 hlt2)]
            have hc0 := (hV.age g1).2
            refine ⟨by omega, ?_⟩
            unfold bmp
            split
            · omega
            · rename_i hge
              cases q : ageT t (a / l) with
              | none => rw [q] at hge; simp at hge; omega
              | some d => rw [q] at hge; have := hd d q; simp at hge; omega
          · rw [plcV_at hnd ((hfw.1 px hx).2 hgt)]
            refine ⟨by omega, ?_⟩
            unfold bmp; split <;> omega
      · cases g2
    · rw [if_neg hkk]
      rw [if_neg (by rw [hk, e1]; omega)] at g2
      split at g2
      · cases g2; exact ⟨b1, b2⟩
      · cases g2
end
end Ca
end Go.Proofs.Ytmjnakhpekbenaa
namespace Go.Proofs.Ytmjnakhpekbenaa
open Go.RowKit Fw
namespace Ca
def cN (p : Nat → Bool) (L : Nat) : Nat := ((List.range L).filter p).length
theorem cN_succ (p : Nat → Bool) (L : Nat) : cN p (L + 1) = cN p L + if p L = true then 1 else 0 := by
  unfold cN
  rw [List.range_succ, List.filter_append, List.length_append]
  cases h : p L <;> simp [h]
theorem cN_mono {p q : Nat → Bool} : ∀ {L : Nat}, (∀ z, z < L → p z = true → q z = true) → cN p L ≤ cN q L
  | 0, _ => Nat.le_refl _
  | L + 1, h => by
    have := cN_mono (L := L) fun z hz => h z (by omega)
    have h2 := h L (by omega)
    rw [cN_succ, cN_succ]
    cases hp : p L with
    | false => simp; omega
    | true => rw [h2 hp]; simp; omega
theorem cN_congr {p q : Nat → Bool} {L : Nat} (h : ∀ z, z < L → p z = q z) : cN p L = cN q L :=
  Nat.le_antisymm (cN_mono fun z hz hp => by rw [← h z hz]; exact hp) (cN_mono fun z hz hp => by rw [h z hz]; exact hp)
theorem cN_one {p q : Nat → Bool} {x : Nat} : ∀ {L : Nat}, (∀ z, z < L → p z = true → q z = true ∨ z = x) → cN p L ≤ cN q L + if x < L then 1 else 0
  | 0, _ => Nat.zero_le _
  | L + 1, h => by
    have ih := cN_one (L := L) fun z hz => h z (by omega)
    have h2 := h L (by omega)
    rw [cN_succ, cN_succ]
    have i1 : (if x < L then 1 else 0 : Nat) ≤ (if x < L + 1 then 1 else 0) := by split <;> split <;> omega
    cases hp : p L with
    | false => rw [if_neg Bool.false_ne_true]; omega
    | true =>
      rw [if_pos rfl]
      rcases h2 hp with hq | rfl
      · rw [hq, if_pos rfl]; omega
      · have h3 : ¬ L < L := Nat.lt_irrefl _
        rw [if_neg h3] at ih
        rw [if_pos (Nat.lt_succ_self L)]; omega
theorem cN_add {p q : Nat → Bool} {x : Nat} : ∀ {L : Nat}, x < L → (∀ z, z < L → (p z = true ↔ q z = true ∨ z = x)) → q x = false → cN p L = cN q L + 1
  | 0, h, _, _ => by omega
  | L + 1, hx, h, hq => by
    rw [cN_succ, cN_succ]
    by_cases e : x = L
    · subst e
      have h1 : cN p x = cN q x := cN_congr fun z hz => by
        have h3 := h z (by omega)
        cases hp : p z <;> cases hq2 : q z <;> simp [hp, hq2] at h3 <;> first | rfl | omega
      have h2 : p x = true := (h x (by omega)).2 (.inr rfl)
      rw [h1, h2, hq]; simp
    · have ih := cN_add (L := L) (by omega) (fun z hz => h z (by omega)) hq
      have h2 := h L (by omega)
      have h3 : p L = q L := by
        cases hp : p L <;> cases hq2 : q L <;> simp [hp, hq2] at h2 <;> first | rfl | omega
      rw [ih, h3]; omega
section
variable {s : Nat} {y l m : Int}
end
end Ca
end Go.Proofs.Ytmjnakhpekbenaa
namespace Go.Proofs.Ytmjnakhpekbenaa
set_option maxRecDepth 20000
set_option maxHeartbeats 4000000
open Go.Maps Go.RowKit Go.Sort Fw
namespace Ca
theorem range1 {w : World} {b off : Nat} {v : Value} (h : w.cell? ⟨b, off, none⟩ = some v) : w.rangeAt b off [v] := fun j u hu => by
  match j, hu with
  | 0, hu => cases hu; exact h
  | j + 1, hu => simp at hu
theorem one1 {w : World} {b : Nat} {cs : List Value} (h : w.rangeAt b 0 cs) : ∀ i, i < 1 → w.rangeAt b i cs := fun i hi => by
  have e0 : i = 0 := by omega
  subst e0; exact h
theorem prc_stay {m : Int} {f : Nat → Bool} {q : Nat → Int} {i : Nat} (hq : ∀ j, q j = if j < i then prc m f j else 0) (hf : f i = true) : ∀ j, q j = if j < i + 1 then prc m f j else 0 := fun j => by
  rw [hq j]
  by_cases e : j = i
  · subst e; rw [if_neg (Nat.lt_irrefl _), if_pos (Nat.lt_succ_self _)]; unfold prc; rw [if_pos hf]
  · by_cases h : j < i
    · rw [if_pos h, if_pos (by omega)]
    · rw [if_neg h, if_neg (by omega)]
theorem prc_step {m : Int} {f : Nat → Bool} {q : Nat → Int} {i : Nat} (hq : ∀ j, q j = if j < i then prc m f j else 0) (hf : f i = false) : ∀ j, upI q i m j = if j < i + 1 then prc m f j else 0 := fun j => by
  unfold upI
  by_cases e : j = i
  · subst e; rw [if_pos rfl, if_pos (Nat.lt_succ_self _)]; unfold prc; rw [hf]; rfl
  · rw [if_neg e, hq j]
    by_cases h : j < i
    · rw [if_pos h, if_pos (by omega)]
    · rw [if_neg h, if_neg (by omega)]
theorem prc_end {m : Int} {f : Nat → Bool} {q : Nat → Int} {i j : Nat} (hq : ∀ j, q j = if j < i then prc m f j else 0) (h : j < i) : q j = prc m f j := by rw [hq j, if_pos h]
theorem div_bd {l : Int} (hl : 1 ≤ l ∧ l ≤ 8) {i : Nat} (hi : i ≤ 999) : ∃ a : Nat, (i : Int) / l = (a : Int) ∧ a < 1000 := by
  obtain ⟨h1, h2⟩ := line_of hl hi
  exact ⟨((i : Int) / l).toNat, by omega, by omega⟩
theorem mul_bd {m x : Int} (hm : 0 ≤ m ∧ m ≤ 100) (hx : 0 ≤ x) : 0 ≤ m * x ∧ m * x ≤ 100 * x := ⟨Int.mul_nonneg hm.1 hx, Int.mul_le_mul_of_nonneg_right hm.2 hx⟩
end Ca
namespace Fw
open Ca
theorem WL.mapMakeH {P : Program} {ops : Array Oper} {Q : Exit → Act → World → Prop} {rest : List Oper} {n : Nat} {l : List (Nat × Value)} {w w0 : World} {S : Nat → Prop} {H : List Ent} {o : Oper} {t k e : TypeId} (hH : HP S w0 w H) (d : Nat) (hd : o.dst = some d) (hn : d < n) (hw : wants ops l o = some true) (ho : o.op = .makeMap t none)
    (h : ∀ mb w', w0.heap.size ≤ mb → (∀ e ∈ H, e.blk ≠ some mb) → HP S w0 w' H → w'.ownsMap P k (plainElem (H := Unit) P e) mb 0 (.map []) → WL P ops Q rest n ((d, .map (some mb)) :: l) w') : WL P ops Q (o :: rest) n l w :=
  WL.mapMake d hd hn hw ho (h _ _ hH.size (fun e he q => Nat.lt_irrefl _ (Ent.lt (hH.hold e he) q)) (hH.obj _) (World.ownsMap_made w P k _))
end Fw
namespace Ca
theorem Penalty_any (s y l m : Int) (p : Option Addr) (n cap : Nat) (c A B : Nat → Int) (w : World) (hIn : Ec.InC w p n c A B) (hn : n ≤ 400) :
  Calls Try.prog 24 #[.agg #[vI s, vI y, vI l, vI m], .slice p n cap] w fun e w' => ((okC s y l m c A B n = false ∧ e = .returned (.tuple #[vI 0, vI 1])) ∨ (okC s y l m c A B n = true ∧ e = .returned (.tuple #[vI (penV s y l m c A n), vI 0]))) ∧ Below w.heap.size w w' := by
 refine calls_of Try.func24 rfl (m := 48) rfl [(0, .agg #[vI s, vI y, vI l, vI m]), (1, .slice p n cap)] (Fr_enter [.agg #[vI s, vI y, vI l, vI m], .slice p n cap] 48 (Nat.le_of_ble_eq_true rfl)) ?_
 have hH1 : HP Tr w w [] := HP.refl w
 refine WC.seq fun K2 hK2 => WC.region ?_
 refine WL.alloc (c := #[vI s, vI y, vI l, vI m]) (T := 23) hH1 2 rfl (by decide) rfl rfl (fun b2 => vP b2 0) (by kernel_rfl) (fun b2 w3 hw3 => ?_)
 have hH4 : HP Tr w w3 [.cel b2 #[vI s, vI y, vI l, vI m] 23] := hw3.2
 have nb2 := hw3.1
 clear hw3
 refine WL.z (vI 0) 4 (WL.z (vI 0) 5 (WL.k hK2 (WC.seq fun K5 hK5 => WC.region (WL.y (.agg #[vI s, vI y, vI l, vI m]) 12 (x_loadS (cs := [vI s, vI y, vI l, vI m]) rfl rfl Try.underlying23 rfl sz23 (HP.range hH4 0 rfl rfl)) (WL.z (.slice p n cap) 13 ?_)))))
 refine WL.c 46 #[.agg #[vI s, vI y, vI l, vI m], .slice p n cap] 14 ?_
 refine (MustA s y l m p n cap c A B _ (hIn.below (HP.below hH4)) hn).mono ?_
 rintro e w4 (⟨hno, rfl, hb⟩ | ⟨hyes, go, rfl, hb⟩)
 ·
  refine ⟨_, rfl, ?_⟩
  have hH6 := HP.call hH4 hb
  refine WL.z (.tuple #[.slice none 0 0, vI 1]) 11 (WL.z (.slice none 0 0) 15 (WL.z (vI 1) 16 (WL.z (.slice none 0 0) 6 (WL.z (vI 1) 7 (WL.k hK5 (WC.sb [(0, .agg #[vI s, vI y, vI l, vI m]), (1, .slice p n cap), (2, vP b2 0), (4, vI 0), (5, vI 0), (6, .slice none 0 0), (7, vI 1)] (WC.seq fun K7 hK7 => WC.seq fun K8 hK8 => WC.region ?_)))))))
  refine WL.z (vI 1) 17 (WL.y (.bool true) 18 (x_neq rfl rfl rfl (by decide)) (WL.k hK8 ?_))
  refine WC.yes rfl ?_
  refine WC.seq fun K9 hK9 => WC.region (WL.z (vI 1) 19 (WL.z (vI 0) 4 (WL.z (vI 1) 5 (WL.k hK9 (WC.ret ?_)))))
  refine WQ.thenRet ?_
  refine WQ.ret2 4 5 rfl rfl rfl ?_
  exact ⟨.inl ⟨hno, rfl⟩, HP.below hH6⟩
 ·
  refine ⟨_, rfl, ?_⟩
  have hH10 : HP Tr w _ [.cel b2 #[vI s, vI y, vI l, vI m] 23, .cel go (brow n (mk0 s y l c n (trC c n))) 4] := HP.trans hH4 hb
  obtain ⟨hg0, hc0, hf0⟩ := okC_iff.1 hyes
  have hg := vG_iff.1 hg0
  have hn9 := (Ec.chk_ok hc0).1
  have hpb := prc_bd (m := m) hg.2.2.2 (mk0 s y l c n (trC c n))
  refine WL.z (.tuple #[vS go n n, vI 0]) 11 (WL.z (vS go n n) 15 (WL.z (vI 0) 16 (WL.z (vS go n n) 6 (WL.z (vI 0) 7 (WL.k hK5 (WC.sb [(0, .agg #[vI s, vI y, vI l, vI m]), (1, .slice p n cap), (2, vP b2 0), (4, vI 0), (5, vI 0), (6, vS go n n), (7, vI 0)] (WC.seq fun K11 hK11 => WC.seq fun K12 hK12 => WC.region ?_)))))))
  refine WL.z (vI 0) 17 (WL.y (.bool false) 18 (x_neq rfl rfl rfl (by decide)) (WL.k hK12 ?_))
  refine WC.no rfl ?_
  refine WC.skip (WQ.then (hK11 _ _ _ (WC.seq fun K13 hK13 => WC.region (WL.z (.slice p n cap) 20 (WL.z (.slice p n cap) 21 (WL.z (vI (n : Int)) 22 ?_))))))
  refine WL.alloc (c := irow n (fun _ => 0)) (T := 3) hH10 23 rfl (by decide) rfl rfl (fun gp => vS gp n n) (x_makeR rfl rfl rfl (Ec.makeI2 n hn _)) (fun gp w9 hw9 => ?_)
  have hH14 : HP Tr w w9 [.cel b2 #[vI s, vI y, vI l, vI m] 23, .cel go (brow n (mk0 s y l c n (trC c n))) 4, .cel gp (irow n (fun _ => 0)) 3] := hw9.2
  clear hw9
  refine WL.z (.agg #[.slice p n cap, vS gp n n]) 24 ?_
  refine WL.alloc (c := #[.slice p n cap, vS gp n n]) (T := 69) hH14 25 rfl (by decide) rfl rfl (fun b25 => vP b25 0) (by kernel_rfl) (fun b25 w15 hw15 => ?_)
  have hH16 : HP Tr w w15 [.cel b2 #[vI s, vI y, vI l, vI m] 23, .cel go (brow n (mk0 s y l c n (trC c n))) 4, .cel gp (irow n (fun _ => 0)) 3, .cel b25 #[.slice p n cap, vS gp n n] 69] := hw15.2
  have nb25 := hw15.1
  clear hw15
  refine WL.z (vP b25 0) 8 (WL.k hK13 (WC.sb [(0, .agg #[vI s, vI y, vI l, vI m]), (1, .slice p n cap), (2, vP b2 0), (4, vI 0), (5, vI 0), (6, vS go n n), (7, vI 0), (8, vP b25 0), (18, .bool false)] (WC.seq fun K17 hK17 => WC.seq fun K18 hK18 => WC.region (WL.z (vS go n n) 26 (WL.z (vI (n : Int)) 27 (WL.z (vI 0) 28 (WL.nil ?_)))))))
  refine WQ.then (hK18 _ _ _ (WC.block ?_))
  refine WC.loop (fun kk0 ll0 ww0 => ∃ (i : Nat) (q : Nat → Int), ll0 = [(1, .slice p n cap), (2, vP b2 0), (8, vP b25 0), (26, vS go n n), (27, vI (n : Int)), (28, vI (i : Int))] ∧ kk0 = n - i ∧ (i ≤ n) ∧ (∀ j, q j = if j < i then prc m (mk0 s y l c n (trC c n)) j else 0) ∧ HP Tr w ww0 [.cel b2 #[vI s, vI y, vI l, vI m] 23, .cel go (brow n (mk0 s y l c n (trC c n))) 4, .cel gp (irow n q) 3, .cel b25 #[.slice p n cap, vS gp n n] 69]) (n) [(1, .slice p n cap), (2, vP b2 0), (8, vP b25 0), (26, vS go n n), (27, vI (n : Int)), (28, vI 0)] ⟨rfl, rfl, rfl, rfl, rfl, rfl, trivial⟩ ⟨0, (fun _ => 0), rfl, rfl, Nat.zero_le _, (fun j => by rw [if_neg (Nat.not_lt_zero _)]), hH16⟩ ?_
  rintro kk l w20 ⟨i, q, rfl, hkk, hi, hq, hH21⟩ K19 hK19
  refine WC.seq fun K22 hK22 => WC.region ?_
  by_cases hlt : (i : Int) < (n : Int)
  ·
   refine WL.y (.bool true) 29 (x_lss rfl rfl rfl (dT (hlt))) (WL.k hK22 (WC.seq fun K23 hK23 => ?_))
   refine WC.yes rfl ?_
   refine WC.skip (WQ.then (hK23 _ _ _ (WC.seq fun K24 hK24 => WC.block (WC.seq fun K25 hK25 => WC.region (WL.z (vI (i : Int)) 30 (WL.y (vP go i) 31 (x_ix (i) (i) Try.underlying39 sz4) (WL.y (.bool ((mk0 s y l c n (trC c n)) i)) 32 (x_load rfl rfl Try.underlying4 rfl (HP.cell hH21 1 rfl (brow_get (by omega) rfl))) (WL.z (vI (i : Int)) 9 (WL.z (.bool ((mk0 s y l c n (trC c n)) i)) 10 ?_)))))))))
   refine WL.k hK25 (WC.seq fun K26 hK26 => WC.region (WL.z (.bool ((mk0 s y l c n (trC c n)) i)) 33 (WL.z (.bool (!((mk0 s y l c n (trC c n)) i))) 34 (WL.k hK26 ?_))))
   rcases Bool.eq_false_or_eq_true ((mk0 s y l c n (trC c n)) i) with hf | hf
   ·
    refine WC.no (congrArg (fun b => some (Value.bool (!b))) hf) ?_
    refine WC.skip (WQ.inNormal (WQ.then (hK24 _ _ _ (WC.region (WL.y (vI ((i + 1 : Nat) : Int)) 43 (x_ad (((i + 1 : Nat) : Int))) (WL.z (vI ((i + 1 : Nat) : Int)) 28 (WL.nil (WQ.sb [(1, .slice p n cap), (2, vP b2 0), (8, vP b25 0), (26, vS go n n), (27, vI (n : Int)), (28, vI ((i + 1 : Nat) : Int))] ?_))))))))
    refine WQ.then (hK19 _ _ _ (by omega) ⟨i + 1, q, rfl, rfl, by omega, prc_stay hq hf, hH21⟩)
   ·
    refine WC.yes (congrArg (fun b => some (Value.bool (!b))) hf) ?_
    refine WC.confG (γ := Unit) [(34, .bool (!((mk0 s y l c n (trC c n)) i))), (33, .bool ((mk0 s y l c n (trC c n)) i)), (10, .bool ((mk0 s y l c n (trC c n)) i)), (9, vI (i : Int)), (32, .bool ((mk0 s y l c n (trC c n)) i)), (31, vP go i), (30, vI (i : Int)), (29, .bool true), (1, .slice p n cap), (2, vP b2 0), (8, vP b25 0), (26, vS go n n), (27, vI (n : Int)), (28, vI (i : Int))] (fun gy => [vP b25 0, vP b25 0, vP b25 1, vS gp n n, vI (i : Int), vP b2 3, vI m, vP gp i, undef]) (fun gy D wz => HP Tr w wz [.cel b2 #[vI s, vI y, vI l, vI m] 23, .cel go (brow n (mk0 s y l c n (trC c n))) 4, (bif D 8 then Ent.cel gp (irow n (upI q i m)) 3 else Ent.cel gp (irow n q) 3), .cel b25 #[.slice p n cap, vS gp n n] 69]) () (by kernel_rfl) ⟨rfl, rfl, rfl, rfl, rfl, rfl, rfl, rfl, rfl, rfl, rfl, rfl, rfl, rfl, trivial⟩ (by kernel_rfl) (by kernel_rfl) (by kernel_rfl) (fun _ => rfl) (by kernel_rfl) (HP.drew hH21) ?_ ?_
    ·
     refine AllOk.cons ?o0 (AllOk.cons ?o1 (AllOk.cons ?o2 (AllOk.cons ?o3 (AllOk.cons ?o4 (AllOk.cons ?o5 (AllOk.cons ?o6 (AllOk.cons ?o7 (AllOk.cons ?o8 (AllOk.nil _)))))))))
     case o0 =>
      intro gy D wz hDi hdep hclo hW
      exact cfv gy wz (by kernel_rfl) hW
     case o1 =>
      intro gy D wz hDi hdep hclo hW
      exact cfv gy wz (by kernel_rfl) hW
     case o2 =>
      intro gy D wz hDi hdep hclo hW
      exact cfv gy wz (by kernel_rfl) hW
     case o3 =>
      intro gy D wz hDi hdep hclo hW
      exact cfv gy wz (x_load rfl rfl Try.underlying33 rfl (HP.cell hW 3 rfl rfl)) hW
     case o4 =>
      intro gy D wz hDi hdep hclo hW
      exact cfv gy wz (by kernel_rfl) hW
     case o5 =>
      intro gy D wz hDi hdep hclo hW
      exact cfv gy wz (by kernel_rfl) hW
     case o6 =>
      intro gy D wz hDi hdep hclo hW
      exact cfv gy wz (x_load rfl rfl Try.underlying3 rfl (HP.cell hW 0 rfl rfl)) hW
     case o7 =>
      intro gy D wz hDi hdep hclo hW
      exact cfv gy wz (x_ix (i) (i) Try.underlying33 sz3) hW
     case o8 =>
      intro gy D wz hDi hdep hclo hW
      have hW9 := hW
      simp only [hDi, cond_false] at hW9
      have h4 := HP.set (off := i) (v := vI m) hW9 2 rfl
      rw [irow_set] at h4
      exact .inl ⟨rfl, rfl, .inr (.inl ⟨_, x_store rfl rfl rfl sz3 rfl (HP.cell hW9 2 rfl (irow_get (by omega) rfl)) (HP.free hW9 2 rfl), rfl, h4⟩)⟩
    rintro gy D w27 hall hH28
    simp only [hall 8 (by kernel_rfl), cond_true, List.append_nil, List.nil_append, List.cons_append] at hH28
    clear hall
    refine WQ.sb [(1, .slice p n cap), (2, vP b2 0), (8, vP b25 0), (9, vI (i : Int)), (10, .bool ((mk0 s y l c n (trC c n)) i)), (26, vS go n n), (27, vI (n : Int)), (28, vI (i : Int)), (29, .bool true), (34, .bool (!((mk0 s y l c n (trC c n)) i)))] (WQ.inNormal (WQ.then (hK24 _ _ _ (WC.region (WL.y (vI ((i + 1 : Nat) : Int)) 43 (x_ad (((i + 1 : Nat) : Int))) (WL.z (vI ((i + 1 : Nat) : Int)) 28 (WL.nil (WQ.sb [(1, .slice p n cap), (2, vP b2 0), (8, vP b25 0), (26, vS go n n), (27, vI (n : Int)), (28, vI ((i + 1 : Nat) : Int))] ?_))))))))
    refine WQ.then (hK19 _ _ _ (by omega) ⟨i + 1, (upI q i m), rfl, rfl, by omega, prc_step hq hf, hH28⟩)
  ·
   refine WL.y (.bool false) 29 (x_lss rfl rfl rfl (dF (hlt))) (WL.k hK22 (WC.seq fun K29 hK29 => ?_))
   refine WC.no rfl ?_
   refine WC.exit (WQ.thenExit (WQ.thenExit (WQ.inExit (WQ.then (hK17 _ _ _ (WC.seq fun K30 hK30 => WC.region (WL.z (vP b25 0) 44 (WL.z (.slice p n cap) 45 (WL.z (vI (n : Int)) 46 ?_)))))))))
   refine WL.c 51 #[vP b25 0, vI 0, vI (n : Int)] 47 ?_
   refine (Clist b25 p n cap gp c A B (prc m (mk0 s y l c n (trC c n))) hc0 hpb _ ⟨hIn.below (HP.below hH21), one1 (HP.range hH21 3 rfl rfl), (fun i hi => range1 (HP.cell hH21 2 rfl (irow_get hi (prc_end hq (by omega)))))⟩).mono ?_
   rintro e w31 ⟨rfl, hb32⟩
   refine ⟨_, rfl, ?_⟩
   have hH33 := HP.call hH21 hb32
   refine WL.z (vI (penV s y l m c A n)) 4 (WL.z (vI 0) 5 (WL.k hK30 (WC.ret ?_)))
   refine WQ.ret2 4 5 rfl rfl rfl ?_
   exact ⟨.inr ⟨hyes, rfl⟩, HP.below hH33⟩
theorem Reload_any (s y l m : Int) (p : Option Addr) (n cap : Nat) (c A B : Nat → Int) (w : World) (hIn : Ec.InC w p n c A B) (hn : n ≤ 400) :
  Calls Try.prog 26 #[.agg #[vI s, vI y, vI l, vI m], .slice p n cap] w fun e w' => ((okC s y l m c A B n = false ∧ e = .returned (.tuple #[vI 0, vI 1])) ∨ (okC s y l m c A B n = true ∧ e = .returned (.tuple #[vI (m * (lnC l (mk0 s y l c n (trC c n)) n 1000 : Int)), vI 0]))) ∧ Below w.heap.size w w' := by
 refine calls_of Try.func26 rfl (m := 40) rfl [(0, .agg #[vI s, vI y, vI l, vI m]), (1, .slice p n cap)] (Fr_enter [.agg #[vI s, vI y, vI l, vI m], .slice p n cap] 40 (Nat.le_of_ble_eq_true rfl)) ?_
 have hH1 : HP Tr w w [] := HP.refl w
 refine WC.seq fun K2 hK2 => WC.region ?_
 refine WL.alloc (c := #[vI s, vI y, vI l, vI m]) (T := 23) hH1 2 rfl (by decide) rfl rfl (fun b2 => vP b2 0) (by kernel_rfl) (fun b2 w3 hw3 => ?_)
 have hH4 : HP Tr w w3 [.cel b2 #[vI s, vI y, vI l, vI m] 23] := hw3.2
 have nb2 := hw3.1
 clear hw3
 refine WL.z (vI 0) 4 (WL.z (vI 0) 5 (WL.k hK2 (WC.seq fun K5 hK5 => WC.region (WL.y (.agg #[vI s, vI y, vI l, vI m]) 12 (x_loadS (cs := [vI s, vI y, vI l, vI m]) rfl rfl Try.underlying23 rfl sz23 (HP.range hH4 0 rfl rfl)) (WL.z (.slice p n cap) 13 ?_)))))
 refine WL.c 46 #[.agg #[vI s, vI y, vI l, vI m], .slice p n cap] 14 ?_
 refine (MustA s y l m p n cap c A B _ (hIn.below (HP.below hH4)) hn).mono ?_
 rintro e w4 (⟨hno, rfl, hb⟩ | ⟨hyes, go, rfl, hb⟩)
 ·
  refine ⟨_, rfl, ?_⟩
  have hH6 := HP.call hH4 hb
  refine WL.z (.tuple #[.slice none 0 0, vI 1]) 11 (WL.z (.slice none 0 0) 15 (WL.z (vI 1) 16 (WL.z (.slice none 0 0) 6 (WL.z (vI 1) 7 (WL.k hK5 (WC.sb [(0, .agg #[vI s, vI y, vI l, vI m]), (1, .slice p n cap), (2, vP b2 0), (4, vI 0), (5, vI 0), (6, .slice none 0 0), (7, vI 1)] (WC.seq fun K7 hK7 => WC.seq fun K8 hK8 => WC.region ?_)))))))
  refine WL.z (vI 1) 17 (WL.y (.bool true) 18 (x_neq rfl rfl rfl (by decide)) (WL.k hK8 ?_))
  refine WC.yes rfl ?_
  refine WC.seq fun K9 hK9 => WC.region (WL.z (vI 1) 19 (WL.z (vI 0) 4 (WL.z (vI 1) 5 (WL.k hK9 (WC.ret ?_)))))
  refine WQ.thenRet ?_
  refine WQ.ret2 4 5 rfl rfl rfl ?_
  exact ⟨.inl ⟨hno, rfl⟩, HP.below hH6⟩
 ·
  refine ⟨_, rfl, ?_⟩
  have hH10 : HP Tr w _ [.cel b2 #[vI s, vI y, vI l, vI m] 23, .cel go (brow n (mk0 s y l c n (trC c n))) 4] := HP.trans hH4 hb
  obtain ⟨hg0, hc0, hf0⟩ := okC_iff.1 hyes
  have hg := vG_iff.1 hg0
  have hn9 := (Ec.chk_ok hc0).1
  have hpb := prc_bd (m := m) hg.2.2.2 (mk0 s y l c n (trC c n))
  refine WL.z (.tuple #[vS go n n, vI 0]) 11 (WL.z (vS go n n) 15 (WL.z (vI 0) 16 (WL.z (vS go n n) 6 (WL.z (vI 0) 7 (WL.k hK5 (WC.sb [(0, .agg #[vI s, vI y, vI l, vI m]), (1, .slice p n cap), (2, vP b2 0), (4, vI 0), (5, vI 0), (6, vS go n n), (7, vI 0)] (WC.seq fun K11 hK11 => WC.seq fun K12 hK12 => WC.region ?_)))))))
  refine WL.z (vI 0) 17 (WL.y (.bool false) 18 (x_neq rfl rfl rfl (by decide)) (WL.k hK12 ?_))
  refine WC.no rfl ?_
  refine WC.skip (WQ.then (hK11 _ _ _ (WC.seq fun K13 hK13 => WC.region ?_)))
  refine WL.mapMakeH (k := 3) (e := 4) hH10 20 rfl (by decide) rfl rfl ?_
  rintro mb w9 hmz hmne hH9 hmp0
  have hH14 : HP Tr w w9 [.cel b2 #[vI s, vI y, vI l, vI m] 23, .cel go (brow n (mk0 s y l c n (trC c n))) 4] := hH9
  clear hH9
  refine WL.z ((.map (some mb))) 8 (WL.k hK13 (WC.seq fun K15 hK15 => WC.seq fun K16 hK16 => WC.region (WL.z (vS go n n) 21 (WL.z (vI (n : Int)) 22 (WL.z (vI 0) 23 (WL.nil (WQ.then ?_)))))))
  refine hK16 _ _ _ (WC.block ?_)
  refine WC.loop (fun kk0 ll0 ww0 => ∃ (i : Nat) (D : DataW Unit), ll0 = [(2, vP b2 0), (8, (.map (some mb))), (21, vS go n n), (22, vI (n : Int)), (23, vI (i : Int))] ∧ kk0 = n - i ∧ (i ≤ n) ∧ (ww0.ownsMap Try.prog 3 (plainElem (H := Unit) Try.prog 4) mb i D) ∧ (MRel l (mk0 s y l c n (trC c n)) i D) ∧ HP Tr w ww0 [.cel b2 #[vI s, vI y, vI l, vI m] 23, .cel go (brow n (mk0 s y l c n (trC c n))) 4]) (n) [(2, vP b2 0), (8, (.map (some mb))), (21, vS go n n), (22, vI (n : Int)), (23, vI 0)] ⟨rfl, rfl, rfl, rfl, rfl, trivial⟩ ⟨0, (.map []), rfl, rfl, Nat.zero_le _, hmp0, MRel.start _ _, hH14⟩ ?_
  rintro kk l w18 ⟨i, D, rfl, hkk, hi, hmp, hMR, hH19⟩ K17 hK17
  refine WC.seq fun K20 hK20 => WC.region ?_
  by_cases hlt : (i : Int) < (n : Int)
  ·
   refine WL.y (.bool true) 24 (x_lss rfl rfl rfl (dT (hlt))) (WL.k hK20 (WC.seq fun K21 hK21 => ?_))
   refine WC.yes rfl ?_
   refine WC.skip (WQ.then (hK21 _ _ _ (WC.seq fun K22 hK22 => WC.block (WC.seq fun K23 hK23 => WC.region (WL.z (vI (i : Int)) 25 (WL.y (vP go i) 26 (x_ix (i) (i) Try.underlying39 sz4) (WL.y (.bool ((mk0 s y l c n (trC c n)) i)) 27 (x_load rfl rfl Try.underlying4 rfl (HP.cell hH19 1 rfl (brow_get (by omega) rfl))) (WL.z (vI (i : Int)) 9 (WL.z (.bool ((mk0 s y l c n (trC c n)) i)) 10 ?_)))))))))
   refine WL.k hK23 (WC.seq fun K24 hK24 => WC.region (WL.z (.bool ((mk0 s y l c n (trC c n)) i)) 28 (WL.k hK24 ?_)))
   rcases Bool.eq_false_or_eq_true ((mk0 s y l c n (trC c n)) i) with hf | hf
   ·
    refine WC.yes (congrArg (fun b => some (Value.bool b)) hf) ?_
    refine WC.region (WL.z ((.map (some mb))) 29 (WL.z (vI (i : Int)) 30 (WL.z (vP b2 2) 31 (WL.y (vI l) 32 (x_load rfl rfl Try.underlying3 rfl (HP.cell hH19 0 rfl rfl)) ?_))))
    obtain ⟨ka, hka, hka2⟩ := div_bd hg.2.2.1 (show i ≤ 999 by omega)
    refine WL.y (vI ((i : Int) / l)) 33 (x_quo rfl rfl rfl (by omega) (tdiv_pos (by omega) (by omega)) (by omega) (by omega)) ?_
    refine WL.mapPut rfl rfl rfl rfl rfl rfl law39 Try.underlying72 hmp (by unfold maxLen; omega) (keyOf_int_mk Try.underlying3 (WalkArith.wf_i64 (by omega))) (plainElem_bool Try.underlying4 true) ?_
    rintro w8 hmp8 hg8
    have hH25 : HP Tr w w8 [.cel b2 #[vI s, vI y, vI l, vI m] 23, .cel go (brow n (mk0 s y l c n (trC c n))) 4] := HP.grown hH19 hg8 hmz hmne
    refine WL.nil (WQ.inNormal (WQ.then (hK22 _ _ _ (WC.sb [(2, vP b2 0), (8, (.map (some mb))), (9, vI (i : Int)), (10, .bool ((mk0 s y l c n (trC c n)) i)), (21, vS go n n), (22, vI (n : Int)), (23, vI (i : Int)), (24, .bool true), (28, .bool ((mk0 s y l c n (trC c n)) i))] (WC.region (WL.y (vI ((i + 1 : Nat) : Int)) 34 (x_ad (((i + 1 : Nat) : Int))) (WL.z (vI ((i + 1 : Nat) : Int)) 23 (WL.nil (WQ.sb [(2, vP b2 0), (8, (.map (some mb))), (21, vS go n n), (22, vI (n : Int)), (23, vI ((i + 1 : Nat) : Int))] ?_)))))))))
    refine WQ.then (hK17 _ _ _ (by omega) ⟨i + 1, (D.put (.int .i64 ((i : Int) / l)) (.lit (.bool true))), rfl, rfl, by omega, hmp8, hMR.yes hf hka hka2 _, hH25⟩)
   ·
    refine WC.no (congrArg (fun b => some (Value.bool b)) hf) ?_
    refine WC.skip (WQ.inNormal (WQ.then (hK22 _ _ _ (WC.region (WL.y (vI ((i + 1 : Nat) : Int)) 34 (x_ad (((i + 1 : Nat) : Int))) (WL.z (vI ((i + 1 : Nat) : Int)) 23 (WL.nil (WQ.sb [(2, vP b2 0), (8, (.map (some mb))), (21, vS go n n), (22, vI (n : Int)), (23, vI ((i + 1 : Nat) : Int))] ?_))))))))
    refine WQ.then (hK17 _ _ _ (by omega) ⟨i + 1, D, rfl, rfl, by omega, hmp.mono (by omega), hMR.no hf, hH19⟩)
  ·
   refine WL.y (.bool false) 24 (x_lss rfl rfl rfl (dF (hlt))) (WL.k hK20 (WC.seq fun K26 hK26 => ?_))
   refine WC.no rfl ?_
   refine WC.exit (WQ.thenExit (WQ.thenExit (WQ.inExit (WQ.then (hK15 _ _ _ (WC.seq fun K27 hK27 => ?_))))))
   have hin : i = n := by omega
   have hsz := hMR.sz
   rw [hin] at hsz
   have hle := lnC_le l (mk0 s y l c n (trC c n)) n 1000
   have hmu := mul_bd hg.2.2.2 (x := (Maps.size D : Int)) (by omega)
   refine WC.region (WL.z (vP b2 3) 35 (WL.y (vI m) 36 (x_load rfl rfl Try.underlying3 rfl (HP.cell hH19 0 rfl rfl)) (WL.z ((.map (some mb))) 37 (WL.y (vI (Maps.size D : Int)) 38 (x_lenMap rfl rfl Try.underlying72 hmp) (WL.y (vI (m * (Maps.size D : Int))) 39 (x_mul (Z := m * (Maps.size D : Int)) rfl rfl rfl (rfl) (by omega) (by omega)) (WL.z (vI (m * (Maps.size D : Int))) 4 (WL.z (vI 0) 5 (WL.k hK27 (WC.ret ?_)))))))))
   refine WQ.ret2 4 5 rfl rfl rfl ?_
   exact ⟨.inr ⟨hyes, by rw [hsz]⟩, HP.below hH19⟩
end Ca
end Go.Proofs.Ytmjnakhpekbenaa
namespace Go.Proofs.Ytmjnakhpekbenaa
set_option maxRecDepth 20000
set_option maxHeartbeats 4000000
open Go.RowKit Fw
namespace Ca
def plC (c A B : Nat → Int) (n : Nat) : Bool := decide (Ec.chk c A B false n = 0) && !farB c n
theorem okC_pl (s y l m : Int) (c A B : Nat → Int) (n : Nat) : okC s y l m c A B n = (vG s y l m && plC c A B n) := rfl
theorem Plain_any (p : Option Addr) (n cap : Nat) (c A B : Nat → Int) (w : World) (hIn : Ec.InC w p n c A B) (hn : n ≤ 400) :
  Calls Try.prog 28 #[.slice p n cap] w fun e w' => e = .returned (.bool (plC c A B n)) ∧ Below w.heap.size w w' := by
 refine calls_of Try.func28 rfl (m := 27) rfl [(0, .slice p n cap)] (Fr_enter [.slice p n cap] 27 (Nat.le_of_ble_eq_true rfl)) ?_
 have hH1 : HP Tr w w [] := HP.refl w
 refine WC.seq fun K2 hK2 => WC.region (WL.z (.bool false) 2 (WL.k hK2 (WC.seq fun K3 hK3 => WC.seq fun K4 hK4 => WC.region (WL.z (.slice p n cap) 4 ?_))))
 refine WL.c 54 #[.slice p n cap, .bool false] 5 ?_
 refine (Ec.rCheck_any p n cap c A B false _ (hIn.below (HP.below hH1)) hn).mono ?_
 rintro e w5 ⟨rfl, hb6⟩
 refine ⟨_, rfl, ?_⟩
 have hH7 := HP.call hH1 hb6
 by_cases hck9 : (Ec.chk c A B false n) ≠ 0
 ·
  have hck : ¬ Ec.chk c A B false n = 0 := hck9
  refine WL.y (.bool true) 6 (x_neq rfl rfl rfl (dT (hck9))) (WL.k hK4 ?_)
  refine WC.yes rfl ?_
  refine WC.seq fun K8 hK8 => WC.region (WL.z (.bool false) 2 (WL.k hK8 (WC.ret ?_)))
  refine WQ.thenRet ?_
  refine WQ.ret1 2 rfl rfl ?_
  exact ⟨by rw [show plC c A B n = false from by unfold plC; rw [decide_eq_false hck]; rfl], HP.below hH7⟩
 ·
  have hck : Ec.chk c A B false n = 0 := Decidable.not_not.1 hck9
  refine WL.y (.bool false) 6 (x_neq rfl rfl rfl (dF (hck9))) (WL.k hK4 ?_)
  refine WC.no rfl ?_
  refine WC.skip (WQ.then (hK3 _ _ _ (WC.seq fun K9 hK9 => WC.seq fun K10 hK10 => WC.region (WL.z (vI 0) 3 (WL.k hK10 (WC.block ?_))))))
  refine WC.loop (fun kk0 ll0 ww0 => ∃ (i : Nat), ll0 = [(0, .slice p n cap), (3, vI (i : Int))] ∧ kk0 = n - i ∧ (i ≤ n) ∧ (∀ j, j < i → farO (c j) = false) ∧ HP Tr w ww0 []) (n) [(0, .slice p n cap), (3, vI 0)] ⟨rfl, rfl, trivial⟩ ⟨0, rfl, rfl, Nat.zero_le _, (fun j hj => by omega), hH7⟩ ?_
  rintro kk l w12 ⟨i, rfl, hkk, hi, hall, hH13⟩ K11 hK11
  refine WC.seq fun K14 hK14 => WC.seq fun K15 hK15 => WC.region (WL.z (vI (i : Int)) 7 (WL.z (.slice p n cap) 8 (WL.z (vI (n : Int)) 9 ?_)))
  by_cases hlt : (i : Int) < (n : Int)
  ·
   refine WL.y (.bool true) 10 (x_lss rfl rfl rfl (dT (hlt))) (WL.k hK15 ?_)
   refine WC.yes rfl ?_
   refine WC.skip (WQ.then (hK14 _ _ _ (WC.seq fun K16 hK16 => WC.block (WC.seq fun K17 hK17 => ?_))))
   obtain ⟨bb, oo, rfl, hrow⟩ := hIn (by omega)
   refine WC.region (WL.z (.slice (some ⟨bb, oo, none⟩) n cap) 13 (WL.z (vI (i : Int)) 14 (WL.y (vP bb (oo + i * 3)) 15 (x_ix (i) (oo + i * 3) Try.underlying42 sz75) (WL.z (vP bb (oo + i * 3)) 16 (WL.y (vI (c i)) 17 (x_load rfl rfl Try.underlying3 rfl ((HP.oldRange hH13 trivial (hrow i (by omega))) 0 _ rfl)) ?_)))))
   by_cases h25 : c i = 25
   ·
    refine WL.y (.bool true) 18 (x_eql rfl rfl rfl (dT (h25))) (WL.z (.bool true) 19 (WL.p 20 (WL.p 21 (WL.p 22 (WL.p 23 (WL.p 24 (WL.p 25 (WL.z (.bool true) 26 (WL.k hK17 ?_)))))))))
    refine WC.sb [(0, .slice (some ⟨bb, oo, none⟩) n cap), (3, vI (i : Int)), (10, .bool true), (26, .bool true)] ?_
    refine WC.yes rfl ?_
    refine WC.seq fun K18 hK18 => WC.region (WL.z (.bool false) 2 (WL.k hK18 (WC.ret ?_)))
    refine WQ.inRet ?_
    refine WQ.thenRet ?_
    refine WQ.thenRet ?_
    refine WQ.inRet ?_
    refine WQ.thenRet ?_
    refine WQ.ret1 2 rfl rfl ?_
    exact ⟨by rw [show plC c A B n = false from by unfold plC; rw [farB_yes (show i < n by omega) (by unfold farO; simp [h25])]; simp], HP.below hH13⟩
   ·
    refine WL.y (.bool false) 18 (x_eql rfl rfl rfl (dF (h25))) (WL.z (.bool false) 19 (WL.z (.slice (some ⟨bb, oo, none⟩) n cap) 20 (WL.z (vI (i : Int)) 21 (WL.y (vP bb (oo + i * 3)) 22 (x_ix (i) (oo + i * 3) Try.underlying42 sz75) (WL.z (vP bb (oo + i * 3)) 23 (WL.y (vI (c i)) 24 (x_load rfl rfl Try.underlying3 rfl ((HP.oldRange hH13 trivial (hrow i (by omega))) 0 _ rfl)) ?_))))))
    by_cases h26 : c i = 26
    ·
     refine WL.y (.bool true) 25 (x_eql rfl rfl rfl (dT (h26))) (WL.z (.bool true) 26 (WL.k hK17 (WC.sb [(0, .slice (some ⟨bb, oo, none⟩) n cap), (3, vI (i : Int)), (10, .bool true), (26, .bool true)] ?_)))
     refine WC.yes rfl ?_
     refine WC.seq fun K19 hK19 => WC.region (WL.z (.bool false) 2 (WL.k hK19 (WC.ret ?_)))
     refine WQ.inRet ?_
     refine WQ.thenRet ?_
     refine WQ.thenRet ?_
     refine WQ.inRet ?_
     refine WQ.thenRet ?_
     refine WQ.ret1 2 rfl rfl ?_
     exact ⟨by rw [show plC c A B n = false from by unfold plC; rw [farB_yes (show i < n by omega) (by unfold farO; simp [h26])]; simp], HP.below hH13⟩
    ·
     refine WL.y (.bool false) 25 (x_eql rfl rfl rfl (dF (h26))) (WL.z (.bool false) 26 (WL.k hK17 (WC.sb [(0, .slice (some ⟨bb, oo, none⟩) n cap), (3, vI (i : Int)), (10, .bool true), (26, .bool false)] ?_)))
     refine WC.no rfl ?_
     refine WC.skip (WQ.inNormal (WQ.then (hK16 _ _ _ (WC.region (WL.z (vI (i : Int)) 11 (WL.y (vI ((i + 1 : Nat) : Int)) 12 (x_ad (((i + 1 : Nat) : Int))) (WL.z (vI ((i + 1 : Nat) : Int)) 3 (WL.nil (WQ.sb [(0, .slice (some ⟨bb, oo, none⟩) n cap), (3, vI ((i + 1 : Nat) : Int))] ?_)))))))))
     refine WQ.then (hK11 _ _ _ (by omega) ⟨i + 1, rfl, rfl, by omega, (fun j hj => by
            by_cases q : j = i
            · subst q; unfold farO; rw [decide_eq_false h25, decide_eq_false h26]; rfl
            · exact hall j (by omega)), hH13⟩)
  ·
   refine WL.y (.bool false) 10 (x_lss rfl rfl rfl (dF (hlt))) (WL.k hK15 ?_)
   refine WC.no rfl ?_
   refine WC.exit (WQ.thenExit (WQ.thenExit (WQ.inExit (WQ.then (hK9 _ _ _ (WC.seq fun K20 hK20 => WC.region (WL.z (.bool true) 2 (WL.k hK20 ?_))))))))
   refine WC.ret ?_
   refine WQ.ret1 2 rfl rfl ?_
   exact ⟨by rw [show plC c A B n = true from by unfold plC; rw [farB_no (fun j hj => hall j (by omega)), decide_eq_true hck]; rfl], HP.below hH13⟩
theorem Plain_at {c A B : Nat → Int} {n : Nat} {r : Bool} (h : plC c A B n = r) (p : Option Addr) (cap : Nat) (w : World) (hIn : Ec.InC w p n c A B) (hn : n ≤ 400) : Calls Try.prog 28 #[.slice p n cap] w fun e w' => e = .returned (.bool r) ∧ Below w.heap.size w w' := h ▸ Plain_any p n cap c A B w hIn hn
end Ca
end Go.Proofs.Ytmjnakhpekbenaa
namespace Go.Proofs.Ytmjnakhpekbenaa
open Go.RowKit Fw
namespace Ca
noncomputable def penU (s y l m : Int) (c A B : Nat → Int) (n : Nat) : Int := if okC s y l m c A B n = true then penV s y l m c A n else 0
noncomputable def relU (s y l m : Int) (c A B : Nat → Int) (n : Nat) : Int := if okC s y l m c A B n = true then m * (lnC l (mk0 s y l c n (trC c n)) n 1000 : Int) else 0
def errU (s y l m : Int) (c A B : Nat → Int) (n : Nat) : Int := if okC s y l m c A B n = true then 0 else 1
theorem uni {P : Program} {f : Nat} {args : Array Value} {w : World} {b : Bool} {x : Int} (h : Calls P f args w fun e w' => ((b = false ∧ e = .returned (.tuple #[vI 0, vI 1])) ∨ (b = true ∧ e = .returned (.tuple #[vI x, vI 0]))) ∧ Below w.heap.size w w') :
    Calls P f args w fun e w' => e = .returned (.tuple #[vI (if b = true then x else 0), vI (if b = true then 0 else 1)]) ∧ Below w.heap.size w w' := h.mono fun e w' h => by
  obtain ⟨⟨h1, h2⟩ | ⟨h1, h2⟩, hb⟩ := h
  · subst h1; exact ⟨h2, hb⟩
  · subst h1; exact ⟨h2, hb⟩
theorem PenaltyU (s y l m : Int) (p : Option Addr) (n cap : Nat) (c A B : Nat → Int) (w : World) (hIn : Ec.InC w p n c A B) (hn : n ≤ 400) :
    Calls Try.prog 24 #[.agg #[vI s, vI y, vI l, vI m], .slice p n cap] w fun e w' => e = .returned (.tuple #[vI (penU s y l m c A B n), vI (errU s y l m c A B n)]) ∧ Below w.heap.size w w' := uni (Penalty_any s y l m p n cap c A B w hIn hn)
theorem ReloadU (s y l m : Int) (p : Option Addr) (n cap : Nat) (c A B : Nat → Int) (w : World) (hIn : Ec.InC w p n c A B) (hn : n ≤ 400) :
    Calls Try.prog 26 #[.agg #[vI s, vI y, vI l, vI m], .slice p n cap] w fun e w' => e = .returned (.tuple #[vI (relU s y l m c A B n), vI (errU s y l m c A B n)]) ∧ Below w.heap.size w w' := uni (Reload_any s y l m p n cap c A B w hIn hn)
end Ca
end Go.Proofs.Ytmjnakhpekbenaa
namespace Go.Proofs.Ytmjnakhpekbenaa
open Fw
namespace Ca
def sts (s y l : Int) (xs : List Nat) (X : List (List Int)) : List (List Int) := xs.foldl (fun (X : List (List Int)) (a : Nat) => stp s y l (a : Int) X) X
theorem sts_snoc {s y l : Int} {xs : List Nat} {v : Nat} {X : List (List Int)} : sts s y l (xs ++ [v]) X = stp s y l (v : Int) (sts s y l xs X) := by unfold sts; rw [List.foldl_append]; rfl
theorem d_in {C : Fl.Cd} : ∀ {R : Fl.Tr} {k j : Nat}, Fl.Is C R k j → ∀ v, k ≤ v → v < j → (C.c v = 30 → 0 ≤ C.d v) ∧ (C.c v = 34 → 0 ≤ C.d (C.o v).toNat)
  | .nil, k, j, h, v, h1, h2 => by have : k = j := h; omega
  | .one i R, k, j, h, v, h1, h2 => by
    obtain ⟨q1, q2, q3⟩ := h
    by_cases e : v = i
    · subst e; subst q1; exact ⟨fun q => absurd ⟨by omega, by omega⟩ q2, fun q => absurd ⟨by omega, by omega⟩ q2⟩
    · exact d_in q3 v (by omega) h2
  | .plain i E b R, k, j, h, v, h1, h2 => by
    obtain ⟨q1, q2, q3, q4, q5, q6, q7, q8⟩ := h
    subst q1
    by_cases e : v = i
    · subst e; exact ⟨fun _ => by rw [q4]; omega, fun q => by omega⟩
    · by_cases e2 : v < E
      · exact d_in q7 v (by omega) e2
      · by_cases e3 : v = E
        · subst e3; exact ⟨fun q => by omega, fun q => by omega⟩
        · exact d_in q8 v (by omega) h2
  | .alt i a E b1 b2 R, k, j, h, v, h1, h2 => by
    obtain ⟨q1, q2, q3, q4, q5, q6, q7, q8, q9, q10, q11⟩ := h
    subst q1
    by_cases e : v = i
    · subst e; exact ⟨fun _ => by rw [q4]; omega, fun q => by omega⟩
    · by_cases e2 : v < a
      · exact d_in q9 v (by omega) e2
      · by_cases e3 : v = a
        · subst e3; exact ⟨fun q => by omega, fun _ => by rw [q5, Int.toNat_natCast, q4]; omega⟩
        · by_cases e4 : v < E
          · exact d_in q10 v (by omega) e4
          · by_cases e5 : v = E
            · subst e5; exact ⟨fun q => by omega, fun q => by omega⟩
            · exact d_in q11 v (by omega) h2
theorem stp_ways {C : Fl.Cd} {A : Nat → Int} {R : Fl.Tr} {n v v' : Nat} {r r' : Nat → Int} (hR : Fl.Is C R 0 n) (hv : v < n) (h : Stp C A v r v' r') : ∃ i, i < n ∧ (v, v') ∈ Fl.ways C i := by
  obtain ⟨d1, d2⟩ := d_in hR v (Nat.zero_le _) hv
  refine ⟨v, hv, ?_⟩
  unfold Fl.ways
  rcases h with ⟨q, -, g⟩ | ⟨q, -, g⟩ | ⟨q, g⟩ | ⟨q, q2, -, g⟩ | ⟨q, q2, -, g⟩ | ⟨q1, q2, q3, q4, -, g⟩
  · rw [if_neg (by omega), if_neg (by omega), if_pos q]
    rcases g with rfl | ⟨g1, g2⟩ | ⟨g1, g2⟩
    · simp
    · rw [if_pos g1]
      have : v' = (C.e v).toNat + 1 := by omega
      simp [this]
    · rw [if_neg (by omega)]
      have e : (C.d v).toNat = v' := by omega
      split
      · simp [e]
      · have : v' = v + 1 := by omega
        simp [this]
  · rw [if_pos q]
    have := d2 q
    have e : v' = (C.d (C.o v).toNat).toNat + 1 := by omega
    simp [e]
  · rw [if_neg (by omega), if_neg (by omega), if_neg (by omega), if_pos q]
    have := d1 q
    rcases g with ⟨-, g⟩ | ⟨x, -, -, -, g⟩
    · have e : v' = (C.d v).toNat + 1 := by omega
      simp [e]
    · simp [g]
  · rw [if_neg (by omega), if_pos q, if_pos q2]
    rcases g with ⟨-, g⟩ | ⟨-, g⟩ <;> simp [g]
  · rw [if_neg (by omega), if_pos q, if_neg q2]
    simp [g]
  · rw [if_neg q2, if_neg q4, if_neg q1, if_neg q3]
    split <;> simp [g]
theorem trp_ways {C : Fl.Cd} {n v v' : Nat} (hv : v < n) (h : Trp C v v') : ∃ i, i < n ∧ (v, v') ∈ Fl.ways C i := by
  obtain ⟨t, h1, h2, h3, -, h4⟩ := h
  refine ⟨t, by omega, ?_⟩
  unfold Fl.ways
  rw [if_neg (by omega), if_neg (by omega), if_neg (by omega), if_neg (by omega), if_pos h2]
  refine List.mem_append.2 (.inr (List.mem_map.2 ⟨v - (t + 1), List.mem_range.2 (by omega), ?_⟩))
  rw [show t + 1 + (v - (t + 1)) = v by omega, show (C.e t).toNat + 1 = v' by omega]
section
variable {s y l m : Int}
theorem mustP_le {X : List (List Int)} {a b : List T2} (h : leM a b) (hm : mustP s X a) : mustP s X b := fun z c hc => by
  obtain ⟨a', g1, g2⟩ := h z c hc
  obtain ⟨b1, b2⟩ := hm z a' g1
  exact ⟨b1, by omega⟩
variable {c A B : Nat → Int} {n : Nat}
noncomputable abbrev xM (s y l : Int) (c : Nat → Int) (n : Nat) := Fl.sol (opsM s y l) (cdOf c n) (trC c n) [] (fun _ => [])
theorem goodM (hg : vG s y l m = true) (hc : Ec.chk c A B false n = 0) (hn : n ≤ 400) : Fl.Good (latM s y l m hg) (cdOf c n) 0 n [] (fun _ => []) (xM s y l c n) :=
  Fl.sol_good (L := latM s y l m hg) (trC c n) 0 n [] (fun _ => []) (trC_is hc) (by omega) (VT.nil hg)
theorem must_edge (hg : vG s y l m = true) (hc : Ec.chk c A B false n = 0) (hn : n ≤ 400) {v v' : Nat} (h : ∃ i, i < n ∧ (v, v') ∈ Fl.ways (cdOf c n) i) {X : List (List Int)} (hX : okSt s y l m X = true) (hm : mustP s X (Fl.V (xM s y l c n) n v)) :
    v < n ∧ v' ≤ n ∧ mustP s (stp s y l (v : Int) X) (Fl.V (xM s y l c n) n v') := by
  have G := goodM (A := A) (B := B) hg hc hn
  obtain ⟨i, hi, hp⟩ := h
  obtain ⟨-, h2, -, h4, h5⟩ := G.way i (Nat.zero_le _) hi _ hp
  refine ⟨h2, h4, mustP_le h5 ?_⟩
  rw [Fl.V_lt h2] at hm
  exact must_touch hX (G.oka v (Nat.zero_le _) h2) ⟨by omega, by omega⟩ hm
theorem hit_iffI {X : List (List Int)} {a : Int} : hitN s l a X = 1 ↔ a / l ∈ X.getD (setN s l a) [] := by
  unfold hitN
  rw [idx_plc]
  constructor
  · intro h
    split at h
    · rename_i h2; simpa using plcV_ge.1 h2
    · cases h
  · intro h
    rw [if_pos (plcV_ge.2 (by simpa using h))]
theorem must_at {v : Nat} {X : List (List Int)} (hv : v < n) (hm : mustP s X (Fl.V (xM s y l c n) n v)) (h : mk0 s y l c n (trC c n) v = true) : hitN s l (v : Int) X = 1 := by
  rw [Fl.V_lt hv] at hm
  obtain ⟨a, ha⟩ := Option.isSome_iff_exists.1 h
  have := (hm _ _ ha).1
  exact hit_iffI.2 (by unfold setN; simpa using plcV_ge.1 this)
theorem nil_must (X : List (List Int)) : mustP s X [] := fun z c hc => by cases hc
abbrev nilX (s : Int) : List (List Int) := List.replicate s.toNat []
theorem nilX_row (s : Int) (k : Nat) : (nilX s).getD k [] = [] := by
  rw [List.getD_eq_getElem?_getD, List.getElem?_replicate]; split <;> rfl
theorem nilX_ok (hg : vG s y l m = true) : okSt s y l m (nilX s) = true := by
  have h9 := okSt_nil (s := s) (y := y) (l := l) (m := m) hg
  have e9 : stX (nilS s.toNat) = nilX s := by simp [stX]
  rw [e9] at h9; exact h9
theorem way_must (hg : vG s y l m = true) (hc : Ec.chk c A B false n = 0) (hn : n ≤ 400) {xs : List Nat} {v : Nat} {r : Nat → Int} (h : Wk (cdOf c n) A n xs v r) {X : List (List Int)} (hX : okSt s y l m X = true) : okSt s y l m (sts s y l xs X) = true ∧ mustP s (sts s y l xs X) (Fl.V (xM s y l c n) n v) := by
  induction h with
  | nil r => exact ⟨hX, by rw [(goodM (A := A) (B := B) hg hc hn).fst]; exact nil_must _⟩
  | stp h hv hs ih => rw [sts_snoc]; exact ⟨okSt_stp ih.1 ⟨by omega, by omega⟩, (must_edge hg hc hn (stp_ways (trC_is hc) hv hs) ih.1 ih.2).2.2⟩
  | trp h hv hs ih => rw [sts_snoc]; exact ⟨okSt_stp ih.1 ⟨by omega, by omega⟩, (must_edge hg hc hn (trp_ways hv hs) ih.1 ih.2).2.2⟩
def stI (s y l wh : Int) (X0 : List (List Int)) (xs : List Nat) : Nat → List (List Int)
  | 0 => X0
  | i + 1 => stp s y l ((xs.getD i 0 : Nat) : Int) (if (i : Int) = wh then nilX s else stI s y l wh X0 xs i)
def msI (s y l wh : Int) (X0 : List (List Int)) (xs : List Nat) : Nat → Nat
  | 0 => 0
  | i + 1 => msI s y l wh X0 xs i + (if hitN s l ((xs.getD i 0 : Nat) : Int) (if (i : Int) = wh then nilX s else stI s y l wh X0 xs i) = 1 then 0 else 1)
theorem take_snocN {xs : List Nat} {i : Nat} (h : i < xs.length) : xs.take (i + 1) = xs.take i ++ [xs.getD i 0] := by
  rw [List.take_add_one, List.getElem?_eq_getElem h, List.getD_eq_getElem?_getD, List.getElem?_eq_getElem h]; rfl
theorem Wk.part {C : Fl.Cd} {A : Nat → Int} {n : Nat} {xs : List Nat} {v : Nat} {r : Nat → Int} (h : Wk C A n xs v r) : ∀ i, i < xs.length → xs.getD i 0 < n ∧ ∃ r, Wk C A n (xs.take i) (xs.getD i 0) r := by
  induction h with
  | nil r => intro i hi; simp at hi
  | @stp xs v v' r r' h hv hs ih | @trp xs v v' r h hv hs ih =>
    intro i hi
    rw [List.length_append, List.length_singleton] at hi
    by_cases e : i < xs.length
    · rw [List.getD_eq_getElem?_getD, List.getElem?_append_left e, ← List.getD_eq_getElem?_getD, List.take_append_of_le_length (by omega)]; exact ih i e
    · obtain rfl : i = xs.length := by omega
      rw [List.getD_eq_getElem?_getD, List.getElem?_append_right (Nat.le_refl _), Nat.sub_self, List.take_left]
      exact ⟨hv, _, h⟩
def unm (f : Nat → Bool) (xs : List Nat) : Nat := xs.countP fun a : Nat => !f a
theorem unm_snoc {f : Nat → Bool} {xs : List Nat} {a : Nat} : unm f (xs ++ [a]) = unm f xs + if f a = true then 0 else 1 := by
  unfold unm
  rw [List.countP_append, List.countP_singleton]
  cases f a <;> rfl
theorem unm_sum {m : Int} {f : Nat → Bool} : ∀ xs : List Nat, (xs.map (prc m f)).sum = (unm f xs : Int) * m
  | [] => by simp [unm]
  | a :: r => by
    rw [List.map_cons, List.sum_cons, unm_sum r]
    unfold unm prc
    rw [List.countP_cons]
    cases f a
    · simp; rw [Int.add_mul, Int.one_mul]; omega
    · simp
def Tc (l : Int) (zs : List Nat) (z : Nat) : Bool := zs.any fun a : Nat => decide ((a : Int) / l = (z : Int))
theorem Tc_snoc {l : Int} {zs : List Nat} {a z : Nat} : Tc l (zs ++ [a]) z = true ↔ Tc l zs z = true ∨ (a : Int) / l = (z : Int) := by
  unfold Tc; rw [List.any_append]; simp
def Pre (l : Int) (zs : List Nat) (Y X : List (List Int)) : Prop := Y.length = X.length ∧ ∀ k, k < X.length → ∃ rest, X.getD k [] = Y.getD k [] ++ rest ∧ ∀ z ∈ rest, ∀ a ∈ zs, (a : Int) / l ≠ z
theorem tcF_pre {y x : Int} {P Q : List Int} : ∃ Q', tcF y x (P ++ Q) = tcF y x P ++ Q' ∧ ∀ z ∈ Q', z ∈ Q ∧ z ≠ x := by
  unfold tcF
  rw [List.filter_append, List.take_append]
  refine ⟨_, rfl, fun z hz => ?_⟩
  have := List.mem_filter.1 (List.mem_of_mem_take hz)
  exact ⟨this.1, by simpa using this.2⟩
theorem Pre.touch {zs : List Nat} {X Y : List (List Int)} {a : Nat} (h : Pre l zs Y X) (hX : okSt s y l m X = true) (hY : okSt s y l m Y = true) (ha : a ≤ 999) : Pre l (zs ++ [a]) (stp s y l (a : Int) Y) (stp s y l (a : Int) X) := by
  obtain ⟨h1, h2⟩ := h
  obtain ⟨g1, g2, g3⟩ := okSt_iff.1 hX
  obtain ⟨hs, hy, hl, -⟩ := vG_iff.1 g1
  obtain ⟨e1, e2⟩ := setN_spec (a := (a : Int)) hs hl ⟨by omega, by omega⟩
  have ha' : (0 : Int) ≤ (a : Int) ∧ (a : Int) ≤ 999 := ⟨by omega, by omega⟩
  refine ⟨by rw [stp_length, stp_length, h1], fun k hk => ?_⟩
  rw [stp_length] at hk
  obtain ⟨rest, q1, q2⟩ := h2 k hk
  rw [stp_row hX ha' k hk, stp_row hY ha' k (by omega)]
  by_cases e : k = setN s l (a : Int)
  · rw [if_pos e, if_pos e, q1]
    obtain ⟨Q, r1, r2⟩ := tcF_pre (y := y) (x := (a : Int) / l) (P := Y.getD k []) (Q := rest)
    refine ⟨Q, r1, fun z hz b hb => ?_⟩
    rcases List.mem_append.1 hb with hb | hb
    · exact q2 z (r2 z hz).1 b hb
    · rw [List.mem_singleton.1 hb]; exact fun q => (r2 z hz).2 q.symm
  · rw [if_neg e, if_neg e]
    refine ⟨rest, q1, fun z hz b hb => ?_⟩
    rcases List.mem_append.1 hb with hb | hb
    · exact q2 z hz b hb
    · rw [List.mem_singleton.1 hb]
      have := ((row_ok hX hk).2.1 z (by rw [q1]; exact List.mem_append_right _ hz)).2
      exact fun q => e (by rw [← q, e1] at this; omega)
theorem pre_nil {X : List (List Int)} (hX : (X.length : Int) = s) : Pre l [] (nilX s) X := ⟨by simp; omega, fun k hk => ⟨X.getD k [], by rw [nilX_row]; rfl, fun z hz a ha => by cases ha⟩⟩
structure Pi (s y l m : Int) (c : Nat → Int) (n : Nat) (wh : Int) (X0 : List (List Int)) (xs : List Nat) (i : Nat) : Prop where
  ok : okSt s y l m (stI s y l wh X0 xs i) = true
  all : (wh < 0 ∨ (i : Int) ≤ wh) → stI s y l wh X0 xs i = sts s y l (xs.take i) X0 ∧ msI s y l wh X0 xs i ≤ unm (mk0 s y l c n (trC c n)) (xs.take i)
  pre : 0 ≤ wh → wh ≤ (i : Int) → Pre l ((xs.take i).drop wh.toNat) (if (i : Int) = wh then nilX s else stI s y l wh X0 xs i) (sts s y l (xs.take i) X0) ∧ msI s y l wh X0 xs i ≤ unm (mk0 s y l c n (trC c n)) (xs.take i) + cN (fun z => lnH l (mk0 s y l c n (trC c n)) n z && Tc l ((xs.take i).drop wh.toNat) z) 1000
theorem Pi.zero {X0 : List (List Int)} (hg : vG s y l m = true) (hX : okSt s y l m X0 = true) (wh : Int) (xs : List Nat) : Pi s y l m c n wh X0 xs 0 := by
  refine ⟨hX, fun _ => ⟨rfl, Nat.zero_le _⟩, fun h1 h2 => ?_⟩
  have e : wh = 0 := by omega
  subst e
  refine ⟨?_, Nat.zero_le _⟩
  rw [if_pos (by rfl)]
  exact pre_nil (okSt_iff.1 hX).2.1
theorem Pi.succ {X0 : List (List Int)} (hg : vG s y l m = true) (hc : Ec.chk c A B false n = 0) (hn : n ≤ 400) (hX : okSt s y l m X0 = true) {wh : Int} {xs : List Nat} {v : Nat} {r : Nat → Int} (hw : Wk (cdOf c n) A n xs v r) {i : Nat} (hi : i < xs.length) (h : Pi s y l m c n wh X0 xs i) : Pi s y l m c n wh X0 xs (i + 1) := by
  obtain ⟨ha, r', hw'⟩ := hw.part i hi
  have ts := take_snocN hi
  generalize hae : xs.getD i 0 = a at ha hw' ts
  obtain ⟨o1, o2⟩ := way_must hg hc hn hw' hX
  have hl := (vG_iff.1 hg).2.2.1
  have hk : mk0 s y l c n (trC c n) a = true → hitN s l (a : Int) (sts s y l (xs.take i) X0) = 1 := must_at ha o2
  have ok1 : okSt s y l m (if (i : Int) = wh then nilX s else stI s y l wh X0 xs i) = true := by
    split
    · exact nilX_ok hg
    · exact h.ok
  refine ⟨by unfold stI; exact okSt_stp ok1 ⟨by omega, by omega⟩, fun h1 => ?_, fun h1 h2 => ?_⟩
  · obtain ⟨g1, g2⟩ := h.all (by omega)
    unfold stI msI
    rw [hae, if_neg (by omega), g1, ts, sts_snoc, unm_snoc]
    refine ⟨rfl, ?_⟩
    cases q : mk0 s y l c n (trC c n) a with
    | true => rw [if_pos (hk q)]; simp; omega
    | false => simp; split <;> omega
  · by_cases e : (i : Int) + 1 = wh
    · obtain ⟨g1, g2⟩ := h.all (by omega)
      rw [if_pos (by omega)]
      have e9 : (xs.take (i + 1)).drop wh.toNat = [] := List.drop_eq_nil_of_le (by rw [List.length_take]; omega)
      rw [e9]
      have o3 : okSt s y l m (sts s y l (xs.take (i + 1)) X0) = true := by rw [ts, sts_snoc]; exact okSt_stp o1 ⟨by omega, by omega⟩
      refine ⟨pre_nil (okSt_iff.1 o3).2.1, ?_⟩
      · unfold msI
        rw [hae, if_neg (show ¬ (i : Int) = wh by omega), g1, ts, unm_snoc]
        cases q : mk0 s y l c n (trC c n) a with
        | true => rw [if_pos (hk q)]; simp; omega
        | false => simp; split <;> omega
    · obtain ⟨g1, g2⟩ := h.pre h1 (by omega)
      rw [if_neg (by omega)]
      have e9 : (xs.take (i + 1)).drop wh.toNat = (xs.take i).drop wh.toNat ++ [a] := by
        rw [ts, List.drop_append_of_le_length (by rw [List.length_take]; omega)]
      rw [e9]
      generalize (xs.take i).drop wh.toNat = zs at g1 g2
      unfold stI msI
      rw [hae]
      generalize (if (i : Int) = wh then nilX s else stI s y l wh X0 xs i) = Y at g1 ok1
      generalize msI s y l wh X0 xs i = M at g2
      refine ⟨?_, ?_⟩
      · rw [ts, sts_snoc]; exact g1.touch o1 ok1 (by omega)
      · rw [ts, unm_snoc]
        obtain ⟨x, hx, hx9⟩ : ∃ x : Nat, (a : Int) / l = (x : Int) ∧ x < 1000 := div_bd hl (by omega)
        have mono : cN (fun z => lnH l (mk0 s y l c n (trC c n)) n z && Tc l zs z) 1000 ≤ cN (fun z => lnH l (mk0 s y l c n (trC c n)) n z && Tc l (zs ++ [a]) z) 1000 := cN_mono fun z _ hz => by
          rw [Bool.and_eq_true] at hz ⊢
          exact ⟨hz.1, Tc_snoc.2 (.inl hz.2)⟩
        by_cases q9 : hitN s l (a : Int) Y = 1
        · rw [if_pos q9]; omega
        · rw [if_neg q9]
          cases q : mk0 s y l c n (trC c n) a with
          | false => simp only [Bool.false_eq_true, if_false]; omega
          | true =>
            simp only [if_true]
            -- the line was there, and is not touched yet
            obtain ⟨z1, z2⟩ := g1
            obtain ⟨hs, hy, -, -⟩ := vG_iff.1 hg
            obtain ⟨e1, e2⟩ := setN_spec (a := (a : Int)) hs hl ⟨by omega, by omega⟩
            have z3 := (okSt_iff.1 o1).2.1
            obtain ⟨rest, z4, z5⟩ := z2 (setN s l (a : Int)) (by omega)
            have z6 := hit_iffI.1 (hk q)
            rw [z4] at z6
            have z7 : (a : Int) / l ∈ rest := (List.mem_append.1 z6).resolve_left fun q8 => q9 (hit_iffI.2 q8)
            have z8 : Tc l zs x = false := by
              cases q8 : Tc l zs x with
              | false => rfl
              | true =>
                obtain ⟨b, hb, hb2⟩ := List.any_eq_true.1 q8
                exact absurd ((of_decide_eq_true hb2).trans hx.symm) (z5 _ z7 b hb)
            have z9 : lnH l (mk0 s y l c n (trC c n)) n x = true := lnH_iff.2 ⟨a, ha, q, hx⟩
            have := cN_add (p := fun z => lnH l (mk0 s y l c n (trC c n)) n z && Tc l (zs ++ [a]) z) (q := fun z => lnH l (mk0 s y l c n (trC c n)) n z && Tc l zs z) (x := x) (L := 1000) hx9 (fun z hz => by
              rw [Bool.and_eq_true, Bool.and_eq_true, Tc_snoc]
              constructor
              · rintro ⟨u1, u2 | u2⟩
                · exact .inl ⟨u1, u2⟩
                · exact .inr (by omega)
              · rintro (⟨u1, u2⟩ | rfl)
                · exact ⟨u1, .inl u2⟩
                · exact ⟨z9, .inr hx⟩) (by rw [z8, Bool.and_false])
            omega
theorem Pi.all' {X0 : List (List Int)} (hg : vG s y l m = true) (hc : Ec.chk c A B false n = 0) (hn : n ≤ 400) (hX : okSt s y l m X0 = true) (wh : Int) {xs : List Nat} {v : Nat} {r : Nat → Int} (hw : Wk (cdOf c n) A n xs v r) : ∀ i, i ≤ xs.length → Pi s y l m c n wh X0 xs i
  | 0, _ => Pi.zero hg hX wh xs
  | i + 1, h => Pi.succ hg hc hn hX hw h (Pi.all' hg hc hn hX wh hw i (by omega))
theorem way_prices (hg : vG s y l m = true) (hc : Ec.chk c A B false n = 0) (hn : n ≤ 400) {xs : List Nat} {v : Nat} {r : Nat → Int} (hw : Wk (cdOf c n) A n xs v r) : (unm (mk0 s y l c n (trC c n)) xs : Int) * m ≤ penV s y l m c A n := by
  have hm := (vG_iff.1 hg).2.2.2
  have hp := prc_bd hm (mk0 s y l c n (trC c n))
  have hA := loop_of hc
  obtain ⟨-, -, g, g2⟩ := hw.cost hp hA (trC_is hc)
  rw [unm_sum] at g2
  have hI := trC_is hc
  have : 0 ≤ rem (cdOf c n) A (prc m (mk0 s y l c n (trC c n))) (trC c n) v r := by
    by_cases e : v < n
    · have h1 := rem_ge hp hA (trC c n) 0 n hI (Nat.le_refl _) v r (Nat.zero_le _) e g
      have := (hp v).1
      omega
    · have h1 := (hw.cost hp hA (trC_is hc)).1
      obtain rfl : v = n := by omega
      rw [rem_end hI]; exact Int.le_refl _
  unfold penV
  omega
theorem miss_pre {X0 : List (List Int)} (hg : vG s y l m = true) (hc : Ec.chk c A B false n = 0) (hn : n ≤ 400) (hX : okSt s y l m X0 = true) (wh : Int) {xs : List Nat} {v : Nat} {r : Nat → Int} (hw : Wk (cdOf c n) A n xs v r) : (msI s y l wh X0 xs xs.length : Int) * m ≤ penV s y l m c A n + m * (lnC l (mk0 s y l c n (trC c n)) n 1000 : Int) := by
  have P := Pi.all' hg hc hn hX wh hw xs.length (Nat.le_refl _)
  have h2 := way_prices hg hc hn hw
  have hm := (vG_iff.1 hg).2.2.2
  have h3 : msI s y l wh X0 xs xs.length ≤ unm (mk0 s y l c n (trC c n)) xs + lnC l (mk0 s y l c n (trC c n)) n 1000 := by
    by_cases e : wh < 0 ∨ ((xs.length : Nat) : Int) ≤ wh
    · have := (P.all e).2
      rw [List.take_length] at this
      omega
    · have h4 := (P.pre (by omega) (by omega)).2
      rw [List.take_length] at h4
      have h5 : cN (fun z => lnH l (mk0 s y l c n (trC c n)) n z && Tc l (xs.drop wh.toNat) z) 1000 ≤ cN (lnH l (mk0 s y l c n (trC c n)) n) 1000 := cN_mono fun z _ hz => (Bool.and_eq_true _ _ ▸ hz).1
      have h6 : cN (lnH l (mk0 s y l c n (trC c n)) n) 1000 = lnC l (mk0 s y l c n (trC c n)) n 1000 := by unfold cN lnC; rw [List.countP_eq_length_filter]
      omega
  have h7 := Int.mul_le_mul_of_nonneg_right (show (msI s y l wh X0 xs xs.length : Int) ≤ (unm (mk0 s y l c n (trC c n)) xs : Int) + (lnC l (mk0 s y l c n (trC c n)) n 1000 : Int) by omega) hm.1
  rw [Int.add_mul, Int.mul_comm (lnC l (mk0 s y l c n (trC c n)) n 1000 : Int)] at h7
  omega
end
end Ca
end Go.Proofs.Ytmjnakhpekbenaa
namespace Go.Proofs.Ytmjnakhpekbenaa
open Go.RowKit Fw
namespace Ca
theorem walk3_any (p : Option Addr) (n cap : Nat) (c A0 B : Nat → Int) (pk : Option Addr) (ck : Nat) (zs : List Int) (w : World) (hIn : Ec.InC w p n c A0 B) (hc : Ec.chk c A0 B false n = 0) (hK : InI w pk zs) :
    Calls Try.prog 29 #[.slice p n cap, .slice pk zs.length ck] w fun e w' => ∃ pl cl xs v r, e = .returned (.slice pl (nI xs).length cl) ∧ InI w' pl (nI xs) ∧ Wk (cdOf c n) A0 n xs v r ∧ xs.length ≤ 900 ∧ Below w.heap.size w w' :=
  (walk_any p n cap c A0 B pk ck zs w hIn hc hK).mono fun e w' ⟨pl, cl, xs, v, r, h1, h2, h3, h4⟩ => ⟨pl, cl, xs, v, r, h1, row_in (HP.get h2 0 rfl), h3, h4, HP.below h2⟩
theorem Pen_yes (s y l m : Int) (p : Option Addr) (n cap : Nat) (c A B : Nat → Int) (w : World) (hIn : Ec.InC w p n c A B) (hn : n ≤ 400) (h : okC s y l m c A B n = true) :
    Calls Try.prog 24 #[.agg #[vI s, vI y, vI l, vI m], .slice p n cap] w fun e w' => e = .returned (.tuple #[vI (penV s y l m c A n), vI 0]) ∧ Below w.heap.size w w' := by
  have := PenaltyU s y l m p n cap c A B w hIn hn
  unfold penU errU at this
  rw [if_pos h, if_pos h] at this; exact this
theorem Rel_yes (s y l m : Int) (p : Option Addr) (n cap : Nat) (c A B : Nat → Int) (w : World) (hIn : Ec.InC w p n c A B) (hn : n ≤ 400) (h : okC s y l m c A B n = true) :
    Calls Try.prog 26 #[.agg #[vI s, vI y, vI l, vI m], .slice p n cap] w fun e w' => e = .returned (.tuple #[vI (m * (lnC l (mk0 s y l c n (trC c n)) n 1000 : Int)), vI 0]) ∧ Below w.heap.size w w' := by
  have := ReloadU s y l m p n cap c A B w hIn hn
  unfold relU errU at this
  rw [if_pos h, if_pos h] at this; exact this
theorem pen_bd {s y l m : Int} {c A B : Nat → Int} {n : Nat} (hg : vG s y l m = true) (hc : Ec.chk c A B false n = 0) : 0 ≤ penV s y l m c A n ∧ penV s y l m c A n ≤ 187500000000000 :=
  (cost_facts (A := A) hc (prc_bd (vG_iff.1 hg).2.2.2 _)).2
theorem rel_bd {s y l m : Int} {f : Nat → Bool} {n : Nat} (hg : vG s y l m = true) : 0 ≤ m * (lnC l f n 1000 : Int) ∧ m * (lnC l f n 1000 : Int) ≤ 100000 := by
  have h1 := mul_bd (vG_iff.1 hg).2.2.2 (x := (lnC l f n 1000 : Int)) (by omega)
  have h2 : lnC l f n 1000 ≤ 1000 := by unfold lnC; exact Nat.le_trans List.countP_le_length (by simp)
  omega
theorem stI_succ {s y l wh : Int} {X0 Y : List (List Int)} {xs : List Nat} {i : Nat} (h : (if (i : Int) = wh then nilX s else stI s y l wh X0 xs i) = Y) : stI s y l wh X0 xs (i + 1) = stp s y l ((xs.getD i 0 : Nat) : Int) Y := by
  subst h; rfl
theorem msI_hit {s y l wh : Int} {X0 Y : List (List Int)} {xs : List Nat} {i M : Nat} (h : (if (i : Int) = wh then nilX s else stI s y l wh X0 xs i) = Y) (hM : M = msI s y l wh X0 xs i) (hh : decide (hitN s l ((xs.getD i 0 : Nat) : Int) Y = 1) = true) : M = msI s y l wh X0 xs (i + 1) := by
  subst h; unfold msI; rw [if_pos (of_decide_eq_true hh), hM, Nat.add_zero]
theorem msI_miss {s y l wh : Int} {X0 Y : List (List Int)} {xs : List Nat} {i M : Nat} (h : (if (i : Int) = wh then nilX s else stI s y l wh X0 xs i) = Y) (hM : M = msI s y l wh X0 xs i) (hh : decide (hitN s l ((xs.getD i 0 : Nat) : Int) Y = 1) = false) : M + 1 = msI s y l wh X0 xs (i + 1) := by
  subst h; unfold msI; rw [if_neg (of_decide_eq_false hh), hM]
theorem msI_le {s y l wh : Int} {X0 : List (List Int)} {xs : List Nat} : ∀ i, msI s y l wh X0 xs i ≤ i
  | 0 => Nat.le_refl _
  | i + 1 => by
    have := msI_le (s := s) (y := y) (l := l) (wh := wh) (X0 := X0) (xs := xs) i
    unfold msI
    generalize (if (i : Int) = wh then nilX s else stI s y l wh X0 xs i) = Y
    split <;> omega
theorem nilS_X (n : Nat) : stX (nilS n) = nilX (n : Int) := by simp [stX, nilX]
end Ca
end Go.Proofs.Ytmjnakhpekbenaa
