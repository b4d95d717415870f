/- What the proof of CacheHolds stands on, part 5 of 5. -/
import Derived.BigQuiet
import Derived.BigRegion
import Derived.CallsIn
import Derived.ChangeAlike
import Derived.ChangeArms
import Derived.ChangeKeysEq
import Derived.ChangeSlices
import Derived.Deep.AppendLies
import Derived.Deep.CutRange
import Derived.Deep.DeepCutAuto
import Derived.Deep.Heap
import Derived.Deep.LoopGhost
import Derived.Deep.Matrix
import Derived.Deep.MidRow
import Derived.Deep.QuietTactic
import Derived.Deep.Slices
import Derived.Great.BuildSlice
import Derived.Great.Walk
import Derived.Ground.Names2Prog
import Derived.Ground.SlgnProg
import Derived.Ground.SlsfProg
import Derived.Handy
import Derived.KernelRfl
import Derived.Laws.AppendOwn
import Derived.Laws.AppendOwnNone
import Derived.Laws.CopyRow
import Derived.Laws.Externs
import Derived.Laws.MakeOwn
import Derived.Laws.Rows
import Derived.Laws.StructEq
import Derived.Lib.AppendZerosOnto
import Derived.Lib.Overlaps
import Derived.Lib.QuietBelow
import Derived.Lib.SliceRun
import Derived.OpenShut
import Derived.Orders
import Derived.OrdersIn
import Derived.RangeFuncFrom
import Derived.RangeFuncLeaves
import Derived.RangeFuncWrites
import Derived.RegionTactic
import Derived.Shelf.SlSortCmp.HeapSortK
import Derived.Shelf.SlSortCmp.InsertionK
import Derived.Shelf.SlSortCmp.MedianK
import Derived.Shelf.SlSortCmp.NoneTotal
import Derived.Shelf.SlSortCmp.PartialInsertionK
import Derived.Shelf.SlSortCmp.PartitionEqualK
import Derived.Shelf.SlSortCmp.PartitionK
import Derived.Shelf.SlSortCmp.PdqK
import Derived.Shelf.SlSortCmp.PivotK
import Derived.Shelf.SlSortCmp.ReverseRangeK
import Derived.Shelf.SlSortCmp.SiftDownK
import Derived.Shelf.Slices.Cells
import Derived.Shelf.Slices.Clone
import Derived.Shelf.Slices.Delete
import Derived.Shelf.Slices.Empties
import Derived.Shelf.Slices.SearchI
import Derived.Shelf.Slices.Turned
import Derived.Shelf.SlicesE.Clone
import Derived.Shelf.SlicesE.Delete
import Derived.Shelf.SlicesQ.Reverse
import Derived.Shelf.Small.Bits
import Derived.Shelf.Small.Wraps
import Derived.Shelf.Strconv.Itoa0
import Derived.SizedLaws
import Derived.Sort.AssemblyPlain
import Derived.Still
import Derived.StillTail
import Derived.TacticsIn
import Derived.Test.YtmjnakhpekbenaaProg
import Derived.WalkKit
import Derived.WalkLawsBesides
import Derived.Test.YtmjnakhpekbenaaCacheHoldsD
set_option linter.unusedVariables false
set_option linter.unusedSimpArgs false
namespace Go.Proofs.Ytmjnakhpekbenaa
open Go.RowKit Fw
namespace Ca
set_option maxRecDepth 20000 in
set_option maxHeartbeats 4000000 in
theorem Must_any (s y l m : Int) (p : Option Addr) (n cap : Nat) (c A B : Nat → Int) (R : Fl.Tr) (hR : okC s y l m c A B n = true → Fl.Is (cdOf c n) R 0 n ∧ ∀ (pb : Nat) (cq : Option Addr) (cap b6 b4 ga : Nat), BrAll (BrP0 s y l m pb cq n cap b6 b4 ga c A B) (BrA0 s y l m pb cq n cap b6 b4 ga c A B) R) (w : World) (hIn : Ec.InC w p n c A B) (hn : n ≤ 400) :
    Calls Try.prog 46 #[.agg #[vI s, vI y, vI l, vI m], .slice p n cap] w (MarkR0 s y l m c A B n R w) := by
  refine calls_of Try.func46 rfl (m := 11) rfl [(0, .agg #[vI s, vI y, vI l, vI m]), (1, .slice p n cap)] (Fr_enter [.agg #[vI s, vI y, vI l, vI m], .slice p n cap] 11 (Nat.le_of_ble_eq_true rfl)) ?_
  have hH1 : HP Tr w w [] := HP.refl w
  refine WC.seq fun K2 hK2 => WC.region ?_
  refine WL.alloc (c := #[vI s, vI y, vI l, vI m]) (T := 23) hH1 2 rfl (by decide) rfl rfl (fun b2 => vP b2 0) (by kernel_rfl) (fun b2 w3 hw3 => ?_)
  have hH4 : HP Tr w w3 [.cel b2 #[vI s, vI y, vI l, vI m] 23] := hw3.2
  have nb2 := hw3.1
  clear hw3
  refine WL.z (v := .slice none 0 0) 4 ?_
  refine WL.z (v := vI 0) 5 ?_
  refine WL.nil (WQ.then (hK2 _ _ _ (WC.seq fun K5 hK5 => WC.region ?_)))
  refine WL.y (v := .agg #[vI s, vI y, vI l, vI m]) 6 (x_loadS (cs := [vI s, vI y, vI l, vI m]) rfl rfl Try.underlying23 rfl sz23 (HP.range hH4 0 rfl rfl)) ?_
  refine WL.z (v := .slice p n cap) 7 ?_
  refine WL.call (f := 70) (args := #[.agg #[vI s, vI y, vI l, vI m], .slice p n cap, .func (.func 59) #[] #[], .func (.func 63) #[] #[]]) 8 rfl (Nat.le_of_ble_eq_true rfl) rfl rfl (by kernel_rfl) ?_
  refine (marks0_any s y l m p n cap c A B R hR _ (hIn.below (HP.below hH4)) hn).mono ?_
  rintro e w4 (⟨hno, rfl, hb⟩ | ⟨hyes, go, rfl, hb⟩)
  ·
    refine ⟨_, rfl, ?_⟩
    have hH6 : HP Tr w _ [.cel b2 #[vI s, vI y, vI l, vI m] 23] := HP.call hH4 hb
    refine WL.z (v := .slice none 0 0) 9 ?_
    refine WL.z (v := vI 1) 10 ?_
    refine WL.z (v := .slice none 0 0) 4 ?_
    refine WL.z (v := vI 1) 5 ?_
    refine WL.nil (WQ.then (hK5 _ _ _ ?_))
    refine WC.sub (l' := [(0, .agg #[vI s, vI y, vI l, vI m]), (1, .slice p n cap), (2, vP b2 0), (4, .slice none 0 0), (5, vI 1)]) ⟨rfl, rfl, rfl, rfl, rfl, trivial⟩ ?_
    refine WC.ret ?_
    refine WQ.ret2 4 5 rfl rfl rfl ?_
    exact .inl ⟨hno, rfl, HP.below hH6⟩
  ·
    refine ⟨_, rfl, ?_⟩
    have hH7 : HP Tr w _ [.cel b2 #[vI s, vI y, vI l, vI m] 23, .cel go (brow n (mk0 s y l c n R)) 4] := HP.trans hH4 hb
    refine WL.z (v := vS go n n) 9 ?_
    refine WL.z (v := vI 0) 10 ?_
    refine WL.z (v := vS go n n) 4 ?_
    refine WL.z (v := vI 0) 5 ?_
    refine WL.nil (WQ.then (hK5 _ _ _ ?_))
    refine WC.sub (l' := [(0, .agg #[vI s, vI y, vI l, vI m]), (1, .slice p n cap), (2, vP b2 0), (4, vS go n n), (5, vI 0)]) ⟨rfl, rfl, rfl, rfl, rfl, trivial⟩ ?_
    refine WC.ret ?_
    refine WQ.ret2 4 5 rfl rfl rfl ?_
    exact .inr ⟨hyes, go, rfl, HP.drop hH7 0⟩
def c0 : Nat → Int := fun _ => 0
def R5 : Fl.Tr := .one 0 (.one 1 (.one 2 (.one 3 (.one 4 .nil))))
theorem ok5 : okC 1 2 4 1 c0 c0 c0 5 = true := by kernel_rfl
theorem mk5 : brow 5 (mk0 1 2 4 c0 5 R5) = #[.bool false, .bool true, .bool true, .bool true, .bool false] := by kernel_rfl
theorem is5 : Fl.Is (cdOf c0 5) R5 0 5 := ⟨rfl, fun h => absurd (show (29 : Int) ≤ 0 from h.1) (by decide), rfl, fun h => absurd (show (29 : Int) ≤ 0 from h.1) (by decide), rfl, fun h => absurd (show (29 : Int) ≤ 0 from h.1) (by decide), rfl, fun h => absurd (show (29 : Int) ≤ 0 from h.1) (by decide), rfl, fun h => absurd (show (29 : Int) ≤ 0 from h.1) (by decide), rfl⟩
theorem must5_any (gc : Nat) (w : World) (hIn : Ec.InC w (some ⟨gc, 0, none⟩) 5 c0 c0 c0) :
    Calls Try.prog 46 #[.agg #[vI 1, vI 2, vI 4, vI 1], vS gc 5 5] w fun e w' => ∃ go, e = .returned (.tuple #[vS go 5 5, vI 0]) ∧ HP Tr w w' [.cel go #[.bool false, .bool true, .bool true, .bool true, .bool false] 4] :=
  (Must_any 1 2 4 1 (some ⟨gc, 0, none⟩) 5 5 c0 c0 c0 R5 (fun _ => ⟨is5, fun _ _ _ _ _ _ => trivial⟩) w hIn (by decide)).mono fun e w' h => by
    rcases h with ⟨h, _⟩ | ⟨_, go, h1, h2⟩
    · rw [ok5] at h; cases h
    · exact ⟨go, h1, by rw [mk5] at h2; exact h2⟩
theorem touch5_any (q : Option Addr) (cp : Nat) (b10 : Nat) (w : World) (hS : InS2 w q [⟨some ⟨b10, 0, none⟩, [], 0⟩]) :
    Calls Try.prog 12 #[.agg #[vI 1, vI 2, vI 4, vI 1], .slice q 1 cp, vI 1] w fun e w' => ∃ pv cp' r, e = .returned (.tuple #[.slice pv 1 cp', .bool false, vI 0]) ∧ r.xs = [0] ∧ InS2 w' pv [r] ∧ Below w.heap.size w w' :=
  (Touch_any 1 2 4 1 1 q [⟨some ⟨b10, 0, none⟩, [], 0⟩] cp w hS (by simp)).mono fun e w' h => by
    rcases h with ⟨h, _⟩ | ⟨_, pv, cp', S', h1, h2, h3, h4⟩
    · have e0 : stX [⟨some ⟨b10, 0, none⟩, [], 0⟩] = [[]] := rfl
      rw [e0] at h; exact absurd h (by decide +kernel)
    · have e1 : stp 1 2 4 1 (stX [⟨some ⟨b10, 0, none⟩, [], 0⟩]) = [[0]] := by kernel_rfl
      have e2 : hitN 1 4 1 (stX [⟨some ⟨b10, 0, none⟩, [], 0⟩]) = 0 := by kernel_rfl
      rw [e1] at h2
      rw [e2] at h1
      match S', h2, h1, h3 with
      | [], h2, _, _ => cases h2
      | [r], h2, h1, h3 => exact ⟨pv, cp', r, h1, by simpa [stX] using h2, h3, h4⟩
      | r :: r2 :: S', h2, _, _ => simp [stX] at h2
theorem info75 : ∃ i, Try.prog.info? 75 = some i ∧ i.zero = some (.agg #[.int .i64 0, .int .i64 0, .int .i64 0]) ∧ i.size = 3 ∧ i.bytes = 24 := Ec.infoR'
theorem make5 (W : World) : (Instr.makeSlice 42 (.int .i64 5) (.int .i64 5)).run Try.prog W = .ok (.slice (some ⟨W.heap.size, 0, none⟩) 5 5) (W.alloc (.cells (madeCells #[.int .i64 0, .int .i64 0, .int .i64 0] (5 * 3)) 75)) := by
  obtain ⟨i0, hi0, hz0, hz1, hz2⟩ := info75
  have hr := run_make (P := Try.prog) W 42 75 i0 _ Try.underlying42 hi0 hz0 .i64 .i64 5 5 (by omega) (by omega) (by rw [hz2]; omega) (by omega)
  rw [hz1] at hr
  exact hr
theorem made15 {k : Nat} (hk : k < 15) : (madeCells #[Value.int .i64 0, .int .i64 0, .int .i64 0] (5 * 3))[k]? = some (Value.int .i64 0) := by
  have h : k % 3 = 0 ∨ k % 3 = 1 ∨ k % 3 = 2 := by omega
  unfold madeCells
  rcases h with h | h | h <;> simp [hk, h]
theorem in5 {w : World} {g : Nat} (h : Ent.holds w (.cel g (madeCells #[.int .i64 0, .int .i64 0, .int .i64 0] (5 * 3)) 75)) : Ec.InC w (some ⟨g, 0, none⟩) 5 c0 c0 c0 := fun _ => ⟨g, 0, rfl, fun i hi j v hv => by
  have h2 : w.heap[g]? = some (.cells _ 75 (0, 0)) := h
  rw [cell_of_row w g _ _ 75 (0, 0) h2]
  have hv2 : v = .int .i64 0 ∧ j < 3 := by
    match j, hv with
    | 0, hv => simp [c0] at hv; exact ⟨hv.symm, by omega⟩
    | 1, hv => simp [c0] at hv; exact ⟨hv.symm, by omega⟩
    | 2, hv => simp [c0] at hv; exact ⟨hv.symm, by omega⟩
    | j + 3, hv => simp at hv
  obtain ⟨rfl, hj⟩ := hv2
  have hlt : 0 + i * 3 + j < 15 := by omega
  generalize 0 + i * 3 + j = k at hlt
  exact made15 hlt⟩
set_option maxRecDepth 20000 in
set_option maxHeartbeats 4000000 in
theorem sane_any (w : World) :
    Calls Try.prog 16 #[] w fun e w' => e = .returned (.bool true) ∧ Below w.heap.size w w' := by
  refine calls_of Try.func16 rfl (m := 74) rfl [] (Fr_enter [] 74 (Nat.le_of_ble_eq_true rfl)) ?_
  have hH1 : HP Tr w w [] := HP.refl w
  refine WC.seq fun K2 hK2 => WC.region ?_
  refine WL.z (v := .bool false) 0 ?_
  refine WL.nil (WQ.then (hK2 _ _ _ (WC.seq fun K3 hK3 => WC.region ?_)))
  refine WL.z (v := .agg #[vI 1, vI 2, vI 4, vI 1]) 7 ?_
  refine WL.alloc (c := #[vI 0, vI 0, vI 0, vI 0]) (T := 23) hH1 1 rfl (by decide) rfl rfl (fun b1 => vP b1 0) (by kernel_rfl) (fun b1 w4 hw4 => ?_)
  have hH5 : HP Tr w w4 [.cel b1 #[vI 0, vI 0, vI 0, vI 0] 23] := hw4.2
  have nb1 := hw4.1
  clear hw4
  refine WL.storeS (H2 := [.cel b1 #[vI 1, vI 2, vI 4, vI 1] 23]) 0 hH5 rfl rfl rfl rfl rfl rfl sz23 rfl (Nat.le_of_ble_eq_true rfl) rfl rfl ?_
  intro w6 hH7
  refine WL.nil (WQ.then (hK3 _ _ _ (WC.seq fun K8 hK8 => WC.region ?_)))
  refine WL.y (v := .agg #[vI 1, vI 2, vI 4, vI 1]) 9 (x_loadS (cs := [vI 1, vI 2, vI 4, vI 1]) rfl rfl Try.underlying23 rfl sz23 (HP.range hH7 0 rfl rfl)) ?_
  refine WL.alloc (c := #[]) (T := 3) hH7 10 rfl (by decide) rfl rfl (fun b10 => vS b10 0 0) (by kernel_rfl) (fun b10 w9 hw9 => ?_)
  have hH10 : HP Tr w w9 [.cel b1 #[vI 1, vI 2, vI 4, vI 1] 23, .cel b10 #[] 3] := hw9.2
  have nb10 := hw9.1
  clear hw9
  refine WL.alloc (c := #[vS b10 0 0]) (T := 33) hH10 11 rfl (by decide) rfl rfl (fun b11 => vS b11 1 1) (by kernel_rfl) (fun b11 w11 hw11 => ?_)
  have hH12 : HP Tr w w11 [.cel b1 #[vI 1, vI 2, vI 4, vI 1] 23, .cel b10 #[] 3, .cel b11 #[vS b10 0 0] 33] := hw11.2
  have nb11 := hw11.1
  clear hw11
  have hS9 : InS2 _ (some ⟨b11, 0, none⟩) [⟨some ⟨b10, 0, none⟩, [], 0⟩] := ⟨fun _ => ⟨b11, 0, rfl, fun i hi j v hv => by
        have hi : i < 1 := hi
        obtain rfl : i = 0 := by omega
        match j, hv with
        | 0, hv => cases hv; exact HP.cell hH12 2 rfl rfl
        | j + 1, hv => simp at hv⟩, fun r hr => by obtain rfl := List.mem_singleton.1 hr; exact ⟨fun h => absurd h (by simp), Nat.le_refl _, Nat.zero_le _, fun x hx => by cases hx⟩⟩
  refine WL.call (f := 12) (args := #[.agg #[vI 1, vI 2, vI 4, vI 1], vS b11 1 1, vI 1]) 12 rfl (Nat.le_of_ble_eq_true rfl) rfl rfl (by kernel_rfl) ?_
  refine (touch5_any (some ⟨b11, 0, none⟩) 1 b10 _ hS9).mono ?_
  rintro e w13 ⟨pvt, cpt, rt, rfl, hrx, hIt, hb14⟩
  refine ⟨_, rfl, ?_⟩
  have hH15 : HP Tr w _ [.cel b1 #[vI 1, vI 2, vI 4, vI 1] 23, .cel b10 #[] 3, .cel b11 #[vS b10 0 0] 33] := HP.call hH12 hb14
  refine WL.z (v := .tuple #[.slice pvt 1 cpt, .bool false, vI 0]) 8 ?_
  refine WL.z (v := .slice pvt 1 cpt) 13 ?_
  refine WL.z (v := .bool false) 14 ?_
  refine WL.z (v := vI 0) 15 ?_
  refine WL.z (v := .slice pvt 1 cpt) 2 ?_
  refine WL.z (v := .bool false) 3 ?_
  refine WL.z (v := vI 0) 4 ?_
  refine WL.nil (WQ.then (hK8 _ _ _ ?_))
  refine WC.sub (l' := [(0, .bool false), (1, vP b1 0), (2, .slice pvt 1 cpt), (3, .bool false), (4, vI 0)]) ⟨rfl, rfl, rfl, rfl, rfl, trivial⟩ ?_
  refine WC.seq fun K16 hK16 => ?_
  have hInv := hH15
  have hb1r : ∀ i9, i9 < 1 → World.rangeAt w13 b1 i9 [vI 1, vI 2, vI 4, vI 1] := fun i9 h9 => match i9, h9 with | 0, _ => HP.range hInv 0 rfl rfl | n + 1, h9 => absurd h9 (by omega)
  have hH17 : HP Tr w13 w13 [] := HP.refl w13
  refine WC.confG (γ := Nat × Nat × Unit) [(0, .bool false), (1, vP b1 0), (2, .slice pvt 1 cpt), (3, .bool false), (4, vI 0)] (fun gy => [.agg #[vI 1, vI 2, vI 4, vI 1], vS gy.1 5 5, .tuple #[vS gy.2.1 5 5, vI 0], .tuple #[vS gy.2.1 5 5, vI 0], vS gy.2.1 5 5, vI 0, vS gy.2.1 5 5, vI 0]) (fun gy D wz => HP Tr w13 wz ([] ++ ((bif D 1 then [Ent.cel gy.1 (madeCells #[.int .i64 0, .int .i64 0, .int .i64 0] (5 * 3)) 75] else []) ++ ((bif D 2 then [Ent.cel gy.2.1 #[.bool false, .bool true, .bool true, .bool true, .bool false] 4] else []) ++ [])))) (0, 0, ()) (by kernel_rfl) ⟨rfl, rfl, rfl, rfl, rfl, trivial⟩ (by kernel_rfl) (by kernel_rfl) (by kernel_rfl) (fun _ => rfl) (by kernel_rfl) (HP.drew hH17) ?_ ?_
  · refine AllOk.cons ?o0 (AllOk.cons ?o1 (AllOk.cons ?o2 (AllOk.cons ?o3 (AllOk.cons ?o4 (AllOk.cons ?o5 (AllOk.cons ?o6 (AllOk.cons ?o7 (AllOk.nil _))))))))
    case o0 =>
      intro gy D wz hDi hdep hclo hW
      exact .inl ⟨rfl, rfl, .inl ⟨gy, wz, fun _ _ => rfl, x_loadS (cs := [vI 1, vI 2, vI 4, vI 1]) rfl rfl Try.underlying23 rfl sz23 (HP.oldRange hW trivial (hb1r 0 (by omega))), hW⟩⟩
    case o1 =>
      intro gy D wz hDi hdep hclo hW
      have d2 : D 2 = false := by
        cases h : D 2 with
        | false => rfl
        | true => exact absurd (hclo 2 _ rfl h ⟨1, .data⟩ (by simp) rfl) (by rw [hDi]; exact Bool.false_ne_true)
      have hW2 := hW
      try simp only [d2, hDi, cond_true, cond_false, List.append_nil, List.nil_append, List.cons_append] at hW2
      refine cf_alloc (c := (madeCells #[.int .i64 0, .int .i64 0, .int .i64 0] (5 * 3))) (T := 75) hW2 (fun b18 => vS b18 5 5) rfl rfl (x_makeR rfl rfl rfl (make5 _)) ?_
      rintro b18 w3 hA
      refine ⟨⟨b18, gy.2.1, ()⟩, fun j hj => ?_, rfl, ?_⟩
      · match j, hj with
        | 0, hj => rfl
        | 1, hj => rw [hDi] at hj; cases hj
        | 2, hj => rfl
        | 3, hj => rfl
        | 4, hj => rfl
        | 5, hj => rfl
        | 6, hj => rfl
        | 7, hj => rfl
        | j + 8, _ => rfl
      · show HP Tr w13 w3 ([] ++ ([Ent.cel b18 (madeCells #[.int .i64 0, .int .i64 0, .int .i64 0] (5 * 3)) 75] ++ ((bif D 2 then [Ent.cel gy.2.1 #[.bool false, .bool true, .bool true, .bool true, .bool false] 4] else []) ++ [])))
        try simp only [d2, cond_true, cond_false, List.append_nil, List.nil_append, List.cons_append]
        exact hA
    case o2 =>
      intro gy D wz hDi hdep hclo hW
      have d1 : D 1 = true := hdep ⟨1, .data⟩ (by simp) rfl
      have d3 : D 3 = false := by
        cases h : D 3 with
        | false => rfl
        | true => exact absurd (hclo 3 _ rfl h ⟨2, .data⟩ (by simp) rfl) (by rw [hDi]; exact Bool.false_ne_true)
      have d4 : D 4 = false := by
        cases h : D 4 with
        | false => rfl
        | true => exact absurd (hclo 4 _ rfl h ⟨3, .data⟩ (by simp) rfl) (by rw [d3]; exact Bool.false_ne_true)
      have d6 : D 6 = false := by
        cases h : D 6 with
        | false => rfl
        | true => exact absurd (hclo 6 _ rfl h ⟨2, .chain⟩ (by simp) rfl) (by rw [hDi]; exact Bool.false_ne_true)
      have hW2 := hW
      try simp only [d1, hDi, cond_true, cond_false, List.append_nil, List.nil_append, List.cons_append] at hW2
      refine .inl ⟨rfl, rfl, .inr (.inr ⟨46, #[.agg #[vI 1, vI 2, vI 4, vI 1], vS gy.1 5 5], by kernel_rfl, (must5_any gy.1 _ (in5 (HP.get hW2 0 rfl))).mono ?_⟩)⟩
      rintro e w3 ⟨go, rfl, hb9⟩
      have hA := HP.trans hW2 hb9
      refine ⟨⟨gy.1, go, ()⟩, fun j hj => ?_, rfl, ?_⟩
      · match j, hj with
        | 0, hj => rfl
        | 1, hj => rfl
        | 2, hj => rw [hDi] at hj; cases hj
        | 3, hj => exact absurd hj (by rw [d3]; exact Bool.false_ne_true)
        | 4, hj => exact absurd hj (by rw [d4]; exact Bool.false_ne_true)
        | 5, hj => rfl
        | 6, hj => exact absurd hj (by rw [d6]; exact Bool.false_ne_true)
        | 7, hj => rfl
        | j + 8, _ => rfl
      · show HP Tr w13 w3 ([] ++ ((bif D 1 then [Ent.cel gy.1 (madeCells #[.int .i64 0, .int .i64 0, .int .i64 0] (5 * 3)) 75] else []) ++ ([Ent.cel go #[.bool false, .bool true, .bool true, .bool true, .bool false] 4] ++ [])))
        try simp only [d1, cond_true, cond_false, List.append_nil, List.nil_append, List.cons_append]
        exact hA
    case o3 =>
      intro gy D wz hDi hdep hclo hW
      exact .inl ⟨rfl, rfl, .inl ⟨gy, wz, fun _ _ => rfl, by kernel_rfl, hW⟩⟩
    case o4 =>
      intro gy D wz hDi hdep hclo hW
      exact .inl ⟨rfl, rfl, .inl ⟨gy, wz, fun _ _ => rfl, by kernel_rfl, hW⟩⟩
    case o5 =>
      intro gy D wz hDi hdep hclo hW
      exact .inl ⟨rfl, rfl, .inl ⟨gy, wz, fun _ _ => rfl, by kernel_rfl, hW⟩⟩
    case o6 =>
      intro gy D wz hDi hdep hclo hW
      exact .inl ⟨rfl, rfl, .inl ⟨gy, wz, fun _ _ => rfl, by kernel_rfl, hW⟩⟩
    case o7 =>
      intro gy D wz hDi hdep hclo hW
      exact .inl ⟨rfl, rfl, .inl ⟨gy, wz, fun _ _ => rfl, by kernel_rfl, hW⟩⟩
  rintro ⟨b18, go, gu⟩ D w18 hall hH19
  simp only [hall 1 (by kernel_rfl), hall 2 (by kernel_rfl), cond_true, List.append_nil, List.nil_append, List.cons_append] at hH19
  clear hall
  refine WQ.sub (l' := [(0, .bool false), (1, vP b1 0), (2, .slice pvt 1 cpt), (3, .bool false), (4, vI 0), (5, vS go 5 5), (6, vI 0)]) ⟨rfl, rfl, rfl, rfl, rfl, rfl, rfl, trivial⟩ ?_
  refine WQ.then (hK16 _ _ _ (WC.seq fun K20 hK20 => ?_))
  obtain ⟨gt, ot, rfl, hrt⟩ := hIt.row (by simp)
  obtain ⟨gr, orr, hqr, hrr⟩ := (hIt.inn rt (by simp)).row (by simp [hrx])
  refine WC.region ?_
  refine WL.z (v := vI 0) 22 ?_
  refine WL.y (v := .bool true) 23 (x_eql rfl rfl rfl (by decide)) ?_
  refine WL.z (v := .bool true) 24 ?_
  refine WL.z (v := .bool false) 25 ?_
  refine WL.z (v := .bool true) 26 ?_
  refine WL.z (v := .bool true) 27 ?_
  refine WL.z (v := .bool true) 28 ?_
  refine WL.z (v := .slice (some ⟨gt, ot, none⟩) 1 cpt) 29 ?_
  refine WL.z (v := vI 1) 30 ?_
  refine WL.y (v := .bool true) 31 (x_eql rfl rfl rfl (by decide)) ?_
  refine WL.z (v := .bool true) 32 ?_
  refine WL.z (v := .bool true) 33 ?_
  refine WL.z (v := .slice (some ⟨gt, ot, none⟩) 1 cpt) 34 ?_
  refine WL.y (v := vP gt ot) 35 (x_idx (0) (ot) rfl rfl rfl Try.underlying24 sz33 (by omega) (by omega) (by omega)) ?_
  refine WL.y (v := .slice (some ⟨gr, orr, none⟩) 1 rt.c) 36 (x_load rfl rfl Try.underlying33 rfl (by have q9 := (hrt 0 (by simp)) 0 _ rfl; simp only [List.getD_cons_zero, slV, hqr, hrx, List.length_cons, List.length_nil] at q9; exact HP.old hH19 trivial q9)) ?_
  refine WL.z (v := vI 1) 37 ?_
  refine WL.y (v := .bool true) 38 (x_eql rfl rfl rfl (by decide)) ?_
  refine WL.z (v := .bool true) 39 ?_
  refine WL.z (v := .bool true) 40 ?_
  refine WL.z (v := .slice (some ⟨gt, ot, none⟩) 1 cpt) 41 ?_
  refine WL.y (v := vP gt ot) 42 (x_idx (0) (ot) rfl rfl rfl Try.underlying24 sz33 (by omega) (by omega) (by omega)) ?_
  refine WL.y (v := .slice (some ⟨gr, orr, none⟩) 1 rt.c) 43 (x_load rfl rfl Try.underlying33 rfl (by have q9 := (hrt 0 (by simp)) 0 _ rfl; simp only [List.getD_cons_zero, slV, hqr, hrx, List.length_cons, List.length_nil] at q9; exact HP.old hH19 trivial q9)) ?_
  refine WL.y (v := vP gr orr) 44 (x_idx (0) (orr) rfl rfl rfl Try.underlying33 sz3 (by omega) (by omega) (by omega)) ?_
  refine WL.y (v := vI 0) 45 (x_load rfl rfl Try.underlying3 rfl (by have q9 := (hrr 0 (by simp [hrx])) 0 _ rfl; rw [hrx] at q9; exact HP.old hH19 trivial q9)) ?_
  refine WL.y (v := .bool true) 46 (x_eql rfl rfl rfl (by decide)) ?_
  refine WL.z (v := .bool true) 47 ?_
  refine WL.z (v := .bool true) 48 ?_
  refine WL.z (v := vI 0) 49 ?_
  refine WL.y (v := .bool true) 50 (x_eql rfl rfl rfl (by decide)) ?_
  refine WL.z (v := .bool true) 51 ?_
  refine WL.z (v := .bool true) 52 ?_
  refine WL.z (v := vS go 5 5) 53 ?_
  refine WL.z (v := vI 5) 54 ?_
  refine WL.y (v := .bool true) 55 (x_eql rfl rfl rfl (by decide)) ?_
  refine WL.z (v := .bool true) 56 ?_
  refine WL.z (v := .bool true) 57 ?_
  refine WL.z (v := vS go 5 5) 58 ?_
  refine WL.y (v := vP go 0) 59 (x_idx (0) (0) rfl rfl rfl Try.underlying39 sz4 (by omega) (by omega) (by omega)) ?_
  refine WL.y (v := .bool false) 60 (x_load rfl rfl Try.underlying4 rfl (HP.cell hH19 1 rfl rfl)) ?_
  refine WL.z (v := .bool true) 61 ?_
  refine WL.z (v := .bool true) 62 ?_
  refine WL.z (v := .bool true) 63 ?_
  refine WL.z (v := vS go 5 5) 64 ?_
  refine WL.y (v := vP go 1) 65 (x_idx (1) (1) rfl rfl rfl Try.underlying39 sz4 (by omega) (by omega) (by omega)) ?_
  refine WL.y (v := .bool true) 66 (x_load rfl rfl Try.underlying4 rfl (HP.cell hH19 1 rfl rfl)) ?_
  refine WL.z (v := .bool true) 67 ?_
  refine WL.z (v := .bool true) 68 ?_
  refine WL.z (v := vS go 5 5) 69 ?_
  refine WL.y (v := vP go 4) 70 (x_idx (4) (4) rfl rfl rfl Try.underlying39 sz4 (by omega) (by omega) (by omega)) ?_
  refine WL.y (v := .bool false) 71 (x_load rfl rfl Try.underlying4 rfl (HP.cell hH19 1 rfl rfl)) ?_
  refine WL.z (v := .bool true) 72 ?_
  refine WL.z (v := .bool true) 73 ?_
  refine WL.z (v := .bool true) 0 ?_
  refine WL.nil (WQ.then (hK20 _ _ _ ?_))
  refine WC.sub (l' := [(0, .bool true), (1, vP b1 0), (2, .slice (some ⟨gt, ot, none⟩) 1 cpt), (3, .bool false), (4, vI 0), (5, vS go 5 5), (6, vI 0)]) ⟨rfl, rfl, rfl, rfl, rfl, rfl, rfl, trivial⟩ ?_
  refine WC.ret ?_
  refine WQ.ret1 0 rfl rfl ?_
  exact ⟨rfl, HP.below (HP.trans hInv hH19)⟩
end Ca
end Go.Proofs.Ytmjnakhpekbenaa
namespace Go.Proofs.Ytmjnakhpekbenaa
open Go.RowKit Fw Go.ChangeShapes Go.WideShapes
namespace Ca
/-- a state no greater than what comes in -/
def smX (X : List (List Int)) : Prop := X.length ≤ 281474976710656 ∧ ∀ x ∈ X, x.length ≤ 281474976710656
theorem smX_in {w : World} {p : Option Addr} {S : List SlI} (h : StIn w p S) : smX (stX S) := ⟨by rw [stX_len]; have := h.len; omega, fun x hx => by
  obtain ⟨r, hr, rfl⟩ := List.mem_map.1 hx
  have := h.rows r hr; omega⟩
theorem smX_ok {s y l m : Int} {X : List (List Int)} (h : okSt s y l m X = true) : smX X := by
  obtain ⟨h1, h2, h3⟩ := okSt_iff.1 h
  obtain ⟨hs, hy, -, -⟩ := vG_iff.1 h1
  refine ⟨by omega, fun x hx => ?_⟩
  obtain ⟨k, hk, rfl⟩ := List.mem_iff_getElem.1 hx
  have := (okR_iff.1 (h3 k hk)).1
  rw [List.getD_eq_getElem?_getD, List.getElem?_eq_getElem hk] at this
  simp only [Option.getD_some] at this; omega
theorem own3_any (p : Option Addr) (S : List SlI) (cp : Nat) (w : World) (hS : StIn w p S) :
    Calls Try.prog 11 #[.slice p S.length cp] w fun e w' => ∃ pv cp' S', e = .returned (.slice pv S'.length cp') ∧ stX S' = stX S ∧ InS2 w' pv S' ∧ Below w.heap.size w w' :=
  own_any p S cp w hS.inn hS.len hS.rows hS.nil
def TouQ (s y l m a : Int) (X : List (List Int)) (w : World) (e : Ending) (w' : World) : Prop :=
  (tOk s y l m a X = false ∧ e = .returned (.tuple #[.slice none 0 0, .bool false, vI 1]) ∧ Below w.heap.size w w') ∨
  (tOk s y l m a X = true ∧ ∃ pv cp S', e = .returned (.tuple #[.slice pv S'.length cp, .bool (decide (hitN s l a X = 1)), vI 0]) ∧ stX S' = stp s y l a X ∧ InS2 w' pv S' ∧ Below w.heap.size w w')
theorem Touch3_any {X : List (List Int)} (s y l m a : Int) (p : Option Addr) (S : List SlI) (cp : Nat) (w : World) (hS : InS2 w p S) (hX : stX S = X) (hm : smX X) :
    Calls Try.prog 12 #[.agg #[vI s, vI y, vI l, vI m], .slice p S.length cp, vI a] w (TouQ s y l m a X w) := by
  subst hX; exact Touch_any s y l m a p S cp w hS (by rw [← stX_len]; exact hm.1)
theorem tOk_iff {s y l m a : Int} {X : List (List Int)} : tOk s y l m a X = true ↔ okSt s y l m X = true ∧ 0 ≤ a ∧ a ≤ 999 := by
  unfold tOk; rw [Bool.and_eq_true, wn_iff]
theorem Touch_yes {X : List (List Int)} (s y l m a : Int) (p : Option Addr) (S : List SlI) (cp : Nat) (w : World) (hS : InS2 w p S) (hX : stX S = X) (h : tOk s y l m a X = true) :
    Calls Try.prog 12 #[.agg #[vI s, vI y, vI l, vI m], .slice p S.length cp, vI a] w fun e w' => ∃ pv cp S', e = .returned (.tuple #[.slice pv S'.length cp, .bool (decide (hitN s l a X = 1)), vI 0]) ∧ stX S' = stp s y l a X ∧ InS2 w' pv S' ∧ Below w.heap.size w w' :=
  (Touch3_any s y l m a p S cp w hS hX (smX_ok (tOk_iff.1 h).1)).mono fun e w' q => by
    rcases q with ⟨q, -⟩ | ⟨-, q⟩
    · rw [h] at q; cases q
    · exact q
end Ca
end Go.Proofs.Ytmjnakhpekbenaa
namespace Go.Proofs.Ytmjnakhpekbenaa
open Go.RowKit Fw
namespace Ca
def taC (s y l m a : Int) (t : List T2) : Bool := okT s y l m t && wn a 0 999
def joC (s y l m : Int) (t u : List T2) : Bool := okT s y l m t && okT s y l m u
theorem Ta_yes {P : Program} {s y l m a k : Int} {t : List T2} {f : Nat} {args : Array Value} {w : World} (h : Calls P f args w (TaR s y l m a k t w)) (hy : taC s y l m a t = true) :
    Calls P f args w fun e w' => ∃ pv cp', e = .returned (.tuple #[.slice pv (tcH s y (a / l) k t).length cp', vI 0]) ∧ HP Tr w w' [rowT pv (tcH s y (a / l) k t).length cp' (tcH s y (a / l) k t)] :=
  h.mono fun e w' q => by
    rcases q with ⟨q, -⟩ | ⟨-, q⟩
    · unfold taC at hy; rw [hy] at q; cases q
    · exact q
theorem Jo_yes {P : Program} {s y l m : Int} {t u J : List T2} {f : Nat} {args : Array Value} {w : World} (h : Calls P f args w (JoR s y l m t u J w)) (hy : joC s y l m t u = true) :
    Calls P f args w fun e w' => ∃ pv cp', e = .returned (.tuple #[.slice pv J.length cp', vI 0]) ∧ HP Tr w w' [rowT pv J.length cp' J] :=
  h.mono fun e w' q => by
    rcases q with ⟨q, -⟩ | ⟨-, q⟩
    · unfold joC at hy; rw [hy] at q; cases q
    · exact q
theorem tb_len {w : World} {p : Option Addr} {t : List T2} (h : TbIn w p t) : t.length ≤ 281474976710656 := by have := h.len; omega
end Ca
end Go.Proofs.Ytmjnakhpekbenaa
namespace Go.Proofs.Ytmjnakhpekbenaa
open Go.RowKit Fw
namespace Ca
theorem all_yes {n : Nat} {f : Nat → Bool} (h : ∀ i, i < n → f i = true) : (List.range n).all f = true := List.all_eq_true.2 fun i hi => h i (List.mem_range.1 hi)
theorem all_no {n i : Nat} {f : Nat → Bool} (hi : i < n) (h : f i = false) : (List.range n).all f = false := by
  cases q : (List.range n).all f with
  | false => rfl
  | true => have := List.all_eq_true.1 q i (List.mem_range.2 hi); rw [h] at this; cases this
theorem all_at {n : Nat} {f : Nat → Bool} (h : (List.range n).all f = true) {i : Nat} (hi : i < n) : f i = true := List.all_eq_true.1 h i (List.mem_range.2 hi)
/-- a line of a must table is in the state, young enough -/
def mR (s : Int) (X : List (List Int)) (t : List T2) (i : Nat) : Bool := decide (0 ≤ plcV (lnT t i) (X.getD ((lnT t i).tmod s).toNat [])) && decide (plcV (lnT t i) (X.getD ((lnT t i).tmod s).toNat []) ≤ agT t i)
def mustOK (s : Int) (X : List (List Int)) (t : List T2) : Bool := (List.range t.length).all (mR s X t)
/-- a line of a state is in the may table, old enough -/
def nR (y : Int) (u : List T2) (xs : List Int) (i : Nat) : Bool := decide ((ageT u (xs.getD i 0)).getD y ≤ (i : Int))
def nRow (y : Int) (u : List T2) (xs : List Int) : Bool := (List.range xs.length).all (nR y u xs)
def mayOK (y : Int) (X : List (List Int)) (u : List T2) : Bool := (List.range X.length).all fun k => nRow y u (X.getD k [])
def holC (s y l m : Int) (t u : List T2) (X : List (List Int)) : Bool := okT s y l m t && (okT s y l m u && okSt s y l m X)
def holV (s y : Int) (t u : List T2) (X : List (List Int)) : Bool := mustOK s X t && mayOK y X u
def HolR (s y l m : Int) (t u : List T2) (X : List (List Int)) (w : World) (e : Ending) (w' : World) : Prop :=
  ((holC s y l m t u X = false ∧ e = .returned (.tuple #[.bool false, vI 1])) ∨ (holC s y l m t u X = true ∧ e = .returned (.tuple #[.bool (holV s y t u X), vI 0]))) ∧ Below w.heap.size w w'
theorem validTable_at {s y l m : Int} {t : List T2} {r : Bool} (h : okT s y l m t = r) (p : Option Addr) (cp : Nat) (w : World) (hT : InT w p t) (hn : t.length ≤ 281474976710656) : Calls Try.prog 66 #[.agg #[vI s, vI y, vI l, vI m], .slice p t.length cp] w fun e w' => e = .returned (.bool r) ∧ Below w.heap.size w w' := h ▸ validTable_any s y l m p t cp w hT hn
theorem IsTable_at {s y l m : Int} {t : List T2} {r : Bool} (h : okT s y l m t = r) (p : Option Addr) (cp : Nat) (w : World) (hT : InT w p t) (hn : t.length ≤ 281474976710656) : Calls Try.prog 41 #[.agg #[vI s, vI y, vI l, vI m], .slice p t.length cp] w fun e w' => e = .returned (.bool r) ∧ Below w.heap.size w w' := h ▸ IsTable_any s y l m p t cp w hT hn
theorem tmod_k {x s : Int} (hx : 0 ≤ x) (hs : 1 ≤ s) : ∃ k : Nat, x.tmod s = (k : Int) ∧ (k : Int) < s := by
  have h1 : x.tmod s = x % s := Int.tmod_eq_emod_of_nonneg hx
  have h2 := Int.emod_nonneg x (show s ≠ 0 by omega)
  have h3 := Int.emod_lt_of_pos x (show 0 < s by omega)
  exact ⟨(x % s).toNat, by rw [h1]; omega, by omega⟩
theorem mR_at {s : Int} {X : List (List Int)} {t : List T2} {i k : Nat} {xs : List Int} (hk : (lnT t i).tmod s = (k : Int)) (hx : X.getD k [] = xs) : mR s X t i = (decide (0 ≤ plcV (lnT t i) xs) && decide (plcV (lnT t i) xs ≤ agT t i)) := by
  unfold mR; rw [hk, Int.toNat_natCast, hx]
theorem nR_m1 {s y l m : Int} {u : List T2} (hV : VT s y l m u) {xs : List Int} {i : Nat} (hi : (i : Int) < y) : nR y u xs i = (!decide ((ageT u (xs.getD i 0)).getD (-1) < 0) && decide ((ageT u (xs.getD i 0)).getD (-1) ≤ (i : Int))) := by
  unfold nR
  cases e : ageT u (xs.getD i 0) with
  | none =>
    have : ¬ y ≤ (i : Int) := by omega
    simp [this]
  | some a =>
    have := (hV.age e).2
    have h2 : ¬ a < 0 := by omega
    simp [h2]
set_option maxRecDepth 20000 in
set_option maxHeartbeats 4000000 in
theorem Holds_any (s y l m : Int) (p : Option Addr) (t : List T2) (cp : Nat) (p2 : Option Addr) (u : List T2) (cp2 : Nat) (p3 : Option Addr) (S : List SlI) (cp3 : Nat) (w : World) (hT : InT w p t) (hU : InT w p2 u) (hS : InS2 w p3 S) (hn : t.length ≤ 281474976710656) (hn2 : u.length ≤ 281474976710656) (hn3 : S.length ≤ 281474976710656) :
    Calls Try.prog 39 #[.agg #[vI s, vI y, vI l, vI m], .slice p t.length cp, .slice p2 u.length cp2, .slice p3 S.length cp3] w (HolR s y l m t u (stX S) w) := by
  refine calls_of Try.func39 rfl (m := 81) rfl [(0, .agg #[vI s, vI y, vI l, vI m]), (1, .slice p t.length cp), (2, .slice p2 u.length cp2), (3, .slice p3 S.length cp3)] (Fr_enter [.agg #[vI s, vI y, vI l, vI m], .slice p t.length cp, .slice p2 u.length cp2, .slice p3 S.length cp3] 81 (Nat.le_of_ble_eq_true rfl)) ?_
  have hH1 : HP Tr w w [] := HP.refl w
  refine WC.seq fun K2 hK2 => WC.region ?_
  refine WL.alloc (c := #[vI s, vI y, vI l, vI m]) (T := 23) hH1 4 rfl (by decide) rfl rfl (fun b4 => vP b4 0) (by kernel_rfl) (fun b4 w3 hw3 => ?_)
  have hH4 : HP Tr w w3 [.cel b4 #[vI s, vI y, vI l, vI m] 23] := hw3.2
  have nb4 := hw3.1
  clear hw3
  refine WL.z (v := .bool false) 8 ?_
  refine WL.z (v := vI 0) 9 ?_
  refine WL.nil (WQ.then (hK2 _ _ _ (WC.seq fun K5 hK5 => WC.seq fun K6 hK6 => WC.region ?_)))
  refine WL.y (v := .agg #[vI s, vI y, vI l, vI m]) 17 (x_loadS (cs := [vI s, vI y, vI l, vI m]) rfl rfl Try.underlying23 rfl sz23 (HP.range hH4 0 rfl rfl)) ?_
  refine WL.z (v := .slice p t.length cp) 18 ?_
  rcases Bool.eq_false_or_eq_true (okT s y l m t) with hok1 | hok1
  ·
    refine WL.call (f := 66) (args := #[.agg #[vI s, vI y, vI l, vI m], .slice p t.length cp]) 19 rfl (Nat.le_of_ble_eq_true rfl) rfl rfl (by kernel_rfl) ?_
    refine (validTable_at hok1 _ _ _ (hT.below (HP.below hH4)) hn).mono ?_
    rintro e w7 ⟨rfl, hb8⟩
    refine ⟨_, rfl, ?_⟩
    have hH9 : HP Tr w _ [.cel b4 #[vI s, vI y, vI l, vI m] 23] := HP.call hH4 hb8
    have hV1 := ok_VT hok1
    refine WL.z (v := .bool false) 20 ?_
    refine WL.z (v := .bool false) 21 ?_
    refine WL.y (v := .agg #[vI s, vI y, vI l, vI m]) 22 (x_loadS (cs := [vI s, vI y, vI l, vI m]) rfl rfl Try.underlying23 rfl sz23 (HP.range hH9 0 rfl rfl)) ?_
    refine WL.z (v := .slice p2 u.length cp2) 23 ?_
    rcases Bool.eq_false_or_eq_true (okT s y l m u) with hok2 | hok2
    ·
      refine WL.call (f := 66) (args := #[.agg #[vI s, vI y, vI l, vI m], .slice p2 u.length cp2]) 24 rfl (Nat.le_of_ble_eq_true rfl) rfl rfl (by kernel_rfl) ?_
      refine (validTable_at hok2 _ _ _ (hU.below (HP.below hH9)) hn2).mono ?_
      rintro e w10 ⟨rfl, hb11⟩
      refine ⟨_, rfl, ?_⟩
      have hH12 : HP Tr w _ [.cel b4 #[vI s, vI y, vI l, vI m] 23] := HP.call hH9 hb11
      have hV2 := ok_VT hok2
      refine WL.z (v := .bool false) 25 ?_
      refine WL.z (v := .bool false) 26 ?_
      refine WL.z (v := .bool false) 27 ?_
      refine WL.y (v := .agg #[vI s, vI y, vI l, vI m]) 28 (x_loadS (cs := [vI s, vI y, vI l, vI m]) rfl rfl Try.underlying23 rfl sz23 (HP.range hH12 0 rfl rfl)) ?_
      refine WL.z (v := .slice p3 S.length cp3) 29 ?_
      rcases Bool.eq_false_or_eq_true (okSt s y l m (stX S)) with hok3 | hok3
      ·
        refine WL.call (f := 15) (args := #[.agg #[vI s, vI y, vI l, vI m], .slice p3 S.length cp3]) 30 rfl (Nat.le_of_ble_eq_true rfl) rfl rfl (by kernel_rfl) ?_
        refine (ValidState_at hok3 p3 cp3 _ (hS.below (HP.below hH12)) hn3).mono ?_
        rintro e w13 ⟨rfl, hb14⟩
        refine ⟨_, rfl, ?_⟩
        have hH15 : HP Tr w _ [.cel b4 #[vI s, vI y, vI l, vI m] 23] := HP.call hH12 hb14
        obtain ⟨hSs, hrl⟩ := okSt_rows hok3
        obtain ⟨⟨hs1, hs2⟩, ⟨hy1, hy2⟩, ⟨hl1, hl2⟩, -⟩ := vG_iff.1 (okSt_iff.1 hok3).1
        refine WL.z (v := .bool false) 31 ?_
        refine WL.z (v := .bool false) 32 ?_
        refine WL.nil (WQ.then (hK6 _ _ _ ?_))
        refine WC.sub (l' := [(0, .agg #[vI s, vI y, vI l, vI m]), (1, .slice p t.length cp), (2, .slice p2 u.length cp2), (3, .slice p3 S.length cp3), (4, vP b4 0), (8, .bool false), (9, vI 0), (32, .bool false)]) ⟨rfl, rfl, rfl, rfl, rfl, rfl, rfl, rfl, trivial⟩ ?_
        refine WC.no rfl (WC.skip (WQ.then (hK5 _ _ _ (WC.seq fun K16 hK16 => WC.seq fun K17 hK17 => WC.region ?_))))
        refine WL.z (v := .slice p t.length cp) 33 ?_
        refine WL.z (v := vI (t.length : Int)) 34 ?_
        refine WL.z (v := vI 0) 35 ?_
        refine WL.nil (WQ.then (hK17 _ _ _ (WC.block ?_)))
        refine WC.loop (fun kk0 ll0 ww0 => ∃ (i : Nat), ll0 = [(1, .slice p t.length cp), (2, .slice p2 u.length cp2), (3, .slice p3 S.length cp3), (4, vP b4 0), (33, .slice p t.length cp), (34, vI (t.length : Int)), (35, vI (i : Int))] ∧ kk0 = t.length - i ∧ (i ≤ t.length) ∧ (∀ j, j < i → mR s (stX S) t j = true) ∧ HP Tr w ww0 [.cel b4 #[vI s, vI y, vI l, vI m] 23]) (t.length) [(1, .slice p t.length cp), (2, .slice p2 u.length cp2), (3, .slice p3 S.length cp3), (4, vP b4 0), (33, .slice p t.length cp), (34, vI (t.length : Int)), (35, vI 0)] ⟨rfl, rfl, rfl, rfl, rfl, rfl, rfl, trivial⟩ ⟨0, rfl, rfl, Nat.zero_le _, fun j hj => by omega, hH15⟩ ?_
        rintro kk l w19 ⟨i, rfl, hkk, hi, hm, hH20⟩ K18 hK18
        refine WC.seq fun K21 hK21 => WC.region ?_
        by_cases hlt : (i : Int) < (t.length : Int)
        ·
          refine WL.y (v := .bool true) 36 (x_lss rfl rfl rfl (dT (hlt))) ?_
          refine WL.nil (WQ.then (hK21 _ _ _ (WC.seq fun K22 hK22 => WC.yes rfl (WC.skip (WQ.then (hK22 _ _ _ ?_))))))
          refine WC.seq fun K23 hK23 => WC.block (WC.seq fun K24 hK24 => ?_)
          obtain ⟨g, o, rfl, hrow⟩ := hT (by omega)
          refine WC.region ?_
          refine WL.y (v := vP g (o + i * 2)) 37 (x_idx (i) (o + i * 2) rfl rfl rfl Try.underlying49 sz83 (by omega) (by omega) (by omega)) ?_
          refine WL.y (v := .agg #[vI (lnT t i), vI (agT t i)]) 38 (x_loadS (cs := [vI (lnT t i), vI (agT t i)]) rfl rfl Try.underlying83 rfl sz83 (HP.oldRange hH20 trivial (hrow i (by omega)))) ?_
          refine WL.alloc (c := #[vI 0, vI 0]) (T := 83) hH20 11 rfl (by decide) rfl rfl (fun b11 => vP b11 0) (by kernel_rfl) (fun b11 w25 hw25 => ?_)
          have hH26 : HP Tr w w25 [.cel b4 #[vI s, vI y, vI l, vI m] 23, .cel b11 #[vI 0, vI 0] 83] := hw25.2
          have nb11 := hw25.1
          clear hw25
          refine WL.storeS (H2 := [.cel b4 #[vI s, vI y, vI l, vI m] 23, .cel b11 #[vI (lnT t i), vI (agT t i)] 83]) 1 hH26 rfl rfl rfl rfl rfl rfl sz83 rfl (Nat.le_of_ble_eq_true rfl) rfl rfl ?_
          intro w27 hH28
          refine WL.nil (WQ.then (hK24 _ _ _ (WC.seq fun K29 hK29 => ?_)))
          have hlnb := hV1.ln i (by omega)
          obtain ⟨k, hk, hks⟩ := tmod_k hlnb.1 hs1
          obtain ⟨⟨rq, rxs, rc⟩, hr⟩ : ∃ r, S[k]? = some r := ⟨S[k]'(by omega), List.getElem?_eq_getElem _⟩
          obtain ⟨hr1, hr2, hr3, hr4⟩ := stX_at hr
          have hIR := hS.inn _ hr4
          have hrl9 := hrl _ hr4
          simp only [] at hr1 hr2 hrl9
          have hry : (rxs.length : Int) ≤ y := by have q9 := (okR_iff.1 ((okSt_iff.1 hok3).2.2 k (by rw [stX_len]; omega))).1; rw [hr1] at q9; exact q9
          obtain ⟨gS, oS, hpS, hrowS⟩ := hS.row (by omega)
          subst hpS
          refine WC.still (by kernel_rfl) (by kernel_rfl) ?_
          have hH30 : HP Tr w _ [.cel b4 #[vI s, vI y, vI l, vI m] 23, .cel b11 #[vI (lnT t i), vI (agT t i)] 83] := HP.drew hH28
          refine WS.z (v := .slice (some ⟨gS, oS, none⟩) S.length cp3) 39 ?_
          refine WS.y (v := vP b11 0) 40 (x_idxArr (0) (0) rfl rfl rfl Try.underlying83 sz3 (by omega) (by omega) (by omega)) ?_
          refine WS.y (v := vI (lnT t i)) 41 (x_load rfl rfl Try.underlying3 rfl (HP.cell hH30 1 rfl rfl)) ?_
          refine WS.z (v := vP b4 0) 42 ?_
          refine WS.y (v := vI s) 43 (x_load rfl rfl Try.underlying3 rfl (HP.cell hH30 0 rfl rfl)) ?_
          refine WS.y (v := vI (k : Int)) 44 (x_rem rfl rfl rfl (by omega) hk) ?_
          refine WS.y (v := vP gS (oS + k)) 45 (x_idx (k) (oS + k) rfl rfl rfl Try.underlying24 sz33 (by omega) (by omega) (by omega)) ?_
          refine WS.y (v := .slice rq rxs.length rc) 46 (x_load rfl rfl Try.underlying33 rfl ((HP.oldRange hH30 trivial (show w.rangeAt gS (oS + k) [slV ⟨rq, rxs, rc⟩] by have q9 := hrowS k (by omega); rw [hr2] at q9; exact q9)) 0 _ rfl)) ?_
          refine WS.y (v := vP b11 0) 47 (x_idxArr (0) (0) rfl rfl rfl Try.underlying83 sz3 (by omega) (by omega) (by omega)) ?_
          refine WS.y (v := vI (lnT t i)) 48 (x_load rfl rfl Try.underlying3 rfl (HP.cell hH30 1 rfl rfl)) ?_
          refine WS.call (v := vI (Lib.idxOf rxs (lnT t i))) (f := 67) (args := #[.slice rq rxs.length rc, vI (lnT t i)]) 49 rfl (Nat.le_of_ble_eq_true rfl) rfl rfl (by kernel_rfl) ((index_any ⟨rq, rxs, rc⟩ (lnT t i) _ (hIR.below (HP.below hH30)) (by show rxs.length ≤ _; omega)).mono fun e w2 h => ⟨h.1, h.2.symm⟩) ?_
          refine WS.z (v := vI (Lib.idxOf rxs (lnT t i))) 12 ?_
          refine WS.nilQ (WQ.then (hK29 _ _ _ ?_))
          refine WC.sub (l' := [(1, .slice (some ⟨g, o, none⟩) t.length cp), (2, .slice p2 u.length cp2), (3, .slice (some ⟨gS, oS, none⟩) S.length cp3), (4, vP b4 0), (11, vP b11 0), (12, vI (Lib.idxOf rxs (lnT t i))), (33, .slice (some ⟨g, o, none⟩) t.length cp), (34, vI (t.length : Int)), (35, vI (i : Int)), (36, .bool true)]) ⟨rfl, rfl, rfl, rfl, rfl, rfl, rfl, rfl, rfl, rfl, trivial⟩ ?_
          refine WC.seq fun K31 hK31 => WC.region ?_
          refine WL.z (v := vI (Lib.idxOf rxs (lnT t i))) 50 ?_
          by_cases h51 : Lib.idxOf rxs (lnT t i) < 0
          ·
            refine WL.y (v := .bool true) 51 (x_lss rfl rfl rfl (dT (h51))) ?_
            refine WL.z (v := .bool true) 52 ?_
            refine WL.p 53 ?_
            refine WL.p 54 ?_
            refine WL.p 55 ?_
            refine WL.p 56 ?_
            refine WL.z (v := .bool true) 57 ?_
            refine WL.nil (WQ.then (hK31 _ _ _ ?_))
            refine WC.sub (l' := [(1, .slice (some ⟨g, o, none⟩) t.length cp), (2, .slice p2 u.length cp2), (3, .slice (some ⟨gS, oS, none⟩) S.length cp3), (4, vP b4 0), (11, vP b11 0), (12, vI (Lib.idxOf rxs (lnT t i))), (33, .slice (some ⟨g, o, none⟩) t.length cp), (34, vI (t.length : Int)), (35, vI (i : Int)), (36, .bool true), (57, .bool true)]) ⟨rfl, rfl, rfl, rfl, rfl, rfl, rfl, rfl, rfl, rfl, rfl, trivial⟩ ?_
            refine WC.yes rfl (WC.seq fun K32 hK32 => ?_)
            have hmr : mR s (stX S) t i = false := by rw [mR_at hk hr1, ← idx_plc]; rw [decide_eq_false (by omega)]; rfl
            have hval : holV s y t u (stX S) = false := by unfold holV mustOK; rw [all_no (show i < t.length by omega) hmr]; rfl
            refine WC.region ?_
            refine WL.z (v := .bool false) 8 ?_
            refine WL.z (v := vI 0) 9 ?_
            refine WL.nil (WQ.then (hK32 _ _ _ (WC.ret ?_)))
            refine WQ.inRet ?_
            refine WQ.thenRet ?_
            refine WQ.thenRet ?_
            refine WQ.inRet ?_
            refine WQ.thenRet ?_
            refine WQ.ret2 8 9 rfl rfl rfl ?_
            exact ⟨.inr ⟨by unfold holC; rw [hok1, hok2, hok3]; rfl, by rw [hval]⟩, HP.below hH30⟩
          ·
            refine WL.y (v := .bool false) 51 (x_lss rfl rfl rfl (dF (h51))) ?_
            refine WL.z (v := .bool false) 52 ?_
            refine WL.z (v := vI (Lib.idxOf rxs (lnT t i))) 53 ?_
            refine WL.y (v := vP b11 1) 54 (x_idxArr (1) (1) rfl rfl rfl Try.underlying83 sz3 (by omega) (by omega) (by omega)) ?_
            refine WL.y (v := vI (agT t i)) 55 (x_load rfl rfl Try.underlying3 rfl (HP.cell hH30 1 rfl rfl)) ?_
            by_cases h56 : agT t i < Lib.idxOf rxs (lnT t i)
            ·
              refine WL.y (v := .bool true) 56 (x_gtr rfl rfl rfl (dT (h56))) ?_
              refine WL.z (v := .bool true) 57 ?_
              refine WL.nil (WQ.then (hK31 _ _ _ ?_))
              refine WC.sub (l' := [(1, .slice (some ⟨g, o, none⟩) t.length cp), (2, .slice p2 u.length cp2), (3, .slice (some ⟨gS, oS, none⟩) S.length cp3), (4, vP b4 0), (11, vP b11 0), (12, vI (Lib.idxOf rxs (lnT t i))), (33, .slice (some ⟨g, o, none⟩) t.length cp), (34, vI (t.length : Int)), (35, vI (i : Int)), (36, .bool true), (57, .bool true)]) ⟨rfl, rfl, rfl, rfl, rfl, rfl, rfl, rfl, rfl, rfl, rfl, trivial⟩ ?_
              refine WC.yes rfl (WC.seq fun K33 hK33 => ?_)
              have hmr : mR s (stX S) t i = false := by rw [mR_at hk hr1, ← idx_plc]; rw [decide_eq_false (show ¬ _ ≤ agT t i by omega), Bool.and_false]
              have hval : holV s y t u (stX S) = false := by unfold holV mustOK; rw [all_no (show i < t.length by omega) hmr]; rfl
              refine WC.region ?_
              refine WL.z (v := .bool false) 8 ?_
              refine WL.z (v := vI 0) 9 ?_
              refine WL.nil (WQ.then (hK33 _ _ _ (WC.ret ?_)))
              refine WQ.inRet ?_
              refine WQ.thenRet ?_
              refine WQ.thenRet ?_
              refine WQ.inRet ?_
              refine WQ.thenRet ?_
              refine WQ.ret2 8 9 rfl rfl rfl ?_
              exact ⟨.inr ⟨by unfold holC; rw [hok1, hok2, hok3]; rfl, by rw [hval]⟩, HP.below hH30⟩
            ·
              refine WL.y (v := .bool false) 56 (x_gtr rfl rfl rfl (dF (h56))) ?_
              refine WL.z (v := .bool false) 57 ?_
              refine WL.nil (WQ.then (hK31 _ _ _ ?_))
              refine WC.sub (l' := [(1, .slice (some ⟨g, o, none⟩) t.length cp), (2, .slice p2 u.length cp2), (3, .slice (some ⟨gS, oS, none⟩) S.length cp3), (4, vP b4 0), (11, vP b11 0), (12, vI (Lib.idxOf rxs (lnT t i))), (33, .slice (some ⟨g, o, none⟩) t.length cp), (34, vI (t.length : Int)), (35, vI (i : Int)), (36, .bool true), (57, .bool false)]) ⟨rfl, rfl, rfl, rfl, rfl, rfl, rfl, rfl, rfl, rfl, rfl, trivial⟩ ?_
              refine WC.no rfl (WC.skip (WQ.inNormal (WQ.then (hK23 _ _ _ (WC.region ?_)))))
              refine WL.y (v := vI ((i + 1 : Nat) : Int)) 58 (x_add (Z := ((i + 1 : Nat) : Int)) rfl rfl rfl (by omega) (by omega) (by omega)) ?_
              refine WL.z (v := vI ((i + 1 : Nat) : Int)) 35 ?_
              refine WL.nil ?_
              have hmr : mR s (stX S) t i = true := by rw [mR_at hk hr1, ← idx_plc, decide_eq_true (by omega), decide_eq_true (by omega)]; rfl
              refine WQ.sub (l' := [(1, .slice (some ⟨g, o, none⟩) t.length cp), (2, .slice p2 u.length cp2), (3, .slice (some ⟨gS, oS, none⟩) S.length cp3), (4, vP b4 0), (33, .slice (some ⟨g, o, none⟩) t.length cp), (34, vI (t.length : Int)), (35, vI ((i + 1 : Nat) : Int))]) ⟨rfl, rfl, rfl, rfl, rfl, rfl, rfl, trivial⟩ ?_
              refine WQ.then (hK18 _ _ _ (by omega) ⟨i + 1, rfl, rfl, by omega, fun j hj => by
                                by_cases q9 : j = i
                                · subst q9; exact hmr
                                · exact hm j (by omega), (HP.drop hH30 1)⟩)
        ·
          refine WL.y (v := .bool false) 36 (x_lss rfl rfl rfl (dF (hlt))) ?_
          refine WL.nil (WQ.then (hK21 _ _ _ (WC.seq fun K34 hK34 => WC.no rfl (WC.exit (WQ.thenExit (WQ.thenExit ?_))))))
          refine WQ.inExit (WQ.then (hK16 _ _ _ (WC.seq fun K35 hK35 => WC.seq fun K36 hK36 => ?_)))
          have hmust : mustOK s (stX S) t = true := all_yes fun j hj => hm j (by omega)
          refine WC.region ?_
          refine WL.z (v := .slice p3 S.length cp3) 59 ?_
          refine WL.z (v := vI (S.length : Int)) 60 ?_
          refine WL.z (v := vI 0) 61 ?_
          refine WL.nil (WQ.then (hK36 _ _ _ (WC.block ?_)))
          refine WC.loop (fun kk0 ll0 ww0 => ∃ (k : Nat), ll0 = [(2, .slice p2 u.length cp2), (3, .slice p3 S.length cp3), (4, vP b4 0), (59, .slice p3 S.length cp3), (60, vI (S.length : Int)), (61, vI (k : Int))] ∧ kk0 = S.length - k ∧ (k ≤ S.length) ∧ (∀ j, j < k → nRow y u ((stX S).getD j []) = true) ∧ HP Tr w ww0 [.cel b4 #[vI s, vI y, vI l, vI m] 23]) (S.length) [(2, .slice p2 u.length cp2), (3, .slice p3 S.length cp3), (4, vP b4 0), (59, .slice p3 S.length cp3), (60, vI (S.length : Int)), (61, vI 0)] ⟨rfl, rfl, rfl, rfl, rfl, rfl, trivial⟩ ⟨0, rfl, rfl, Nat.zero_le _, fun j hj => by omega, hH20⟩ ?_
          rintro kk l w38 ⟨k, rfl, hkk, hkk2, hnk, hH39⟩ K37 hK37
          refine WC.seq fun K40 hK40 => WC.region ?_
          by_cases hlt2 : (k : Int) < (S.length : Int)
          ·
            refine WL.y (v := .bool true) 62 (x_lss rfl rfl rfl (dT (hlt2))) ?_
            refine WL.nil (WQ.then (hK40 _ _ _ (WC.seq fun K41 hK41 => WC.yes rfl (WC.skip (WQ.then (hK41 _ _ _ ?_))))))
            refine WC.seq fun K42 hK42 => WC.block (WC.seq fun K43 hK43 => ?_)
            obtain ⟨⟨rq, rxs, rc⟩, hr⟩ : ∃ r, S[k]? = some r := ⟨S[k]'(by omega), List.getElem?_eq_getElem _⟩
            obtain ⟨hr1, hr2, hr3, hr4⟩ := stX_at hr
            have hIR := hS.inn _ hr4
            have hrl9 := hrl _ hr4
            simp only [] at hr1 hr2 hrl9
            have hry : (rxs.length : Int) ≤ y := by have q9 := (okR_iff.1 ((okSt_iff.1 hok3).2.2 k (by rw [stX_len]; omega))).1; rw [hr1] at q9; exact q9
            obtain ⟨gS, oS, hpS, hrowS⟩ := hS.row (by omega)
            subst hpS
            refine WC.region ?_
            refine WL.y (v := vP gS (oS + k)) 63 (x_idx (k) (oS + k) rfl rfl rfl Try.underlying24 sz33 (by omega) (by omega) (by omega)) ?_
            refine WL.y (v := .slice rq rxs.length rc) 64 (x_load rfl rfl Try.underlying33 rfl ((HP.oldRange hH39 trivial (show w.rangeAt gS (oS + k) [slV ⟨rq, rxs, rc⟩] by have q9 := hrowS k (by omega); rw [hr2] at q9; exact q9)) 0 _ rfl)) ?_
            refine WL.z (v := .slice rq rxs.length rc) 14 ?_
            refine WL.nil (WQ.then (hK43 _ _ _ (WC.seq fun K44 hK44 => WC.region ?_)))
            refine WL.z (v := .slice rq rxs.length rc) 65 ?_
            refine WL.z (v := vI (rxs.length : Int)) 66 ?_
            refine WL.z (v := vI 0) 67 ?_
            refine WL.nil (WQ.then (hK44 _ _ _ (WC.block ?_)))
            refine WC.loop (fun kk0 ll0 ww0 => ∃ (i : Nat), ll0 = [(2, .slice p2 u.length cp2), (3, .slice (some ⟨gS, oS, none⟩) S.length cp3), (4, vP b4 0), (14, .slice rq rxs.length rc), (59, .slice (some ⟨gS, oS, none⟩) S.length cp3), (60, vI (S.length : Int)), (61, vI (k : Int)), (65, .slice rq rxs.length rc), (66, vI (rxs.length : Int)), (67, vI (i : Int))] ∧ kk0 = rxs.length - i ∧ (i ≤ rxs.length) ∧ (∀ j, j < i → nR y u rxs j = true) ∧ HP Tr w ww0 [.cel b4 #[vI s, vI y, vI l, vI m] 23]) (rxs.length) [(2, .slice p2 u.length cp2), (3, .slice (some ⟨gS, oS, none⟩) S.length cp3), (4, vP b4 0), (14, .slice rq rxs.length rc), (59, .slice (some ⟨gS, oS, none⟩) S.length cp3), (60, vI (S.length : Int)), (61, vI (k : Int)), (65, .slice rq rxs.length rc), (66, vI (rxs.length : Int)), (67, vI 0)] ⟨rfl, rfl, rfl, rfl, rfl, rfl, rfl, rfl, rfl, rfl, trivial⟩ ⟨0, rfl, rfl, Nat.zero_le _, fun j hj => by omega, hH39⟩ ?_
            rintro kk l w46 ⟨i, rfl, hkk, hi2, hni, hH47⟩ K45 hK45
            refine WC.seq fun K48 hK48 => WC.region ?_
            by_cases hlt3 : (i : Int) < (rxs.length : Int)
            ·
              refine WL.y (v := .bool true) 68 (x_lss rfl rfl rfl (dT (hlt3))) ?_
              refine WL.nil (WQ.then (hK48 _ _ _ (WC.seq fun K49 hK49 => WC.yes rfl (WC.skip (WQ.then (hK49 _ _ _ ?_))))))
              refine WC.seq fun K50 hK50 => WC.block (WC.seq fun K51 hK51 => ?_)
              obtain ⟨gX, oX, hqX, hrowX⟩ := hIR.row (show 0 < rxs.length by omega)
              simp only [] at hqX hrowX
              subst hqX
              refine WC.region ?_
              refine WL.z (v := vI (i : Int)) 69 ?_
              refine WL.y (v := vP gX (oX + i)) 70 (x_idx (i) (oX + i) rfl rfl rfl Try.underlying33 sz3 (by omega) (by omega) (by omega)) ?_
              refine WL.y (v := vI (rxs.getD i 0)) 71 (x_load rfl rfl Try.underlying3 rfl ((HP.oldRange hH47 trivial (hrowX i (by omega))) 0 _ rfl)) ?_
              refine WL.z (v := vI (i : Int)) 15 ?_
              refine WL.z (v := vI (rxs.getD i 0)) 16 ?_
              refine WL.nil (WQ.then (hK51 _ _ _ (WC.seq fun K52 hK52 => WC.region ?_)))
              refine WL.z (v := vI (i : Int)) 72 ?_
              refine WL.z (v := .slice p2 u.length cp2) 73 ?_
              refine WL.z (v := vI (rxs.getD i 0)) 74 ?_
              refine WL.z (v := vP b4 1) 75 ?_
              refine WL.y (v := vI y) 76 (x_load rfl rfl Try.underlying3 rfl (HP.cell hH47 0 rfl rfl)) ?_
              refine WL.call (f := 68) (args := #[.slice p2 u.length cp2, vI (rxs.getD i 0), vI y]) 77 rfl (Nat.le_of_ble_eq_true rfl) rfl rfl (by kernel_rfl) ?_
              refine (age_any _ u _ _ (hU.below (HP.below hH47)) (rxs.getD i 0) y hn2 hV2.so).mono ?_
              rintro e w53 ⟨rfl, hb54⟩
              refine ⟨_, rfl, ?_⟩
              have hH55 : HP Tr w _ [.cel b4 #[vI s, vI y, vI l, vI m] 23] := HP.call hH47 hb54
              by_cases h78 : (i : Int) < (ageT u (rxs.getD i 0)).getD y
              ·
                refine WL.y (v := .bool true) 78 (x_lss rfl rfl rfl (dT (h78))) ?_
                refine WL.nil (WQ.then (hK52 _ _ _ ?_))
                refine WC.sub (l' := [(2, .slice p2 u.length cp2), (3, .slice (some ⟨gS, oS, none⟩) S.length cp3), (4, vP b4 0), (14, .slice (some ⟨gX, oX, none⟩) rxs.length rc), (15, vI (i : Int)), (16, vI (rxs.getD i 0)), (59, .slice (some ⟨gS, oS, none⟩) S.length cp3), (60, vI (S.length : Int)), (61, vI (k : Int)), (65, .slice (some ⟨gX, oX, none⟩) rxs.length rc), (66, vI (rxs.length : Int)), (67, vI (i : Int)), (68, .bool true), (78, .bool true)]) ⟨rfl, rfl, rfl, rfl, rfl, rfl, rfl, rfl, rfl, rfl, rfl, rfl, rfl, rfl, trivial⟩ ?_
                refine WC.yes rfl (WC.seq fun K56 hK56 => ?_)
                have hnr : nR y u rxs i = false := by unfold nR; rw [decide_eq_false (by omega)]
                have hval : holV s y t u (stX S) = false := by
                  have q9 : nRow y u ((stX S).getD k []) = false := by rw [hr1]; exact all_no (show i < rxs.length by omega) hnr
                  unfold holV mayOK; rw [all_no (i := k) (by rw [stX_len]; omega) q9, Bool.and_false]
                refine WC.region ?_
                refine WL.z (v := .bool false) 8 ?_
                refine WL.z (v := vI 0) 9 ?_
                refine WL.nil (WQ.then (hK56 _ _ _ (WC.ret ?_)))
                refine WQ.inRet ?_
                refine WQ.thenRet ?_
                refine WQ.thenRet ?_
                refine WQ.inRet ?_
                refine WQ.inRet ?_
                refine WQ.thenRet ?_
                refine WQ.thenRet ?_
                refine WQ.inRet ?_
                refine WQ.thenRet ?_
                refine WQ.ret2 8 9 rfl rfl rfl ?_
                exact ⟨.inr ⟨by unfold holC; rw [hok1, hok2, hok3]; rfl, by rw [hval]⟩, HP.below hH55⟩
              ·
                refine WL.y (v := .bool false) 78 (x_lss rfl rfl rfl (dF (h78))) ?_
                refine WL.nil (WQ.then (hK52 _ _ _ ?_))
                refine WC.sub (l' := [(2, .slice p2 u.length cp2), (3, .slice (some ⟨gS, oS, none⟩) S.length cp3), (4, vP b4 0), (14, .slice (some ⟨gX, oX, none⟩) rxs.length rc), (15, vI (i : Int)), (16, vI (rxs.getD i 0)), (59, .slice (some ⟨gS, oS, none⟩) S.length cp3), (60, vI (S.length : Int)), (61, vI (k : Int)), (65, .slice (some ⟨gX, oX, none⟩) rxs.length rc), (66, vI (rxs.length : Int)), (67, vI (i : Int)), (68, .bool true), (78, .bool false)]) ⟨rfl, rfl, rfl, rfl, rfl, rfl, rfl, rfl, rfl, rfl, rfl, rfl, rfl, rfl, trivial⟩ ?_
                refine WC.no rfl (WC.skip (WQ.inNormal (WQ.then (hK50 _ _ _ (WC.region ?_)))))
                refine WL.y (v := vI ((i + 1 : Nat) : Int)) 79 (x_add (Z := ((i + 1 : Nat) : Int)) rfl rfl rfl (by omega) (by omega) (by omega)) ?_
                refine WL.z (v := vI ((i + 1 : Nat) : Int)) 67 ?_
                refine WL.nil ?_
                have hnr : nR y u rxs i = true := by unfold nR; rw [decide_eq_true (by omega)]
                refine WQ.sub (l' := [(2, .slice p2 u.length cp2), (3, .slice (some ⟨gS, oS, none⟩) S.length cp3), (4, vP b4 0), (14, .slice (some ⟨gX, oX, none⟩) rxs.length rc), (59, .slice (some ⟨gS, oS, none⟩) S.length cp3), (60, vI (S.length : Int)), (61, vI (k : Int)), (65, .slice (some ⟨gX, oX, none⟩) rxs.length rc), (66, vI (rxs.length : Int)), (67, vI ((i + 1 : Nat) : Int))]) ⟨rfl, rfl, rfl, rfl, rfl, rfl, rfl, rfl, rfl, rfl, trivial⟩ ?_
                refine WQ.then (hK45 _ _ _ (by omega) ⟨i + 1, rfl, rfl, by omega, fun j hj => by
                                    by_cases q9 : j = i
                                    · subst q9; exact hnr
                                    · exact hni j (by omega), hH55⟩)
            ·
              refine WL.y (v := .bool false) 68 (x_lss rfl rfl rfl (dF (hlt3))) ?_
              refine WL.nil (WQ.then (hK48 _ _ _ (WC.seq fun K57 hK57 => WC.no rfl (WC.exit (WQ.thenExit (WQ.thenExit ?_))))))
              refine WQ.inExit (WQ.inNormal (WQ.then (hK42 _ _ _ (WC.region ?_))))
              refine WL.y (v := vI ((k + 1 : Nat) : Int)) 80 (x_add (Z := ((k + 1 : Nat) : Int)) rfl rfl rfl (by omega) (by omega) (by omega)) ?_
              refine WL.z (v := vI ((k + 1 : Nat) : Int)) 61 ?_
              refine WL.nil ?_
              have hrow9 : nRow y u ((stX S).getD k []) = true := by rw [hr1]; exact all_yes fun j hj => hni j (by omega)
              refine WQ.sub (l' := [(2, .slice p2 u.length cp2), (3, .slice (some ⟨gS, oS, none⟩) S.length cp3), (4, vP b4 0), (59, .slice (some ⟨gS, oS, none⟩) S.length cp3), (60, vI (S.length : Int)), (61, vI ((k + 1 : Nat) : Int))]) ⟨rfl, rfl, rfl, rfl, rfl, rfl, trivial⟩ ?_
              refine WQ.then (hK37 _ _ _ (by omega) ⟨k + 1, rfl, rfl, by omega, fun j hj => by
                                by_cases q9 : j = k
                                · subst q9; exact hrow9
                                · exact hnk j (by omega), hH47⟩)
          ·
            refine WL.y (v := .bool false) 62 (x_lss rfl rfl rfl (dF (hlt2))) ?_
            refine WL.nil (WQ.then (hK40 _ _ _ (WC.seq fun K58 hK58 => WC.no rfl (WC.exit (WQ.thenExit (WQ.thenExit ?_))))))
            refine WQ.inExit (WQ.then (hK35 _ _ _ (WC.seq fun K59 hK59 => ?_)))
            have hval : holV s y t u (stX S) = true := by unfold holV; rw [hmust]; exact all_yes fun j hj => hnk j (by rw [stX_len] at hj; omega)
            refine WC.region ?_
            refine WL.z (v := .bool true) 8 ?_
            refine WL.z (v := vI 0) 9 ?_
            refine WL.nil (WQ.then (hK59 _ _ _ (WC.ret ?_)))
            refine WQ.ret2 8 9 rfl rfl rfl ?_
            exact ⟨.inr ⟨by unfold holC; rw [hok1, hok2, hok3]; rfl, by rw [hval]⟩, HP.below hH39⟩
      ·
        refine WL.call (f := 15) (args := #[.agg #[vI s, vI y, vI l, vI m], .slice p3 S.length cp3]) 30 rfl (Nat.le_of_ble_eq_true rfl) rfl rfl (by kernel_rfl) ?_
        refine (ValidState_at hok3 p3 cp3 _ (hS.below (HP.below hH12)) hn3).mono ?_
        rintro e w60 ⟨rfl, hb61⟩
        refine ⟨_, rfl, ?_⟩
        have hH62 : HP Tr w _ [.cel b4 #[vI s, vI y, vI l, vI m] 23] := HP.call hH12 hb61
        refine WL.z (v := .bool true) 31 ?_
        refine WL.z (v := .bool true) 32 ?_
        refine WL.nil (WQ.then (hK6 _ _ _ ?_))
        refine WC.sub (l' := [(0, .agg #[vI s, vI y, vI l, vI m]), (1, .slice p t.length cp), (2, .slice p2 u.length cp2), (3, .slice p3 S.length cp3), (4, vP b4 0), (8, .bool false), (9, vI 0), (32, .bool true)]) ⟨rfl, rfl, rfl, rfl, rfl, rfl, rfl, rfl, trivial⟩ ?_
        refine WC.yes rfl (WC.seq fun K63 hK63 => WC.region ?_)
        refine WL.z (v := .bool false) 8 ?_
        refine WL.z (v := vI 1) 9 ?_
        refine WL.nil (WQ.then (hK63 _ _ _ (WC.ret ?_)))
        refine WQ.thenRet ?_
        refine WQ.ret2 8 9 rfl rfl rfl ?_
        exact ⟨.inl ⟨by unfold holC; rw [hok1, hok2, hok3]; rfl, rfl⟩, HP.below hH62⟩
    ·
      refine WL.call (f := 66) (args := #[.agg #[vI s, vI y, vI l, vI m], .slice p2 u.length cp2]) 24 rfl (Nat.le_of_ble_eq_true rfl) rfl rfl (by kernel_rfl) ?_
      refine (validTable_at hok2 _ _ _ (hU.below (HP.below hH9)) hn2).mono ?_
      rintro e w64 ⟨rfl, hb65⟩
      refine ⟨_, rfl, ?_⟩
      have hH66 : HP Tr w _ [.cel b4 #[vI s, vI y, vI l, vI m] 23] := HP.call hH9 hb65
      refine WL.z (v := .bool true) 25 ?_
      refine WL.z (v := .bool true) 26 ?_
      refine WL.z (v := .bool true) 27 ?_
      refine WL.p 28 ?_
      refine WL.p 29 ?_
      refine WL.p 30 ?_
      refine WL.p 31 ?_
      refine WL.z (v := .bool true) 32 ?_
      refine WL.nil (WQ.then (hK6 _ _ _ ?_))
      refine WC.sub (l' := [(0, .agg #[vI s, vI y, vI l, vI m]), (1, .slice p t.length cp), (2, .slice p2 u.length cp2), (3, .slice p3 S.length cp3), (4, vP b4 0), (8, .bool false), (9, vI 0), (32, .bool true)]) ⟨rfl, rfl, rfl, rfl, rfl, rfl, rfl, rfl, trivial⟩ ?_
      refine WC.yes rfl (WC.seq fun K67 hK67 => WC.region ?_)
      refine WL.z (v := .bool false) 8 ?_
      refine WL.z (v := vI 1) 9 ?_
      refine WL.nil (WQ.then (hK67 _ _ _ (WC.ret ?_)))
      refine WQ.thenRet ?_
      refine WQ.ret2 8 9 rfl rfl rfl ?_
      exact ⟨.inl ⟨by unfold holC; rw [hok1, hok2]; rfl, rfl⟩, HP.below hH66⟩
  ·
    refine WL.call (f := 66) (args := #[.agg #[vI s, vI y, vI l, vI m], .slice p t.length cp]) 19 rfl (Nat.le_of_ble_eq_true rfl) rfl rfl (by kernel_rfl) ?_
    refine (validTable_at hok1 _ _ _ (hT.below (HP.below hH4)) hn).mono ?_
    rintro e w68 ⟨rfl, hb69⟩
    refine ⟨_, rfl, ?_⟩
    have hH70 : HP Tr w _ [.cel b4 #[vI s, vI y, vI l, vI m] 23] := HP.call hH4 hb69
    refine WL.z (v := .bool true) 20 ?_
    refine WL.z (v := .bool true) 21 ?_
    refine WL.p 22 ?_
    refine WL.p 23 ?_
    refine WL.p 24 ?_
    refine WL.p 25 ?_
    refine WL.z (v := .bool true) 26 ?_
    refine WL.z (v := .bool true) 27 ?_
    refine WL.p 28 ?_
    refine WL.p 29 ?_
    refine WL.p 30 ?_
    refine WL.p 31 ?_
    refine WL.z (v := .bool true) 32 ?_
    refine WL.nil (WQ.then (hK6 _ _ _ ?_))
    refine WC.sub (l' := [(0, .agg #[vI s, vI y, vI l, vI m]), (1, .slice p t.length cp), (2, .slice p2 u.length cp2), (3, .slice p3 S.length cp3), (4, vP b4 0), (8, .bool false), (9, vI 0), (32, .bool true)]) ⟨rfl, rfl, rfl, rfl, rfl, rfl, rfl, rfl, trivial⟩ ?_
    refine WC.yes rfl (WC.seq fun K71 hK71 => WC.region ?_)
    refine WL.z (v := .bool false) 8 ?_
    refine WL.z (v := vI 1) 9 ?_
    refine WL.nil (WQ.then (hK71 _ _ _ (WC.ret ?_)))
    refine WQ.thenRet ?_
    refine WQ.ret2 8 9 rfl rfl rfl ?_
    exact ⟨.inl ⟨by unfold holC; rw [hok1]; rfl, rfl⟩, HP.below hH70⟩
set_option maxRecDepth 20000 in
set_option maxHeartbeats 4000000 in
theorem rHolds_any (s y l m : Int) (p : Option Addr) (t : List T2) (cp : Nat) (p2 : Option Addr) (u : List T2) (cp2 : Nat) (p3 : Option Addr) (S : List SlI) (cp3 : Nat) (w : World) (hT : InT w p t) (hU : InT w p2 u) (hS : InS2 w p3 S) (hn : t.length ≤ 281474976710656) (hn2 : u.length ≤ 281474976710656) (hn3 : S.length ≤ 281474976710656) :
    Calls Try.prog 40 #[.agg #[vI s, vI y, vI l, vI m], .slice p t.length cp, .slice p2 u.length cp2, .slice p3 S.length cp3] w (HolR s y l m t u (stX S) w) := by
  refine calls_of Try.func40 rfl (m := 96) rfl [(0, .agg #[vI s, vI y, vI l, vI m]), (1, .slice p t.length cp), (2, .slice p2 u.length cp2), (3, .slice p3 S.length cp3)] (Fr_enter [.agg #[vI s, vI y, vI l, vI m], .slice p t.length cp, .slice p2 u.length cp2, .slice p3 S.length cp3] 96 (Nat.le_of_ble_eq_true rfl)) ?_
  have hH1 : HP Tr w w [] := HP.refl w
  refine WC.seq fun K2 hK2 => WC.region ?_
  refine WL.alloc (c := #[vI s, vI y, vI l, vI m]) (T := 23) hH1 4 rfl (by decide) rfl rfl (fun b4 => vP b4 0) (by kernel_rfl) (fun b4 w3 hw3 => ?_)
  have hH4 : HP Tr w w3 [.cel b4 #[vI s, vI y, vI l, vI m] 23] := hw3.2
  have nb4 := hw3.1
  clear hw3
  refine WL.z (v := .bool false) 8 ?_
  refine WL.z (v := vI 0) 9 ?_
  refine WL.nil (WQ.then (hK2 _ _ _ (WC.seq fun K5 hK5 => WC.seq fun K6 hK6 => WC.region ?_)))
  refine WL.y (v := .agg #[vI s, vI y, vI l, vI m]) 15 (x_loadS (cs := [vI s, vI y, vI l, vI m]) rfl rfl Try.underlying23 rfl sz23 (HP.range hH4 0 rfl rfl)) ?_
  refine WL.z (v := .slice p t.length cp) 16 ?_
  rcases Bool.eq_false_or_eq_true (okT s y l m t) with hok1 | hok1
  ·
    refine WL.call (f := 41) (args := #[.agg #[vI s, vI y, vI l, vI m], .slice p t.length cp]) 17 rfl (Nat.le_of_ble_eq_true rfl) rfl rfl (by kernel_rfl) ?_
    refine (IsTable_at hok1 _ _ _ (hT.below (HP.below hH4)) hn).mono ?_
    rintro e w7 ⟨rfl, hb8⟩
    refine ⟨_, rfl, ?_⟩
    have hH9 : HP Tr w _ [.cel b4 #[vI s, vI y, vI l, vI m] 23] := HP.call hH4 hb8
    have hV1 := ok_VT hok1
    refine WL.z (v := .bool false) 18 ?_
    refine WL.z (v := .bool false) 19 ?_
    refine WL.y (v := .agg #[vI s, vI y, vI l, vI m]) 20 (x_loadS (cs := [vI s, vI y, vI l, vI m]) rfl rfl Try.underlying23 rfl sz23 (HP.range hH9 0 rfl rfl)) ?_
    refine WL.z (v := .slice p2 u.length cp2) 21 ?_
    rcases Bool.eq_false_or_eq_true (okT s y l m u) with hok2 | hok2
    ·
      refine WL.call (f := 41) (args := #[.agg #[vI s, vI y, vI l, vI m], .slice p2 u.length cp2]) 22 rfl (Nat.le_of_ble_eq_true rfl) rfl rfl (by kernel_rfl) ?_
      refine (IsTable_at hok2 _ _ _ (hU.below (HP.below hH9)) hn2).mono ?_
      rintro e w10 ⟨rfl, hb11⟩
      refine ⟨_, rfl, ?_⟩
      have hH12 : HP Tr w _ [.cel b4 #[vI s, vI y, vI l, vI m] 23] := HP.call hH9 hb11
      have hV2 := ok_VT hok2
      refine WL.z (v := .bool false) 23 ?_
      refine WL.z (v := .bool false) 24 ?_
      refine WL.z (v := .bool false) 25 ?_
      refine WL.y (v := .agg #[vI s, vI y, vI l, vI m]) 26 (x_loadS (cs := [vI s, vI y, vI l, vI m]) rfl rfl Try.underlying23 rfl sz23 (HP.range hH12 0 rfl rfl)) ?_
      refine WL.z (v := .slice p3 S.length cp3) 27 ?_
      rcases Bool.eq_false_or_eq_true (okSt s y l m (stX S)) with hok3 | hok3
      ·
        refine WL.call (f := 19) (args := #[.agg #[vI s, vI y, vI l, vI m], .slice p3 S.length cp3]) 28 rfl (Nat.le_of_ble_eq_true rfl) rfl rfl (by kernel_rfl) ?_
        refine (rValidState_at hok3 p3 cp3 _ (hS.below (HP.below hH12)) hn3).mono ?_
        rintro e w13 ⟨rfl, hb14⟩
        refine ⟨_, rfl, ?_⟩
        have hH15 : HP Tr w _ [.cel b4 #[vI s, vI y, vI l, vI m] 23] := HP.call hH12 hb14
        obtain ⟨hSs, hrl⟩ := okSt_rows hok3
        obtain ⟨⟨hs1, hs2⟩, ⟨hy1, hy2⟩, ⟨hl1, hl2⟩, -⟩ := vG_iff.1 (okSt_iff.1 hok3).1
        refine WL.z (v := .bool false) 29 ?_
        refine WL.z (v := .bool false) 30 ?_
        refine WL.nil (WQ.then (hK6 _ _ _ ?_))
        refine WC.sub (l' := [(0, .agg #[vI s, vI y, vI l, vI m]), (1, .slice p t.length cp), (2, .slice p2 u.length cp2), (3, .slice p3 S.length cp3), (4, vP b4 0), (8, .bool false), (9, vI 0), (30, .bool false)]) ⟨rfl, rfl, rfl, rfl, rfl, rfl, rfl, rfl, trivial⟩ ?_
        refine WC.no rfl (WC.skip (WQ.then (hK5 _ _ _ (WC.seq fun K16 hK16 => WC.seq fun K17 hK17 => WC.region ?_))))
        refine WL.z (v := vI 0) 10 ?_
        refine WL.nil (WQ.then (hK17 _ _ _ (WC.block ?_)))
        refine WC.loop (fun kk0 ll0 ww0 => ∃ (i : Nat), ll0 = [(1, .slice p t.length cp), (2, .slice p2 u.length cp2), (3, .slice p3 S.length cp3), (4, vP b4 0), (10, vI (i : Int))] ∧ kk0 = t.length - i ∧ (i ≤ t.length) ∧ (∀ j, j < i → mR s (stX S) t j = true) ∧ HP Tr w ww0 [.cel b4 #[vI s, vI y, vI l, vI m] 23]) (t.length) [(1, .slice p t.length cp), (2, .slice p2 u.length cp2), (3, .slice p3 S.length cp3), (4, vP b4 0), (10, vI 0)] ⟨rfl, rfl, rfl, rfl, rfl, trivial⟩ ⟨0, rfl, rfl, Nat.zero_le _, fun j hj => by omega, hH15⟩ ?_
        rintro kk l w19 ⟨i, rfl, hkk, hi, hm, hH20⟩ K18 hK18
        refine WC.seq fun K21 hK21 => WC.seq fun K22 hK22 => WC.region ?_
        refine WL.z (v := vI (i : Int)) 31 ?_
        refine WL.z (v := .slice p t.length cp) 32 ?_
        refine WL.z (v := vI (t.length : Int)) 33 ?_
        by_cases hlt : (i : Int) < (t.length : Int)
        ·
          refine WL.y (v := .bool true) 34 (x_lss rfl rfl rfl (dT (hlt))) ?_
          refine WL.nil (WQ.then (hK22 _ _ _ (WC.yes rfl (WC.skip (WQ.then (hK21 _ _ _ (WC.seq fun K23 hK23 => ?_)))))))
          refine WC.block (WC.seq fun K24 hK24 => ?_)
          obtain ⟨g, o, rfl, hrow⟩ := hT (by omega)
          have hlnb := hV1.ln i (by omega)
          obtain ⟨k, hk, hks⟩ := tmod_k hlnb.1 hs1
          obtain ⟨⟨rq, rxs, rc⟩, hr⟩ : ∃ r, S[k]? = some r := ⟨S[k]'(by omega), List.getElem?_eq_getElem _⟩
          obtain ⟨hr1, hr2, hr3, hr4⟩ := stX_at hr
          have hIR := hS.inn _ hr4
          have hrl9 := hrl _ hr4
          simp only [] at hr1 hr2 hrl9
          have hry : (rxs.length : Int) ≤ y := by have q9 := (okR_iff.1 ((okSt_iff.1 hok3).2.2 k (by rw [stX_len]; omega))).1; rw [hr1] at q9; exact q9
          obtain ⟨gS, oS, hpS, hrowS⟩ := hS.row (by omega)
          subst hpS
          refine WC.confG (γ := Unit) [(34, .bool true), (33, vI (t.length : Int)), (32, .slice (some ⟨g, o, none⟩) t.length cp), (31, vI (i : Int)), (1, .slice (some ⟨g, o, none⟩) t.length cp), (2, .slice p2 u.length cp2), (3, .slice (some ⟨gS, oS, none⟩) S.length cp3), (4, vP b4 0), (10, vI (i : Int))] (fun gy => [.slice (some ⟨gS, oS, none⟩) S.length cp3, .slice (some ⟨g, o, none⟩) t.length cp, vI (i : Int), vP g (o + i * 2), vP g (o + i * 2), vI (lnT t i), vP b4 0, vI s, vI (k : Int), vP gS (oS + k), .slice rq rxs.length rc, .slice (some ⟨g, o, none⟩) t.length cp, vI (i : Int), vP g (o + i * 2), vP g (o + i * 2), vI (lnT t i), vI (plcV (lnT t i) rxs), vI (plcV (lnT t i) rxs)]) (fun gy D wz => HP Tr w wz [.cel b4 #[vI s, vI y, vI l, vI m] 23]) () (by kernel_rfl) ⟨rfl, rfl, rfl, rfl, rfl, rfl, rfl, rfl, rfl, trivial⟩ (by kernel_rfl) (by kernel_rfl) (by kernel_rfl) (fun _ => rfl) (by kernel_rfl) (HP.drew hH20) ?_ ?_
          · refine AllOk.cons ?o0 (AllOk.cons ?o1 (AllOk.cons ?o2 (AllOk.cons ?o3 (AllOk.cons ?o4 (AllOk.cons ?o5 (AllOk.cons ?o6 (AllOk.cons ?o7 (AllOk.cons ?o8 (AllOk.cons ?o9 (AllOk.cons ?o10 (AllOk.cons ?o11 (AllOk.cons ?o12 (AllOk.cons ?o13 (AllOk.cons ?o14 (AllOk.cons ?o15 (AllOk.cons ?o16 (AllOk.cons ?o17 (AllOk.nil _))))))))))))))))))
            case o0 =>
              intro gy D wz hDi hdep hclo hW
              exact .inl ⟨rfl, rfl, .inl ⟨gy, wz, fun _ _ => rfl, by kernel_rfl, hW⟩⟩
            case o1 =>
              intro gy D wz hDi hdep hclo hW
              exact .inl ⟨rfl, rfl, .inl ⟨gy, wz, fun _ _ => rfl, by kernel_rfl, hW⟩⟩
            case o2 =>
              intro gy D wz hDi hdep hclo hW
              exact .inl ⟨rfl, rfl, .inl ⟨gy, wz, fun _ _ => rfl, by kernel_rfl, hW⟩⟩
            case o3 =>
              intro gy D wz hDi hdep hclo hW
              exact .inl ⟨rfl, rfl, .inl ⟨gy, wz, fun _ _ => rfl, x_idx (i) (o + i * 2) rfl rfl rfl Try.underlying49 sz83 (by omega) (by omega) (by omega), hW⟩⟩
            case o4 =>
              intro gy D wz hDi hdep hclo hW
              exact .inl ⟨rfl, rfl, .inl ⟨gy, wz, fun _ _ => rfl, x_idxArr (0) (o + i * 2) rfl rfl rfl Try.underlying83 sz3 (by omega) (by omega) (by omega), hW⟩⟩
            case o5 =>
              intro gy D wz hDi hdep hclo hW
              exact .inl ⟨rfl, rfl, .inl ⟨gy, wz, fun _ _ => rfl, x_load rfl rfl Try.underlying3 rfl ((HP.oldRange hW trivial (hrow i (by omega))) 0 _ rfl), hW⟩⟩
            case o6 =>
              intro gy D wz hDi hdep hclo hW
              exact .inl ⟨rfl, rfl, .inl ⟨gy, wz, fun _ _ => rfl, by kernel_rfl, hW⟩⟩
            case o7 =>
              intro gy D wz hDi hdep hclo hW
              exact .inl ⟨rfl, rfl, .inl ⟨gy, wz, fun _ _ => rfl, x_load rfl rfl Try.underlying3 rfl (HP.cell hW 0 rfl rfl), hW⟩⟩
            case o8 =>
              intro gy D wz hDi hdep hclo hW
              exact .inl ⟨rfl, rfl, .inl ⟨gy, wz, fun _ _ => rfl, x_rem rfl rfl rfl (by omega) hk, hW⟩⟩
            case o9 =>
              intro gy D wz hDi hdep hclo hW
              exact .inl ⟨rfl, rfl, .inl ⟨gy, wz, fun _ _ => rfl, x_idx (k) (oS + k) rfl rfl rfl Try.underlying24 sz33 (by omega) (by omega) (by omega), hW⟩⟩
            case o10 =>
              intro gy D wz hDi hdep hclo hW
              exact .inl ⟨rfl, rfl, .inl ⟨gy, wz, fun _ _ => rfl, x_load rfl rfl Try.underlying33 rfl ((HP.oldRange hW trivial (show w.rangeAt gS (oS + k) [slV ⟨rq, rxs, rc⟩] by have q9 := hrowS k (by omega); rw [hr2] at q9; exact q9)) 0 _ rfl), hW⟩⟩
            case o11 =>
              intro gy D wz hDi hdep hclo hW
              exact .inl ⟨rfl, rfl, .inl ⟨gy, wz, fun _ _ => rfl, by kernel_rfl, hW⟩⟩
            case o12 =>
              intro gy D wz hDi hdep hclo hW
              exact .inl ⟨rfl, rfl, .inl ⟨gy, wz, fun _ _ => rfl, by kernel_rfl, hW⟩⟩
            case o13 =>
              intro gy D wz hDi hdep hclo hW
              exact .inl ⟨rfl, rfl, .inl ⟨gy, wz, fun _ _ => rfl, x_idx (i) (o + i * 2) rfl rfl rfl Try.underlying49 sz83 (by omega) (by omega) (by omega), hW⟩⟩
            case o14 =>
              intro gy D wz hDi hdep hclo hW
              exact .inl ⟨rfl, rfl, .inl ⟨gy, wz, fun _ _ => rfl, x_idxArr (0) (o + i * 2) rfl rfl rfl Try.underlying83 sz3 (by omega) (by omega) (by omega), hW⟩⟩
            case o15 =>
              intro gy D wz hDi hdep hclo hW
              exact .inl ⟨rfl, rfl, .inl ⟨gy, wz, fun _ _ => rfl, x_load rfl rfl Try.underlying3 rfl ((HP.oldRange hW trivial (hrow i (by omega))) 0 _ rfl), hW⟩⟩
            case o16 =>
              intro gy D wz hDi hdep hclo hW
              have hW2 := hW
              exact .inl ⟨rfl, rfl, .inr (.inr ⟨42, #[.slice rq rxs.length rc, vI (lnT t i)], by kernel_rfl, (place_any rq rxs rc _ (hIR.row.below (HP.below hW)) (by omega) (lnT t i)).mono fun e w2 h => ⟨gy, fun _ _ => rfl, h.1, HP.call hW h.2⟩⟩)⟩
            case o17 =>
              intro gy D wz hDi hdep hclo hW
              exact .inl ⟨rfl, rfl, .inl ⟨gy, wz, fun _ _ => rfl, by kernel_rfl, hW⟩⟩
          rintro gy D w25 hall hH26
          clear hall
          refine WQ.sub (l' := [(1, .slice (some ⟨g, o, none⟩) t.length cp), (2, .slice p2 u.length cp2), (3, .slice (some ⟨gS, oS, none⟩) S.length cp3), (4, vP b4 0), (10, vI (i : Int)), (11, vI (plcV (lnT t i) rxs)), (34, .bool true)]) ⟨rfl, rfl, rfl, rfl, rfl, rfl, rfl, trivial⟩ ?_
          refine WQ.then (hK24 _ _ _ (WC.seq fun K27 hK27 => WC.region ?_))
          refine WL.z (v := vI (plcV (lnT t i) rxs)) 54 ?_
          by_cases h51 : plcV (lnT t i) rxs < 0
          ·
            refine WL.y (v := .bool true) 55 (x_lss rfl rfl rfl (dT (h51))) ?_
            refine WL.z (v := .bool true) 56 ?_
            refine WL.p 57 ?_
            refine WL.p 58 ?_
            refine WL.p 59 ?_
            refine WL.p 60 ?_
            refine WL.p 61 ?_
            refine WL.p 62 ?_
            refine WL.p 63 ?_
            refine WL.z (v := .bool true) 64 ?_
            refine WL.nil (WQ.then (hK27 _ _ _ ?_))
            refine WC.sub (l' := [(1, .slice (some ⟨g, o, none⟩) t.length cp), (2, .slice p2 u.length cp2), (3, .slice (some ⟨gS, oS, none⟩) S.length cp3), (4, vP b4 0), (10, vI (i : Int)), (11, vI (plcV (lnT t i) rxs)), (34, .bool true), (64, .bool true)]) ⟨rfl, rfl, rfl, rfl, rfl, rfl, rfl, rfl, trivial⟩ ?_
            refine WC.yes rfl (WC.seq fun K28 hK28 => ?_)
            have hmr : mR s (stX S) t i = false := by rw [mR_at hk hr1]; rw [decide_eq_false (by omega)]; rfl
            have hval : holV s y t u (stX S) = false := by unfold holV mustOK; rw [all_no (show i < t.length by omega) hmr]; rfl
            refine WC.region ?_
            refine WL.z (v := .bool false) 8 ?_
            refine WL.z (v := vI 0) 9 ?_
            refine WL.nil (WQ.then (hK28 _ _ _ (WC.ret ?_)))
            refine WQ.inRet ?_
            refine WQ.thenRet ?_
            refine WQ.thenRet ?_
            refine WQ.inRet ?_
            refine WQ.thenRet ?_
            refine WQ.ret2 8 9 rfl rfl rfl ?_
            exact ⟨.inr ⟨by unfold holC; rw [hok1, hok2, hok3]; rfl, by rw [hval]⟩, HP.below hH26⟩
          ·
            refine WL.y (v := .bool false) 55 (x_lss rfl rfl rfl (dF (h51))) ?_
            refine WL.z (v := .bool false) 56 ?_
            refine WL.z (v := vI (plcV (lnT t i) rxs)) 57 ?_
            refine WL.z (v := .slice (some ⟨g, o, none⟩) t.length cp) 58 ?_
            refine WL.z (v := vI (i : Int)) 59 ?_
            refine WL.y (v := vP g (o + i * 2)) 60 (x_idx (i) (o + i * 2) rfl rfl rfl Try.underlying49 sz83 (by omega) (by omega) (by omega)) ?_
            refine WL.y (v := vP g (o + i * 2 + 1)) 61 (x_idxArr (1) (o + i * 2 + 1) rfl rfl rfl Try.underlying83 sz3 (by omega) (by omega) (by omega)) ?_
            refine WL.y (v := vI (agT t i)) 62 (x_load rfl rfl Try.underlying3 rfl ((HP.oldRange hH26 trivial (hrow i (by omega))) 1 _ rfl)) ?_
            by_cases h56 : agT t i < plcV (lnT t i) rxs
            ·
              refine WL.y (v := .bool true) 63 (x_gtr rfl rfl rfl (dT (h56))) ?_
              refine WL.z (v := .bool true) 64 ?_
              refine WL.nil (WQ.then (hK27 _ _ _ ?_))
              refine WC.sub (l' := [(1, .slice (some ⟨g, o, none⟩) t.length cp), (2, .slice p2 u.length cp2), (3, .slice (some ⟨gS, oS, none⟩) S.length cp3), (4, vP b4 0), (10, vI (i : Int)), (11, vI (plcV (lnT t i) rxs)), (34, .bool true), (64, .bool true)]) ⟨rfl, rfl, rfl, rfl, rfl, rfl, rfl, rfl, trivial⟩ ?_
              refine WC.yes rfl (WC.seq fun K29 hK29 => ?_)
              have hmr : mR s (stX S) t i = false := by rw [mR_at hk hr1]; rw [decide_eq_false (show ¬ _ ≤ agT t i by omega), Bool.and_false]
              have hval : holV s y t u (stX S) = false := by unfold holV mustOK; rw [all_no (show i < t.length by omega) hmr]; rfl
              refine WC.region ?_
              refine WL.z (v := .bool false) 8 ?_
              refine WL.z (v := vI 0) 9 ?_
              refine WL.nil (WQ.then (hK29 _ _ _ (WC.ret ?_)))
              refine WQ.inRet ?_
              refine WQ.thenRet ?_
              refine WQ.thenRet ?_
              refine WQ.inRet ?_
              refine WQ.thenRet ?_
              refine WQ.ret2 8 9 rfl rfl rfl ?_
              exact ⟨.inr ⟨by unfold holC; rw [hok1, hok2, hok3]; rfl, by rw [hval]⟩, HP.below hH26⟩
            ·
              refine WL.y (v := .bool false) 63 (x_gtr rfl rfl rfl (dF (h56))) ?_
              refine WL.z (v := .bool false) 64 ?_
              refine WL.nil (WQ.then (hK27 _ _ _ ?_))
              refine WC.sub (l' := [(1, .slice (some ⟨g, o, none⟩) t.length cp), (2, .slice p2 u.length cp2), (3, .slice (some ⟨gS, oS, none⟩) S.length cp3), (4, vP b4 0), (10, vI (i : Int)), (11, vI (plcV (lnT t i) rxs)), (34, .bool true), (64, .bool false)]) ⟨rfl, rfl, rfl, rfl, rfl, rfl, rfl, rfl, trivial⟩ ?_
              refine WC.no rfl (WC.skip (WQ.inNormal (WQ.then (hK23 _ _ _ (WC.region ?_)))))
              refine WL.z (v := vI (i : Int)) 35 ?_
              refine WL.y (v := vI ((i + 1 : Nat) : Int)) 36 (x_add (Z := ((i + 1 : Nat) : Int)) rfl rfl rfl (by omega) (by omega) (by omega)) ?_
              refine WL.z (v := vI ((i + 1 : Nat) : Int)) 10 ?_
              refine WL.nil ?_
              have hmr : mR s (stX S) t i = true := by rw [mR_at hk hr1, decide_eq_true (by omega), decide_eq_true (by omega)]; rfl
              refine WQ.sub (l' := [(1, .slice (some ⟨g, o, none⟩) t.length cp), (2, .slice p2 u.length cp2), (3, .slice (some ⟨gS, oS, none⟩) S.length cp3), (4, vP b4 0), (10, vI ((i + 1 : Nat) : Int))]) ⟨rfl, rfl, rfl, rfl, rfl, trivial⟩ ?_
              refine WQ.then (hK18 _ _ _ (by omega) ⟨i + 1, rfl, rfl, by omega, fun j hj => by
                                by_cases q9 : j = i
                                · subst q9; exact hmr
                                · exact hm j (by omega), hH26⟩)
        ·
          refine WL.y (v := .bool false) 34 (x_lss rfl rfl rfl (dF (hlt))) ?_
          refine WL.nil (WQ.then (hK22 _ _ _ (WC.no rfl (WC.exit (WQ.thenExit (WQ.thenExit (WQ.inExit ?_)))))))
          refine WQ.then (hK16 _ _ _ (WC.seq fun K30 hK30 => WC.seq fun K31 hK31 => ?_))
          have hmust : mustOK s (stX S) t = true := all_yes fun j hj => hm j (by omega)
          refine WC.region ?_
          refine WL.z (v := vI 0) 12 ?_
          refine WL.nil (WQ.then (hK31 _ _ _ (WC.block ?_)))
          refine WC.loop (fun kk0 ll0 ww0 => ∃ (k : Nat), ll0 = [(2, .slice p2 u.length cp2), (3, .slice p3 S.length cp3), (4, vP b4 0), (12, vI (k : Int))] ∧ kk0 = S.length - k ∧ (k ≤ S.length) ∧ (∀ j, j < k → nRow y u ((stX S).getD j []) = true) ∧ HP Tr w ww0 [.cel b4 #[vI s, vI y, vI l, vI m] 23]) (S.length) [(2, .slice p2 u.length cp2), (3, .slice p3 S.length cp3), (4, vP b4 0), (12, vI 0)] ⟨rfl, rfl, rfl, rfl, trivial⟩ ⟨0, rfl, rfl, Nat.zero_le _, fun j hj => by omega, hH20⟩ ?_
          rintro kk l w33 ⟨k, rfl, hkk, hkk2, hnk, hH34⟩ K32 hK32
          refine WC.seq fun K35 hK35 => WC.seq fun K36 hK36 => WC.region ?_
          refine WL.z (v := vI (k : Int)) 65 ?_
          refine WL.z (v := .slice p3 S.length cp3) 66 ?_
          refine WL.z (v := vI (S.length : Int)) 67 ?_
          by_cases hlt2 : (k : Int) < (S.length : Int)
          ·
            refine WL.y (v := .bool true) 68 (x_lss rfl rfl rfl (dT (hlt2))) ?_
            refine WL.nil (WQ.then (hK36 _ _ _ (WC.yes rfl (WC.skip (WQ.then (hK35 _ _ _ (WC.seq fun K37 hK37 => ?_)))))))
            refine WC.block (WC.seq fun K38 hK38 => ?_)
            obtain ⟨⟨rq, rxs, rc⟩, hr⟩ : ∃ r, S[k]? = some r := ⟨S[k]'(by omega), List.getElem?_eq_getElem _⟩
            obtain ⟨hr1, hr2, hr3, hr4⟩ := stX_at hr
            have hIR := hS.inn _ hr4
            have hrl9 := hrl _ hr4
            simp only [] at hr1 hr2 hrl9
            have hry : (rxs.length : Int) ≤ y := by have q9 := (okR_iff.1 ((okSt_iff.1 hok3).2.2 k (by rw [stX_len]; omega))).1; rw [hr1] at q9; exact q9
            obtain ⟨gS, oS, hpS, hrowS⟩ := hS.row (by omega)
            subst hpS
            refine WC.region ?_
            refine WL.z (v := vI 0) 13 ?_
            refine WL.nil (WQ.then (hK38 _ _ _ (WC.block ?_)))
            refine WC.loop (fun kk0 ll0 ww0 => ∃ (i : Nat), ll0 = [(2, .slice p2 u.length cp2), (3, .slice (some ⟨gS, oS, none⟩) S.length cp3), (4, vP b4 0), (12, vI (k : Int)), (13, vI (i : Int))] ∧ kk0 = rxs.length - i ∧ (i ≤ rxs.length) ∧ (∀ j, j < i → nR y u rxs j = true) ∧ HP Tr w ww0 [.cel b4 #[vI s, vI y, vI l, vI m] 23]) (rxs.length) [(2, .slice p2 u.length cp2), (3, .slice (some ⟨gS, oS, none⟩) S.length cp3), (4, vP b4 0), (12, vI (k : Int)), (13, vI 0)] ⟨rfl, rfl, rfl, rfl, rfl, trivial⟩ ⟨0, rfl, rfl, Nat.zero_le _, fun j hj => by omega, hH34⟩ ?_
            rintro kk l w40 ⟨i, rfl, hkk, hi2, hni, hH41⟩ K39 hK39
            refine WC.seq fun K42 hK42 => WC.seq fun K43 hK43 => WC.region ?_
            refine WL.z (v := vI (i : Int)) 71 ?_
            refine WL.z (v := .slice (some ⟨gS, oS, none⟩) S.length cp3) 72 ?_
            refine WL.z (v := vI (k : Int)) 73 ?_
            refine WL.y (v := vP gS (oS + k)) 74 (x_idx (k) (oS + k) rfl rfl rfl Try.underlying24 sz33 (by omega) (by omega) (by omega)) ?_
            refine WL.y (v := .slice rq rxs.length rc) 75 (x_load rfl rfl Try.underlying33 rfl ((HP.oldRange hH41 trivial (show w.rangeAt gS (oS + k) [slV ⟨rq, rxs, rc⟩] by have q9 := hrowS k (by omega); rw [hr2] at q9; exact q9)) 0 _ rfl)) ?_
            refine WL.z (v := vI (rxs.length : Int)) 76 ?_
            by_cases hlt3 : (i : Int) < (rxs.length : Int)
            ·
              refine WL.y (v := .bool true) 77 (x_lss rfl rfl rfl (dT (hlt3))) ?_
              refine WL.nil (WQ.then (hK43 _ _ _ ?_))
              refine WC.sub (l' := [(2, .slice p2 u.length cp2), (3, .slice (some ⟨gS, oS, none⟩) S.length cp3), (4, vP b4 0), (12, vI (k : Int)), (13, vI (i : Int)), (77, .bool true)]) ⟨rfl, rfl, rfl, rfl, rfl, rfl, trivial⟩ ?_
              refine WC.yes rfl (WC.skip (WQ.then (hK42 _ _ _ (WC.seq fun K44 hK44 => WC.block (WC.seq fun K45 hK45 => ?_)))))
              obtain ⟨gX, oX, hqX, hrowX⟩ := hIR.row (show 0 < rxs.length by omega)
              simp only [] at hqX hrowX
              subst hqX
              refine WC.region ?_
              refine WL.z (v := .slice p2 u.length cp2) 80 ?_
              refine WL.z (v := .slice (some ⟨gS, oS, none⟩) S.length cp3) 81 ?_
              refine WL.z (v := vI (k : Int)) 82 ?_
              refine WL.y (v := vP gS (oS + k)) 83 (x_idx (k) (oS + k) rfl rfl rfl Try.underlying24 sz33 (by omega) (by omega) (by omega)) ?_
              refine WL.y (v := .slice (some ⟨gX, oX, none⟩) rxs.length rc) 84 (x_load rfl rfl Try.underlying33 rfl ((HP.oldRange hH41 trivial (show w.rangeAt gS (oS + k) [slV ⟨(some ⟨gX, oX, none⟩), rxs, rc⟩] by have q9 := hrowS k (by omega); rw [hr2] at q9; exact q9)) 0 _ rfl)) ?_
              refine WL.z (v := vI (i : Int)) 85 ?_
              refine WL.y (v := vP gX (oX + i)) 86 (x_idx (i) (oX + i) rfl rfl rfl Try.underlying33 sz3 (by omega) (by omega) (by omega)) ?_
              refine WL.y (v := vI (rxs.getD i 0)) 87 (x_load rfl rfl Try.underlying3 rfl ((HP.oldRange hH41 trivial (hrowX i (by omega))) 0 _ rfl)) ?_
              refine WL.call (f := 69) (args := #[.slice p2 u.length cp2, vI (rxs.getD i 0)]) 88 rfl (Nat.le_of_ble_eq_true rfl) rfl rfl (by kernel_rfl) ?_
              refine (rAge_any _ u _ _ (hU.below (HP.below hH41)) (rxs.getD i 0) hn2).mono ?_
              rintro e w46 ⟨rfl, hb47⟩
              refine ⟨_, rfl, ?_⟩
              have hH48 : HP Tr w _ [.cel b4 #[vI s, vI y, vI l, vI m] 23] := HP.call hH41 hb47
              refine WL.z (v := vI ((ageT u (rxs.getD i 0)).getD (-1))) 14 ?_
              refine WL.nil (WQ.then (hK45 _ _ _ ?_))
              refine WC.sub (l' := [(2, .slice p2 u.length cp2), (3, .slice (some ⟨gS, oS, none⟩) S.length cp3), (4, vP b4 0), (12, vI (k : Int)), (13, vI (i : Int)), (14, vI ((ageT u (rxs.getD i 0)).getD (-1))), (77, .bool true)]) ⟨rfl, rfl, rfl, rfl, rfl, rfl, rfl, trivial⟩ ?_
              refine WC.seq fun K49 hK49 => WC.region ?_
              refine WL.z (v := vI ((ageT u (rxs.getD i 0)).getD (-1))) 89 ?_
              by_cases h90 : (ageT u (rxs.getD i 0)).getD (-1) < 0
              ·
                refine WL.y (v := .bool true) 90 (x_lss rfl rfl rfl (dT (h90))) ?_
                refine WL.z (v := .bool true) 91 ?_
                refine WL.p 92 ?_
                refine WL.p 93 ?_
                refine WL.p 94 ?_
                refine WL.z (v := .bool true) 95 ?_
                refine WL.nil (WQ.then (hK49 _ _ _ ?_))
                refine WC.sub (l' := [(2, .slice p2 u.length cp2), (3, .slice (some ⟨gS, oS, none⟩) S.length cp3), (4, vP b4 0), (12, vI (k : Int)), (13, vI (i : Int)), (14, vI ((ageT u (rxs.getD i 0)).getD (-1))), (77, .bool true), (95, .bool true)]) ⟨rfl, rfl, rfl, rfl, rfl, rfl, rfl, rfl, trivial⟩ ?_
                refine WC.yes rfl (WC.seq fun K50 hK50 => ?_)
                have hnr : nR y u rxs i = false := by rw [nR_m1 hV2 (by omega), decide_eq_true h90]; rfl
                have hval : holV s y t u (stX S) = false := by
                  have q9 : nRow y u ((stX S).getD k []) = false := by rw [hr1]; exact all_no (show i < rxs.length by omega) hnr
                  unfold holV mayOK; rw [all_no (i := k) (by rw [stX_len]; omega) q9, Bool.and_false]
                refine WC.region ?_
                refine WL.z (v := .bool false) 8 ?_
                refine WL.z (v := vI 0) 9 ?_
                refine WL.nil (WQ.then (hK50 _ _ _ (WC.ret ?_)))
                refine WQ.inRet ?_
                refine WQ.thenRet ?_
                refine WQ.thenRet ?_
                refine WQ.inRet ?_
                refine WQ.inRet ?_
                refine WQ.thenRet ?_
                refine WQ.thenRet ?_
                refine WQ.inRet ?_
                refine WQ.thenRet ?_
                refine WQ.ret2 8 9 rfl rfl rfl ?_
                exact ⟨.inr ⟨by unfold holC; rw [hok1, hok2, hok3]; rfl, by rw [hval]⟩, HP.below hH48⟩
              ·
                refine WL.y (v := .bool false) 90 (x_lss rfl rfl rfl (dF (h90))) ?_
                refine WL.z (v := .bool false) 91 ?_
                refine WL.z (v := vI ((ageT u (rxs.getD i 0)).getD (-1))) 92 ?_
                refine WL.z (v := vI (i : Int)) 93 ?_
                by_cases h94 : (i : Int) < (ageT u (rxs.getD i 0)).getD (-1)
                ·
                  refine WL.y (v := .bool true) 94 (x_gtr rfl rfl rfl (dT (h94))) ?_
                  refine WL.z (v := .bool true) 95 ?_
                  refine WL.nil (WQ.then (hK49 _ _ _ ?_))
                  refine WC.sub (l' := [(2, .slice p2 u.length cp2), (3, .slice (some ⟨gS, oS, none⟩) S.length cp3), (4, vP b4 0), (12, vI (k : Int)), (13, vI (i : Int)), (14, vI ((ageT u (rxs.getD i 0)).getD (-1))), (77, .bool true), (95, .bool true)]) ⟨rfl, rfl, rfl, rfl, rfl, rfl, rfl, rfl, trivial⟩ ?_
                  refine WC.yes rfl (WC.seq fun K51 hK51 => ?_)
                  have hnr : nR y u rxs i = false := by rw [nR_m1 hV2 (by omega), decide_eq_false (show ¬ _ ≤ (i : Int) by omega), Bool.and_false]
                  have hval : holV s y t u (stX S) = false := by
                    have q9 : nRow y u ((stX S).getD k []) = false := by rw [hr1]; exact all_no (show i < rxs.length by omega) hnr
                    unfold holV mayOK; rw [all_no (i := k) (by rw [stX_len]; omega) q9, Bool.and_false]
                  refine WC.region ?_
                  refine WL.z (v := .bool false) 8 ?_
                  refine WL.z (v := vI 0) 9 ?_
                  refine WL.nil (WQ.then (hK51 _ _ _ (WC.ret ?_)))
                  refine WQ.inRet ?_
                  refine WQ.thenRet ?_
                  refine WQ.thenRet ?_
                  refine WQ.inRet ?_
                  refine WQ.inRet ?_
                  refine WQ.thenRet ?_
                  refine WQ.thenRet ?_
                  refine WQ.inRet ?_
                  refine WQ.thenRet ?_
                  refine WQ.ret2 8 9 rfl rfl rfl ?_
                  exact ⟨.inr ⟨by unfold holC; rw [hok1, hok2, hok3]; rfl, by rw [hval]⟩, HP.below hH48⟩
                ·
                  refine WL.y (v := .bool false) 94 (x_gtr rfl rfl rfl (dF (h94))) ?_
                  refine WL.z (v := .bool false) 95 ?_
                  refine WL.nil (WQ.then (hK49 _ _ _ ?_))
                  refine WC.sub (l' := [(2, .slice p2 u.length cp2), (3, .slice (some ⟨gS, oS, none⟩) S.length cp3), (4, vP b4 0), (12, vI (k : Int)), (13, vI (i : Int)), (14, vI ((ageT u (rxs.getD i 0)).getD (-1))), (77, .bool true), (95, .bool false)]) ⟨rfl, rfl, rfl, rfl, rfl, rfl, rfl, rfl, trivial⟩ ?_
                  refine WC.no rfl (WC.skip (WQ.inNormal (WQ.then (hK44 _ _ _ (WC.region ?_)))))
                  refine WL.z (v := vI (i : Int)) 78 ?_
                  refine WL.y (v := vI ((i + 1 : Nat) : Int)) 79 (x_add (Z := ((i + 1 : Nat) : Int)) rfl rfl rfl (by omega) (by omega) (by omega)) ?_
                  refine WL.z (v := vI ((i + 1 : Nat) : Int)) 13 ?_
                  refine WL.nil ?_
                  have hnr : nR y u rxs i = true := by rw [nR_m1 hV2 (by omega), decide_eq_false h90, decide_eq_true (by omega)]; rfl
                  refine WQ.sub (l' := [(2, .slice p2 u.length cp2), (3, .slice (some ⟨gS, oS, none⟩) S.length cp3), (4, vP b4 0), (12, vI (k : Int)), (13, vI ((i + 1 : Nat) : Int))]) ⟨rfl, rfl, rfl, rfl, rfl, trivial⟩ ?_
                  refine WQ.then (hK39 _ _ _ (by omega) ⟨i + 1, rfl, rfl, by omega, fun j hj => by
                                        by_cases q9 : j = i
                                        · subst q9; exact hnr
                                        · exact hni j (by omega), hH48⟩)
            ·
              refine WL.y (v := .bool false) 77 (x_lss rfl rfl rfl (dF (hlt3))) ?_
              refine WL.nil (WQ.then (hK43 _ _ _ ?_))
              refine WC.sub (l' := [(2, .slice p2 u.length cp2), (3, .slice (some ⟨gS, oS, none⟩) S.length cp3), (4, vP b4 0), (12, vI (k : Int)), (13, vI (i : Int)), (77, .bool false)]) ⟨rfl, rfl, rfl, rfl, rfl, rfl, trivial⟩ ?_
              refine WC.no rfl (WC.exit (WQ.thenExit (WQ.thenExit (WQ.inExit (WQ.inNormal (WQ.then (hK37 _ _ _ ?_)))))))
              refine WC.region ?_
              refine WL.z (v := vI (k : Int)) 69 ?_
              refine WL.y (v := vI ((k + 1 : Nat) : Int)) 70 (x_add (Z := ((k + 1 : Nat) : Int)) rfl rfl rfl (by omega) (by omega) (by omega)) ?_
              refine WL.z (v := vI ((k + 1 : Nat) : Int)) 12 ?_
              refine WL.nil ?_
              have hrow9 : nRow y u ((stX S).getD k []) = true := by rw [hr1]; exact all_yes fun j hj => hni j (by omega)
              refine WQ.sub (l' := [(2, .slice p2 u.length cp2), (3, .slice (some ⟨gS, oS, none⟩) S.length cp3), (4, vP b4 0), (12, vI ((k + 1 : Nat) : Int))]) ⟨rfl, rfl, rfl, rfl, trivial⟩ ?_
              refine WQ.then (hK32 _ _ _ (by omega) ⟨k + 1, rfl, rfl, by omega, fun j hj => by
                                by_cases q9 : j = k
                                · subst q9; exact hrow9
                                · exact hnk j (by omega), hH41⟩)
          ·
            refine WL.y (v := .bool false) 68 (x_lss rfl rfl rfl (dF (hlt2))) ?_
            refine WL.nil (WQ.then (hK36 _ _ _ (WC.no rfl (WC.exit (WQ.thenExit (WQ.thenExit (WQ.inExit ?_)))))))
            refine WQ.then (hK30 _ _ _ (WC.seq fun K52 hK52 => ?_))
            have hval : holV s y t u (stX S) = true := by unfold holV; rw [hmust]; exact all_yes fun j hj => hnk j (by rw [stX_len] at hj; omega)
            refine WC.region ?_
            refine WL.z (v := .bool true) 8 ?_
            refine WL.z (v := vI 0) 9 ?_
            refine WL.nil (WQ.then (hK52 _ _ _ (WC.ret ?_)))
            refine WQ.ret2 8 9 rfl rfl rfl ?_
            exact ⟨.inr ⟨by unfold holC; rw [hok1, hok2, hok3]; rfl, by rw [hval]⟩, HP.below hH34⟩
      ·
        refine WL.call (f := 19) (args := #[.agg #[vI s, vI y, vI l, vI m], .slice p3 S.length cp3]) 28 rfl (Nat.le_of_ble_eq_true rfl) rfl rfl (by kernel_rfl) ?_
        refine (rValidState_at hok3 p3 cp3 _ (hS.below (HP.below hH12)) hn3).mono ?_
        rintro e w53 ⟨rfl, hb54⟩
        refine ⟨_, rfl, ?_⟩
        have hH55 : HP Tr w _ [.cel b4 #[vI s, vI y, vI l, vI m] 23] := HP.call hH12 hb54
        refine WL.z (v := .bool true) 29 ?_
        refine WL.z (v := .bool true) 30 ?_
        refine WL.nil (WQ.then (hK6 _ _ _ ?_))
        refine WC.sub (l' := [(0, .agg #[vI s, vI y, vI l, vI m]), (1, .slice p t.length cp), (2, .slice p2 u.length cp2), (3, .slice p3 S.length cp3), (4, vP b4 0), (8, .bool false), (9, vI 0), (30, .bool true)]) ⟨rfl, rfl, rfl, rfl, rfl, rfl, rfl, rfl, trivial⟩ ?_
        refine WC.yes rfl (WC.seq fun K56 hK56 => WC.region ?_)
        refine WL.z (v := .bool false) 8 ?_
        refine WL.z (v := vI 1) 9 ?_
        refine WL.nil (WQ.then (hK56 _ _ _ (WC.ret ?_)))
        refine WQ.thenRet ?_
        refine WQ.ret2 8 9 rfl rfl rfl ?_
        exact ⟨.inl ⟨by unfold holC; rw [hok1, hok2, hok3]; rfl, rfl⟩, HP.below hH55⟩
    ·
      refine WL.call (f := 41) (args := #[.agg #[vI s, vI y, vI l, vI m], .slice p2 u.length cp2]) 22 rfl (Nat.le_of_ble_eq_true rfl) rfl rfl (by kernel_rfl) ?_
      refine (IsTable_at hok2 _ _ _ (hU.below (HP.below hH9)) hn2).mono ?_
      rintro e w57 ⟨rfl, hb58⟩
      refine ⟨_, rfl, ?_⟩
      have hH59 : HP Tr w _ [.cel b4 #[vI s, vI y, vI l, vI m] 23] := HP.call hH9 hb58
      refine WL.z (v := .bool true) 23 ?_
      refine WL.z (v := .bool true) 24 ?_
      refine WL.z (v := .bool true) 25 ?_
      refine WL.p 26 ?_
      refine WL.p 27 ?_
      refine WL.p 28 ?_
      refine WL.p 29 ?_
      refine WL.z (v := .bool true) 30 ?_
      refine WL.nil (WQ.then (hK6 _ _ _ ?_))
      refine WC.sub (l' := [(0, .agg #[vI s, vI y, vI l, vI m]), (1, .slice p t.length cp), (2, .slice p2 u.length cp2), (3, .slice p3 S.length cp3), (4, vP b4 0), (8, .bool false), (9, vI 0), (30, .bool true)]) ⟨rfl, rfl, rfl, rfl, rfl, rfl, rfl, rfl, trivial⟩ ?_
      refine WC.yes rfl (WC.seq fun K60 hK60 => WC.region ?_)
      refine WL.z (v := .bool false) 8 ?_
      refine WL.z (v := vI 1) 9 ?_
      refine WL.nil (WQ.then (hK60 _ _ _ (WC.ret ?_)))
      refine WQ.thenRet ?_
      refine WQ.ret2 8 9 rfl rfl rfl ?_
      exact ⟨.inl ⟨by unfold holC; rw [hok1, hok2]; rfl, rfl⟩, HP.below hH59⟩
  ·
    refine WL.call (f := 41) (args := #[.agg #[vI s, vI y, vI l, vI m], .slice p t.length cp]) 17 rfl (Nat.le_of_ble_eq_true rfl) rfl rfl (by kernel_rfl) ?_
    refine (IsTable_at hok1 _ _ _ (hT.below (HP.below hH4)) hn).mono ?_
    rintro e w61 ⟨rfl, hb62⟩
    refine ⟨_, rfl, ?_⟩
    have hH63 : HP Tr w _ [.cel b4 #[vI s, vI y, vI l, vI m] 23] := HP.call hH4 hb62
    refine WL.z (v := .bool true) 18 ?_
    refine WL.z (v := .bool true) 19 ?_
    refine WL.p 20 ?_
    refine WL.p 21 ?_
    refine WL.p 22 ?_
    refine WL.p 23 ?_
    refine WL.z (v := .bool true) 24 ?_
    refine WL.z (v := .bool true) 25 ?_
    refine WL.p 26 ?_
    refine WL.p 27 ?_
    refine WL.p 28 ?_
    refine WL.p 29 ?_
    refine WL.z (v := .bool true) 30 ?_
    refine WL.nil (WQ.then (hK6 _ _ _ ?_))
    refine WC.sub (l' := [(0, .agg #[vI s, vI y, vI l, vI m]), (1, .slice p t.length cp), (2, .slice p2 u.length cp2), (3, .slice p3 S.length cp3), (4, vP b4 0), (8, .bool false), (9, vI 0), (30, .bool true)]) ⟨rfl, rfl, rfl, rfl, rfl, rfl, rfl, rfl, trivial⟩ ?_
    refine WC.yes rfl (WC.seq fun K64 hK64 => WC.region ?_)
    refine WL.z (v := .bool false) 8 ?_
    refine WL.z (v := vI 1) 9 ?_
    refine WL.nil (WQ.then (hK64 _ _ _ (WC.ret ?_)))
    refine WQ.thenRet ?_
    refine WQ.ret2 8 9 rfl rfl rfl ?_
    exact ⟨.inl ⟨by unfold holC; rw [hok1]; rfl, rfl⟩, HP.below hH63⟩
end Ca
end Go.Proofs.Ytmjnakhpekbenaa
namespace Go.Proofs.Ytmjnakhpekbenaa
open Fw
namespace Ca
theorem at_getD {xs : List Int} {i : Nat} (hi : i < xs.length) : xs[i]? = some (xs.getD i 0) := by
  rw [List.getD_eq_getElem?_getD, List.getElem?_eq_getElem hi]; rfl
theorem plcV_at {xs : List Int} (hn : xs.Nodup) {z : Int} {p : Nat} (h : xs[p]? = some z) : plcV z xs = (p : Int) := by
  have hp := (List.getElem?_eq_some_iff.1 h).1
  have hz := (List.getElem?_eq_some_iff.1 h).2
  have e : plc z xs = some p := plc_some hp (by rw [List.getD_eq_getElem?_getD, h]; rfl) fun i hi => by
    rw [List.getD_eq_getElem?_getD, List.getElem?_eq_getElem (by omega)]
    simp only [Option.getD_some]
    intro q
    have := (List.nodup_iff_pairwise_ne.1 hn)
    have := List.pairwise_iff_getElem.1 this i p (by omega) hp hi
    exact this (by rw [q, hz])
  unfold plcV; rw [e]
theorem plcV_in {xs : List Int} {z : Int} (h : 0 ≤ plcV z xs) : ∃ p : Nat, plcV z xs = (p : Int) ∧ xs[p]? = some z := by
  rcases plc_spec z xs with ⟨h1, -⟩ | ⟨k, h1, h2, h3, -⟩
  · unfold plcV at h; rw [h1] at h; exact absurd h (by decide)
  · refine ⟨k, by unfold plcV; rw [h1], ?_⟩
    rw [List.getD_eq_getElem?_getD, List.getElem?_eq_getElem h2] at h3
    rw [List.getElem?_eq_getElem h2]; simpa using h3
theorem filter_at {xs : List Int} (hn : xs.Nodup) {x : Int} {px : Nat} (h : xs[px]? = some x) (j : Nat) : (xs.filter fun z => z != x)[j]? = if j < px then xs[j]? else xs[j + 1]? := by
  have hp := (List.getElem?_eq_some_iff.1 h).1
  rw [← erase_eq hn hp (by rw [List.getD_eq_getElem?_getD, h]; rfl), List.getElem?_eraseIdx]
theorem filter_no {xs : List Int} {x : Int} (h : x ∉ xs) : (xs.filter fun z => z != x) = xs := filter_self h
theorem mem_or {xs : List Int} (x : Int) : x ∉ xs ∨ ∃ px : Nat, xs[px]? = some x := by
  by_cases h : x ∈ xs
  · exact .inr (List.mem_iff_getElem?.1 h)
  · exact .inl h
/-- where a line stands behind a touch -/
theorem tc_fwd {xs : List Int} {y x z : Int} {p : Nat} (hn : xs.Nodup) (hl : (xs.length : Int) ≤ y) (hy : 1 ≤ y) (hz : z ≠ x) (h : xs[p]? = some z) :
    (∀ px : Nat, xs[px]? = some x → (p < px → (tcF y x xs)[p + 1]? = some z) ∧ (px < p → (tcF y x xs)[p]? = some z)) ∧ (x ∉ xs → (p : Int) < y - 1 → (tcF y x xs)[p + 1]? = some z) := by
  have hp := (List.getElem?_eq_some_iff.1 h).1
  refine ⟨fun px hx => ?_, fun hx hpy => ?_⟩
  · have hpx := (List.getElem?_eq_some_iff.1 hx).1
    constructor
    · intro hlt
      unfold tcF
      rw [List.getElem?_cons_succ, List.getElem?_take, if_pos (by omega), filter_at hn hx, if_pos hlt]; exact h
    · intro hlt
      unfold tcF
      obtain ⟨q, rfl⟩ : ∃ q, p = q + 1 := ⟨p - 1, by omega⟩
      rw [List.getElem?_cons_succ, List.getElem?_take, if_pos (by omega), filter_at hn hx, if_neg (by omega)]; exact h
  · unfold tcF
    rw [List.getElem?_cons_succ, List.getElem?_take, if_pos (by omega), filter_no hx]; exact h
theorem tc_bwd {xs : List Int} {y x z : Int} {q : Nat} (hn : xs.Nodup) (h : (tcF y x xs)[q + 1]? = some z) :
    (q : Int) + 1 < y ∧ ((x ∉ xs ∧ xs[q]? = some z) ∨ ∃ px : Nat, xs[px]? = some x ∧ ((q < px ∧ xs[q]? = some z) ∨ (px ≤ q ∧ xs[q + 1]? = some z))) := by
  unfold tcF at h
  rw [List.getElem?_cons_succ, List.getElem?_take] at h
  split at h
  · rename_i hq
    refine ⟨by omega, ?_⟩
    rcases mem_or (xs := xs) x with hx | ⟨px, hx⟩
    · rw [filter_no hx] at h
      exact .inl ⟨hx, h⟩
    · rw [filter_at hn hx] at h
      split at h
      · rename_i hlt; exact .inr ⟨px, hx, .inl ⟨hlt, h⟩⟩
      · rename_i hlt; exact .inr ⟨px, hx, .inr ⟨by omega, h⟩⟩
  · cases h
theorem tcF_nodup {xs : List Int} {y x : Int} (hn : xs.Nodup) : (tcF y x xs).Nodup := by
  unfold tcF
  refine List.nodup_cons.2 ⟨fun h => ?_, List.Nodup.sublist (List.take_sublist _ _) (List.Nodup.sublist List.filter_sublist hn)⟩
  have := (List.mem_filter.1 (List.mem_of_mem_take h)).2
  simp at this
def mustP (s : Int) (X : List (List Int)) (t : List T2) : Prop := ∀ z c, ageT t z = some c → 0 ≤ plcV z (X.getD (z.tmod s).toNat []) ∧ plcV z (X.getD (z.tmod s).toNat []) ≤ c
def mayP (y : Int) (X : List (List Int)) (u : List T2) : Prop := ∀ k, k < X.length → ∀ (i : Nat) z, (X.getD k [])[i]? = some z → (ageT u z).getD y ≤ (i : Int)
theorem mustOK_iff {s : Int} {X : List (List Int)} {t : List T2} (hs : sT t) : mustOK s X t = true ↔ mustP s X t := by
  constructor
  · intro h z c hz
    obtain ⟨i, hi, e⟩ := List.mem_iff_getElem.1 ((mem_age hs).2 hz)
    have h2 := all_at h hi
    unfold mR at h2
    rw [Bool.and_eq_true] at h2
    rw [lnT_get hi, agT_get hi, e] at h2
    exact ⟨of_decide_eq_true h2.1, of_decide_eq_true h2.2⟩
  · intro h
    refine all_yes fun i hi => ?_
    have h2 := h (lnT t i) (agT t i) (age_at hs hi)
    unfold mR
    rw [decide_eq_true h2.1, decide_eq_true h2.2]; rfl
theorem mayOK_iff {y : Int} {X : List (List Int)} {u : List T2} : mayOK y X u = true ↔ mayP y X u := by
  constructor
  · intro h k hk i z hz
    have hi := (List.getElem?_eq_some_iff.1 hz).1
    have h2 := of_decide_eq_true (all_at (all_at h hk) hi)
    rw [List.getD_eq_getElem?_getD, hz] at h2
    exact h2
  · intro h
    refine all_yes fun k hk => all_yes fun i hi => ?_
    have h2 := h k hk i ((X.getD k []).getD i 0) (at_getD hi)
    exact decide_eq_true h2
section
variable {s y l m : Int}
theorem row_ok {X : List (List Int)} (h : okSt s y l m X = true) {k : Nat} (hk : k < X.length) : ((X.getD k []).length : Int) ≤ y ∧ (∀ x ∈ X.getD k [], (0 ≤ x ∧ x ≤ 999) ∧ x.tmod s = (k : Int)) ∧ (X.getD k []).Nodup :=
  okR_iff2.1 ((okSt_iff.1 h).2.2 k hk)
theorem stp_row {X : List (List Int)} {a : Int} (h : okSt s y l m X = true) (ha : 0 ≤ a ∧ a ≤ 999) (k : Nat) (hk : k < X.length) :
    (stp s y l a X).getD k [] = if k = setN s l a then tcF y (a / l) (X.getD k []) else X.getD k [] := by
  obtain ⟨h1, h2, h3⟩ := okSt_iff.1 h
  obtain ⟨hs, hy, hl, -⟩ := vG_iff.1 h1
  obtain ⟨e1, e2⟩ := setN_spec hs hl ha
  unfold stp
  by_cases e : k = setN s l a
  · rw [if_pos e, ← e, getD_set_eq hk, tcX_eq (h3 k hk) hy.1]
  · rw [if_neg e, getD_set_ne (fun q => e q.symm)]
theorem VT_ok {t : List T2} (h : VT s y l m t) : okT s y l m t = true := okT_iff.2 ⟨h.geo, fun i hi => by
  have a1 := h.ln i hi
  have a2 := h.ag i hi
  unfold okE
  rw [wn_iff.2 a1, wn_iff.2 a2]
  by_cases h0 : i = 0
  · subst h0; rfl
  · have := sT_lt h.so (show i - 1 < i by omega) hi
    rw [decide_eq_false (show ¬ lnT t i ≤ lnT t (i - 1) by omega), Bool.and_false]; rfl⟩
theorem must_touch {X : List (List Int)} {t : List T2} {a : Int} (h : okSt s y l m X = true) (hV : VT s y l m t) (ha : 0 ≤ a ∧ a ≤ 999) (hm : mustP s X t) : mustP s (stp s y l a X) (tcH s y (a / l) 0 t) := by
  obtain ⟨h1, h2, h3⟩ := okSt_iff.1 h
  obtain ⟨hs, hy, hl, -⟩ := vG_iff.1 h1
  obtain ⟨e1, e2⟩ := setN_spec hs hl ha
  have hK : setN s l a < X.length := by omega
  intro z c hc
  rw [age_tc hV] at hc
  unfold agA at hc
  by_cases hz : z = a / l
  · rw [if_pos hz] at hc; cases hc
    subst hz
    rw [e1, Int.toNat_natCast, stp_row h ha _ hK, if_pos rfl]
    have hp : plcV (a / l) (tcF y (a / l) (X.getD (setN s l a) [])) = ((0 : Nat) : Int) := plcV_at (tcF_nodup (row_ok h hK).2.2) rfl
    rw [hp]; omega
  · rw [if_neg hz] at hc
    obtain ⟨c0, g1, g2⟩ := Option.bind_eq_some_iff.1 hc
    obtain ⟨b1, b2⟩ := hm z c0 g1
    have hzr := (hV.age g1).1
    obtain ⟨k, hk, hks⟩ := tmod_k hzr.1 hs.1
    rw [hk, Int.toNat_natCast] at b1 b2 ⊢
    have hkl : k < X.length := by omega
    rw [stp_row h ha k hkl]
    unfold agS at g2
    by_cases hkk : k = setN s l a
    · rw [if_pos hkk]
      rw [if_pos (by rw [hk, e1, hkk])] at g2
      obtain ⟨p, hp1, hp2⟩ := plcV_in b1
      rw [hp1] at b2
      obtain ⟨r1, -, r3⟩ := row_ok h hkl
      have hfw := tc_fwd (y := y) (x := a / l) r3 r1 hy.1 hz hp2
      have hnd := tcF_nodup (y := y) (x := a / l) r3
      simp only [Int.add_zero] at g2
      split at g2
      · rename_i hlt
        cases g2
        rcases mem_or (xs := X.getD k []) (a / l) with hx | ⟨px, hx⟩
        · -- the line was not there: so the table does not have it
          have hno : ageT t (a / l) = none := by
            cases q : ageT t (a / l) with
            | none => rfl
            | some d =>
              have q2 := (hm _ _ q).1
              rw [e1, Int.toNat_natCast, ← hkk] at q2
              obtain ⟨px, -, hpx⟩ := plcV_in q2
              exact absurd (List.mem_of_getElem? hpx) hx
          rw [hno] at hlt ⊢
          have hc0 := (hV.age g1).2
          have e9 : bmp ((none : Option Int).getD y) c0 = c0 + 1 := by unfold bmp; rw [if_pos (by simp; omega)]
          rw [e9] at hlt ⊢
          have := plcV_at hnd (hfw.2 hx (by omega))
          rw [this]; omega
        · have hd : ∀ d, ageT t (a / l) = some d → (px : Int) ≤ d := fun d q => by
            have q2 := hm _ _ q
            rw [e1, Int.toNat_natCast, ← hkk] at q2
            rw [plcV_at r3 hx] at q2
            exact q2.2
          have hne : p ≠ px := fun q => hz (by rw [q, hx] at hp2; cases hp2; rfl)
          rcases Nat.lt_or_gt_of_ne hne with hlt2 | hgt
          · rw [plcV_at hnd ((hfw.1 px hx).1 hlt2)]
            have hc0 := (hV.age g1).2
            refine ⟨by omega, ?_⟩
            unfold bmp
            split
            · omega
            · rename_i hge
              cases q : ageT t (a / l) with
              | none => rw [q] at hge; simp at hge; omega
              | some d => rw [q] at hge; have := hd d q; simp at hge; omega
          · rw [plcV_at hnd ((hfw.1 px hx).2 hgt)]
            refine ⟨by omega, ?_⟩
            unfold bmp; split <;> omega
      · cases g2
    · rw [if_neg hkk]
      rw [if_neg (by rw [hk, e1]; omega)] at g2
      split at g2
      · cases g2; exact ⟨b1, b2⟩
      · cases g2
theorem may_touch {X : List (List Int)} {u : List T2} {a : Int} (h : okSt s y l m X = true) (hV : VT s y l m u) (ha : 0 ≤ a ∧ a ≤ 999) (hm : mayP y X u) : mayP y (stp s y l a X) (tcH s y (a / l) 1 u) := by
  obtain ⟨h1, h2, h3⟩ := okSt_iff.1 h
  obtain ⟨hs, hy, hl, -⟩ := vG_iff.1 h1
  obtain ⟨e1, e2⟩ := setN_spec hs hl ha
  intro k hk i z hz
  rw [stp_length] at hk
  rw [stp_row h ha k hk] at hz
  obtain ⟨r1, r2, r3⟩ := row_ok h hk
  rw [age_tc hV]
  unfold agA
  by_cases hkk : k = setN s l a
  · rw [if_pos hkk] at hz
    by_cases hzx : z = a / l
    · rw [if_pos hzx]; simp
    · rw [if_neg hzx]
      cases i with
      | zero => exact absurd (by unfold tcF at hz; simpa using hz.symm) hzx
      | succ q =>
        obtain ⟨hqy, hpos⟩ := tc_bwd r3 hz
        -- where z stood
        have key : ∃ p : Nat, (X.getD k [])[p]? = some z ∧ (p = q ∨ (p = q + 1 ∧ ∃ px : Nat, px ≤ q ∧ (X.getD k [])[px]? = some (a / l))) := by
          rcases hpos with ⟨-, g⟩ | ⟨px, hx, ⟨-, g⟩ | ⟨g1, g2⟩⟩
          · exact ⟨q, g, .inl rfl⟩
          · exact ⟨q, g, .inl rfl⟩
          · exact ⟨q + 1, g2, .inr ⟨rfl, px, g1, hx⟩⟩
        obtain ⟨p, hp, hq⟩ := key
        have hpl := (List.getElem?_eq_some_iff.1 hp).1
        have hzm := (r2 z (List.mem_of_getElem? hp)).2
        have hage := hm k hk p z hp
        cases q9 : ageT u z with
        | none => rw [q9] at hage; simp at hage; omega
        | some c =>
          rw [q9] at hage
          simp only [Option.getD_some] at hage
          rw [Option.bind_some]
          unfold agS
          rw [if_pos (by rw [hzm, e1, hkk])]
          have hb : bmp ((ageT u (a / l)).getD y + 1) c ≤ ((q + 1 : Nat) : Int) := by
            rcases hq with rfl | ⟨rfl, px, hpx, hx⟩
            · unfold bmp; split <;> omega
            · have hx2 := hm k hk px _ hx
              unfold bmp; split <;> omega
          rw [if_pos (by omega)]; exact hb
  · rw [if_neg hkk] at hz
    have hzm := (r2 z (List.mem_of_getElem? hz)).2
    have hil := (List.getElem?_eq_some_iff.1 hz).1
    have hage := hm k hk i z hz
    have hzx : z ≠ a / l := fun q => hkk (by rw [q, e1] at hzm; omega)
    rw [if_neg hzx]
    cases q9 : ageT u z with
    | none => rw [q9] at hage; simp at hage; omega
    | some c =>
      rw [q9] at hage
      simp only [Option.getD_some] at hage
      rw [Option.bind_some]
      unfold agS
      rw [if_neg (by rw [hzm, e1]; omega), if_pos (by omega)]; exact hage
theorem must_join {X : List (List Int)} {t u : List T2} (ht : sT t) (hm : mustP s X t) : mustP s X (jM t u) := by
  intro z c hc
  obtain ⟨a', g1, g2⟩ := jM_left (b := u) ht z c hc
  obtain ⟨b1, b2⟩ := hm z a' g1
  exact ⟨b1, by omega⟩
theorem may_join {X : List (List Int)} {t u : List T2} (ht : VT s y l m t) (hu : VT s y l m u) (hm : mayP y X u) : mayP y X (rJ true t u) := by
  intro k hk i z hz
  have h1 := hm k hk i z hz
  have h2 := getD_N (VT_rJ ht hu) (rJ_right ht.so hu.so) z
  omega
theorem holds_touch {t u : List T2} {X : List (List Int)} {a : Int} (h : holC s y l m t u X = true) (hv : holV s y t u X = true) (ha : 0 ≤ a ∧ a ≤ 999) :
    holC s y l m (tcH s y (a / l) 0 t) (tcH s y (a / l) 1 u) (stp s y l a X) = true ∧ holV s y (tcH s y (a / l) 0 t) (tcH s y (a / l) 1 u) (stp s y l a X) = true := by
  unfold holC at h
  rw [Bool.and_eq_true, Bool.and_eq_true] at h
  obtain ⟨k1, k2, k3⟩ := h
  have V1 := ok_VT k1
  have V2 := ok_VT k2
  unfold holV at hv
  rw [Bool.and_eq_true] at hv
  have hb := line_bd ⟨V1.l1, V1.l2⟩ ha
  have W1 : VT s y l m (tcH s y (a / l) 0 t) := VT_tc V1 hb
  have W2 : VT s y l m (tcH s y (a / l) 1 u) := VT_tc V2 hb
  refine ⟨?_, ?_⟩
  · unfold holC; rw [VT_ok W1, VT_ok W2, okSt_stp k3 ha]; rfl
  · unfold holV
    rw [(mustOK_iff W1.so).2 (must_touch k3 V1 ha ((mustOK_iff V1.so).1 hv.1)), mayOK_iff.2 (may_touch k3 V2 ha (mayOK_iff.1 hv.2))]; rfl
theorem holds_join {t u ot ou : List T2} {X : List (List Int)} (h : holC s y l m t u X = true) (hv : holV s y t u X = true) (h1 : okT s y l m ot = true) (h2 : okT s y l m ou = true) :
    holC s y l m (rJ false t ot) (rJ true ou u) X = true ∧ holV s y (rJ false t ot) (rJ true ou u) X = true := by
  unfold holC at h
  rw [Bool.and_eq_true, Bool.and_eq_true] at h
  obtain ⟨k1, k2, k3⟩ := h
  have V1 := ok_VT k1
  have V2 := ok_VT k2
  have V3 := ok_VT h1
  have V4 := ok_VT h2
  unfold holV at hv
  rw [Bool.and_eq_true] at hv
  have W1 := VT_jM V1 V3
  have W2 := VT_rJ V4 V2
  rw [← jM_eq V1.so V3.so]
  refine ⟨?_, ?_⟩
  · unfold holC; rw [VT_ok W1, VT_ok W2, k3]; rfl
  · unfold holV
    rw [(mustOK_iff W1.so).2 (must_join V1.so ((mustOK_iff V1.so).1 hv.1)), mayOK_iff.2 (may_join V4 V2 (mayOK_iff.1 hv.2))]; rfl
end
end Ca
end Go.Proofs.Ytmjnakhpekbenaa
namespace Go.Proofs.Ytmjnakhpekbenaa
open Go.RowKit Fw
namespace Ca
theorem Ta_in {P : Program} {s y l m a k : Int} {t : List T2} {f : Nat} {args : Array Value} {w : World} (h : Calls P f args w (TaR s y l m a k t w)) (hy : taC s y l m a t = true) :
    Calls P f args w fun e w' => ∃ pv cp', e = .returned (.tuple #[.slice pv (tcH s y (a / l) k t).length cp', vI 0]) ∧ InT w' pv (tcH s y (a / l) k t) ∧ Below w.heap.size w w' :=
  (Ta_yes h hy).mono fun e w' ⟨pv, cp', h1, h2⟩ => ⟨pv, cp', h1, InT.own (HP.get h2 0 rfl), HP.below h2⟩
theorem Jo_in {P : Program} {s y l m : Int} {t u J : List T2} {f : Nat} {args : Array Value} {w : World} (h : Calls P f args w (JoR s y l m t u J w)) (hy : joC s y l m t u = true) :
    Calls P f args w fun e w' => ∃ pv cp', e = .returned (.tuple #[.slice pv J.length cp', vI 0]) ∧ InT w' pv J ∧ Below w.heap.size w w' :=
  (Jo_yes h hy).mono fun e w' ⟨pv, cp', h1, h2⟩ => ⟨pv, cp', h1, InT.own (HP.get h2 0 rfl), HP.below h2⟩
theorem Hol_yes {P : Program} {s y l m : Int} {t u : List T2} {X : List (List Int)} {r : Bool} {f : Nat} {args : Array Value} {w : World} (h : Calls P f args w (HolR s y l m t u X w)) (hc : holC s y l m t u X = true) (hv : holV s y t u X = r) :
    Calls P f args w fun e w' => e = .returned (.tuple #[.bool r, vI 0]) ∧ Below w.heap.size w w' :=
  h.mono fun e w' ⟨q, hb⟩ => by
    rcases q with ⟨q, -⟩ | ⟨-, q⟩
    · rw [hc] at q; cases q
    · rw [hv] at q; exact ⟨q, hb⟩
theorem Hol_no {P : Program} {s y l m : Int} {t u : List T2} {X : List (List Int)} {f : Nat} {args : Array Value} {w : World} (h : Calls P f args w (HolR s y l m t u X w)) (hc : holC s y l m t u X = false) :
    Calls P f args w fun e w' => e = .returned (.tuple #[.bool false, vI 1]) ∧ Below w.heap.size w w' :=
  h.mono fun e w' ⟨q, hb⟩ => by
    rcases q with ⟨-, q⟩ | ⟨q, -⟩
    · exact ⟨q, hb⟩
    · rw [hc] at q; cases q
theorem hol_parts {s y l m : Int} {t u : List T2} {X : List (List Int)} (h : holC s y l m t u X = true) : okT s y l m t = true ∧ okT s y l m u = true ∧ okSt s y l m X = true := by
  unfold holC at h
  rw [Bool.and_eq_true, Bool.and_eq_true] at h
  exact h
theorem len_le {t : List T2} (h : t.length ≤ 1000) : t.length ≤ 281474976710656 := by omega
theorem hol3_any {X : List (List Int)} (s y l m : Int) (p : Option Addr) (t : List T2) (cp : Nat) (p2 : Option Addr) (u : List T2) (cp2 : Nat) (p3 : Option Addr) (S : List SlI) (cp3 : Nat) (w : World) (hT : InT w p t) (hU : InT w p2 u) (hS : InS2 w p3 S) (hn : t.length ≤ 281474976710656) (hn2 : u.length ≤ 281474976710656) (hX : stX S = X) (hm : smX X) :
    Calls Try.prog 39 #[.agg #[vI s, vI y, vI l, vI m], .slice p t.length cp, .slice p2 u.length cp2, .slice p3 S.length cp3] w (HolR s y l m t u X w) := by
  subst hX; exact Holds_any s y l m p t cp p2 u cp2 p3 S cp3 w hT hU hS hn hn2 (by rw [← stX_len]; exact hm.1)
end Ca
end Go.Proofs.Ytmjnakhpekbenaa
