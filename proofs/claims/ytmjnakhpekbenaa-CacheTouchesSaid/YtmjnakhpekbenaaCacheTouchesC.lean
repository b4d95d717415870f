/- What the proof of CacheTouches stands on, part 3 of 5. -/
import Derived.BigQuiet
import Derived.BigRegion
import Derived.CallsIn
import Derived.ChangeAlike
import Derived.ChangeArms
import Derived.ChangeKeysEq
import Derived.ChangeSlices
import Derived.Deep.AppendLies
import Derived.Deep.CutRange
import Derived.Deep.DeepCutAuto
import Derived.Deep.Heap
import Derived.Deep.LoopGhost
import Derived.Deep.Matrix
import Derived.Deep.MidRow
import Derived.Deep.QuietTactic
import Derived.Deep.Slices
import Derived.Great.BuildSlice
import Derived.Great.Walk
import Derived.Ground.Names2Prog
import Derived.Ground.SlgnProg
import Derived.Ground.SlsfProg
import Derived.Handy
import Derived.KernelRfl
import Derived.Laws.AppendOwn
import Derived.Laws.AppendOwnNone
import Derived.Laws.CopyRow
import Derived.Laws.MakeOwn
import Derived.Laws.Rows
import Derived.Laws.StructEq
import Derived.Lib.QuietBelow
import Derived.Lib.SliceRun
import Derived.OpenShut
import Derived.Orders
import Derived.OrdersIn
import Derived.RangeFuncFrom
import Derived.RangeFuncLeaves
import Derived.RangeFuncWrites
import Derived.RegionTactic
import Derived.Shelf.SlSortCmp.HeapSortK
import Derived.Shelf.SlSortCmp.InsertionK
import Derived.Shelf.SlSortCmp.MedianK
import Derived.Shelf.SlSortCmp.NoneTotal
import Derived.Shelf.SlSortCmp.PartialInsertionK
import Derived.Shelf.SlSortCmp.PartitionEqualK
import Derived.Shelf.SlSortCmp.PartitionK
import Derived.Shelf.SlSortCmp.PdqK
import Derived.Shelf.SlSortCmp.PivotK
import Derived.Shelf.SlSortCmp.ReverseRangeK
import Derived.Shelf.SlSortCmp.SiftDownK
import Derived.Shelf.Slices.Cells
import Derived.Shelf.Slices.Clone
import Derived.Shelf.Slices.Delete
import Derived.Shelf.Slices.Empties
import Derived.Shelf.Slices.SearchI
import Derived.Shelf.Slices.Turned
import Derived.Shelf.SlicesE.Clone
import Derived.Shelf.SlicesE.Delete
import Derived.Shelf.SlicesQ.Reverse
import Derived.Shelf.Small.Bits
import Derived.Shelf.Small.Wraps
import Derived.Shelf.Strconv.Itoa0
import Derived.SizedLaws
import Derived.Sort.AssemblyPlain
import Derived.Still
import Derived.StillTail
import Derived.TacticsIn
import Derived.Test.YtmjnakhpekbenaaProg
import Derived.WalkKit
import Derived.WalkLawsBesides
import Derived.Test.YtmjnakhpekbenaaCacheTouchesB
set_option linter.unusedVariables false
set_option linter.unusedSimpArgs false
namespace Go.Proofs.Ytmjnakhpekbenaa
open Go.RowKit Fw
namespace Ca
/-- is the entry one of the line's set, and another line? -/
def inS (s x : Int) (p : T2) : Bool := decide (p.1 ≠ x) && decide (p.1.tmod s = x.tmod s)
/-- an entry whose age is a number -/
abbrev TV := { q : T2 // -1000 ≤ q.2 ∧ q.2 ≤ 1000 }
def osA (s x : Int) (t : List TV) : List TV := t.filter fun q => inS s x q.1
theorem os_take {s x : Int} {t : List TV} {i : Nat} {xa : TV} (h : t[i]? = some xa) : osA s x (t.take (i + 1)) = osA s x (t.take i) ++ (if inS s x xa.1 = true then [xa] else []) := by
  unfold osA
  rw [List.take_add_one, List.filter_append, h]
  simp [List.filter_cons]
/-- what the iterator reads: the boxes, the table -/
structure Rd (n0 : Nat) (W : World) (b3 b4 b5 : Nat) (p : Option Addr) (t : List T2) (cp : Nat) (s x : Int) : Prop where
  h3 : W.heap[b3]? = some (.cells #[.slice p t.length cp] 88 (0, 0))
  h4 : W.heap[b4]? = some (.cells #[vI s] 3 (0, 0))
  h5 : W.heap[b5]? = some (.cells #[vI x] 3 (0, 0))
  ht : 0 < t.length → ∃ g o, p = some ⟨g, o, none⟩ ∧ g < n0 ∧ ∀ i, i < t.length → W.rangeAt g (o + i * 2) [vI (lnT t i), vI (agT t i)]
theorem rangeAt_heap {W W' : World} {g o : Nat} {cs : List Value} (h : W'.heap[g]? = W.heap[g]?) (hr : W.rangeAt g o cs) : W'.rangeAt g o cs := fun j v hv => by
  have := hr j v hv
  unfold World.cell? at this ⊢
  rw [h]; exact this
theorem Rd.keep {n0 : Nat} {W W' : World} {b3 b4 b5 : Nat} {p : Option Addr} {t : List T2} {cp : Nat} {s x : Int} (h : Rd n0 W b3 b4 b5 p t cp s x) (hk : Fi.KpB n0 [b3, b4, b5] W W') : Rd n0 W' b3 b4 b5 p t cp s x :=
  ⟨(hk.2 b3 (by simp)).trans h.h3, (hk.2 b4 (by simp)).trans h.h4, (hk.2 b5 (by simp)).trans h.h5, fun h0 => by
    obtain ⟨g, o, hp, hg, hr⟩ := h.ht h0
    exact ⟨g, o, hp, hg, fun i hi => rangeAt_heap (hk.1 g hg) (hr i hi)⟩⟩
theorem Rd.below {n0 : Nat} {W W' : World} {b3 b4 b5 : Nat} {p : Option Addr} {t : List T2} {cp : Nat} {s x : Int} (h : Rd n0 W b3 b4 b5 p t cp s x) (hb : Below W.heap.size W W') : Rd n0 W' b3 b4 b5 p t cp s x := by
  have lt : ∀ {b o}, W.heap[b]? = some o → b < W.heap.size := fun h => (Array.getElem?_eq_some_iff.1 h).1
  exact ⟨(hb.block _ (lt h.h3)).trans h.h3, (hb.block _ (lt h.h4)).trans h.h4, (hb.block _ (lt h.h5)).trans h.h5, fun h0 => by
    obtain ⟨g, o, hp, hg, hr⟩ := h.ht h0
    exact ⟨g, o, hp, hg, fun i hi => HP.oldRange (HP.of_below (S := Tr) hb) trivial (hr i hi)⟩⟩
theorem Rd.cell {n0 : Nat} {W : World} {b3 b4 b5 : Nat} {p : Option Addr} {t : List T2} {cp : Nat} {s x : Int} (h : Rd n0 W b3 b4 b5 p t cp s x) : W.cell? ⟨b3, 0, none⟩ = some (.slice p t.length cp) ∧ W.cell? ⟨b4, 0, none⟩ = some (vI s) ∧ W.cell? ⟨b5, 0, none⟩ = some (vI x) := by
  refine ⟨?_, ?_, ?_⟩ <;> simp [World.cell?, h.h3, h.h4, h.h5]
theorem grown_hp {w w' : World} {H : List Ent} (h : HP Tr w w' H) : w.grownBy w' none := ⟨h.os, h.tape, h.output, h.size, fun k hk _ => h.keep k hk trivial⟩
/-- the table is in the world where the call began -/
theorem others_any (p : Option Addr) (t : List T2) (cp : Nat) (s x : Int) (w : World) : Calls Try.prog 97 #[.slice p t.length cp, vI s, vI x] w fun e w' => ∃ b3 b4 b5, e = .returned (.func (.func 111) #[] #[vP b3 0, vP b5 0, vP b4 0]) ∧ HP Tr w w' [.cel b3 #[.slice p t.length cp] 88, .cel b4 #[vI s] 3, .cel b5 #[vI x] 3] := by
  refine calls_of Try.func97 rfl (m := 8) rfl [(0, .slice p t.length cp), (1, vI s), (2, vI x)] (Fr_enter [.slice p t.length cp, vI s, vI x] 8 (Nat.le_of_ble_eq_true rfl)) ?_
  have hH1 : HP Tr w w [] := HP.refl w
  refine WC.seq fun K2 hK2 => ?_
  refine WC.region ?_
  refine WL.alloc (c := #[.slice p t.length cp]) (T := 88) hH1 3 rfl (by decide) rfl rfl (fun b3 => vP b3 0) (by kernel_rfl) (fun b3 w3 hw3 => ?_)
  have hH4 : HP Tr w w3 [.cel b3 #[.slice p t.length cp] 88] := hw3.2
  have nb3 := hw3.1
  clear hw3
  refine WL.alloc (c := #[vI s]) (T := 3) hH4 4 rfl (by decide) rfl rfl (fun b4 => vP b4 0) (by kernel_rfl) (fun b4 w5 hw5 => ?_)
  have hH6 : HP Tr w w5 [.cel b3 #[.slice p t.length cp] 88, .cel b4 #[vI s] 3] := hw5.2
  have nb4 := hw5.1
  clear hw5
  refine WL.alloc (c := #[vI x]) (T := 3) hH6 5 rfl (by decide) rfl rfl (fun b5 => vP b5 0) (by kernel_rfl) (fun b5 w7 hw7 => ?_)
  have hH8 : HP Tr w w7 [.cel b3 #[.slice p t.length cp] 88, .cel b4 #[vI s] 3, .cel b5 #[vI x] 3] := hw7.2
  have nb5 := hw7.1
  clear hw7
  refine WL.pure (v := .nilFunc) 6 rfl (Nat.le_of_ble_eq_true rfl) rfl rfl (by kernel_rfl) ?_
  refine WL.nil ?_
  refine WQ.then ?_
  refine hK2 _ _ _ ?_
  refine WC.seq fun K9 hK9 => ?_
  refine WC.region ?_
  refine WL.pure (v := .func (.func 111) #[] #[vP b3 0, vP b5 0, vP b4 0]) 7 rfl (Nat.le_of_ble_eq_true rfl) rfl rfl (by kernel_rfl) ?_
  refine WL.pure (v := .func (.func 111) #[] #[vP b3 0, vP b5 0, vP b4 0]) 6 rfl (Nat.le_of_ble_eq_true rfl) rfl rfl (by kernel_rfl) ?_
  refine WL.nil ?_
  refine WQ.then ?_
  refine hK9 _ _ _ ?_
  refine WC.ret ?_
  refine WQ.ret1 6 rfl rfl ?_
  exact ⟨b3, b4, b5, rfl, hH8⟩

theorem os_pre {s x : Int} {t : List TV} {i : Nat} : osA s x (t.take i) <+: osA s x t := by
  have h := List.take_append_drop i t
  refine ⟨osA s x (t.drop i), ?_⟩
  unfold osA
  rw [← List.filter_append, h]
theorem ln_ta {ta : List TV} {t : List T2} (h : t = ta.map (·.1)) {i : Nat} {xa : TV} (hx : ta[i]? = some xa) : xa.1.1 = lnT t i ∧ xa.1.2 = agT t i := by
  subst h; simp [lnT, agT, List.getD_eq_getElem?_getD, hx]
theorem yield_op {P : Program} {ρ : Operand → Value} {o : Oper} {W : World} {l : Nat} {u v : Value} {x y z : Operand} {at' : Array TypeId} {fn : FuncId} {tmps : Array Value} {assign body : Code} (hy : (Instr.yield l #[u, v]).run P W = .ok (.round l fn tmps assign body) W)
    (ho : o.op = .call { callee := .value z, args := #[x, y], argTypes := at' }) (hz : ρ z = .func (.yield l) #[] #[] := by rfl) (hx : ρ x = u := by rfl) (hy2 : ρ y = v := by rfl) : (execOp ρ o).run P W = .ok (.round l fn tmps assign body) W := by
  unfold execOp; rw [ho]
  simp [resolve, invoke, Deferred.ofValue, hz, hx, hy2, hy]
set_option maxRecDepth 20000 in
set_option maxHeartbeats 4000000 in
theorem others_stops (n0 : Nat) (wl : World) (b3 b4 b5 : Nat) (p : Option Addr) (ta : List TV) (t : List T2) (ht9 : t = ta.map (·.1)) (cp : Nat) (s x : Int) (hs0 : s ≠ 0) (hn : t.length ≤ 281474976710656) (hn0 : n0 ≤ wl.heap.size) (hRd9 : Rd n0 wl b3 b4 b5 p t cp s x) :
    SeqStopsK (Fi.fen none) 4 Try.prog 111 #[vP b3 0, vP b5 0, vP b4 0] (fun q : TV => #[vI q.1.1, vI q.1.2]) (Fi.KpB n0 [b3, b4, b5]) (fun xs => xs = osA s x ta) (fun pre => pre <+: osA s x ta) (osA s x ta).length wl := by
  intro ll J Jx W hbw hJ hJx hY h0
  have hl9 : t.length = ta.length := by rw [ht9]; simp
  have hRd0 : Rd n0 W b3 b4 b5 p t cp s x := hRd9.below hbw
  open Fi in
  have hcells := hRd0.cell
  refine callsIn_ofX Try.func111 rfl (m := 37) rfl [(0, .func (.yield ll) #[] #[]), (1, vP b3 0), (2, vP b5 0), (3, vP b4 0)] (Fr_enter [.func (.yield ll) #[] #[], vP b3 0, vP b5 0, vP b4 0] 37 (Nat.le_of_ble_eq_true rfl)) ?_
  have hH1 : HP Tr W W [] := HP.refl W
  have hH2 : HP Tr W _ [] := HP.refl W
  refine XC.seq fun K3 hK3 => ?_
  refine XC.region ?_
  refine XL.pure (v := .slice p t.length cp) 7 rfl (Nat.le_of_ble_eq_true rfl) rfl rfl (x_load rfl rfl Try.underlying88 rfl (HP.old hH2 trivial hcells.1)) ?_
  refine XL.pure (v := vI (t.length : Int)) 8 rfl (Nat.le_of_ble_eq_true rfl) rfl rfl (by kernel_rfl) ?_
  refine XL.pure (v := vI 0) 9 rfl (Nat.le_of_ble_eq_true rfl) rfl rfl (by kernel_rfl) ?_
  refine XL.nil ?_
  refine XQ.then ?_
  refine hK3 _ _ _ _ ?_
  refine XC.block ?_
  refine XC.loop (fun kk0 ll0 ww0 => ∃ (i : Nat), ll0 = [(0, .func (.yield ll) #[] #[]), (1, vP b3 0), (2, vP b5 0), (3, vP b4 0), (7, .slice p t.length cp), (8, vI (t.length : Int)), (9, vI (i : Int))] ∧ kk0 = t.length - i ∧ (i ≤ t.length) ∧ (J (osA s x (ta.take i)) ww0) ∧ (Rd n0 ww0 b3 b4 b5 p t cp s x) ∧ HP Tr ww0 ww0 []) (t.length) [(0, .func (.yield ll) #[] #[]), (1, vP b3 0), (2, vP b5 0), (3, vP b4 0), (7, .slice p t.length cp), (8, vI (t.length : Int)), (9, vI 0)] ⟨rfl, rfl, rfl, rfl, rfl, rfl, rfl, trivial⟩ ⟨0, rfl, rfl, Nat.zero_le _, h0, hRd0, HP.refl _⟩ ?_
  rintro kk l w5 ⟨i, rfl, hkk, hi, hJp, hRd, hH6⟩ K4 hK4
  have hH7 : HP Tr w5 w5 [] := HP.refl w5
  have hcells := hRd.cell
  refine XC.seq fun K8 hK8 => ?_
  refine XC.region ?_
  by_cases hlt : (i : Int) < (t.length : Int)
  ·
    refine XL.pure (v := .bool true) 10 rfl (Nat.le_of_ble_eq_true rfl) rfl rfl (x_lss rfl rfl rfl (dT (hlt))) ?_
    refine XL.nil ?_
    refine XQ.then ?_
    refine hK8 _ _ _ _ ?_
    refine XC.seq fun K9 hK9 => ?_
    refine XC.yes rfl ?_
    refine XC.skip ?_
    refine XQ.then ?_
    refine hK9 _ _ _ _ ?_
    refine XC.seq fun K10 hK10 => ?_
    refine XC.block ?_
    refine XC.seq fun K11 hK11 => ?_
    obtain ⟨g, o, rfl, hg0, hrow⟩ := hRd.ht (by omega)
    obtain ⟨xa, hxa⟩ : ∃ xa, ta[i]? = some xa := ⟨ta[i]'(by rw [← hl9]; omega), List.getElem?_eq_getElem _⟩
    obtain ⟨hxa1, hxa2⟩ := ln_ta ht9 hxa
    have htk := os_take (s := s) (x := x) hxa
    refine XC.region ?_
    refine XL.pure (v := vP g (o + i * 2)) 11 rfl (Nat.le_of_ble_eq_true rfl) rfl rfl (x_idx (i) (o + i * 2) rfl rfl rfl Try.underlying88 sz83 (by omega) (by omega) (by omega)) ?_
    refine XL.pure (v := .agg #[vI (lnT t i), vI (agT t i)]) 12 rfl (Nat.le_of_ble_eq_true rfl) rfl rfl (x_loadS (cs := [vI (lnT t i), vI (agT t i)]) rfl rfl Try.underlying83 rfl sz83 (HP.oldRange hH7 trivial (hrow i (by omega)))) ?_
    refine XL.alloc (c := #[vI 0, vI 0]) (T := 83) hH7 6 rfl (by decide) rfl rfl (fun b6 => vP b6 0) (by kernel_rfl) (fun b6 w12 hw12 => ?_)
    have hH13 : HP Tr w5 w12 [.cel b6 #[vI 0, vI 0] 83] := hw12.2
    have nb6 := hw12.1
    clear hw12
    refine XL.storeS (H2 := [.cel b6 #[vI (lnT t i), vI (agT t i)] 83]) 0 hH13 rfl rfl rfl rfl rfl rfl sz83 rfl (Nat.le_of_ble_eq_true rfl) rfl rfl ?_
    intro w14 hH15
    refine XL.nil ?_
    refine XQ.then ?_
    refine hK11 _ _ _ _ ?_
    refine XC.seq fun K16 hK16 => ?_
    by_cases hx1 : lnT t i = x
    ·
      have hin : inS s x xa.1 = false := by unfold inS; rw [hxa1]; simp [hx1]
      rw [hin] at htk
      simp only [if_true, Bool.false_eq_true, if_false, List.append_nil] at htk
      refine XC.confH (γ := Unit) [(6, vP b6 0), (12, .agg #[vI (lnT t i), vI (agT t i)]), (11, vP g (o + i * 2)), (10, .bool true), (0, .func (.yield ll) #[] #[]), (1, vP b3 0), (2, vP b5 0), (3, vP b4 0), (7, .slice (some ⟨g, o, none⟩) t.length cp), (8, vI (t.length : Int)), (9, vI (i : Int))] (fun gy => [vP b6 0, vI (lnT t i), vI x, .bool false, .bool false, undef, undef, undef, undef, undef, undef, undef, undef, .bool false, .bool false, undef, undef, undef, undef, undef, undef, undef, .bool false]) (fun gy D wz => HP Tr w5 wz [.cel b6 #[vI (lnT t i), vI (agT t i)] 83]) () (by kernel_rfl) ⟨rfl, rfl, rfl, rfl, rfl, rfl, rfl, rfl, rfl, rfl, rfl, trivial⟩ (by kernel_rfl) (by kernel_rfl) (by kernel_rfl) (fun _ => rfl) (by kernel_rfl) (HP.drew hH15) ?_ ?_
      · refine AllOkX.cons ?o0 (AllOkX.cons ?o1 (AllOkX.cons ?o2 (AllOkX.cons ?o3 (AllOkX.cons ?o4 (AllOkX.cons ?o5 (AllOkX.cons ?o6 (AllOkX.cons ?o7 (AllOkX.cons ?o8 (AllOkX.cons ?o9 (AllOkX.cons ?o10 (AllOkX.cons ?o11 (AllOkX.cons ?o12 (AllOkX.cons ?o13 (AllOkX.cons ?o14 (AllOkX.cons ?o15 (AllOkX.cons ?o16 (AllOkX.cons ?o17 (AllOkX.cons ?o18 (AllOkX.cons ?o19 (AllOkX.cons ?o20 (AllOkX.cons ?o21 (AllOkX.cons ?o22 (AllOkX.nil _)))))))))))))))))))))))
        case o0 =>
          intro gy D wz hDi hdep hclo hW
          exact .inl ⟨rfl, rfl, .inl ⟨gy, wz, fun _ _ => rfl, x_idxArr (0) (0) rfl rfl rfl Try.underlying83 sz3 (by omega) (by omega) (by omega), hW⟩⟩
        case o1 =>
          intro gy D wz hDi hdep hclo hW
          exact .inl ⟨rfl, rfl, .inl ⟨gy, wz, fun _ _ => rfl, x_load rfl rfl Try.underlying3 rfl (HP.cell hW 0 rfl rfl), hW⟩⟩
        case o2 =>
          intro gy D wz hDi hdep hclo hW
          exact .inl ⟨rfl, rfl, .inl ⟨gy, wz, fun _ _ => rfl, x_load rfl rfl Try.underlying3 rfl (HP.old hW trivial hcells.2.2), hW⟩⟩
        case o3 =>
          intro gy D wz hDi hdep hclo hW
          exact .inl ⟨rfl, rfl, .inl ⟨gy, wz, fun _ _ => rfl, x_neq rfl rfl rfl (dF (fun h => h hx1)), hW⟩⟩
        case o4 =>
          intro gy D wz hDi hdep hclo hW
          exact .inl ⟨rfl, rfl, .inl ⟨gy, wz, fun _ _ => rfl, by kernel_rfl, hW⟩⟩
        case o5 =>
          intro gy D wz hDi hdep hclo hW
          exact .inr ⟨rfl, rfl, hW⟩
        case o6 =>
          intro gy D wz hDi hdep hclo hW
          exact .inr ⟨rfl, rfl, hW⟩
        case o7 =>
          intro gy D wz hDi hdep hclo hW
          exact .inr ⟨rfl, rfl, hW⟩
        case o8 =>
          intro gy D wz hDi hdep hclo hW
          exact .inr ⟨rfl, rfl, hW⟩
        case o9 =>
          intro gy D wz hDi hdep hclo hW
          exact .inr ⟨rfl, rfl, hW⟩
        case o10 =>
          intro gy D wz hDi hdep hclo hW
          exact .inr ⟨rfl, rfl, hW⟩
        case o11 =>
          intro gy D wz hDi hdep hclo hW
          exact .inr ⟨rfl, rfl, hW⟩
        case o12 =>
          intro gy D wz hDi hdep hclo hW
          exact .inr ⟨rfl, rfl, hW⟩
        case o13 =>
          intro gy D wz hDi hdep hclo hW
          exact .inl ⟨rfl, rfl, .inl ⟨gy, wz, fun _ _ => rfl, by kernel_rfl, hW⟩⟩
        case o14 =>
          intro gy D wz hDi hdep hclo hW
          exact .inl ⟨rfl, rfl, .inl ⟨gy, wz, fun _ _ => rfl, by kernel_rfl, hW⟩⟩
        case o15 =>
          intro gy D wz hDi hdep hclo hW
          exact .inr ⟨rfl, rfl, hW⟩
        case o16 =>
          intro gy D wz hDi hdep hclo hW
          exact .inr ⟨rfl, rfl, hW⟩
        case o17 =>
          intro gy D wz hDi hdep hclo hW
          exact .inr ⟨rfl, rfl, hW⟩
        case o18 =>
          intro gy D wz hDi hdep hclo hW
          exact .inr ⟨rfl, rfl, hW⟩
        case o19 =>
          intro gy D wz hDi hdep hclo hW
          exact .inr ⟨rfl, rfl, hW⟩
        case o20 =>
          intro gy D wz hDi hdep hclo hW
          exact .inr ⟨rfl, rfl, hW⟩
        case o21 =>
          intro gy D wz hDi hdep hclo hW
          exact .inr ⟨rfl, rfl, hW⟩
        case o22 =>
          intro gy D wz hDi hdep hclo hW
          exact .inl ⟨rfl, rfl, .inl ⟨gy, wz, fun _ _ => rfl, by kernel_rfl, hW⟩⟩
      rintro gy D w17 hall hH18
      clear hall
      refine XQ.sub (l' := [(0, .func (.yield ll) #[] #[]), (1, vP b3 0), (2, vP b5 0), (3, vP b4 0), (6, vP b6 0), (7, .slice (some ⟨g, o, none⟩) t.length cp), (8, vI (t.length : Int)), (9, vI (i : Int)), (10, .bool true), (35, .bool false)]) ⟨rfl, rfl, rfl, rfl, rfl, rfl, rfl, rfl, rfl, rfl, trivial⟩ ?_
      refine XQ.then ?_
      refine hK16 _ _ _ _ ?_
      refine XC.no rfl ?_
      refine XC.skip ?_
      refine XQ.inNormal ?_
      refine XQ.then ?_
      refine hK10 _ _ _ _ ?_
      refine XC.region ?_
      refine XL.pure (v := vI ((i + 1 : Nat) : Int)) 36 rfl (Nat.le_of_ble_eq_true rfl) rfl rfl (x_add (Z := ((i + 1 : Nat) : Int)) rfl rfl rfl (by omega) (by omega) (by omega)) ?_
      refine XL.pure (v := vI ((i + 1 : Nat) : Int)) 9 rfl (Nat.le_of_ble_eq_true rfl) rfl rfl (by kernel_rfl) ?_
      refine XL.nil ?_
      refine XQ.sub (l' := [(0, .func (.yield ll) #[] #[]), (1, vP b3 0), (2, vP b5 0), (3, vP b4 0), (7, .slice (some ⟨g, o, none⟩) t.length cp), (8, vI (t.length : Int)), (9, vI ((i + 1 : Nat) : Int))]) ⟨rfl, rfl, rfl, rfl, rfl, rfl, rfl, trivial⟩ ?_
      refine XQ.then (hK4 _ _ _ (by omega) ⟨i + 1, rfl, rfl, by omega, by rw [htk]; exact hJ _ _ _ none hJp (grown_hp hH18) (fun r e => by cases e), hRd.below (HP.below hH18), HP.refl _⟩)
    ·
      by_cases hx2 : (lnT t i).tmod s = x.tmod s
      ·
        have hin : inS s x xa.1 = true := by unfold inS; rw [hxa1]; simp [hx1, hx2]
        rw [hin] at htk
        simp only [if_true, Bool.false_eq_true, if_false, List.append_nil] at htk
        have hlen : (osA s x (ta.take i)).length < (osA s x ta).length := by have q9 := (os_pre (s := s) (x := x) (t := ta) (i := i + 1)).length_le; rw [htk] at q9; simp at q9; omega
        refine XC.confH (γ := Bool) [(6, vP b6 0), (12, .agg #[vI (lnT t i), vI (agT t i)]), (11, vP g (o + i * 2)), (10, .bool true), (0, .func (.yield ll) #[] #[]), (1, vP b3 0), (2, vP b5 0), (3, vP b4 0), (7, .slice (some ⟨g, o, none⟩) t.length cp), (8, vI (t.length : Int)), (9, vI (i : Int))] (fun gy => [vP b6 0, vI (lnT t i), vI x, .bool true, .bool true, vP b6 0, vI (lnT t i), vI s, vI ((lnT t i).tmod s), vI x, vI s, vI ((x).tmod s), .bool true, .bool true, .bool true, .func (.yield ll) #[] #[], vP b6 0, vI (lnT t i), vP b6 1, vI (agT t i), .bool gy, .bool (!gy), .bool (!gy)]) (fun gy D wz => (D 20 = false → (HP Tr w5 wz [.cel b6 #[vI (lnT t i), vI (agT t i)] 83] ∧ J (osA s x (ta.take i)) wz)) ∧ (D 20 = true → ((gy = true ∧ J (osA s x (ta.take i) ++ [xa]) wz ∧ Rd n0 wz b3 b4 b5 (some ⟨g, o, none⟩) t cp s x) ∨ (gy = false ∧ Jx (osA s x (ta.take i) ++ [xa]) wz)))) false (by kernel_rfl) ⟨rfl, rfl, rfl, rfl, rfl, rfl, rfl, rfl, rfl, rfl, rfl, trivial⟩ (by kernel_rfl) (by kernel_rfl) (by kernel_rfl) (fun _ => rfl) (by kernel_rfl) ⟨fun _ => ⟨HP.drew hH15, hJ _ _ _ none hJp (grown_hp (HP.drew hH15)) (fun r e => by cases e)⟩, (fun h => by cases h)⟩ ?_ ?_
        · refine AllOkX.cons ?o0 (AllOkX.cons ?o1 (AllOkX.cons ?o2 (AllOkX.cons ?o3 (AllOkX.cons ?o4 (AllOkX.cons ?o5 (AllOkX.cons ?o6 (AllOkX.cons ?o7 (AllOkX.cons ?o8 (AllOkX.cons ?o9 (AllOkX.cons ?o10 (AllOkX.cons ?o11 (AllOkX.cons ?o12 (AllOkX.cons ?o13 (AllOkX.cons ?o14 (AllOkX.cons ?o15 (AllOkX.cons ?o16 (AllOkX.cons ?o17 (AllOkX.cons ?o18 (AllOkX.cons ?o19 (AllOkX.consR ?o20 (AllOkX.cons ?o21 (AllOkX.cons ?o22 (AllOkX.nil _)))))))))))))))))))))))
          case o0 =>
            intro gy D wz hDi hdep hclo hWI
            have d1 : D 1 = false := by
              cases h : D 1 with
              | false => rfl
              | true => exact absurd (hclo 1 _ rfl h ⟨0, .data⟩ (by simp) rfl) (by rw [hDi]; exact Bool.false_ne_true)
            have d3 : D 3 = false := by
              cases h : D 3 with
              | false => rfl
              | true => exact absurd (hclo 3 _ rfl h ⟨1, .data⟩ (by simp) rfl) (by rw [d1]; exact Bool.false_ne_true)
            have d4 : D 4 = false := by
              cases h : D 4 with
              | false => rfl
              | true => exact absurd (hclo 4 _ rfl h ⟨3, .data⟩ (by simp) rfl) (by rw [d3]; exact Bool.false_ne_true)
            have d14 : D 14 = false := by
              cases h : D 14 with
              | false => rfl
              | true => exact absurd (hclo 14 _ rfl h ⟨4, .chain⟩ (by simp) rfl) (by rw [d4]; exact Bool.false_ne_true)
            have d20 : D 20 = false := by
              cases h : D 20 with
              | false => rfl
              | true => exact absurd (hclo 20 _ rfl h ⟨14, .chain⟩ (by simp) rfl) (by rw [d14]; exact Bool.false_ne_true)
            obtain ⟨hW0, hJ9⟩ := hWI.1 d20
            have hW := hW0
            exact .inl ⟨rfl, rfl, .inl ⟨gy, wz, fun _ _ => rfl, x_idxArr (0) (0) rfl rfl rfl Try.underlying83 sz3 (by omega) (by omega) (by omega), hWI⟩⟩
          case o1 =>
            intro gy D wz hDi hdep hclo hWI
            have d3 : D 3 = false := by
              cases h : D 3 with
              | false => rfl
              | true => exact absurd (hclo 3 _ rfl h ⟨1, .data⟩ (by simp) rfl) (by rw [hDi]; exact Bool.false_ne_true)
            have d4 : D 4 = false := by
              cases h : D 4 with
              | false => rfl
              | true => exact absurd (hclo 4 _ rfl h ⟨3, .data⟩ (by simp) rfl) (by rw [d3]; exact Bool.false_ne_true)
            have d14 : D 14 = false := by
              cases h : D 14 with
              | false => rfl
              | true => exact absurd (hclo 14 _ rfl h ⟨4, .chain⟩ (by simp) rfl) (by rw [d4]; exact Bool.false_ne_true)
            have d20 : D 20 = false := by
              cases h : D 20 with
              | false => rfl
              | true => exact absurd (hclo 20 _ rfl h ⟨14, .chain⟩ (by simp) rfl) (by rw [d14]; exact Bool.false_ne_true)
            obtain ⟨hW0, hJ9⟩ := hWI.1 d20
            have hW := hW0
            exact .inl ⟨rfl, rfl, .inl ⟨gy, wz, fun _ _ => rfl, x_load rfl rfl Try.underlying3 rfl (HP.cell hW 0 rfl rfl), hWI⟩⟩
          case o2 =>
            intro gy D wz hDi hdep hclo hWI
            have d3 : D 3 = false := by
              cases h : D 3 with
              | false => rfl
              | true => exact absurd (hclo 3 _ rfl h ⟨2, .data⟩ (by simp) rfl) (by rw [hDi]; exact Bool.false_ne_true)
            have d4 : D 4 = false := by
              cases h : D 4 with
              | false => rfl
              | true => exact absurd (hclo 4 _ rfl h ⟨3, .data⟩ (by simp) rfl) (by rw [d3]; exact Bool.false_ne_true)
            have d14 : D 14 = false := by
              cases h : D 14 with
              | false => rfl
              | true => exact absurd (hclo 14 _ rfl h ⟨4, .chain⟩ (by simp) rfl) (by rw [d4]; exact Bool.false_ne_true)
            have d20 : D 20 = false := by
              cases h : D 20 with
              | false => rfl
              | true => exact absurd (hclo 20 _ rfl h ⟨14, .chain⟩ (by simp) rfl) (by rw [d14]; exact Bool.false_ne_true)
            obtain ⟨hW0, hJ9⟩ := hWI.1 d20
            have hW := hW0
            exact .inl ⟨rfl, rfl, .inl ⟨gy, wz, fun _ _ => rfl, x_load rfl rfl Try.underlying3 rfl (HP.old hW trivial hcells.2.2), hWI⟩⟩
          case o3 =>
            intro gy D wz hDi hdep hclo hWI
            have d4 : D 4 = false := by
              cases h : D 4 with
              | false => rfl
              | true => exact absurd (hclo 4 _ rfl h ⟨3, .data⟩ (by simp) rfl) (by rw [hDi]; exact Bool.false_ne_true)
            have d14 : D 14 = false := by
              cases h : D 14 with
              | false => rfl
              | true => exact absurd (hclo 14 _ rfl h ⟨4, .chain⟩ (by simp) rfl) (by rw [d4]; exact Bool.false_ne_true)
            have d20 : D 20 = false := by
              cases h : D 20 with
              | false => rfl
              | true => exact absurd (hclo 20 _ rfl h ⟨14, .chain⟩ (by simp) rfl) (by rw [d14]; exact Bool.false_ne_true)
            obtain ⟨hW0, hJ9⟩ := hWI.1 d20
            have hW := hW0
            exact .inl ⟨rfl, rfl, .inl ⟨gy, wz, fun _ _ => rfl, x_neq rfl rfl rfl (dT (hx1)), hWI⟩⟩
          case o4 =>
            intro gy D wz hDi hdep hclo hWI
            have d14 : D 14 = false := by
              cases h : D 14 with
              | false => rfl
              | true => exact absurd (hclo 14 _ rfl h ⟨4, .chain⟩ (by simp) rfl) (by rw [hDi]; exact Bool.false_ne_true)
            have d20 : D 20 = false := by
              cases h : D 20 with
              | false => rfl
              | true => exact absurd (hclo 20 _ rfl h ⟨14, .chain⟩ (by simp) rfl) (by rw [d14]; exact Bool.false_ne_true)
            obtain ⟨hW0, hJ9⟩ := hWI.1 d20
            have hW := hW0
            exact .inl ⟨rfl, rfl, .inl ⟨gy, wz, fun _ _ => rfl, by kernel_rfl, hWI⟩⟩
          case o5 =>
            intro gy D wz hDi hdep hclo hWI
            have d6 : D 6 = false := by
              cases h : D 6 with
              | false => rfl
              | true => exact absurd (hclo 6 _ rfl h ⟨5, .data⟩ (by simp) rfl) (by rw [hDi]; exact Bool.false_ne_true)
            have d8 : D 8 = false := by
              cases h : D 8 with
              | false => rfl
              | true => exact absurd (hclo 8 _ rfl h ⟨6, .data⟩ (by simp) rfl) (by rw [d6]; exact Bool.false_ne_true)
            have d12 : D 12 = false := by
              cases h : D 12 with
              | false => rfl
              | true => exact absurd (hclo 12 _ rfl h ⟨8, .data⟩ (by simp) rfl) (by rw [d8]; exact Bool.false_ne_true)
            have d13 : D 13 = false := by
              cases h : D 13 with
              | false => rfl
              | true => exact absurd (hclo 13 _ rfl h ⟨12, .data⟩ (by simp) rfl) (by rw [d12]; exact Bool.false_ne_true)
            have d14 : D 14 = false := by
              cases h : D 14 with
              | false => rfl
              | true => exact absurd (hclo 14 _ rfl h ⟨13, .data⟩ (by simp) rfl) (by rw [d13]; exact Bool.false_ne_true)
            have d20 : D 20 = false := by
              cases h : D 20 with
              | false => rfl
              | true => exact absurd (hclo 20 _ rfl h ⟨14, .chain⟩ (by simp) rfl) (by rw [d14]; exact Bool.false_ne_true)
            obtain ⟨hW0, hJ9⟩ := hWI.1 d20
            have hW := hW0
            exact .inl ⟨rfl, rfl, .inl ⟨gy, wz, fun _ _ => rfl, x_idxArr (0) (0) rfl rfl rfl Try.underlying83 sz3 (by omega) (by omega) (by omega), hWI⟩⟩
          case o6 =>
            intro gy D wz hDi hdep hclo hWI
            have d8 : D 8 = false := by
              cases h : D 8 with
              | false => rfl
              | true => exact absurd (hclo 8 _ rfl h ⟨6, .data⟩ (by simp) rfl) (by rw [hDi]; exact Bool.false_ne_true)
            have d12 : D 12 = false := by
              cases h : D 12 with
              | false => rfl
              | true => exact absurd (hclo 12 _ rfl h ⟨8, .data⟩ (by simp) rfl) (by rw [d8]; exact Bool.false_ne_true)
            have d13 : D 13 = false := by
              cases h : D 13 with
              | false => rfl
              | true => exact absurd (hclo 13 _ rfl h ⟨12, .data⟩ (by simp) rfl) (by rw [d12]; exact Bool.false_ne_true)
            have d14 : D 14 = false := by
              cases h : D 14 with
              | false => rfl
              | true => exact absurd (hclo 14 _ rfl h ⟨13, .data⟩ (by simp) rfl) (by rw [d13]; exact Bool.false_ne_true)
            have d20 : D 20 = false := by
              cases h : D 20 with
              | false => rfl
              | true => exact absurd (hclo 20 _ rfl h ⟨14, .chain⟩ (by simp) rfl) (by rw [d14]; exact Bool.false_ne_true)
            obtain ⟨hW0, hJ9⟩ := hWI.1 d20
            have hW := hW0
            exact .inl ⟨rfl, rfl, .inl ⟨gy, wz, fun _ _ => rfl, x_load rfl rfl Try.underlying3 rfl (HP.cell hW 0 rfl rfl), hWI⟩⟩
          case o7 =>
            intro gy D wz hDi hdep hclo hWI
            have d8 : D 8 = false := by
              cases h : D 8 with
              | false => rfl
              | true => exact absurd (hclo 8 _ rfl h ⟨7, .data⟩ (by simp) rfl) (by rw [hDi]; exact Bool.false_ne_true)
            have d12 : D 12 = false := by
              cases h : D 12 with
              | false => rfl
              | true => exact absurd (hclo 12 _ rfl h ⟨8, .data⟩ (by simp) rfl) (by rw [d8]; exact Bool.false_ne_true)
            have d13 : D 13 = false := by
              cases h : D 13 with
              | false => rfl
              | true => exact absurd (hclo 13 _ rfl h ⟨12, .data⟩ (by simp) rfl) (by rw [d12]; exact Bool.false_ne_true)
            have d14 : D 14 = false := by
              cases h : D 14 with
              | false => rfl
              | true => exact absurd (hclo 14 _ rfl h ⟨13, .data⟩ (by simp) rfl) (by rw [d13]; exact Bool.false_ne_true)
            have d20 : D 20 = false := by
              cases h : D 20 with
              | false => rfl
              | true => exact absurd (hclo 20 _ rfl h ⟨14, .chain⟩ (by simp) rfl) (by rw [d14]; exact Bool.false_ne_true)
            obtain ⟨hW0, hJ9⟩ := hWI.1 d20
            have hW := hW0
            exact .inl ⟨rfl, rfl, .inl ⟨gy, wz, fun _ _ => rfl, x_load rfl rfl Try.underlying3 rfl (HP.old hW trivial hcells.2.1), hWI⟩⟩
          case o8 =>
            intro gy D wz hDi hdep hclo hWI
            have d12 : D 12 = false := by
              cases h : D 12 with
              | false => rfl
              | true => exact absurd (hclo 12 _ rfl h ⟨8, .data⟩ (by simp) rfl) (by rw [hDi]; exact Bool.false_ne_true)
            have d13 : D 13 = false := by
              cases h : D 13 with
              | false => rfl
              | true => exact absurd (hclo 13 _ rfl h ⟨12, .data⟩ (by simp) rfl) (by rw [d12]; exact Bool.false_ne_true)
            have d14 : D 14 = false := by
              cases h : D 14 with
              | false => rfl
              | true => exact absurd (hclo 14 _ rfl h ⟨13, .data⟩ (by simp) rfl) (by rw [d13]; exact Bool.false_ne_true)
            have d20 : D 20 = false := by
              cases h : D 20 with
              | false => rfl
              | true => exact absurd (hclo 20 _ rfl h ⟨14, .chain⟩ (by simp) rfl) (by rw [d14]; exact Bool.false_ne_true)
            obtain ⟨hW0, hJ9⟩ := hWI.1 d20
            have hW := hW0
            exact .inl ⟨rfl, rfl, .inl ⟨gy, wz, fun _ _ => rfl, x_rem rfl rfl rfl hs0 rfl, hWI⟩⟩
          case o9 =>
            intro gy D wz hDi hdep hclo hWI
            have d11 : D 11 = false := by
              cases h : D 11 with
              | false => rfl
              | true => exact absurd (hclo 11 _ rfl h ⟨9, .data⟩ (by simp) rfl) (by rw [hDi]; exact Bool.false_ne_true)
            have d12 : D 12 = false := by
              cases h : D 12 with
              | false => rfl
              | true => exact absurd (hclo 12 _ rfl h ⟨11, .data⟩ (by simp) rfl) (by rw [d11]; exact Bool.false_ne_true)
            have d13 : D 13 = false := by
              cases h : D 13 with
              | false => rfl
              | true => exact absurd (hclo 13 _ rfl h ⟨12, .data⟩ (by simp) rfl) (by rw [d12]; exact Bool.false_ne_true)
            have d14 : D 14 = false := by
              cases h : D 14 with
              | false => rfl
              | true => exact absurd (hclo 14 _ rfl h ⟨13, .data⟩ (by simp) rfl) (by rw [d13]; exact Bool.false_ne_true)
            have d20 : D 20 = false := by
              cases h : D 20 with
              | false => rfl
              | true => exact absurd (hclo 20 _ rfl h ⟨14, .chain⟩ (by simp) rfl) (by rw [d14]; exact Bool.false_ne_true)
            obtain ⟨hW0, hJ9⟩ := hWI.1 d20
            have hW := hW0
            exact .inl ⟨rfl, rfl, .inl ⟨gy, wz, fun _ _ => rfl, x_load rfl rfl Try.underlying3 rfl (HP.old hW trivial hcells.2.2), hWI⟩⟩
          case o10 =>
            intro gy D wz hDi hdep hclo hWI
            have d11 : D 11 = false := by
              cases h : D 11 with
              | false => rfl
              | true => exact absurd (hclo 11 _ rfl h ⟨10, .data⟩ (by simp) rfl) (by rw [hDi]; exact Bool.false_ne_true)
            have d12 : D 12 = false := by
              cases h : D 12 with
              | false => rfl
              | true => exact absurd (hclo 12 _ rfl h ⟨11, .data⟩ (by simp) rfl) (by rw [d11]; exact Bool.false_ne_true)
            have d13 : D 13 = false := by
              cases h : D 13 with
              | false => rfl
              | true => exact absurd (hclo 13 _ rfl h ⟨12, .data⟩ (by simp) rfl) (by rw [d12]; exact Bool.false_ne_true)
            have d14 : D 14 = false := by
              cases h : D 14 with
              | false => rfl
              | true => exact absurd (hclo 14 _ rfl h ⟨13, .data⟩ (by simp) rfl) (by rw [d13]; exact Bool.false_ne_true)
            have d20 : D 20 = false := by
              cases h : D 20 with
              | false => rfl
              | true => exact absurd (hclo 20 _ rfl h ⟨14, .chain⟩ (by simp) rfl) (by rw [d14]; exact Bool.false_ne_true)
            obtain ⟨hW0, hJ9⟩ := hWI.1 d20
            have hW := hW0
            exact .inl ⟨rfl, rfl, .inl ⟨gy, wz, fun _ _ => rfl, x_load rfl rfl Try.underlying3 rfl (HP.old hW trivial hcells.2.1), hWI⟩⟩
          case o11 =>
            intro gy D wz hDi hdep hclo hWI
            have d12 : D 12 = false := by
              cases h : D 12 with
              | false => rfl
              | true => exact absurd (hclo 12 _ rfl h ⟨11, .data⟩ (by simp) rfl) (by rw [hDi]; exact Bool.false_ne_true)
            have d13 : D 13 = false := by
              cases h : D 13 with
              | false => rfl
              | true => exact absurd (hclo 13 _ rfl h ⟨12, .data⟩ (by simp) rfl) (by rw [d12]; exact Bool.false_ne_true)
            have d14 : D 14 = false := by
              cases h : D 14 with
              | false => rfl
              | true => exact absurd (hclo 14 _ rfl h ⟨13, .data⟩ (by simp) rfl) (by rw [d13]; exact Bool.false_ne_true)
            have d20 : D 20 = false := by
              cases h : D 20 with
              | false => rfl
              | true => exact absurd (hclo 20 _ rfl h ⟨14, .chain⟩ (by simp) rfl) (by rw [d14]; exact Bool.false_ne_true)
            obtain ⟨hW0, hJ9⟩ := hWI.1 d20
            have hW := hW0
            exact .inl ⟨rfl, rfl, .inl ⟨gy, wz, fun _ _ => rfl, x_rem rfl rfl rfl hs0 rfl, hWI⟩⟩
          case o12 =>
            intro gy D wz hDi hdep hclo hWI
            have d13 : D 13 = false := by
              cases h : D 13 with
              | false => rfl
              | true => exact absurd (hclo 13 _ rfl h ⟨12, .data⟩ (by simp) rfl) (by rw [hDi]; exact Bool.false_ne_true)
            have d14 : D 14 = false := by
              cases h : D 14 with
              | false => rfl
              | true => exact absurd (hclo 14 _ rfl h ⟨13, .data⟩ (by simp) rfl) (by rw [d13]; exact Bool.false_ne_true)
            have d20 : D 20 = false := by
              cases h : D 20 with
              | false => rfl
              | true => exact absurd (hclo 20 _ rfl h ⟨14, .chain⟩ (by simp) rfl) (by rw [d14]; exact Bool.false_ne_true)
            obtain ⟨hW0, hJ9⟩ := hWI.1 d20
            have hW := hW0
            exact .inl ⟨rfl, rfl, .inl ⟨gy, wz, fun _ _ => rfl, x_eql rfl rfl rfl (dT (hx2)), hWI⟩⟩
          case o13 =>
            intro gy D wz hDi hdep hclo hWI
            have d14 : D 14 = false := by
              cases h : D 14 with
              | false => rfl
              | true => exact absurd (hclo 14 _ rfl h ⟨13, .data⟩ (by simp) rfl) (by rw [hDi]; exact Bool.false_ne_true)
            have d20 : D 20 = false := by
              cases h : D 20 with
              | false => rfl
              | true => exact absurd (hclo 20 _ rfl h ⟨14, .chain⟩ (by simp) rfl) (by rw [d14]; exact Bool.false_ne_true)
            obtain ⟨hW0, hJ9⟩ := hWI.1 d20
            have hW := hW0
            exact .inl ⟨rfl, rfl, .inl ⟨gy, wz, fun _ _ => rfl, by kernel_rfl, hWI⟩⟩
          case o14 =>
            intro gy D wz hDi hdep hclo hWI
            have d20 : D 20 = false := by
              cases h : D 20 with
              | false => rfl
              | true => exact absurd (hclo 20 _ rfl h ⟨14, .chain⟩ (by simp) rfl) (by rw [hDi]; exact Bool.false_ne_true)
            obtain ⟨hW0, hJ9⟩ := hWI.1 d20
            have hW := hW0
            exact .inl ⟨rfl, rfl, .inl ⟨gy, wz, fun _ _ => rfl, by kernel_rfl, hWI⟩⟩
          case o15 =>
            intro gy D wz hDi hdep hclo hWI
            have d20 : D 20 = false := by
              cases h : D 20 with
              | false => rfl
              | true => exact absurd (hclo 20 _ rfl h ⟨15, .data⟩ (by simp) rfl) (by rw [hDi]; exact Bool.false_ne_true)
            obtain ⟨hW0, hJ9⟩ := hWI.1 d20
            have hW := hW0
            exact .inl ⟨rfl, rfl, .inl ⟨gy, wz, fun _ _ => rfl, by kernel_rfl, hWI⟩⟩
          case o16 =>
            intro gy D wz hDi hdep hclo hWI
            have d17 : D 17 = false := by
              cases h : D 17 with
              | false => rfl
              | true => exact absurd (hclo 17 _ rfl h ⟨16, .data⟩ (by simp) rfl) (by rw [hDi]; exact Bool.false_ne_true)
            have d20 : D 20 = false := by
              cases h : D 20 with
              | false => rfl
              | true => exact absurd (hclo 20 _ rfl h ⟨17, .data⟩ (by simp) rfl) (by rw [d17]; exact Bool.false_ne_true)
            obtain ⟨hW0, hJ9⟩ := hWI.1 d20
            have hW := hW0
            exact .inl ⟨rfl, rfl, .inl ⟨gy, wz, fun _ _ => rfl, x_idxArr (0) (0) rfl rfl rfl Try.underlying83 sz3 (by omega) (by omega) (by omega), hWI⟩⟩
          case o17 =>
            intro gy D wz hDi hdep hclo hWI
            have d20 : D 20 = false := by
              cases h : D 20 with
              | false => rfl
              | true => exact absurd (hclo 20 _ rfl h ⟨17, .data⟩ (by simp) rfl) (by rw [hDi]; exact Bool.false_ne_true)
            obtain ⟨hW0, hJ9⟩ := hWI.1 d20
            have hW := hW0
            exact .inl ⟨rfl, rfl, .inl ⟨gy, wz, fun _ _ => rfl, x_load rfl rfl Try.underlying3 rfl (HP.cell hW 0 rfl rfl), hWI⟩⟩
          case o18 =>
            intro gy D wz hDi hdep hclo hWI
            have d19 : D 19 = false := by
              cases h : D 19 with
              | false => rfl
              | true => exact absurd (hclo 19 _ rfl h ⟨18, .data⟩ (by simp) rfl) (by rw [hDi]; exact Bool.false_ne_true)
            have d20 : D 20 = false := by
              cases h : D 20 with
              | false => rfl
              | true => exact absurd (hclo 20 _ rfl h ⟨19, .data⟩ (by simp) rfl) (by rw [d19]; exact Bool.false_ne_true)
            obtain ⟨hW0, hJ9⟩ := hWI.1 d20
            have hW := hW0
            exact .inl ⟨rfl, rfl, .inl ⟨gy, wz, fun _ _ => rfl, x_idxArr (1) (1) rfl rfl rfl Try.underlying83 sz3 (by omega) (by omega) (by omega), hWI⟩⟩
          case o19 =>
            intro gy D wz hDi hdep hclo hWI
            have d20 : D 20 = false := by
              cases h : D 20 with
              | false => rfl
              | true => exact absurd (hclo 20 _ rfl h ⟨19, .data⟩ (by simp) rfl) (by rw [hDi]; exact Bool.false_ne_true)
            obtain ⟨hW0, hJ9⟩ := hWI.1 d20
            have hW := hW0
            exact .inl ⟨rfl, rfl, .inl ⟨gy, wz, fun _ _ => rfl, x_load rfl rfl Try.underlying3 rfl (HP.cell hW 0 rfl rfl), hWI⟩⟩
          case o20 =>
            intro gy D wz hDi hdep hclo hWI
            obtain ⟨hW, hJ9⟩ := hWI.1 hDi
            have hYx := hY _ xa wz hJ9 hlen
            simp only [hxa1, hxa2] at hYx
            obtain ⟨fn, tmps, assign, body, hy, hR⟩ := hYx
            have hrd9 := hRd.below (HP.below hW)
            refine ⟨rfl, rfl, ll, fn, tmps, assign, body, yield_op hy rfl, hR.mono ?_⟩
            have d21 : D 21 = false := by
              cases h : D 21 with
              | false => rfl
              | true => exact absurd (hclo 21 _ rfl h ⟨20, .data⟩ (by simp) rfl) (by rw [hDi]; exact Bool.false_ne_true)
            have d21 : D 21 = false := by
              cases h : D 21 with
              | false => rfl
              | true => exact absurd (hclo 21 _ rfl h ⟨20, .data⟩ (by simp) rfl) (by rw [hDi]; exact Bool.false_ne_true)
            have d22 : D 22 = false := by
              cases h : D 22 with
              | false => rfl
              | true => exact absurd (hclo 22 _ rfl h ⟨21, .data⟩ (by simp) rfl) (by rw [d21]; exact Bool.false_ne_true)
            rintro e W' (⟨rfl, hJ', hk⟩ | ⟨rfl, hJx'⟩)
            · refine ⟨true, fun j hj => ?_, rfl, ⟨(fun h => Bool.noConfusion (show true = false from h)), fun _ => .inl ⟨rfl, hJ', hrd9.keep hk⟩⟩⟩
              match j, hj with
              | 0, hj => rfl
              | 1, hj => rfl
              | 2, hj => rfl
              | 3, hj => rfl
              | 4, hj => rfl
              | 5, hj => rfl
              | 6, hj => rfl
              | 7, hj => rfl
              | 8, hj => rfl
              | 9, hj => rfl
              | 10, hj => rfl
              | 11, hj => rfl
              | 12, hj => rfl
              | 13, hj => rfl
              | 14, hj => rfl
              | 15, hj => rfl
              | 16, hj => rfl
              | 17, hj => rfl
              | 18, hj => rfl
              | 19, hj => rfl
              | 20, hj => rw [hDi] at hj; cases hj
              | 21, hj => exact absurd hj (by rw [d21]; exact Bool.false_ne_true)
              | 22, hj => exact absurd hj (by rw [d22]; exact Bool.false_ne_true)
              | j + 23, _ => rfl
            · refine ⟨false, fun j hj => ?_, rfl, ⟨(fun h => Bool.noConfusion (show true = false from h)), fun _ => .inr ⟨rfl, hJx'⟩⟩⟩
              match j, hj with
              | 0, hj => rfl
              | 1, hj => rfl
              | 2, hj => rfl
              | 3, hj => rfl
              | 4, hj => rfl
              | 5, hj => rfl
              | 6, hj => rfl
              | 7, hj => rfl
              | 8, hj => rfl
              | 9, hj => rfl
              | 10, hj => rfl
              | 11, hj => rfl
              | 12, hj => rfl
              | 13, hj => rfl
              | 14, hj => rfl
              | 15, hj => rfl
              | 16, hj => rfl
              | 17, hj => rfl
              | 18, hj => rfl
              | 19, hj => rfl
              | 20, hj => rw [hDi] at hj; cases hj
              | 21, hj => exact absurd hj (by rw [d21]; exact Bool.false_ne_true)
              | 22, hj => exact absurd hj (by rw [d22]; exact Bool.false_ne_true)
              | j + 23, _ => rfl
          case o21 =>
            intro gy D wz hDi hdep hclo hWI
            exact .inl ⟨rfl, rfl, .inl ⟨gy, wz, fun _ _ => rfl, by kernel_rfl, hWI⟩⟩
          case o22 =>
            intro gy D wz hDi hdep hclo hWI
            exact .inl ⟨rfl, rfl, .inl ⟨gy, wz, fun _ _ => rfl, by kernel_rfl, hWI⟩⟩
        rintro gy D w19 hall hWI
        have hpost := hWI.2 (hall 20 (by kernel_rfl))
        clear hall hWI
        skip
        refine XQ.sub (l' := [(0, .func (.yield ll) #[] #[]), (1, vP b3 0), (2, vP b5 0), (3, vP b4 0), (6, vP b6 0), (7, .slice (some ⟨g, o, none⟩) t.length cp), (8, vI (t.length : Int)), (9, vI (i : Int)), (10, .bool true), (35, .bool (!gy))]) ⟨rfl, rfl, rfl, rfl, rfl, rfl, rfl, rfl, rfl, rfl, trivial⟩ ?_
        rcases hpost with ⟨rfl, hJ', hRd'⟩ | ⟨rfl, hJx'⟩
        ·
          refine XQ.then ?_
          refine hK16 _ _ _ _ ?_
          refine XC.no rfl ?_
          refine XC.skip ?_
          refine XQ.inNormal ?_
          refine XQ.then ?_
          refine hK10 _ _ _ _ ?_
          refine XC.region ?_
          refine XL.pure (v := vI ((i + 1 : Nat) : Int)) 36 rfl (Nat.le_of_ble_eq_true rfl) rfl rfl (x_add (Z := ((i + 1 : Nat) : Int)) rfl rfl rfl (by omega) (by omega) (by omega)) ?_
          refine XL.pure (v := vI ((i + 1 : Nat) : Int)) 9 rfl (Nat.le_of_ble_eq_true rfl) rfl rfl (by kernel_rfl) ?_
          refine XL.nil ?_
          refine XQ.sub (l' := [(0, .func (.yield ll) #[] #[]), (1, vP b3 0), (2, vP b5 0), (3, vP b4 0), (7, .slice (some ⟨g, o, none⟩) t.length cp), (8, vI (t.length : Int)), (9, vI ((i + 1 : Nat) : Int))]) ⟨rfl, rfl, rfl, rfl, rfl, rfl, rfl, trivial⟩ ?_
          refine XQ.then (hK4 _ _ _ (by omega) ⟨i + 1, rfl, rfl, by omega, by rw [htk]; exact hJ', hRd', HP.refl _⟩)
        ·
          refine XQ.then ?_
          refine hK16 _ _ _ _ ?_
          refine XC.yes rfl ?_
          refine XC.ret ?_
          refine XQ.inRet ?_
          refine XQ.thenRet ?_
          refine XQ.thenRet ?_
          refine XQ.inRet ?_
          refine XQ.ret0B rfl ?_
          exact ⟨⟨_, rfl⟩, .inr ⟨_, (by have q9 := os_pre (s := s) (x := x) (t := ta) (i := i + 1); rw [htk] at q9; exact q9), hJx'⟩⟩
      ·
        have hin : inS s x xa.1 = false := by unfold inS; rw [hxa1]; simp [hx1, hx2]
        rw [hin] at htk
        simp only [if_true, Bool.false_eq_true, if_false, List.append_nil] at htk
        refine XC.confH (γ := Unit) [(6, vP b6 0), (12, .agg #[vI (lnT t i), vI (agT t i)]), (11, vP g (o + i * 2)), (10, .bool true), (0, .func (.yield ll) #[] #[]), (1, vP b3 0), (2, vP b5 0), (3, vP b4 0), (7, .slice (some ⟨g, o, none⟩) t.length cp), (8, vI (t.length : Int)), (9, vI (i : Int))] (fun gy => [vP b6 0, vI (lnT t i), vI x, .bool true, .bool true, vP b6 0, vI (lnT t i), vI s, vI ((lnT t i).tmod s), vI x, vI s, vI ((x).tmod s), .bool false, .bool false, .bool false, undef, undef, undef, undef, undef, undef, undef, .bool false]) (fun gy D wz => HP Tr w5 wz [.cel b6 #[vI (lnT t i), vI (agT t i)] 83]) () (by kernel_rfl) ⟨rfl, rfl, rfl, rfl, rfl, rfl, rfl, rfl, rfl, rfl, rfl, trivial⟩ (by kernel_rfl) (by kernel_rfl) (by kernel_rfl) (fun _ => rfl) (by kernel_rfl) (HP.drew hH15) ?_ ?_
        · refine AllOkX.cons ?o0 (AllOkX.cons ?o1 (AllOkX.cons ?o2 (AllOkX.cons ?o3 (AllOkX.cons ?o4 (AllOkX.cons ?o5 (AllOkX.cons ?o6 (AllOkX.cons ?o7 (AllOkX.cons ?o8 (AllOkX.cons ?o9 (AllOkX.cons ?o10 (AllOkX.cons ?o11 (AllOkX.cons ?o12 (AllOkX.cons ?o13 (AllOkX.cons ?o14 (AllOkX.cons ?o15 (AllOkX.cons ?o16 (AllOkX.cons ?o17 (AllOkX.cons ?o18 (AllOkX.cons ?o19 (AllOkX.cons ?o20 (AllOkX.cons ?o21 (AllOkX.cons ?o22 (AllOkX.nil _)))))))))))))))))))))))
          case o0 =>
            intro gy D wz hDi hdep hclo hW
            exact .inl ⟨rfl, rfl, .inl ⟨gy, wz, fun _ _ => rfl, x_idxArr (0) (0) rfl rfl rfl Try.underlying83 sz3 (by omega) (by omega) (by omega), hW⟩⟩
          case o1 =>
            intro gy D wz hDi hdep hclo hW
            exact .inl ⟨rfl, rfl, .inl ⟨gy, wz, fun _ _ => rfl, x_load rfl rfl Try.underlying3 rfl (HP.cell hW 0 rfl rfl), hW⟩⟩
          case o2 =>
            intro gy D wz hDi hdep hclo hW
            exact .inl ⟨rfl, rfl, .inl ⟨gy, wz, fun _ _ => rfl, x_load rfl rfl Try.underlying3 rfl (HP.old hW trivial hcells.2.2), hW⟩⟩
          case o3 =>
            intro gy D wz hDi hdep hclo hW
            exact .inl ⟨rfl, rfl, .inl ⟨gy, wz, fun _ _ => rfl, x_neq rfl rfl rfl (dT (hx1)), hW⟩⟩
          case o4 =>
            intro gy D wz hDi hdep hclo hW
            exact .inl ⟨rfl, rfl, .inl ⟨gy, wz, fun _ _ => rfl, by kernel_rfl, hW⟩⟩
          case o5 =>
            intro gy D wz hDi hdep hclo hW
            exact .inl ⟨rfl, rfl, .inl ⟨gy, wz, fun _ _ => rfl, x_idxArr (0) (0) rfl rfl rfl Try.underlying83 sz3 (by omega) (by omega) (by omega), hW⟩⟩
          case o6 =>
            intro gy D wz hDi hdep hclo hW
            exact .inl ⟨rfl, rfl, .inl ⟨gy, wz, fun _ _ => rfl, x_load rfl rfl Try.underlying3 rfl (HP.cell hW 0 rfl rfl), hW⟩⟩
          case o7 =>
            intro gy D wz hDi hdep hclo hW
            exact .inl ⟨rfl, rfl, .inl ⟨gy, wz, fun _ _ => rfl, x_load rfl rfl Try.underlying3 rfl (HP.old hW trivial hcells.2.1), hW⟩⟩
          case o8 =>
            intro gy D wz hDi hdep hclo hW
            exact .inl ⟨rfl, rfl, .inl ⟨gy, wz, fun _ _ => rfl, x_rem rfl rfl rfl hs0 rfl, hW⟩⟩
          case o9 =>
            intro gy D wz hDi hdep hclo hW
            exact .inl ⟨rfl, rfl, .inl ⟨gy, wz, fun _ _ => rfl, x_load rfl rfl Try.underlying3 rfl (HP.old hW trivial hcells.2.2), hW⟩⟩
          case o10 =>
            intro gy D wz hDi hdep hclo hW
            exact .inl ⟨rfl, rfl, .inl ⟨gy, wz, fun _ _ => rfl, x_load rfl rfl Try.underlying3 rfl (HP.old hW trivial hcells.2.1), hW⟩⟩
          case o11 =>
            intro gy D wz hDi hdep hclo hW
            exact .inl ⟨rfl, rfl, .inl ⟨gy, wz, fun _ _ => rfl, x_rem rfl rfl rfl hs0 rfl, hW⟩⟩
          case o12 =>
            intro gy D wz hDi hdep hclo hW
            exact .inl ⟨rfl, rfl, .inl ⟨gy, wz, fun _ _ => rfl, x_eql rfl rfl rfl (dF (hx2)), hW⟩⟩
          case o13 =>
            intro gy D wz hDi hdep hclo hW
            exact .inl ⟨rfl, rfl, .inl ⟨gy, wz, fun _ _ => rfl, by kernel_rfl, hW⟩⟩
          case o14 =>
            intro gy D wz hDi hdep hclo hW
            exact .inl ⟨rfl, rfl, .inl ⟨gy, wz, fun _ _ => rfl, by kernel_rfl, hW⟩⟩
          case o15 =>
            intro gy D wz hDi hdep hclo hW
            exact .inr ⟨rfl, rfl, hW⟩
          case o16 =>
            intro gy D wz hDi hdep hclo hW
            exact .inr ⟨rfl, rfl, hW⟩
          case o17 =>
            intro gy D wz hDi hdep hclo hW
            exact .inr ⟨rfl, rfl, hW⟩
          case o18 =>
            intro gy D wz hDi hdep hclo hW
            exact .inr ⟨rfl, rfl, hW⟩
          case o19 =>
            intro gy D wz hDi hdep hclo hW
            exact .inr ⟨rfl, rfl, hW⟩
          case o20 =>
            intro gy D wz hDi hdep hclo hW
            exact .inr ⟨rfl, rfl, hW⟩
          case o21 =>
            intro gy D wz hDi hdep hclo hW
            exact .inr ⟨rfl, rfl, hW⟩
          case o22 =>
            intro gy D wz hDi hdep hclo hW
            exact .inl ⟨rfl, rfl, .inl ⟨gy, wz, fun _ _ => rfl, by kernel_rfl, hW⟩⟩
        rintro gy D w20 hall hH21
        clear hall
        refine XQ.sub (l' := [(0, .func (.yield ll) #[] #[]), (1, vP b3 0), (2, vP b5 0), (3, vP b4 0), (6, vP b6 0), (7, .slice (some ⟨g, o, none⟩) t.length cp), (8, vI (t.length : Int)), (9, vI (i : Int)), (10, .bool true), (35, .bool false)]) ⟨rfl, rfl, rfl, rfl, rfl, rfl, rfl, rfl, rfl, rfl, trivial⟩ ?_
        refine XQ.then ?_
        refine hK16 _ _ _ _ ?_
        refine XC.no rfl ?_
        refine XC.skip ?_
        refine XQ.inNormal ?_
        refine XQ.then ?_
        refine hK10 _ _ _ _ ?_
        refine XC.region ?_
        refine XL.pure (v := vI ((i + 1 : Nat) : Int)) 36 rfl (Nat.le_of_ble_eq_true rfl) rfl rfl (x_add (Z := ((i + 1 : Nat) : Int)) rfl rfl rfl (by omega) (by omega) (by omega)) ?_
        refine XL.pure (v := vI ((i + 1 : Nat) : Int)) 9 rfl (Nat.le_of_ble_eq_true rfl) rfl rfl (by kernel_rfl) ?_
        refine XL.nil ?_
        refine XQ.sub (l' := [(0, .func (.yield ll) #[] #[]), (1, vP b3 0), (2, vP b5 0), (3, vP b4 0), (7, .slice (some ⟨g, o, none⟩) t.length cp), (8, vI (t.length : Int)), (9, vI ((i + 1 : Nat) : Int))]) ⟨rfl, rfl, rfl, rfl, rfl, rfl, rfl, trivial⟩ ?_
        refine XQ.then (hK4 _ _ _ (by omega) ⟨i + 1, rfl, rfl, by omega, by rw [htk]; exact hJ _ _ _ none hJp (grown_hp hH21) (fun r e => by cases e), hRd.below (HP.below hH21), HP.refl _⟩)
  ·
    refine XL.pure (v := .bool false) 10 rfl (Nat.le_of_ble_eq_true rfl) rfl rfl (x_lss rfl rfl rfl (dF (hlt))) ?_
    refine XL.nil ?_
    refine XQ.then ?_
    refine hK8 _ _ _ _ ?_
    refine XC.seq fun K22 hK22 => ?_
    refine XC.no rfl ?_
    refine XC.exit ?_
    refine XQ.thenExit ?_
    refine XQ.thenExit ?_
    refine XQ.inExit ?_
    refine XQ.end0B rfl ?_
    exact ⟨⟨_, rfl⟩, .inl ⟨_, rfl, by rw [List.take_of_length_le (show ta.length ≤ i by omega)] at hJp; exact hJp⟩⟩
end Ca
end Go.Proofs.Ytmjnakhpekbenaa
namespace Go.Proofs.Ytmjnakhpekbenaa
open Go.RowKit Fw
namespace Ca
theorem len1 (A : List T2) (z : T2) : (A ++ [z]).length = A.length + 1 := by simp
theorem bitLenAux_le : ∀ (f x : Nat), Lib.bitLenAux f x ≤ f
  | 0, _ => Nat.le_refl _
  | f + 1, x => by
    unfold Lib.bitLenAux
    have := bitLenAux_le f (x / 2)
    split <;> omega
theorem bitLen_le {n : Nat} : Lib.bitLen n ≤ 64 := bitLenAux_le 64 n
/-- the entries of other sets -/
def outT (s x : Int) (t : List T2) : List T2 := t.filter fun q => decide (q.1.tmod s ≠ x.tmod s)
theorem out_take {s x : Int} {t : List T2} {i : Nat} (h : i < t.length) : outT s x (t.take (i + 1)) = outT s x (t.take i) ++ (if (lnT t i).tmod s ≠ x.tmod s then [(lnT t i, agT t i)] else []) := by
  unfold outT
  rw [List.take_add_one, List.filter_append, List.getElem?_eq_getElem h, lnT_get h, agT_get h]
  by_cases q : t[i].1.tmod s = x.tmod s <;> simp [List.filter_cons, q]
/-- one that stands in the line's set, older -/
def old1 (y d : Int) (q : T2) : List T2 := if (if q.2 < d then q.2 + 1 else q.2) < y then [(q.1, if q.2 < d then q.2 + 1 else q.2)] else []
def oldT (y d : Int) (l : List TV) : List T2 := l.flatMap fun q => old1 y d q.1
theorem old_snoc (y d : Int) (l : List TV) (q : TV) : oldT y d (l ++ [q]) = oldT y d l ++ old1 y d q.1 := by simp [oldT]
theorem old1_len (y d : Int) (q : T2) : (old1 y d q).length ≤ 1 := by
  unfold old1
  generalize (if q.2 < d then q.2 + 1 else q.2) = a
  split
  · exact Nat.le_refl _
  · exact Nat.zero_le _
theorem oldT_len (y d : Int) : ∀ l : List TV, (oldT y d l).length ≤ l.length
  | [] => by simp [oldT]
  | q :: r => by
    have := oldT_len y d r
    have h1 := old1_len y d q.1
    simp only [oldT, List.flatMap_cons, List.length_append, List.length_cons] at this ⊢
    omega
theorem infoT : ∃ i, Try.prog.info? 83 = some i ∧ i.zero = some (.agg #[.int .i64 0, .int .i64 0]) ∧ i.size = 2 ∧ i.bytes = 16 := by
  obtain ⟨i, hi, h⟩ := Option.map_eq_some_iff.1 (show (Try.prog.info? 83).map (fun i => (i.zero, i.size, i.bytes)) = some (some (.agg #[.int .i64 0, .int .i64 0]), 2, 16) by kernel_rfl)
  simp only [Prod.mk.injEq] at h
  exact ⟨i, hi, h.1, h.2.1, h.2.2⟩
theorem rd_of {w W : World} {H : List Ent} {b3 b4 b5 : Nat} {p : Option Addr} {t : List T2} {cp : Nat} {s x : Int} (h : HP Tr w W H) (hT : InT w p t) (h3 : Ent.cel b3 #[.slice p t.length cp] 88 ∈ H) (h4 : Ent.cel b4 #[vI s] 3 ∈ H) (h5 : Ent.cel b5 #[vI x] 3 ∈ H) : Rd w.heap.size W b3 b4 b5 p t cp s x :=
  ⟨h.hold _ h3, h.hold _ h4, h.hold _ h5, fun h0 => by
    obtain ⟨g, o, hp, hr⟩ := hT h0
    exact ⟨g, o, hp, World.block_lt_of_cell? w _ (hr 0 h0 0 _ rfl), fun i hi => HP.oldRange h trivial (hr i hi)⟩⟩
theorem ta_of : ∀ {t : List T2}, (∀ i, i < t.length → -1000 ≤ agT t i ∧ agT t i ≤ 1000) → ∃ ta : List TV, t = ta.map (·.1)
  | [], _ => ⟨[], rfl⟩
  | q :: r, h => by
    obtain ⟨ta, rfl⟩ := ta_of (t := r) fun i hi => by have := h (i + 1) (by simpa using hi); simpa [agT] using this
    exact ⟨⟨q, by have := h 0 (by simp); simpa [agT] using this⟩ :: ta, by simp⟩
theorem osA_len (s x : Int) (ta : List TV) : (osA s x ta).length ≤ ta.length := List.length_filter_le _ _
theorem outT_len (s x : Int) (t : List T2) : (outT s x t).length ≤ t.length := List.length_filter_le _ _
theorem sz88 : (Try.prog.info? 88).map (·.size) = some 1 := by kernel_rfl
set_option maxRecDepth 20000 in
set_option maxHeartbeats 4000000 in
theorem SortFunc_any (pv : Option Addr) (cp : Nat) (t : List T2) (w : World) (hB : OwnB w [rowT pv t.length cp t]) (h0 : 0 < t.length) (hn : t.length ≤ 281474976710000) :
    Calls Try.prog 98 #[.slice pv t.length cp, .func (.func 99) #[] #[]] w fun e w' => e = .returned (.tuple #[]) ∧ ∃ t', t'.Perm t ∧ leT t' ∧ HP (Out [rowT pv t.length cp t]) w w' [rowT pv t.length cp t'] := by
  refine calls_of Try.func98 rfl (m := 14) rfl [(0, .slice pv t.length cp), (1, .func (.func 99) #[] #[])] (Fr_enter [.slice pv t.length cp, .func (.func 99) #[] #[]] 14 (Nat.le_of_ble_eq_true rfl)) ?_
  refine WC.seq fun K1 hK1 => ?_
  refine WC.region ?_
  refine WL.pure (v := .slice pv t.length cp) 5 rfl (Nat.le_of_ble_eq_true rfl) rfl rfl (by kernel_rfl) ?_
  refine WL.pure (v := vI (t.length : Int)) 6 rfl (Nat.le_of_ble_eq_true rfl) rfl rfl (by kernel_rfl) ?_
  refine WL.pure (v := vI (t.length : Int)) 4 rfl (Nat.le_of_ble_eq_true rfl) rfl rfl (by kernel_rfl) ?_
  refine WL.nil ?_
  refine WQ.then ?_
  refine hK1 _ _ _ ?_
  refine WC.region ?_
  refine WL.pure (v := .slice pv t.length cp) 7 rfl (Nat.le_of_ble_eq_true rfl) rfl rfl (by kernel_rfl) ?_
  refine WL.pure (v := vI (t.length : Int)) 8 rfl (Nat.le_of_ble_eq_true rfl) rfl rfl (by kernel_rfl) ?_
  refine WL.pure (v := vI (t.length : Int)) 9 rfl (Nat.le_of_ble_eq_true rfl) rfl rfl (by kernel_rfl) ?_
  refine WL.pure (v := .int .u64 ((t.length : Nat) : Int)) 10 rfl (Nat.le_of_ble_eq_true rfl) rfl rfl (x_convI rfl rfl (by kernel_rfl) (by kernel_rfl) (by kernel_rfl) (by rw [IntKind.wrap_u64]; omega)) ?_
  refine WL.call (f := 113) (args := #[.int .u64 ((t.length : Nat) : Int)]) 11 rfl (Nat.le_of_ble_eq_true rfl) rfl rfl (by kernel_rfl) ?_
  refine (((Try.bits_Len ((t.length : Nat) : Int) _ (by omega) (by omega)).mono fun e w' h => (⟨h.1, h.2.symm⟩ : _ ∧ _ = w'))).mono ?_
  rintro e w2 ⟨rfl, rfl⟩
  refine ⟨_, rfl, ?_⟩
  refine WL.pure (v := .func (.func 99) #[] #[]) 12 rfl (Nat.le_of_ble_eq_true rfl) rfl rfl (by kernel_rfl) ?_
  refine WL.call (f := 112) (args := #[.slice pv t.length cp, vI 0, vI (t.length : Int), vI ((Lib.bitLen (Int.toNat ((t.length : Nat) : Int)) : Nat) : Int), .func (.func 99) #[] #[]]) 13 rfl (Nat.le_of_ble_eq_true rfl) rfl rfl (by kernel_rfl) ?_
  refine (pdq_any pv cp t _ _ (HP.ownF (A := [rowT pv t.length cp t]) (B := []) (by simpa using (HP.startB hB))) h0 (by omega) (Nat.le_trans bitLen_le (by omega))).mono ?_
  rintro e w4 ⟨rfl, t', hp, hle, hb4⟩
  refine ⟨_, rfl, ?_⟩
  refine WL.nil ?_
  refine WQ.end0 rfl ?_
  exact ⟨rfl, t', hp, hle, hb4⟩
set_option maxRecDepth 20000 in
set_option maxHeartbeats 4000000 in
theorem aged_any (p : Option Addr) (t : List T2) (ta : List TV) (cp : Nat) (s y l m x d : Int) (w : World) (hT : InT w p t) (ht9 : t = ta.map (·.1)) (hs0 : s ≠ 0) (hd : -1000 ≤ d ∧ d ≤ 1000) (hn : t.length ≤ 100000) :
    Calls Try.prog 82 #[.slice p t.length cp, .agg #[vI s, vI y, vI l, vI m], vI x, vI d] w fun e w' => ∃ t' pv cp', e = .returned (.slice pv t'.length cp') ∧ t'.Perm (outT s x t ++ oldT y d (osA s x ta) ++ [(x, 0)]) ∧ leT t' ∧ HP Tr w w' [rowT pv t'.length cp' t'] := by
  open Fi in
  refine Fi.calls_ofX Try.func82 rfl (m := 66) rfl [(0, .slice p t.length cp), (1, .agg #[vI s, vI y, vI l, vI m]), (2, vI x), (3, vI d)] (Fi.Fr_enter [.slice p t.length cp, .agg #[vI s, vI y, vI l, vI m], vI x, vI d] 66 (Nat.le_of_ble_eq_true rfl)) ?_
  have hH1 : HP Tr w w [] := HP.refl w
  refine XC.seq fun K2 hK2 => ?_
  refine XC.region ?_
  refine XL.alloc (c := #[vI s, vI y, vI l, vI m]) (T := 23) hH1 5 rfl (by decide) rfl rfl (fun b5 => vP b5 0) (by kernel_rfl) (fun b5 w3 hw3 => ?_)
  have hH4 : HP Tr w w3 [.cel b5 #[vI s, vI y, vI l, vI m] 23] := hw3.2
  have nb5 := hw3.1
  clear hw3
  refine XL.alloc (c := #[vI d]) (T := 3) hH4 7 rfl (by decide) rfl rfl (fun b7 => vP b7 0) (by kernel_rfl) (fun b7 w5 hw5 => ?_)
  have hH6 : HP Tr w w5 [.cel b5 #[vI s, vI y, vI l, vI m] 23, .cel b7 #[vI d] 3] := hw5.2
  have nb7 := hw5.1
  clear hw5
  refine XL.pure (v := .slice none 0 0) 8 rfl (Nat.le_of_ble_eq_true rfl) rfl rfl (by kernel_rfl) ?_
  refine XL.nil ?_
  refine XQ.then ?_
  refine hK2 _ _ _ _ ?_
  refine XC.seq fun K7 hK7 => ?_
  refine XC.region ?_
  refine XL.alloc (c := #[]) (T := 83) hH6 14 rfl (by decide) rfl rfl (fun b14 => vS b14 0 0) (by kernel_rfl) (fun b14 w8 hw8 => ?_)
  have hH9 : HP Tr w w8 [.cel b5 #[vI s, vI y, vI l, vI m] 23, .cel b7 #[vI d] 3, .cel b14 #[] 83] := hw8.2
  have nb14 := hw8.1
  clear hw8
  refine XL.alloc (c := #[.slice none 0 0]) (T := 88) hH9 9 rfl (by decide) rfl rfl (fun b9 => vP b9 0) (by kernel_rfl) (fun b9 w10 hw10 => ?_)
  have hH11 : HP Tr w w10 [.cel b5 #[vI s, vI y, vI l, vI m] 23, .cel b7 #[vI d] 3, .cel b14 #[] 83, .cel b9 #[.slice none 0 0] 88] := hw10.2
  have nb9 := hw10.1
  clear hw10
  refine XL.store (H2 := [.cel b5 #[vI s, vI y, vI l, vI m] 23, .cel b7 #[vI d] 3, .cel b14 #[] 83, .cel b9 #[vS b14 0 0] 88]) 3 hH11 rfl rfl rfl rfl rfl rfl sz88 rfl (Nat.le_of_ble_eq_true rfl) rfl rfl ?_
  intro w12 hH13
  refine XL.nil ?_
  refine XQ.then ?_
  refine hK7 _ _ _ _ ?_
  refine XC.seq fun K14 hK14 => ?_
  refine XC.seq fun K15 hK15 => ?_
  have hO9 := HP.celToOwn hH13 2 (k := 0) (cap := 0) (s := 2) rfl (Nat.le_refl _) (by decide) rfl
  have hH16 : HP Tr w _ [.cel b5 #[vI s, vI y, vI l, vI m] 23, .cel b7 #[vI d] 3, rowT (some ⟨b14, 0, none⟩) ([] : List T2).length 0 ([] : List T2), .cel b9 #[.slice (some ⟨b14, 0, none⟩) ([] : List T2).length 0] 88] := HP.eq hO9 rfl
  refine XC.region ?_
  refine XL.pure (v := .slice p t.length cp) 15 rfl (Nat.le_of_ble_eq_true rfl) rfl rfl (by kernel_rfl) ?_
  refine XL.pure (v := vI (t.length : Int)) 16 rfl (Nat.le_of_ble_eq_true rfl) rfl rfl (by kernel_rfl) ?_
  refine XL.pure (v := vI 0) 17 rfl (Nat.le_of_ble_eq_true rfl) rfl rfl (by kernel_rfl) ?_
  refine XL.nil ?_
  refine XQ.then ?_
  refine hK15 _ _ _ _ ?_
  refine XC.block ?_
  refine XC.loop (fun kk0 ll0 ww0 => ∃ (i : Nat) (A : List T2) (pv : Option Addr) (cp2 : Nat), ll0 = [(0, .slice p t.length cp), (2, vI x), (5, vP b5 0), (7, vP b7 0), (9, vP b9 0), (15, .slice p t.length cp), (16, vI (t.length : Int)), (17, vI (i : Int))] ∧ kk0 = t.length - i ∧ (i ≤ t.length) ∧ (A = outT s x (t.take i)) ∧ (A.length ≤ i) ∧ HP Tr w ww0 [.cel b5 #[vI s, vI y, vI l, vI m] 23, .cel b7 #[vI d] 3, rowT pv A.length cp2 A, .cel b9 #[.slice pv A.length cp2] 88]) (t.length) [(0, .slice p t.length cp), (2, vI x), (5, vP b5 0), (7, vP b7 0), (9, vP b9 0), (15, .slice p t.length cp), (16, vI (t.length : Int)), (17, vI 0)] ⟨rfl, rfl, rfl, rfl, rfl, rfl, rfl, rfl, trivial⟩ ⟨0, [], (some ⟨b14, 0, none⟩), 0, rfl, rfl, Nat.zero_le _, by simp [outT], Nat.zero_le _, hH16⟩ ?_
  rintro kk l w18 ⟨i, A, pv, cp2, rfl, hkk, hi, hA, hAl, hH19⟩ K17 hK17
  refine XC.seq fun K20 hK20 => ?_
  refine XC.region ?_
  by_cases hlt : (i : Int) < (t.length : Int)
  ·
    refine XL.pure (v := .bool true) 18 rfl (Nat.le_of_ble_eq_true rfl) rfl rfl (x_lss rfl rfl rfl (dT (hlt))) ?_
    refine XL.nil ?_
    refine XQ.then ?_
    refine hK20 _ _ _ _ ?_
    refine XC.seq fun K21 hK21 => ?_
    refine XC.yes rfl ?_
    refine XC.skip ?_
    refine XQ.then ?_
    refine hK21 _ _ _ _ ?_
    refine XC.seq fun K22 hK22 => ?_
    refine XC.block ?_
    refine XC.seq fun K23 hK23 => ?_
    obtain ⟨g, o, rfl, hrow⟩ := hT (by omega)
    have hot := out_take (s := s) (x := x) (show i < t.length by omega)
    refine XC.region ?_
    refine XL.pure (v := vP g (o + i * 2)) 19 rfl (Nat.le_of_ble_eq_true rfl) rfl rfl (x_idx (i) (o + i * 2) rfl rfl rfl Try.underlying88 sz83 (by omega) (by omega) (by omega)) ?_
    refine XL.pure (v := .agg #[vI (lnT t i), vI (agT t i)]) 20 rfl (Nat.le_of_ble_eq_true rfl) rfl rfl (x_loadS (cs := [vI (lnT t i), vI (agT t i)]) rfl rfl Try.underlying83 rfl sz83 (HP.oldRange hH19 trivial (hrow i (by omega)))) ?_
    refine XL.alloc (c := #[vI 0, vI 0]) (T := 83) hH19 11 rfl (by decide) rfl rfl (fun b11 => vP b11 0) (by kernel_rfl) (fun b11 w24 hw24 => ?_)
    have hH25 : HP Tr w w24 [.cel b5 #[vI s, vI y, vI l, vI m] 23, .cel b7 #[vI d] 3, rowT pv A.length cp2 A, .cel b9 #[.slice pv A.length cp2] 88, .cel b11 #[vI 0, vI 0] 83] := hw24.2
    have nb11 := hw24.1
    clear hw24
    refine XL.storeS (H2 := [.cel b5 #[vI s, vI y, vI l, vI m] 23, .cel b7 #[vI d] 3, rowT pv A.length cp2 A, .cel b9 #[.slice pv A.length cp2] 88, .cel b11 #[vI (lnT t i), vI (agT t i)] 83]) 4 hH25 rfl rfl rfl rfl rfl rfl sz83 rfl (Nat.le_of_ble_eq_true rfl) rfl rfl ?_
    intro w26 hH27
    refine XL.nil ?_
    refine XQ.then ?_
    refine hK23 _ _ _ _ ?_
    refine XC.seq fun K28 hK28 => ?_
    by_cases hx2 : (lnT t i).tmod s = x.tmod s
    ·
      rw [if_neg (fun h => h hx2), List.append_nil] at hot
      refine XC.confH (γ := Unit) [(11, vP b11 0), (20, .agg #[vI (lnT t i), vI (agT t i)]), (19, vP g (o + i * 2)), (18, .bool true), (0, .slice (some ⟨g, o, none⟩) t.length cp), (2, vI x), (5, vP b5 0), (7, vP b7 0), (9, vP b9 0), (15, .slice (some ⟨g, o, none⟩) t.length cp), (16, vI (t.length : Int)), (17, vI (i : Int))] (fun gy => [vP b11 0, vI (lnT t i), vP b5 0, vI s, vI ((lnT t i).tmod s), vI x, vP b5 0, vI s, vI (x.tmod s), .bool false]) (fun gy D wz => HP Tr w wz [.cel b5 #[vI s, vI y, vI l, vI m] 23, .cel b7 #[vI d] 3, rowT pv A.length cp2 A, .cel b9 #[.slice pv A.length cp2] 88, .cel b11 #[vI (lnT t i), vI (agT t i)] 83]) () (by kernel_rfl) ⟨rfl, rfl, rfl, rfl, rfl, rfl, rfl, rfl, rfl, rfl, rfl, rfl, trivial⟩ (by kernel_rfl) (by kernel_rfl) (by kernel_rfl) (fun _ => rfl) (by kernel_rfl) (HP.drew hH27) ?_ ?_
      · refine AllOkX.cons ?o0 (AllOkX.cons ?o1 (AllOkX.cons ?o2 (AllOkX.cons ?o3 (AllOkX.cons ?o4 (AllOkX.cons ?o5 (AllOkX.cons ?o6 (AllOkX.cons ?o7 (AllOkX.cons ?o8 (AllOkX.cons ?o9 (AllOkX.nil _))))))))))
        case o0 =>
          intro gy D wz hDi hdep hclo hW
          exact .inl ⟨rfl, rfl, .inl ⟨gy, wz, fun _ _ => rfl, x_idxArr (0) (0) rfl rfl rfl Try.underlying83 sz3 (by omega) (by omega) (by omega), hW⟩⟩
        case o1 =>
          intro gy D wz hDi hdep hclo hW
          exact .inl ⟨rfl, rfl, .inl ⟨gy, wz, fun _ _ => rfl, x_load rfl rfl Try.underlying3 rfl (HP.cell hW 4 rfl rfl), hW⟩⟩
        case o2 =>
          intro gy D wz hDi hdep hclo hW
          exact .inl ⟨rfl, rfl, .inl ⟨gy, wz, fun _ _ => rfl, by kernel_rfl, hW⟩⟩
        case o3 =>
          intro gy D wz hDi hdep hclo hW
          exact .inl ⟨rfl, rfl, .inl ⟨gy, wz, fun _ _ => rfl, x_load rfl rfl Try.underlying3 rfl (HP.cell hW 0 rfl rfl), hW⟩⟩
        case o4 =>
          intro gy D wz hDi hdep hclo hW
          exact .inl ⟨rfl, rfl, .inl ⟨gy, wz, fun _ _ => rfl, x_rem rfl rfl rfl hs0 rfl, hW⟩⟩
        case o5 =>
          intro gy D wz hDi hdep hclo hW
          exact .inl ⟨rfl, rfl, .inl ⟨gy, wz, fun _ _ => rfl, by kernel_rfl, hW⟩⟩
        case o6 =>
          intro gy D wz hDi hdep hclo hW
          exact .inl ⟨rfl, rfl, .inl ⟨gy, wz, fun _ _ => rfl, by kernel_rfl, hW⟩⟩
        case o7 =>
          intro gy D wz hDi hdep hclo hW
          exact .inl ⟨rfl, rfl, .inl ⟨gy, wz, fun _ _ => rfl, x_load rfl rfl Try.underlying3 rfl (HP.cell hW 0 rfl rfl), hW⟩⟩
        case o8 =>
          intro gy D wz hDi hdep hclo hW
          exact .inl ⟨rfl, rfl, .inl ⟨gy, wz, fun _ _ => rfl, x_rem rfl rfl rfl hs0 rfl, hW⟩⟩
        case o9 =>
          intro gy D wz hDi hdep hclo hW
          exact .inl ⟨rfl, rfl, .inl ⟨gy, wz, fun _ _ => rfl, x_neq rfl rfl rfl (dF (fun h => h hx2)), hW⟩⟩
      rintro gy D w29 hall hH30
      clear hall
      refine XQ.sub (l' := [(0, .slice (some ⟨g, o, none⟩) t.length cp), (2, vI x), (5, vP b5 0), (7, vP b7 0), (9, vP b9 0), (11, vP b11 0), (15, .slice (some ⟨g, o, none⟩) t.length cp), (16, vI (t.length : Int)), (17, vI (i : Int)), (18, .bool true), (30, .bool false)]) ⟨rfl, rfl, rfl, rfl, rfl, rfl, rfl, rfl, rfl, rfl, rfl, trivial⟩ ?_
      refine XQ.then ?_
      refine hK28 _ _ _ _ ?_
      refine XC.no rfl ?_
      refine XC.skip ?_
      refine XQ.inNormal ?_
      refine XQ.then ?_
      refine hK22 _ _ _ _ ?_
      refine XC.region ?_
      refine XL.pure (v := vI ((i + 1 : Nat) : Int)) 35 rfl (Nat.le_of_ble_eq_true rfl) rfl rfl (x_add (Z := ((i + 1 : Nat) : Int)) rfl rfl rfl (by omega) (by omega) (by omega)) ?_
      refine XL.pure (v := vI ((i + 1 : Nat) : Int)) 17 rfl (Nat.le_of_ble_eq_true rfl) rfl rfl (by kernel_rfl) ?_
      refine XL.nil ?_
      refine XQ.sub (l' := [(0, .slice (some ⟨g, o, none⟩) t.length cp), (2, vI x), (5, vP b5 0), (7, vP b7 0), (9, vP b9 0), (15, .slice (some ⟨g, o, none⟩) t.length cp), (16, vI (t.length : Int)), (17, vI ((i + 1 : Nat) : Int))]) ⟨rfl, rfl, rfl, rfl, rfl, rfl, rfl, rfl, trivial⟩ ?_
      refine XQ.then (hK17 _ _ _ (by omega) ⟨i + 1, A, pv, cp2, rfl, rfl, by omega, by rw [hot, hA], by first | omega | (simp; omega), (HP.drop hH30 4)⟩)
    ·
      rw [if_pos hx2] at hot
      refine XC.confH (γ := Unit) [(11, vP b11 0), (20, .agg #[vI (lnT t i), vI (agT t i)]), (19, vP g (o + i * 2)), (18, .bool true), (0, .slice (some ⟨g, o, none⟩) t.length cp), (2, vI x), (5, vP b5 0), (7, vP b7 0), (9, vP b9 0), (15, .slice (some ⟨g, o, none⟩) t.length cp), (16, vI (t.length : Int)), (17, vI (i : Int))] (fun gy => [vP b11 0, vI (lnT t i), vP b5 0, vI s, vI ((lnT t i).tmod s), vI x, vP b5 0, vI s, vI (x.tmod s), .bool true]) (fun gy D wz => HP Tr w wz [.cel b5 #[vI s, vI y, vI l, vI m] 23, .cel b7 #[vI d] 3, rowT pv A.length cp2 A, .cel b9 #[.slice pv A.length cp2] 88, .cel b11 #[vI (lnT t i), vI (agT t i)] 83]) () (by kernel_rfl) ⟨rfl, rfl, rfl, rfl, rfl, rfl, rfl, rfl, rfl, rfl, rfl, rfl, trivial⟩ (by kernel_rfl) (by kernel_rfl) (by kernel_rfl) (fun _ => rfl) (by kernel_rfl) (HP.drew hH27) ?_ ?_
      · refine AllOkX.cons ?o0 (AllOkX.cons ?o1 (AllOkX.cons ?o2 (AllOkX.cons ?o3 (AllOkX.cons ?o4 (AllOkX.cons ?o5 (AllOkX.cons ?o6 (AllOkX.cons ?o7 (AllOkX.cons ?o8 (AllOkX.cons ?o9 (AllOkX.nil _))))))))))
        case o0 =>
          intro gy D wz hDi hdep hclo hW
          exact .inl ⟨rfl, rfl, .inl ⟨gy, wz, fun _ _ => rfl, x_idxArr (0) (0) rfl rfl rfl Try.underlying83 sz3 (by omega) (by omega) (by omega), hW⟩⟩
        case o1 =>
          intro gy D wz hDi hdep hclo hW
          exact .inl ⟨rfl, rfl, .inl ⟨gy, wz, fun _ _ => rfl, x_load rfl rfl Try.underlying3 rfl (HP.cell hW 4 rfl rfl), hW⟩⟩
        case o2 =>
          intro gy D wz hDi hdep hclo hW
          exact .inl ⟨rfl, rfl, .inl ⟨gy, wz, fun _ _ => rfl, by kernel_rfl, hW⟩⟩
        case o3 =>
          intro gy D wz hDi hdep hclo hW
          exact .inl ⟨rfl, rfl, .inl ⟨gy, wz, fun _ _ => rfl, x_load rfl rfl Try.underlying3 rfl (HP.cell hW 0 rfl rfl), hW⟩⟩
        case o4 =>
          intro gy D wz hDi hdep hclo hW
          exact .inl ⟨rfl, rfl, .inl ⟨gy, wz, fun _ _ => rfl, x_rem rfl rfl rfl hs0 rfl, hW⟩⟩
        case o5 =>
          intro gy D wz hDi hdep hclo hW
          exact .inl ⟨rfl, rfl, .inl ⟨gy, wz, fun _ _ => rfl, by kernel_rfl, hW⟩⟩
        case o6 =>
          intro gy D wz hDi hdep hclo hW
          exact .inl ⟨rfl, rfl, .inl ⟨gy, wz, fun _ _ => rfl, by kernel_rfl, hW⟩⟩
        case o7 =>
          intro gy D wz hDi hdep hclo hW
          exact .inl ⟨rfl, rfl, .inl ⟨gy, wz, fun _ _ => rfl, x_load rfl rfl Try.underlying3 rfl (HP.cell hW 0 rfl rfl), hW⟩⟩
        case o8 =>
          intro gy D wz hDi hdep hclo hW
          exact .inl ⟨rfl, rfl, .inl ⟨gy, wz, fun _ _ => rfl, x_rem rfl rfl rfl hs0 rfl, hW⟩⟩
        case o9 =>
          intro gy D wz hDi hdep hclo hW
          exact .inl ⟨rfl, rfl, .inl ⟨gy, wz, fun _ _ => rfl, x_neq rfl rfl rfl (dT (hx2)), hW⟩⟩
      rintro gy D w31 hall hH32
      clear hall
      refine XQ.sub (l' := [(0, .slice (some ⟨g, o, none⟩) t.length cp), (2, vI x), (5, vP b5 0), (7, vP b7 0), (9, vP b9 0), (11, vP b11 0), (15, .slice (some ⟨g, o, none⟩) t.length cp), (16, vI (t.length : Int)), (17, vI (i : Int)), (18, .bool true), (30, .bool true)]) ⟨rfl, rfl, rfl, rfl, rfl, rfl, rfl, rfl, rfl, rfl, rfl, trivial⟩ ?_
      refine XQ.then ?_
      refine hK28 _ _ _ _ ?_
      refine XC.yes rfl ?_
      refine XC.region ?_
      refine XL.pure (v := .slice pv A.length cp2) 31 rfl (Nat.le_of_ble_eq_true rfl) rfl rfl (x_load rfl rfl Try.underlying88 rfl (HP.cell hH32 3 rfl rfl)) ?_
      refine XL.pure (v := .agg #[vI (lnT t i), vI (agT t i)]) 32 rfl (Nat.le_of_ble_eq_true rfl) rfl rfl (x_loadS (cs := [vI (lnT t i), vI (agT t i)]) rfl rfl Try.underlying83 rfl sz83 (HP.range hH32 4 rfl rfl)) ?_
      refine XL.alloc (c := #[vI (lnT t i), vI (agT t i)]) (T := 83) hH32 33 rfl (by decide) rfl rfl (fun b33 => vS b33 1 1) (by kernel_rfl) (fun b33 w33 hw33 => ?_)
      have hH34 : HP Tr w w33 [.cel b5 #[vI s, vI y, vI l, vI m] 23, .cel b7 #[vI d] 3, rowT pv A.length cp2 A, .cel b9 #[.slice pv A.length cp2] 88, .cel b11 #[vI (lnT t i), vI (agT t i)] 83, .cel b33 #[vI (lnT t i), vI (agT t i)] 83] := hw33.2
      have nb33 := hw33.1
      clear hw33
      obtain ⟨i0, hi0, hz0, hz1, hz2⟩ := infoT
      refine XL.append (news := [vI (lnT t i), vI (agT t i)]) 2 5 hH34 34 rfl (by decide) rfl rfl rfl rfl Try.underlying88 hi0 hz0 hz1 hz2 rfl (by decide) rfl rfl rfl rfl (by simp [Value.oneCell']) (by unfold maxLen; omega) (by omega) ?_
      rintro v7 w7 - hA7
      obtain ⟨pv7, cp7, rfl⟩ := own_row (HP.get hA7 2 rfl)
      have e7 : A.length + 1 = (A ++ [(lnT t i, agT t i)]).length := (len1 _ _).symm
      rw [tL_push, e7] at hA7
      rw [e7]
      have hH35 : HP Tr w _ [.cel b5 #[vI s, vI y, vI l, vI m] 23, .cel b7 #[vI d] 3, rowT pv7 (A ++ [(lnT t i, agT t i)]).length cp7 (A ++ [(lnT t i, agT t i)]), .cel b9 #[.slice pv A.length cp2] 88, .cel b11 #[vI (lnT t i), vI (agT t i)] 83, .cel b33 #[vI (lnT t i), vI (agT t i)] 83] := hA7
      refine XL.store (H2 := [.cel b5 #[vI s, vI y, vI l, vI m] 23, .cel b7 #[vI d] 3, rowT pv7 (A ++ [(lnT t i, agT t i)]).length cp7 (A ++ [(lnT t i, agT t i)]), .cel b9 #[.slice pv7 ((A ++ [(lnT t i, agT t i)]).length) cp7] 88, .cel b11 #[vI (lnT t i), vI (agT t i)] 83, .cel b33 #[vI (lnT t i), vI (agT t i)] 83]) 3 hH35 rfl rfl rfl rfl rfl rfl sz88 rfl (Nat.le_of_ble_eq_true rfl) rfl rfl ?_
      intro w36 hH37
      refine XL.nil ?_
      refine XQ.inNormal ?_
      refine XQ.then ?_
      refine hK22 _ _ _ _ ?_
      refine XC.region ?_
      refine XL.pure (v := vI ((i + 1 : Nat) : Int)) 35 rfl (Nat.le_of_ble_eq_true rfl) rfl rfl (x_add (Z := ((i + 1 : Nat) : Int)) rfl rfl rfl (by omega) (by omega) (by omega)) ?_
      refine XL.pure (v := vI ((i + 1 : Nat) : Int)) 17 rfl (Nat.le_of_ble_eq_true rfl) rfl rfl (by kernel_rfl) ?_
      refine XL.nil ?_
      refine XQ.sub (l' := [(0, .slice (some ⟨g, o, none⟩) t.length cp), (2, vI x), (5, vP b5 0), (7, vP b7 0), (9, vP b9 0), (15, .slice (some ⟨g, o, none⟩) t.length cp), (16, vI (t.length : Int)), (17, vI ((i + 1 : Nat) : Int))]) ⟨rfl, rfl, rfl, rfl, rfl, rfl, rfl, rfl, trivial⟩ ?_
      refine XQ.then (hK17 _ _ _ (by omega) ⟨i + 1, (A ++ [(lnT t i, agT t i)]), pv7, cp7, rfl, rfl, by omega, by rw [hot, hA], by first | omega | (simp; omega), (HP.drop (HP.drop hH37 5) 4)⟩)
  ·
    refine XL.pure (v := .bool false) 18 rfl (Nat.le_of_ble_eq_true rfl) rfl rfl (x_lss rfl rfl rfl (dF (hlt))) ?_
    refine XL.nil ?_
    refine XQ.then ?_
    refine hK20 _ _ _ _ ?_
    refine XC.seq fun K38 hK38 => ?_
    refine XC.no rfl ?_
    refine XC.exit ?_
    refine XQ.thenExit ?_
    refine XQ.thenExit ?_
    refine XQ.inExit ?_
    refine XQ.then ?_
    refine hK14 _ _ _ _ ?_
    refine XC.seq fun K39 hK39 => ?_
    refine XC.seq fun K40 hK40 => ?_
    refine XC.region ?_
    refine XL.pure (v := .slice p t.length cp) 36 rfl (Nat.le_of_ble_eq_true rfl) rfl rfl (by kernel_rfl) ?_
    refine XL.pure (v := vP b5 0) 37 rfl (Nat.le_of_ble_eq_true rfl) rfl rfl (by kernel_rfl) ?_
    refine XL.pure (v := vI s) 38 rfl (Nat.le_of_ble_eq_true rfl) rfl rfl (x_load rfl rfl Try.underlying3 rfl (HP.cell hH19 0 rfl rfl)) ?_
    refine XL.pure (v := vI x) 39 rfl (Nat.le_of_ble_eq_true rfl) rfl rfl (by kernel_rfl) ?_
    have hA9 : A = outT s x t := by rw [hA, List.take_of_length_le (by omega)]
    subst hA9
    refine XL.call (f := 97) (args := #[.slice p t.length cp, vI s, vI x]) 40 rfl (Nat.le_of_ble_eq_true rfl) rfl rfl (by kernel_rfl) ?_
    refine (others_any p t cp s x _).mono ?_
    rintro e w41 ⟨q3, q4, q5, rfl, hb42⟩
    refine ⟨_, rfl, ?_⟩
    have hH43 : HP Tr w _ [.cel b5 #[vI s, vI y, vI l, vI m] 23, .cel b7 #[vI d] 3, rowT pv (outT s x t).length cp2 (outT s x t), .cel b9 #[.slice pv (outT s x t).length cp2] 88, .cel q3 #[.slice p t.length cp] 88, .cel q4 #[vI s] 3, .cel q5 #[vI x] 3] := HP.trans hH19 hb42
    refine XL.nil ?_
    refine XQ.then ?_
    refine hK40 _ _ _ _ ?_
    refine XC.block ?_
    have hbase : outT s x t = outT s x t ++ oldT y d [] := by simp [oldT]
    have hW8 := hH43
    have hosl := osA_len s x ta
    have houl := outT_len s x t
    have hl9 : t.length = ta.length := by rw [ht9]; simp
    refine XC.rangeFunc2 (w0 := w) (Hf := fun (pre : List TV) (gx : Option Addr × Nat) => [Go.Proofs.Ytmjnakhpekbenaa.Fw.Ent.cel b5 #[vI s, vI y, vI l, vI m] 23, Go.Proofs.Ytmjnakhpekbenaa.Fw.Ent.cel b7 #[vI d] 3, rowT gx.1 (outT s x t ++ oldT y d pre).length gx.2 (outT s x t ++ oldT y d pre), Go.Proofs.Ytmjnakhpekbenaa.Fw.Ent.cel b9 #[.slice gx.1 (outT s x t ++ oldT y d pre).length gx.2] 88, Go.Proofs.Ytmjnakhpekbenaa.Fw.Ent.cel q3 #[.slice p t.length cp] 88, Go.Proofs.Ytmjnakhpekbenaa.Fw.Ent.cel q4 #[vI s] 3, Go.Proofs.Ytmjnakhpekbenaa.Fw.Ent.cel q5 #[vI x] 3]) (KB := [q3, q4, q5]) rfl (enters_of Try.func111 (by kernel_rfl) rfl) (fun q : TV => vI q.1.1) (fun q : TV => vI q.1.2) (others_stops w.heap.size _ q3 q4 q5 p ta t ht9 cp s x hs0 (by omega) (HP.below hW8).size (rd_of hW8 hT (by simp) (by simp) (by simp))) ?_ (pv, cp2) (HP.eq hW8 (by simp [oldT])) (by decide) (by decide) (by decide) (by decide) (by decide) (by decide) ?_ ?_
    · intro bb hbb
      simp only [List.mem_cons, List.not_mem_nil, or_false] at hbb
      rcases hbb with rfl | rfl | rfl
      · exact ⟨_, _, fun pre gx => List.mem_of_getElem? (i := 4) rfl⟩
      · exact ⟨_, _, fun pre gx => List.mem_of_getElem? (i := 5) rfl⟩
      · exact ⟨_, _, fun pre gx => List.mem_of_getElem? (i := 6) rfl⟩
    · rintro ll pre qx W ⟨pv9, cp9⟩ hlt hOB
      have hold9 := oldT_len y d pre
      have hqx := qx.2
      have hH44 : HP (Out [Go.Proofs.Ytmjnakhpekbenaa.Fw.Ent.cel b5 #[vI s, vI y, vI l, vI m] 23, Go.Proofs.Ytmjnakhpekbenaa.Fw.Ent.cel b7 #[vI d] 3, rowT pv9 (outT s x t ++ oldT y d pre).length cp9 (outT s x t ++ oldT y d pre), Go.Proofs.Ytmjnakhpekbenaa.Fw.Ent.cel b9 #[.slice pv9 (outT s x t ++ oldT y d pre).length cp9] 88, Go.Proofs.Ytmjnakhpekbenaa.Fw.Ent.cel q3 #[.slice p t.length cp] 88, Go.Proofs.Ytmjnakhpekbenaa.Fw.Ent.cel q4 #[vI s] 3, Go.Proofs.Ytmjnakhpekbenaa.Fw.Ent.cel q5 #[vI x] 3]) W W [.cel b5 #[vI s, vI y, vI l, vI m] 23, .cel b7 #[vI d] 3, rowT pv9 (outT s x t ++ oldT y d pre).length cp9 (outT s x t ++ oldT y d pre), .cel b9 #[.slice pv9 (outT s x t ++ oldT y d pre).length cp9] 88, .cel q3 #[.slice p t.length cp] 88, .cel q4 #[vI s] 3, .cel q5 #[vI x] 3] := HP.startB hOB
      refine XC.block ?_
      refine XC.seq fun K45 hK45 => ?_
      refine XC.seq fun K46 hK46 => ?_
      refine XC.region ?_
      refine XL.pure (v := vI qx.1.2) 43 rfl (Nat.le_of_ble_eq_true rfl) rfl rfl (by kernel_rfl) ?_
      refine XL.pure (v := vI d) 44 rfl (Nat.le_of_ble_eq_true rfl) rfl rfl (x_load rfl rfl Try.underlying3 rfl (HP.cell hH44 1 rfl rfl)) ?_
      by_cases h45 : qx.1.2 < d
      ·
        refine XL.pure (v := .bool true) 45 rfl (Nat.le_of_ble_eq_true rfl) rfl rfl (x_lss rfl rfl rfl (dT (h45))) ?_
        refine XL.nil ?_
        refine XQ.then ?_
        refine hK46 _ _ _ _ ?_
        refine XC.sub (l' := [(0, .slice p t.length cp), (2, vI x), (5, vP b5 0), (7, vP b7 0), (9, vP b9 0), (12, vI qx.1.1), (13, vI qx.1.2), (15, .slice p t.length cp), (16, vI (t.length : Int)), (17, vI (i : Int)), (18, .bool false), (45, .bool true)]) ⟨rfl, rfl, rfl, rfl, rfl, rfl, rfl, rfl, rfl, rfl, rfl, rfl, trivial⟩ ?_
        refine XC.yes rfl ?_
        refine XC.region ?_
        refine XL.pure (v := vI qx.1.2) 46 rfl (Nat.le_of_ble_eq_true rfl) rfl rfl (by kernel_rfl) ?_
        refine XL.pure (v := vI (qx.1.2 + 1)) 47 rfl (Nat.le_of_ble_eq_true rfl) rfl rfl (x_add (Z := qx.1.2 + 1) rfl rfl rfl (by omega) (by omega) (by omega)) ?_
        refine XL.pure (v := vI (qx.1.2 + 1)) 13 rfl (Nat.le_of_ble_eq_true rfl) rfl rfl (by kernel_rfl) ?_
        refine XL.nil ?_
        refine XQ.then ?_
        refine hK45 _ _ _ _ ?_
        refine XC.seq fun K47 hK47 => ?_
        refine XC.region ?_
        refine XL.pure (v := vI (qx.1.2 + 1)) 48 rfl (Nat.le_of_ble_eq_true rfl) rfl rfl (by kernel_rfl) ?_
        refine XL.pure (v := vP b5 1) 49 rfl (Nat.le_of_ble_eq_true rfl) rfl rfl (by kernel_rfl) ?_
        refine XL.pure (v := vI y) 50 rfl (Nat.le_of_ble_eq_true rfl) rfl rfl (x_load rfl rfl Try.underlying3 rfl (HP.cell hH44 0 rfl rfl)) ?_
        by_cases h51 : qx.1.2 + 1 < y
        ·
          refine XL.pure (v := .bool true) 51 rfl (Nat.le_of_ble_eq_true rfl) rfl rfl (x_lss rfl rfl rfl (dT (h51))) ?_
          refine XL.nil ?_
          refine XQ.then ?_
          refine hK47 _ _ _ _ ?_
          refine XC.sub (l' := [(0, .slice p t.length cp), (2, vI x), (5, vP b5 0), (7, vP b7 0), (9, vP b9 0), (12, vI qx.1.1), (13, vI (qx.1.2 + 1)), (15, .slice p t.length cp), (16, vI (t.length : Int)), (17, vI (i : Int)), (18, .bool false), (45, .bool true), (51, .bool true)]) ⟨rfl, rfl, rfl, rfl, rfl, rfl, rfl, rfl, rfl, rfl, rfl, rfl, rfl, trivial⟩ ?_
          refine XC.yes rfl ?_
          refine XC.region ?_
          refine XL.pure (v := .slice pv9 ((outT s x t ++ oldT y d pre).length) cp9) 52 rfl (Nat.le_of_ble_eq_true rfl) rfl rfl (x_load rfl rfl Try.underlying88 rfl (HP.cell hH44 3 rfl rfl)) ?_
          refine XL.pure (v := vI qx.1.1) 53 rfl (Nat.le_of_ble_eq_true rfl) rfl rfl (by kernel_rfl) ?_
          refine XL.pure (v := vI (qx.1.2 + 1)) 54 rfl (Nat.le_of_ble_eq_true rfl) rfl rfl (by kernel_rfl) ?_
          refine XL.pure (v := .agg #[vI qx.1.1, vI (qx.1.2 + 1)]) 55 rfl (Nat.le_of_ble_eq_true rfl) rfl rfl (by kernel_rfl) ?_
          refine XL.alloc (c := #[vI qx.1.1, vI (qx.1.2 + 1)]) (T := 83) hH44 56 rfl (by decide) rfl rfl (fun b56 => vS b56 1 1) (by kernel_rfl) (fun b56 w48 hw48 => ?_)
          have hH49 : HP (Out [Go.Proofs.Ytmjnakhpekbenaa.Fw.Ent.cel b5 #[vI s, vI y, vI l, vI m] 23, Go.Proofs.Ytmjnakhpekbenaa.Fw.Ent.cel b7 #[vI d] 3, rowT pv9 (outT s x t ++ oldT y d pre).length cp9 (outT s x t ++ oldT y d pre), Go.Proofs.Ytmjnakhpekbenaa.Fw.Ent.cel b9 #[.slice pv9 (outT s x t ++ oldT y d pre).length cp9] 88, Go.Proofs.Ytmjnakhpekbenaa.Fw.Ent.cel q3 #[.slice p t.length cp] 88, Go.Proofs.Ytmjnakhpekbenaa.Fw.Ent.cel q4 #[vI s] 3, Go.Proofs.Ytmjnakhpekbenaa.Fw.Ent.cel q5 #[vI x] 3]) W w48 [.cel b5 #[vI s, vI y, vI l, vI m] 23, .cel b7 #[vI d] 3, rowT pv9 (outT s x t ++ oldT y d pre).length cp9 (outT s x t ++ oldT y d pre), .cel b9 #[.slice pv9 (outT s x t ++ oldT y d pre).length cp9] 88, .cel q3 #[.slice p t.length cp] 88, .cel q4 #[vI s] 3, .cel q5 #[vI x] 3, .cel b56 #[vI qx.1.1, vI (qx.1.2 + 1)] 83] := hw48.2
          have nb56 := hw48.1
          clear hw48
          obtain ⟨i0, hi0, hz0, hz1, hz2⟩ := infoT
          refine XL.append (news := [vI qx.1.1, vI (qx.1.2 + 1)]) 2 7 hH49 57 rfl (by decide) rfl rfl rfl rfl Try.underlying88 hi0 hz0 hz1 hz2 rfl (by decide) rfl rfl rfl rfl (by simp [Value.oneCell']) (by unfold maxLen; rw [List.length_append]; omega) (by rw [List.length_append]; omega) ?_
          rintro v7 w7 - hA7
          obtain ⟨pv7, cp7, rfl⟩ := own_row (HP.get hA7 2 rfl)
          have e7 : (outT s x t ++ oldT y d pre).length + 1 = ((outT s x t ++ oldT y d pre) ++ [(qx.1.1, qx.1.2 + 1)]).length := (len1 _ _).symm
          rw [tL_push, e7] at hA7
          rw [e7]
          have hH50 : HP (Out [Go.Proofs.Ytmjnakhpekbenaa.Fw.Ent.cel b5 #[vI s, vI y, vI l, vI m] 23, Go.Proofs.Ytmjnakhpekbenaa.Fw.Ent.cel b7 #[vI d] 3, rowT pv9 (outT s x t ++ oldT y d pre).length cp9 (outT s x t ++ oldT y d pre), Go.Proofs.Ytmjnakhpekbenaa.Fw.Ent.cel b9 #[.slice pv9 (outT s x t ++ oldT y d pre).length cp9] 88, Go.Proofs.Ytmjnakhpekbenaa.Fw.Ent.cel q3 #[.slice p t.length cp] 88, Go.Proofs.Ytmjnakhpekbenaa.Fw.Ent.cel q4 #[vI s] 3, Go.Proofs.Ytmjnakhpekbenaa.Fw.Ent.cel q5 #[vI x] 3]) W _ [.cel b5 #[vI s, vI y, vI l, vI m] 23, .cel b7 #[vI d] 3, rowT pv7 ((outT s x t ++ oldT y d pre) ++ [(qx.1.1, qx.1.2 + 1)]).length cp7 ((outT s x t ++ oldT y d pre) ++ [(qx.1.1, qx.1.2 + 1)]), .cel b9 #[.slice pv9 (outT s x t ++ oldT y d pre).length cp9] 88, .cel q3 #[.slice p t.length cp] 88, .cel q4 #[vI s] 3, .cel q5 #[vI x] 3, .cel b56 #[vI qx.1.1, vI (qx.1.2 + 1)] 83] := hA7
          refine XL.store (H2 := [.cel b5 #[vI s, vI y, vI l, vI m] 23, .cel b7 #[vI d] 3, rowT pv7 ((outT s x t ++ oldT y d pre) ++ [(qx.1.1, qx.1.2 + 1)]).length cp7 ((outT s x t ++ oldT y d pre) ++ [(qx.1.1, qx.1.2 + 1)]), .cel b9 #[.slice pv7 (((outT s x t ++ oldT y d pre) ++ [(qx.1.1, qx.1.2 + 1)]).length) cp7] 88, .cel q3 #[.slice p t.length cp] 88, .cel q4 #[vI s] 3, .cel q5 #[vI x] 3, .cel b56 #[vI qx.1.1, vI (qx.1.2 + 1)] 83]) 3 hH50 rfl rfl rfl rfl rfl rfl sz88 rfl (Nat.le_of_ble_eq_true rfl) rfl rfl ?_
          intro w51 hH52
          refine XL.nil ?_
          refine XQ.inNormal ?_
          exact fun _ _ => ⟨(pv7, cp7), HP.eq (HP.drop hH52 7) (by rw [old_snoc, show old1 y d qx.1 = [(qx.1.1, qx.1.2 + 1)] by unfold old1; simp [h45, h51], ← List.append_assoc]; rfl)⟩
        ·
          refine XL.pure (v := .bool false) 51 rfl (Nat.le_of_ble_eq_true rfl) rfl rfl (x_lss rfl rfl rfl (dF (h51))) ?_
          refine XL.nil ?_
          refine XQ.then ?_
          refine hK47 _ _ _ _ ?_
          refine XC.sub (l' := [(0, .slice p t.length cp), (2, vI x), (5, vP b5 0), (7, vP b7 0), (9, vP b9 0), (12, vI qx.1.1), (13, vI (qx.1.2 + 1)), (15, .slice p t.length cp), (16, vI (t.length : Int)), (17, vI (i : Int)), (18, .bool false), (45, .bool true), (51, .bool false)]) ⟨rfl, rfl, rfl, rfl, rfl, rfl, rfl, rfl, rfl, rfl, rfl, rfl, rfl, trivial⟩ ?_
          refine XC.no rfl ?_
          refine XC.skip ?_
          refine XQ.inNormal ?_
          exact fun _ _ => ⟨(pv9, cp9), HP.eq hH44 (by rw [old_snoc, show old1 y d qx.1 = [] by unfold old1; simp [h45, h51], List.append_nil])⟩
      ·
        refine XL.pure (v := .bool false) 45 rfl (Nat.le_of_ble_eq_true rfl) rfl rfl (x_lss rfl rfl rfl (dF (h45))) ?_
        refine XL.nil ?_
        refine XQ.then ?_
        refine hK46 _ _ _ _ ?_
        refine XC.sub (l' := [(0, .slice p t.length cp), (2, vI x), (5, vP b5 0), (7, vP b7 0), (9, vP b9 0), (12, vI qx.1.1), (13, vI qx.1.2), (15, .slice p t.length cp), (16, vI (t.length : Int)), (17, vI (i : Int)), (18, .bool false), (45, .bool false)]) ⟨rfl, rfl, rfl, rfl, rfl, rfl, rfl, rfl, rfl, rfl, rfl, rfl, trivial⟩ ?_
        refine XC.no rfl ?_
        refine XC.skip ?_
        refine XQ.then ?_
        refine hK45 _ _ _ _ ?_
        refine XC.seq fun K53 hK53 => ?_
        refine XC.region ?_
        refine XL.pure (v := vI qx.1.2) 48 rfl (Nat.le_of_ble_eq_true rfl) rfl rfl (by kernel_rfl) ?_
        refine XL.pure (v := vP b5 1) 49 rfl (Nat.le_of_ble_eq_true rfl) rfl rfl (by kernel_rfl) ?_
        refine XL.pure (v := vI y) 50 rfl (Nat.le_of_ble_eq_true rfl) rfl rfl (x_load rfl rfl Try.underlying3 rfl (HP.cell hH44 0 rfl rfl)) ?_
        by_cases h51 : qx.1.2 < y
        ·
          refine XL.pure (v := .bool true) 51 rfl (Nat.le_of_ble_eq_true rfl) rfl rfl (x_lss rfl rfl rfl (dT (h51))) ?_
          refine XL.nil ?_
          refine XQ.then ?_
          refine hK53 _ _ _ _ ?_
          refine XC.yes rfl ?_
          refine XC.region ?_
          refine XL.pure (v := .slice pv9 ((outT s x t ++ oldT y d pre).length) cp9) 52 rfl (Nat.le_of_ble_eq_true rfl) rfl rfl (x_load rfl rfl Try.underlying88 rfl (HP.cell hH44 3 rfl rfl)) ?_
          refine XL.pure (v := vI qx.1.1) 53 rfl (Nat.le_of_ble_eq_true rfl) rfl rfl (by kernel_rfl) ?_
          refine XL.pure (v := vI qx.1.2) 54 rfl (Nat.le_of_ble_eq_true rfl) rfl rfl (by kernel_rfl) ?_
          refine XL.pure (v := .agg #[vI qx.1.1, vI qx.1.2]) 55 rfl (Nat.le_of_ble_eq_true rfl) rfl rfl (by kernel_rfl) ?_
          refine XL.alloc (c := #[vI qx.1.1, vI qx.1.2]) (T := 83) hH44 56 rfl (by decide) rfl rfl (fun b56 => vS b56 1 1) (by kernel_rfl) (fun b56 w54 hw54 => ?_)
          have hH55 : HP (Out [Go.Proofs.Ytmjnakhpekbenaa.Fw.Ent.cel b5 #[vI s, vI y, vI l, vI m] 23, Go.Proofs.Ytmjnakhpekbenaa.Fw.Ent.cel b7 #[vI d] 3, rowT pv9 (outT s x t ++ oldT y d pre).length cp9 (outT s x t ++ oldT y d pre), Go.Proofs.Ytmjnakhpekbenaa.Fw.Ent.cel b9 #[.slice pv9 (outT s x t ++ oldT y d pre).length cp9] 88, Go.Proofs.Ytmjnakhpekbenaa.Fw.Ent.cel q3 #[.slice p t.length cp] 88, Go.Proofs.Ytmjnakhpekbenaa.Fw.Ent.cel q4 #[vI s] 3, Go.Proofs.Ytmjnakhpekbenaa.Fw.Ent.cel q5 #[vI x] 3]) W w54 [.cel b5 #[vI s, vI y, vI l, vI m] 23, .cel b7 #[vI d] 3, rowT pv9 (outT s x t ++ oldT y d pre).length cp9 (outT s x t ++ oldT y d pre), .cel b9 #[.slice pv9 (outT s x t ++ oldT y d pre).length cp9] 88, .cel q3 #[.slice p t.length cp] 88, .cel q4 #[vI s] 3, .cel q5 #[vI x] 3, .cel b56 #[vI qx.1.1, vI qx.1.2] 83] := hw54.2
          have nb56 := hw54.1
          clear hw54
          obtain ⟨i0, hi0, hz0, hz1, hz2⟩ := infoT
          refine XL.append (news := [vI qx.1.1, vI qx.1.2]) 2 7 hH55 57 rfl (by decide) rfl rfl rfl rfl Try.underlying88 hi0 hz0 hz1 hz2 rfl (by decide) rfl rfl rfl rfl (by simp [Value.oneCell']) (by unfold maxLen; rw [List.length_append]; omega) (by rw [List.length_append]; omega) ?_
          rintro v7 w7 - hA7
          obtain ⟨pv7, cp7, rfl⟩ := own_row (HP.get hA7 2 rfl)
          have e7 : (outT s x t ++ oldT y d pre).length + 1 = ((outT s x t ++ oldT y d pre) ++ [(qx.1.1, qx.1.2)]).length := (len1 _ _).symm
          rw [tL_push, e7] at hA7
          rw [e7]
          have hH56 : HP (Out [Go.Proofs.Ytmjnakhpekbenaa.Fw.Ent.cel b5 #[vI s, vI y, vI l, vI m] 23, Go.Proofs.Ytmjnakhpekbenaa.Fw.Ent.cel b7 #[vI d] 3, rowT pv9 (outT s x t ++ oldT y d pre).length cp9 (outT s x t ++ oldT y d pre), Go.Proofs.Ytmjnakhpekbenaa.Fw.Ent.cel b9 #[.slice pv9 (outT s x t ++ oldT y d pre).length cp9] 88, Go.Proofs.Ytmjnakhpekbenaa.Fw.Ent.cel q3 #[.slice p t.length cp] 88, Go.Proofs.Ytmjnakhpekbenaa.Fw.Ent.cel q4 #[vI s] 3, Go.Proofs.Ytmjnakhpekbenaa.Fw.Ent.cel q5 #[vI x] 3]) W _ [.cel b5 #[vI s, vI y, vI l, vI m] 23, .cel b7 #[vI d] 3, rowT pv7 ((outT s x t ++ oldT y d pre) ++ [(qx.1.1, qx.1.2)]).length cp7 ((outT s x t ++ oldT y d pre) ++ [(qx.1.1, qx.1.2)]), .cel b9 #[.slice pv9 (outT s x t ++ oldT y d pre).length cp9] 88, .cel q3 #[.slice p t.length cp] 88, .cel q4 #[vI s] 3, .cel q5 #[vI x] 3, .cel b56 #[vI qx.1.1, vI qx.1.2] 83] := hA7
          refine XL.store (H2 := [.cel b5 #[vI s, vI y, vI l, vI m] 23, .cel b7 #[vI d] 3, rowT pv7 ((outT s x t ++ oldT y d pre) ++ [(qx.1.1, qx.1.2)]).length cp7 ((outT s x t ++ oldT y d pre) ++ [(qx.1.1, qx.1.2)]), .cel b9 #[.slice pv7 (((outT s x t ++ oldT y d pre) ++ [(qx.1.1, qx.1.2)]).length) cp7] 88, .cel q3 #[.slice p t.length cp] 88, .cel q4 #[vI s] 3, .cel q5 #[vI x] 3, .cel b56 #[vI qx.1.1, vI qx.1.2] 83]) 3 hH56 rfl rfl rfl rfl rfl rfl sz88 rfl (Nat.le_of_ble_eq_true rfl) rfl rfl ?_
          intro w57 hH58
          refine XL.nil ?_
          refine XQ.inNormal ?_
          exact fun _ _ => ⟨(pv7, cp7), HP.eq (HP.drop hH58 7) (by rw [old_snoc, show old1 y d qx.1 = [(qx.1.1, qx.1.2)] by unfold old1; simp [h45, h51], ← List.append_assoc]; rfl)⟩
        ·
          refine XL.pure (v := .bool false) 51 rfl (Nat.le_of_ble_eq_true rfl) rfl rfl (x_lss rfl rfl rfl (dF (h51))) ?_
          refine XL.nil ?_
          refine XQ.then ?_
          refine hK53 _ _ _ _ ?_
          refine XC.no rfl ?_
          refine XC.skip ?_
          refine XQ.inNormal ?_
          exact fun _ _ => ⟨(pv9, cp9), HP.eq hH44 (by rw [old_snoc, show old1 y d qx.1 = [] by unfold old1; simp [h45, h51], List.append_nil])⟩
    · rintro D xs W ⟨pv8, cp8⟩ hD rfl hF8 hK8
      have hold9 := oldT_len y d (osA s x ta)
      have hH59 : HP (Out [Go.Proofs.Ytmjnakhpekbenaa.Fw.Ent.cel b5 #[vI s, vI y, vI l, vI m] 23, Go.Proofs.Ytmjnakhpekbenaa.Fw.Ent.cel b7 #[vI d] 3, rowT pv8 (outT s x t ++ oldT y d (osA s x ta)).length cp8 (outT s x t ++ oldT y d (osA s x ta)), Go.Proofs.Ytmjnakhpekbenaa.Fw.Ent.cel b9 #[.slice pv8 (outT s x t ++ oldT y d (osA s x ta)).length cp8] 88, Go.Proofs.Ytmjnakhpekbenaa.Fw.Ent.cel q3 #[.slice p t.length cp] 88, Go.Proofs.Ytmjnakhpekbenaa.Fw.Ent.cel q4 #[vI s] 3, Go.Proofs.Ytmjnakhpekbenaa.Fw.Ent.cel q5 #[vI x] 3]) W W [.cel b5 #[vI s, vI y, vI l, vI m] 23, .cel b7 #[vI d] 3, rowT pv8 (outT s x t ++ oldT y d (osA s x ta)).length cp8 (outT s x t ++ oldT y d (osA s x ta)), .cel b9 #[.slice pv8 (outT s x t ++ oldT y d (osA s x ta)).length cp8] 88, .cel q3 #[.slice p t.length cp] 88, .cel q4 #[vI s] 3, .cel q5 #[vI x] 3] := HP.startB ⟨hF8.hold, hF8.apart⟩
      refine XQ.inNormal ?_
      refine XQ.then ?_
      refine hK39 _ _ _ _ ?_
      refine XC.seq fun K60 hK60 => ?_
      refine XC.region ?_
      refine XL.pure (v := .slice pv8 ((outT s x t ++ oldT y d (osA s x ta)).length) cp8) 58 rfl (Nat.le_of_ble_eq_true rfl) rfl rfl (x_load rfl rfl Try.underlying88 rfl (HP.cell hH59 3 rfl rfl)) ?_
      refine XL.pure (v := vI x) 59 rfl (Nat.le_of_ble_eq_true rfl) rfl rfl (by kernel_rfl) ?_
      refine XL.pure (v := .agg #[vI x, vI 0]) 60 rfl (Nat.le_of_ble_eq_true rfl) rfl rfl (by kernel_rfl) ?_
      refine XL.alloc (c := #[vI x, vI 0]) (T := 83) hH59 61 rfl (by decide) rfl rfl (fun b61 => vS b61 1 1) (by kernel_rfl) (fun b61 w61 hw61 => ?_)
      have hH62 : HP (Out [Go.Proofs.Ytmjnakhpekbenaa.Fw.Ent.cel b5 #[vI s, vI y, vI l, vI m] 23, Go.Proofs.Ytmjnakhpekbenaa.Fw.Ent.cel b7 #[vI d] 3, rowT pv8 (outT s x t ++ oldT y d (osA s x ta)).length cp8 (outT s x t ++ oldT y d (osA s x ta)), Go.Proofs.Ytmjnakhpekbenaa.Fw.Ent.cel b9 #[.slice pv8 (outT s x t ++ oldT y d (osA s x ta)).length cp8] 88, Go.Proofs.Ytmjnakhpekbenaa.Fw.Ent.cel q3 #[.slice p t.length cp] 88, Go.Proofs.Ytmjnakhpekbenaa.Fw.Ent.cel q4 #[vI s] 3, Go.Proofs.Ytmjnakhpekbenaa.Fw.Ent.cel q5 #[vI x] 3]) W w61 [.cel b5 #[vI s, vI y, vI l, vI m] 23, .cel b7 #[vI d] 3, rowT pv8 (outT s x t ++ oldT y d (osA s x ta)).length cp8 (outT s x t ++ oldT y d (osA s x ta)), .cel b9 #[.slice pv8 (outT s x t ++ oldT y d (osA s x ta)).length cp8] 88, .cel q3 #[.slice p t.length cp] 88, .cel q4 #[vI s] 3, .cel q5 #[vI x] 3, .cel b61 #[vI x, vI 0] 83] := hw61.2
      have nb61 := hw61.1
      clear hw61
      obtain ⟨i0, hi0, hz0, hz1, hz2⟩ := infoT
      refine XL.append (news := [vI x, vI 0]) 2 7 hH62 62 rfl (by decide) rfl rfl rfl rfl Try.underlying88 hi0 hz0 hz1 hz2 rfl (by decide) rfl rfl rfl rfl (by simp [Value.oneCell']) (by unfold maxLen; rw [List.length_append]; omega) (by rw [List.length_append]; omega) ?_
      rintro v7 w7 - hA7
      obtain ⟨pv7, cp7, rfl⟩ := own_row (HP.get hA7 2 rfl)
      have e7 : (outT s x t ++ oldT y d (osA s x ta)).length + 1 = ((outT s x t ++ oldT y d (osA s x ta)) ++ [(x, 0)]).length := (len1 _ _).symm
      rw [tL_push, e7] at hA7
      rw [e7]
      have hH63 : HP (Out [Go.Proofs.Ytmjnakhpekbenaa.Fw.Ent.cel b5 #[vI s, vI y, vI l, vI m] 23, Go.Proofs.Ytmjnakhpekbenaa.Fw.Ent.cel b7 #[vI d] 3, rowT pv8 (outT s x t ++ oldT y d (osA s x ta)).length cp8 (outT s x t ++ oldT y d (osA s x ta)), Go.Proofs.Ytmjnakhpekbenaa.Fw.Ent.cel b9 #[.slice pv8 (outT s x t ++ oldT y d (osA s x ta)).length cp8] 88, Go.Proofs.Ytmjnakhpekbenaa.Fw.Ent.cel q3 #[.slice p t.length cp] 88, Go.Proofs.Ytmjnakhpekbenaa.Fw.Ent.cel q4 #[vI s] 3, Go.Proofs.Ytmjnakhpekbenaa.Fw.Ent.cel q5 #[vI x] 3]) W _ [.cel b5 #[vI s, vI y, vI l, vI m] 23, .cel b7 #[vI d] 3, rowT pv7 ((outT s x t ++ oldT y d (osA s x ta)) ++ [(x, 0)]).length cp7 ((outT s x t ++ oldT y d (osA s x ta)) ++ [(x, 0)]), .cel b9 #[.slice pv8 (outT s x t ++ oldT y d (osA s x ta)).length cp8] 88, .cel q3 #[.slice p t.length cp] 88, .cel q4 #[vI s] 3, .cel q5 #[vI x] 3, .cel b61 #[vI x, vI 0] 83] := hA7
      refine XL.store (H2 := [.cel b5 #[vI s, vI y, vI l, vI m] 23, .cel b7 #[vI d] 3, rowT pv7 ((outT s x t ++ oldT y d (osA s x ta)) ++ [(x, 0)]).length cp7 ((outT s x t ++ oldT y d (osA s x ta)) ++ [(x, 0)]), .cel b9 #[.slice pv7 (((outT s x t ++ oldT y d (osA s x ta)) ++ [(x, 0)]).length) cp7] 88, .cel q3 #[.slice p t.length cp] 88, .cel q4 #[vI s] 3, .cel q5 #[vI x] 3, .cel b61 #[vI x, vI 0] 83]) 3 hH63 rfl rfl rfl rfl rfl rfl sz88 rfl (Nat.le_of_ble_eq_true rfl) rfl rfl ?_
      intro w64 hH65
      refine XL.nil ?_
      refine XQ.then ?_
      refine hK60 _ _ _ _ ?_
      refine XC.sub (l' := [(0, .slice p t.length cp), (2, vI x), (5, vP b5 0), (7, vP b7 0), (9, vP b9 0), (15, .slice p t.length cp), (16, vI (t.length : Int)), (17, vI (i : Int)), (18, .bool false)]) ⟨rfl, rfl, rfl, rfl, rfl, rfl, rfl, rfl, rfl, trivial⟩ ?_
      refine XC.seq fun K66 hK66 => ?_
      refine XC.region ?_
      refine XL.pure (v := .slice pv7 (((outT s x t ++ oldT y d (osA s x ta)) ++ [(x, 0)]).length) cp7) 63 rfl (Nat.le_of_ble_eq_true rfl) rfl rfl (x_load rfl rfl Try.underlying88 rfl (HP.cell hH65 3 rfl rfl)) ?_
      refine XL.call (f := 98) (args := #[.slice pv7 (((outT s x t ++ oldT y d (osA s x ta)) ++ [(x, 0)]).length) cp7, .func (.func 99) #[] #[]]) 64 rfl (Nat.le_of_ble_eq_true rfl) rfl rfl (by kernel_rfl) ?_
      refine (SortFunc_any pv7 cp7 ((outT s x t ++ oldT y d (osA s x ta)) ++ [(x, 0)]) _ (HP.ownM (A := [Go.Proofs.Ytmjnakhpekbenaa.Fw.Ent.cel b5 #[vI s, vI y, vI l, vI m] 23, Go.Proofs.Ytmjnakhpekbenaa.Fw.Ent.cel b7 #[vI d] 3]) (R := [rowT pv7 ((outT s x t ++ oldT y d (osA s x ta)) ++ [(x, 0)]).length cp7 ((outT s x t ++ oldT y d (osA s x ta)) ++ [(x, 0)])]) (C := [Go.Proofs.Ytmjnakhpekbenaa.Fw.Ent.cel b9 #[.slice pv7 (((outT s x t ++ oldT y d (osA s x ta)) ++ [(x, 0)]).length) cp7] 88, Go.Proofs.Ytmjnakhpekbenaa.Fw.Ent.cel q3 #[.slice p t.length cp] 88, Go.Proofs.Ytmjnakhpekbenaa.Fw.Ent.cel q4 #[vI s] 3, Go.Proofs.Ytmjnakhpekbenaa.Fw.Ent.cel q5 #[vI x] 3, Go.Proofs.Ytmjnakhpekbenaa.Fw.Ent.cel b61 #[vI x, vI 0] 83]) hH65) (by rw [len1]; omega) (by rw [len1, List.length_append]; omega)).mono ?_
      rintro e w9 ⟨rfl, t', hp9, hle9, hb9⟩
      refine ⟨_, rfl, ?_⟩
      have hpl : t'.length = ((outT s x t ++ oldT y d (osA s x ta)) ++ [(x, 0)]).length := hp9.length_eq
      have hH67 : HP (Out [Go.Proofs.Ytmjnakhpekbenaa.Fw.Ent.cel b5 #[vI s, vI y, vI l, vI m] 23, Go.Proofs.Ytmjnakhpekbenaa.Fw.Ent.cel b7 #[vI d] 3, rowT pv8 (outT s x t ++ oldT y d (osA s x ta)).length cp8 (outT s x t ++ oldT y d (osA s x ta)), Go.Proofs.Ytmjnakhpekbenaa.Fw.Ent.cel b9 #[.slice pv8 (outT s x t ++ oldT y d (osA s x ta)).length cp8] 88, Go.Proofs.Ytmjnakhpekbenaa.Fw.Ent.cel q3 #[.slice p t.length cp] 88, Go.Proofs.Ytmjnakhpekbenaa.Fw.Ent.cel q4 #[vI s] 3, Go.Proofs.Ytmjnakhpekbenaa.Fw.Ent.cel q5 #[vI x] 3]) W _ [.cel b5 #[vI s, vI y, vI l, vI m] 23, .cel b7 #[vI d] 3, rowT pv7 ((outT s x t ++ oldT y d (osA s x ta)) ++ [(x, 0)]).length cp7 t', .cel b9 #[.slice pv7 (((outT s x t ++ oldT y d (osA s x ta)) ++ [(x, 0)]).length) cp7] 88, .cel q3 #[.slice p t.length cp] 88, .cel q4 #[vI s] 3, .cel q5 #[vI x] 3, .cel b61 #[vI x, vI 0] 83] := HP.exchM (A := [Go.Proofs.Ytmjnakhpekbenaa.Fw.Ent.cel b5 #[vI s, vI y, vI l, vI m] 23, Go.Proofs.Ytmjnakhpekbenaa.Fw.Ent.cel b7 #[vI d] 3]) (R := [rowT pv7 ((outT s x t ++ oldT y d (osA s x ta)) ++ [(x, 0)]).length cp7 ((outT s x t ++ oldT y d (osA s x ta)) ++ [(x, 0)])]) (C := [Go.Proofs.Ytmjnakhpekbenaa.Fw.Ent.cel b9 #[.slice pv7 (((outT s x t ++ oldT y d (osA s x ta)) ++ [(x, 0)]).length) cp7] 88, Go.Proofs.Ytmjnakhpekbenaa.Fw.Ent.cel q3 #[.slice p t.length cp] 88, Go.Proofs.Ytmjnakhpekbenaa.Fw.Ent.cel q4 #[vI s] 3, Go.Proofs.Ytmjnakhpekbenaa.Fw.Ent.cel q5 #[vI x] 3, Go.Proofs.Ytmjnakhpekbenaa.Fw.Ent.cel b61 #[vI x, vI 0] 83]) hH65 hb9
      refine XL.nil ?_
      refine XQ.then ?_
      refine hK66 _ _ _ _ ?_
      refine XC.seq fun K68 hK68 => ?_
      refine XC.region ?_
      refine XL.pure (v := .slice pv7 (((outT s x t ++ oldT y d (osA s x ta)) ++ [(x, 0)]).length) cp7) 65 rfl (Nat.le_of_ble_eq_true rfl) rfl rfl (x_load rfl rfl Try.underlying88 rfl (HP.cell hH67 3 rfl rfl)) ?_
      refine XL.pure (v := .slice pv7 (((outT s x t ++ oldT y d (osA s x ta)) ++ [(x, 0)]).length) cp7) 8 rfl (Nat.le_of_ble_eq_true rfl) rfl rfl (by kernel_rfl) ?_
      refine XL.nil ?_
      refine XQ.then ?_
      refine hK68 _ _ _ _ ?_
      refine XC.ret ?_
      have hKD : (_ : World).heap[D]? = some (.deferred (some [])) := (hH67.keep D (Array.getElem?_eq_some_iff.1 hK8).1 (fun e he hq => by obtain ⟨c9, T9, z9, hc9⟩ := Fi.HPcells hF8 he hq; rw [hc9] at hK8; cases hK8)).trans hK8
      have hFin := HP.exch (A := []) hF8 hH67
      simp only [List.nil_append] at hFin
      refine XQ.ret1M 8 rfl rfl hKD ?_
      refine ⟨t', pv7, cp7, by rw [hpl], hp9, hle9, ?_⟩
      rw [← hpl] at hFin
      have hFin2 := (HP.drop (HP.drop (HP.drop (HP.drop (HP.drop (HP.drop (HP.drop hFin 7) 6) 5) 4) 3) 1) 0)
      exact Fi.HPgrown hFin2 (grownBy_putObj' _ D _) (fun r e => by cases e; exact ⟨by have := (HP.below hW8).size; omega, _, hKD, rfl⟩)
end Ca
end Go.Proofs.Ytmjnakhpekbenaa
namespace Go.Proofs.Ytmjnakhpekbenaa
open Go.RowKit Fw
namespace Ca
/-- what becomes of an entry -/
def stE (s y x d : Int) (q : T2) : List T2 := if q.1 = x then [] else if q.1.tmod s = x.tmod s then old1 y d q else if q.2 < y then [q] else []
/-- the table with the line put in -/
def rL (s y x d : Int) : List T2 → List T2
  | [] => [(x, 0)]
  | q :: r => if x ≤ q.1 then (x, 0) :: (q :: r).flatMap (stE s y x d) else stE s y x d q ++ rL s y x d r
theorem old1_fst {y d : Int} {q a : T2} (h : a ∈ old1 y d q) : a.1 = q.1 := by
  unfold old1 at h
  generalize (if q.2 < d then q.2 + 1 else q.2) = a9 at h
  split at h
  · rw [List.mem_singleton.1 h]
  · cases h
theorem stE_fst {s y x d : Int} {q a : T2} (h : a ∈ stE s y x d q) : a.1 = q.1 ∧ q.1 ≠ x := by
  unfold stE at h
  by_cases h1 : q.1 = x
  · rw [if_pos h1] at h; cases h
  · rw [if_neg h1] at h
    refine ⟨?_, h1⟩
    by_cases h2 : q.1.tmod s = x.tmod s
    · rw [if_pos h2] at h; exact old1_fst h
    · rw [if_neg h2] at h
      split at h
      · rw [List.mem_singleton.1 h]
      · cases h
theorem stE_len (s y x d : Int) (q : T2) : (stE s y x d q).length ≤ 1 := by
  unfold stE
  by_cases h1 : q.1 = x
  · rw [if_pos h1]; exact Nat.zero_le _
  · rw [if_neg h1]
    by_cases h2 : q.1.tmod s = x.tmod s
    · rw [if_pos h2]; exact old1_len y d q
    · rw [if_neg h2]; split
      · exact Nat.le_refl _
      · exact Nat.zero_le _
theorem fm_perm {s y x d : Int} : ∀ {ta : List TV}, (∀ q ∈ ta, q.1.2 < y) → ((ta.map (·.1)).flatMap (stE s y x d)).Perm (outT s x (ta.map (·.1)) ++ oldT y d (osA s x ta))
  | [], _ => by simp [outT, oldT, osA]
  | q :: r, h => by
    have ih := fm_perm (s := s) (x := x) (d := d) (ta := r) fun a ha => h a (List.mem_cons_of_mem _ ha)
    have hq := h q (by simp)
    simp only [List.map_cons, List.flatMap_cons]
    by_cases h2 : q.1.1.tmod s = x.tmod s
    · have ho : outT s x (q.1 :: r.map (·.1)) = outT s x (r.map (·.1)) := by unfold outT; rw [List.filter_cons, if_neg (by simp [h2])]
      by_cases h1 : q.1.1 = x
      · have hs : osA s x (q :: r) = osA s x r := by unfold osA inS; rw [List.filter_cons, if_neg (by simp [h1])]
        rw [ho, hs, show stE s y x d q.1 = [] by unfold stE; rw [if_pos h1], List.nil_append]
        exact ih
      · have hs : osA s x (q :: r) = q :: osA s x r := by unfold osA inS; rw [List.filter_cons, if_pos (by simp [h1, h2])]
        rw [ho, hs, show stE s y x d q.1 = old1 y d q.1 by unfold stE; rw [if_neg h1, if_pos h2], show oldT y d (q :: osA s x r) = old1 y d q.1 ++ oldT y d (osA s x r) by simp [oldT]]
        refine (ih.append_left _).trans ?_
        rw [← List.append_assoc, ← List.append_assoc]
        exact List.Perm.append_right _ List.perm_append_comm
    · have h1 : q.1.1 ≠ x := fun e => h2 (by rw [e])
      have ho : outT s x (q.1 :: r.map (·.1)) = q.1 :: outT s x (r.map (·.1)) := by unfold outT; rw [List.filter_cons, if_pos (by simp [h2])]
      have hs : osA s x (q :: r) = osA s x r := by unfold osA inS; rw [List.filter_cons, if_neg (by simp [h2])]
      rw [ho, hs, show stE s y x d q.1 = [q.1] by unfold stE; rw [if_neg h1, if_neg h2, if_pos hq]]
      exact ih.cons _
theorem rL_perm {s y x d : Int} : ∀ t : List T2, (rL s y x d t).Perm (t.flatMap (stE s y x d) ++ [(x, 0)])
  | [] => List.Perm.refl _
  | q :: r => by
    simp only [rL]
    split
    · exact List.perm_append_comm (l₁ := [(x, 0)])
    · rw [List.flatMap_cons, List.append_assoc]
      exact (rL_perm r).append_left _
def ltT (t : List T2) : Prop := t.Pairwise fun a b => a.1 < b.1
theorem fm_mem {s y x d : Int} {t : List T2} {a : T2} (h : a ∈ t.flatMap (stE s y x d)) : ∃ q ∈ t, a.1 = q.1 ∧ q.1 ≠ x := by
  obtain ⟨q, hq, ha⟩ := List.mem_flatMap.1 h
  exact ⟨q, hq, stE_fst ha⟩
theorem one_pair {l : List T2} {R : T2 → T2 → Prop} (h : l.length ≤ 1) : l.Pairwise R := by
  match l, h with
  | [], _ => exact List.Pairwise.nil
  | [a], _ => exact List.pairwise_singleton _ _
theorem fm_sorted {s y x d : Int} : ∀ {t : List T2}, sT t → ltT (t.flatMap (stE s y x d))
  | [], _ => List.Pairwise.nil
  | q :: r, h => by
    have hh := List.pairwise_cons.1 h
    rw [List.flatMap_cons]
    refine List.pairwise_append.2 ⟨one_pair (stE_len ..), fm_sorted hh.2, fun a ha b hb => ?_⟩
    obtain ⟨q', hq', e, -⟩ := fm_mem hb
    rw [(stE_fst ha).1, e]
    exact hh.1 q' hq'
theorem rL_mem {s y x d : Int} {t : List T2} {a : T2} (h : a ∈ rL s y x d t) : a.1 = x ∨ ∃ q ∈ t, a.1 = q.1 := by
  have := (rL_perm t).mem_iff.1 h
  rcases List.mem_append.1 this with h | h
  · obtain ⟨q, hq, e, -⟩ := fm_mem h; exact .inr ⟨q, hq, e⟩
  · rw [List.mem_singleton.1 h]; exact .inl rfl
theorem rL_sorted {s y x d : Int} : ∀ {t : List T2}, sT t → ltT (rL s y x d t)
  | [], _ => List.pairwise_singleton _ _
  | q :: r, h => by
    have hh := List.pairwise_cons.1 h
    simp only [rL]
    split
    · rename_i hx
      refine List.pairwise_cons.2 ⟨fun a ha => ?_, fm_sorted h⟩
      obtain ⟨q', hq', e, hne⟩ := fm_mem ha
      rw [e]
      show x < q'.1
      rcases List.mem_cons.1 hq' with rfl | hq'
      · omega
      · have := hh.1 q' hq'; omega
    · rename_i hx
      refine List.pairwise_append.2 ⟨one_pair (stE_len ..), rL_sorted hh.2, fun a ha b hb => ?_⟩
      rw [(stE_fst ha).1]
      rcases rL_mem hb with e | ⟨q', hq', e⟩
      · rw [e]; omega
      · rw [e]; exact hh.1 q' hq'
/-- two sorted lists of the same entries -/
theorem sorted_eq {a b : List T2} (hp : a.Perm b) (ha : leT a) (hb : ltT b) : a = b := by
  refine List.Perm.eq_of_pairwise (le := fun p q : T2 => p.1 ≤ q.1) (fun p q hp' hq' h1 h2 => ?_) ha (hb.imp fun h => Int.le_of_lt h) hp
  have hp2 := hp.mem_iff.1 hp'
  obtain ⟨i, hi, rfl⟩ := List.mem_iff_getElem.1 hp2
  obtain ⟨j, hj, rfl⟩ := List.mem_iff_getElem.1 hq'
  rcases Nat.lt_trichotomy i j with h | h | h
  · have := List.pairwise_iff_getElem.1 hb i j hi hj h; omega
  · subst h; rfl
  · have := List.pairwise_iff_getElem.1 hb j i hj hi h; omega
theorem aged_eq {s y x d : Int} {ta : List TV} {t t' : List T2} (ht : t = ta.map (·.1)) (hv : ∀ q ∈ ta, q.1.2 < y) (hs : sT t) (hp : t'.Perm (outT s x t ++ oldT y d (osA s x ta) ++ [(x, 0)])) (hl : leT t') : t' = rL s y x d t := by
  refine sorted_eq ?_ hl (rL_sorted hs)
  refine hp.trans (List.Perm.trans ?_ (rL_perm t).symm)
  subst ht
  exact (fm_perm hv).symm.append_right _
end Ca
end Go.Proofs.Ytmjnakhpekbenaa
namespace Go.Proofs.Ytmjnakhpekbenaa
open Go.RowKit Fw
namespace Ca
theorem age_some {t : List T2} {x a : Int} (h : ageT t x = some a) : ∃ i, i < t.length ∧ agT t i = a := by
  unfold ageT at h
  obtain ⟨q, hq, rfl⟩ := Option.map_eq_some_iff.1 h
  obtain ⟨i, hi, rfl⟩ := List.mem_iff_getElem.1 (List.mem_of_find?_eq_some hq)
  exact ⟨i, hi, agT_get hi⟩
def rest (s y x d : Int) (inn : Bool) (t : List T2) : List T2 := match inn with
  | true => t.flatMap (stE s y x d)
  | false => rL s y x d t
end Ca
end Go.Proofs.Ytmjnakhpekbenaa
namespace Go.Proofs.Ytmjnakhpekbenaa
open Go.RowKit Fw
namespace Ca
structure VT (s y l m : Int) (t : List T2) : Prop where
  s1 : 1 ≤ s
  s2 : s ≤ 8
  y1 : 1 ≤ y
  y2 : y ≤ 4
  l1 : 1 ≤ l
  l2 : l ≤ 8
  m1 : 0 ≤ m
  m2 : m ≤ 100
  ag : ∀ i, i < t.length → 0 ≤ agT t i ∧ agT t i ≤ y - 1
  ln : ∀ i, i < t.length → 0 ≤ lnT t i ∧ lnT t i ≤ 999
  so : sT t
  len : t.length ≤ 1000
theorem aged2_any (p : Option Addr) (t : List T2) (cp : Nat) (s y l m x d : Int) (w : World) (hT : InT w p t) (hV : VT s y l m t) (hd : -1000 ≤ d ∧ d ≤ 1000) :
    Calls Try.prog 82 #[.slice p t.length cp, .agg #[vI s, vI y, vI l, vI m], vI x, vI d] w fun e w' => ∃ pv cp', e = .returned (.slice pv (rL s y x d t).length cp') ∧ HP Tr w w' [rowT pv (rL s y x d t).length cp' (rL s y x d t)] := by
  have hl := hV.len
  obtain ⟨ta, hta⟩ := ta_of (t := t) fun i hi => by have := hV.ag i hi; have := hV.y2; omega
  refine (aged_any p t ta cp s y l m x d w hT hta (by have := hV.s1; omega) hd (by omega)).mono ?_
  rintro e w' ⟨t', pv, cp', rfl, hp, hle, hb⟩
  have := aged_eq (y := y) hta (fun q hq => by
    obtain ⟨i, hi, rfl⟩ := List.mem_iff_getElem.1 hq
    have h2 := hV.ag i (by rw [hta]; simpa using hi)
    have h3 := (ln_ta hta (List.getElem?_eq_getElem hi)).2
    rw [h3]; omega) hV.so hp hle
  subst this
  exact ⟨pv, cp', rfl, hb⟩
theorem age_bd {s y l m : Int} {t : List T2} (hV : VT s y l m t) (x : Int) : 0 ≤ (ageT t x).getD y ∧ (ageT t x).getD y ≤ 4 := by
  have h1 := hV.y1
  have h2 := hV.y2
  cases q : ageT t x with
  | none => simp; omega
  | some a => obtain ⟨i, hi, he⟩ := age_some q; have := hV.ag i hi; simp; omega
/-- a table touched -/
def tcH (s y x k : Int) (t : List T2) : List T2 := rL s y x ((ageT t x).getD y + k) t
def TcR (s y x k : Int) (t : List T2) (w : World) (e : Ending) (w' : World) : Prop := ∃ pv cp', e = .returned (.slice pv (tcH s y x k t).length cp') ∧ HP Tr w w' [rowT pv (tcH s y x k t).length cp' (tcH s y x k t)]
set_option maxRecDepth 20000 in
set_option maxHeartbeats 4000000 in
theorem touch0_any (p : Option Addr) (t : List T2) (cp : Nat) (s y l m x : Int) (w : World) (hT : InT w p t) (hV : VT s y l m t) :
    Calls Try.prog 59 #[.agg #[vI s, vI y, vI l, vI m], .slice p t.length cp, vI x] w (TcR s y x 0 t w) := by
  have hage := age_bd hV x
  refine calls_of Try.func59 rfl (m := 16) rfl [(0, .agg #[vI s, vI y, vI l, vI m]), (1, .slice p t.length cp), (2, vI x)] (Fr_enter [.agg #[vI s, vI y, vI l, vI m], .slice p t.length cp, vI x] 16 (Nat.le_of_ble_eq_true rfl)) ?_
  have hH1 : HP Tr w w [] := HP.refl w
  refine WC.seq fun K2 hK2 => ?_
  refine WC.region ?_
  refine WL.alloc (c := #[vI s, vI y, vI l, vI m]) (T := 23) hH1 3 rfl (by decide) rfl rfl (fun b3 => vP b3 0) (by kernel_rfl) (fun b3 w3 hw3 => ?_)
  have hH4 : HP Tr w w3 [.cel b3 #[vI s, vI y, vI l, vI m] 23] := hw3.2
  have nb3 := hw3.1
  clear hw3
  refine WL.pure (v := .slice none 0 0) 6 rfl (Nat.le_of_ble_eq_true rfl) rfl rfl (by kernel_rfl) ?_
  refine WL.nil ?_
  refine WQ.then ?_
  refine hK2 _ _ _ ?_
  refine WC.seq fun K5 hK5 => ?_
  refine WC.confG (γ := Option Addr × Nat × Unit) [(3, vP b3 0), (0, .agg #[vI s, vI y, vI l, vI m]), (1, .slice p t.length cp), (2, vI x)] (fun gy => [.slice p t.length cp, .agg #[vI s, vI y, vI l, vI m], vI x, .slice p t.length cp, vI x, vP b3 1, vI y, vI ((ageT t x).getD y), .slice gy.1 ((rL s y x ((ageT t x).getD y) t).length) gy.2.1, .slice gy.1 ((rL s y x ((ageT t x).getD y) t).length) gy.2.1]) (fun gy D wz => HP Tr w wz ([.cel b3 #[vI s, vI y, vI l, vI m] 23] ++ ((bif D 8 then [rowT gy.1 (rL s y x ((ageT t x).getD y) t).length gy.2.1 (rL s y x ((ageT t x).getD y) t)] else []) ++ []))) (none, 0, ()) (by kernel_rfl) ⟨rfl, rfl, rfl, rfl, trivial⟩ (by kernel_rfl) (by kernel_rfl) (by kernel_rfl) (fun _ => rfl) (by kernel_rfl) (HP.drew hH4) ?_ ?_
  · refine AllOk.cons ?o0 (AllOk.cons ?o1 (AllOk.cons ?o2 (AllOk.cons ?o3 (AllOk.cons ?o4 (AllOk.cons ?o5 (AllOk.cons ?o6 (AllOk.cons ?o7 (AllOk.cons ?o8 (AllOk.cons ?o9 (AllOk.nil _))))))))))
    case o0 =>
      intro gy D wz hDi hdep hclo hW
      exact .inl ⟨rfl, rfl, .inl ⟨gy, wz, fun _ _ => rfl, by kernel_rfl, hW⟩⟩
    case o1 =>
      intro gy D wz hDi hdep hclo hW
      exact .inl ⟨rfl, rfl, .inl ⟨gy, wz, fun _ _ => rfl, x_loadS (cs := [vI s, vI y, vI l, vI m]) rfl rfl Try.underlying23 rfl sz23 (HP.range hW 0 rfl rfl), hW⟩⟩
    case o2 =>
      intro gy D wz hDi hdep hclo hW
      exact .inl ⟨rfl, rfl, .inl ⟨gy, wz, fun _ _ => rfl, by kernel_rfl, hW⟩⟩
    case o3 =>
      intro gy D wz hDi hdep hclo hW
      exact .inl ⟨rfl, rfl, .inl ⟨gy, wz, fun _ _ => rfl, by kernel_rfl, hW⟩⟩
    case o4 =>
      intro gy D wz hDi hdep hclo hW
      exact .inl ⟨rfl, rfl, .inl ⟨gy, wz, fun _ _ => rfl, by kernel_rfl, hW⟩⟩
    case o5 =>
      intro gy D wz hDi hdep hclo hW
      exact .inl ⟨rfl, rfl, .inl ⟨gy, wz, fun _ _ => rfl, by kernel_rfl, hW⟩⟩
    case o6 =>
      intro gy D wz hDi hdep hclo hW
      exact .inl ⟨rfl, rfl, .inl ⟨gy, wz, fun _ _ => rfl, x_load rfl rfl Try.underlying3 rfl (HP.cell hW 0 rfl rfl), hW⟩⟩
    case o7 =>
      intro gy D wz hDi hdep hclo hW
      have d8 : D 8 = false := by
        cases h : D 8 with
        | false => rfl
        | true => exact absurd (hclo 8 _ rfl h ⟨7, .data⟩ (by simp) rfl) (by rw [hDi]; exact Bool.false_ne_true)
      have hW2 := hW
      simp only [d8, cond_true, cond_false, List.append_nil, List.nil_append, List.cons_append] at hW2
      exact .inl ⟨rfl, rfl, .inr (.inr ⟨68, #[.slice p t.length cp, vI x, vI y], by kernel_rfl, (age_any _ t _ _ (hT.below (HP.below hW)) x y (by have := hV.len; omega) hV.so).mono fun e w2 h => ⟨gy, fun _ _ => rfl, h.1, HP.call hW h.2⟩⟩)⟩
    case o8 =>
      intro gy D wz hDi hdep hclo hW
      have d9 : D 9 = false := by
        cases h : D 9 with
        | false => rfl
        | true => exact absurd (hclo 9 _ rfl h ⟨8, .data⟩ (by simp) rfl) (by rw [hDi]; exact Bool.false_ne_true)
      have hW2 := hW
      simp only [hDi, cond_true, cond_false, List.append_nil, List.nil_append, List.cons_append] at hW2
      refine .inl ⟨rfl, rfl, .inr (.inr ⟨82, #[.slice p t.length cp, .agg #[vI s, vI y, vI l, vI m], vI x, vI ((ageT t x).getD y)], by kernel_rfl, (aged2_any _ t _ s y l m x _ _ (hT.below (HP.below hW2)) hV (by have := age_bd hV x; omega)).mono ?_⟩)⟩
      rintro e w3 ⟨pv, cp9, rfl, hb⟩
      refine ⟨⟨pv, cp9, ()⟩, fun j hj => ?_, rfl, ?_⟩
      · match j, hj with
        | 0, hj => rfl
        | 1, hj => rfl
        | 2, hj => rfl
        | 3, hj => rfl
        | 4, hj => rfl
        | 5, hj => rfl
        | 6, hj => rfl
        | 7, hj => rfl
        | 8, hj => rw [hDi] at hj; cases hj
        | 9, hj => exact absurd hj (by rw [d9]; exact Bool.false_ne_true)
        | j + 10, _ => rfl
      · show HP Tr w w3 ([.cel b3 #[vI s, vI y, vI l, vI m] 23] ++ ([rowT pv (rL s y x ((ageT t x).getD y) t).length cp9 (rL s y x ((ageT t x).getD y) t)] ++ []))
        simp only [cond_true, cond_false, List.append_nil, List.nil_append, List.cons_append]
        exact HP.trans hW2 hb
    case o9 =>
      intro gy D wz hDi hdep hclo hW
      exact .inl ⟨rfl, rfl, .inl ⟨gy, wz, fun _ _ => rfl, by kernel_rfl, hW⟩⟩
  rintro ⟨pv, cp9, gu⟩ D w6 hall hH7
  simp only [hall 8 (by kernel_rfl), cond_true, List.append_nil, List.nil_append, List.cons_append] at hH7
  clear hall
  refine WQ.sub (l' := [(0, .agg #[vI s, vI y, vI l, vI m]), (1, .slice p t.length cp), (2, vI x), (3, vP b3 0), (6, .slice pv ((rL s y x ((ageT t x).getD y) t).length) cp9)]) ⟨rfl, rfl, rfl, rfl, rfl, trivial⟩ ?_
  refine WQ.then ?_
  refine hK5 _ _ _ ?_
  refine WC.ret ?_
  refine WQ.ret1 6 rfl rfl ?_
  have e9 : tcH s y x 0 t = (rL s y x ((ageT t x).getD y) t) := by unfold tcH; rw [Int.add_zero]
  exact ⟨pv, cp9, by rw [e9], by rw [e9]; exact HP.eq (HP.drop hH7 0) rfl⟩
end Ca
end Go.Proofs.Ytmjnakhpekbenaa
namespace Go.Proofs.Ytmjnakhpekbenaa
open Go.RowKit Fw
namespace Ca
/-- the lines that are in both -/
def jm1 (u : List T2) (p : T2) : List T2 := match ageT u p.1 with
  | some a => [(p.1, max p.2 a)]
  | none => []
def jM (t u : List T2) : List T2 := t.flatMap (jm1 u)
theorem find_none {u : List T2} {x : Int} {k : Nat} (hs : sT u) (hk1 : k ≤ u.length) (hk2 : 0 < k → lnT u (k - 1) < x) (hk3 : k < u.length → x ≤ lnT u k) (hq : ¬ (k < u.length ∧ lnT u k = x)) : ageT u x = none :=
  age_no hs hk2 (fun h => by have := hk3 h; by_cases e : lnT u k = x; exact absurd ⟨h, e⟩ hq; omega) hk1
end Ca
end Go.Proofs.Ytmjnakhpekbenaa
namespace Go.Proofs.Ytmjnakhpekbenaa
namespace Fl
/-- the tree of a list of instructions -/
inductive Tr where
  | nil : Tr
  | one (i : Nat) (r : Tr) : Tr
  | plain (i E : Nat) (b r : Tr) : Tr
  | alt (i a E : Nat) (b1 b2 r : Tr) : Tr
/-- the code's operations, and its shape: else, end, opener -/
structure Cd where
  c : Nat → Int
  e : Nat → Int
  d : Nat → Int
  o : Nat → Int
def Is (C : Cd) : Tr → Nat → Nat → Prop
  | .nil, k, j => k = j
  | .one i r, k, j => i = k ∧ ¬ (29 ≤ C.c k ∧ C.c k ≤ 35) ∧ Is C r (k + 1) j
  | .plain i E b r, k, j => i = k ∧ (29 ≤ C.c k ∧ C.c k ≤ 32) ∧ C.e k = -1 ∧ C.d k = (E : Int) ∧ C.o E = (k : Int) ∧ C.c E = 35 ∧ Is C b (k + 1) E ∧ Is C r (E + 1) j
  | .alt i a E b1 b2 r, k, j => i = k ∧ (C.c k = 29 ∨ C.c k = 33) ∧ C.e k = (a : Int) ∧ C.d k = (E : Int) ∧ C.o a = (k : Int) ∧ C.o E = (k : Int) ∧ C.c a = 34 ∧ C.c E = 35 ∧ Is C b1 (k + 1) a ∧ Is C b2 (a + 1) E ∧ Is C r (E + 1) j
theorem Is.le {C : Cd} : ∀ {R : Tr} {k j : Nat}, Is C R k j → k ≤ j
  | .nil, k, j, h => by have : k = j := h; omega
  | .one i r, k, j, h => by have := Is.le h.2.2; omega
  | .plain i E b r, k, j, h => by obtain ⟨_, _, _, _, _, _, h1, h2⟩ := h; have := Is.le h1; have := Is.le h2; omega
  | .alt i a E b1 b2 r, k, j, h => by obtain ⟨_, _, _, _, _, _, _, _, h1, h2, h3⟩ := h; have := Is.le h1; have := Is.le h2; have := Is.le h3; omega
/-- the ways from instruction to instruction that an instruction owns -/
def ways (C : Cd) (i : Nat) : List (Nat × Nat) :=
  if C.c i = 34 then [(i, (C.d (C.o i).toNat).toNat + 1)]
  else if C.c i = 35 then (if C.c (C.o i).toNat = 30 then [(i, (C.o i).toNat + 1)] else []) ++ [(i, i + 1)]
  else if C.c i = 29 then (i, i + 1) :: (if 0 ≤ C.e i then [(i, (C.e i).toNat + 1)] else if C.d i ≠ ((i + 1 : Nat) : Int) then [(i, (C.d i).toNat)] else [])
  else if C.c i = 30 then [(i, i + 1), (i, (C.d i).toNat + 1)]
  else if C.c i = 33 then [(i, i + 1), (i, (C.e i).toNat + 1)] ++ (List.range ((C.e i).toNat - (i + 1))).map fun k => (i + 1 + k, (C.e i).toNat + 1)
  else [(i, i + 1)]
/-- what is done with states -/
structure Ops (T : Type) where
  J : T → T → T
  F : Nat → T → T
  mu : T → Nat
/-- states that meet -/
structure Lat (T : Type) extends Ops T where
  ok : T → Prop
  le : T → T → Prop
  okJ : ∀ a b, ok a → ok b → ok (J a b)
  okF : ∀ i a, i < 1000 → ok a → ok (F i a)
  rfl : ∀ a, ok a → le a a
  trans : ∀ a b c, ok a → ok b → ok c → le a b → le b c → le a c
  anti : ∀ a b, ok a → ok b → le a b → le b a → a = b
  left : ∀ a b, ok a → ok b → le a (J a b)
  right : ∀ a b, ok a → ok b → le b (J a b)
  lub : ∀ a b c, ok a → ok b → ok c → le a c → le b c → le (J a b) c
  mono : ∀ i a b, i < 1000 → ok a → ok b → le a b → le (F i a) (F i b)
  lt : ∀ a b, ok a → ok b → le a b → a ≠ b → mu b < mu a
variable {T : Type}
section
variable (O : Ops T) (C : Cd)
abbrev Ah (T : Type) := Nat → T
def up (ah : Ah T) (i : Nat) (t : T) : Ah T := fun j => if j = i then t else ah j
def iter [DecidableEq T] (f : T → Ah T → T × Ah T) : Nat → T → Ah T → T × Ah T
  | 0, t, ah => f t ah
  | k + 1, t, ah => if O.J t (f t ah).1 = t then f t ah else iter f k (O.J t (f t ah).1) (f t ah).2
def last (f : T → Ah T → T × Ah T) (q : Nat) (t : T) (ah : Ah T) : T × Ah T := (O.F q (f t ah).1, up (f t ah).2 q (f t ah).1)
def fold (ah : Ah T) : Nat → Nat → T → T
  | _, 0, x => x
  | i, m + 1, x => fold ah (i + 1) m (O.J x (O.F i (ah i)))
def sol [DecidableEq T] : Tr → T → Ah T → T × Ah T
  | .nil, t, ah => (t, ah)
  | .one i r, t, ah => sol r (O.F i t) (up ah i t)
  | .plain i E b r, t, ah =>
    if C.c i = 29 then
      let x := sol b (O.F i t) (up ah i t)
      sol r (O.F E (O.J (O.F i t) x.1)) (up x.2 E (O.J (O.F i t) x.1))
    else if C.c i = 30 then
      let x := iter O (last O (sol b) E) (O.mu (O.F i t)) (O.F i t) (up ah i t)
      sol r (O.J (O.F i t) x.1) x.2
    else
      let x := last O (sol b) E (O.F i t) (up ah i t)
      sol r x.1 x.2
  | .alt i a E b1 b2 r, t, ah =>
    let x := last O (sol b1) a (O.F i t) (up ah i t)
    let y := last O (sol b2) E (if C.c i = 29 then O.F i t else fold O x.2 (i + 1) (a - (i + 1)) (O.F i t)) x.2
    sol r (O.J x.1 y.1) y.2
end
variable (L : Lat T) (C : Cd)
/-- the state at a place, or behind all -/
def V (x : T × Ah T) (j v : Nat) : T := if v < j then x.2 v else x.1
theorem V_lt {x : T × Ah T} {j v : Nat} (h : v < j) : V x j v = x.2 v := if_pos h
theorem V_end {x : T × Ah T} {j : Nat} : V x j j = x.1 := if_neg (Nat.lt_irrefl _)
structure Good (k j : Nat) (t : T) (ah : Ah T) (x : T × Ah T) : Prop where
  okr : L.ok x.1
  oka : ∀ i, k ≤ i → i < j → L.ok (x.2 i)
  out : ∀ i, (i < k ∨ j ≤ i) → x.2 i = ah i
  fst : V x j k = t
  way : ∀ i, k ≤ i → i < j → ∀ p ∈ ways C i, k ≤ p.1 ∧ p.1 < j ∧ k ≤ p.2 ∧ p.2 ≤ j ∧ L.le (L.F p.1 (x.2 p.1)) (V x j p.2)
  least : ∀ Y : Nat → Option T, (∀ v y, Y v = some y → L.ok y) → (∀ i, k ≤ i → i < j → ∀ p ∈ ways C i, ∀ y, Y p.1 = some y → ∃ z, Y p.2 = some z ∧ L.le (L.F p.1 y) z) →
    ∀ y, Y k = some y → L.le t y → ∀ v, k ≤ v → v ≤ j → ∃ z, Y v = some z ∧ L.le (V x j v) z
variable {L} {C}
theorem Good.nil {k : Nat} {t : T} {ah : Ah T} (ht : L.ok t) : Good L C k k t ah (t, ah) :=
  ⟨ht, fun i h1 h2 => by omega, fun i _ => rfl, V_end, fun i h1 h2 => by omega, fun Y hY hc y hy hl v h1 h2 => by
    obtain rfl : v = k := by omega
    exact ⟨y, hy, by rw [V_end]; exact hl⟩⟩
theorem up_same {ah : Ah T} {i : Nat} {t : T} : up ah i t i = t := by simp [up]
theorem up_ne {ah : Ah T} {i j : Nat} {t : T} (h : j ≠ i) : up ah i t j = ah j := by simp [up, h]
theorem Good.one {k : Nat} {t : T} {ah : Ah T} (ht : L.ok t) (hk : k < 1000) (hc : ¬ (29 ≤ C.c k ∧ C.c k ≤ 35)) : Good L C k (k + 1) t ah (L.F k t, up ah k t) := by
  have hw : ways C k = [(k, k + 1)] := by
    unfold ways
    rw [if_neg (by omega), if_neg (by omega), if_neg (by omega), if_neg (by omega), if_neg (by omega)]
  refine ⟨L.okF k t hk ht, fun i q1 q2 => ?_, fun i q => up_ne (by omega), by rw [V_lt (by omega)]; exact up_same, fun i q1 q2 p hp => ?_, fun Y hY hcl y hy hl v q1 q2 => ?_⟩
  · obtain rfl : i = k := by omega
    show L.ok (up ah i t i); rw [up_same]; exact ht
  · obtain rfl : i = k := by omega
    rw [hw] at hp
    obtain rfl := List.mem_singleton.1 hp
    refine ⟨Nat.le_refl _, by simp, by simp, Nat.le_refl _, ?_⟩
    rw [V_end]
    show L.le (L.F i (up ah i t i)) _
    rw [up_same]; exact L.rfl _ (L.okF i t hk ht)
  · obtain ⟨z, hz, hl2⟩ := hcl k (Nat.le_refl _) (by omega) (k, k + 1) (by rw [hw]; simp) y hy
    by_cases q : v = k
    · subst q
      exact ⟨y, hy, by rw [V_lt (by omega)]; show L.le (up ah v t v) y; rw [up_same]; exact hl⟩
    · obtain rfl : v = k + 1 := by omega
      exact ⟨z, hz, by rw [V_end]; exact L.trans _ _ _ (L.okF k t hk ht) (L.okF k y hk (hY _ _ hy)) (hY _ _ hz) (L.mono k t y hk ht (hY _ _ hy) hl) hl2⟩
theorem ways_plain {k E : Nat} (hc : 29 ≤ C.c k ∧ C.c k ≤ 32) (he : C.e k = -1) (hd : C.d k = (E : Int)) :
    ways C k = (k, k + 1) :: (if C.c k = 29 then (if E ≠ k + 1 then [(k, E)] else []) else if C.c k = 30 then [(k, E + 1)] else []) := by
  unfold ways
  rw [if_neg (by omega), if_neg (by omega), he, hd]
  by_cases q : C.c k = 29
  · rw [if_pos q, if_pos q, if_neg (by omega)]
    by_cases q2 : E = k + 1
    · rw [if_neg (by simp [q2]), if_neg (by simp [q2])]
    · rw [if_pos (by omega), if_pos q2]; rfl
  · rw [if_neg q, if_neg q]
    by_cases q2 : C.c k = 30
    · rw [if_pos q2, if_pos q2]; rfl
    · rw [if_neg q2, if_neg q2, if_neg (by omega)]
theorem ways_end {k E : Nat} (hE : C.c E = 35) (ho : C.o E = (k : Int)) : ways C E = (if C.c k = 30 then [(E, k + 1)] else []) ++ [(E, E + 1)] := by
  unfold ways
  rw [if_neg (by omega), if_pos hE, ho, Int.toNat_natCast]
theorem ways_else {k a E : Nat} (ha : C.c a = 34) (ho : C.o a = (k : Int)) (hd : C.d k = (E : Int)) : ways C a = [(a, E + 1)] := by
  unfold ways
  rw [if_pos ha, ho, Int.toNat_natCast, hd, Int.toNat_natCast]
theorem ways_alt {k a : Nat} (hc : C.c k = 29 ∨ C.c k = 33) (he : C.e k = (a : Int)) :
    ways C k = [(k, k + 1), (k, a + 1)] ++ (if C.c k = 33 then (List.range (a - (k + 1))).map fun v => (k + 1 + v, a + 1) else []) := by
  unfold ways
  rw [if_neg (by omega), if_neg (by omega), he, Int.toNat_natCast]
  rcases hc with q | q
  · rw [if_pos q, if_pos (show (0 : Int) ≤ (a : Int) by omega), if_neg (show ¬ C.c k = 33 by omega)]; rfl
  · rw [if_neg (by omega), if_neg (by omega), if_pos q, if_pos q]
theorem Good.plain {k E : Nat} {t tin m tm : T} {ah ah1 : Ah T} {f : T → Ah T → T × Ah T} (ht : L.ok t) (hE0 : E < 1000) (hkE : k + 1 ≤ E) (hc : 29 ≤ C.c k ∧ C.c k ≤ 32) (he : C.e k = -1) (hd : C.d k = (E : Int)) (ho : C.o E = (k : Int)) (hE : C.c E = 35)
    (hb : ∀ u a, L.ok u → Good L C (k + 1) E u a (f u a)) (hin : L.ok tin) (h1in : L.le (L.F k t) tin) (hah : ∀ i, (i < k ∨ E + 1 ≤ i) → ah1 i = ah i) (hahk : ah1 k = t)
    (hm : L.ok m) (hxm : L.le (f tin ah1).1 m) (hm29 : C.c k = 29 → L.le (L.F k t) m) (hm30 : C.c k = 30 → m = (f tin ah1).1 ∧ L.le (L.F E m) tin)
    (htm : L.ok tm) (hFm : L.le (L.F E m) tm) (ht30 : C.c k = 30 → L.le (L.F k t) tm)
    (l1 : ∀ Z, L.ok Z → L.le (L.F k t) Z → (C.c k = 30 → ∀ u a, L.ok u → L.le u Z → L.le (L.F E (f u a).1) Z) → L.le tin Z)
    (l2 : ∀ Z, L.ok Z → L.le (f tin ah1).1 Z → (C.c k = 29 → L.le (L.F k t) Z) → L.le m Z)
    (l3 : ∀ Z, L.ok Z → L.le (L.F E m) Z → (C.c k = 30 → L.le (L.F k t) Z) → L.le tm Z) :
    Good L C k (E + 1) t ah (tm, up (f tin ah1).2 E m) := by
  have G := hb tin ah1 hin
  have hk : k < 1000 := by omega
  have ok1 := L.okF k t hk ht
  have okFm := L.okF E m hE0 hm
  have vk : (up (f tin ah1).2 E m) k = t := by rw [up_ne (by omega), G.out k (.inl (by omega)), hahk]
  have vb : ∀ v, v ≠ E → (up (f tin ah1).2 E m) v = (f tin ah1).2 v := fun v h => up_ne h
  have vE : (up (f tin ah1).2 E m) E = m := up_same
  have hV : ∀ v, k + 1 ≤ v → v ≤ E → L.ok (V (f tin ah1) E v) ∧ L.ok (V (tm, up (f tin ah1).2 E m) (E + 1) v) ∧ L.le (V (f tin ah1) E v) (V (tm, up (f tin ah1).2 E m) (E + 1) v) := fun v q1 q2 => by
    by_cases q : v < E
    · rw [V_lt q, V_lt (show v < E + 1 by omega)]
      show L.ok ((f tin ah1).2 v) ∧ L.ok ((up (f tin ah1).2 E m) v) ∧ L.le ((f tin ah1).2 v) ((up (f tin ah1).2 E m) v)
      rw [vb v (by omega)]
      have := G.oka v q1 q
      exact ⟨this, this, L.rfl _ this⟩
    · obtain rfl : v = E := by omega
      rw [V_end, V_lt (Nat.lt_succ_self _)]
      show L.ok (f tin ah1).1 ∧ L.ok ((up (f tin ah1).2 v m) v) ∧ L.le (f tin ah1).1 ((up (f tin ah1).2 v m) v)
      rw [vE]
      exact ⟨G.okr, hm, hxm⟩
  have hk1 : L.le tin (V (tm, up (f tin ah1).2 E m) (E + 1) (k + 1)) := by
    have := (hV (k + 1) (Nat.le_refl _) hkE).2.2
    rwa [G.fst] at this
  have wk := ways_plain hc he hd
  have wE := ways_end hE ho
  refine ⟨htm, fun i q1 q2 => ?_, fun i q => ?_, by rw [V_lt (by omega)]; exact vk, fun i q1 q2 p hp => ?_, fun Y hY hcl y hy hl => ?_⟩
  · show L.ok ((up (f tin ah1).2 E m) i)
    by_cases e1 : i = k
    · subst e1; rw [vk]; exact ht
    · by_cases e2 : i = E
      · subst e2; rw [vE]; exact hm
      · rw [vb i e2]; exact G.oka i (by omega) (by omega)
  · show (up (f tin ah1).2 E m) i = ah i
    rw [vb i (by omega), G.out i (by omega), hah i q]
  · show k ≤ p.1 ∧ p.1 < E + 1 ∧ k ≤ p.2 ∧ p.2 ≤ E + 1 ∧ L.le (L.F p.1 ((up (f tin ah1).2 E m) p.1)) _
    by_cases e1 : i = k
    · subst e1
      rw [wk] at hp
      rcases List.mem_cons.1 hp with rfl | hp
      · refine ⟨Nat.le_refl _, by simp; omega, by simp, by simp; omega, ?_⟩
        simp only []
        rw [vk]
        exact L.trans _ _ _ ok1 hin (hV (i + 1) (Nat.le_refl _) hkE).2.1 h1in hk1
      · by_cases q9 : C.c i = 29
        · rw [if_pos q9] at hp
          by_cases q8 : E ≠ i + 1
          · rw [if_pos q8] at hp
            obtain rfl := List.mem_singleton.1 hp
            refine ⟨Nat.le_refl _, by simp; omega, by simp; omega, by simp, ?_⟩
            simp only []
            rw [vk, V_lt (Nat.lt_succ_self _)]
            show L.le _ ((up (f tin ah1).2 E m) E)
            rw [vE]; exact hm29 q9
          · rw [if_neg q8] at hp; cases hp
        · rw [if_neg q9] at hp
          by_cases q8 : C.c i = 30
          · rw [if_pos q8] at hp
            obtain rfl := List.mem_singleton.1 hp
            refine ⟨Nat.le_refl _, by simp; omega, by simp; omega, by simp, ?_⟩
            simp only []
            rw [vk, V_end]; exact ht30 q8
          · rw [if_neg q8] at hp; cases hp
    · by_cases e2 : i = E
      · subst e2
        rw [wE] at hp
        rcases List.mem_append.1 hp with hp | hp
        · by_cases q8 : C.c k = 30
          · rw [if_pos q8] at hp
            obtain rfl := List.mem_singleton.1 hp
            refine ⟨by simp; omega, by simp, by simp, by simp; omega, ?_⟩
            simp only []
            rw [vE]
            exact L.trans _ _ _ okFm hin (hV (k + 1) (Nat.le_refl _) hkE).2.1 (hm30 q8).2 hk1
          · rw [if_neg q8] at hp; cases hp
        · obtain rfl := List.mem_singleton.1 hp
          refine ⟨by simp; omega, by simp, by simp; omega, by simp, ?_⟩
          simp only []
          rw [vE, V_end]; exact hFm
      · obtain ⟨a1, a2, a3, a4, a5⟩ := G.way i (by omega) (by omega) p hp
        refine ⟨by omega, by omega, by omega, by omega, ?_⟩
        rw [vb p.1 (by omega)]
        have := hV p.2 a3 a4
        exact L.trans _ _ _ (L.okF _ _ (by omega) (G.oka p.1 a1 a2)) this.1 this.2.1 a5 this.2.2
  · -- the least
    obtain ⟨z1, hz1, hl1⟩ := hcl k (Nat.le_refl _) (by omega) (k, k + 1) (by rw [wk]; simp) y hy
    have okz1 := hY _ _ hz1
    have t1z : L.le (L.F k t) z1 := L.trans _ _ _ ok1 (L.okF k y hk (hY _ _ hy)) okz1 (L.mono k t y hk ht (hY _ _ hy) hl) hl1
    have bl : ∀ u a, L.ok u → L.le u z1 → ∀ v, k + 1 ≤ v → v ≤ E → ∃ z, Y v = some z ∧ L.le (V (f u a) E v) z := fun u a hu huz => (hb u a hu).least Y hY (fun i q1 q2 => hcl i (by omega) (by omega)) z1 hz1 huz
    have tinz : L.le tin z1 := l1 z1 okz1 t1z fun q8 u a hu huz => by
      obtain ⟨z, hz, hl9⟩ := bl u a hu huz E hkE (Nat.le_refl _)
      rw [V_end] at hl9
      obtain ⟨z2, hz2, hl2⟩ := hcl E (by omega) (by omega) (E, k + 1) (by rw [wE, if_pos q8]; simp) z hz
      rw [hz1] at hz2; cases hz2
      have := (hb u a hu).okr
      exact L.trans _ _ _ (L.okF E _ hE0 this) (L.okF E z hE0 (hY _ _ hz)) okz1 (L.mono E _ z hE0 this (hY _ _ hz) hl9) hl2
    have B := bl tin ah1 hin tinz
    obtain ⟨zE, hzE, hlE⟩ := B E hkE (Nat.le_refl _)
    rw [V_end] at hlE
    have mz : L.le m zE := l2 zE (hY _ _ hzE) hlE fun q9 => by
      by_cases q8 : E = k + 1
      · subst q8; rw [hz1] at hzE; cases hzE; exact t1z
      · obtain ⟨z2, hz2, hl2⟩ := hcl k (Nat.le_refl _) (by omega) (k, E) (by rw [wk, if_pos q9, if_pos q8]; simp) y hy
        rw [hzE] at hz2; cases hz2
        exact L.trans _ _ _ ok1 (L.okF k y hk (hY _ _ hy)) (hY _ _ hzE) (L.mono k t y hk ht (hY _ _ hy) hl) hl2
    obtain ⟨z3, hz3, hl3⟩ := hcl E (by omega) (by omega) (E, E + 1) (by rw [wE]; simp) zE hzE
    have tmz : L.le tm z3 := l3 z3 (hY _ _ hz3) (L.trans _ _ _ okFm (L.okF E zE hE0 (hY _ _ hzE)) (hY _ _ hz3) (L.mono E m zE hE0 hm (hY _ _ hzE) mz) hl3) fun q8 => by
      obtain ⟨z2, hz2, hl2⟩ := hcl k (Nat.le_refl _) (by omega) (k, E + 1) (by rw [wk, if_neg (by omega), if_pos q8]; simp) y hy
      rw [hz3] at hz2; cases hz2
      exact L.trans _ _ _ ok1 (L.okF k y hk (hY _ _ hy)) (hY _ _ hz3) (L.mono k t y hk ht (hY _ _ hy) hl) hl2
    intro v q1 q2
    by_cases e1 : v = k
    · subst e1; exact ⟨y, hy, by rw [V_lt (by omega)]; show L.le ((up (f tin ah1).2 E m) v) y; rw [vk]; exact hl⟩
    · by_cases e2 : v = E
      · subst e2; exact ⟨zE, hzE, by rw [V_lt (by omega)]; show L.le ((up (f tin ah1).2 v m) v) zE; rw [vE]; exact mz⟩
      · by_cases e3 : v = E + 1
        · subst e3; exact ⟨z3, hz3, by rw [V_end]; exact tmz⟩
        · obtain ⟨z, hz, hlz⟩ := B v (by omega) (by omega)
          refine ⟨z, hz, ?_⟩
          rw [V_lt (show v < E by omega)] at hlz
          rw [V_lt (show v < E + 1 by omega)]
          show L.le ((up (f tin ah1).2 E m) v) z
          rw [vb v e2]; exact hlz
theorem Good.alt {k a E : Nat} {t t2 : T} {ah : Ah T} {x1 x2 : T × Ah T} (ht : L.ok t) (hE0 : E < 1000) (hka : k + 1 ≤ a) (haE : a + 1 ≤ E) (hc : C.c k = 29 ∨ C.c k = 33) (he : C.e k = (a : Int)) (hd : C.d k = (E : Int)) (hoa : C.o a = (k : Int)) (ho : C.o E = (k : Int)) (ha : C.c a = 34) (hE : C.c E = 35)
    (G1 : Good L C (k + 1) a (L.F k t) (up ah k t) x1) (h2 : L.ok t2) (h12 : L.le (L.F k t) t2) (h33 : C.c k = 33 → ∀ v, k + 1 ≤ v → v < a → L.le (L.F v (x1.2 v)) t2)
    (l2 : ∀ Z, L.ok Z → L.le (L.F k t) Z → (C.c k = 33 → ∀ v, k + 1 ≤ v → v < a → L.le (L.F v (x1.2 v)) Z) → L.le t2 Z)
    (G2 : Good L C (a + 1) E t2 (up x1.2 a x1.1) x2) :
    Good L C k (E + 1) t ah (L.J (L.F a x1.1) (L.F E x2.1), up x2.2 E x2.1) := by
  have hk : k < 1000 := by omega
  have ok1 := L.okF k t hk ht
  have oka1 := L.okF a _ (show a < 1000 by omega) G1.okr
  have okE1 := L.okF E _ hE0 G2.okr
  have okm := L.okJ _ _ oka1 okE1
  have vE : (up x2.2 E x2.1) E = x2.1 := up_same
  have v2 : ∀ v, v ≠ E → (up x2.2 E x2.1) v = x2.2 v := fun v h => up_ne h
  have va : (up x2.2 E x2.1) a = x1.1 := by rw [v2 a (by omega), G2.out a (.inl (by omega)), up_same]
  have v1 : ∀ v, v < a → (up x2.2 E x2.1) v = x1.2 v := fun v h => by rw [v2 v (by omega), G2.out v (.inl (by omega)), up_ne (by omega)]
  have vk : (up x2.2 E x2.1) k = t := by rw [v1 k (by omega), G1.out k (.inl (by omega)), up_same]
  have hV1 : ∀ v, k + 1 ≤ v → v ≤ a → V (L.J (L.F a x1.1) (L.F E x2.1), up x2.2 E x2.1) (E + 1) v = V x1 a v := fun v q1 q2 => by
    rw [V_lt (show v < E + 1 by omega)]
    show (up x2.2 E x2.1) v = _
    by_cases q : v < a
    · rw [V_lt q, v1 v q]
    · obtain rfl : v = a := by omega
      rw [V_end, va]
  have hV2 : ∀ v, a + 1 ≤ v → v ≤ E → V (L.J (L.F a x1.1) (L.F E x2.1), up x2.2 E x2.1) (E + 1) v = V x2 E v := fun v q1 q2 => by
    rw [V_lt (show v < E + 1 by omega)]
    show (up x2.2 E x2.1) v = _
    by_cases q : v < E
    · rw [V_lt q, v2 v (by omega)]
    · obtain rfl : v = E := by omega
      rw [V_end, vE]
  have wk := ways_alt hc he
  have wa := ways_else ha hoa hd
  have wE : ways C E = [(E, E + 1)] := by rw [ways_end hE ho, if_neg (by omega)]; rfl
  refine ⟨okm, fun i q1 q2 => ?_, fun i q => ?_, by rw [V_lt (by omega)]; exact vk, fun i q1 q2 p hp => ?_, fun Y hY hcl y hy hl => ?_⟩
  · show L.ok ((up x2.2 E x2.1) i)
    by_cases e1 : i = k
    · subst e1; rw [vk]; exact ht
    · by_cases e2 : i < a
      · rw [v1 i e2]; exact G1.oka i (by omega) e2
      · by_cases e3 : i = a
        · subst e3; rw [va]; exact G1.okr
        · by_cases e4 : i = E
          · subst e4; rw [vE]; exact G2.okr
          · rw [v2 i e4]; exact G2.oka i (by omega) (by omega)
  · show (up x2.2 E x2.1) i = ah i
    rw [v2 i (by omega), G2.out i (by omega), up_ne (by omega), G1.out i (by omega), up_ne (by omega)]
  · show k ≤ p.1 ∧ p.1 < E + 1 ∧ k ≤ p.2 ∧ p.2 ≤ E + 1 ∧ L.le (L.F p.1 ((up x2.2 E x2.1) p.1)) _
    by_cases e1 : i = k
    · subst e1
      rw [wk] at hp
      rcases List.mem_append.1 hp with hp | hp
      · simp only [List.mem_cons, List.not_mem_nil, or_false] at hp
        rcases hp with rfl | rfl
        · refine ⟨Nat.le_refl _, by simp; omega, by simp, by simp; omega, ?_⟩
          simp only []
          rw [vk, hV1 (i + 1) (Nat.le_refl _) hka, G1.fst]; exact L.rfl _ ok1
        · refine ⟨Nat.le_refl _, by simp; omega, by simp; omega, by simp; omega, ?_⟩
          simp only []
          rw [vk, hV2 (a + 1) (Nat.le_refl _) haE, G2.fst]; exact h12
      · by_cases q8 : C.c i = 33
        · rw [if_pos q8] at hp
          obtain ⟨v, hv, rfl⟩ := List.mem_map.1 hp
          have hv := List.mem_range.1 hv
          refine ⟨by simp; omega, by simp; omega, by simp; omega, by simp; omega, ?_⟩
          simp only []
          rw [v1 _ (by omega), hV2 (a + 1) (Nat.le_refl _) haE, G2.fst]; exact h33 q8 _ (by omega) (by omega)
        · rw [if_neg q8] at hp; cases hp
    · by_cases e2 : i < a
      · obtain ⟨a1, a2, a3, a4, a5⟩ := G1.way i (by omega) e2 p hp
        refine ⟨by omega, by omega, by omega, by omega, ?_⟩
        rw [v1 _ a2, hV1 _ a3 a4]; exact a5
      · by_cases e3 : i = a
        · subst e3
          rw [wa] at hp
          obtain rfl := List.mem_singleton.1 hp
          refine ⟨by simp; omega, by simp; omega, by simp; omega, by simp, ?_⟩
          simp only []
          rw [va, V_end]; exact L.left _ _ oka1 okE1
        · by_cases e4 : i = E
          · subst e4
            rw [wE] at hp
            obtain rfl := List.mem_singleton.1 hp
            refine ⟨by simp; omega, by simp, by simp; omega, by simp, ?_⟩
            simp only []
            rw [vE, V_end]; exact L.right _ _ oka1 okE1
          · obtain ⟨a1, a2, a3, a4, a5⟩ := G2.way i (by omega) (by omega) p hp
            refine ⟨by omega, by omega, by omega, by omega, ?_⟩
            rw [v2 _ (by omega), hV2 _ a3 a4]; exact a5
  · -- the least
    have tr : ∀ u v x z z2, u < 1000 → L.ok x → Y u = some z → L.le x z → Y v = some z2 → L.le (L.F u z) z2 → L.le (L.F u x) z2 := fun u v x z z2 q1 q2 q3 q4 q5 q6 =>
      L.trans _ _ _ (L.okF u x q1 q2) (L.okF u z q1 (hY _ _ q3)) (hY _ _ q5) (L.mono u x z q1 q2 (hY _ _ q3) q4) q6
    obtain ⟨z1, hz1, hl1⟩ := hcl k (Nat.le_refl _) (by omega) (k, k + 1) (by rw [wk]; simp) y hy
    have t1z := tr k _ t y z1 hk ht hy hl hz1 hl1
    have B1 := G1.least Y hY (fun i q1 q2 => hcl i (by omega) (by omega)) z1 hz1 t1z
    obtain ⟨z2, hz2, hl2⟩ := hcl k (Nat.le_refl _) (by omega) (k, a + 1) (by rw [wk]; simp) y hy
    have t1z2 := tr k _ t y z2 hk ht hy hl hz2 hl2
    have t2z := l2 z2 (hY _ _ hz2) t1z2 fun q8 v q1 q2 => by
      obtain ⟨zv, hzv, hlv⟩ := B1 v q1 (by omega)
      rw [V_lt q2] at hlv
      obtain ⟨z9, hz9, hl9⟩ := hcl k (Nat.le_refl _) (by omega) (v, a + 1) (by
        rw [wk, if_pos q8]
        refine List.mem_append_right _ (List.mem_map.2 ⟨v - (k + 1), List.mem_range.2 (by omega), ?_⟩)
        rw [show k + 1 + (v - (k + 1)) = v by omega]) zv hzv
      rw [hz2] at hz9; cases hz9
      exact tr v _ _ zv z2 (by omega) (G1.oka v q1 q2) hzv hlv hz2 hl9
    have B2 := G2.least Y hY (fun i q1 q2 => hcl i (by omega) (by omega)) z2 hz2 t2z
    obtain ⟨za, hza, hla⟩ := B1 a hka (Nat.le_refl _)
    rw [V_end] at hla
    obtain ⟨zE, hzE, hlE⟩ := B2 E haE (Nat.le_refl _)
    rw [V_end] at hlE
    obtain ⟨z3, hz3, hl3⟩ := hcl a (by omega) (by omega) (a, E + 1) (by rw [wa]; simp) za hza
    obtain ⟨z4, hz4, hl4⟩ := hcl E (by omega) (by omega) (E, E + 1) (by rw [wE]; simp) zE hzE
    rw [hz3] at hz4; cases hz4
    have r3 := tr a _ _ za z3 (by omega) G1.okr hza hla hz3 hl3
    have r4 := tr E _ _ zE z3 (by omega) G2.okr hzE hlE hz3 hl4
    intro v q1 q2
    by_cases e1 : v = k
    · subst e1; exact ⟨y, hy, by rw [V_lt (by omega)]; show L.le ((up x2.2 E x2.1) v) y; rw [vk]; exact hl⟩
    · by_cases e2 : v ≤ a
      · obtain ⟨z, hz, hlz⟩ := B1 v (by omega) e2
        exact ⟨z, hz, by rw [hV1 v (by omega) e2]; exact hlz⟩
      · by_cases e3 : v ≤ E
        · obtain ⟨z, hz, hlz⟩ := B2 v (by omega) e3
          exact ⟨z, hz, by rw [hV2 v (by omega) e3]; exact hlz⟩
        · obtain rfl : v = E + 1 := by omega
          exact ⟨z3, hz3, by rw [V_end]; exact L.lub _ _ _ oka1 okE1 (hY _ _ hz3) r3 r4⟩
end Fl
end Go.Proofs.Ytmjnakhpekbenaa
namespace Go.Proofs.Ytmjnakhpekbenaa
namespace Ca
theorem sT_uniq {t : List T2} (h : sT t) {p q : T2} (hp : p ∈ t) (hq : q ∈ t) (e : p.1 = q.1) : p = q := by
  obtain ⟨i, hi, rfl⟩ := List.mem_iff_getElem.1 hp
  obtain ⟨j, hj, rfl⟩ := List.mem_iff_getElem.1 hq
  have h2 := List.pairwise_iff_getElem.1 h
  rcases Nat.lt_trichotomy i j with q1 | q1 | q1
  · have := h2 i j hi hj q1; omega
  · subst q1; rfl
  · have := h2 j i hj hi q1; omega
theorem mem_age {t : List T2} (h : sT t) {z a : Int} : (z, a) ∈ t ↔ ageT t z = some a := by
  unfold ageT
  constructor
  · intro hm
    cases hf : t.find? (fun p => p.1 == z) with
    | none => have := List.find?_eq_none.1 hf _ hm; simp at this
    | some q =>
      have h1 := List.mem_of_find?_eq_some hf
      have h2 := List.find?_some hf
      have h3 : q.1 = z := by simpa using h2
      rw [sT_uniq h h1 hm h3]; rfl
  · intro he
    obtain ⟨q, hq, rfl⟩ := Option.map_eq_some_iff.1 he
    have h1 := List.mem_of_find?_eq_some hq
    have h2 := List.find?_some hq
    have h3 : q.1 = z := by simpa using h2
    subst h3; exact h1
theorem VT_mk {s y l m : Int} {t : List T2} (hg : vG s y l m = true) (hs : sT t) (hm : ∀ p ∈ t, (0 ≤ p.1 ∧ p.1 ≤ 999) ∧ 0 ≤ p.2 ∧ p.2 ≤ y - 1) : VT s y l m t := by
  obtain ⟨⟨a1, a2⟩, ⟨b1, b2⟩, ⟨c1, c2⟩, d1, d2⟩ := vG_iff.1 hg
  have hln : ∀ i, i < t.length → 0 ≤ lnT t i ∧ lnT t i ≤ 999 := fun i hi => by rw [lnT_get hi]; exact (hm _ (List.getElem_mem hi)).1
  have hge : ∀ i, i < t.length → (i : Int) ≤ lnT t i := by
    intro i
    induction i with
    | zero => intro h0; exact (hln 0 h0).1
    | succ i ih => intro h1; have := ih (by omega); have := sT_lt hs (show i < i + 1 by omega) h1; omega
  refine ⟨a1, a2, b1, b2, c1, c2, d1, d2, fun i hi => by rw [agT_get hi]; exact (hm _ (List.getElem_mem hi)).2, hln, hs, ?_⟩
  by_cases h0 : t.length = 0
  · omega
  · have := hge (t.length - 1) (by omega); have := hln (t.length - 1) (by omega); omega
theorem VT.mem {s y l m : Int} {t : List T2} (h : VT s y l m t) {p : T2} (hp : p ∈ t) : (0 ≤ p.1 ∧ p.1 ≤ 999) ∧ 0 ≤ p.2 ∧ p.2 ≤ y - 1 := by
  obtain ⟨i, hi, rfl⟩ := List.mem_iff_getElem.1 hp
  have h1 := h.ln i hi
  have h2 := h.ag i hi
  rw [lnT_get hi] at h1
  rw [agT_get hi] at h2
  exact ⟨h1, h2⟩
theorem VT.geo {s y l m : Int} {t : List T2} (h : VT s y l m t) : vG s y l m = true := vG_iff.2 ⟨⟨h.s1, h.s2⟩, ⟨h.y1, h.y2⟩, ⟨h.l1, h.l2⟩, h.m1, h.m2⟩
theorem VT.nil {s y l m : Int} (hg : vG s y l m = true) : VT s y l m [] := VT_mk hg List.Pairwise.nil fun p hp => by cases hp
theorem VT.age {s y l m : Int} {t : List T2} (h : VT s y l m t) {z a : Int} (ha : ageT t z = some a) : (0 ≤ z ∧ z ≤ 999) ∧ 0 ≤ a ∧ a ≤ y - 1 := h.mem ((mem_age h.so).2 ha)
/-- what touching says of a line -/
def bmp (d a : Int) : Int := if a < d then a + 1 else a
def agS (s y x d z a : Int) : Option Int := if z.tmod s = x.tmod s then (if bmp d a < y then some (bmp d a) else none) else (if a < y then some a else none)
def agA (s y x d z : Int) (o : Option Int) : Option Int := if z = x then some 0 else o.bind (agS s y x d z)
theorem mem_opt {c : Prop} [Decidable c] {z b u v : Int} : (z, b) ∈ (if c then [(u, v)] else ([] : List T2)) ↔ u = z ∧ (if c then some v else none) = some b := by
  by_cases h : c
  · rw [if_pos h, if_pos h, List.mem_singleton]
    exact ⟨fun e => by cases e; exact ⟨rfl, rfl⟩, fun ⟨e1, e2⟩ => by cases e1; cases e2; rfl⟩
  · rw [if_neg h, if_neg h]
    exact ⟨(fun e => by cases e), (fun e => by cases e.2)⟩
theorem mem_stE {s y x d : Int} {q : T2} {z b : Int} : (z, b) ∈ stE s y x d q ↔ q.1 = z ∧ z ≠ x ∧ agS s y x d z q.2 = some b := by
  by_cases h1 : q.1 = x
  · have e : stE s y x d q = [] := by unfold stE; rw [if_pos h1]
    rw [e]
    constructor
    · intro h; cases h
    · rintro ⟨e, h2, _⟩; exact absurd (e ▸ h1) h2
  · by_cases h2 : q.1.tmod s = x.tmod s
    · have e : stE s y x d q = if bmp d q.2 < y then [(q.1, bmp d q.2)] else [] := by unfold stE; rw [if_neg h1, if_pos h2]; rfl
      rw [e, mem_opt]
      constructor
      · rintro ⟨rfl, h⟩; exact ⟨rfl, h1, by unfold agS; rw [if_pos h2]; exact h⟩
      · rintro ⟨rfl, _, h⟩; exact ⟨rfl, by unfold agS at h; rw [if_pos h2] at h; exact h⟩
    · have e : stE s y x d q = if q.2 < y then [(q.1, q.2)] else [] := by unfold stE; rw [if_neg h1, if_neg h2]
      rw [e, mem_opt]
      constructor
      · rintro ⟨rfl, h⟩; exact ⟨rfl, h1, by unfold agS; rw [if_neg h2]; exact h⟩
      · rintro ⟨rfl, _, h⟩; exact ⟨rfl, by unfold agS at h; rw [if_neg h2] at h; exact h⟩
theorem mem_rL {s y x d : Int} {t : List T2} {z b : Int} : (z, b) ∈ rL s y x d t ↔ (z = x ∧ b = 0) ∨ (z ≠ x ∧ ∃ a, (z, a) ∈ t ∧ agS s y x d z a = some b) := by
  rw [(rL_perm t).mem_iff, List.mem_append, List.mem_flatMap, List.mem_singleton]
  constructor
  · rintro (⟨⟨q1, q2⟩, hq, h⟩ | h)
    · obtain ⟨rfl, h2, h3⟩ := mem_stE.1 h
      exact .inr ⟨h2, q2, hq, h3⟩
    · exact .inl (Prod.mk.inj h)
  · rintro (⟨rfl, rfl⟩ | ⟨h2, a, ha, h3⟩)
    · exact .inr rfl
    · exact .inl ⟨(z, a), ha, mem_stE.2 ⟨rfl, h2, h3⟩⟩
theorem age_rL {s y x d : Int} {t : List T2} (h : sT t) (z : Int) : ageT (rL s y x d t) z = agA s y x d z (ageT t z) := by
  have hs : sT (rL s y x d t) := rL_sorted (s := s) (y := y) (x := x) (d := d) h
  unfold agA
  by_cases e : z = x
  · rw [if_pos e, ← mem_age hs, mem_rL]; exact .inl ⟨e, rfl⟩
  · rw [if_neg e]
    cases ha : ageT t z with
    | none =>
      cases hb : ageT (rL s y x d t) z with
      | none => rfl
      | some b =>
        rcases mem_rL.1 ((mem_age hs).2 hb) with ⟨e2, _⟩ | ⟨_, a, ha2, h3⟩
        · exact absurd e2 e
        · rw [(mem_age h).1 ha2] at ha; cases ha
    | some a =>
      show _ = agS s y x d z a
      cases hz : agS s y x d z a with
      | some b => rw [← mem_age hs, mem_rL]; exact .inr ⟨e, a, (mem_age h).2 ha, hz⟩
      | none =>
        cases hb : ageT (rL s y x d t) z with
        | none => rfl
        | some b =>
          rcases mem_rL.1 ((mem_age hs).2 hb) with ⟨e2, _⟩ | ⟨_, a2, ha2, h3⟩
          · exact absurd e2 e
          · rw [(mem_age h).1 ha2] at ha; cases ha; rw [hz] at h3; cases h3
theorem agS_bd {s y x d z a b : Int} (h : agS s y x d z a = some b) (ha : 0 ≤ a) : a ≤ b ∧ b ≤ a + 1 ∧ b ≤ y - 1 := by
  have hb : a ≤ bmp d a ∧ bmp d a ≤ a + 1 := by unfold bmp; split <;> omega
  unfold agS at h
  generalize bmp d a = e at h hb
  split at h
  · split at h
    · cases h; omega
    · cases h
  · split at h
    · cases h; omega
    · cases h
theorem agA_bd {s y x d z : Int} {o : Option Int} {b : Int} (hy : 1 ≤ y) (h : agA s y x d z o = some b) (ho : ∀ a, o = some a → 0 ≤ a) : 0 ≤ b ∧ b ≤ y - 1 ∧ (z = x ∨ ∃ a, o = some a) := by
  unfold agA at h
  split at h
  · next e => cases h; exact ⟨by omega, by omega, .inl e⟩
  · cases o with
    | none => cases h
    | some a =>
      have h0 := ho a rfl
      have := agS_bd (show agS s y x d z a = some b from h) h0
      exact ⟨by omega, by omega, .inr ⟨a, rfl⟩⟩
theorem VT_tc {s y l m x k : Int} {t : List T2} (h : VT s y l m t) (hx : 0 ≤ x ∧ x ≤ 999) : VT s y l m (tcH s y x k t) := by
  have hs : sT (tcH s y x k t) := rL_sorted h.so
  refine VT_mk h.geo hs fun p hp => ?_
  obtain ⟨z, b⟩ := p
  have ha := (mem_age hs).1 hp
  unfold tcH at ha
  rw [age_rL h.so] at ha
  obtain ⟨q1, q2, q3⟩ := agA_bd h.y1 ha fun a e => (h.age e).2.1
  refine ⟨?_, q1, q2⟩
  rcases q3 with e | ⟨a, e⟩
  · show 0 ≤ z ∧ z ≤ 999; omega
  · exact (h.age e).1
/-! Joins. -/
end Ca
end Go.Proofs.Ytmjnakhpekbenaa
namespace Go.Proofs.Ytmjnakhpekbenaa
open Go.RowKit Go.Sort Go.Great
namespace Ec
structure Hid (p : Prop) : Prop where
  out : p
theorem hide {p : Prop} (h : p) : Hid p := ⟨h⟩
theorem ret_i {k : IntKind} {a b : Int} (h : a = b) : Ending.returned (.int k a) = .returned (.int k b) := by rw [h]
def tbl : Array Value := #[.string ⟨#[110, 111, 112]⟩, .int .i64 0, .int .i64 0, .int .i64 1, .string ⟨#[112, 117, 115, 104]⟩, .int .i64 1, .int .i64 0, .int .i64 1, .string ⟨#[108, 111, 97, 100]⟩, .int .i64 2, .int .i64 0, .int .i64 1, .string ⟨#[115, 116, 111, 114, 101]⟩, .int .i64 2, .int .i64 0, .int .i64 1, .string ⟨#[100, 114, 111, 112]⟩, .int .i64 0, .int .i64 0, .int .i64 1, .string ⟨#[100, 117, 112]⟩, .int .i64 0, .int .i64 0, .int .i64 1, .string ⟨#[97, 100, 100]⟩, .int .i64 0, .int .i64 0, .int .i64 1, .string ⟨#[115, 117, 98]⟩, .int .i64 0, .int .i64 0, .int .i64 1, .string ⟨#[109, 117, 108]⟩, .int .i64 0, .int .i64 0, .int .i64 3, .string ⟨#[100, 105, 118]⟩, .int .i64 0, .int .i64 0, .int .i64 8, .string ⟨#[108, 101, 115, 115]⟩, .int .i64 0, .int .i64 0, .int .i64 1, .string ⟨#[115, 97, 109, 101]⟩, .int .i64 0, .int .i64 0, .int .i64 1, .string ⟨#[110, 117, 108, 108]⟩, .int .i64 3, .int .i64 4, .int .i64 1, .string ⟨#[105, 115, 110, 117, 108, 108]⟩, .int .i64 0, .int .i64 0, .int .i64 1, .string ⟨#[110, 101, 119]⟩, .int .i64 4, .int .i64 0, .int .i64 12, .string ⟨#[110, 101, 119, 105, 110, 116, 115]⟩, .int .i64 5, .int .i64 0, .int .i64 4, .string ⟨#[110, 101, 119, 114, 101, 102, 115]⟩, .int .i64 5, .int .i64 4, .int .i64 4, .string ⟨#[103, 101, 116]⟩, .int .i64 6, .int .i64 0, .int .i64 2, .string ⟨#[112, 117, 116]⟩, .int .i64 6, .int .i64 0, .int .i64 3, .string ⟨#[101, 108, 101, 109]⟩, .int .i64 0, .int .i64 0, .int .i64 3, .string ⟨#[115, 101, 116, 101, 108, 101, 109]⟩, .int .i64 0, .int .i64 0, .int .i64 4, .string ⟨#[108, 101, 110]⟩, .int .i64 0, .int .i64 0, .int .i64 2, .string ⟨#[115, 116, 97, 116, 105, 99]⟩, .int .i64 7, .int .i64 0, .int .i64 2, .string ⟨#[115, 101, 116, 115, 116, 97, 116, 105, 99]⟩, .int .i64 7, .int .i64 0, .int .i64 3, .string ⟨#[99, 97, 115, 116]⟩, .int .i64 4, .int .i64 0, .int .i64 2, .string ⟨#[99, 97, 108, 108]⟩, .int .i64 8, .int .i64 0, .int .i64 4, .string ⟨#[115, 101, 110, 100]⟩, .int .i64 9, .int .i64 0, .int .i64 6, .string ⟨#[101, 109, 105, 116]⟩, .int .i64 10, .int .i64 0, .int .i64 2, .string ⟨#[116, 104, 114, 111, 119]⟩, .int .i64 11, .int .i64 0, .int .i64 3, .string ⟨#[105, 102]⟩, .int .i64 0, .int .i64 0, .int .i64 1, .string ⟨#[108, 111, 111, 112]⟩, .int .i64 12, .int .i64 2, .int .i64 2, .string ⟨#[108, 111, 99, 107]⟩, .int .i64 13, .int .i64 0, .int .i64 2, .string ⟨#[115, 99, 111, 112, 101]⟩, .int .i64 14, .int .i64 0, .int .i64 4, .string ⟨#[116, 114, 121]⟩, .int .i64 0, .int .i64 0, .int .i64 2, .string ⟨#[101, 108, 115, 101]⟩, .int .i64 0, .int .i64 0, .int .i64 1, .string ⟨#[101, 110, 100]⟩, .int .i64 0, .int .i64 0, .int .i64 1]
theorem tbl_size : tbl.size = 144 := by rfl
theorem tbl_one : tbl.all (·.oneCell') = true := by kernel_rfl
set_option maxRecDepth 100000 in
theorem zeroT : ∃ z : Array Value, z.size = 144 ∧ ∀ w : World, (zeroValue 165).run Try.prog w = .ok (.agg z) w := ⟨#[.string ByteArray.empty, .int .i64 0, .int .i64 0, .int .i64 0, .string ByteArray.empty, .int .i64 0, .int .i64 0, .int .i64 0, .string ByteArray.empty, .int .i64 0, .int .i64 0, .int .i64 0, .string ByteArray.empty, .int .i64 0, .int .i64 0, .int .i64 0, .string ByteArray.empty, .int .i64 0, .int .i64 0, .int .i64 0, .string ByteArray.empty, .int .i64 0, .int .i64 0, .int .i64 0, .string ByteArray.empty, .int .i64 0, .int .i64 0, .int .i64 0, .string ByteArray.empty, .int .i64 0, .int .i64 0, .int .i64 0, .string ByteArray.empty, .int .i64 0, .int .i64 0, .int .i64 0, .string ByteArray.empty, .int .i64 0, .int .i64 0, .int .i64 0, .string ByteArray.empty, .int .i64 0, .int .i64 0, .int .i64 0, .string ByteArray.empty, .int .i64 0, .int .i64 0, .int .i64 0, .string ByteArray.empty, .int .i64 0, .int .i64 0, .int .i64 0, .string ByteArray.empty, .int .i64 0, .int .i64 0, .int .i64 0, .string ByteArray.empty, .int .i64 0, .int .i64 0, .int .i64 0, .string ByteArray.empty, .int .i64 0, .int .i64 0, .int .i64 0, .string ByteArray.empty, .int .i64 0, .int .i64 0, .int .i64 0, .string ByteArray.empty, .int .i64 0, .int .i64 0, .int .i64 0, .string ByteArray.empty, .int .i64 0, .int .i64 0, .int .i64 0, .string ByteArray.empty, .int .i64 0, .int .i64 0, .int .i64 0, .string ByteArray.empty, .int .i64 0, .int .i64 0, .int .i64 0, .string ByteArray.empty, .int .i64 0, .int .i64 0, .int .i64 0, .string ByteArray.empty, .int .i64 0, .int .i64 0, .int .i64 0, .string ByteArray.empty, .int .i64 0, .int .i64 0, .int .i64 0, .string ByteArray.empty, .int .i64 0, .int .i64 0, .int .i64 0, .string ByteArray.empty, .int .i64 0, .int .i64 0, .int .i64 0, .string ByteArray.empty, .int .i64 0, .int .i64 0, .int .i64 0, .string ByteArray.empty, .int .i64 0, .int .i64 0, .int .i64 0, .string ByteArray.empty, .int .i64 0, .int .i64 0, .int .i64 0, .string ByteArray.empty, .int .i64 0, .int .i64 0, .int .i64 0, .string ByteArray.empty, .int .i64 0, .int .i64 0, .int .i64 0, .string ByteArray.empty, .int .i64 0, .int .i64 0, .int .i64 0, .string ByteArray.empty, .int .i64 0, .int .i64 0, .int .i64 0, .string ByteArray.empty, .int .i64 0, .int .i64 0, .int .i64 0, .string ByteArray.empty, .int .i64 0, .int .i64 0, .int .i64 0, .string ByteArray.empty, .int .i64 0, .int .i64 0, .int .i64 0], by rfl, fun w => by kernel_rfl⟩
theorem size73 : (Try.prog.info? 165).map (·.size) = some 144 := by kernel_rfl
theorem setRow_alloc (w : World) (z cs : Array Value) (T : TypeId) : (w.alloc (.cells z T)).setRow w.heap.size cs = w.alloc (.cells cs T) := by
  unfold World.setRow World.alloc
  congr 1
  apply Array.ext
  · simp
  · intro i h1 h2
    simp only [Array.getElem_modify]
    split
    · rename_i hk
      subst hk
      simp
    · simp only [Array.getElem_push]
      split
      · rfl
      · simp at h1; omega
section
attribute [local irreducible] wpList Code.wp tbl
set_option maxRecDepth 100000 in
set_option maxHeartbeats 4000000 in
theorem table_any (w : World) : Calls Try.prog 139 #[] w fun e w' => e = .returned (.agg tbl) ∧ Below w.heap.size w w' := by
  obtain ⟨z, hz1, hz⟩ := zeroT
  go_enter Try.func139, Try.ntmps139
  apply wp_seq_k
  intro K0 hK0
  apply wp_region_lit
  refine wpList_allocTo rfl (some 0) rfl (.pointer (some ⟨w.heap.size, 0, none⟩)) (.cells z 165) (by simp [execOp, Instr.alloc, hz, go_sem]) ?_
  apply wpList_nil
  refine hK0 _ _ ?_
  clear hK0 K0
  apply wp_seq_k
  intro K0 hK0
  apply wp_region_lit
  refine wpList_buildTo rfl 155 _ rfl (some 1) rfl #[.string ⟨#[110, 111, 112]⟩, .int .i64 0, .int .i64 0, .int .i64 1] (by as_aux_lemma => kernel_rfl) ?_
  refine wpList_buildTo rfl 155 _ rfl (some 2) rfl #[.string ⟨#[112, 117, 115, 104]⟩, .int .i64 1, .int .i64 0, .int .i64 1] (by as_aux_lemma => kernel_rfl) ?_
  refine wpList_buildTo rfl 155 _ rfl (some 3) rfl #[.string ⟨#[108, 111, 97, 100]⟩, .int .i64 2, .int .i64 0, .int .i64 1] (by as_aux_lemma => kernel_rfl) ?_
  refine wpList_buildTo rfl 155 _ rfl (some 4) rfl #[.string ⟨#[115, 116, 111, 114, 101]⟩, .int .i64 2, .int .i64 0, .int .i64 1] (by as_aux_lemma => kernel_rfl) ?_
  refine wpList_buildTo rfl 155 _ rfl (some 5) rfl #[.string ⟨#[100, 114, 111, 112]⟩, .int .i64 0, .int .i64 0, .int .i64 1] (by as_aux_lemma => kernel_rfl) ?_
  refine wpList_buildTo rfl 155 _ rfl (some 6) rfl #[.string ⟨#[100, 117, 112]⟩, .int .i64 0, .int .i64 0, .int .i64 1] (by as_aux_lemma => kernel_rfl) ?_
  refine wpList_buildTo rfl 155 _ rfl (some 7) rfl #[.string ⟨#[97, 100, 100]⟩, .int .i64 0, .int .i64 0, .int .i64 1] (by as_aux_lemma => kernel_rfl) ?_
  refine wpList_buildTo rfl 155 _ rfl (some 8) rfl #[.string ⟨#[115, 117, 98]⟩, .int .i64 0, .int .i64 0, .int .i64 1] (by as_aux_lemma => kernel_rfl) ?_
  refine wpList_buildTo rfl 155 _ rfl (some 9) rfl #[.string ⟨#[109, 117, 108]⟩, .int .i64 0, .int .i64 0, .int .i64 3] (by as_aux_lemma => kernel_rfl) ?_
  refine wpList_buildTo rfl 155 _ rfl (some 10) rfl #[.string ⟨#[100, 105, 118]⟩, .int .i64 0, .int .i64 0, .int .i64 8] (by as_aux_lemma => kernel_rfl) ?_
  refine wpList_buildTo rfl 155 _ rfl (some 11) rfl #[.string ⟨#[108, 101, 115, 115]⟩, .int .i64 0, .int .i64 0, .int .i64 1] (by as_aux_lemma => kernel_rfl) ?_
  refine wpList_buildTo rfl 155 _ rfl (some 12) rfl #[.string ⟨#[115, 97, 109, 101]⟩, .int .i64 0, .int .i64 0, .int .i64 1] (by as_aux_lemma => kernel_rfl) ?_
  refine wpList_buildTo rfl 155 _ rfl (some 13) rfl #[.string ⟨#[110, 117, 108, 108]⟩, .int .i64 3, .int .i64 4, .int .i64 1] (by as_aux_lemma => kernel_rfl) ?_
  refine wpList_buildTo rfl 155 _ rfl (some 14) rfl #[.string ⟨#[105, 115, 110, 117, 108, 108]⟩, .int .i64 0, .int .i64 0, .int .i64 1] (by as_aux_lemma => kernel_rfl) ?_
  refine wpList_buildTo rfl 155 _ rfl (some 15) rfl #[.string ⟨#[110, 101, 119]⟩, .int .i64 4, .int .i64 0, .int .i64 12] (by as_aux_lemma => kernel_rfl) ?_
  refine wpList_buildTo rfl 155 _ rfl (some 16) rfl #[.string ⟨#[110, 101, 119, 105, 110, 116, 115]⟩, .int .i64 5, .int .i64 0, .int .i64 4] (by as_aux_lemma => kernel_rfl) ?_
  refine wpList_buildTo rfl 155 _ rfl (some 17) rfl #[.string ⟨#[110, 101, 119, 114, 101, 102, 115]⟩, .int .i64 5, .int .i64 4, .int .i64 4] (by as_aux_lemma => kernel_rfl) ?_
  refine wpList_buildTo rfl 155 _ rfl (some 18) rfl #[.string ⟨#[103, 101, 116]⟩, .int .i64 6, .int .i64 0, .int .i64 2] (by as_aux_lemma => kernel_rfl) ?_
  refine wpList_buildTo rfl 155 _ rfl (some 19) rfl #[.string ⟨#[112, 117, 116]⟩, .int .i64 6, .int .i64 0, .int .i64 3] (by as_aux_lemma => kernel_rfl) ?_
  refine wpList_buildTo rfl 155 _ rfl (some 20) rfl #[.string ⟨#[101, 108, 101, 109]⟩, .int .i64 0, .int .i64 0, .int .i64 3] (by as_aux_lemma => kernel_rfl) ?_
  refine wpList_buildTo rfl 155 _ rfl (some 21) rfl #[.string ⟨#[115, 101, 116, 101, 108, 101, 109]⟩, .int .i64 0, .int .i64 0, .int .i64 4] (by as_aux_lemma => kernel_rfl) ?_
  refine wpList_buildTo rfl 155 _ rfl (some 22) rfl #[.string ⟨#[108, 101, 110]⟩, .int .i64 0, .int .i64 0, .int .i64 2] (by as_aux_lemma => kernel_rfl) ?_
  refine wpList_buildTo rfl 155 _ rfl (some 23) rfl #[.string ⟨#[115, 116, 97, 116, 105, 99]⟩, .int .i64 7, .int .i64 0, .int .i64 2] (by as_aux_lemma => kernel_rfl) ?_
  refine wpList_buildTo rfl 155 _ rfl (some 24) rfl #[.string ⟨#[115, 101, 116, 115, 116, 97, 116, 105, 99]⟩, .int .i64 7, .int .i64 0, .int .i64 3] (by as_aux_lemma => kernel_rfl) ?_
  refine wpList_buildTo rfl 155 _ rfl (some 25) rfl #[.string ⟨#[99, 97, 115, 116]⟩, .int .i64 4, .int .i64 0, .int .i64 2] (by as_aux_lemma => kernel_rfl) ?_
  refine wpList_buildTo rfl 155 _ rfl (some 26) rfl #[.string ⟨#[99, 97, 108, 108]⟩, .int .i64 8, .int .i64 0, .int .i64 4] (by as_aux_lemma => kernel_rfl) ?_
  refine wpList_buildTo rfl 155 _ rfl (some 27) rfl #[.string ⟨#[115, 101, 110, 100]⟩, .int .i64 9, .int .i64 0, .int .i64 6] (by as_aux_lemma => kernel_rfl) ?_
  refine wpList_buildTo rfl 155 _ rfl (some 28) rfl #[.string ⟨#[101, 109, 105, 116]⟩, .int .i64 10, .int .i64 0, .int .i64 2] (by as_aux_lemma => kernel_rfl) ?_
  refine wpList_buildTo rfl 155 _ rfl (some 29) rfl #[.string ⟨#[116, 104, 114, 111, 119]⟩, .int .i64 11, .int .i64 0, .int .i64 3] (by as_aux_lemma => kernel_rfl) ?_
  refine wpList_buildTo rfl 155 _ rfl (some 30) rfl #[.string ⟨#[105, 102]⟩, .int .i64 0, .int .i64 0, .int .i64 1] (by as_aux_lemma => kernel_rfl) ?_
  refine wpList_buildTo rfl 155 _ rfl (some 31) rfl #[.string ⟨#[108, 111, 111, 112]⟩, .int .i64 12, .int .i64 2, .int .i64 2] (by as_aux_lemma => kernel_rfl) ?_
  refine wpList_buildTo rfl 155 _ rfl (some 32) rfl #[.string ⟨#[108, 111, 99, 107]⟩, .int .i64 13, .int .i64 0, .int .i64 2] (by as_aux_lemma => kernel_rfl) ?_
  refine wpList_buildTo rfl 155 _ rfl (some 33) rfl #[.string ⟨#[115, 99, 111, 112, 101]⟩, .int .i64 14, .int .i64 0, .int .i64 4] (by as_aux_lemma => kernel_rfl) ?_
  refine wpList_buildTo rfl 155 _ rfl (some 34) rfl #[.string ⟨#[116, 114, 121]⟩, .int .i64 0, .int .i64 0, .int .i64 2] (by as_aux_lemma => kernel_rfl) ?_
  refine wpList_buildTo rfl 155 _ rfl (some 35) rfl #[.string ⟨#[101, 108, 115, 101]⟩, .int .i64 0, .int .i64 0, .int .i64 1] (by as_aux_lemma => kernel_rfl) ?_
  refine wpList_buildTo rfl 155 _ rfl (some 36) rfl #[.string ⟨#[101, 110, 100]⟩, .int .i64 0, .int .i64 0, .int .i64 1] (by as_aux_lemma => kernel_rfl) ?_
  refine wpList_buildTo rfl 165 _ rfl (some 37) rfl tbl (by as_aux_lemma => kernel_rfl) ?_
  refine wpList_store_row rfl 165 _ _ rfl w.heap.size tbl (by as_aux_lemma => kernel_rfl) (by as_aux_lemma => kernel_rfl) 165 z (heap_alloc_new w _) (by rw [tbl_size]; exact size73) (by rw [hz1, tbl_size]) tbl_one ?_
  apply wpList_nil
  refine hK0 _ _ ?_
  clear hK0 K0
  rw [setRow_alloc]
  refine wp_ret ?_
  exact bodyPost_ret (v := .agg tbl) (results_cell_row rfl _ _ w.heap.size 165 tbl (0, 0) _ (by as_aux_lemma => kernel_rfl) (heap_alloc_new w _) Try.underlying165 rfl (by rw [tbl_size]; exact size73)) rfl ⟨rfl, (Below.refl _ _).alloc (Nat.le_refl _) _⟩
end
/-- an operation: its name, the ranges of its operands, its cost -/
structure Sp where
  n : ByteArray
  a : Int
  b : Int
  c : Int
def sps : Array Sp := #[⟨⟨#[110, 111, 112]⟩, 0, 0, 1⟩, ⟨⟨#[112, 117, 115, 104]⟩, 1, 0, 1⟩, ⟨⟨#[108, 111, 97, 100]⟩, 2, 0, 1⟩, ⟨⟨#[115, 116, 111, 114, 101]⟩, 2, 0, 1⟩, ⟨⟨#[100, 114, 111, 112]⟩, 0, 0, 1⟩, ⟨⟨#[100, 117, 112]⟩, 0, 0, 1⟩, ⟨⟨#[97, 100, 100]⟩, 0, 0, 1⟩, ⟨⟨#[115, 117, 98]⟩, 0, 0, 1⟩, ⟨⟨#[109, 117, 108]⟩, 0, 0, 3⟩, ⟨⟨#[100, 105, 118]⟩, 0, 0, 8⟩, ⟨⟨#[108, 101, 115, 115]⟩, 0, 0, 1⟩, ⟨⟨#[115, 97, 109, 101]⟩, 0, 0, 1⟩, ⟨⟨#[110, 117, 108, 108]⟩, 3, 4, 1⟩, ⟨⟨#[105, 115, 110, 117, 108, 108]⟩, 0, 0, 1⟩, ⟨⟨#[110, 101, 119]⟩, 4, 0, 12⟩, ⟨⟨#[110, 101, 119, 105, 110, 116, 115]⟩, 5, 0, 4⟩, ⟨⟨#[110, 101, 119, 114, 101, 102, 115]⟩, 5, 4, 4⟩, ⟨⟨#[103, 101, 116]⟩, 6, 0, 2⟩, ⟨⟨#[112, 117, 116]⟩, 6, 0, 3⟩, ⟨⟨#[101, 108, 101, 109]⟩, 0, 0, 3⟩, ⟨⟨#[115, 101, 116, 101, 108, 101, 109]⟩, 0, 0, 4⟩, ⟨⟨#[108, 101, 110]⟩, 0, 0, 2⟩, ⟨⟨#[115, 116, 97, 116, 105, 99]⟩, 7, 0, 2⟩, ⟨⟨#[115, 101, 116, 115, 116, 97, 116, 105, 99]⟩, 7, 0, 3⟩, ⟨⟨#[99, 97, 115, 116]⟩, 4, 0, 2⟩, ⟨⟨#[99, 97, 108, 108]⟩, 8, 0, 4⟩, ⟨⟨#[115, 101, 110, 100]⟩, 9, 0, 6⟩, ⟨⟨#[101, 109, 105, 116]⟩, 10, 0, 2⟩, ⟨⟨#[116, 104, 114, 111, 119]⟩, 11, 0, 3⟩, ⟨⟨#[105, 102]⟩, 0, 0, 1⟩, ⟨⟨#[108, 111, 111, 112]⟩, 12, 2, 2⟩, ⟨⟨#[108, 111, 99, 107]⟩, 13, 0, 2⟩, ⟨⟨#[115, 99, 111, 112, 101]⟩, 14, 0, 4⟩, ⟨⟨#[116, 114, 121]⟩, 0, 0, 2⟩, ⟨⟨#[101, 108, 115, 101]⟩, 0, 0, 1⟩, ⟨⟨#[101, 110, 100]⟩, 0, 0, 1⟩]
def sp (k : Nat) : Sp := sps[k]?.getD ⟨⟨#[]⟩, 0, 0, 0⟩
set_option maxRecDepth 100000 in
theorem tbl_at : ∀ k, k < 36 → tbl[k * 4]? = some (.string (sp k).n) ∧ tbl[k * 4 + 1]? = some (.int .i64 (sp k).a) ∧ tbl[k * 4 + 2]? = some (.int .i64 (sp k).b) ∧ tbl[k * 4 + 3]? = some (.int .i64 (sp k).c)
  | 0, _ => ⟨by rfl, by rfl, by rfl, by rfl⟩
  | 1, _ => ⟨by rfl, by rfl, by rfl, by rfl⟩
  | 2, _ => ⟨by rfl, by rfl, by rfl, by rfl⟩
  | 3, _ => ⟨by rfl, by rfl, by rfl, by rfl⟩
  | 4, _ => ⟨by rfl, by rfl, by rfl, by rfl⟩
  | 5, _ => ⟨by rfl, by rfl, by rfl, by rfl⟩
  | 6, _ => ⟨by rfl, by rfl, by rfl, by rfl⟩
  | 7, _ => ⟨by rfl, by rfl, by rfl, by rfl⟩
  | 8, _ => ⟨by rfl, by rfl, by rfl, by rfl⟩
  | 9, _ => ⟨by rfl, by rfl, by rfl, by rfl⟩
  | 10, _ => ⟨by rfl, by rfl, by rfl, by rfl⟩
  | 11, _ => ⟨by rfl, by rfl, by rfl, by rfl⟩
  | 12, _ => ⟨by rfl, by rfl, by rfl, by rfl⟩
  | 13, _ => ⟨by rfl, by rfl, by rfl, by rfl⟩
  | 14, _ => ⟨by rfl, by rfl, by rfl, by rfl⟩
  | 15, _ => ⟨by rfl, by rfl, by rfl, by rfl⟩
  | 16, _ => ⟨by rfl, by rfl, by rfl, by rfl⟩
  | 17, _ => ⟨by rfl, by rfl, by rfl, by rfl⟩
  | 18, _ => ⟨by rfl, by rfl, by rfl, by rfl⟩
  | 19, _ => ⟨by rfl, by rfl, by rfl, by rfl⟩
  | 20, _ => ⟨by rfl, by rfl, by rfl, by rfl⟩
  | 21, _ => ⟨by rfl, by rfl, by rfl, by rfl⟩
  | 22, _ => ⟨by rfl, by rfl, by rfl, by rfl⟩
  | 23, _ => ⟨by rfl, by rfl, by rfl, by rfl⟩
  | 24, _ => ⟨by rfl, by rfl, by rfl, by rfl⟩
  | 25, _ => ⟨by rfl, by rfl, by rfl, by rfl⟩
  | 26, _ => ⟨by rfl, by rfl, by rfl, by rfl⟩
  | 27, _ => ⟨by rfl, by rfl, by rfl, by rfl⟩
  | 28, _ => ⟨by rfl, by rfl, by rfl, by rfl⟩
  | 29, _ => ⟨by rfl, by rfl, by rfl, by rfl⟩
  | 30, _ => ⟨by rfl, by rfl, by rfl, by rfl⟩
  | 31, _ => ⟨by rfl, by rfl, by rfl, by rfl⟩
  | 32, _ => ⟨by rfl, by rfl, by rfl, by rfl⟩
  | 33, _ => ⟨by rfl, by rfl, by rfl, by rfl⟩
  | 34, _ => ⟨by rfl, by rfl, by rfl, by rfl⟩
  | 35, _ => ⟨by rfl, by rfl, by rfl, by rfl⟩
  | n + 36, h => absurd h (by omega)
set_option maxRecDepth 100000 in
set_option maxHeartbeats 4000000 in
theorem known_ok (k : Nat) (hk : k < 36) (w : World) :
    Calls Try.prog 131 #[.int .i64 (k : Int)] w fun e w' => e = .returned (.tuple #[.agg #[.string (sp k).n, .int .i64 (sp k).a, .int .i64 (sp k).b, .int .i64 (sp k).c], .bool true]) ∧ Below w.heap.size w w' := by
  obtain ⟨z, hz1, hz⟩ := zeroT
  have Hz := hide hz1
  clear hz1
  obtain ⟨t0, t1, t2, t3⟩ := tbl_at k hk
  have k1 : ¬ ((k : Int) < 0) := by omega
  have k2 : (k : Int) < 36 := by omega
  have k3 : ¬ (36 ≤ (k : Int)) := by omega
  go_enter Try.func131, Try.ntmps131
  go_wp2_with fail
  refine (table_any _).mono ?_
  rintro e w1 ⟨rfl, hb⟩
  have hz1 : w.heap.size + 1 ≤ w1.heap.size := by have := hb.size; simpa using this
  have c0 : w1.cell? ⟨w.heap.size, 0, none⟩ = some (.string ⟨#[]⟩) := by rw [hb.cell (by simp)]; simp
  have c1 : w1.cell? ⟨w.heap.size, 1, none⟩ = some (.int .i64 0) := by rw [hb.cell (by simp)]; simp
  have c2 : w1.cell? ⟨w.heap.size, 2, none⟩ = some (.int .i64 0) := by rw [hb.cell (by simp)]; simp
  have c3 : w1.cell? ⟨w.heap.size, 3, none⟩ = some (.int .i64 0) := by rw [hb.cell (by simp)]; simp
  have f0 : ∀ j, w1.frozen? ⟨w.heap.size, j, none⟩ = false := fun j => by rw [hb.frozen (by simp)]; simp
  have g0 := f0 0
  have g1 := f0 1
  have g2 := f0 2
  have g3 := f0 3
  have hlt : w.heap.size < w1.heap.size := by omega
  have hne : ¬ (w.heap.size = w1.heap.size) := by omega
  have hne2 : ¬ (w1.heap.size = w.heap.size) := by omega
  clear f0
  have hb1 : Below w.heap.size w w1 := Below.trans (by go_grown) (hb.mono (by simp))
  clear hb
  go_wp2_with (refine wpList_store_row rfl 165 _ _ rfl w1.heap.size tbl (by rfl) (by rfl) 165 z (heap_alloc_new w1 _) (by rw [tbl_size]; exact size73) (by rw [Hz.out, tbl_size]) tbl_one ?_; rw [setRow_alloc])
  trace_state
  refine bodyPost_ret (v := .tuple #[.agg #[.string (sp k).n, .int .i64 (sp k).a, .int .i64 (sp k).b, .int .i64 (sp k).c], .bool true]) (by simp [results, Try.results131, go_sem, c0, c1, c2, c3, hlt, hne, hne2]) rfl ⟨rfl, by go_grown⟩
end Ec
end Go.Proofs.Ytmjnakhpekbenaa
namespace Go.Proofs.Ytmjnakhpekbenaa
open Go.RowKit Go.Sort
namespace Ec
set_option maxRecDepth 100000 in
set_option maxHeartbeats 4000000 in
theorem known_bad (op : Int) (hk : op < 0 ∨ (0 ≤ op ∧ 36 ≤ op)) (w : World) :
    Calls Try.prog 131 #[.int .i64 op] w fun e w' => e = .returned (.tuple #[.agg #[.string ⟨#[]⟩, .int .i64 0, .int .i64 0, .int .i64 0], .bool false]) ∧ Below w.heap.size w w' := by
  obtain ⟨z, hz1, hz⟩ := zeroT
  have Hz := hide hz1
  clear hz1
  rcases hk with hk | ⟨hk, hk2⟩
  all_goals
    go_enter Try.func131, Try.ntmps131
    go_wp2_with fail
    refine (table_any _).mono ?_
    rintro e w1 ⟨rfl, hb⟩
    have hz1 : w.heap.size + 1 ≤ w1.heap.size := by have := hb.size; simpa using this
    have c0 : w1.cell? ⟨w.heap.size, 0, none⟩ = some (.string ⟨#[]⟩) := by rw [hb.cell (by simp)]; simp
    have c1 : w1.cell? ⟨w.heap.size, 1, none⟩ = some (.int .i64 0) := by rw [hb.cell (by simp)]; simp
    have c2 : w1.cell? ⟨w.heap.size, 2, none⟩ = some (.int .i64 0) := by rw [hb.cell (by simp)]; simp
    have c3 : w1.cell? ⟨w.heap.size, 3, none⟩ = some (.int .i64 0) := by rw [hb.cell (by simp)]; simp
    have f0 : ∀ j, w1.frozen? ⟨w.heap.size, j, none⟩ = false := fun j => by rw [hb.frozen (by simp)]; simp
    have g0 := f0 0
    have g1 := f0 1
    have g2 := f0 2
    have g3 := f0 3
    have hlt : w.heap.size < w1.heap.size := by omega
    have hne : ¬ (w.heap.size = w1.heap.size) := by omega
    have hne2 : ¬ (w1.heap.size = w.heap.size) := by omega
    clear f0
    have hb1 : Below w.heap.size w w1 := Below.trans (by go_grown) (hb.mono (by simp))
    clear hb
    go_wp2_with (refine wpList_store_row rfl 165 _ _ rfl w1.heap.size tbl (by rfl) (by rfl) 165 z (heap_alloc_new w1 _) (by rw [tbl_size]; exact size73) (by rw [Hz.out, tbl_size]) tbl_one ?_; rw [setRow_alloc])
    refine bodyPost_ret (v := .tuple #[.agg #[.string ⟨#[]⟩, .int .i64 0, .int .i64 0, .int .i64 0], .bool false]) (by simp [results, Try.results131, go_sem, c0, c1, c2, c3, hlt, hne, hne2]) rfl ⟨rfl, by go_grown⟩
def mosts (r : Int) : Int := if r = 2 then 9 else if r = 3 then 4 else if r = 4 then 9 else if r = 5 then 48 else if r = 6 then 6 else if r = 7 then 9 else if r = 8 then 15 else if r = 9 then 15 else if r = 10 then 3 else if r = 11 then 9 else if r = 12 then 50 else if r = 13 then 5 else if r = 14 then 24 else 0
def rng (n r : Int) (p : Bool) : Bool :=
  if r = 1 then decide (-2147483648 ≤ n) && decide (n ≤ 2147483647)
  else if r = 3 then decide (2 ≤ n) && decide (n ≤ 4)
  else if r = 14 then decide (1 ≤ n) && decide (n ≤ 24)
  else if p && (decide (r = 4) || decide (r = 6) || decide (r = 7) || decide (r = 8) || decide (r = 9)) then decide (0 ≤ n) && decide (n < 60)
  else decide (0 ≤ n) && decide (n ≤ mosts r)
theorem ix_0 (w : World) : (Instr.index 170 (.agg #[.int .i64 0, .int .i64 0, .int .i64 9, .int .i64 4, .int .i64 9, .int .i64 48, .int .i64 6, .int .i64 9, .int .i64 15, .int .i64 15, .int .i64 3, .int .i64 9, .int .i64 50, .int .i64 5, .int .i64 24]) (.int .i64 0)).run Try.prog w = .ok (.int .i64 0) w := by kernel_rfl
theorem most_0 (w : World) : Calls Try.prog 140 #[.int .i64 0] w fun e w' => e = .returned (.int .i64 0) ∧ w = w' := by
  have hx := ix_0
  go_enter Try.func140, Try.ntmps140
  go_wp2_with fail
  go_ret
  exact ⟨rfl, rfl⟩
theorem pools_0 (w : World) : Calls Try.prog 141 #[.int .i64 0] w fun e w' => e = .returned (.bool false) ∧ w = w' := by
  go_enter Try.func141, Try.ntmps141
  go_wp2_with fail
  go_ret
  exact ⟨rfl, rfl⟩
theorem ix_1 (w : World) : (Instr.index 170 (.agg #[.int .i64 0, .int .i64 0, .int .i64 9, .int .i64 4, .int .i64 9, .int .i64 48, .int .i64 6, .int .i64 9, .int .i64 15, .int .i64 15, .int .i64 3, .int .i64 9, .int .i64 50, .int .i64 5, .int .i64 24]) (.int .i64 1)).run Try.prog w = .ok (.int .i64 0) w := by kernel_rfl
theorem most_1 (w : World) : Calls Try.prog 140 #[.int .i64 1] w fun e w' => e = .returned (.int .i64 0) ∧ w = w' := by
  have hx := ix_1
  go_enter Try.func140, Try.ntmps140
  go_wp2_with fail
  go_ret
  exact ⟨rfl, rfl⟩
theorem pools_1 (w : World) : Calls Try.prog 141 #[.int .i64 1] w fun e w' => e = .returned (.bool false) ∧ w = w' := by
  go_enter Try.func141, Try.ntmps141
  go_wp2_with fail
  go_ret
  exact ⟨rfl, rfl⟩
theorem ix_2 (w : World) : (Instr.index 170 (.agg #[.int .i64 0, .int .i64 0, .int .i64 9, .int .i64 4, .int .i64 9, .int .i64 48, .int .i64 6, .int .i64 9, .int .i64 15, .int .i64 15, .int .i64 3, .int .i64 9, .int .i64 50, .int .i64 5, .int .i64 24]) (.int .i64 2)).run Try.prog w = .ok (.int .i64 9) w := by kernel_rfl
theorem most_2 (w : World) : Calls Try.prog 140 #[.int .i64 2] w fun e w' => e = .returned (.int .i64 9) ∧ w = w' := by
  have hx := ix_2
  go_enter Try.func140, Try.ntmps140
  go_wp2_with fail
  go_ret
  exact ⟨rfl, rfl⟩
theorem pools_2 (w : World) : Calls Try.prog 141 #[.int .i64 2] w fun e w' => e = .returned (.bool false) ∧ w = w' := by
  go_enter Try.func141, Try.ntmps141
  go_wp2_with fail
  go_ret
  exact ⟨rfl, rfl⟩
theorem ix_3 (w : World) : (Instr.index 170 (.agg #[.int .i64 0, .int .i64 0, .int .i64 9, .int .i64 4, .int .i64 9, .int .i64 48, .int .i64 6, .int .i64 9, .int .i64 15, .int .i64 15, .int .i64 3, .int .i64 9, .int .i64 50, .int .i64 5, .int .i64 24]) (.int .i64 3)).run Try.prog w = .ok (.int .i64 4) w := by kernel_rfl
theorem most_3 (w : World) : Calls Try.prog 140 #[.int .i64 3] w fun e w' => e = .returned (.int .i64 4) ∧ w = w' := by
  have hx := ix_3
  go_enter Try.func140, Try.ntmps140
  go_wp2_with fail
  go_ret
  exact ⟨rfl, rfl⟩
theorem pools_3 (w : World) : Calls Try.prog 141 #[.int .i64 3] w fun e w' => e = .returned (.bool false) ∧ w = w' := by
  go_enter Try.func141, Try.ntmps141
  go_wp2_with fail
  go_ret
  exact ⟨rfl, rfl⟩
theorem ix_4 (w : World) : (Instr.index 170 (.agg #[.int .i64 0, .int .i64 0, .int .i64 9, .int .i64 4, .int .i64 9, .int .i64 48, .int .i64 6, .int .i64 9, .int .i64 15, .int .i64 15, .int .i64 3, .int .i64 9, .int .i64 50, .int .i64 5, .int .i64 24]) (.int .i64 4)).run Try.prog w = .ok (.int .i64 9) w := by kernel_rfl
theorem most_4 (w : World) : Calls Try.prog 140 #[.int .i64 4] w fun e w' => e = .returned (.int .i64 9) ∧ w = w' := by
  have hx := ix_4
  go_enter Try.func140, Try.ntmps140
  go_wp2_with fail
  go_ret
  exact ⟨rfl, rfl⟩
theorem pools_4 (w : World) : Calls Try.prog 141 #[.int .i64 4] w fun e w' => e = .returned (.bool true) ∧ w = w' := by
  go_enter Try.func141, Try.ntmps141
  go_wp2_with fail
  go_ret
  exact ⟨rfl, rfl⟩
theorem ix_5 (w : World) : (Instr.index 170 (.agg #[.int .i64 0, .int .i64 0, .int .i64 9, .int .i64 4, .int .i64 9, .int .i64 48, .int .i64 6, .int .i64 9, .int .i64 15, .int .i64 15, .int .i64 3, .int .i64 9, .int .i64 50, .int .i64 5, .int .i64 24]) (.int .i64 5)).run Try.prog w = .ok (.int .i64 48) w := by kernel_rfl
theorem most_5 (w : World) : Calls Try.prog 140 #[.int .i64 5] w fun e w' => e = .returned (.int .i64 48) ∧ w = w' := by
  have hx := ix_5
  go_enter Try.func140, Try.ntmps140
  go_wp2_with fail
  go_ret
  exact ⟨rfl, rfl⟩
theorem pools_5 (w : World) : Calls Try.prog 141 #[.int .i64 5] w fun e w' => e = .returned (.bool false) ∧ w = w' := by
  go_enter Try.func141, Try.ntmps141
  go_wp2_with fail
  go_ret
  exact ⟨rfl, rfl⟩
theorem ix_6 (w : World) : (Instr.index 170 (.agg #[.int .i64 0, .int .i64 0, .int .i64 9, .int .i64 4, .int .i64 9, .int .i64 48, .int .i64 6, .int .i64 9, .int .i64 15, .int .i64 15, .int .i64 3, .int .i64 9, .int .i64 50, .int .i64 5, .int .i64 24]) (.int .i64 6)).run Try.prog w = .ok (.int .i64 6) w := by kernel_rfl
theorem most_6 (w : World) : Calls Try.prog 140 #[.int .i64 6] w fun e w' => e = .returned (.int .i64 6) ∧ w = w' := by
  have hx := ix_6
  go_enter Try.func140, Try.ntmps140
  go_wp2_with fail
  go_ret
  exact ⟨rfl, rfl⟩
theorem pools_6 (w : World) : Calls Try.prog 141 #[.int .i64 6] w fun e w' => e = .returned (.bool true) ∧ w = w' := by
  go_enter Try.func141, Try.ntmps141
  go_wp2_with fail
  go_ret
  exact ⟨rfl, rfl⟩
theorem ix_7 (w : World) : (Instr.index 170 (.agg #[.int .i64 0, .int .i64 0, .int .i64 9, .int .i64 4, .int .i64 9, .int .i64 48, .int .i64 6, .int .i64 9, .int .i64 15, .int .i64 15, .int .i64 3, .int .i64 9, .int .i64 50, .int .i64 5, .int .i64 24]) (.int .i64 7)).run Try.prog w = .ok (.int .i64 9) w := by kernel_rfl
theorem most_7 (w : World) : Calls Try.prog 140 #[.int .i64 7] w fun e w' => e = .returned (.int .i64 9) ∧ w = w' := by
  have hx := ix_7
  go_enter Try.func140, Try.ntmps140
  go_wp2_with fail
  go_ret
  exact ⟨rfl, rfl⟩
theorem pools_7 (w : World) : Calls Try.prog 141 #[.int .i64 7] w fun e w' => e = .returned (.bool true) ∧ w = w' := by
  go_enter Try.func141, Try.ntmps141
  go_wp2_with fail
  go_ret
  exact ⟨rfl, rfl⟩
theorem ix_8 (w : World) : (Instr.index 170 (.agg #[.int .i64 0, .int .i64 0, .int .i64 9, .int .i64 4, .int .i64 9, .int .i64 48, .int .i64 6, .int .i64 9, .int .i64 15, .int .i64 15, .int .i64 3, .int .i64 9, .int .i64 50, .int .i64 5, .int .i64 24]) (.int .i64 8)).run Try.prog w = .ok (.int .i64 15) w := by kernel_rfl
theorem most_8 (w : World) : Calls Try.prog 140 #[.int .i64 8] w fun e w' => e = .returned (.int .i64 15) ∧ w = w' := by
  have hx := ix_8
  go_enter Try.func140, Try.ntmps140
  go_wp2_with fail
  go_ret
  exact ⟨rfl, rfl⟩
theorem pools_8 (w : World) : Calls Try.prog 141 #[.int .i64 8] w fun e w' => e = .returned (.bool true) ∧ w = w' := by
  go_enter Try.func141, Try.ntmps141
  go_wp2_with fail
  go_ret
  exact ⟨rfl, rfl⟩
theorem ix_9 (w : World) : (Instr.index 170 (.agg #[.int .i64 0, .int .i64 0, .int .i64 9, .int .i64 4, .int .i64 9, .int .i64 48, .int .i64 6, .int .i64 9, .int .i64 15, .int .i64 15, .int .i64 3, .int .i64 9, .int .i64 50, .int .i64 5, .int .i64 24]) (.int .i64 9)).run Try.prog w = .ok (.int .i64 15) w := by kernel_rfl
theorem most_9 (w : World) : Calls Try.prog 140 #[.int .i64 9] w fun e w' => e = .returned (.int .i64 15) ∧ w = w' := by
  have hx := ix_9
  go_enter Try.func140, Try.ntmps140
  go_wp2_with fail
  go_ret
  exact ⟨rfl, rfl⟩
theorem pools_9 (w : World) : Calls Try.prog 141 #[.int .i64 9] w fun e w' => e = .returned (.bool true) ∧ w = w' := by
  go_enter Try.func141, Try.ntmps141
  go_wp2_with fail
  go_ret
  exact ⟨rfl, rfl⟩
theorem ix_10 (w : World) : (Instr.index 170 (.agg #[.int .i64 0, .int .i64 0, .int .i64 9, .int .i64 4, .int .i64 9, .int .i64 48, .int .i64 6, .int .i64 9, .int .i64 15, .int .i64 15, .int .i64 3, .int .i64 9, .int .i64 50, .int .i64 5, .int .i64 24]) (.int .i64 10)).run Try.prog w = .ok (.int .i64 3) w := by kernel_rfl
theorem most_10 (w : World) : Calls Try.prog 140 #[.int .i64 10] w fun e w' => e = .returned (.int .i64 3) ∧ w = w' := by
  have hx := ix_10
  go_enter Try.func140, Try.ntmps140
  go_wp2_with fail
  go_ret
  exact ⟨rfl, rfl⟩
theorem pools_10 (w : World) : Calls Try.prog 141 #[.int .i64 10] w fun e w' => e = .returned (.bool false) ∧ w = w' := by
  go_enter Try.func141, Try.ntmps141
  go_wp2_with fail
  go_ret
  exact ⟨rfl, rfl⟩
theorem ix_11 (w : World) : (Instr.index 170 (.agg #[.int .i64 0, .int .i64 0, .int .i64 9, .int .i64 4, .int .i64 9, .int .i64 48, .int .i64 6, .int .i64 9, .int .i64 15, .int .i64 15, .int .i64 3, .int .i64 9, .int .i64 50, .int .i64 5, .int .i64 24]) (.int .i64 11)).run Try.prog w = .ok (.int .i64 9) w := by kernel_rfl
theorem most_11 (w : World) : Calls Try.prog 140 #[.int .i64 11] w fun e w' => e = .returned (.int .i64 9) ∧ w = w' := by
  have hx := ix_11
  go_enter Try.func140, Try.ntmps140
  go_wp2_with fail
  go_ret
  exact ⟨rfl, rfl⟩
theorem pools_11 (w : World) : Calls Try.prog 141 #[.int .i64 11] w fun e w' => e = .returned (.bool false) ∧ w = w' := by
  go_enter Try.func141, Try.ntmps141
  go_wp2_with fail
  go_ret
  exact ⟨rfl, rfl⟩
theorem ix_12 (w : World) : (Instr.index 170 (.agg #[.int .i64 0, .int .i64 0, .int .i64 9, .int .i64 4, .int .i64 9, .int .i64 48, .int .i64 6, .int .i64 9, .int .i64 15, .int .i64 15, .int .i64 3, .int .i64 9, .int .i64 50, .int .i64 5, .int .i64 24]) (.int .i64 12)).run Try.prog w = .ok (.int .i64 50) w := by kernel_rfl
theorem most_12 (w : World) : Calls Try.prog 140 #[.int .i64 12] w fun e w' => e = .returned (.int .i64 50) ∧ w = w' := by
  have hx := ix_12
  go_enter Try.func140, Try.ntmps140
  go_wp2_with fail
  go_ret
  exact ⟨rfl, rfl⟩
theorem pools_12 (w : World) : Calls Try.prog 141 #[.int .i64 12] w fun e w' => e = .returned (.bool false) ∧ w = w' := by
  go_enter Try.func141, Try.ntmps141
  go_wp2_with fail
  go_ret
  exact ⟨rfl, rfl⟩
theorem ix_13 (w : World) : (Instr.index 170 (.agg #[.int .i64 0, .int .i64 0, .int .i64 9, .int .i64 4, .int .i64 9, .int .i64 48, .int .i64 6, .int .i64 9, .int .i64 15, .int .i64 15, .int .i64 3, .int .i64 9, .int .i64 50, .int .i64 5, .int .i64 24]) (.int .i64 13)).run Try.prog w = .ok (.int .i64 5) w := by kernel_rfl
theorem most_13 (w : World) : Calls Try.prog 140 #[.int .i64 13] w fun e w' => e = .returned (.int .i64 5) ∧ w = w' := by
  have hx := ix_13
  go_enter Try.func140, Try.ntmps140
  go_wp2_with fail
  go_ret
  exact ⟨rfl, rfl⟩
theorem pools_13 (w : World) : Calls Try.prog 141 #[.int .i64 13] w fun e w' => e = .returned (.bool false) ∧ w = w' := by
  go_enter Try.func141, Try.ntmps141
  go_wp2_with fail
  go_ret
  exact ⟨rfl, rfl⟩
theorem ix_14 (w : World) : (Instr.index 170 (.agg #[.int .i64 0, .int .i64 0, .int .i64 9, .int .i64 4, .int .i64 9, .int .i64 48, .int .i64 6, .int .i64 9, .int .i64 15, .int .i64 15, .int .i64 3, .int .i64 9, .int .i64 50, .int .i64 5, .int .i64 24]) (.int .i64 14)).run Try.prog w = .ok (.int .i64 24) w := by kernel_rfl
theorem most_14 (w : World) : Calls Try.prog 140 #[.int .i64 14] w fun e w' => e = .returned (.int .i64 24) ∧ w = w' := by
  have hx := ix_14
  go_enter Try.func140, Try.ntmps140
  go_wp2_with fail
  go_ret
  exact ⟨rfl, rfl⟩
theorem pools_14 (w : World) : Calls Try.prog 141 #[.int .i64 14] w fun e w' => e = .returned (.bool false) ∧ w = w' := by
  go_enter Try.func141, Try.ntmps141
  go_wp2_with fail
  go_ret
  exact ⟨rfl, rfl⟩
theorem in_0_false (n : Int) (w : World) : Calls Try.prog 132 #[.int .i64 n, .int .i64 0, .bool false] w fun e w' => e = .returned (.bool (rng n 0 false)) ∧ w = w' := by
  by_cases h : 0 ≤ n
  all_goals
    go_enter Try.func132, Try.ntmps132
    go_wp2_with (first | (go_at_call 140; refine (most_0 _).mono ?_; rintro e ws ⟨rfl, rfl⟩) | (go_at_call 141; refine (pools_0 _).mono ?_; rintro e ws ⟨rfl, rfl⟩))
    go_ret
    exact ⟨by simp [rng, mosts, h] <;> omega, rfl⟩
theorem in_0_true (n : Int) (w : World) : Calls Try.prog 132 #[.int .i64 n, .int .i64 0, .bool true] w fun e w' => e = .returned (.bool (rng n 0 true)) ∧ w = w' := by
  by_cases h : 0 ≤ n
  all_goals
    go_enter Try.func132, Try.ntmps132
    go_wp2_with (first | (go_at_call 140; refine (most_0 _).mono ?_; rintro e ws ⟨rfl, rfl⟩) | (go_at_call 141; refine (pools_0 _).mono ?_; rintro e ws ⟨rfl, rfl⟩))
    go_ret
    exact ⟨by simp [rng, mosts, h] <;> omega, rfl⟩
theorem in_1_false (n : Int) (w : World) : Calls Try.prog 132 #[.int .i64 n, .int .i64 1, .bool false] w fun e w' => e = .returned (.bool (rng n 1 false)) ∧ w = w' := by
  by_cases h : -2147483648 ≤ n
  all_goals
    go_enter Try.func132, Try.ntmps132
    go_wp2_with (first | (go_at_call 140; refine (most_1 _).mono ?_; rintro e ws ⟨rfl, rfl⟩) | (go_at_call 141; refine (pools_1 _).mono ?_; rintro e ws ⟨rfl, rfl⟩))
    go_ret
    exact ⟨by simp [rng, mosts, h] <;> omega, rfl⟩
theorem in_1_true (n : Int) (w : World) : Calls Try.prog 132 #[.int .i64 n, .int .i64 1, .bool true] w fun e w' => e = .returned (.bool (rng n 1 true)) ∧ w = w' := by
  by_cases h : -2147483648 ≤ n
  all_goals
    go_enter Try.func132, Try.ntmps132
    go_wp2_with (first | (go_at_call 140; refine (most_1 _).mono ?_; rintro e ws ⟨rfl, rfl⟩) | (go_at_call 141; refine (pools_1 _).mono ?_; rintro e ws ⟨rfl, rfl⟩))
    go_ret
    exact ⟨by simp [rng, mosts, h] <;> omega, rfl⟩
theorem in_2_false (n : Int) (w : World) : Calls Try.prog 132 #[.int .i64 n, .int .i64 2, .bool false] w fun e w' => e = .returned (.bool (rng n 2 false)) ∧ w = w' := by
  by_cases h : 0 ≤ n
  all_goals
    go_enter Try.func132, Try.ntmps132
    go_wp2_with (first | (go_at_call 140; refine (most_2 _).mono ?_; rintro e ws ⟨rfl, rfl⟩) | (go_at_call 141; refine (pools_2 _).mono ?_; rintro e ws ⟨rfl, rfl⟩))
    go_ret
    exact ⟨by simp [rng, mosts, h] <;> omega, rfl⟩
theorem in_2_true (n : Int) (w : World) : Calls Try.prog 132 #[.int .i64 n, .int .i64 2, .bool true] w fun e w' => e = .returned (.bool (rng n 2 true)) ∧ w = w' := by
  by_cases h : 0 ≤ n
  all_goals
    go_enter Try.func132, Try.ntmps132
    go_wp2_with (first | (go_at_call 140; refine (most_2 _).mono ?_; rintro e ws ⟨rfl, rfl⟩) | (go_at_call 141; refine (pools_2 _).mono ?_; rintro e ws ⟨rfl, rfl⟩))
    go_ret
    exact ⟨by simp [rng, mosts, h] <;> omega, rfl⟩
theorem in_3_false (n : Int) (w : World) : Calls Try.prog 132 #[.int .i64 n, .int .i64 3, .bool false] w fun e w' => e = .returned (.bool (rng n 3 false)) ∧ w = w' := by
  by_cases h : 2 ≤ n
  all_goals
    go_enter Try.func132, Try.ntmps132
    go_wp2_with (first | (go_at_call 140; refine (most_3 _).mono ?_; rintro e ws ⟨rfl, rfl⟩) | (go_at_call 141; refine (pools_3 _).mono ?_; rintro e ws ⟨rfl, rfl⟩))
    go_ret
    exact ⟨by simp [rng, mosts, h] <;> omega, rfl⟩
theorem in_3_true (n : Int) (w : World) : Calls Try.prog 132 #[.int .i64 n, .int .i64 3, .bool true] w fun e w' => e = .returned (.bool (rng n 3 true)) ∧ w = w' := by
  by_cases h : 2 ≤ n
  all_goals
    go_enter Try.func132, Try.ntmps132
    go_wp2_with (first | (go_at_call 140; refine (most_3 _).mono ?_; rintro e ws ⟨rfl, rfl⟩) | (go_at_call 141; refine (pools_3 _).mono ?_; rintro e ws ⟨rfl, rfl⟩))
    go_ret
    exact ⟨by simp [rng, mosts, h] <;> omega, rfl⟩
theorem in_4_false (n : Int) (w : World) : Calls Try.prog 132 #[.int .i64 n, .int .i64 4, .bool false] w fun e w' => e = .returned (.bool (rng n 4 false)) ∧ w = w' := by
  by_cases h : 0 ≤ n
  all_goals
    go_enter Try.func132, Try.ntmps132
    go_wp2_with (first | (go_at_call 140; refine (most_4 _).mono ?_; rintro e ws ⟨rfl, rfl⟩) | (go_at_call 141; refine (pools_4 _).mono ?_; rintro e ws ⟨rfl, rfl⟩))
    go_ret
    exact ⟨by simp [rng, mosts, h] <;> omega, rfl⟩
theorem in_4_true (n : Int) (w : World) : Calls Try.prog 132 #[.int .i64 n, .int .i64 4, .bool true] w fun e w' => e = .returned (.bool (rng n 4 true)) ∧ w = w' := by
  by_cases h : 0 ≤ n
  all_goals
    go_enter Try.func132, Try.ntmps132
    go_wp2_with (first | (go_at_call 140; refine (most_4 _).mono ?_; rintro e ws ⟨rfl, rfl⟩) | (go_at_call 141; refine (pools_4 _).mono ?_; rintro e ws ⟨rfl, rfl⟩))
    go_ret
    exact ⟨by simp [rng, mosts, h] <;> omega, rfl⟩
theorem in_5_false (n : Int) (w : World) : Calls Try.prog 132 #[.int .i64 n, .int .i64 5, .bool false] w fun e w' => e = .returned (.bool (rng n 5 false)) ∧ w = w' := by
  by_cases h : 0 ≤ n
  all_goals
    go_enter Try.func132, Try.ntmps132
    go_wp2_with (first | (go_at_call 140; refine (most_5 _).mono ?_; rintro e ws ⟨rfl, rfl⟩) | (go_at_call 141; refine (pools_5 _).mono ?_; rintro e ws ⟨rfl, rfl⟩))
    go_ret
    exact ⟨by simp [rng, mosts, h] <;> omega, rfl⟩
theorem in_5_true (n : Int) (w : World) : Calls Try.prog 132 #[.int .i64 n, .int .i64 5, .bool true] w fun e w' => e = .returned (.bool (rng n 5 true)) ∧ w = w' := by
  by_cases h : 0 ≤ n
  all_goals
    go_enter Try.func132, Try.ntmps132
    go_wp2_with (first | (go_at_call 140; refine (most_5 _).mono ?_; rintro e ws ⟨rfl, rfl⟩) | (go_at_call 141; refine (pools_5 _).mono ?_; rintro e ws ⟨rfl, rfl⟩))
    go_ret
    exact ⟨by simp [rng, mosts, h] <;> omega, rfl⟩
theorem in_6_false (n : Int) (w : World) : Calls Try.prog 132 #[.int .i64 n, .int .i64 6, .bool false] w fun e w' => e = .returned (.bool (rng n 6 false)) ∧ w = w' := by
  by_cases h : 0 ≤ n
  all_goals
    go_enter Try.func132, Try.ntmps132
    go_wp2_with (first | (go_at_call 140; refine (most_6 _).mono ?_; rintro e ws ⟨rfl, rfl⟩) | (go_at_call 141; refine (pools_6 _).mono ?_; rintro e ws ⟨rfl, rfl⟩))
    go_ret
    exact ⟨by simp [rng, mosts, h] <;> omega, rfl⟩
theorem in_6_true (n : Int) (w : World) : Calls Try.prog 132 #[.int .i64 n, .int .i64 6, .bool true] w fun e w' => e = .returned (.bool (rng n 6 true)) ∧ w = w' := by
  by_cases h : 0 ≤ n
  all_goals
    go_enter Try.func132, Try.ntmps132
    go_wp2_with (first | (go_at_call 140; refine (most_6 _).mono ?_; rintro e ws ⟨rfl, rfl⟩) | (go_at_call 141; refine (pools_6 _).mono ?_; rintro e ws ⟨rfl, rfl⟩))
    go_ret
    exact ⟨by simp [rng, mosts, h] <;> omega, rfl⟩
theorem in_7_false (n : Int) (w : World) : Calls Try.prog 132 #[.int .i64 n, .int .i64 7, .bool false] w fun e w' => e = .returned (.bool (rng n 7 false)) ∧ w = w' := by
  by_cases h : 0 ≤ n
  all_goals
    go_enter Try.func132, Try.ntmps132
    go_wp2_with (first | (go_at_call 140; refine (most_7 _).mono ?_; rintro e ws ⟨rfl, rfl⟩) | (go_at_call 141; refine (pools_7 _).mono ?_; rintro e ws ⟨rfl, rfl⟩))
    go_ret
    exact ⟨by simp [rng, mosts, h] <;> omega, rfl⟩
theorem in_7_true (n : Int) (w : World) : Calls Try.prog 132 #[.int .i64 n, .int .i64 7, .bool true] w fun e w' => e = .returned (.bool (rng n 7 true)) ∧ w = w' := by
  by_cases h : 0 ≤ n
  all_goals
    go_enter Try.func132, Try.ntmps132
    go_wp2_with (first | (go_at_call 140; refine (most_7 _).mono ?_; rintro e ws ⟨rfl, rfl⟩) | (go_at_call 141; refine (pools_7 _).mono ?_; rintro e ws ⟨rfl, rfl⟩))
    go_ret
    exact ⟨by simp [rng, mosts, h] <;> omega, rfl⟩
theorem in_8_false (n : Int) (w : World) : Calls Try.prog 132 #[.int .i64 n, .int .i64 8, .bool false] w fun e w' => e = .returned (.bool (rng n 8 false)) ∧ w = w' := by
  by_cases h : 0 ≤ n
  all_goals
    go_enter Try.func132, Try.ntmps132
    go_wp2_with (first | (go_at_call 140; refine (most_8 _).mono ?_; rintro e ws ⟨rfl, rfl⟩) | (go_at_call 141; refine (pools_8 _).mono ?_; rintro e ws ⟨rfl, rfl⟩))
    go_ret
    exact ⟨by simp [rng, mosts, h] <;> omega, rfl⟩
theorem in_8_true (n : Int) (w : World) : Calls Try.prog 132 #[.int .i64 n, .int .i64 8, .bool true] w fun e w' => e = .returned (.bool (rng n 8 true)) ∧ w = w' := by
  by_cases h : 0 ≤ n
  all_goals
    go_enter Try.func132, Try.ntmps132
    go_wp2_with (first | (go_at_call 140; refine (most_8 _).mono ?_; rintro e ws ⟨rfl, rfl⟩) | (go_at_call 141; refine (pools_8 _).mono ?_; rintro e ws ⟨rfl, rfl⟩))
    go_ret
    exact ⟨by simp [rng, mosts, h] <;> omega, rfl⟩
theorem in_9_false (n : Int) (w : World) : Calls Try.prog 132 #[.int .i64 n, .int .i64 9, .bool false] w fun e w' => e = .returned (.bool (rng n 9 false)) ∧ w = w' := by
  by_cases h : 0 ≤ n
  all_goals
    go_enter Try.func132, Try.ntmps132
    go_wp2_with (first | (go_at_call 140; refine (most_9 _).mono ?_; rintro e ws ⟨rfl, rfl⟩) | (go_at_call 141; refine (pools_9 _).mono ?_; rintro e ws ⟨rfl, rfl⟩))
    go_ret
    exact ⟨by simp [rng, mosts, h] <;> omega, rfl⟩
theorem in_9_true (n : Int) (w : World) : Calls Try.prog 132 #[.int .i64 n, .int .i64 9, .bool true] w fun e w' => e = .returned (.bool (rng n 9 true)) ∧ w = w' := by
  by_cases h : 0 ≤ n
  all_goals
    go_enter Try.func132, Try.ntmps132
    go_wp2_with (first | (go_at_call 140; refine (most_9 _).mono ?_; rintro e ws ⟨rfl, rfl⟩) | (go_at_call 141; refine (pools_9 _).mono ?_; rintro e ws ⟨rfl, rfl⟩))
    go_ret
    exact ⟨by simp [rng, mosts, h] <;> omega, rfl⟩
theorem in_10_false (n : Int) (w : World) : Calls Try.prog 132 #[.int .i64 n, .int .i64 10, .bool false] w fun e w' => e = .returned (.bool (rng n 10 false)) ∧ w = w' := by
  by_cases h : 0 ≤ n
  all_goals
    go_enter Try.func132, Try.ntmps132
    go_wp2_with (first | (go_at_call 140; refine (most_10 _).mono ?_; rintro e ws ⟨rfl, rfl⟩) | (go_at_call 141; refine (pools_10 _).mono ?_; rintro e ws ⟨rfl, rfl⟩))
    go_ret
    exact ⟨by simp [rng, mosts, h] <;> omega, rfl⟩
theorem in_10_true (n : Int) (w : World) : Calls Try.prog 132 #[.int .i64 n, .int .i64 10, .bool true] w fun e w' => e = .returned (.bool (rng n 10 true)) ∧ w = w' := by
  by_cases h : 0 ≤ n
  all_goals
    go_enter Try.func132, Try.ntmps132
    go_wp2_with (first | (go_at_call 140; refine (most_10 _).mono ?_; rintro e ws ⟨rfl, rfl⟩) | (go_at_call 141; refine (pools_10 _).mono ?_; rintro e ws ⟨rfl, rfl⟩))
    go_ret
    exact ⟨by simp [rng, mosts, h] <;> omega, rfl⟩
theorem in_11_false (n : Int) (w : World) : Calls Try.prog 132 #[.int .i64 n, .int .i64 11, .bool false] w fun e w' => e = .returned (.bool (rng n 11 false)) ∧ w = w' := by
  by_cases h : 0 ≤ n
  all_goals
    go_enter Try.func132, Try.ntmps132
    go_wp2_with (first | (go_at_call 140; refine (most_11 _).mono ?_; rintro e ws ⟨rfl, rfl⟩) | (go_at_call 141; refine (pools_11 _).mono ?_; rintro e ws ⟨rfl, rfl⟩))
    go_ret
    exact ⟨by simp [rng, mosts, h] <;> omega, rfl⟩
theorem in_11_true (n : Int) (w : World) : Calls Try.prog 132 #[.int .i64 n, .int .i64 11, .bool true] w fun e w' => e = .returned (.bool (rng n 11 true)) ∧ w = w' := by
  by_cases h : 0 ≤ n
  all_goals
    go_enter Try.func132, Try.ntmps132
    go_wp2_with (first | (go_at_call 140; refine (most_11 _).mono ?_; rintro e ws ⟨rfl, rfl⟩) | (go_at_call 141; refine (pools_11 _).mono ?_; rintro e ws ⟨rfl, rfl⟩))
    go_ret
    exact ⟨by simp [rng, mosts, h] <;> omega, rfl⟩
theorem in_12_false (n : Int) (w : World) : Calls Try.prog 132 #[.int .i64 n, .int .i64 12, .bool false] w fun e w' => e = .returned (.bool (rng n 12 false)) ∧ w = w' := by
  by_cases h : 0 ≤ n
  all_goals
    go_enter Try.func132, Try.ntmps132
    go_wp2_with (first | (go_at_call 140; refine (most_12 _).mono ?_; rintro e ws ⟨rfl, rfl⟩) | (go_at_call 141; refine (pools_12 _).mono ?_; rintro e ws ⟨rfl, rfl⟩))
    go_ret
    exact ⟨by simp [rng, mosts, h] <;> omega, rfl⟩
theorem in_12_true (n : Int) (w : World) : Calls Try.prog 132 #[.int .i64 n, .int .i64 12, .bool true] w fun e w' => e = .returned (.bool (rng n 12 true)) ∧ w = w' := by
  by_cases h : 0 ≤ n
  all_goals
    go_enter Try.func132, Try.ntmps132
    go_wp2_with (first | (go_at_call 140; refine (most_12 _).mono ?_; rintro e ws ⟨rfl, rfl⟩) | (go_at_call 141; refine (pools_12 _).mono ?_; rintro e ws ⟨rfl, rfl⟩))
    go_ret
    exact ⟨by simp [rng, mosts, h] <;> omega, rfl⟩
theorem in_13_false (n : Int) (w : World) : Calls Try.prog 132 #[.int .i64 n, .int .i64 13, .bool false] w fun e w' => e = .returned (.bool (rng n 13 false)) ∧ w = w' := by
  by_cases h : 0 ≤ n
  all_goals
    go_enter Try.func132, Try.ntmps132
    go_wp2_with (first | (go_at_call 140; refine (most_13 _).mono ?_; rintro e ws ⟨rfl, rfl⟩) | (go_at_call 141; refine (pools_13 _).mono ?_; rintro e ws ⟨rfl, rfl⟩))
    go_ret
    exact ⟨by simp [rng, mosts, h] <;> omega, rfl⟩
theorem in_13_true (n : Int) (w : World) : Calls Try.prog 132 #[.int .i64 n, .int .i64 13, .bool true] w fun e w' => e = .returned (.bool (rng n 13 true)) ∧ w = w' := by
  by_cases h : 0 ≤ n
  all_goals
    go_enter Try.func132, Try.ntmps132
    go_wp2_with (first | (go_at_call 140; refine (most_13 _).mono ?_; rintro e ws ⟨rfl, rfl⟩) | (go_at_call 141; refine (pools_13 _).mono ?_; rintro e ws ⟨rfl, rfl⟩))
    go_ret
    exact ⟨by simp [rng, mosts, h] <;> omega, rfl⟩
theorem in_14_false (n : Int) (w : World) : Calls Try.prog 132 #[.int .i64 n, .int .i64 14, .bool false] w fun e w' => e = .returned (.bool (rng n 14 false)) ∧ w = w' := by
  by_cases h : 1 ≤ n
  all_goals
    go_enter Try.func132, Try.ntmps132
    go_wp2_with (first | (go_at_call 140; refine (most_14 _).mono ?_; rintro e ws ⟨rfl, rfl⟩) | (go_at_call 141; refine (pools_14 _).mono ?_; rintro e ws ⟨rfl, rfl⟩))
    go_ret
    exact ⟨by simp [rng, mosts, h] <;> omega, rfl⟩
theorem in_14_true (n : Int) (w : World) : Calls Try.prog 132 #[.int .i64 n, .int .i64 14, .bool true] w fun e w' => e = .returned (.bool (rng n 14 true)) ∧ w = w' := by
  by_cases h : 1 ≤ n
  all_goals
    go_enter Try.func132, Try.ntmps132
    go_wp2_with (first | (go_at_call 140; refine (most_14 _).mono ?_; rintro e ws ⟨rfl, rfl⟩) | (go_at_call 141; refine (pools_14 _).mono ?_; rintro e ws ⟨rfl, rfl⟩))
    go_ret
    exact ⟨by simp [rng, mosts, h] <;> omega, rfl⟩
theorem in_any (n r : Int) (p : Bool) (h0 : 0 ≤ r) (h1 : r ≤ 14) (w : World) : Calls Try.prog 132 #[.int .i64 n, .int .i64 r, .bool p] w fun e w' => e = .returned (.bool (rng n r p)) ∧ w = w' := by
  have hc : r = 0 ∨ r = 1 ∨ r = 2 ∨ r = 3 ∨ r = 4 ∨ r = 5 ∨ r = 6 ∨ r = 7 ∨ r = 8 ∨ r = 9 ∨ r = 10 ∨ r = 11 ∨ r = 12 ∨ r = 13 ∨ r = 14 := by omega
  rcases hc with rfl | rfl | rfl | rfl | rfl | rfl | rfl | rfl | rfl | rfl | rfl | rfl | rfl | rfl | rfl
  · cases p
    · exact in_0_false n w
    · exact in_0_true n w
  · cases p
    · exact in_1_false n w
    · exact in_1_true n w
  · cases p
    · exact in_2_false n w
    · exact in_2_true n w
  · cases p
    · exact in_3_false n w
    · exact in_3_true n w
  · cases p
    · exact in_4_false n w
    · exact in_4_true n w
  · cases p
    · exact in_5_false n w
    · exact in_5_true n w
  · cases p
    · exact in_6_false n w
    · exact in_6_true n w
  · cases p
    · exact in_7_false n w
    · exact in_7_true n w
  · cases p
    · exact in_8_false n w
    · exact in_8_true n w
  · cases p
    · exact in_9_false n w
    · exact in_9_true n w
  · cases p
    · exact in_10_false n w
    · exact in_10_true n w
  · cases p
    · exact in_11_false n w
    · exact in_11_true n w
  · cases p
    · exact in_12_false n w
    · exact in_12_true n w
  · cases p
    · exact in_13_false n w
    · exact in_13_true n w
  · cases p
    · exact in_14_false n w
    · exact in_14_true n w
end Ec
end Go.Proofs.Ytmjnakhpekbenaa
namespace Go.Proofs.Ytmjnakhpekbenaa
open Go.RowKit Go.Sort
namespace Ec
theorem ret_b {a b : Bool} (h : a = b) : Ending.returned (.bool a) = .returned (.bool b) := by rw [h]
theorem sp_bd : ∀ k, k < 36 → 0 ≤ (sp k).a ∧ (sp k).a ≤ 14 ∧ 0 ≤ (sp k).b ∧ (sp k).b ≤ 14 ∧ 0 ≤ (sp k).c ∧ (sp k).c ≤ 12 := by decide
def vld (op a b : Int) (p : Bool) : Bool := decide (0 ≤ op) && decide (op < 36) && (rng a (sp op.toNat).a p && (rng b (sp op.toNat).b p && (!(op == 12) || (!(a == 3) || b == 0))))
theorem vld_bad {op a b : Int} {p : Bool} (h : op < 0 ∨ 36 ≤ op) : vld op a b p = false := by
  unfold vld
  rcases h with h | h
  · rw [decide_eq_false (by omega)]; rfl
  · rw [decide_eq_false (p := op < 36) (by omega)]; simp
theorem vld_nat (k : Nat) (hk : k < 36) (a b : Int) (p : Bool) : vld (k : Int) a b p = (rng a (sp k).a p && (rng b (sp k).b p && (!((k : Int) == 12) || (!(a == 3) || b == 0)))) := by
  unfold vld
  rw [decide_eq_true (by omega), decide_eq_true (by omega), Int.toNat_natCast]; rfl
theorem Valid_any (op a b : Int) (p : Bool) (w : World) :
    Calls Try.prog 117 #[.agg #[.int .i64 op, .int .i64 a, .int .i64 b], .bool p] w fun e w' => e = .returned (.bool (vld op a b p)) ∧ Below w.heap.size w w' := by
  by_cases hop : 0 ≤ op ∧ op < 36
  · obtain ⟨k, rfl⟩ : ∃ k : Nat, op = (k : Int) := ⟨op.toNat, by omega⟩
    have hk : k < 36 := by omega
    obtain ⟨s1, s2, s3, s4, s5, s6⟩ := sp_bd k hk
    have HV := hide (vld_nat k hk a b p)
    have start : ∀ w' : World, True := fun _ => trivial
    clear start hop
    go_enter Try.func117, Try.ntmps117
    go_wp2_with fail
    refine (known_ok k hk _).mono ?_
    rintro e w1 ⟨rfl, hb⟩
    have hz1 : w.heap.size + 1 ≤ w1.heap.size := by have := hb.size; simpa using this
    have c0 : w1.cell? ⟨w.heap.size, 0, none⟩ = some (.int .i64 (k : Int)) := by rw [hb.cell (by simp)]; simp
    have c1 : w1.cell? ⟨w.heap.size, 1, none⟩ = some (.int .i64 a) := by rw [hb.cell (by simp)]; simp
    have c2 : w1.cell? ⟨w.heap.size, 2, none⟩ = some (.int .i64 b) := by rw [hb.cell (by simp)]; simp
    have hlt : w.heap.size < w1.heap.size := by omega
    have hb1 : Below w.heap.size w w1 := Below.trans (by go_grown) (hb.mono (by simp))
    clear hb hz1
    go_wp2_with fail
    refine (in_any a _ p s1 s2 _).mono ?_
    rintro e ws ⟨rfl, rfl⟩
    cases r1 : rng a (sp k).a p
    case false =>
      have HV2 := hide (show vld (k : Int) a b p = false by rw [HV.out, r1]; rfl)
      go_wp2_with fail
      go_ret
      exact ⟨ret_b (by rw [HV2.out]), by go_grown⟩
    case true =>
      go_wp2_with fail
      refine (in_any b _ p s3 s4 _).mono ?_
      rintro e ws ⟨rfl, rfl⟩
      cases r2 : rng b (sp k).b p
      case false =>
        have HV2 := hide (show vld (k : Int) a b p = false by rw [HV.out, r1, r2]; rfl)
        go_wp2_with fail
        go_ret
        exact ⟨ret_b (by rw [HV2.out]), by go_grown⟩
      case true =>
        have HV2 := hide (show vld (k : Int) a b p = (!((k : Int) == 12) || (!(a == 3) || b == 0)) by rw [HV.out, r1, r2]; rfl)
        by_cases k12 : k = 12
        · subst k12
          by_cases a3 : a = 3
          · subst a3
            go_wp2_with fail
            go_ret
            exact ⟨ret_b (by rw [HV2.out]; rfl), by go_grown⟩
          · have a4 : (a == 3) = false := by simpa using a3
            have a5 : (a != 3) = true := by simpa using a3
            have HV3 := hide (show vld ((12 : Nat) : Int) a b p = true by rw [HV2.out, a4]; simp)
            go_wp2_with fail
            go_ret
            exact ⟨ret_b (by rw [HV3.out]), by go_grown⟩
        · have e12 : ((k : Int) == 12) = false := by simp; omega
          go_wp2_with fail
          go_ret
          exact ⟨by rw [HV2.out, e12]; rfl, by go_grown⟩
  · have HV := hide (vld_bad (op := op) (a := a) (b := b) (p := p) (by omega))
    have Hop2 : Hid (op < 0 ∨ (0 ≤ op ∧ 36 ≤ op)) := ⟨by omega⟩
    clear hop
    go_enter Try.func117, Try.ntmps117
    go_wp2_with fail
    refine (known_bad op Hop2.out _).mono ?_
    rintro e w1 ⟨rfl, hb⟩
    have hz1 : w.heap.size + 1 ≤ w1.heap.size := by have := hb.size; simpa using this
    have hb1 : Below w.heap.size w w1 := Below.trans (by go_grown) (hb.mono (by simp))
    clear hb
    go_wp2_with fail
    go_ret
    exact ⟨ret_b (by rw [HV.out]), by go_grown⟩
def opn (op : Int) : Bool := decide (29 ≤ op) && decide (op ≤ 33)
theorem Opens_any (op : Int) (w : World) : Calls Try.prog 74 #[.int .i64 op] w fun e w' => e = .returned (.bool (opn op)) ∧ w = w' := by
  have hc : (op < 29) ∨ op = 29 ∨ op = 30 ∨ op = 31 ∨ op = 32 ∨ op = 33 ∨ 33 < op := by omega
  rcases hc with hc | rfl | rfl | rfl | rfl | rfl | hc
  case inr.inr.inr.inr.inr.inr =>
    have e1 : (op == 29) = false := by simp; omega
    have e2 : (op == 30) = false := by simp; omega
    have e3 : (op == 31) = false := by simp; omega
    have e4 : (op == 32) = false := by simp; omega
    have e5 : (op == 33) = false := by simp; omega
    go_enter Try.func74, Try.ntmps74
    go_wp2_with fail
    go_ret
    exact ⟨ret_b (by simp [opn] <;> omega), rfl⟩
  case inl =>
    have e1 : (op == 29) = false := by simp; omega
    have e2 : (op == 30) = false := by simp; omega
    have e3 : (op == 31) = false := by simp; omega
    have e4 : (op == 32) = false := by simp; omega
    have e5 : (op == 33) = false := by simp; omega
    go_enter Try.func74, Try.ntmps74
    go_wp2_with fail
    go_ret
    exact ⟨ret_b (by simp [opn] <;> omega), rfl⟩
  all_goals
    go_enter Try.func74, Try.ntmps74
    go_wp2_with fail
    go_ret
    exact ⟨rfl, rfl⟩
end Ec
end Go.Proofs.Ytmjnakhpekbenaa
namespace Go.Proofs.Ytmjnakhpekbenaa
open Go.RowKit Go.Sort
namespace Ec
theorem drewN_below {B : Nat} {a w : World} (h : Below B a w) (n : Nat) : Below B a (w.drewN n) := ⟨h.os, h.tape, h.output, h.size, h.block⟩
theorem rin_any (n lo hi : Int) (w : World) : Calls Try.prog 94 #[.int .i64 n, .int .i64 lo, .int .i64 hi] w fun e w' => e = .returned (.bool (decide (lo ≤ n) && decide (n ≤ hi))) ∧ w = w' := by
  by_cases h : lo ≤ n
  all_goals
    go_enter Try.func94, Try.ntmps94
    go_wp2_with fail
    go_ret
    exact ⟨ret_b (by simp [h] <;> omega), rfl⟩
def rmo (n : Int) (p : Bool) : Int := if p then 59 else n - 1
theorem rmost_any (n : Int) (p : Bool) (h0 : 0 ≤ n) (h1 : n ≤ 100) (w : World) : Calls Try.prog 95 #[.int .i64 n, .bool p] w fun e w' => e = .returned (.int .i64 (rmo n p)) ∧ w = w' := by
  cases p
  all_goals
    go_enter Try.func95, Try.ntmps95
    go_wp2_with fail
    go_ret
    exact ⟨ret_i (by simp [rmo]), rfl⟩
theorem rmost_10 (p : Bool) (w : World) : Calls Try.prog 95 #[.int .i64 10, .bool p] w fun e w' => e = .returned (.int .i64 (rmo 10 p)) ∧ w = w' := rmost_any 10 p (by omega) (by omega) w
theorem rmost_7 (p : Bool) (w : World) : Calls Try.prog 95 #[.int .i64 7, .bool p] w fun e w' => e = .returned (.int .i64 (rmo 7 p)) ∧ w = w' := rmost_any 7 p (by omega) (by omega) w
theorem rmost_16 (p : Bool) (w : World) : Calls Try.prog 95 #[.int .i64 16, .bool p] w fun e w' => e = .returned (.int .i64 (rmo 16 p)) ∧ w = w' := rmost_any 16 p (by omega) (by omega) w
theorem rOpens_any (op : Int) (w : World) : Calls Try.prog 77 #[.int .i64 op] w fun e w' => e = .returned (.bool (opn op)) ∧ w = w' := by
  by_cases h : 29 ≤ op
  all_goals
    go_enter Try.func77, Try.ntmps77
    go_wp2_with fail
    go_ret
    exact ⟨ret_b (by simp [opn, h] <;> omega), rfl⟩
theorem rOperands_0 (w : World) : Calls Try.prog 93 #[.int .i64 0] w fun e w' => e = .returned (.tuple #[.int .i64 0, .int .i64 0]) ∧ w = w' := by
  go_enter Try.func93, Try.ntmps93
  go_wp2_with fail
  go_ret2
  exact ⟨rfl, rfl⟩
theorem rOperands_1 (w : World) : Calls Try.prog 93 #[.int .i64 1] w fun e w' => e = .returned (.tuple #[.int .i64 1, .int .i64 0]) ∧ w = w' := by
  go_enter Try.func93, Try.ntmps93
  go_wp2_with fail
  go_ret2
  exact ⟨rfl, rfl⟩
theorem rOperands_2 (w : World) : Calls Try.prog 93 #[.int .i64 2] w fun e w' => e = .returned (.tuple #[.int .i64 1, .int .i64 0]) ∧ w = w' := by
  go_enter Try.func93, Try.ntmps93
  go_wp2_with fail
  go_ret2
  exact ⟨rfl, rfl⟩
theorem rOperands_3 (w : World) : Calls Try.prog 93 #[.int .i64 3] w fun e w' => e = .returned (.tuple #[.int .i64 1, .int .i64 0]) ∧ w = w' := by
  go_enter Try.func93, Try.ntmps93
  go_wp2_with fail
  go_ret2
  exact ⟨rfl, rfl⟩
theorem rOperands_4 (w : World) : Calls Try.prog 93 #[.int .i64 4] w fun e w' => e = .returned (.tuple #[.int .i64 0, .int .i64 0]) ∧ w = w' := by
  go_enter Try.func93, Try.ntmps93
  go_wp2_with fail
  go_ret2
  exact ⟨rfl, rfl⟩
theorem rOperands_5 (w : World) : Calls Try.prog 93 #[.int .i64 5] w fun e w' => e = .returned (.tuple #[.int .i64 0, .int .i64 0]) ∧ w = w' := by
  go_enter Try.func93, Try.ntmps93
  go_wp2_with fail
  go_ret2
  exact ⟨rfl, rfl⟩
theorem rOperands_6 (w : World) : Calls Try.prog 93 #[.int .i64 6] w fun e w' => e = .returned (.tuple #[.int .i64 0, .int .i64 0]) ∧ w = w' := by
  go_enter Try.func93, Try.ntmps93
  go_wp2_with fail
  go_ret2
  exact ⟨rfl, rfl⟩
theorem rOperands_7 (w : World) : Calls Try.prog 93 #[.int .i64 7] w fun e w' => e = .returned (.tuple #[.int .i64 0, .int .i64 0]) ∧ w = w' := by
  go_enter Try.func93, Try.ntmps93
  go_wp2_with fail
  go_ret2
  exact ⟨rfl, rfl⟩
theorem rOperands_8 (w : World) : Calls Try.prog 93 #[.int .i64 8] w fun e w' => e = .returned (.tuple #[.int .i64 0, .int .i64 0]) ∧ w = w' := by
  go_enter Try.func93, Try.ntmps93
  go_wp2_with fail
  go_ret2
  exact ⟨rfl, rfl⟩
theorem rOperands_9 (w : World) : Calls Try.prog 93 #[.int .i64 9] w fun e w' => e = .returned (.tuple #[.int .i64 0, .int .i64 0]) ∧ w = w' := by
  go_enter Try.func93, Try.ntmps93
  go_wp2_with fail
  go_ret2
  exact ⟨rfl, rfl⟩
theorem rOperands_10 (w : World) : Calls Try.prog 93 #[.int .i64 10] w fun e w' => e = .returned (.tuple #[.int .i64 0, .int .i64 0]) ∧ w = w' := by
  go_enter Try.func93, Try.ntmps93
  go_wp2_with fail
  go_ret2
  exact ⟨rfl, rfl⟩
theorem rOperands_11 (w : World) : Calls Try.prog 93 #[.int .i64 11] w fun e w' => e = .returned (.tuple #[.int .i64 0, .int .i64 0]) ∧ w = w' := by
  go_enter Try.func93, Try.ntmps93
  go_wp2_with fail
  go_ret2
  exact ⟨rfl, rfl⟩
theorem rOperands_12 (w : World) : Calls Try.prog 93 #[.int .i64 12] w fun e w' => e = .returned (.tuple #[.int .i64 2, .int .i64 0]) ∧ w = w' := by
  go_enter Try.func93, Try.ntmps93
  go_wp2_with fail
  go_ret2
  exact ⟨rfl, rfl⟩
theorem rOperands_13 (w : World) : Calls Try.prog 93 #[.int .i64 13] w fun e w' => e = .returned (.tuple #[.int .i64 0, .int .i64 0]) ∧ w = w' := by
  go_enter Try.func93, Try.ntmps93
  go_wp2_with fail
  go_ret2
  exact ⟨rfl, rfl⟩
theorem rOperands_14 (w : World) : Calls Try.prog 93 #[.int .i64 14] w fun e w' => e = .returned (.tuple #[.int .i64 1, .int .i64 0]) ∧ w = w' := by
  go_enter Try.func93, Try.ntmps93
  go_wp2_with fail
  go_ret2
  exact ⟨rfl, rfl⟩
theorem rOperands_15 (w : World) : Calls Try.prog 93 #[.int .i64 15] w fun e w' => e = .returned (.tuple #[.int .i64 1, .int .i64 0]) ∧ w = w' := by
  go_enter Try.func93, Try.ntmps93
  go_wp2_with fail
  go_ret2
  exact ⟨rfl, rfl⟩
theorem rOperands_16 (w : World) : Calls Try.prog 93 #[.int .i64 16] w fun e w' => e = .returned (.tuple #[.int .i64 2, .int .i64 0]) ∧ w = w' := by
  go_enter Try.func93, Try.ntmps93
  go_wp2_with fail
  go_ret2
  exact ⟨rfl, rfl⟩
theorem rOperands_17 (w : World) : Calls Try.prog 93 #[.int .i64 17] w fun e w' => e = .returned (.tuple #[.int .i64 1, .int .i64 0]) ∧ w = w' := by
  go_enter Try.func93, Try.ntmps93
  go_wp2_with fail
  go_ret2
  exact ⟨rfl, rfl⟩
theorem rOperands_18 (w : World) : Calls Try.prog 93 #[.int .i64 18] w fun e w' => e = .returned (.tuple #[.int .i64 1, .int .i64 0]) ∧ w = w' := by
  go_enter Try.func93, Try.ntmps93
  go_wp2_with fail
  go_ret2
  exact ⟨rfl, rfl⟩
theorem rOperands_19 (w : World) : Calls Try.prog 93 #[.int .i64 19] w fun e w' => e = .returned (.tuple #[.int .i64 0, .int .i64 0]) ∧ w = w' := by
  go_enter Try.func93, Try.ntmps93
  go_wp2_with fail
  go_ret2
  exact ⟨rfl, rfl⟩
theorem rOperands_20 (w : World) : Calls Try.prog 93 #[.int .i64 20] w fun e w' => e = .returned (.tuple #[.int .i64 0, .int .i64 0]) ∧ w = w' := by
  go_enter Try.func93, Try.ntmps93
  go_wp2_with fail
  go_ret2
  exact ⟨rfl, rfl⟩
theorem rOperands_21 (w : World) : Calls Try.prog 93 #[.int .i64 21] w fun e w' => e = .returned (.tuple #[.int .i64 0, .int .i64 0]) ∧ w = w' := by
  go_enter Try.func93, Try.ntmps93
  go_wp2_with fail
  go_ret2
  exact ⟨rfl, rfl⟩
theorem rOperands_22 (w : World) : Calls Try.prog 93 #[.int .i64 22] w fun e w' => e = .returned (.tuple #[.int .i64 1, .int .i64 0]) ∧ w = w' := by
  go_enter Try.func93, Try.ntmps93
  go_wp2_with fail
  go_ret2
  exact ⟨rfl, rfl⟩
theorem rOperands_23 (w : World) : Calls Try.prog 93 #[.int .i64 23] w fun e w' => e = .returned (.tuple #[.int .i64 1, .int .i64 0]) ∧ w = w' := by
  go_enter Try.func93, Try.ntmps93
  go_wp2_with fail
  go_ret2
  exact ⟨rfl, rfl⟩
theorem rOperands_24 (w : World) : Calls Try.prog 93 #[.int .i64 24] w fun e w' => e = .returned (.tuple #[.int .i64 1, .int .i64 0]) ∧ w = w' := by
  go_enter Try.func93, Try.ntmps93
  go_wp2_with fail
  go_ret2
  exact ⟨rfl, rfl⟩
theorem rOperands_25 (w : World) : Calls Try.prog 93 #[.int .i64 25] w fun e w' => e = .returned (.tuple #[.int .i64 1, .int .i64 0]) ∧ w = w' := by
  go_enter Try.func93, Try.ntmps93
  go_wp2_with fail
  go_ret2
  exact ⟨rfl, rfl⟩
theorem rOperands_26 (w : World) : Calls Try.prog 93 #[.int .i64 26] w fun e w' => e = .returned (.tuple #[.int .i64 1, .int .i64 0]) ∧ w = w' := by
  go_enter Try.func93, Try.ntmps93
  go_wp2_with fail
  go_ret2
  exact ⟨rfl, rfl⟩
theorem rOperands_27 (w : World) : Calls Try.prog 93 #[.int .i64 27] w fun e w' => e = .returned (.tuple #[.int .i64 1, .int .i64 0]) ∧ w = w' := by
  go_enter Try.func93, Try.ntmps93
  go_wp2_with fail
  go_ret2
  exact ⟨rfl, rfl⟩
theorem rOperands_28 (w : World) : Calls Try.prog 93 #[.int .i64 28] w fun e w' => e = .returned (.tuple #[.int .i64 1, .int .i64 0]) ∧ w = w' := by
  go_enter Try.func93, Try.ntmps93
  go_wp2_with fail
  go_ret2
  exact ⟨rfl, rfl⟩
theorem rOperands_29 (w : World) : Calls Try.prog 93 #[.int .i64 29] w fun e w' => e = .returned (.tuple #[.int .i64 0, .int .i64 0]) ∧ w = w' := by
  go_enter Try.func93, Try.ntmps93
  go_wp2_with fail
  go_ret2
  exact ⟨rfl, rfl⟩
theorem rOperands_30 (w : World) : Calls Try.prog 93 #[.int .i64 30] w fun e w' => e = .returned (.tuple #[.int .i64 2, .int .i64 0]) ∧ w = w' := by
  go_enter Try.func93, Try.ntmps93
  go_wp2_with fail
  go_ret2
  exact ⟨rfl, rfl⟩
theorem rOperands_31 (w : World) : Calls Try.prog 93 #[.int .i64 31] w fun e w' => e = .returned (.tuple #[.int .i64 1, .int .i64 0]) ∧ w = w' := by
  go_enter Try.func93, Try.ntmps93
  go_wp2_with fail
  go_ret2
  exact ⟨rfl, rfl⟩
theorem rOperands_32 (w : World) : Calls Try.prog 93 #[.int .i64 32] w fun e w' => e = .returned (.tuple #[.int .i64 1, .int .i64 0]) ∧ w = w' := by
  go_enter Try.func93, Try.ntmps93
  go_wp2_with fail
  go_ret2
  exact ⟨rfl, rfl⟩
theorem rOperands_33 (w : World) : Calls Try.prog 93 #[.int .i64 33] w fun e w' => e = .returned (.tuple #[.int .i64 0, .int .i64 0]) ∧ w = w' := by
  go_enter Try.func93, Try.ntmps93
  go_wp2_with fail
  go_ret2
  exact ⟨rfl, rfl⟩
theorem rOperands_34 (w : World) : Calls Try.prog 93 #[.int .i64 34] w fun e w' => e = .returned (.tuple #[.int .i64 0, .int .i64 0]) ∧ w = w' := by
  go_enter Try.func93, Try.ntmps93
  go_wp2_with fail
  go_ret2
  exact ⟨rfl, rfl⟩
theorem rOperands_35 (w : World) : Calls Try.prog 93 #[.int .i64 35] w fun e w' => e = .returned (.tuple #[.int .i64 0, .int .i64 0]) ∧ w = w' := by
  go_enter Try.func93, Try.ntmps93
  go_wp2_with fail
  go_ret2
  exact ⟨rfl, rfl⟩
theorem rOperands_bad (op : Int) (hk : op < 0 ∨ (¬ op < 0 ∧ 35 < op)) (w : World) : Calls Try.prog 93 #[.int .i64 op] w fun e w' => e = .returned (.tuple #[.int .i64 0, .int .i64 3]) ∧ w = w' := by
  have e0 : (op == 0) = false := by simp; omega
  have e1 : (op == 1) = false := by simp; omega
  have e2 : (op == 2) = false := by simp; omega
  have e3 : (op == 3) = false := by simp; omega
  have e4 : (op == 4) = false := by simp; omega
  have e5 : (op == 5) = false := by simp; omega
  have e6 : (op == 6) = false := by simp; omega
  have e7 : (op == 7) = false := by simp; omega
  have e8 : (op == 8) = false := by simp; omega
  have e9 : (op == 9) = false := by simp; omega
  have e10 : (op == 10) = false := by simp; omega
  have e11 : (op == 11) = false := by simp; omega
  have e12 : (op == 12) = false := by simp; omega
  have e13 : (op == 13) = false := by simp; omega
  have e14 : (op == 14) = false := by simp; omega
  have e15 : (op == 15) = false := by simp; omega
  have e16 : (op == 16) = false := by simp; omega
  have e17 : (op == 17) = false := by simp; omega
  have e18 : (op == 18) = false := by simp; omega
  have e19 : (op == 19) = false := by simp; omega
  have e20 : (op == 20) = false := by simp; omega
  have e21 : (op == 21) = false := by simp; omega
  have e22 : (op == 22) = false := by simp; omega
  have e23 : (op == 23) = false := by simp; omega
  have e24 : (op == 24) = false := by simp; omega
  have e25 : (op == 25) = false := by simp; omega
  have e26 : (op == 26) = false := by simp; omega
  have e27 : (op == 27) = false := by simp; omega
  have e28 : (op == 28) = false := by simp; omega
  have e29 : (op == 29) = false := by simp; omega
  have e30 : (op == 30) = false := by simp; omega
  have e31 : (op == 31) = false := by simp; omega
  have e32 : (op == 32) = false := by simp; omega
  have e33 : (op == 33) = false := by simp; omega
  have e34 : (op == 34) = false := by simp; omega
  have e35 : (op == 35) = false := by simp; omega
  rcases hk with hk | ⟨hk, hk2⟩
  all_goals
    go_enter Try.func93, Try.ntmps93
    go_wp2_with fail
    go_ret2
    exact ⟨rfl, rfl⟩
end Ec
end Go.Proofs.Ytmjnakhpekbenaa
namespace Go.Proofs.Ytmjnakhpekbenaa
open Go.RowKit Go.Sort
namespace Ec
/-- the state of the search: the open brackets, the innermost last; opener, else, end, depth of each instruction; the deepest -/
structure Sh where
  l : List Nat
  o : Nat → Int
  e : Nat → Int
  d : Nat → Int
  t : Nat → Int
  m : Nat
def upI (f : Nat → Int) (i : Nat) (v : Int) : Nat → Int := fun j => if j = i then v else f j
def top (l : List Nat) : Int := match l.getLast? with | some x => (x : Int) | none => -1
/-- what is laid for instruction k at first -/
def lay (k : Nat) (s : Sh) : Sh := ⟨s.l, upI s.o k (top s.l), upI s.e k (-1), upI s.d k (-1), upI s.t k (s.l.length : Int), s.m⟩
def two (c : Nat → Int) (x : Nat) : Bool := c x == 29 || c x == 33
def stp (c : Nat → Int) (k : Nat) (s : Sh) : Option Sh :=
  let r := lay k s
  if opn (c k) then some { r with l := s.l ++ [k], m := max s.m (s.l.length + 1) }
  else if c k == 34 || c k == 35 then
    match s.l.getLast? with
    | none => none
    | some x =>
      if c k == 34 then (if two c x && decide (r.e x < 0) then some { r with e := upI r.e x (k : Int), t := upI r.t k ((s.l.length : Int) - 1) } else none)
      else if c x == 33 && decide (r.e x < 0) then none
      else some { r with l := s.l.dropLast, d := upI r.d x (k : Int), t := upI r.t k ((s.l.length : Int) - 1) }
  else some r
def shp (c : Nat → Int) : Nat → Option Sh
  | 0 => some ⟨[], fun _ => 0, fun _ => 0, fun _ => 0, fun _ => 0, 0⟩
  | k + 1 => (shp c k).bind (stp c k)
def okS (c : Nat → Int) (n : Nat) : Bool := match shp c n with | some s => s.l.isEmpty && decide (s.m ≤ 6) | none => false
theorem shp_none {c : Nat → Int} {k : Nat} : ∀ j, shp c k = none → shp c (k + j) = none
  | 0, h => h
  | j + 1, h => by show (shp c (k + j)).bind _ = none; rw [shp_none j h]; rfl
theorem shp_bad {c : Nat → Int} {k n : Nat} {s : Sh} (h : shp c k = some s) (hs : stp c k s = none) (hk : k < n) : okS c n = false := by
  have h1 : shp c (k + 1) = none := by show (shp c k).bind _ = none; rw [h]; exact hs
  have h2 := shp_none (n - (k + 1)) h1
  rw [show k + 1 + (n - (k + 1)) = n by omega] at h2
  unfold okS; rw [h2]
theorem shp_step {c : Nat → Int} {k : Nat} {s s' : Sh} (h : shp c k = some s) (hs : stp c k s = some s') : shp c (k + 1) = some s' := by
  show (shp c k).bind _ = some s'; rw [h]; exact hs
theorem shp_lt {c : Nat → Int} : ∀ (k : Nat) (s : Sh), shp c k = some s → (∀ x, x ∈ s.l → x < k) ∧ s.l.length ≤ k ∧ s.m ≤ k
  | 0, s, h => by
    simp only [shp, Option.some.injEq] at h; subst h
    exact ⟨fun x hx => (by simp at hx), Nat.le_refl 0, Nat.le_refl 0⟩
  | k + 1, s', h => by
    have h' : (shp c k).bind (stp c k) = some s' := h
    cases hs : shp c k with
    | none => rw [hs] at h'; cases h'
    | some s =>
      rw [hs] at h'
      have ih := shp_lt k s hs
      have h2 : stp c k s = some s' := h'
      unfold stp lay at h2
      simp only [] at h2
      split at h2
      · simp only [Option.some.injEq] at h2; subst h2
        refine ⟨fun x hx => ?_, by simp; omega, by show max s.m (s.l.length + 1) ≤ k + 1; omega⟩
        have hx' : x ∈ s.l ++ [k] := hx
        rcases List.mem_append.1 hx' with q | q
        · have := ih.1 x q; omega
        · simp at q; omega
      · split at h2
        · split at h2
          · cases h2
          · split at h2
            · split at h2
              · simp only [Option.some.injEq] at h2; subst h2
                exact ⟨fun x hx => by have := ih.1 x hx; omega, by show s.l.length ≤ k + 1; omega, by show s.m ≤ k + 1; omega⟩
              · cases h2
            · split at h2
              · cases h2
              · simp only [Option.some.injEq] at h2; subst h2
                refine ⟨fun x hx => ?_, ?_, by show s.m ≤ k + 1; omega⟩
                · have hx' : x ∈ s.l.dropLast := hx
                  have := ih.1 x (List.dropLast_subset _ hx'); omega
                · show s.l.dropLast.length ≤ k + 1
                  simp; omega
        · simp only [Option.some.injEq] at h2; subst h2
          exact ⟨fun x hx => by have := ih.1 x hx; omega, by show s.l.length ≤ k + 1; omega, by show s.m ≤ k + 1; omega⟩
/-- an instruction -/
structure In where
  op : Int
  a : Int
  b : Int
/-- a list of instructions in memory -/
structure IRow (w : World) (p : Option Addr) (n cap : Nat) (f : Nat → In) : Prop where
  lt : ∀ a, p = some a → 0 < n → a.block < w.heap.size
  som : 0 < n → ∃ a, p = some a
  c0 : ∀ a i, p = some a → i < n → w.cell? (a.add (i * 3)) = some (.int .i64 (f i).op)
  c1 : ∀ a i, p = some a → i < n → w.cell? ⟨(a.add (i * 3)).block, (a.add (i * 3)).off + 1, none⟩ = some (.int .i64 (f i).a)
  c2 : ∀ a i, p = some a → i < n → w.cell? ⟨(a.add (i * 3)).block, (a.add (i * 3)).off + 2, none⟩ = some (.int .i64 (f i).b)
  hn : n ≤ cap
  hc : cap ≤ maxLen
theorem add_block (a : Addr) (k : Nat) : (a.add k).block = a.block := by unfold Addr.add; split <;> rfl
theorem IRow.below {B : Nat} {w w' : World} {p : Option Addr} {n cap : Nat} {f : Nat → In} (h : IRow w p n cap f) (hB : w.heap.size ≤ B) (hb : Below B w w') : IRow w' p n cap f := by
  have q : ∀ a i, p = some a → i < n → ∀ k, w'.cell? ⟨(a.add (i * 3)).block, (a.add (i * 3)).off + k, none⟩ = w.cell? ⟨(a.add (i * 3)).block, (a.add (i * 3)).off + k, none⟩ := fun a i e hi k => hb.cell (by show (a.add (i * 3)).block < _; rw [add_block]; have := h.lt a e (by omega); omega)
  exact ⟨fun a e h0 => Nat.lt_of_lt_of_le (h.lt a e h0) hb.size, h.som, fun a i e hi => by rw [hb.cell (by rw [add_block]; have := h.lt a e (by omega); omega)]; exact h.c0 a i e hi,
    fun a i e hi => by rw [q a i e hi]; exact h.c1 a i e hi, fun a i e hi => by rw [q a i e hi]; exact h.c2 a i e hi, h.hn, h.hc⟩
/-- a row of numbers that was made -/
structure NRow (w : World) (g n : Nat) (f : Nat → Int) : Prop where
  c : ∀ i, i < n → w.cell? ⟨g, i, none⟩ = some (.int .i64 (f i))
  fz : ∀ i, i < n → w.frozen? ⟨g, i, none⟩ = false
  gz : g < w.heap.size
abbrev rowI (n : Nat) : Obj := .cells (madeCells #[.int .i64 0] (n * 1)) 3
theorem infoI : (Try.prog.info? 3).map (fun i => (i.zero, i.size, i.bytes)) = some (some (.int .i64 0), 1, 8) := by kernel_rfl
theorem makeI (n : Nat) (hn : n ≤ 400) (W : World) : (Instr.makeSlice 33 (.int .i64 (n : Int)) (.int .i64 (n : Int))).run Try.prog W = .ok (.slice (some ⟨W.heap.size, 0, none⟩) n n) (W.alloc (rowI n)) := by
  obtain ⟨i, hi, hzz⟩ := Option.map_eq_some_iff.1 infoI
  simp only [Prod.mk.injEq] at hzz
  obtain ⟨hz, hs, hb⟩ := hzz
  have hr := run_make (P := Try.prog) W 33 3 i _ Try.underlying33 hi hz .i64 .i64 (n : Int) (n : Int) (by omega) (by omega) (by rw [hb]; omega) (by omega)
  rw [hs, Int.toNat_natCast] at hr
  exact hr
theorem NRow.below {w w' : World} {g n : Nat} {f : Nat → Int} (h : NRow w g n f) (hb : Below w.heap.size w w') : NRow w' g n f :=
  ⟨fun i hi => by rw [hb.cell h.gz]; exact h.c i hi, fun i hi => by rw [hb.frozen h.gz]; exact h.fz i hi, Nat.lt_of_lt_of_le h.gz hb.size⟩
theorem NRow.set {w : World} {g n : Nat} {f : Nat → Int} (h : NRow w g n f) (i : Nat) (hi : i < n) (v : Int) : NRow (w.setCell ⟨g, i, none⟩ (.int .i64 v)) g n (upI f i v) :=
  ⟨fun j hj => by
    by_cases e : j = i
    · subst e; rw [World.cell?_setCell_same _ _ _ (h.c j hj)]; simp [upI]
    · rw [World.cell?_setCell_other _ _ _ _ (by intro q; injection q; omega)]; simp [upI, e]; exact h.c j hj,
   fun j hj => by rw [World.frozen?_setCell]; exact h.fz j hj, by simpa [go_sem] using h.gz⟩
theorem NRow.other {w : World} {g g2 n : Nat} {f : Nat → Int} (h : NRow w g n f) (hg : g ≠ g2) (o : Nat) (v : Value) : NRow (w.setCell ⟨g2, o, none⟩ v) g n f :=
  ⟨fun j hj => by rw [World.cell?_setCell_other _ _ _ _ (by intro q; injection q with q1; exact hg q1.symm)]; exact h.c j hj, fun j hj => by rw [World.frozen?_setCell]; exact h.fz j hj, by simpa [go_sem] using h.gz⟩
theorem stp_else_ok {c : Nat → Int} {k x : Nat} {s : Sh} (hA : opn (c k) = false) (h34 : c k = 34) (hl : s.l.getLast? = some x) (h2 : two c x = true) (hn : (lay k s).e x < 0) :
    stp c k s = some { lay k s with e := upI (lay k s).e x (k : Int), t := upI (lay k s).t k ((s.l.length : Int) - 1) } := by
  unfold stp
  simp only []
  rw [if_neg (by rw [hA]; exact Bool.false_ne_true), if_pos (by rw [h34]; rfl), hl]
  simp only []
  rw [if_pos (by rw [h34]; rfl), if_pos (by rw [h2, decide_eq_true hn]; rfl)]
theorem stp_else_two {c : Nat → Int} {k x : Nat} {s : Sh} (hA : opn (c k) = false) (h34 : c k = 34) (hl : s.l.getLast? = some x) (h2 : two c x = false) : stp c k s = none := by
  unfold stp
  simp only []
  rw [if_neg (by rw [hA]; exact Bool.false_ne_true), if_pos (by rw [h34]; rfl), hl]
  simp only []
  rw [if_pos (by rw [h34]; rfl), if_neg (by rw [h2]; exact Bool.false_ne_true)]
theorem stp_else_has {c : Nat → Int} {k x : Nat} {s : Sh} (hA : opn (c k) = false) (h34 : c k = 34) (hl : s.l.getLast? = some x) (hn : ¬ (lay k s).e x < 0) : stp c k s = none := by
  unfold stp
  simp only []
  rw [if_neg (by rw [hA]; exact Bool.false_ne_true), if_pos (by rw [h34]; rfl), hl]
  simp only []
  rw [if_pos (by rw [h34]; rfl), if_neg (by rw [decide_eq_false hn, Bool.and_false]; exact Bool.false_ne_true)]
theorem stp_end_try {c : Nat → Int} {k x : Nat} {s : Sh} (hA : opn (c k) = false) (h35 : c k = 35) (hl : s.l.getLast? = some x) (h2 : c x = 33) (hn : (lay k s).e x < 0) : stp c k s = none := by
  unfold stp
  simp only []
  rw [if_neg (by rw [hA]; exact Bool.false_ne_true), if_pos (by rw [h35]; rfl), hl]
  simp only []
  rw [if_neg (by rw [h35]; decide), if_pos (by rw [h2, decide_eq_true hn]; rfl)]
theorem stp_end_ok {c : Nat → Int} {k x : Nat} {s : Sh} (hA : opn (c k) = false) (h35 : c k = 35) (hl : s.l.getLast? = some x) (h2 : ¬ (c x = 33 ∧ (lay k s).e x < 0)) :
    stp c k s = some { lay k s with l := s.l.dropLast, d := upI (lay k s).d x (k : Int), t := upI (lay k s).t k ((s.l.length : Int) - 1) } := by
  unfold stp
  simp only []
  rw [if_neg (by rw [hA]; exact Bool.false_ne_true), if_pos (by rw [h35]; rfl), hl]
  simp only []
  rw [if_neg (by rw [h35]; decide), if_neg (by simpa using h2)]
end Ec
end Go.Proofs.Ytmjnakhpekbenaa
namespace Go.Proofs.Ytmjnakhpekbenaa
namespace Ec
theorem opn_iff {x : Int} : opn x = true ↔ 29 ≤ x ∧ x ≤ 33 := by unfold opn; simp
theorem opn_no {x : Int} : opn x = false ↔ ¬ (29 ≤ x ∧ x ≤ 33) := by
  cases h : opn x
  · exact ⟨fun _ q => absurd (opn_iff.2 q) (by rw [h]; exact Bool.false_ne_true), fun _ => rfl⟩
  · exact ⟨fun q => absurd q (fun q => (by cases q)), fun q => absurd (opn_iff.1 h) q⟩
theorem two_iff {c : Nat → Int} {x : Nat} : two c x = true ↔ c x = 29 ∨ c x = 33 := by unfold two; simp
theorem last_split {l : List Nat} {x : Nat} (h : l.getLast? = some x) : l = l.dropLast ++ [x] := by
  rcases List.eq_nil_or_concat l with rfl | ⟨r, y, rfl⟩
  · cases h
  · simp at h; subst h; simp
theorem last_app {r : List Nat} {x : Nat} : (r ++ [x]).getLast? = some x := by simp
theorem upI_same (f : Nat → Int) (i : Nat) (v : Int) : upI f i v i = v := by simp [upI]
theorem upI_ne {f : Nat → Int} {i j : Nat} {v : Int} (h : j ≠ i) : upI f i v j = f j := by simp [upI, h]
/-- the ways of one step -/
theorem stp_inv {c : Nat → Int} {k : Nat} {s s' : Sh} (h : stp c k s = some s') :
    (opn (c k) = true ∧ s' = ⟨s.l ++ [k], upI s.o k (top s.l), upI s.e k (-1), upI s.d k (-1), upI s.t k (s.l.length : Int), max s.m (s.l.length + 1)⟩) ∨
    (opn (c k) = false ∧ c k ≠ 34 ∧ c k ≠ 35 ∧ s' = lay k s) ∨
    (c k = 34 ∧ ∃ r x, s.l = r ++ [x] ∧ two c x = true ∧ upI s.e k (-1) x < 0 ∧ s' = ⟨s.l, upI s.o k (top s.l), upI (upI s.e k (-1)) x (k : Int), upI s.d k (-1), upI (upI s.t k (s.l.length : Int)) k ((s.l.length : Int) - 1), s.m⟩) ∨
    (c k = 35 ∧ ∃ r x, s.l = r ++ [x] ∧ ¬ (c x = 33 ∧ upI s.e k (-1) x < 0) ∧ s' = ⟨r, upI s.o k (top s.l), upI s.e k (-1), upI (upI s.d k (-1)) x (k : Int), upI (upI s.t k (s.l.length : Int)) k ((s.l.length : Int) - 1), s.m⟩) := by
  unfold stp lay at h
  simp only [] at h
  split at h
  · next ho => exact .inl ⟨ho, (Option.some.inj h).symm⟩
  · next ho =>
    have ho' : opn (c k) = false := by simpa using ho
    split at h
    · next h45 =>
      split at h
      · cases h
      · next x hx =>
        have hl := last_split hx
        split at h
        · next h34 =>
          split at h
          · next hq =>
            simp only [Bool.and_eq_true, decide_eq_true_eq] at hq
            exact .inr (.inr (.inl ⟨by simpa using h34, _, x, hl, hq.1, hq.2, (Option.some.inj h).symm⟩))
          · cases h
        · next h34 =>
          split at h
          · cases h
          · next hq =>
            simp only [Bool.and_eq_true, decide_eq_true_eq, beq_iff_eq] at hq
            refine .inr (.inr (.inr ⟨?_, _, x, hl, hq, (Option.some.inj h).symm⟩))
            simp at h45 h34; omega
    · next h45 =>
      simp at h45
      exact .inr (.inl ⟨ho', h45.1, h45.2, (Option.some.inj h).symm⟩)
theorem shp_succ {c : Nat → Int} {k : Nat} {s' : Sh} (h : shp c (k + 1) = some s') : ∃ s, shp c k = some s ∧ stp c k s = some s' := by
  have h' : (shp c k).bind (stp c k) = some s' := h
  cases hs : shp c k with
  | none => rw [hs] at h'; cases h'
  | some s => rw [hs] at h'; exact ⟨s, rfl, h'⟩
theorem shp_back {c : Nat → Int} {k n : Nat} {s' : Sh} (h : shp c n = some s') (hk : k ≤ n) : ∃ s, shp c k = some s := by
  cases hs : shp c k with
  | some s => exact ⟨s, rfl⟩
  | none =>
    have := shp_none (n - k) hs
    rw [show k + (n - k) = n by omega, h] at this; cases this
def Eok (c : Nat → Int) (k x : Nat) (v : Int) : Prop := v = -1 ∨ ((x : Int) < v ∧ v < k ∧ c v.toNat = 34)
def Dok (c : Nat → Int) (k x : Nat) (l : List Nat) (v : Int) : Prop := (v = -1 ∧ (x ∈ l ∨ opn (c x) = false)) ∨ ((x : Int) < v ∧ v < k ∧ c v.toNat = 35 ∧ x ∉ l ∧ opn (c x) = true)
theorem Eok.up {c : Nat → Int} {k x : Nat} {v : Int} (h : Eok c k x v) : Eok c (k + 1) x v := h.imp id fun q => ⟨q.1, by have := q.2.1; omega, q.2.2⟩
theorem Dok.up {c : Nat → Int} {k x : Nat} {l l' : List Nat} {v : Int} (h : Dok c k x l v) (h1 : x ∈ l ↔ x ∈ l') : Dok c (k + 1) x l' v :=
  h.imp (fun q => ⟨q.1, q.2.imp h1.1 id⟩) fun q => ⟨q.1, by have := q.2.1; omega, q.2.2.1, fun r => q.2.2.2.1 (h1.2 r), q.2.2.2.2⟩
/-- what holds of a state -/
structure Inv (c : Nat → Int) (k : Nat) (s : Sh) : Prop where
  lt : ∀ x, x ∈ s.l → x < k
  op : ∀ x, x ∈ s.l → opn (c x) = true
  inc : s.l.Pairwise (· < ·)
  le : s.l.length ≤ s.m
  e : ∀ x, x < k → Eok c k x (s.e x)
  d : ∀ x, x < k → Dok c k x s.l (s.d x)
theorem inv_of {c : Nat → Int} : ∀ (k : Nat) (s : Sh), shp c k = some s → Inv c k s
  | 0, s, h => by
    simp only [shp, Option.some.injEq] at h; subst h
    exact ⟨fun x hx => by simp at hx, fun x hx => by simp at hx, List.Pairwise.nil, Nat.le_refl 0, fun x hx => by omega, fun x hx => by omega⟩
  | k + 1, s', h => by
    obtain ⟨s, hs, hst⟩ := shp_succ h
    have I := inv_of k s hs
    have hk : k ∉ s.l := fun q => by have := I.lt k q; omega
    have he : ∀ y, y < k + 1 → Eok c (k + 1) y (upI s.e k (-1) y) := fun y hy => by
      by_cases e : y = k
      · subst e; rw [upI_same]; exact .inl rfl
      · rw [upI_ne e]; exact (I.e y (by omega)).up
    rcases stp_inv hst with ⟨ho, rfl⟩ | ⟨ho, h4, h5, rfl⟩ | ⟨h4, r, x, hl, h2, hx, rfl⟩ | ⟨h5, r, x, hl, h2, rfl⟩
    · refine ⟨?_, ?_, ?_, ?_, he, ?_⟩
      · intro x hx
        rcases List.mem_append.1 hx with q | q
        · have := I.lt x q; omega
        · simp at q; omega
      · intro x hx
        rcases List.mem_append.1 hx with q | q
        · exact I.op x q
        · simp at q; subst q; exact ho
      · exact List.pairwise_append.2 ⟨I.inc, by simp, fun a ha b hb => by simp at hb; subst hb; exact I.lt a ha⟩
      · have := I.le; show (s.l ++ [k]).length ≤ max s.m (s.l.length + 1); simp; omega
      · intro x hx
        show Dok c (k + 1) x (s.l ++ [k]) (upI s.d k (-1) x)
        by_cases e : x = k
        · subst e; rw [upI_same]; exact .inl ⟨rfl, .inl (by simp)⟩
        · rw [upI_ne e]; exact (I.d x (by omega)).up (by simp [e])
    · refine ⟨fun x hx => by have := I.lt x hx; omega, I.op, I.inc, I.le, he, ?_⟩
      intro x hx
      show Dok c (k + 1) x s.l (upI s.d k (-1) x)
      by_cases e : x = k
      · subst e; rw [upI_same]; exact .inl ⟨rfl, .inr ho⟩
      · rw [upI_ne e]; exact (I.d x (by omega)).up Iff.rfl
    · have hxk := I.lt x (by rw [hl]; simp)
      refine ⟨fun y hy => by have := I.lt y hy; omega, I.op, I.inc, I.le, ?_, ?_⟩
      · intro y hy
        show Eok c (k + 1) y (upI (upI s.e k (-1)) x (k : Int) y)
        by_cases e1 : y = x
        · subst e1; rw [upI_same]; exact .inr ⟨by omega, by omega, by simpa using h4⟩
        · rw [upI_ne e1]; exact he y hy
      · intro y hy
        show Dok c (k + 1) y s.l (upI s.d k (-1) y)
        by_cases e : y = k
        · subst e; rw [upI_same]; exact .inl ⟨rfl, .inr (opn_no.2 (by omega))⟩
        · rw [upI_ne e]; exact (I.d y (by omega)).up Iff.rfl
    · have hxk := I.lt x (by rw [hl]; simp)
      have hinc := I.inc
      rw [hl] at hinc
      have hxr : x ∉ r := fun q => by have := (List.pairwise_append.1 hinc).2.2 x q x (by simp); omega
      refine ⟨fun y hy => by have := I.lt y (by rw [hl]; exact List.mem_append_left _ hy); omega, fun y hy => I.op y (by rw [hl]; exact List.mem_append_left _ hy), (List.pairwise_append.1 hinc).1, by have := I.le; rw [hl] at this; simp at this; show r.length ≤ s.m; omega, he, ?_⟩
      intro y hy
      show Dok c (k + 1) y r (upI (upI s.d k (-1)) x (k : Int) y)
      by_cases e1 : y = x
      · subst e1; rw [upI_same]; exact .inr ⟨by omega, by omega, by simpa using h5, hxr, I.op y (by rw [hl]; simp)⟩
      · rw [upI_ne e1]
        by_cases e : y = k
        · subst e; rw [upI_same]; exact .inl ⟨rfl, .inr (opn_no.2 (by omega))⟩
        · rw [upI_ne e]; exact (I.d y (by omega)).up (by rw [hl]; simp [e1])
def ParS (c : Nat → Int) (k j d : Nat) : Prop := ∀ s, shp c k = some s → ∃ s', shp c j = some s' ∧ s'.l = s.l ∧ s'.m = max s.m (s.l.length + d) ∧ ∀ x, x < k → s'.e x = s.e x ∧ s'.d x = s.d x
def BraS (c : Nat → Int) (k : Nat) (a : Int) (e d : Nat) : Prop := ∀ s, shp c k = some s → ∃ s', shp c (e + 1) = some s' ∧ s'.l = s.l ∧ s'.m = max s.m (s.l.length + 1 + d) ∧ s'.e k = a ∧ s'.d k = (e : Int) ∧ ∀ x, x < k → s'.e x = s.e x ∧ s'.d x = s.d x
/-- no code goes on so -/
def Fail (c : Nat → Int) (n k : Nat) : Prop := ∀ s, shp c k = some s → ∀ s', shp c n = some s' → s'.l ≠ []
theorem ParS_nil (c : Nat → Int) (k : Nat) : ParS c k k 0 := fun s hs => ⟨s, hs, rfl, by have := (inv_of k s hs).le; omega, fun x _ => ⟨rfl, rfl⟩⟩
theorem ParS_other {c : Nat → Int} {k j d : Nat} (h : ParS c k j d) (hk : k ≤ j) (ho : opn (c j) = false) (h4 : c j ≠ 34) (h5 : c j ≠ 35) : ParS c k (j + 1) d := fun s hs => by
  obtain ⟨s', h1, h2, h3, h6⟩ := h s hs
  have hst : stp c j s' = some (lay j s') := by
    unfold stp; simp only []
    rw [if_neg (by rw [ho]; exact Bool.false_ne_true), show (c j == 34) = false by simpa using h4, show (c j == 35) = false by simpa using h5]; rfl
  exact ⟨lay j s', shp_step h1 hst, h2, h3, fun x hx => ⟨(upI_ne (by omega)).trans (h6 x hx).1, (upI_ne (by omega)).trans (h6 x hx).2⟩⟩
theorem ParS_bra {c : Nat → Int} {k j d e d' : Nat} {a : Int} (h : ParS c k j d) (hk : k ≤ j) (hb : BraS c j a e d') : ParS c k (e + 1) (max d (d' + 1)) := fun s hs => by
  obtain ⟨s', h1, h2, h3, h6⟩ := h s hs
  obtain ⟨s2, g1, g2, g3, _, _, g6⟩ := hb s' h1
  exact ⟨s2, g1, g2.trans h2, by rw [g3, h3, h2]; omega, fun x hx => ⟨(g6 x (by omega)).1.trans (h6 x hx).1, (g6 x (by omega)).2.trans (h6 x hx).2⟩⟩
/-- the state behind an opening -/
def oped (k : Nat) (s : Sh) : Sh := ⟨s.l ++ [k], upI s.o k (top s.l), upI s.e k (-1), upI s.d k (-1), upI s.t k (s.l.length : Int), max s.m (s.l.length + 1)⟩
theorem shp_open {c : Nat → Int} {k : Nat} {s : Sh} (hs : shp c k = some s) (ho : opn (c k) = true) : shp c (k + 1) = some (oped k s) := shp_step hs (by unfold stp; simp only []; rw [if_pos ho]; rfl)
theorem BraS_plain {c : Nat → Int} {k e d : Nat} (ho : opn (c k) = true) (hp : ParS c (k + 1) e d) (hk : k < e) (h5 : c e = 35) (h3 : c k ≠ 33) : BraS c k (-1) e d := fun s hs => by
  obtain ⟨s', h1, h2, h4, h6⟩ := hp _ (shp_open hs ho)
  have e1 : s'.e k = -1 := (h6 k (by omega)).1.trans (upI_same _ _ _)
  have hl : s'.l = s.l ++ [k] := h2
  have q := stp_end_ok (c := c) (k := e) (s := s') (x := k) (by rw [h5]; rfl) h5 (by rw [hl]; exact last_app) (fun q => h3 q.1)
  refine ⟨_, shp_step h1 q, by show s'.l.dropLast = s.l; rw [hl]; simp, ?_, ?_, upI_same _ _ _, fun x hx => ⟨?_, ?_⟩⟩
  · show s'.m = _
    rw [h4]; simp only [oped]; simp <;> omega
  · show upI s'.e e (-1) k = -1
    rw [upI_ne (by omega), e1]
  · show upI s'.e e (-1) x = s.e x
    rw [upI_ne (by omega), (h6 x (by omega)).1]; exact upI_ne (by omega)
  · show upI (upI s'.d e (-1)) k (e : Int) x = s.d x
    rw [upI_ne (by omega), upI_ne (by omega), (h6 x (by omega)).2]; exact upI_ne (by omega)
/-- the state behind an else -/
theorem shp_else {c : Nat → Int} {k a d1 : Nat} {s : Sh} (hs : shp c k = some s) (h2 : two c k = true) (hp : ParS c (k + 1) a d1) (hk : k < a) (h4 : c a = 34) :
    ∃ s', shp c (a + 1) = some s' ∧ s'.l = s.l ++ [k] ∧ s'.m = max s.m (s.l.length + 1 + d1) ∧ s'.e k = (a : Int) ∧ ∀ x, x < k → s'.e x = s.e x ∧ s'.d x = s.d x := by
  have ho : opn (c k) = true := by rw [opn_iff]; rcases two_iff.1 h2 with q | q <;> omega
  obtain ⟨s', h1, hl, hm, h6⟩ := hp _ (shp_open hs ho)
  have e1 : s'.e k = -1 := (h6 k (by omega)).1.trans (upI_same _ _ _)
  have hl' : s'.l = s.l ++ [k] := hl
  have q := stp_else_ok (c := c) (k := a) (s := s') (x := k) (by rw [h4]; rfl) h4 (by rw [hl']; exact last_app) h2 (by show upI s'.e a (-1) k < 0; rw [upI_ne (by omega), e1]; decide)
  refine ⟨_, shp_step h1 q, hl', ?_, upI_same _ _ _, fun x hx => ⟨?_, ?_⟩⟩
  · show s'.m = _
    rw [hm]; simp only [oped]; simp <;> omega
  · show upI (upI s'.e a (-1)) k (a : Int) x = s.e x
    rw [upI_ne (by omega), upI_ne (by omega), (h6 x (by omega)).1]; exact upI_ne (by omega)
  · show upI s'.d a (-1) x = s.d x
    rw [upI_ne (by omega), (h6 x (by omega)).2]; exact upI_ne (by omega)
theorem BraS_alt {c : Nat → Int} {k a e d1 d2 : Nat} (h2 : two c k = true) (hp : ParS c (k + 1) a d1) (hk : k < a) (h4 : c a = 34) (hq : ParS c (a + 1) e d2) (ha : a < e) (h5 : c e = 35) : BraS c k (a : Int) e (max d1 d2) := fun s hs => by
  obtain ⟨s1, h1, hl, hm, he, hf⟩ := shp_else hs h2 hp hk h4
  obtain ⟨s', g1, gl, gm, g6⟩ := hq s1 h1
  have hl' : s'.l = s.l ++ [k] := gl.trans hl
  have e1 : s'.e k = (a : Int) := (g6 k (by omega)).1.trans he
  have q := stp_end_ok (c := c) (k := e) (s := s') (x := k) (by rw [h5]; rfl) h5 (by rw [hl']; exact last_app) (fun q => by have q2 : upI s'.e e (-1) k < 0 := q.2; rw [upI_ne (by omega), e1] at q2; omega)
  refine ⟨_, shp_step g1 q, by show s'.l.dropLast = s.l; rw [hl']; simp, ?_, ?_, upI_same _ _ _, fun x hx => ⟨?_, ?_⟩⟩
  · show s'.m = _
    rw [gm, hm, hl]; simp <;> omega
  · show upI s'.e e (-1) k = a
    rw [upI_ne (by omega), e1]
  · show upI s'.e e (-1) x = s.e x
    rw [upI_ne (by omega), (g6 x (by omega)).1, (hf x hx).1]
  · show upI (upI s'.d e (-1)) k (e : Int) x = s.d x
    rw [upI_ne (by omega), upI_ne (by omega), (g6 x (by omega)).2, (hf x hx).2]
theorem Fail_par {c : Nat → Int} {n k j d : Nat} (h : ParS c k j d) (hf : Fail c n j) : Fail c n k := fun s hs s' hs' => by
  obtain ⟨s1, h1, _⟩ := h s hs
  exact hf s1 h1 s' hs'
theorem Fail_open {c : Nat → Int} {n k : Nat} (ho : opn (c k) = true) (hf : Fail c n (k + 1)) : Fail c n k := fun s hs s' hs' => hf _ (shp_open hs ho) s' hs'
theorem Fail_end {c : Nat → Int} {n k d : Nat} (ho : opn (c k) = true) (hp : ParS c (k + 1) n d) : Fail c n k := fun s hs s' hs' => by
  obtain ⟨s1, h1, hl, _⟩ := hp _ (shp_open hs ho)
  rw [h1] at hs'; cases hs'
  rw [hl]; simp [oped]
theorem none_fail {c : Nat → Int} {n j : Nat} {s s' : Sh} (hs : shp c j = some s) (hst : stp c j s = none) (hj : j < n) (hs' : shp c n = some s') : False := by
  obtain ⟨s1, h1⟩ := shp_back hs' (show j + 1 ≤ n by omega)
  obtain ⟨s2, h2, h3⟩ := shp_succ h1
  rw [hs] at h2; cases h2
  rw [hst] at h3; cases h3
theorem Fail_two {c : Nat → Int} {n k a d : Nat} (ho : opn (c k) = true) (hp : ParS c (k + 1) a d) (h4 : c a = 34) (ha : a < n) (h2 : two c k = false) : Fail c n k := fun s hs s' hs' => by
  obtain ⟨s1, h1, hl, _⟩ := hp _ (shp_open hs ho)
  exact (none_fail h1 (stp_else_two (by rw [h4]; rfl) h4 (show s1.l.getLast? = some k by rw [hl]; exact last_app) h2) ha hs').elim
theorem Fail_alt {c : Nat → Int} {n k a d1 : Nat} (h2 : two c k = true) (hp : ParS c (k + 1) a d1) (hk : k < a) (h4 : c a = 34) (hf : Fail c n (a + 1)) : Fail c n k := fun s hs s' hs' => by
  obtain ⟨s1, h1, _⟩ := shp_else hs h2 hp hk h4
  exact hf s1 h1 s' hs'
theorem Fail_alt_end {c : Nat → Int} {n k a d1 d2 : Nat} (h2 : two c k = true) (hp : ParS c (k + 1) a d1) (hk : k < a) (h4 : c a = 34) (hq : ParS c (a + 1) n d2) : Fail c n k := fun s hs s' hs' => by
  obtain ⟨s1, h1, hl, _⟩ := shp_else hs h2 hp hk h4
  obtain ⟨s2, g1, gl, _⟩ := hq s1 h1
  rw [g1] at hs'; cases hs'
  rw [gl, hl]; simp
theorem Fail_alt_else {c : Nat → Int} {n k a e d1 d2 : Nat} (h2 : two c k = true) (hp : ParS c (k + 1) a d1) (hk : k < a) (h4 : c a = 34) (hq : ParS c (a + 1) e d2) (ha : a < e) (h5 : c e = 34) (he : e < n) : Fail c n k := fun s hs s' hs' => by
  obtain ⟨s1, h1, hl, hm, he1, hf⟩ := shp_else hs h2 hp hk h4
  obtain ⟨s2, g1, gl, gm, g6⟩ := hq s1 h1
  exact (none_fail g1 (stp_else_has (by rw [h5]; rfl) h5 (show s2.l.getLast? = some k by rw [gl, hl]; exact last_app) (by
    show ¬ upI s2.e e (-1) k < 0
    rw [upI_ne (by omega), (g6 k (by omega)).1, he1]; omega)) he hs').elim
theorem Fail_try {c : Nat → Int} {n k e d : Nat} (ho : opn (c k) = true) (hp : ParS c (k + 1) e d) (hk : k < e) (h5 : c e = 35) (he : e < n) (h3 : c k = 33) : Fail c n k := fun s hs s' hs' => by
  obtain ⟨s1, h1, hl, hm, h6⟩ := hp _ (shp_open hs ho)
  exact (none_fail h1 (stp_end_try (by rw [h5]; rfl) h5 (show s1.l.getLast? = some k by rw [hl]; exact last_app) h3 (by
    show upI s1.e e (-1) k < 0
    rw [upI_ne (by omega), (h6 k (by omega)).1]
    show upI s.e k (-1) k < 0
    rw [upI_same]; decide)) he hs').elim
/-- what parts answers -/
def PR (c : Nat → Int) (n at' : Nat) (nx : Nat) (d : Int) : Prop := (d = -1 ∧ nx = 0 ∧ Fail c n at') ∨ (0 ≤ d ∧ d + at' ≤ nx ∧ nx ≤ n ∧ (nx < n → c nx = 34 ∨ c nx = 35) ∧ ParS c at' nx d.toNat)
/-- what bracket answers -/
def BR (c : Nat → Int) (n k : Nat) (a : Int) (e : Nat) (d : Int) : Prop := (a = 0 ∧ e = 0 ∧ d = -1 ∧ Fail c n k) ∨ (0 ≤ d ∧ d + k < e ∧ e < n ∧ BraS c k a e d.toNat)
end Ec
end Go.Proofs.Ytmjnakhpekbenaa
namespace Go.Proofs.Ytmjnakhpekbenaa
open Go.RowKit Go.Sort
namespace Ec
/-- the result's own cells are as they were laid -/
structure ZR (wr : World) (h : Nat) : Prop where
  c0 : wr.cell? ⟨h, 0, none⟩ = some (.slice none 0 0)
  c1 : wr.cell? ⟨h, 1, none⟩ = some (.slice none 0 0)
  c2 : wr.cell? ⟨h, 2, none⟩ = some (.slice none 0 0)
  c3 : wr.cell? ⟨h, 3, none⟩ = some (.slice none 0 0)
  c4 : wr.cell? ⟨h, 4, none⟩ = some (.int .i64 0)
  c5 : wr.cell? ⟨h, 5, none⟩ = some (.bool false)
  fz : ∀ i, i < 6 → wr.frozen? ⟨h, i, none⟩ = false
theorem ZR.same {w w' : World} {h : Nat} (z : ZR w h) (hc : ∀ j, w'.cell? ⟨h, j, none⟩ = w.cell? ⟨h, j, none⟩) (hf : ∀ j, w'.frozen? ⟨h, j, none⟩ = w.frozen? ⟨h, j, none⟩) : ZR w' h :=
  ⟨by rw [hc]; exact z.c0, by rw [hc]; exact z.c1, by rw [hc]; exact z.c2, by rw [hc]; exact z.c3, by rw [hc]; exact z.c4, by rw [hc]; exact z.c5, fun i hi => by rw [hf]; exact z.fz i hi⟩
theorem ZR.other {w : World} {h g : Nat} (z : ZR w h) (hg : h < g) (o : Nat) (v : Value) : ZR (w.setCell ⟨g, o, none⟩ v) h :=
  z.same (fun j => World.cell?_setCell_other _ _ _ _ (by intro e; injection e with e1; omega)) (fun j => World.frozen?_setCell _ _ _ _)
/-- what the search holds in memory: the struct at b, the four rows -/
structure SW (w wr : World) (b g0 g1 g2 g3 n : Nat) (s : Sh) : Prop where
  z0 : wr.cell? ⟨b, 0, none⟩ = some (.slice (some ⟨g0, 0, none⟩) n n)
  z1 : wr.cell? ⟨b, 1, none⟩ = some (.slice (some ⟨g1, 0, none⟩) n n)
  z2 : wr.cell? ⟨b, 2, none⟩ = some (.slice (some ⟨g2, 0, none⟩) n n)
  z3 : wr.cell? ⟨b, 3, none⟩ = some (.slice (some ⟨g3, 0, none⟩) n n)
  z4 : wr.cell? ⟨b, 4, none⟩ = some (.int .i64 (s.m : Int))
  z5 : wr.cell? ⟨b, 5, none⟩ = some (.bool true)
  fb : ∀ i, i < 6 → wr.frozen? ⟨b, i, none⟩ = false
  r0 : NRow wr g0 n s.o
  r1 : NRow wr g1 n s.e
  r2 : NRow wr g2 n s.d
  r3 : NRow wr g3 n s.t
  ne : b ≠ g0 ∧ b ≠ g1 ∧ b ≠ g2 ∧ b ≠ g3 ∧ g0 ≠ g1 ∧ g0 ≠ g2 ∧ g0 ≠ g3 ∧ g1 ≠ g2 ∧ g1 ≠ g3 ∧ g2 ≠ g3
  lo : w.heap.size < b ∧ w.heap.size < g0 ∧ w.heap.size < g1 ∧ w.heap.size < g2 ∧ w.heap.size < g3
  bz : b < wr.heap.size
  hb : Below w.heap.size w wr
  zr : ZR wr w.heap.size
def s0 : Sh := ⟨[], fun _ => 0, fun _ => 0, fun _ => 0, fun _ => 0, 0⟩
theorem NRow.same {w w' : World} {g n : Nat} {f : Nat → Int} (h : NRow w g n f) (hc : ∀ j, w'.cell? ⟨g, j, none⟩ = w.cell? ⟨g, j, none⟩) (hf : ∀ j, w'.frozen? ⟨g, j, none⟩ = w.frozen? ⟨g, j, none⟩) (hz : w.heap.size ≤ w'.heap.size) : NRow w' g n f :=
  ⟨fun i hi => by rw [hc]; exact h.c i hi, fun i hi => by rw [hf]; exact h.fz i hi, Nat.lt_of_lt_of_le h.gz hz⟩
theorem NRow.congr {w : World} {g n : Nat} {f f' : Nat → Int} (h : NRow w g n f) (e : ∀ i, i < n → f i = f' i) : NRow w g n f' := ⟨fun i hi => by rw [← e i hi]; exact h.c i hi, h.fz, h.gz⟩
theorem SW.same {w wr wr' : World} {b g0 g1 g2 g3 n : Nat} {s : Sh} (h : SW w wr b g0 g1 g2 g3 n s)
    (hc : ∀ p, (p = b ∨ p = g0 ∨ p = g1 ∨ p = g2 ∨ p = g3 ∨ p = w.heap.size) → wr'.heap[p]? = wr.heap[p]?) (hz : wr.heap.size ≤ wr'.heap.size) (hB : Below w.heap.size w wr') : SW w wr' b g0 g1 g2 g3 n s := by
  have c : ∀ p j, (p = b ∨ p = g0 ∨ p = g1 ∨ p = g2 ∨ p = g3 ∨ p = w.heap.size) → wr'.cell? ⟨p, j, none⟩ = wr.cell? ⟨p, j, none⟩ := fun p j hp => World.cell?_of_block (a := ⟨p, j, none⟩) (hc p hp)
  have f : ∀ p j, (p = b ∨ p = g0 ∨ p = g1 ∨ p = g2 ∨ p = g3 ∨ p = w.heap.size) → wr'.frozen? ⟨p, j, none⟩ = wr.frozen? ⟨p, j, none⟩ := fun p j hp => World.frozen?_of_block (a := ⟨p, j, none⟩) (hc p hp)
  exact ⟨by rw [c _ _ (by simp)]; exact h.z0, by rw [c _ _ (by simp)]; exact h.z1, by rw [c _ _ (by simp)]; exact h.z2, by rw [c _ _ (by simp)]; exact h.z3, by rw [c _ _ (by simp)]; exact h.z4, by rw [c _ _ (by simp)]; exact h.z5,
    fun i hi => by rw [f _ _ (by simp)]; exact h.fb i hi, h.r0.same (fun j => c _ j (by simp)) (fun j => f _ j (by simp)) hz, h.r1.same (fun j => c _ j (by simp)) (fun j => f _ j (by simp)) hz, h.r2.same (fun j => c _ j (by simp)) (fun j => f _ j (by simp)) hz, h.r3.same (fun j => c _ j (by simp)) (fun j => f _ j (by simp)) hz,
    h.ne, h.lo, Nat.lt_of_lt_of_le h.bz hz, hB, h.zr.same (fun j => c _ j (by simp)) (fun j => f _ j (by simp))⟩
theorem SW.below {w wr wr' : World} {b g0 g1 g2 g3 n : Nat} {s : Sh} (h : SW w wr b g0 g1 g2 g3 n s) (hb : Below wr.heap.size wr wr') : SW w wr' b g0 g1 g2 g3 n s :=
  h.same (fun p hp => hb.block p (by rcases hp with rfl | rfl | rfl | rfl | rfl | rfl; exact h.bz; exact h.r0.gz; exact h.r1.gz; exact h.r2.gz; exact h.r3.gz; exact Nat.lt_trans h.lo.1 h.bz)) hb.size (h.hb.trans (hb.mono h.hb.size))
/-- the open brackets in memory -/
def lI (l : List Nat) : List Value := l.map (fun (x : Nat) => Value.int .i64 (x : Int))
abbrev Own (w : World) (B : Nat) (v : Value) (l : List Nat) : Prop := w.ownsRow B 3 1 v l.length (lI l)
theorem Own.top {w : World} {B : Nat} {v : Value} {l : List Nat} {x : Nat} (h : Own w B v l) (hx : l.getLast? = some x) : ∃ g cap, v = .slice (some ⟨g, 0, none⟩) l.length cap ∧ cap ≤ maxLen ∧ l.length ≤ cap ∧ B ≤ g ∧ g < w.heap.size ∧ w.cell? ⟨g, l.length - 1, none⟩ = some (.int .i64 (x : Int)) ∧
    Own w B (.slice (some ⟨g, 0, none⟩) l.dropLast.length cap) l.dropLast := by
  have hne : l ≠ [] := fun e => by subst e; simp at hx
  have hlen : 0 < l.length := List.length_pos_iff.2 hne
  obtain ⟨hl, ⟨h0, h1⟩ | ⟨g, cap, cur, hv, hb, hg, hc, hm, hs, hxs⟩⟩ := h
  · omega
  · refine ⟨g, cap, hv, hm, hc, hb, (Array.getElem?_eq_some_iff.1 hg).1, ?_, by simp [lI], Or.inr ⟨g, cap, cur, rfl, hb, hg, by simp; omega, hm, hs, ?_⟩⟩
    · have e : (lI l)[l.length - 1]? = some (.int .i64 (x : Int)) := by
        unfold lI
        rw [List.getElem?_map, ← List.getLast?_eq_getElem?, hx]; rfl
      rw [← hxs, List.getElem?_take_of_lt (by omega)] at e
      simpa [World.cell?, hg] using e
    · have : (lI l).take (l.length - 1) = lI l.dropLast := by unfold lI; rw [List.dropLast_eq_take, List.map_take]
      rw [← this, ← hxs, List.take_take, List.length_dropLast]
      congr 1; omega
theorem Own.set {w : World} {B : Nat} {v : Value} {l : List Nat} (h : Own w B v l) (g : Nat) (hg : g < B) (o : Nat) (u : Value) : Own (w.setCell ⟨g, o, none⟩ u) B v l := by
  obtain ⟨hl, h0 | ⟨g', cap, cur, hv, hb, hg', hc, hm, hs, hx⟩⟩ := h
  · exact ⟨hl, Or.inl h0⟩
  · exact ⟨hl, Or.inr ⟨g', cap, cur, hv, hb, by rw [Go.Deep.blk_setCell_other _ _ _ _ (by show g' ≠ g; omega)]; exact hg', hc, hm, hs, hx⟩⟩
theorem Own.below {w w' : World} {B : Nat} {v : Value} {l : List Nat} (h : Own w B v l) (hb : Below w.heap.size w w') : Own w' B v l := by
  obtain ⟨hl, h0 | ⟨g', cap, cur, hv, hB, hg', hc, hm, hs, hx⟩⟩ := h
  · exact ⟨hl, Or.inl h0⟩
  · exact ⟨hl, Or.inr ⟨g', cap, cur, hv, hB, by rw [hb.block g' (Array.getElem?_eq_some_iff.1 hg').1]; exact hg', hc, hm, hs, hx⟩⟩
end Ec
end Go.Proofs.Ytmjnakhpekbenaa
