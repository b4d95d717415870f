/- What the proof of CacheHolds stands on, part 2 of 5. -/
import Derived.CallsIn
import Derived.ChangeKeysEq
import Derived.ChangeSlices
import Derived.Deep.LoopGhost
import Derived.Deep.MidRow
import Derived.Great.BuildSlice
import Derived.Ground.Names2Prog
import Derived.Ground.SlgnProg
import Derived.Ground.SlsfProg
import Derived.Handy
import Derived.KernelRfl
import Derived.Laws.AppendOwn
import Derived.Laws.AppendOwnNone
import Derived.Laws.CopyRow
import Derived.Laws.Externs
import Derived.Laws.MakeOwn
import Derived.Laws.Rows
import Derived.Laws.StructEq
import Derived.Lib.AppendZerosOnto
import Derived.Lib.Overlaps
import Derived.Lib.QuietBelow
import Derived.Lib.SliceRun
import Derived.Orders
import Derived.OrdersIn
import Derived.RangeFuncFrom
import Derived.RangeFuncLeaves
import Derived.RangeFuncWrites
import Derived.Shelf.SlSortCmp.HeapSortK
import Derived.Shelf.SlSortCmp.InsertionK
import Derived.Shelf.SlSortCmp.MedianK
import Derived.Shelf.SlSortCmp.NoneTotal
import Derived.Shelf.SlSortCmp.PartialInsertionK
import Derived.Shelf.SlSortCmp.PartitionEqualK
import Derived.Shelf.SlSortCmp.PartitionK
import Derived.Shelf.SlSortCmp.PdqK
import Derived.Shelf.SlSortCmp.PivotK
import Derived.Shelf.SlSortCmp.ReverseRangeK
import Derived.Shelf.SlSortCmp.SiftDownK
import Derived.Shelf.Slices.Cells
import Derived.Shelf.Slices.Clone
import Derived.Shelf.Slices.Delete
import Derived.Shelf.Slices.Empties
import Derived.Shelf.Slices.SearchI
import Derived.Shelf.Slices.Turned
import Derived.Shelf.SlicesE.Clone
import Derived.Shelf.SlicesE.Delete
import Derived.Shelf.SlicesQ.Reverse
import Derived.Shelf.Small.Bits
import Derived.Shelf.Small.Wraps
import Derived.Shelf.Strconv.Itoa0
import Derived.Sort.AssemblyPlain
import Derived.Still
import Derived.StillTail
import Derived.TacticsIn
import Derived.Test.YtmjnakhpekbenaaProg
import Derived.WalkKit
import Derived.WalkLawsBesides
import Derived.Test.YtmjnakhpekbenaaCacheHoldsA
set_option linter.unusedVariables false
set_option linter.unusedSimpArgs false
namespace Go.Proofs.Ytmjnakhpekbenaa
open Go.RowKit Fw
namespace Ca
/-- is the entry one of the line's set, and another line? -/
def inS (s x : Int) (p : T2) : Bool := decide (p.1 ≠ x) && decide (p.1.tmod s = x.tmod s)
/-- an entry whose age is a number -/
abbrev TV := { q : T2 // -1000 ≤ q.2 ∧ q.2 ≤ 1000 }
def osA (s x : Int) (t : List TV) : List TV := t.filter fun q => inS s x q.1
theorem os_take {s x : Int} {t : List TV} {i : Nat} {xa : TV} (h : t[i]? = some xa) : osA s x (t.take (i + 1)) = osA s x (t.take i) ++ (if inS s x xa.1 = true then [xa] else []) := by
  unfold osA
  rw [List.take_add_one, List.filter_append, h]
  simp [List.filter_cons]
/-- what the iterator reads: the boxes, the table -/
structure Rd (n0 : Nat) (W : World) (b3 b4 b5 : Nat) (p : Option Addr) (t : List T2) (cp : Nat) (s x : Int) : Prop where
  h3 : W.heap[b3]? = some (.cells #[.slice p t.length cp] 88 (0, 0))
  h4 : W.heap[b4]? = some (.cells #[vI s] 3 (0, 0))
  h5 : W.heap[b5]? = some (.cells #[vI x] 3 (0, 0))
  ht : 0 < t.length → ∃ g o, p = some ⟨g, o, none⟩ ∧ g < n0 ∧ ∀ i, i < t.length → W.rangeAt g (o + i * 2) [vI (lnT t i), vI (agT t i)]
theorem rangeAt_heap {W W' : World} {g o : Nat} {cs : List Value} (h : W'.heap[g]? = W.heap[g]?) (hr : W.rangeAt g o cs) : W'.rangeAt g o cs := fun j v hv => by
  have := hr j v hv
  unfold World.cell? at this ⊢
  rw [h]; exact this
theorem Rd.keep {n0 : Nat} {W W' : World} {b3 b4 b5 : Nat} {p : Option Addr} {t : List T2} {cp : Nat} {s x : Int} (h : Rd n0 W b3 b4 b5 p t cp s x) (hk : Fi.KpB n0 [b3, b4, b5] W W') : Rd n0 W' b3 b4 b5 p t cp s x :=
  ⟨(hk.2 b3 (by simp)).trans h.h3, (hk.2 b4 (by simp)).trans h.h4, (hk.2 b5 (by simp)).trans h.h5, fun h0 => by
    obtain ⟨g, o, hp, hg, hr⟩ := h.ht h0
    exact ⟨g, o, hp, hg, fun i hi => rangeAt_heap (hk.1 g hg) (hr i hi)⟩⟩
theorem Rd.below {n0 : Nat} {W W' : World} {b3 b4 b5 : Nat} {p : Option Addr} {t : List T2} {cp : Nat} {s x : Int} (h : Rd n0 W b3 b4 b5 p t cp s x) (hb : Below W.heap.size W W') : Rd n0 W' b3 b4 b5 p t cp s x := by
  have lt : ∀ {b o}, W.heap[b]? = some o → b < W.heap.size := fun h => (Array.getElem?_eq_some_iff.1 h).1
  exact ⟨(hb.block _ (lt h.h3)).trans h.h3, (hb.block _ (lt h.h4)).trans h.h4, (hb.block _ (lt h.h5)).trans h.h5, fun h0 => by
    obtain ⟨g, o, hp, hg, hr⟩ := h.ht h0
    exact ⟨g, o, hp, hg, fun i hi => HP.oldRange (HP.of_below (S := Tr) hb) trivial (hr i hi)⟩⟩
theorem Rd.cell {n0 : Nat} {W : World} {b3 b4 b5 : Nat} {p : Option Addr} {t : List T2} {cp : Nat} {s x : Int} (h : Rd n0 W b3 b4 b5 p t cp s x) : W.cell? ⟨b3, 0, none⟩ = some (.slice p t.length cp) ∧ W.cell? ⟨b4, 0, none⟩ = some (vI s) ∧ W.cell? ⟨b5, 0, none⟩ = some (vI x) := by
  refine ⟨?_, ?_, ?_⟩ <;> simp [World.cell?, h.h3, h.h4, h.h5]
theorem grown_hp {w w' : World} {H : List Ent} (h : HP Tr w w' H) : w.grownBy w' none := ⟨h.os, h.tape, h.output, h.size, fun k hk _ => h.keep k hk trivial⟩
/-- the table is in the world where the call began -/
theorem others_any (p : Option Addr) (t : List T2) (cp : Nat) (s x : Int) (w : World) : Calls Try.prog 97 #[.slice p t.length cp, vI s, vI x] w fun e w' => ∃ b3 b4 b5, e = .returned (.func (.func 111) #[] #[vP b3 0, vP b5 0, vP b4 0]) ∧ HP Tr w w' [.cel b3 #[.slice p t.length cp] 88, .cel b4 #[vI s] 3, .cel b5 #[vI x] 3] := by
  refine calls_of Try.func97 rfl (m := 8) rfl [(0, .slice p t.length cp), (1, vI s), (2, vI x)] (Fr_enter [.slice p t.length cp, vI s, vI x] 8 (Nat.le_of_ble_eq_true rfl)) ?_
  have hH1 : HP Tr w w [] := HP.refl w
  refine WC.seq fun K2 hK2 => WC.region ?_
  refine WL.alloc (c := #[.slice p t.length cp]) (T := 88) hH1 3 rfl (by decide) rfl rfl (fun b3 => vP b3 0) (by kernel_rfl) (fun b3 w3 hw3 => ?_)
  have hH4 : HP Tr w w3 [.cel b3 #[.slice p t.length cp] 88] := hw3.2
  have nb3 := hw3.1
  clear hw3
  refine WL.alloc (c := #[vI s]) (T := 3) hH4 4 rfl (by decide) rfl rfl (fun b4 => vP b4 0) (by kernel_rfl) (fun b4 w5 hw5 => ?_)
  have hH6 : HP Tr w w5 [.cel b3 #[.slice p t.length cp] 88, .cel b4 #[vI s] 3] := hw5.2
  have nb4 := hw5.1
  clear hw5
  refine WL.alloc (c := #[vI x]) (T := 3) hH6 5 rfl (by decide) rfl rfl (fun b5 => vP b5 0) (by kernel_rfl) (fun b5 w7 hw7 => ?_)
  have hH8 : HP Tr w w7 [.cel b3 #[.slice p t.length cp] 88, .cel b4 #[vI s] 3, .cel b5 #[vI x] 3] := hw7.2
  have nb5 := hw7.1
  clear hw7
  refine WL.z (v := .nilFunc) 6 ?_
  refine WL.nil (WQ.then (hK2 _ _ _ (WC.seq fun K9 hK9 => WC.region ?_)))
  refine WL.z (v := .func (.func 111) #[] #[vP b3 0, vP b5 0, vP b4 0]) 7 ?_
  refine WL.z (v := .func (.func 111) #[] #[vP b3 0, vP b5 0, vP b4 0]) 6 ?_
  refine WL.nil (WQ.then (hK9 _ _ _ (WC.ret ?_)))
  refine WQ.ret1 6 rfl rfl ?_
  exact ⟨b3, b4, b5, rfl, hH8⟩

theorem os_pre {s x : Int} {t : List TV} {i : Nat} : osA s x (t.take i) <+: osA s x t := by
  have h := List.take_append_drop i t
  refine ⟨osA s x (t.drop i), ?_⟩
  unfold osA
  rw [← List.filter_append, h]
theorem ln_ta {ta : List TV} {t : List T2} (h : t = ta.map (·.1)) {i : Nat} {xa : TV} (hx : ta[i]? = some xa) : xa.1.1 = lnT t i ∧ xa.1.2 = agT t i := by
  subst h; simp [lnT, agT, List.getD_eq_getElem?_getD, hx]
theorem yield_op {P : Program} {ρ : Operand → Value} {o : Oper} {W : World} {l : Nat} {u v : Value} {x y z : Operand} {at' : Array TypeId} {fn : FuncId} {tmps : Array Value} {assign body : Code} (hy : (Instr.yield l #[u, v]).run P W = .ok (.round l fn tmps assign body) W)
    (ho : o.op = .call { callee := .value z, args := #[x, y], argTypes := at' }) (hz : ρ z = .func (.yield l) #[] #[] := by rfl) (hx : ρ x = u := by rfl) (hy2 : ρ y = v := by rfl) : (execOp ρ o).run P W = .ok (.round l fn tmps assign body) W := by
  unfold execOp; rw [ho]
  simp [resolve, invoke, Deferred.ofValue, hz, hx, hy2, hy]
set_option maxRecDepth 20000 in
set_option maxHeartbeats 4000000 in
theorem others_stops (n0 : Nat) (wl : World) (b3 b4 b5 : Nat) (p : Option Addr) (ta : List TV) (t : List T2) (ht9 : t = ta.map (·.1)) (cp : Nat) (s x : Int) (hs0 : s ≠ 0) (hn : t.length ≤ 281474976710656) (hn0 : n0 ≤ wl.heap.size) (hRd9 : Rd n0 wl b3 b4 b5 p t cp s x) :
    SeqStopsK (Fi.fen none) 4 Try.prog 111 #[vP b3 0, vP b5 0, vP b4 0] (fun q : TV => #[vI q.1.1, vI q.1.2]) (Fi.KpB n0 [b3, b4, b5]) (fun xs => xs = osA s x ta) (fun pre => pre <+: osA s x ta) (osA s x ta).length wl := by
  intro ll J Jx W hbw hJ hJx hY h0
  have hl9 : t.length = ta.length := by rw [ht9]; simp
  have hRd0 : Rd n0 W b3 b4 b5 p t cp s x := hRd9.below hbw
  open Fi in
  have hcells := hRd0.cell
  refine callsIn_ofX Try.func111 rfl (m := 37) rfl [(0, .func (.yield ll) #[] #[]), (1, vP b3 0), (2, vP b5 0), (3, vP b4 0)] (Fr_enter [.func (.yield ll) #[] #[], vP b3 0, vP b5 0, vP b4 0] 37 (Nat.le_of_ble_eq_true rfl)) ?_
  have hH1 : HP Tr W W [] := HP.refl W
  have hH2 : HP Tr W _ [] := HP.refl W
  refine XC.seq fun K3 hK3 => ?_
  refine XC.region ?_
  refine XL.pure (v := .slice p t.length cp) 7 rfl (Nat.le_of_ble_eq_true rfl) rfl rfl (x_load rfl rfl Try.underlying88 rfl (HP.old hH2 trivial hcells.1)) ?_
  refine XL.pure (v := vI (t.length : Int)) 8 rfl (Nat.le_of_ble_eq_true rfl) rfl rfl (by kernel_rfl) ?_
  refine XL.pure (v := vI 0) 9 rfl (Nat.le_of_ble_eq_true rfl) rfl rfl (by kernel_rfl) ?_
  refine XL.nil ?_
  refine XQ.then ?_
  refine hK3 _ _ _ _ ?_
  refine XC.block ?_
  refine XC.loop (fun kk0 ll0 ww0 => ∃ (i : Nat), ll0 = [(0, .func (.yield ll) #[] #[]), (1, vP b3 0), (2, vP b5 0), (3, vP b4 0), (7, .slice p t.length cp), (8, vI (t.length : Int)), (9, vI (i : Int))] ∧ kk0 = t.length - i ∧ (i ≤ t.length) ∧ (J (osA s x (ta.take i)) ww0) ∧ (Rd n0 ww0 b3 b4 b5 p t cp s x) ∧ HP Tr ww0 ww0 []) (t.length) [(0, .func (.yield ll) #[] #[]), (1, vP b3 0), (2, vP b5 0), (3, vP b4 0), (7, .slice p t.length cp), (8, vI (t.length : Int)), (9, vI 0)] ⟨rfl, rfl, rfl, rfl, rfl, rfl, rfl, trivial⟩ ⟨0, rfl, rfl, Nat.zero_le _, h0, hRd0, HP.refl _⟩ ?_
  rintro kk l w5 ⟨i, rfl, hkk, hi, hJp, hRd, hH6⟩ K4 hK4
  have hH7 : HP Tr w5 w5 [] := HP.refl w5
  have hcells := hRd.cell
  refine XC.seq fun K8 hK8 => ?_
  refine XC.region ?_
  by_cases hlt : (i : Int) < (t.length : Int)
  ·
    refine XL.pure (v := .bool true) 10 rfl (Nat.le_of_ble_eq_true rfl) rfl rfl (x_lss rfl rfl rfl (dT (hlt))) ?_
    refine XL.nil ?_
    refine XQ.then ?_
    refine hK8 _ _ _ _ ?_
    refine XC.seq fun K9 hK9 => ?_
    refine XC.yes rfl ?_
    refine XC.skip ?_
    refine XQ.then ?_
    refine hK9 _ _ _ _ ?_
    refine XC.seq fun K10 hK10 => ?_
    refine XC.block ?_
    refine XC.seq fun K11 hK11 => ?_
    obtain ⟨g, o, rfl, hg0, hrow⟩ := hRd.ht (by omega)
    obtain ⟨xa, hxa⟩ : ∃ xa, ta[i]? = some xa := ⟨ta[i]'(by rw [← hl9]; omega), List.getElem?_eq_getElem _⟩
    obtain ⟨hxa1, hxa2⟩ := ln_ta ht9 hxa
    have htk := os_take (s := s) (x := x) hxa
    refine XC.region ?_
    refine XL.pure (v := vP g (o + i * 2)) 11 rfl (Nat.le_of_ble_eq_true rfl) rfl rfl (x_idx (i) (o + i * 2) rfl rfl rfl Try.underlying88 sz83 (by omega) (by omega) (by omega)) ?_
    refine XL.pure (v := .agg #[vI (lnT t i), vI (agT t i)]) 12 rfl (Nat.le_of_ble_eq_true rfl) rfl rfl (x_loadS (cs := [vI (lnT t i), vI (agT t i)]) rfl rfl Try.underlying83 rfl sz83 (HP.oldRange hH7 trivial (hrow i (by omega)))) ?_
    refine XL.alloc (c := #[vI 0, vI 0]) (T := 83) hH7 6 rfl (by decide) rfl rfl (fun b6 => vP b6 0) (by kernel_rfl) (fun b6 w12 hw12 => ?_)
    have hH13 : HP Tr w5 w12 [.cel b6 #[vI 0, vI 0] 83] := hw12.2
    have nb6 := hw12.1
    clear hw12
    refine XL.storeS (H2 := [.cel b6 #[vI (lnT t i), vI (agT t i)] 83]) 0 hH13 rfl rfl rfl rfl rfl rfl sz83 rfl (Nat.le_of_ble_eq_true rfl) rfl rfl ?_
    intro w14 hH15
    refine XL.nil ?_
    refine XQ.then ?_
    refine hK11 _ _ _ _ ?_
    refine XC.seq fun K16 hK16 => ?_
    by_cases hx1 : lnT t i = x
    ·
      have hin : inS s x xa.1 = false := by unfold inS; rw [hxa1]; simp [hx1]
      rw [hin] at htk
      simp only [if_true, Bool.false_eq_true, if_false, List.append_nil] at htk
      refine XC.confH (γ := Unit) [(6, vP b6 0), (12, .agg #[vI (lnT t i), vI (agT t i)]), (11, vP g (o + i * 2)), (10, .bool true), (0, .func (.yield ll) #[] #[]), (1, vP b3 0), (2, vP b5 0), (3, vP b4 0), (7, .slice (some ⟨g, o, none⟩) t.length cp), (8, vI (t.length : Int)), (9, vI (i : Int))] (fun gy => [vP b6 0, vI (lnT t i), vI x, .bool false, .bool false, undef, undef, undef, undef, undef, undef, undef, undef, .bool false, .bool false, undef, undef, undef, undef, undef, undef, undef, .bool false]) (fun gy D wz => HP Tr w5 wz [.cel b6 #[vI (lnT t i), vI (agT t i)] 83]) () (by kernel_rfl) ⟨rfl, rfl, rfl, rfl, rfl, rfl, rfl, rfl, rfl, rfl, rfl, trivial⟩ (by kernel_rfl) (by kernel_rfl) (by kernel_rfl) (fun _ => rfl) (by kernel_rfl) (HP.drew hH15) ?_ ?_
      · refine AllOkX.cons ?o0 (AllOkX.cons ?o1 (AllOkX.cons ?o2 (AllOkX.cons ?o3 (AllOkX.cons ?o4 (AllOkX.cons ?o5 (AllOkX.cons ?o6 (AllOkX.cons ?o7 (AllOkX.cons ?o8 (AllOkX.cons ?o9 (AllOkX.cons ?o10 (AllOkX.cons ?o11 (AllOkX.cons ?o12 (AllOkX.cons ?o13 (AllOkX.cons ?o14 (AllOkX.cons ?o15 (AllOkX.cons ?o16 (AllOkX.cons ?o17 (AllOkX.cons ?o18 (AllOkX.cons ?o19 (AllOkX.cons ?o20 (AllOkX.cons ?o21 (AllOkX.cons ?o22 (AllOkX.nil _)))))))))))))))))))))))
        case o0 =>
          intro gy D wz hDi hdep hclo hW
          exact .inl ⟨rfl, rfl, .inl ⟨gy, wz, fun _ _ => rfl, x_idxArr (0) (0) rfl rfl rfl Try.underlying83 sz3 (by omega) (by omega) (by omega), hW⟩⟩
        case o1 =>
          intro gy D wz hDi hdep hclo hW
          exact .inl ⟨rfl, rfl, .inl ⟨gy, wz, fun _ _ => rfl, x_load rfl rfl Try.underlying3 rfl (HP.cell hW 0 rfl rfl), hW⟩⟩
        case o2 =>
          intro gy D wz hDi hdep hclo hW
          exact .inl ⟨rfl, rfl, .inl ⟨gy, wz, fun _ _ => rfl, x_load rfl rfl Try.underlying3 rfl (HP.old hW trivial hcells.2.2), hW⟩⟩
        case o3 =>
          intro gy D wz hDi hdep hclo hW
          exact .inl ⟨rfl, rfl, .inl ⟨gy, wz, fun _ _ => rfl, x_neq rfl rfl rfl (dF (fun h => h hx1)), hW⟩⟩
        case o4 =>
          intro gy D wz hDi hdep hclo hW
          exact .inl ⟨rfl, rfl, .inl ⟨gy, wz, fun _ _ => rfl, by kernel_rfl, hW⟩⟩
        case o5 =>
          intro gy D wz hDi hdep hclo hW
          exact .inr ⟨rfl, rfl, hW⟩
        case o6 =>
          intro gy D wz hDi hdep hclo hW
          exact .inr ⟨rfl, rfl, hW⟩
        case o7 =>
          intro gy D wz hDi hdep hclo hW
          exact .inr ⟨rfl, rfl, hW⟩
        case o8 =>
          intro gy D wz hDi hdep hclo hW
          exact .inr ⟨rfl, rfl, hW⟩
        case o9 =>
          intro gy D wz hDi hdep hclo hW
          exact .inr ⟨rfl, rfl, hW⟩
        case o10 =>
          intro gy D wz hDi hdep hclo hW
          exact .inr ⟨rfl, rfl, hW⟩
        case o11 =>
          intro gy D wz hDi hdep hclo hW
          exact .inr ⟨rfl, rfl, hW⟩
        case o12 =>
          intro gy D wz hDi hdep hclo hW
          exact .inr ⟨rfl, rfl, hW⟩
        case o13 =>
          intro gy D wz hDi hdep hclo hW
          exact .inl ⟨rfl, rfl, .inl ⟨gy, wz, fun _ _ => rfl, by kernel_rfl, hW⟩⟩
        case o14 =>
          intro gy D wz hDi hdep hclo hW
          exact .inl ⟨rfl, rfl, .inl ⟨gy, wz, fun _ _ => rfl, by kernel_rfl, hW⟩⟩
        case o15 =>
          intro gy D wz hDi hdep hclo hW
          exact .inr ⟨rfl, rfl, hW⟩
        case o16 =>
          intro gy D wz hDi hdep hclo hW
          exact .inr ⟨rfl, rfl, hW⟩
        case o17 =>
          intro gy D wz hDi hdep hclo hW
          exact .inr ⟨rfl, rfl, hW⟩
        case o18 =>
          intro gy D wz hDi hdep hclo hW
          exact .inr ⟨rfl, rfl, hW⟩
        case o19 =>
          intro gy D wz hDi hdep hclo hW
          exact .inr ⟨rfl, rfl, hW⟩
        case o20 =>
          intro gy D wz hDi hdep hclo hW
          exact .inr ⟨rfl, rfl, hW⟩
        case o21 =>
          intro gy D wz hDi hdep hclo hW
          exact .inr ⟨rfl, rfl, hW⟩
        case o22 =>
          intro gy D wz hDi hdep hclo hW
          exact .inl ⟨rfl, rfl, .inl ⟨gy, wz, fun _ _ => rfl, by kernel_rfl, hW⟩⟩
      rintro gy D w17 hall hH18
      clear hall
      refine XQ.sub (l' := [(0, .func (.yield ll) #[] #[]), (1, vP b3 0), (2, vP b5 0), (3, vP b4 0), (6, vP b6 0), (7, .slice (some ⟨g, o, none⟩) t.length cp), (8, vI (t.length : Int)), (9, vI (i : Int)), (10, .bool true), (35, .bool false)]) ⟨rfl, rfl, rfl, rfl, rfl, rfl, rfl, rfl, rfl, rfl, trivial⟩ ?_
      refine XQ.then ?_
      refine hK16 _ _ _ _ ?_
      refine XC.no rfl ?_
      refine XC.skip ?_
      refine XQ.inNormal ?_
      refine XQ.then ?_
      refine hK10 _ _ _ _ ?_
      refine XC.region ?_
      refine XL.pure (v := vI ((i + 1 : Nat) : Int)) 36 rfl (Nat.le_of_ble_eq_true rfl) rfl rfl (x_add (Z := ((i + 1 : Nat) : Int)) rfl rfl rfl (by omega) (by omega) (by omega)) ?_
      refine XL.pure (v := vI ((i + 1 : Nat) : Int)) 9 rfl (Nat.le_of_ble_eq_true rfl) rfl rfl (by kernel_rfl) ?_
      refine XL.nil ?_
      refine XQ.sub (l' := [(0, .func (.yield ll) #[] #[]), (1, vP b3 0), (2, vP b5 0), (3, vP b4 0), (7, .slice (some ⟨g, o, none⟩) t.length cp), (8, vI (t.length : Int)), (9, vI ((i + 1 : Nat) : Int))]) ⟨rfl, rfl, rfl, rfl, rfl, rfl, rfl, trivial⟩ ?_
      refine XQ.then (hK4 _ _ _ (by omega) ⟨i + 1, rfl, rfl, by omega, by rw [htk]; exact hJ _ _ _ none hJp (grown_hp hH18) (fun r e => by cases e), hRd.below (HP.below hH18), HP.refl _⟩)
    ·
      by_cases hx2 : (lnT t i).tmod s = x.tmod s
      ·
        have hin : inS s x xa.1 = true := by unfold inS; rw [hxa1]; simp [hx1, hx2]
        rw [hin] at htk
        simp only [if_true, Bool.false_eq_true, if_false, List.append_nil] at htk
        have hlen : (osA s x (ta.take i)).length < (osA s x ta).length := by have q9 := (os_pre (s := s) (x := x) (t := ta) (i := i + 1)).length_le; rw [htk] at q9; simp at q9; omega
        refine XC.confH (γ := Bool) [(6, vP b6 0), (12, .agg #[vI (lnT t i), vI (agT t i)]), (11, vP g (o + i * 2)), (10, .bool true), (0, .func (.yield ll) #[] #[]), (1, vP b3 0), (2, vP b5 0), (3, vP b4 0), (7, .slice (some ⟨g, o, none⟩) t.length cp), (8, vI (t.length : Int)), (9, vI (i : Int))] (fun gy => [vP b6 0, vI (lnT t i), vI x, .bool true, .bool true, vP b6 0, vI (lnT t i), vI s, vI ((lnT t i).tmod s), vI x, vI s, vI ((x).tmod s), .bool true, .bool true, .bool true, .func (.yield ll) #[] #[], vP b6 0, vI (lnT t i), vP b6 1, vI (agT t i), .bool gy, .bool (!gy), .bool (!gy)]) (fun gy D wz => (D 20 = false → (HP Tr w5 wz [.cel b6 #[vI (lnT t i), vI (agT t i)] 83] ∧ J (osA s x (ta.take i)) wz)) ∧ (D 20 = true → ((gy = true ∧ J (osA s x (ta.take i) ++ [xa]) wz ∧ Rd n0 wz b3 b4 b5 (some ⟨g, o, none⟩) t cp s x) ∨ (gy = false ∧ Jx (osA s x (ta.take i) ++ [xa]) wz)))) false (by kernel_rfl) ⟨rfl, rfl, rfl, rfl, rfl, rfl, rfl, rfl, rfl, rfl, rfl, trivial⟩ (by kernel_rfl) (by kernel_rfl) (by kernel_rfl) (fun _ => rfl) (by kernel_rfl) ⟨fun _ => ⟨HP.drew hH15, hJ _ _ _ none hJp (grown_hp (HP.drew hH15)) (fun r e => by cases e)⟩, (fun h => by cases h)⟩ ?_ ?_
        · refine AllOkX.cons ?o0 (AllOkX.cons ?o1 (AllOkX.cons ?o2 (AllOkX.cons ?o3 (AllOkX.cons ?o4 (AllOkX.cons ?o5 (AllOkX.cons ?o6 (AllOkX.cons ?o7 (AllOkX.cons ?o8 (AllOkX.cons ?o9 (AllOkX.cons ?o10 (AllOkX.cons ?o11 (AllOkX.cons ?o12 (AllOkX.cons ?o13 (AllOkX.cons ?o14 (AllOkX.cons ?o15 (AllOkX.cons ?o16 (AllOkX.cons ?o17 (AllOkX.cons ?o18 (AllOkX.cons ?o19 (AllOkX.consR ?o20 (AllOkX.cons ?o21 (AllOkX.cons ?o22 (AllOkX.nil _)))))))))))))))))))))))
          case o0 =>
            intro gy D wz hDi hdep hclo hWI
            have d1 : D 1 = false := by
              cases h : D 1 with
              | false => rfl
              | true => exact absurd (hclo 1 _ rfl h ⟨0, .data⟩ (by simp) rfl) (by rw [hDi]; exact Bool.false_ne_true)
            have d3 : D 3 = false := by
              cases h : D 3 with
              | false => rfl
              | true => exact absurd (hclo 3 _ rfl h ⟨1, .data⟩ (by simp) rfl) (by rw [d1]; exact Bool.false_ne_true)
            have d4 : D 4 = false := by
              cases h : D 4 with
              | false => rfl
              | true => exact absurd (hclo 4 _ rfl h ⟨3, .data⟩ (by simp) rfl) (by rw [d3]; exact Bool.false_ne_true)
            have d14 : D 14 = false := by
              cases h : D 14 with
              | false => rfl
              | true => exact absurd (hclo 14 _ rfl h ⟨4, .chain⟩ (by simp) rfl) (by rw [d4]; exact Bool.false_ne_true)
            have d20 : D 20 = false := by
              cases h : D 20 with
              | false => rfl
              | true => exact absurd (hclo 20 _ rfl h ⟨14, .chain⟩ (by simp) rfl) (by rw [d14]; exact Bool.false_ne_true)
            obtain ⟨hW0, hJ9⟩ := hWI.1 d20
            have hW := hW0
            exact .inl ⟨rfl, rfl, .inl ⟨gy, wz, fun _ _ => rfl, x_idxArr (0) (0) rfl rfl rfl Try.underlying83 sz3 (by omega) (by omega) (by omega), hWI⟩⟩
          case o1 =>
            intro gy D wz hDi hdep hclo hWI
            have d3 : D 3 = false := by
              cases h : D 3 with
              | false => rfl
              | true => exact absurd (hclo 3 _ rfl h ⟨1, .data⟩ (by simp) rfl) (by rw [hDi]; exact Bool.false_ne_true)
            have d4 : D 4 = false := by
              cases h : D 4 with
              | false => rfl
              | true => exact absurd (hclo 4 _ rfl h ⟨3, .data⟩ (by simp) rfl) (by rw [d3]; exact Bool.false_ne_true)
            have d14 : D 14 = false := by
              cases h : D 14 with
              | false => rfl
              | true => exact absurd (hclo 14 _ rfl h ⟨4, .chain⟩ (by simp) rfl) (by rw [d4]; exact Bool.false_ne_true)
            have d20 : D 20 = false := by
              cases h : D 20 with
              | false => rfl
              | true => exact absurd (hclo 20 _ rfl h ⟨14, .chain⟩ (by simp) rfl) (by rw [d14]; exact Bool.false_ne_true)
            obtain ⟨hW0, hJ9⟩ := hWI.1 d20
            have hW := hW0
            exact .inl ⟨rfl, rfl, .inl ⟨gy, wz, fun _ _ => rfl, x_load rfl rfl Try.underlying3 rfl (HP.cell hW 0 rfl rfl), hWI⟩⟩
          case o2 =>
            intro gy D wz hDi hdep hclo hWI
            have d3 : D 3 = false := by
              cases h : D 3 with
              | false => rfl
              | true => exact absurd (hclo 3 _ rfl h ⟨2, .data⟩ (by simp) rfl) (by rw [hDi]; exact Bool.false_ne_true)
            have d4 : D 4 = false := by
              cases h : D 4 with
              | false => rfl
              | true => exact absurd (hclo 4 _ rfl h ⟨3, .data⟩ (by simp) rfl) (by rw [d3]; exact Bool.false_ne_true)
            have d14 : D 14 = false := by
              cases h : D 14 with
              | false => rfl
              | true => exact absurd (hclo 14 _ rfl h ⟨4, .chain⟩ (by simp) rfl) (by rw [d4]; exact Bool.false_ne_true)
            have d20 : D 20 = false := by
              cases h : D 20 with
              | false => rfl
              | true => exact absurd (hclo 20 _ rfl h ⟨14, .chain⟩ (by simp) rfl) (by rw [d14]; exact Bool.false_ne_true)
            obtain ⟨hW0, hJ9⟩ := hWI.1 d20
            have hW := hW0
            exact .inl ⟨rfl, rfl, .inl ⟨gy, wz, fun _ _ => rfl, x_load rfl rfl Try.underlying3 rfl (HP.old hW trivial hcells.2.2), hWI⟩⟩
          case o3 =>
            intro gy D wz hDi hdep hclo hWI
            have d4 : D 4 = false := by
              cases h : D 4 with
              | false => rfl
              | true => exact absurd (hclo 4 _ rfl h ⟨3, .data⟩ (by simp) rfl) (by rw [hDi]; exact Bool.false_ne_true)
            have d14 : D 14 = false := by
              cases h : D 14 with
              | false => rfl
              | true => exact absurd (hclo 14 _ rfl h ⟨4, .chain⟩ (by simp) rfl) (by rw [d4]; exact Bool.false_ne_true)
            have d20 : D 20 = false := by
              cases h : D 20 with
              | false => rfl
              | true => exact absurd (hclo 20 _ rfl h ⟨14, .chain⟩ (by simp) rfl) (by rw [d14]; exact Bool.false_ne_true)
            obtain ⟨hW0, hJ9⟩ := hWI.1 d20
            have hW := hW0
            exact .inl ⟨rfl, rfl, .inl ⟨gy, wz, fun _ _ => rfl, x_neq rfl rfl rfl (dT (hx1)), hWI⟩⟩
          case o4 =>
            intro gy D wz hDi hdep hclo hWI
            have d14 : D 14 = false := by
              cases h : D 14 with
              | false => rfl
              | true => exact absurd (hclo 14 _ rfl h ⟨4, .chain⟩ (by simp) rfl) (by rw [hDi]; exact Bool.false_ne_true)
            have d20 : D 20 = false := by
              cases h : D 20 with
              | false => rfl
              | true => exact absurd (hclo 20 _ rfl h ⟨14, .chain⟩ (by simp) rfl) (by rw [d14]; exact Bool.false_ne_true)
            obtain ⟨hW0, hJ9⟩ := hWI.1 d20
            have hW := hW0
            exact .inl ⟨rfl, rfl, .inl ⟨gy, wz, fun _ _ => rfl, by kernel_rfl, hWI⟩⟩
          case o5 =>
            intro gy D wz hDi hdep hclo hWI
            have d6 : D 6 = false := by
              cases h : D 6 with
              | false => rfl
              | true => exact absurd (hclo 6 _ rfl h ⟨5, .data⟩ (by simp) rfl) (by rw [hDi]; exact Bool.false_ne_true)
            have d8 : D 8 = false := by
              cases h : D 8 with
              | false => rfl
              | true => exact absurd (hclo 8 _ rfl h ⟨6, .data⟩ (by simp) rfl) (by rw [d6]; exact Bool.false_ne_true)
            have d12 : D 12 = false := by
              cases h : D 12 with
              | false => rfl
              | true => exact absurd (hclo 12 _ rfl h ⟨8, .data⟩ (by simp) rfl) (by rw [d8]; exact Bool.false_ne_true)
            have d13 : D 13 = false := by
              cases h : D 13 with
              | false => rfl
              | true => exact absurd (hclo 13 _ rfl h ⟨12, .data⟩ (by simp) rfl) (by rw [d12]; exact Bool.false_ne_true)
            have d14 : D 14 = false := by
              cases h : D 14 with
              | false => rfl
              | true => exact absurd (hclo 14 _ rfl h ⟨13, .data⟩ (by simp) rfl) (by rw [d13]; exact Bool.false_ne_true)
            have d20 : D 20 = false := by
              cases h : D 20 with
              | false => rfl
              | true => exact absurd (hclo 20 _ rfl h ⟨14, .chain⟩ (by simp) rfl) (by rw [d14]; exact Bool.false_ne_true)
            obtain ⟨hW0, hJ9⟩ := hWI.1 d20
            have hW := hW0
            exact .inl ⟨rfl, rfl, .inl ⟨gy, wz, fun _ _ => rfl, x_idxArr (0) (0) rfl rfl rfl Try.underlying83 sz3 (by omega) (by omega) (by omega), hWI⟩⟩
          case o6 =>
            intro gy D wz hDi hdep hclo hWI
            have d8 : D 8 = false := by
              cases h : D 8 with
              | false => rfl
              | true => exact absurd (hclo 8 _ rfl h ⟨6, .data⟩ (by simp) rfl) (by rw [hDi]; exact Bool.false_ne_true)
            have d12 : D 12 = false := by
              cases h : D 12 with
              | false => rfl
              | true => exact absurd (hclo 12 _ rfl h ⟨8, .data⟩ (by simp) rfl) (by rw [d8]; exact Bool.false_ne_true)
            have d13 : D 13 = false := by
              cases h : D 13 with
              | false => rfl
              | true => exact absurd (hclo 13 _ rfl h ⟨12, .data⟩ (by simp) rfl) (by rw [d12]; exact Bool.false_ne_true)
            have d14 : D 14 = false := by
              cases h : D 14 with
              | false => rfl
              | true => exact absurd (hclo 14 _ rfl h ⟨13, .data⟩ (by simp) rfl) (by rw [d13]; exact Bool.false_ne_true)
            have d20 : D 20 = false := by
              cases h : D 20 with
              | false => rfl
              | true => exact absurd (hclo 20 _ rfl h ⟨14, .chain⟩ (by simp) rfl) (by rw [d14]; exact Bool.false_ne_true)
            obtain ⟨hW0, hJ9⟩ := hWI.1 d20
            have hW := hW0
            exact .inl ⟨rfl, rfl, .inl ⟨gy, wz, fun _ _ => rfl, x_load rfl rfl Try.underlying3 rfl (HP.cell hW 0 rfl rfl), hWI⟩⟩
          case o7 =>
            intro gy D wz hDi hdep hclo hWI
            have d8 : D 8 = false := by
              cases h : D 8 with
              | false => rfl
              | true => exact absurd (hclo 8 _ rfl h ⟨7, .data⟩ (by simp) rfl) (by rw [hDi]; exact Bool.false_ne_true)
            have d12 : D 12 = false := by
              cases h : D 12 with
              | false => rfl
              | true => exact absurd (hclo 12 _ rfl h ⟨8, .data⟩ (by simp) rfl) (by rw [d8]; exact Bool.false_ne_true)
            have d13 : D 13 = false := by
              cases h : D 13 with
              | false => rfl
              | true => exact absurd (hclo 13 _ rfl h ⟨12, .data⟩ (by simp) rfl) (by rw [d12]; exact Bool.false_ne_true)
            have d14 : D 14 = false := by
              cases h : D 14 with
              | false => rfl
              | true => exact absurd (hclo 14 _ rfl h ⟨13, .data⟩ (by simp) rfl) (by rw [d13]; exact Bool.false_ne_true)
            have d20 : D 20 = false := by
              cases h : D 20 with
              | false => rfl
              | true => exact absurd (hclo 20 _ rfl h ⟨14, .chain⟩ (by simp) rfl) (by rw [d14]; exact Bool.false_ne_true)
            obtain ⟨hW0, hJ9⟩ := hWI.1 d20
            have hW := hW0
            exact .inl ⟨rfl, rfl, .inl ⟨gy, wz, fun _ _ => rfl, x_load rfl rfl Try.underlying3 rfl (HP.old hW trivial hcells.2.1), hWI⟩⟩
          case o8 =>
            intro gy D wz hDi hdep hclo hWI
            have d12 : D 12 = false := by
              cases h : D 12 with
              | false => rfl
              | true => exact absurd (hclo 12 _ rfl h ⟨8, .data⟩ (by simp) rfl) (by rw [hDi]; exact Bool.false_ne_true)
            have d13 : D 13 = false := by
              cases h : D 13 with
              | false => rfl
              | true => exact absurd (hclo 13 _ rfl h ⟨12, .data⟩ (by simp) rfl) (by rw [d12]; exact Bool.false_ne_true)
            have d14 : D 14 = false := by
              cases h : D 14 with
              | false => rfl
              | true => exact absurd (hclo 14 _ rfl h ⟨13, .data⟩ (by simp) rfl) (by rw [d13]; exact Bool.false_ne_true)
            have d20 : D 20 = false := by
              cases h : D 20 with
              | false => rfl
              | true => exact absurd (hclo 20 _ rfl h ⟨14, .chain⟩ (by simp) rfl) (by rw [d14]; exact Bool.false_ne_true)
            obtain ⟨hW0, hJ9⟩ := hWI.1 d20
            have hW := hW0
            exact .inl ⟨rfl, rfl, .inl ⟨gy, wz, fun _ _ => rfl, x_rem rfl rfl rfl hs0 rfl, hWI⟩⟩
          case o9 =>
            intro gy D wz hDi hdep hclo hWI
            have d11 : D 11 = false := by
              cases h : D 11 with
              | false => rfl
              | true => exact absurd (hclo 11 _ rfl h ⟨9, .data⟩ (by simp) rfl) (by rw [hDi]; exact Bool.false_ne_true)
            have d12 : D 12 = false := by
              cases h : D 12 with
              | false => rfl
              | true => exact absurd (hclo 12 _ rfl h ⟨11, .data⟩ (by simp) rfl) (by rw [d11]; exact Bool.false_ne_true)
            have d13 : D 13 = false := by
              cases h : D 13 with
              | false => rfl
              | true => exact absurd (hclo 13 _ rfl h ⟨12, .data⟩ (by simp) rfl) (by rw [d12]; exact Bool.false_ne_true)
            have d14 : D 14 = false := by
              cases h : D 14 with
              | false => rfl
              | true => exact absurd (hclo 14 _ rfl h ⟨13, .data⟩ (by simp) rfl) (by rw [d13]; exact Bool.false_ne_true)
            have d20 : D 20 = false := by
              cases h : D 20 with
              | false => rfl
              | true => exact absurd (hclo 20 _ rfl h ⟨14, .chain⟩ (by simp) rfl) (by rw [d14]; exact Bool.false_ne_true)
            obtain ⟨hW0, hJ9⟩ := hWI.1 d20
            have hW := hW0
            exact .inl ⟨rfl, rfl, .inl ⟨gy, wz, fun _ _ => rfl, x_load rfl rfl Try.underlying3 rfl (HP.old hW trivial hcells.2.2), hWI⟩⟩
          case o10 =>
            intro gy D wz hDi hdep hclo hWI
            have d11 : D 11 = false := by
              cases h : D 11 with
              | false => rfl
              | true => exact absurd (hclo 11 _ rfl h ⟨10, .data⟩ (by simp) rfl) (by rw [hDi]; exact Bool.false_ne_true)
            have d12 : D 12 = false := by
              cases h : D 12 with
              | false => rfl
              | true => exact absurd (hclo 12 _ rfl h ⟨11, .data⟩ (by simp) rfl) (by rw [d11]; exact Bool.false_ne_true)
            have d13 : D 13 = false := by
              cases h : D 13 with
              | false => rfl
              | true => exact absurd (hclo 13 _ rfl h ⟨12, .data⟩ (by simp) rfl) (by rw [d12]; exact Bool.false_ne_true)
            have d14 : D 14 = false := by
              cases h : D 14 with
              | false => rfl
              | true => exact absurd (hclo 14 _ rfl h ⟨13, .data⟩ (by simp) rfl) (by rw [d13]; exact Bool.false_ne_true)
            have d20 : D 20 = false := by
              cases h : D 20 with
              | false => rfl
              | true => exact absurd (hclo 20 _ rfl h ⟨14, .chain⟩ (by simp) rfl) (by rw [d14]; exact Bool.false_ne_true)
            obtain ⟨hW0, hJ9⟩ := hWI.1 d20
            have hW := hW0
            exact .inl ⟨rfl, rfl, .inl ⟨gy, wz, fun _ _ => rfl, x_load rfl rfl Try.underlying3 rfl (HP.old hW trivial hcells.2.1), hWI⟩⟩
          case o11 =>
            intro gy D wz hDi hdep hclo hWI
            have d12 : D 12 = false := by
              cases h : D 12 with
              | false => rfl
              | true => exact absurd (hclo 12 _ rfl h ⟨11, .data⟩ (by simp) rfl) (by rw [hDi]; exact Bool.false_ne_true)
            have d13 : D 13 = false := by
              cases h : D 13 with
              | false => rfl
              | true => exact absurd (hclo 13 _ rfl h ⟨12, .data⟩ (by simp) rfl) (by rw [d12]; exact Bool.false_ne_true)
            have d14 : D 14 = false := by
              cases h : D 14 with
              | false => rfl
              | true => exact absurd (hclo 14 _ rfl h ⟨13, .data⟩ (by simp) rfl) (by rw [d13]; exact Bool.false_ne_true)
            have d20 : D 20 = false := by
              cases h : D 20 with
              | false => rfl
              | true => exact absurd (hclo 20 _ rfl h ⟨14, .chain⟩ (by simp) rfl) (by rw [d14]; exact Bool.false_ne_true)
            obtain ⟨hW0, hJ9⟩ := hWI.1 d20
            have hW := hW0
            exact .inl ⟨rfl, rfl, .inl ⟨gy, wz, fun _ _ => rfl, x_rem rfl rfl rfl hs0 rfl, hWI⟩⟩
          case o12 =>
            intro gy D wz hDi hdep hclo hWI
            have d13 : D 13 = false := by
              cases h : D 13 with
              | false => rfl
              | true => exact absurd (hclo 13 _ rfl h ⟨12, .data⟩ (by simp) rfl) (by rw [hDi]; exact Bool.false_ne_true)
            have d14 : D 14 = false := by
              cases h : D 14 with
              | false => rfl
              | true => exact absurd (hclo 14 _ rfl h ⟨13, .data⟩ (by simp) rfl) (by rw [d13]; exact Bool.false_ne_true)
            have d20 : D 20 = false := by
              cases h : D 20 with
              | false => rfl
              | true => exact absurd (hclo 20 _ rfl h ⟨14, .chain⟩ (by simp) rfl) (by rw [d14]; exact Bool.false_ne_true)
            obtain ⟨hW0, hJ9⟩ := hWI.1 d20
            have hW := hW0
            exact .inl ⟨rfl, rfl, .inl ⟨gy, wz, fun _ _ => rfl, x_eql rfl rfl rfl (dT (hx2)), hWI⟩⟩
          case o13 =>
            intro gy D wz hDi hdep hclo hWI
            have d14 : D 14 = false := by
              cases h : D 14 with
              | false => rfl
              | true => exact absurd (hclo 14 _ rfl h ⟨13, .data⟩ (by simp) rfl) (by rw [hDi]; exact Bool.false_ne_true)
            have d20 : D 20 = false := by
              cases h : D 20 with
              | false => rfl
              | true => exact absurd (hclo 20 _ rfl h ⟨14, .chain⟩ (by simp) rfl) (by rw [d14]; exact Bool.false_ne_true)
            obtain ⟨hW0, hJ9⟩ := hWI.1 d20
            have hW := hW0
            exact .inl ⟨rfl, rfl, .inl ⟨gy, wz, fun _ _ => rfl, by kernel_rfl, hWI⟩⟩
          case o14 =>
            intro gy D wz hDi hdep hclo hWI
            have d20 : D 20 = false := by
              cases h : D 20 with
              | false => rfl
              | true => exact absurd (hclo 20 _ rfl h ⟨14, .chain⟩ (by simp) rfl) (by rw [hDi]; exact Bool.false_ne_true)
            obtain ⟨hW0, hJ9⟩ := hWI.1 d20
            have hW := hW0
            exact .inl ⟨rfl, rfl, .inl ⟨gy, wz, fun _ _ => rfl, by kernel_rfl, hWI⟩⟩
          case o15 =>
            intro gy D wz hDi hdep hclo hWI
            have d20 : D 20 = false := by
              cases h : D 20 with
              | false => rfl
              | true => exact absurd (hclo 20 _ rfl h ⟨15, .data⟩ (by simp) rfl) (by rw [hDi]; exact Bool.false_ne_true)
            obtain ⟨hW0, hJ9⟩ := hWI.1 d20
            have hW := hW0
            exact .inl ⟨rfl, rfl, .inl ⟨gy, wz, fun _ _ => rfl, by kernel_rfl, hWI⟩⟩
          case o16 =>
            intro gy D wz hDi hdep hclo hWI
            have d17 : D 17 = false := by
              cases h : D 17 with
              | false => rfl
              | true => exact absurd (hclo 17 _ rfl h ⟨16, .data⟩ (by simp) rfl) (by rw [hDi]; exact Bool.false_ne_true)
            have d20 : D 20 = false := by
              cases h : D 20 with
              | false => rfl
              | true => exact absurd (hclo 20 _ rfl h ⟨17, .data⟩ (by simp) rfl) (by rw [d17]; exact Bool.false_ne_true)
            obtain ⟨hW0, hJ9⟩ := hWI.1 d20
            have hW := hW0
            exact .inl ⟨rfl, rfl, .inl ⟨gy, wz, fun _ _ => rfl, x_idxArr (0) (0) rfl rfl rfl Try.underlying83 sz3 (by omega) (by omega) (by omega), hWI⟩⟩
          case o17 =>
            intro gy D wz hDi hdep hclo hWI
            have d20 : D 20 = false := by
              cases h : D 20 with
              | false => rfl
              | true => exact absurd (hclo 20 _ rfl h ⟨17, .data⟩ (by simp) rfl) (by rw [hDi]; exact Bool.false_ne_true)
            obtain ⟨hW0, hJ9⟩ := hWI.1 d20
            have hW := hW0
            exact .inl ⟨rfl, rfl, .inl ⟨gy, wz, fun _ _ => rfl, x_load rfl rfl Try.underlying3 rfl (HP.cell hW 0 rfl rfl), hWI⟩⟩
          case o18 =>
            intro gy D wz hDi hdep hclo hWI
            have d19 : D 19 = false := by
              cases h : D 19 with
              | false => rfl
              | true => exact absurd (hclo 19 _ rfl h ⟨18, .data⟩ (by simp) rfl) (by rw [hDi]; exact Bool.false_ne_true)
            have d20 : D 20 = false := by
              cases h : D 20 with
              | false => rfl
              | true => exact absurd (hclo 20 _ rfl h ⟨19, .data⟩ (by simp) rfl) (by rw [d19]; exact Bool.false_ne_true)
            obtain ⟨hW0, hJ9⟩ := hWI.1 d20
            have hW := hW0
            exact .inl ⟨rfl, rfl, .inl ⟨gy, wz, fun _ _ => rfl, x_idxArr (1) (1) rfl rfl rfl Try.underlying83 sz3 (by omega) (by omega) (by omega), hWI⟩⟩
          case o19 =>
            intro gy D wz hDi hdep hclo hWI
            have d20 : D 20 = false := by
              cases h : D 20 with
              | false => rfl
              | true => exact absurd (hclo 20 _ rfl h ⟨19, .data⟩ (by simp) rfl) (by rw [hDi]; exact Bool.false_ne_true)
            obtain ⟨hW0, hJ9⟩ := hWI.1 d20
            have hW := hW0
            exact .inl ⟨rfl, rfl, .inl ⟨gy, wz, fun _ _ => rfl, x_load rfl rfl Try.underlying3 rfl (HP.cell hW 0 rfl rfl), hWI⟩⟩
          case o20 =>
            intro gy D wz hDi hdep hclo hWI
            obtain ⟨hW, hJ9⟩ := hWI.1 hDi
            have hYx := hY _ xa wz hJ9 hlen
            simp only [hxa1, hxa2] at hYx
            obtain ⟨fn, tmps, assign, body, hy, hR⟩ := hYx
            have hrd9 := hRd.below (HP.below hW)
            refine ⟨rfl, rfl, ll, fn, tmps, assign, body, yield_op hy rfl, hR.mono ?_⟩
            have d21 : D 21 = false := by
              cases h : D 21 with
              | false => rfl
              | true => exact absurd (hclo 21 _ rfl h ⟨20, .data⟩ (by simp) rfl) (by rw [hDi]; exact Bool.false_ne_true)
            have d21 : D 21 = false := by
              cases h : D 21 with
              | false => rfl
              | true => exact absurd (hclo 21 _ rfl h ⟨20, .data⟩ (by simp) rfl) (by rw [hDi]; exact Bool.false_ne_true)
            have d22 : D 22 = false := by
              cases h : D 22 with
              | false => rfl
              | true => exact absurd (hclo 22 _ rfl h ⟨21, .data⟩ (by simp) rfl) (by rw [d21]; exact Bool.false_ne_true)
            rintro e W' (⟨rfl, hJ', hk⟩ | ⟨rfl, hJx'⟩)
            · refine ⟨true, fun j hj => ?_, rfl, ⟨(fun h => Bool.noConfusion (show true = false from h)), fun _ => .inl ⟨rfl, hJ', hrd9.keep hk⟩⟩⟩
              match j, hj with
              | 0, hj => rfl
              | 1, hj => rfl
              | 2, hj => rfl
              | 3, hj => rfl
              | 4, hj => rfl
              | 5, hj => rfl
              | 6, hj => rfl
              | 7, hj => rfl
              | 8, hj => rfl
              | 9, hj => rfl
              | 10, hj => rfl
              | 11, hj => rfl
              | 12, hj => rfl
              | 13, hj => rfl
              | 14, hj => rfl
              | 15, hj => rfl
              | 16, hj => rfl
              | 17, hj => rfl
              | 18, hj => rfl
              | 19, hj => rfl
              | 20, hj => rw [hDi] at hj; cases hj
              | 21, hj => exact absurd hj (by rw [d21]; exact Bool.false_ne_true)
              | 22, hj => exact absurd hj (by rw [d22]; exact Bool.false_ne_true)
              | j + 23, _ => rfl
            · refine ⟨false, fun j hj => ?_, rfl, ⟨(fun h => Bool.noConfusion (show true = false from h)), fun _ => .inr ⟨rfl, hJx'⟩⟩⟩
              match j, hj with
              | 0, hj => rfl
              | 1, hj => rfl
              | 2, hj => rfl
              | 3, hj => rfl
              | 4, hj => rfl
              | 5, hj => rfl
              | 6, hj => rfl
              | 7, hj => rfl
              | 8, hj => rfl
              | 9, hj => rfl
              | 10, hj => rfl
              | 11, hj => rfl
              | 12, hj => rfl
              | 13, hj => rfl
              | 14, hj => rfl
              | 15, hj => rfl
              | 16, hj => rfl
              | 17, hj => rfl
              | 18, hj => rfl
              | 19, hj => rfl
              | 20, hj => rw [hDi] at hj; cases hj
              | 21, hj => exact absurd hj (by rw [d21]; exact Bool.false_ne_true)
              | 22, hj => exact absurd hj (by rw [d22]; exact Bool.false_ne_true)
              | j + 23, _ => rfl
          case o21 =>
            intro gy D wz hDi hdep hclo hWI
            exact .inl ⟨rfl, rfl, .inl ⟨gy, wz, fun _ _ => rfl, by kernel_rfl, hWI⟩⟩
          case o22 =>
            intro gy D wz hDi hdep hclo hWI
            exact .inl ⟨rfl, rfl, .inl ⟨gy, wz, fun _ _ => rfl, by kernel_rfl, hWI⟩⟩
        rintro gy D w19 hall hWI
        have hpost := hWI.2 (hall 20 (by kernel_rfl))
        clear hall hWI
        skip
        refine XQ.sub (l' := [(0, .func (.yield ll) #[] #[]), (1, vP b3 0), (2, vP b5 0), (3, vP b4 0), (6, vP b6 0), (7, .slice (some ⟨g, o, none⟩) t.length cp), (8, vI (t.length : Int)), (9, vI (i : Int)), (10, .bool true), (35, .bool (!gy))]) ⟨rfl, rfl, rfl, rfl, rfl, rfl, rfl, rfl, rfl, rfl, trivial⟩ ?_
        rcases hpost with ⟨rfl, hJ', hRd'⟩ | ⟨rfl, hJx'⟩
        ·
          refine XQ.then ?_
          refine hK16 _ _ _ _ ?_
          refine XC.no rfl ?_
          refine XC.skip ?_
          refine XQ.inNormal ?_
          refine XQ.then ?_
          refine hK10 _ _ _ _ ?_
          refine XC.region ?_
          refine XL.pure (v := vI ((i + 1 : Nat) : Int)) 36 rfl (Nat.le_of_ble_eq_true rfl) rfl rfl (x_add (Z := ((i + 1 : Nat) : Int)) rfl rfl rfl (by omega) (by omega) (by omega)) ?_
          refine XL.pure (v := vI ((i + 1 : Nat) : Int)) 9 rfl (Nat.le_of_ble_eq_true rfl) rfl rfl (by kernel_rfl) ?_
          refine XL.nil ?_
          refine XQ.sub (l' := [(0, .func (.yield ll) #[] #[]), (1, vP b3 0), (2, vP b5 0), (3, vP b4 0), (7, .slice (some ⟨g, o, none⟩) t.length cp), (8, vI (t.length : Int)), (9, vI ((i + 1 : Nat) : Int))]) ⟨rfl, rfl, rfl, rfl, rfl, rfl, rfl, trivial⟩ ?_
          refine XQ.then (hK4 _ _ _ (by omega) ⟨i + 1, rfl, rfl, by omega, by rw [htk]; exact hJ', hRd', HP.refl _⟩)
        ·
          refine XQ.then ?_
          refine hK16 _ _ _ _ ?_
          refine XC.yes rfl ?_
          refine XC.ret ?_
          refine XQ.inRet ?_
          refine XQ.thenRet ?_
          refine XQ.thenRet ?_
          refine XQ.inRet ?_
          refine XQ.ret0B rfl ?_
          exact ⟨⟨_, rfl⟩, .inr ⟨_, (by have q9 := os_pre (s := s) (x := x) (t := ta) (i := i + 1); rw [htk] at q9; exact q9), hJx'⟩⟩
      ·
        have hin : inS s x xa.1 = false := by unfold inS; rw [hxa1]; simp [hx1, hx2]
        rw [hin] at htk
        simp only [if_true, Bool.false_eq_true, if_false, List.append_nil] at htk
        refine XC.confH (γ := Unit) [(6, vP b6 0), (12, .agg #[vI (lnT t i), vI (agT t i)]), (11, vP g (o + i * 2)), (10, .bool true), (0, .func (.yield ll) #[] #[]), (1, vP b3 0), (2, vP b5 0), (3, vP b4 0), (7, .slice (some ⟨g, o, none⟩) t.length cp), (8, vI (t.length : Int)), (9, vI (i : Int))] (fun gy => [vP b6 0, vI (lnT t i), vI x, .bool true, .bool true, vP b6 0, vI (lnT t i), vI s, vI ((lnT t i).tmod s), vI x, vI s, vI ((x).tmod s), .bool false, .bool false, .bool false, undef, undef, undef, undef, undef, undef, undef, .bool false]) (fun gy D wz => HP Tr w5 wz [.cel b6 #[vI (lnT t i), vI (agT t i)] 83]) () (by kernel_rfl) ⟨rfl, rfl, rfl, rfl, rfl, rfl, rfl, rfl, rfl, rfl, rfl, trivial⟩ (by kernel_rfl) (by kernel_rfl) (by kernel_rfl) (fun _ => rfl) (by kernel_rfl) (HP.drew hH15) ?_ ?_
        · refine AllOkX.cons ?o0 (AllOkX.cons ?o1 (AllOkX.cons ?o2 (AllOkX.cons ?o3 (AllOkX.cons ?o4 (AllOkX.cons ?o5 (AllOkX.cons ?o6 (AllOkX.cons ?o7 (AllOkX.cons ?o8 (AllOkX.cons ?o9 (AllOkX.cons ?o10 (AllOkX.cons ?o11 (AllOkX.cons ?o12 (AllOkX.cons ?o13 (AllOkX.cons ?o14 (AllOkX.cons ?o15 (AllOkX.cons ?o16 (AllOkX.cons ?o17 (AllOkX.cons ?o18 (AllOkX.cons ?o19 (AllOkX.cons ?o20 (AllOkX.cons ?o21 (AllOkX.cons ?o22 (AllOkX.nil _)))))))))))))))))))))))
          case o0 =>
            intro gy D wz hDi hdep hclo hW
            exact .inl ⟨rfl, rfl, .inl ⟨gy, wz, fun _ _ => rfl, x_idxArr (0) (0) rfl rfl rfl Try.underlying83 sz3 (by omega) (by omega) (by omega), hW⟩⟩
          case o1 =>
            intro gy D wz hDi hdep hclo hW
            exact .inl ⟨rfl, rfl, .inl ⟨gy, wz, fun _ _ => rfl, x_load rfl rfl Try.underlying3 rfl (HP.cell hW 0 rfl rfl), hW⟩⟩
          case o2 =>
            intro gy D wz hDi hdep hclo hW
            exact .inl ⟨rfl, rfl, .inl ⟨gy, wz, fun _ _ => rfl, x_load rfl rfl Try.underlying3 rfl (HP.old hW trivial hcells.2.2), hW⟩⟩
          case o3 =>
            intro gy D wz hDi hdep hclo hW
            exact .inl ⟨rfl, rfl, .inl ⟨gy, wz, fun _ _ => rfl, x_neq rfl rfl rfl (dT (hx1)), hW⟩⟩
          case o4 =>
            intro gy D wz hDi hdep hclo hW
            exact .inl ⟨rfl, rfl, .inl ⟨gy, wz, fun _ _ => rfl, by kernel_rfl, hW⟩⟩
          case o5 =>
            intro gy D wz hDi hdep hclo hW
            exact .inl ⟨rfl, rfl, .inl ⟨gy, wz, fun _ _ => rfl, x_idxArr (0) (0) rfl rfl rfl Try.underlying83 sz3 (by omega) (by omega) (by omega), hW⟩⟩
          case o6 =>
            intro gy D wz hDi hdep hclo hW
            exact .inl ⟨rfl, rfl, .inl ⟨gy, wz, fun _ _ => rfl, x_load rfl rfl Try.underlying3 rfl (HP.cell hW 0 rfl rfl), hW⟩⟩
          case o7 =>
            intro gy D wz hDi hdep hclo hW
            exact .inl ⟨rfl, rfl, .inl ⟨gy, wz, fun _ _ => rfl, x_load rfl rfl Try.underlying3 rfl (HP.old hW trivial hcells.2.1), hW⟩⟩
          case o8 =>
            intro gy D wz hDi hdep hclo hW
            exact .inl ⟨rfl, rfl, .inl ⟨gy, wz, fun _ _ => rfl, x_rem rfl rfl rfl hs0 rfl, hW⟩⟩
          case o9 =>
            intro gy D wz hDi hdep hclo hW
            exact .inl ⟨rfl, rfl, .inl ⟨gy, wz, fun _ _ => rfl, x_load rfl rfl Try.underlying3 rfl (HP.old hW trivial hcells.2.2), hW⟩⟩
          case o10 =>
            intro gy D wz hDi hdep hclo hW
            exact .inl ⟨rfl, rfl, .inl ⟨gy, wz, fun _ _ => rfl, x_load rfl rfl Try.underlying3 rfl (HP.old hW trivial hcells.2.1), hW⟩⟩
          case o11 =>
            intro gy D wz hDi hdep hclo hW
            exact .inl ⟨rfl, rfl, .inl ⟨gy, wz, fun _ _ => rfl, x_rem rfl rfl rfl hs0 rfl, hW⟩⟩
          case o12 =>
            intro gy D wz hDi hdep hclo hW
            exact .inl ⟨rfl, rfl, .inl ⟨gy, wz, fun _ _ => rfl, x_eql rfl rfl rfl (dF (hx2)), hW⟩⟩
          case o13 =>
            intro gy D wz hDi hdep hclo hW
            exact .inl ⟨rfl, rfl, .inl ⟨gy, wz, fun _ _ => rfl, by kernel_rfl, hW⟩⟩
          case o14 =>
            intro gy D wz hDi hdep hclo hW
            exact .inl ⟨rfl, rfl, .inl ⟨gy, wz, fun _ _ => rfl, by kernel_rfl, hW⟩⟩
          case o15 =>
            intro gy D wz hDi hdep hclo hW
            exact .inr ⟨rfl, rfl, hW⟩
          case o16 =>
            intro gy D wz hDi hdep hclo hW
            exact .inr ⟨rfl, rfl, hW⟩
          case o17 =>
            intro gy D wz hDi hdep hclo hW
            exact .inr ⟨rfl, rfl, hW⟩
          case o18 =>
            intro gy D wz hDi hdep hclo hW
            exact .inr ⟨rfl, rfl, hW⟩
          case o19 =>
            intro gy D wz hDi hdep hclo hW
            exact .inr ⟨rfl, rfl, hW⟩
          case o20 =>
            intro gy D wz hDi hdep hclo hW
            exact .inr ⟨rfl, rfl, hW⟩
          case o21 =>
            intro gy D wz hDi hdep hclo hW
            exact .inr ⟨rfl, rfl, hW⟩
          case o22 =>
            intro gy D wz hDi hdep hclo hW
            exact .inl ⟨rfl, rfl, .inl ⟨gy, wz, fun _ _ => rfl, by kernel_rfl, hW⟩⟩
        rintro gy D w20 hall hH21
        clear hall
        refine XQ.sub (l' := [(0, .func (.yield ll) #[] #[]), (1, vP b3 0), (2, vP b5 0), (3, vP b4 0), (6, vP b6 0), (7, .slice (some ⟨g, o, none⟩) t.length cp), (8, vI (t.length : Int)), (9, vI (i : Int)), (10, .bool true), (35, .bool false)]) ⟨rfl, rfl, rfl, rfl, rfl, rfl, rfl, rfl, rfl, rfl, trivial⟩ ?_
        refine XQ.then ?_
        refine hK16 _ _ _ _ ?_
        refine XC.no rfl ?_
        refine XC.skip ?_
        refine XQ.inNormal ?_
        refine XQ.then ?_
        refine hK10 _ _ _ _ ?_
        refine XC.region ?_
        refine XL.pure (v := vI ((i + 1 : Nat) : Int)) 36 rfl (Nat.le_of_ble_eq_true rfl) rfl rfl (x_add (Z := ((i + 1 : Nat) : Int)) rfl rfl rfl (by omega) (by omega) (by omega)) ?_
        refine XL.pure (v := vI ((i + 1 : Nat) : Int)) 9 rfl (Nat.le_of_ble_eq_true rfl) rfl rfl (by kernel_rfl) ?_
        refine XL.nil ?_
        refine XQ.sub (l' := [(0, .func (.yield ll) #[] #[]), (1, vP b3 0), (2, vP b5 0), (3, vP b4 0), (7, .slice (some ⟨g, o, none⟩) t.length cp), (8, vI (t.length : Int)), (9, vI ((i + 1 : Nat) : Int))]) ⟨rfl, rfl, rfl, rfl, rfl, rfl, rfl, trivial⟩ ?_
        refine XQ.then (hK4 _ _ _ (by omega) ⟨i + 1, rfl, rfl, by omega, by rw [htk]; exact hJ _ _ _ none hJp (grown_hp hH21) (fun r e => by cases e), hRd.below (HP.below hH21), HP.refl _⟩)
  ·
    refine XL.pure (v := .bool false) 10 rfl (Nat.le_of_ble_eq_true rfl) rfl rfl (x_lss rfl rfl rfl (dF (hlt))) ?_
    refine XL.nil ?_
    refine XQ.then ?_
    refine hK8 _ _ _ _ ?_
    refine XC.seq fun K22 hK22 => ?_
    refine XC.no rfl ?_
    refine XC.exit ?_
    refine XQ.thenExit ?_
    refine XQ.thenExit ?_
    refine XQ.inExit ?_
    refine XQ.end0B rfl ?_
    exact ⟨⟨_, rfl⟩, .inl ⟨_, rfl, by rw [List.take_of_length_le (show ta.length ≤ i by omega)] at hJp; exact hJp⟩⟩
end Ca
end Go.Proofs.Ytmjnakhpekbenaa
namespace Go.Proofs
open Go.Shelf
def Try.lays125_ren : Go.Shelf.Ren := ⟨fun | 125 => 113 | 128 => 128 | 129 => 129 | n => n, fun | 46 => 139 | 3 => 3 | 51 => 150 | 53 => 152 | 4 => 4 | 5 => 5 | 9 => 9 | n => n, fun | n => n⟩
theorem Try.lays125 : Go.Proofs.Lays.n125 Try.prog Try.lays125_ren := {
  mixed := by kernel_rfl
  f125 := Try.func113.trans (congrArg some (by kernel_rfl))
  f128 := Try.func128.trans (congrArg some (by kernel_rfl))
  f129 := Try.func129.trans (congrArg some (by kernel_rfl))
  t3 := Try.underlying3
  a3 := Try.isAgg3
  z3 := Try.sizeOf3
  v3 := Try.zeroValue3
  t4 := Try.underlying4
  a4 := Try.isAgg4
  z4 := Try.sizeOf4
  v4 := Try.zeroValue4
  t5 := Try.underlying5
  a5 := Try.isAgg5
  z5 := Try.sizeOf5
  v5 := Try.zeroValue5
  t9 := Try.underlying9
  a9 := Try.isAgg9
  z9 := Try.sizeOf9
  v9 := Try.zeroValue9
  t46 := Try.underlying139
  a46 := Try.isAgg139
  z46 := Try.sizeOf139
  v46 := Try.zeroValue139
  t51 := Try.underlying150
  a51 := Try.isAgg150
  z51 := Try.sizeOf150
  v51 := Try.zeroValue150
  t53 := Try.underlying152
  a53 := Try.isAgg152
  z53 := Try.sizeOf152
  v53 := Try.zeroValue152 }
theorem Try.bits_Len (x : Int) (w : World) (h0 : 0 ≤ x) (h1 : x ≤ 18446744073709551615) :
    Calls Try.prog 113 #[.int .u64 x] w fun e w' => e = .returned (.int .i64 (Lib.bitLen x.toNat)) ∧ w' = w := Any.bits_Len Try.lays125 x w h0 h1
def Try.lays108_ren : Go.Shelf.Ren := ⟨fun | 108 => 67 | n => n, fun | 28 => 33 | 3 => 3 | 0 => 0 | 4 => 4 | n => n, fun | n => n⟩
theorem Try.lays108 : Go.Proofs.Lays.n108 Try.prog Try.lays108_ren := {
  mixed := by kernel_rfl
  f108 := Try.func67.trans (congrArg some (by kernel_rfl))
  t0 := Try.underlying0
  a0 := Try.isAgg0
  z0 := Try.sizeOf0
  v0 := Try.zeroValue0
  t3 := Try.underlying3
  a3 := Try.isAgg3
  z3 := Try.sizeOf3
  v3 := Try.zeroValue3
  t4 := Try.underlying4
  a4 := Try.isAgg4
  z4 := Try.sizeOf4
  v4 := Try.zeroValue4
  t28 := Try.underlying33
  a28 := Try.isAgg33
  z28 := Try.sizeOf33
  v28 := Try.zeroValue33 }
open Go.Lib in
theorem Try.slices_Index_int (b off n c : Nat) (zs : List Int) (x : Int) (w : World) (hz : n ≤ zs.length) (hbig : n ≤ 9223372036854775807) (hc : ∀ j, j < zs.length → w.cell? ⟨b, off + j, none⟩ = some (.int .i64 (zs.getD j 0))) :
    Calls Try.prog 67 #[.slice (some ⟨b, off, none⟩) n c, .int .i64 x] w fun e w' => e = .returned (.int .i64 (Lib.idxOf (zs.take n) x)) ∧ w' = w := Any.slices_Index_int Try.lays108 b off n c zs x w hz hbig hc
open Go.Lib in
theorem Try.slices_Index_int_empty (a : Option Addr) (c : Nat) (x : Int) (w : World) :
    Calls Try.prog 67 #[.slice a 0 c, .int .i64 x] w fun e w' => e = .returned (.int .i64 (Lib.idxOf [] x)) ∧ w' = w := Any.slices_Index_int_empty Try.lays108 a c x w
def Try.lays107_ren : Go.Shelf.Ren := ⟨fun | 107 => 45 | 108 => 67 | n => n, fun | 28 => 33 | 3 => 3 | 4 => 4 | 0 => 0 | n => n, fun | n => n⟩
theorem Try.lays107 : Go.Proofs.Lays.n107 Try.prog Try.lays107_ren := {
  mixed := by kernel_rfl
  f107 := Try.func45.trans (congrArg some (by kernel_rfl))
  f108 := Try.func67.trans (congrArg some (by kernel_rfl))
  t0 := Try.underlying0
  a0 := Try.isAgg0
  z0 := Try.sizeOf0
  v0 := Try.zeroValue0
  t3 := Try.underlying3
  a3 := Try.isAgg3
  z3 := Try.sizeOf3
  v3 := Try.zeroValue3
  t4 := Try.underlying4
  a4 := Try.isAgg4
  z4 := Try.sizeOf4
  v4 := Try.zeroValue4
  t28 := Try.underlying33
  a28 := Try.isAgg33
  z28 := Try.sizeOf33
  v28 := Try.zeroValue33 }
open Go.Lib in
theorem Try.slices_Contains_int (b off n c : Nat) (zs : List Int) (x : Int) (w : World) (hz : n ≤ zs.length) (hbig : n ≤ 9223372036854775807) (hc : ∀ j, j < zs.length → w.cell? ⟨b, off + j, none⟩ = some (.int .i64 (zs.getD j 0))) :
    Calls Try.prog 45 #[.slice (some ⟨b, off, none⟩) n c, .int .i64 x] w fun e w' => e = .returned (.bool ((zs.take n).contains x)) ∧ w' = w := Any.slices_Contains_int Try.lays107 b off n c zs x w hz hbig hc
open Go.Lib in
def Try.laysNm215_ren : Go.Shelf.Ren := ⟨fun | 15 => 72 | n => n, fun | 22 => 33 | 3 => 3 | 4 => 4 | n => n, fun | n => n⟩
theorem Try.laysNm215 : Go.Proofs.Lays2.n15 Try.prog Try.laysNm215_ren := {
  mixed := by kernel_rfl
  f15 := Try.func72.trans (congrArg some (by kernel_rfl))
  t3 := Try.underlying3
  a3 := Try.isAgg3
  z3 := Try.sizeOf3
  v3 := Try.zeroValue3
  t4 := Try.underlying4
  a4 := Try.isAgg4
  z4 := Try.sizeOf4
  v4 := Try.zeroValue4
  t22 := Try.underlying33
  a22 := Try.isAgg33
  z22 := Try.sizeOf33
  v22 := Try.zeroValue33
  i3 := by kernel_rfl }
open Go.RowKit Go.Lib in
theorem Try.slices_Clone_int (b off n c : Nat) (zs : List Int) (w : World) (hz : n ≤ zs.length) (hbig : n * 8 ≤ 140737488355328) (hc : ∀ j, j < zs.length → w.cell? ⟨b, off + j, none⟩ = some (.int .i64 (zs.getD j 0))) :
    Calls Try.prog 72 #[.slice (some ⟨b, off, none⟩) n c] w fun e w' => ∃ v', e = .returned v' ∧ w'.ownsRow w.heap.size 3 1 v' n ((zs.take n).map (Value.int .i64)) ∧ v' ≠ .slice none 0 0 ∧ Below w.heap.size w w' := Any.slices_Clone_int Try.laysNm215 b off n c zs w hz hbig hc
open Go.RowKit Go.Lib in
theorem Try.slices_Clone_int_nil (n c : Nat) (w : World) :
    Calls Try.prog 72 #[.slice none n c] w fun e w' => e = .returned (.slice none 0 0) ∧ w' = w := Any.slices_Clone_int_nil Try.laysNm215 n c w
open Go.RowKit Go.Lib in
theorem Try.slices_Clone_int_zero (a : Addr) (c : Nat) (w : World) :
    Calls Try.prog 72 #[.slice (some a) 0 c] w fun e w' => ∃ v', e = .returned v' ∧ w'.ownsRow w.heap.size 3 1 v' 0 [] ∧ v' ≠ .slice none 0 0 ∧ Below w.heap.size w w' := Any.slices_Clone_int_zero Try.laysNm215 a c w
def Try.laysNm223_ren : Go.Shelf.Ren := ⟨fun | 23 => 73 | n => n, fun | 22 => 33 | 3 => 3 | 4 => 4 | 0 => 0 | n => n, fun | n => n⟩
theorem Try.laysNm223 : Go.Proofs.Lays2.n23 Try.prog Try.laysNm223_ren := {
  mixed := by kernel_rfl
  f23 := Try.func73.trans (congrArg some (by kernel_rfl))
  t0 := Try.underlying0
  a0 := Try.isAgg0
  z0 := Try.sizeOf0
  v0 := Try.zeroValue0
  t3 := Try.underlying3
  a3 := Try.isAgg3
  z3 := Try.sizeOf3
  v3 := Try.zeroValue3
  t4 := Try.underlying4
  a4 := Try.isAgg4
  z4 := Try.sizeOf4
  v4 := Try.zeroValue4
  t22 := Try.underlying33
  a22 := Try.isAgg33
  z22 := Try.sizeOf33
  v22 := Try.zeroValue33
  i3 := by kernel_rfl }
open Go.RowKit Go.Lib Go.Sort in
theorem Try.slices_Delete_int (blk off cap i j : Nat) (zs : List Int) (w : World) (hH : Holds (Value.int .i64) w blk off zs.toArray) (hcap : zs.length ≤ cap) (hm : cap ≤ 9223372036854775807) (hij : i ≤ j) (hj : j ≤ zs.length) :
    Calls Try.prog 73 #[.slice (some ⟨blk, off, none⟩) zs.length cap, .int .i64 i, .int .i64 j] w fun e w' => e = .returned (.slice (some ⟨blk, off, none⟩) (zs.length - (j - i)) cap) ∧ ∃ q, w' = putRow (Value.int .i64) (Sort.ahead w q) blk off (zs.take i ++ zs.drop j ++ List.replicate (j - i) 0).toArray := Any.slices_Delete_int Try.laysNm223 blk off cap i j zs w hH hcap hm hij hj
open Go.RowKit Go.Lib Go.Sort in
open Go.RowKit Go.Lib in
open Go.RowKit Go.Lib in
def Try.laysSlF014_f112_ren : Go.Shelf.Ren := ⟨fun | 14 => 112 | 20 => 120 | 21 => 121 | 22 => 122 | 23 => 123 | 24 => 124 | 25 => 125 | 26 => 126 | 27 => 127 | 46 => 134 | 47 => 135 | 48 => 136 | 49 => 137 | 50 => 138 | 15 => 113 | 57 => 142 | 28 => 128 | 29 => 129 | n => n, fun | 24 => 83 | 22 => 49 | 3 => 3 | 25 => 127 | 4 => 4 | 0 => 0 | 46 => 144 | 45 => 143 | 50 => 102 | 66 => 159 | 39 => 139 | 55 => 152 | 70 => 163 | 76 => 168 | 77 => 96 | 53 => 150 | 5 => 5 | 9 => 9 | n => n, fun | n => n⟩
theorem Try.laysSlF014_f112 : Go.Proofs.SlLaysF0.n14 Try.prog Try.laysSlF014_f112_ren := {
  mixed := by kernel_rfl
  f14 := ⟨Try.f112.name, by decide, Try.func112.trans (congrArg some (by kernel_rfl))⟩
  f15 := Try.func113.trans (congrArg some (by kernel_rfl))
  f20 := ⟨Try.f120.name, by decide, Try.func120.trans (congrArg some (by kernel_rfl))⟩
  f21 := ⟨Try.f121.name, by decide, Try.func121.trans (congrArg some (by kernel_rfl))⟩
  f22 := ⟨Try.f122.name, by decide, Try.func122.trans (congrArg some (by kernel_rfl))⟩
  f23 := ⟨Try.f123.name, by decide, Try.func123.trans (congrArg some (by kernel_rfl))⟩
  f24 := ⟨Try.f124.name, by decide, Try.func124.trans (congrArg some (by kernel_rfl))⟩
  f25 := ⟨Try.f125.name, by decide, Try.func125.trans (congrArg some (by kernel_rfl))⟩
  f26 := ⟨Try.f126.name, by decide, Try.func126.trans (congrArg some (by kernel_rfl))⟩
  f27 := ⟨Try.f127.name, by decide, Try.func127.trans (congrArg some (by kernel_rfl))⟩
  f28 := Try.func128.trans (congrArg some (by kernel_rfl))
  f29 := Try.func129.trans (congrArg some (by kernel_rfl))
  f46 := ⟨Try.f134.name, by decide, Try.func134.trans (congrArg some (by kernel_rfl))⟩
  f47 := Try.func135.trans (congrArg some (by kernel_rfl))
  f48 := Try.func136.trans (congrArg some (by kernel_rfl))
  f49 := ⟨Try.f137.name, by decide, Try.func137.trans (congrArg some (by kernel_rfl))⟩
  f50 := ⟨Try.f138.name, by decide, Try.func138.trans (congrArg some (by kernel_rfl))⟩
  f57 := ⟨Try.f142.name, by decide, Try.func142.trans (congrArg some (by kernel_rfl))⟩
  t0 := Try.underlying0
  a0 := Try.isAgg0
  z0 := Try.sizeOf0
  v0 := Try.zeroValue0
  t3 := Try.underlying3
  a3 := Try.isAgg3
  z3 := Try.sizeOf3
  v3 := Try.zeroValue3
  t4 := Try.underlying4
  a4 := Try.isAgg4
  z4 := Try.sizeOf4
  v4 := Try.zeroValue4
  t5 := Try.underlying5
  a5 := Try.isAgg5
  z5 := Try.sizeOf5
  v5 := Try.zeroValue5
  t9 := Try.underlying9
  a9 := Try.isAgg9
  z9 := Try.sizeOf9
  v9 := Try.zeroValue9
  t22 := Try.underlying49
  a22 := Try.isAgg49
  z22 := Try.sizeOf49
  v22 := Try.zeroValue49
  t25 := Try.underlying127
  a25 := Try.isAgg127
  z25 := Try.sizeOf127
  v25 := Try.zeroValue127
  t39 := Try.underlying139
  a39 := Try.isAgg139
  z39 := Try.sizeOf139
  v39 := Try.zeroValue139
  t45 := Try.underlying143
  a45 := Try.isAgg143
  z45 := Try.sizeOf143
  v45 := Try.zeroValue143
  t46 := Try.underlying144
  a46 := Try.isAgg144
  z46 := Try.sizeOf144
  v46 := Try.zeroValue144
  t50 := Try.underlying102
  a50 := Try.isAgg102
  z50 := Try.sizeOf102
  v50 := Try.zeroValue102
  t53 := Try.underlying150
  a53 := Try.isAgg150
  z53 := Try.sizeOf150
  v53 := Try.zeroValue150
  t55 := Try.underlying152
  a55 := Try.isAgg152
  z55 := Try.sizeOf152
  v55 := Try.zeroValue152
  t66 := Try.underlying159
  a66 := Try.isAgg159
  z66 := Try.sizeOf159
  v66 := Try.zeroValue159
  t70 := Try.underlying163
  a70 := Try.isAgg163
  z70 := Try.sizeOf163
  v70 := Try.zeroValue163
  t76 := Try.underlying168
  a76 := Try.isAgg168
  z76 := Try.sizeOf168
  v76 := Try.zeroValue168
  t77 := Try.underlying96
  a77 := Try.isAgg96
  z77 := Try.sizeOf96
  v77 := Try.zeroValue96 }
open Go.RowKit Go.Lib Go.Sort in
theorem Try.pdqsortCmpFunc_all {α : Type} [Inhabited α] (k : Nat) (aE : ∀ w, (isAgg 83).run Try.prog w = .ok true w) (zE : ∀ w, (Go.sizeOf 83).run Try.prog w = .ok k w) (enc : α → List Value) (cf : α → α → Int) (g : Nat) (cb : Array Value) (hO : SWO (ltOf cf)) (blk off cap : Nat) (d0 : Array α) (w0 : World) (eg : ∀ args w, (callFunc g args).run Try.prog w = .ok (.enter g args) w) (hcmp : CmpLays Try.prog g cb enc k cf blk off d0.size w0) (R : RowK enc k w0 blk off d0) :
    ∀ (N a b limit : Nat) (d : Array α) (w : World), b - a < N → d0.size = d.size → SWK enc k w0 blk off d w → a ≤ b → b ≤ d.size → d.size < 4611686018427387904 → limit < 4611686018427387904 → Below (ltOf cf) a b d →
    Calls Try.prog 112 #[.slice (some ⟨blk, off, none⟩) d.size cap, .int .i64 a, .int .i64 b, .int .i64 limit, .func (.func g) #[] cb] w fun e w' => e = .returned (.tuple #[]) ∧ SWK enc k w0 blk off (pdq (ltOf cf) d a b limit true true) w' := AnyQ.pdqsortCmpFunc_all Try.laysSlF014_f112 k aE zE enc cf g cb hO blk off cap d0 w0 eg hcmp R
end Go.Proofs
namespace Go.Proofs.Ytmjnakhpekbenaa
open Go.RowKit Fw
namespace Ca
open Go.Sort (swp SWO PermIn SortedIn flatK putRowK HoldsK Holds putRow putCells mapBlock onCells grow ahead)
def enc2 (p : T2) : List Value := [vI p.1, vI p.2]
def cfT (x y : T2) : Int := cmpI x.1 y.1
set_option maxHeartbeats 1000000 in
theorem closure99 (x y : T2) (W : World) : Calls Try.prog 99 #[.agg #[vI x.1, vI x.2], .agg #[vI y.1, vI y.2]] W fun e w' => e = .returned (.int .i64 (cmpI x.1 y.1)) ∧ ∃ q os', w' = Go.Sort.grow (W.drewN q) os' := by
  have hcon := fun W' => Compare_any x.1 y.1 W'
  generalize cmpI x.1 y.1 = r at hcon ⊢
  go_enter Try.func99, Try.ntmps99
  go_wp2_with (go_at_call 100; refine (hcon _).mono ?_; rintro e w' ⟨rfl, rfl⟩)
  go_ret
  exact ⟨rfl, 0, _, by rw [Go.Sort.alloc_eq_grow, Go.Sort.alloc_eq_grow, Go.Sort.grow_grow]; rfl⟩
theorem lt_iff {x y : T2} : ltOf cfT x y = true ↔ x.1 < y.1 := by
  unfold ltOf cfT
  rw [decide_eq_true_eq]
  exact ⟨cmp_lt, fun h => by unfold cmpI; rw [if_pos h]; decide⟩
theorem lt_no {x y : T2} : ltOf cfT x y = false ↔ y.1 ≤ x.1 := by
  cases h : ltOf cfT x y with
  | true => have := lt_iff.1 h; exact ⟨fun q => (by cases q), fun q => by omega⟩
  | false => exact ⟨fun _ => by have : ¬ x.1 < y.1 := fun q => by rw [lt_iff.2 q] at h; cases h
                                omega, fun _ => rfl⟩
theorem swo : SWO (ltOf cfT) :=
  ⟨fun x => lt_no.2 (Int.le_refl _), fun x y z h1 h2 => lt_iff.2 (Int.lt_trans (lt_iff.1 h1) (lt_iff.1 h2)), fun x y z h1 h2 => lt_no.2 (Int.le_trans (lt_no.1 h2) (lt_no.1 h1))⟩
theorem flat_eq (t : List T2) : flatK enc2 2 t.toArray = (tL t).toArray := by
  apply Array.ext
  · simp [tL_len]
  · intro j h1 h2
    have hj : j < t.length * 2 := by simpa using h1
    have e1 : (flatK enc2 2 t.toArray)[j] = (flatK enc2 2 t.toArray)[j]! := (getElem!_pos (flatK enc2 2 t.toArray) j h1).symm
    rw [e1, Go.Sort.get_flatK enc2 2 t.toArray j (by simpa using hj)]
    have hi : j / 2 < t.length := by omega
    obtain ⟨q1, q2⟩ := tL_at hi
    have e2 : t.toArray[j / 2]! = t.getD (j / 2) (0, 0) := by simp [List.getD_eq_getElem?_getD, hi]
    rw [e2]
    have e3 : (tL t)[j]? = some (tL t).toArray[j] := by simp
    by_cases hm : j % 2 = 0
    · rw [show j / 2 * 2 = j by omega] at q1
      rw [q1] at e3
      rw [hm]
      simpa [enc2] using Option.some.inj e3
    · have hm1 : j % 2 = 1 := by omega
      rw [show j / 2 * 2 + 1 = j by omega] at q2
      rw [q2] at e3
      rw [hm1]
      simpa [enc2] using Option.some.inj e3
theorem holds_own {w : World} {g cp : Nat} {t : List T2} (h : Ent.holds w (rowT (some ⟨g, 0, none⟩) t.length cp t)) : HoldsK enc2 2 w g 0 t.toArray ∧ g < w.heap.size := by
  have h2 : w.ownsRow 0 83 2 (.slice (some ⟨g, 0, none⟩) t.length cp) t.length (tL t) := h
  have hc := @World.ownsRow.cells _ _ _ _ _ _ _ h2
  rcases h2.2 with ⟨h0', h1⟩ | ⟨g', cap, cur, hv, hb, hg, hnc, hm, hs, hx⟩
  · cases h0'
  · cases hv
    refine ⟨?_, (Array.getElem?_eq_some_iff.1 hg).1⟩
    unfold HoldsK
    rw [flat_eq]
    intro j hj
    have hj' : j < (tL t).length := by simpa using hj
    refine ⟨?_, by simp [World.frozen?, hg]⟩
    have := hc (g := g) rfl j _ (List.getElem?_eq_getElem hj')
    rw [hadd] at this
    rw [this]
    simp [hj']
theorem sorted_hp {w : World} {g cp n : Nat} {t t' : List T2} {os : Array Obj} (h : Ent.holds w (rowT (some ⟨g, 0, none⟩) t.length cp t)) (hl : t'.length = t.length) :
    HP (Out [rowT (some ⟨g, 0, none⟩) t.length cp t]) w (Go.Sort.grow (putRowK enc2 2 (Go.Sort.ahead w n) g 0 t'.toArray) os) [rowT (some ⟨g, 0, none⟩) t.length cp t'] := by
  have h2 : w.ownsRow 0 83 2 (.slice (some ⟨g, 0, none⟩) t.length cp) t.length (tL t) := h
  rcases h2.2 with ⟨h0', h1⟩ | ⟨g', cap, cur, hv, hb, hg, hnc, hm, hs, hx⟩
  · cases h0'
  · cases hv
    have hlt := (Array.getElem?_eq_some_iff.1 hg).1
    have hheap : (Go.Sort.grow (putRowK enc2 2 (Go.Sort.ahead w n) g 0 t'.toArray) os).heap = w.heap.modify g (onCells (putCells id 0 (tL t').toArray)) ++ os := by
      unfold putRowK; rw [flat_eq]; rfl
    refine ⟨rfl, rfl, rfl, by rw [hheap]; simp, fun k hk hO => ?_, fun e he => ?_, fun e he b hb hlt' hO => ?_, by simp⟩
    · have hne : g ≠ k := fun e => hO _ (List.mem_singleton.2 rfl) (by rw [← e]; rfl)
      rw [hheap, Array.getElem?_append_left (by simpa using hk), Array.getElem?_modify, if_neg hne]
    · obtain rfl := List.mem_singleton.1 he
      refine ⟨by rw [tL_len, hl], .inr ⟨g, cp, putCells id 0 (tL t').toArray cur, rfl, Nat.zero_le _, ?_, hnc, hm, by simp [putCells, hs], ?_⟩⟩
      · rw [hheap, Array.getElem?_append_left (by simpa using hlt), Array.getElem?_modify, if_pos rfl, hg]; rfl
      · refine List.ext_getElem? fun q => ?_
        rw [List.getElem?_take]
        have hsz : (tL t').length = t.length * 2 := by rw [tL_len, hl]
        by_cases hq : q < t.length * 2
        · rw [if_pos hq]
          have hcur : q < cur.size := by rw [hs]; have := Nat.mul_le_mul_right 2 hnc; omega
          rw [Array.getElem?_toList]
          simp only [putCells, Array.getElem?_mapIdx, Array.getElem?_eq_getElem hcur, Option.map_some, List.size_toArray, Nat.zero_le, true_and, Nat.zero_add, hsz, hq, if_true, Nat.sub_zero, id]
          rw [List.getElem?_eq_getElem (by omega)]
          simp [show q < (tL t').length by omega]
        · rw [if_neg hq, List.getElem?_eq_none (by omega)]
    · obtain rfl := List.mem_singleton.1 he
      exact hO _ (List.mem_singleton.2 rfl) hb
/-- sorted by lines -/
def leT (t : List T2) : Prop := t.Pairwise fun a b => a.1 ≤ b.1
theorem pdq_any (pv : Option Addr) (cp : Nat) (t : List T2) (L : Nat) (w : World) (hB : OwnB w [rowT pv t.length cp t]) (h0 : 0 < t.length) (hn : t.length ≤ 281474976710656) (hL : L ≤ 281474976710656) :
    Calls Try.prog 112 #[.slice pv t.length cp, vI 0, vI (t.length : Int), vI (L : Int), .func (.func 99) #[] #[]] w fun e w' => e = .returned (.tuple #[]) ∧ ∃ t', t'.Perm t ∧ leT t' ∧ HP (Out [rowT pv t.length cp t]) w w' [rowT pv t.length cp t'] := by
  have hO := hB.1 _ (List.mem_singleton.2 rfl)
  obtain ⟨g, rfl⟩ : ∃ g, pv = some ⟨g, 0, none⟩ := by
    have h2 : w.ownsRow 0 83 2 (.slice pv t.length cp) t.length (tL t) := hO
    rcases h2.2 with ⟨h0', h1⟩ | ⟨g', cap, cur, hv, _⟩
    · omega
    · cases hv; exact ⟨g', rfl⟩
  obtain ⟨hH, hlt⟩ := holds_own hO
  have R : RowK enc2 2 w g 0 t.toArray := ⟨fun _ => rfl, fun x v hv => by simp [enc2] at hv; rcases hv with rfl | rfl <;> rfl, hH, hlt⟩
  have eg : ∀ args w, (callFunc 99 args).run Try.prog w = .ok (.enter 99 args) w := enters_of Try.func99 (by kernel_rfl) rfl
  have hcmp : CmpLays Try.prog 99 #[] enc2 2 cfT g 0 t.toArray.size w := fun m os dk _ x y => closure99 x y _
  have h := Try.pdqsortCmpFunc_all (α := T2) 2 Try.isAgg83 Try.sizeOf83 enc2 cfT 99 #[] swo g 0 cp t.toArray w eg hcmp R (t.length + 1) 0 t.length L t.toArray w (by omega) rfl (SWK.start hH) (by omega) (by simp) (by simp; omega) (by omega) (.inl rfl)
  have hs := Go.Sort.pdq_sorts (ltOf cfT) swo t.toArray 0 t.length L true true (Nat.zero_le _) (by simp) (Or.inl rfl)
  generalize Go.Sort.pdq (ltOf cfT) t.toArray 0 t.length L true true = d' at h hs
  obtain ⟨hp, hsd⟩ := hs
  refine h.mono ?_
  rintro e w' ⟨rfl, n, os, rfl⟩
  have hsz : d'.size = t.length := by simpa using hp.1
  have hperm : d'.toList.Perm t := by
    have := hp.2.2
    rw [show d'.extract 0 t.length = d' by rw [← hsz]; simp, show t.toArray.extract 0 t.length = t.toArray by simp] at this
    simpa using this
  refine ⟨rfl, d'.toList, hperm, List.pairwise_iff_getElem.2 fun i j hi hj hij => ?_, ?_⟩
  · have hj' : j < t.length := by simpa [hsz] using hj
    have := lt_no.1 (hsd i j (Nat.zero_le _) hij (by simpa using hj'))
    have hi' : i < d'.size := by omega
    rw [getElem!_pos d' i hi', getElem!_pos d' j (by omega)] at this
    simpa using this
  · have := sorted_hp (n := n) (os := os) (t' := d'.toList) hO (by simpa using hsz)
    rw [show d'.toList.toArray = d' by simp] at this
    exact this
end Ca
end Go.Proofs.Ytmjnakhpekbenaa
namespace Go.Proofs.Ytmjnakhpekbenaa
open Go.RowKit Fw
namespace Ca
theorem len1 (A : List T2) (z : T2) : (A ++ [z]).length = A.length + 1 := by simp
theorem bitLenAux_le : ∀ (f x : Nat), Lib.bitLenAux f x ≤ f
  | 0, _ => Nat.le_refl _
  | f + 1, x => by
    unfold Lib.bitLenAux
    have := bitLenAux_le f (x / 2)
    split <;> omega
theorem bitLen_le {n : Nat} : Lib.bitLen n ≤ 64 := bitLenAux_le 64 n
/-- the entries of other sets -/
def outT (s x : Int) (t : List T2) : List T2 := t.filter fun q => decide (q.1.tmod s ≠ x.tmod s)
theorem out_take {s x : Int} {t : List T2} {i : Nat} (h : i < t.length) : outT s x (t.take (i + 1)) = outT s x (t.take i) ++ (if (lnT t i).tmod s ≠ x.tmod s then [(lnT t i, agT t i)] else []) := by
  unfold outT
  rw [List.take_add_one, List.filter_append, List.getElem?_eq_getElem h, lnT_get h, agT_get h]
  by_cases q : t[i].1.tmod s = x.tmod s <;> simp [List.filter_cons, q]
/-- one that stands in the line's set, older -/
def old1 (y d : Int) (q : T2) : List T2 := if (if q.2 < d then q.2 + 1 else q.2) < y then [(q.1, if q.2 < d then q.2 + 1 else q.2)] else []
def oldT (y d : Int) (l : List TV) : List T2 := l.flatMap fun q => old1 y d q.1
theorem old_snoc (y d : Int) (l : List TV) (q : TV) : oldT y d (l ++ [q]) = oldT y d l ++ old1 y d q.1 := by simp [oldT]
theorem old1_len (y d : Int) (q : T2) : (old1 y d q).length ≤ 1 := by
  unfold old1
  generalize (if q.2 < d then q.2 + 1 else q.2) = a
  split
  · exact Nat.le_refl _
  · exact Nat.zero_le _
theorem oldT_len (y d : Int) : ∀ l : List TV, (oldT y d l).length ≤ l.length
  | [] => by simp [oldT]
  | q :: r => by
    have := oldT_len y d r
    have h1 := old1_len y d q.1
    simp only [oldT, List.flatMap_cons, List.length_append, List.length_cons] at this ⊢
    omega
theorem infoT : ∃ i, Try.prog.info? 83 = some i ∧ i.zero = some (.agg #[.int .i64 0, .int .i64 0]) ∧ i.size = 2 ∧ i.bytes = 16 := by
  obtain ⟨i, hi, h⟩ := Option.map_eq_some_iff.1 (show (Try.prog.info? 83).map (fun i => (i.zero, i.size, i.bytes)) = some (some (.agg #[.int .i64 0, .int .i64 0]), 2, 16) by kernel_rfl)
  simp only [Prod.mk.injEq] at h
  exact ⟨i, hi, h.1, h.2.1, h.2.2⟩
theorem rd_of {w W : World} {H : List Ent} {b3 b4 b5 : Nat} {p : Option Addr} {t : List T2} {cp : Nat} {s x : Int} (h : HP Tr w W H) (hT : InT w p t) (h3 : Ent.cel b3 #[.slice p t.length cp] 88 ∈ H) (h4 : Ent.cel b4 #[vI s] 3 ∈ H) (h5 : Ent.cel b5 #[vI x] 3 ∈ H) : Rd w.heap.size W b3 b4 b5 p t cp s x :=
  ⟨h.hold _ h3, h.hold _ h4, h.hold _ h5, fun h0 => by
    obtain ⟨g, o, hp, hr⟩ := hT h0
    exact ⟨g, o, hp, World.block_lt_of_cell? w _ (hr 0 h0 0 _ rfl), fun i hi => HP.oldRange h trivial (hr i hi)⟩⟩
theorem ta_of : ∀ {t : List T2}, (∀ i, i < t.length → -1000 ≤ agT t i ∧ agT t i ≤ 1000) → ∃ ta : List TV, t = ta.map (·.1)
  | [], _ => ⟨[], rfl⟩
  | q :: r, h => by
    obtain ⟨ta, rfl⟩ := ta_of (t := r) fun i hi => by have := h (i + 1) (by simpa using hi); simpa [agT] using this
    exact ⟨⟨q, by have := h 0 (by simp); simpa [agT] using this⟩ :: ta, by simp⟩
theorem osA_len (s x : Int) (ta : List TV) : (osA s x ta).length ≤ ta.length := List.length_filter_le _ _
theorem outT_len (s x : Int) (t : List T2) : (outT s x t).length ≤ t.length := List.length_filter_le _ _
theorem sz88 : (Try.prog.info? 88).map (·.size) = some 1 := by kernel_rfl
set_option maxRecDepth 20000 in
set_option maxHeartbeats 4000000 in
theorem SortFunc_any (pv : Option Addr) (cp : Nat) (t : List T2) (w : World) (hB : OwnB w [rowT pv t.length cp t]) (h0 : 0 < t.length) (hn : t.length ≤ 281474976710000) :
    Calls Try.prog 98 #[.slice pv t.length cp, .func (.func 99) #[] #[]] w fun e w' => e = .returned (.tuple #[]) ∧ ∃ t', t'.Perm t ∧ leT t' ∧ HP (Out [rowT pv t.length cp t]) w w' [rowT pv t.length cp t'] := by
  refine calls_of Try.func98 rfl (m := 14) rfl [(0, .slice pv t.length cp), (1, .func (.func 99) #[] #[])] (Fr_enter [.slice pv t.length cp, .func (.func 99) #[] #[]] 14 (Nat.le_of_ble_eq_true rfl)) ?_
  refine WC.seq fun K1 hK1 => WC.region ?_
  refine WL.z (v := .slice pv t.length cp) 5 ?_
  refine WL.z (v := vI (t.length : Int)) 6 ?_
  refine WL.z (v := vI (t.length : Int)) 4 ?_
  refine WL.nil (WQ.then (hK1 _ _ _ (WC.region ?_)))
  refine WL.z (v := .slice pv t.length cp) 7 ?_
  refine WL.z (v := vI (t.length : Int)) 8 ?_
  refine WL.z (v := vI (t.length : Int)) 9 ?_
  refine WL.y (v := .int .u64 ((t.length : Nat) : Int)) 10 (x_convI rfl rfl (by kernel_rfl) (by kernel_rfl) (by kernel_rfl) (by rw [IntKind.wrap_u64]; omega)) ?_
  refine WL.call (f := 113) (args := #[.int .u64 ((t.length : Nat) : Int)]) 11 rfl (Nat.le_of_ble_eq_true rfl) rfl rfl (by kernel_rfl) ?_
  refine (((Try.bits_Len ((t.length : Nat) : Int) _ (by omega) (by omega)).mono fun e w' h => (⟨h.1, h.2.symm⟩ : _ ∧ _ = w'))).mono ?_
  rintro e w2 ⟨rfl, rfl⟩
  refine ⟨_, rfl, ?_⟩
  refine WL.z (v := .func (.func 99) #[] #[]) 12 ?_
  refine WL.call (f := 112) (args := #[.slice pv t.length cp, vI 0, vI (t.length : Int), vI ((Lib.bitLen (Int.toNat ((t.length : Nat) : Int)) : Nat) : Int), .func (.func 99) #[] #[]]) 13 rfl (Nat.le_of_ble_eq_true rfl) rfl rfl (by kernel_rfl) ?_
  refine (pdq_any pv cp t _ _ (HP.ownF (A := [rowT pv t.length cp t]) (B := []) (by simpa using (HP.startB hB))) h0 (by omega) (Nat.le_trans bitLen_le (by omega))).mono ?_
  rintro e w4 ⟨rfl, t', hp, hle, hb4⟩
  refine ⟨_, rfl, ?_⟩
  refine WL.nil ?_
  refine WQ.end0 rfl ?_
  exact ⟨rfl, t', hp, hle, hb4⟩
set_option maxRecDepth 20000 in
set_option maxHeartbeats 4000000 in
theorem aged_any (p : Option Addr) (t : List T2) (ta : List TV) (cp : Nat) (s y l m x d : Int) (w : World) (hT : InT w p t) (ht9 : t = ta.map (·.1)) (hs0 : s ≠ 0) (hd : -1000 ≤ d ∧ d ≤ 1000) (hn : t.length ≤ 100000) :
    Calls Try.prog 82 #[.slice p t.length cp, .agg #[vI s, vI y, vI l, vI m], vI x, vI d] w fun e w' => ∃ t' pv cp', e = .returned (.slice pv t'.length cp') ∧ t'.Perm (outT s x t ++ oldT y d (osA s x ta) ++ [(x, 0)]) ∧ leT t' ∧ HP Tr w w' [rowT pv t'.length cp' t'] := by
  open Fi in
  refine Fi.calls_ofX Try.func82 rfl (m := 66) rfl [(0, .slice p t.length cp), (1, .agg #[vI s, vI y, vI l, vI m]), (2, vI x), (3, vI d)] (Fi.Fr_enter [.slice p t.length cp, .agg #[vI s, vI y, vI l, vI m], vI x, vI d] 66 (Nat.le_of_ble_eq_true rfl)) ?_
  have hH1 : HP Tr w w [] := HP.refl w
  refine XC.seq fun K2 hK2 => ?_
  refine XC.region ?_
  refine XL.alloc (c := #[vI s, vI y, vI l, vI m]) (T := 23) hH1 5 rfl (by decide) rfl rfl (fun b5 => vP b5 0) (by kernel_rfl) (fun b5 w3 hw3 => ?_)
  have hH4 : HP Tr w w3 [.cel b5 #[vI s, vI y, vI l, vI m] 23] := hw3.2
  have nb5 := hw3.1
  clear hw3
  refine XL.alloc (c := #[vI d]) (T := 3) hH4 7 rfl (by decide) rfl rfl (fun b7 => vP b7 0) (by kernel_rfl) (fun b7 w5 hw5 => ?_)
  have hH6 : HP Tr w w5 [.cel b5 #[vI s, vI y, vI l, vI m] 23, .cel b7 #[vI d] 3] := hw5.2
  have nb7 := hw5.1
  clear hw5
  refine XL.pure (v := .slice none 0 0) 8 rfl (Nat.le_of_ble_eq_true rfl) rfl rfl (by kernel_rfl) ?_
  refine XL.nil ?_
  refine XQ.then ?_
  refine hK2 _ _ _ _ ?_
  refine XC.seq fun K7 hK7 => ?_
  refine XC.region ?_
  refine XL.alloc (c := #[]) (T := 83) hH6 14 rfl (by decide) rfl rfl (fun b14 => vS b14 0 0) (by kernel_rfl) (fun b14 w8 hw8 => ?_)
  have hH9 : HP Tr w w8 [.cel b5 #[vI s, vI y, vI l, vI m] 23, .cel b7 #[vI d] 3, .cel b14 #[] 83] := hw8.2
  have nb14 := hw8.1
  clear hw8
  refine XL.alloc (c := #[.slice none 0 0]) (T := 88) hH9 9 rfl (by decide) rfl rfl (fun b9 => vP b9 0) (by kernel_rfl) (fun b9 w10 hw10 => ?_)
  have hH11 : HP Tr w w10 [.cel b5 #[vI s, vI y, vI l, vI m] 23, .cel b7 #[vI d] 3, .cel b14 #[] 83, .cel b9 #[.slice none 0 0] 88] := hw10.2
  have nb9 := hw10.1
  clear hw10
  refine XL.store (H2 := [.cel b5 #[vI s, vI y, vI l, vI m] 23, .cel b7 #[vI d] 3, .cel b14 #[] 83, .cel b9 #[vS b14 0 0] 88]) 3 hH11 rfl rfl rfl rfl rfl rfl sz88 rfl (Nat.le_of_ble_eq_true rfl) rfl rfl ?_
  intro w12 hH13
  refine XL.nil ?_
  refine XQ.then ?_
  refine hK7 _ _ _ _ ?_
  refine XC.seq fun K14 hK14 => ?_
  refine XC.seq fun K15 hK15 => ?_
  have hO9 := HP.celToOwn hH13 2 (k := 0) (cap := 0) (s := 2) rfl (Nat.le_refl _) (by decide) rfl
  have hH16 : HP Tr w _ [.cel b5 #[vI s, vI y, vI l, vI m] 23, .cel b7 #[vI d] 3, rowT (some ⟨b14, 0, none⟩) ([] : List T2).length 0 ([] : List T2), .cel b9 #[.slice (some ⟨b14, 0, none⟩) ([] : List T2).length 0] 88] := HP.eq hO9 rfl
  refine XC.region ?_
  refine XL.pure (v := .slice p t.length cp) 15 rfl (Nat.le_of_ble_eq_true rfl) rfl rfl (by kernel_rfl) ?_
  refine XL.pure (v := vI (t.length : Int)) 16 rfl (Nat.le_of_ble_eq_true rfl) rfl rfl (by kernel_rfl) ?_
  refine XL.pure (v := vI 0) 17 rfl (Nat.le_of_ble_eq_true rfl) rfl rfl (by kernel_rfl) ?_
  refine XL.nil ?_
  refine XQ.then ?_
  refine hK15 _ _ _ _ ?_
  refine XC.block ?_
  refine XC.loop (fun kk0 ll0 ww0 => ∃ (i : Nat) (A : List T2) (pv : Option Addr) (cp2 : Nat), ll0 = [(0, .slice p t.length cp), (2, vI x), (5, vP b5 0), (7, vP b7 0), (9, vP b9 0), (15, .slice p t.length cp), (16, vI (t.length : Int)), (17, vI (i : Int))] ∧ kk0 = t.length - i ∧ (i ≤ t.length) ∧ (A = outT s x (t.take i)) ∧ (A.length ≤ i) ∧ HP Tr w ww0 [.cel b5 #[vI s, vI y, vI l, vI m] 23, .cel b7 #[vI d] 3, rowT pv A.length cp2 A, .cel b9 #[.slice pv A.length cp2] 88]) (t.length) [(0, .slice p t.length cp), (2, vI x), (5, vP b5 0), (7, vP b7 0), (9, vP b9 0), (15, .slice p t.length cp), (16, vI (t.length : Int)), (17, vI 0)] ⟨rfl, rfl, rfl, rfl, rfl, rfl, rfl, rfl, trivial⟩ ⟨0, [], (some ⟨b14, 0, none⟩), 0, rfl, rfl, Nat.zero_le _, by simp [outT], Nat.zero_le _, hH16⟩ ?_
  rintro kk l w18 ⟨i, A, pv, cp2, rfl, hkk, hi, hA, hAl, hH19⟩ K17 hK17
  refine XC.seq fun K20 hK20 => ?_
  refine XC.region ?_
  by_cases hlt : (i : Int) < (t.length : Int)
  ·
    refine XL.pure (v := .bool true) 18 rfl (Nat.le_of_ble_eq_true rfl) rfl rfl (x_lss rfl rfl rfl (dT (hlt))) ?_
    refine XL.nil ?_
    refine XQ.then ?_
    refine hK20 _ _ _ _ ?_
    refine XC.seq fun K21 hK21 => ?_
    refine XC.yes rfl ?_
    refine XC.skip ?_
    refine XQ.then ?_
    refine hK21 _ _ _ _ ?_
    refine XC.seq fun K22 hK22 => ?_
    refine XC.block ?_
    refine XC.seq fun K23 hK23 => ?_
    obtain ⟨g, o, rfl, hrow⟩ := hT (by omega)
    have hot := out_take (s := s) (x := x) (show i < t.length by omega)
    refine XC.region ?_
    refine XL.pure (v := vP g (o + i * 2)) 19 rfl (Nat.le_of_ble_eq_true rfl) rfl rfl (x_idx (i) (o + i * 2) rfl rfl rfl Try.underlying88 sz83 (by omega) (by omega) (by omega)) ?_
    refine XL.pure (v := .agg #[vI (lnT t i), vI (agT t i)]) 20 rfl (Nat.le_of_ble_eq_true rfl) rfl rfl (x_loadS (cs := [vI (lnT t i), vI (agT t i)]) rfl rfl Try.underlying83 rfl sz83 (HP.oldRange hH19 trivial (hrow i (by omega)))) ?_
    refine XL.alloc (c := #[vI 0, vI 0]) (T := 83) hH19 11 rfl (by decide) rfl rfl (fun b11 => vP b11 0) (by kernel_rfl) (fun b11 w24 hw24 => ?_)
    have hH25 : HP Tr w w24 [.cel b5 #[vI s, vI y, vI l, vI m] 23, .cel b7 #[vI d] 3, rowT pv A.length cp2 A, .cel b9 #[.slice pv A.length cp2] 88, .cel b11 #[vI 0, vI 0] 83] := hw24.2
    have nb11 := hw24.1
    clear hw24
    refine XL.storeS (H2 := [.cel b5 #[vI s, vI y, vI l, vI m] 23, .cel b7 #[vI d] 3, rowT pv A.length cp2 A, .cel b9 #[.slice pv A.length cp2] 88, .cel b11 #[vI (lnT t i), vI (agT t i)] 83]) 4 hH25 rfl rfl rfl rfl rfl rfl sz83 rfl (Nat.le_of_ble_eq_true rfl) rfl rfl ?_
    intro w26 hH27
    refine XL.nil ?_
    refine XQ.then ?_
    refine hK23 _ _ _ _ ?_
    refine XC.seq fun K28 hK28 => ?_
    by_cases hx2 : (lnT t i).tmod s = x.tmod s
    ·
      rw [if_neg (fun h => h hx2), List.append_nil] at hot
      refine XC.confH (γ := Unit) [(11, vP b11 0), (20, .agg #[vI (lnT t i), vI (agT t i)]), (19, vP g (o + i * 2)), (18, .bool true), (0, .slice (some ⟨g, o, none⟩) t.length cp), (2, vI x), (5, vP b5 0), (7, vP b7 0), (9, vP b9 0), (15, .slice (some ⟨g, o, none⟩) t.length cp), (16, vI (t.length : Int)), (17, vI (i : Int))] (fun gy => [vP b11 0, vI (lnT t i), vP b5 0, vI s, vI ((lnT t i).tmod s), vI x, vP b5 0, vI s, vI (x.tmod s), .bool false]) (fun gy D wz => HP Tr w wz [.cel b5 #[vI s, vI y, vI l, vI m] 23, .cel b7 #[vI d] 3, rowT pv A.length cp2 A, .cel b9 #[.slice pv A.length cp2] 88, .cel b11 #[vI (lnT t i), vI (agT t i)] 83]) () (by kernel_rfl) ⟨rfl, rfl, rfl, rfl, rfl, rfl, rfl, rfl, rfl, rfl, rfl, rfl, trivial⟩ (by kernel_rfl) (by kernel_rfl) (by kernel_rfl) (fun _ => rfl) (by kernel_rfl) (HP.drew hH27) ?_ ?_
      · refine AllOkX.cons ?o0 (AllOkX.cons ?o1 (AllOkX.cons ?o2 (AllOkX.cons ?o3 (AllOkX.cons ?o4 (AllOkX.cons ?o5 (AllOkX.cons ?o6 (AllOkX.cons ?o7 (AllOkX.cons ?o8 (AllOkX.cons ?o9 (AllOkX.nil _))))))))))
        case o0 =>
          intro gy D wz hDi hdep hclo hW
          exact .inl ⟨rfl, rfl, .inl ⟨gy, wz, fun _ _ => rfl, x_idxArr (0) (0) rfl rfl rfl Try.underlying83 sz3 (by omega) (by omega) (by omega), hW⟩⟩
        case o1 =>
          intro gy D wz hDi hdep hclo hW
          exact .inl ⟨rfl, rfl, .inl ⟨gy, wz, fun _ _ => rfl, x_load rfl rfl Try.underlying3 rfl (HP.cell hW 4 rfl rfl), hW⟩⟩
        case o2 =>
          intro gy D wz hDi hdep hclo hW
          exact .inl ⟨rfl, rfl, .inl ⟨gy, wz, fun _ _ => rfl, by kernel_rfl, hW⟩⟩
        case o3 =>
          intro gy D wz hDi hdep hclo hW
          exact .inl ⟨rfl, rfl, .inl ⟨gy, wz, fun _ _ => rfl, x_load rfl rfl Try.underlying3 rfl (HP.cell hW 0 rfl rfl), hW⟩⟩
        case o4 =>
          intro gy D wz hDi hdep hclo hW
          exact .inl ⟨rfl, rfl, .inl ⟨gy, wz, fun _ _ => rfl, x_rem rfl rfl rfl hs0 rfl, hW⟩⟩
        case o5 =>
          intro gy D wz hDi hdep hclo hW
          exact .inl ⟨rfl, rfl, .inl ⟨gy, wz, fun _ _ => rfl, by kernel_rfl, hW⟩⟩
        case o6 =>
          intro gy D wz hDi hdep hclo hW
          exact .inl ⟨rfl, rfl, .inl ⟨gy, wz, fun _ _ => rfl, by kernel_rfl, hW⟩⟩
        case o7 =>
          intro gy D wz hDi hdep hclo hW
          exact .inl ⟨rfl, rfl, .inl ⟨gy, wz, fun _ _ => rfl, x_load rfl rfl Try.underlying3 rfl (HP.cell hW 0 rfl rfl), hW⟩⟩
        case o8 =>
          intro gy D wz hDi hdep hclo hW
          exact .inl ⟨rfl, rfl, .inl ⟨gy, wz, fun _ _ => rfl, x_rem rfl rfl rfl hs0 rfl, hW⟩⟩
        case o9 =>
          intro gy D wz hDi hdep hclo hW
          exact .inl ⟨rfl, rfl, .inl ⟨gy, wz, fun _ _ => rfl, x_neq rfl rfl rfl (dF (fun h => h hx2)), hW⟩⟩
      rintro gy D w29 hall hH30
      clear hall
      refine XQ.sub (l' := [(0, .slice (some ⟨g, o, none⟩) t.length cp), (2, vI x), (5, vP b5 0), (7, vP b7 0), (9, vP b9 0), (11, vP b11 0), (15, .slice (some ⟨g, o, none⟩) t.length cp), (16, vI (t.length : Int)), (17, vI (i : Int)), (18, .bool true), (30, .bool false)]) ⟨rfl, rfl, rfl, rfl, rfl, rfl, rfl, rfl, rfl, rfl, rfl, trivial⟩ ?_
      refine XQ.then ?_
      refine hK28 _ _ _ _ ?_
      refine XC.no rfl ?_
      refine XC.skip ?_
      refine XQ.inNormal ?_
      refine XQ.then ?_
      refine hK22 _ _ _ _ ?_
      refine XC.region ?_
      refine XL.pure (v := vI ((i + 1 : Nat) : Int)) 35 rfl (Nat.le_of_ble_eq_true rfl) rfl rfl (x_add (Z := ((i + 1 : Nat) : Int)) rfl rfl rfl (by omega) (by omega) (by omega)) ?_
      refine XL.pure (v := vI ((i + 1 : Nat) : Int)) 17 rfl (Nat.le_of_ble_eq_true rfl) rfl rfl (by kernel_rfl) ?_
      refine XL.nil ?_
      refine XQ.sub (l' := [(0, .slice (some ⟨g, o, none⟩) t.length cp), (2, vI x), (5, vP b5 0), (7, vP b7 0), (9, vP b9 0), (15, .slice (some ⟨g, o, none⟩) t.length cp), (16, vI (t.length : Int)), (17, vI ((i + 1 : Nat) : Int))]) ⟨rfl, rfl, rfl, rfl, rfl, rfl, rfl, rfl, trivial⟩ ?_
      refine XQ.then (hK17 _ _ _ (by omega) ⟨i + 1, A, pv, cp2, rfl, rfl, by omega, by rw [hot, hA], by first | omega | (simp; omega), (HP.drop hH30 4)⟩)
    ·
      rw [if_pos hx2] at hot
      refine XC.confH (γ := Unit) [(11, vP b11 0), (20, .agg #[vI (lnT t i), vI (agT t i)]), (19, vP g (o + i * 2)), (18, .bool true), (0, .slice (some ⟨g, o, none⟩) t.length cp), (2, vI x), (5, vP b5 0), (7, vP b7 0), (9, vP b9 0), (15, .slice (some ⟨g, o, none⟩) t.length cp), (16, vI (t.length : Int)), (17, vI (i : Int))] (fun gy => [vP b11 0, vI (lnT t i), vP b5 0, vI s, vI ((lnT t i).tmod s), vI x, vP b5 0, vI s, vI (x.tmod s), .bool true]) (fun gy D wz => HP Tr w wz [.cel b5 #[vI s, vI y, vI l, vI m] 23, .cel b7 #[vI d] 3, rowT pv A.length cp2 A, .cel b9 #[.slice pv A.length cp2] 88, .cel b11 #[vI (lnT t i), vI (agT t i)] 83]) () (by kernel_rfl) ⟨rfl, rfl, rfl, rfl, rfl, rfl, rfl, rfl, rfl, rfl, rfl, rfl, trivial⟩ (by kernel_rfl) (by kernel_rfl) (by kernel_rfl) (fun _ => rfl) (by kernel_rfl) (HP.drew hH27) ?_ ?_
      · refine AllOkX.cons ?o0 (AllOkX.cons ?o1 (AllOkX.cons ?o2 (AllOkX.cons ?o3 (AllOkX.cons ?o4 (AllOkX.cons ?o5 (AllOkX.cons ?o6 (AllOkX.cons ?o7 (AllOkX.cons ?o8 (AllOkX.cons ?o9 (AllOkX.nil _))))))))))
        case o0 =>
          intro gy D wz hDi hdep hclo hW
          exact .inl ⟨rfl, rfl, .inl ⟨gy, wz, fun _ _ => rfl, x_idxArr (0) (0) rfl rfl rfl Try.underlying83 sz3 (by omega) (by omega) (by omega), hW⟩⟩
        case o1 =>
          intro gy D wz hDi hdep hclo hW
          exact .inl ⟨rfl, rfl, .inl ⟨gy, wz, fun _ _ => rfl, x_load rfl rfl Try.underlying3 rfl (HP.cell hW 4 rfl rfl), hW⟩⟩
        case o2 =>
          intro gy D wz hDi hdep hclo hW
          exact .inl ⟨rfl, rfl, .inl ⟨gy, wz, fun _ _ => rfl, by kernel_rfl, hW⟩⟩
        case o3 =>
          intro gy D wz hDi hdep hclo hW
          exact .inl ⟨rfl, rfl, .inl ⟨gy, wz, fun _ _ => rfl, x_load rfl rfl Try.underlying3 rfl (HP.cell hW 0 rfl rfl), hW⟩⟩
        case o4 =>
          intro gy D wz hDi hdep hclo hW
          exact .inl ⟨rfl, rfl, .inl ⟨gy, wz, fun _ _ => rfl, x_rem rfl rfl rfl hs0 rfl, hW⟩⟩
        case o5 =>
          intro gy D wz hDi hdep hclo hW
          exact .inl ⟨rfl, rfl, .inl ⟨gy, wz, fun _ _ => rfl, by kernel_rfl, hW⟩⟩
        case o6 =>
          intro gy D wz hDi hdep hclo hW
          exact .inl ⟨rfl, rfl, .inl ⟨gy, wz, fun _ _ => rfl, by kernel_rfl, hW⟩⟩
        case o7 =>
          intro gy D wz hDi hdep hclo hW
          exact .inl ⟨rfl, rfl, .inl ⟨gy, wz, fun _ _ => rfl, x_load rfl rfl Try.underlying3 rfl (HP.cell hW 0 rfl rfl), hW⟩⟩
        case o8 =>
          intro gy D wz hDi hdep hclo hW
          exact .inl ⟨rfl, rfl, .inl ⟨gy, wz, fun _ _ => rfl, x_rem rfl rfl rfl hs0 rfl, hW⟩⟩
        case o9 =>
          intro gy D wz hDi hdep hclo hW
          exact .inl ⟨rfl, rfl, .inl ⟨gy, wz, fun _ _ => rfl, x_neq rfl rfl rfl (dT (hx2)), hW⟩⟩
      rintro gy D w31 hall hH32
      clear hall
      refine XQ.sub (l' := [(0, .slice (some ⟨g, o, none⟩) t.length cp), (2, vI x), (5, vP b5 0), (7, vP b7 0), (9, vP b9 0), (11, vP b11 0), (15, .slice (some ⟨g, o, none⟩) t.length cp), (16, vI (t.length : Int)), (17, vI (i : Int)), (18, .bool true), (30, .bool true)]) ⟨rfl, rfl, rfl, rfl, rfl, rfl, rfl, rfl, rfl, rfl, rfl, trivial⟩ ?_
      refine XQ.then ?_
      refine hK28 _ _ _ _ ?_
      refine XC.yes rfl ?_
      refine XC.region ?_
      refine XL.pure (v := .slice pv A.length cp2) 31 rfl (Nat.le_of_ble_eq_true rfl) rfl rfl (x_load rfl rfl Try.underlying88 rfl (HP.cell hH32 3 rfl rfl)) ?_
      refine XL.pure (v := .agg #[vI (lnT t i), vI (agT t i)]) 32 rfl (Nat.le_of_ble_eq_true rfl) rfl rfl (x_loadS (cs := [vI (lnT t i), vI (agT t i)]) rfl rfl Try.underlying83 rfl sz83 (HP.range hH32 4 rfl rfl)) ?_
      refine XL.alloc (c := #[vI (lnT t i), vI (agT t i)]) (T := 83) hH32 33 rfl (by decide) rfl rfl (fun b33 => vS b33 1 1) (by kernel_rfl) (fun b33 w33 hw33 => ?_)
      have hH34 : HP Tr w w33 [.cel b5 #[vI s, vI y, vI l, vI m] 23, .cel b7 #[vI d] 3, rowT pv A.length cp2 A, .cel b9 #[.slice pv A.length cp2] 88, .cel b11 #[vI (lnT t i), vI (agT t i)] 83, .cel b33 #[vI (lnT t i), vI (agT t i)] 83] := hw33.2
      have nb33 := hw33.1
      clear hw33
      obtain ⟨i0, hi0, hz0, hz1, hz2⟩ := infoT
      refine XL.append (news := [vI (lnT t i), vI (agT t i)]) 2 5 hH34 34 rfl (by decide) rfl rfl rfl rfl Try.underlying88 hi0 hz0 hz1 hz2 rfl (by decide) rfl rfl rfl rfl (by simp [Value.oneCell']) (by unfold maxLen; omega) (by omega) ?_
      rintro v7 w7 - hA7
      obtain ⟨pv7, cp7, rfl⟩ := own_row (HP.get hA7 2 rfl)
      have e7 : A.length + 1 = (A ++ [(lnT t i, agT t i)]).length := (len1 _ _).symm
      rw [tL_push, e7] at hA7
      rw [e7]
      have hH35 : HP Tr w _ [.cel b5 #[vI s, vI y, vI l, vI m] 23, .cel b7 #[vI d] 3, rowT pv7 (A ++ [(lnT t i, agT t i)]).length cp7 (A ++ [(lnT t i, agT t i)]), .cel b9 #[.slice pv A.length cp2] 88, .cel b11 #[vI (lnT t i), vI (agT t i)] 83, .cel b33 #[vI (lnT t i), vI (agT t i)] 83] := hA7
      refine XL.store (H2 := [.cel b5 #[vI s, vI y, vI l, vI m] 23, .cel b7 #[vI d] 3, rowT pv7 (A ++ [(lnT t i, agT t i)]).length cp7 (A ++ [(lnT t i, agT t i)]), .cel b9 #[.slice pv7 ((A ++ [(lnT t i, agT t i)]).length) cp7] 88, .cel b11 #[vI (lnT t i), vI (agT t i)] 83, .cel b33 #[vI (lnT t i), vI (agT t i)] 83]) 3 hH35 rfl rfl rfl rfl rfl rfl sz88 rfl (Nat.le_of_ble_eq_true rfl) rfl rfl ?_
      intro w36 hH37
      refine XL.nil ?_
      refine XQ.inNormal ?_
      refine XQ.then ?_
      refine hK22 _ _ _ _ ?_
      refine XC.region ?_
      refine XL.pure (v := vI ((i + 1 : Nat) : Int)) 35 rfl (Nat.le_of_ble_eq_true rfl) rfl rfl (x_add (Z := ((i + 1 : Nat) : Int)) rfl rfl rfl (by omega) (by omega) (by omega)) ?_
      refine XL.pure (v := vI ((i + 1 : Nat) : Int)) 17 rfl (Nat.le_of_ble_eq_true rfl) rfl rfl (by kernel_rfl) ?_
      refine XL.nil ?_
      refine XQ.sub (l' := [(0, .slice (some ⟨g, o, none⟩) t.length cp), (2, vI x), (5, vP b5 0), (7, vP b7 0), (9, vP b9 0), (15, .slice (some ⟨g, o, none⟩) t.length cp), (16, vI (t.length : Int)), (17, vI ((i + 1 : Nat) : Int))]) ⟨rfl, rfl, rfl, rfl, rfl, rfl, rfl, rfl, trivial⟩ ?_
      refine XQ.then (hK17 _ _ _ (by omega) ⟨i + 1, (A ++ [(lnT t i, agT t i)]), pv7, cp7, rfl, rfl, by omega, by rw [hot, hA], by first | omega | (simp; omega), (HP.drop (HP.drop hH37 5) 4)⟩)
  ·
    refine XL.pure (v := .bool false) 18 rfl (Nat.le_of_ble_eq_true rfl) rfl rfl (x_lss rfl rfl rfl (dF (hlt))) ?_
    refine XL.nil ?_
    refine XQ.then ?_
    refine hK20 _ _ _ _ ?_
    refine XC.seq fun K38 hK38 => ?_
    refine XC.no rfl ?_
    refine XC.exit ?_
    refine XQ.thenExit ?_
    refine XQ.thenExit ?_
    refine XQ.inExit ?_
    refine XQ.then ?_
    refine hK14 _ _ _ _ ?_
    refine XC.seq fun K39 hK39 => ?_
    refine XC.seq fun K40 hK40 => ?_
    refine XC.region ?_
    refine XL.pure (v := .slice p t.length cp) 36 rfl (Nat.le_of_ble_eq_true rfl) rfl rfl (by kernel_rfl) ?_
    refine XL.pure (v := vP b5 0) 37 rfl (Nat.le_of_ble_eq_true rfl) rfl rfl (by kernel_rfl) ?_
    refine XL.pure (v := vI s) 38 rfl (Nat.le_of_ble_eq_true rfl) rfl rfl (x_load rfl rfl Try.underlying3 rfl (HP.cell hH19 0 rfl rfl)) ?_
    refine XL.pure (v := vI x) 39 rfl (Nat.le_of_ble_eq_true rfl) rfl rfl (by kernel_rfl) ?_
    have hA9 : A = outT s x t := by rw [hA, List.take_of_length_le (by omega)]
    subst hA9
    refine XL.call (f := 97) (args := #[.slice p t.length cp, vI s, vI x]) 40 rfl (Nat.le_of_ble_eq_true rfl) rfl rfl (by kernel_rfl) ?_
    refine (others_any p t cp s x _).mono ?_
    rintro e w41 ⟨q3, q4, q5, rfl, hb42⟩
    refine ⟨_, rfl, ?_⟩
    have hH43 : HP Tr w _ [.cel b5 #[vI s, vI y, vI l, vI m] 23, .cel b7 #[vI d] 3, rowT pv (outT s x t).length cp2 (outT s x t), .cel b9 #[.slice pv (outT s x t).length cp2] 88, .cel q3 #[.slice p t.length cp] 88, .cel q4 #[vI s] 3, .cel q5 #[vI x] 3] := HP.trans hH19 hb42
    refine XL.nil ?_
    refine XQ.then ?_
    refine hK40 _ _ _ _ ?_
    refine XC.block ?_
    have hbase : outT s x t = outT s x t ++ oldT y d [] := by simp [oldT]
    have hW8 := hH43
    have hosl := osA_len s x ta
    have houl := outT_len s x t
    have hl9 : t.length = ta.length := by rw [ht9]; simp
    refine XC.rangeFunc2 (w0 := w) (Hf := fun (pre : List TV) (gx : Option Addr × Nat) => [Go.Proofs.Ytmjnakhpekbenaa.Fw.Ent.cel b5 #[vI s, vI y, vI l, vI m] 23, Go.Proofs.Ytmjnakhpekbenaa.Fw.Ent.cel b7 #[vI d] 3, rowT gx.1 (outT s x t ++ oldT y d pre).length gx.2 (outT s x t ++ oldT y d pre), Go.Proofs.Ytmjnakhpekbenaa.Fw.Ent.cel b9 #[.slice gx.1 (outT s x t ++ oldT y d pre).length gx.2] 88, Go.Proofs.Ytmjnakhpekbenaa.Fw.Ent.cel q3 #[.slice p t.length cp] 88, Go.Proofs.Ytmjnakhpekbenaa.Fw.Ent.cel q4 #[vI s] 3, Go.Proofs.Ytmjnakhpekbenaa.Fw.Ent.cel q5 #[vI x] 3]) (KB := [q3, q4, q5]) rfl (enters_of Try.func111 (by kernel_rfl) rfl) (fun q : TV => vI q.1.1) (fun q : TV => vI q.1.2) (others_stops w.heap.size _ q3 q4 q5 p ta t ht9 cp s x hs0 (by omega) (HP.below hW8).size (rd_of hW8 hT (by simp) (by simp) (by simp))) ?_ (pv, cp2) (HP.eq hW8 (by simp [oldT])) (by decide) (by decide) (by decide) (by decide) (by decide) (by decide) ?_ ?_
    · intro bb hbb
      simp only [List.mem_cons, List.not_mem_nil, or_false] at hbb
      rcases hbb with rfl | rfl | rfl
      · exact ⟨_, _, fun pre gx => List.mem_of_getElem? (i := 4) rfl⟩
      · exact ⟨_, _, fun pre gx => List.mem_of_getElem? (i := 5) rfl⟩
      · exact ⟨_, _, fun pre gx => List.mem_of_getElem? (i := 6) rfl⟩
    · rintro ll pre qx W ⟨pv9, cp9⟩ hlt hOB
      have hold9 := oldT_len y d pre
      have hqx := qx.2
      have hH44 : HP (Out [Go.Proofs.Ytmjnakhpekbenaa.Fw.Ent.cel b5 #[vI s, vI y, vI l, vI m] 23, Go.Proofs.Ytmjnakhpekbenaa.Fw.Ent.cel b7 #[vI d] 3, rowT pv9 (outT s x t ++ oldT y d pre).length cp9 (outT s x t ++ oldT y d pre), Go.Proofs.Ytmjnakhpekbenaa.Fw.Ent.cel b9 #[.slice pv9 (outT s x t ++ oldT y d pre).length cp9] 88, Go.Proofs.Ytmjnakhpekbenaa.Fw.Ent.cel q3 #[.slice p t.length cp] 88, Go.Proofs.Ytmjnakhpekbenaa.Fw.Ent.cel q4 #[vI s] 3, Go.Proofs.Ytmjnakhpekbenaa.Fw.Ent.cel q5 #[vI x] 3]) W W [.cel b5 #[vI s, vI y, vI l, vI m] 23, .cel b7 #[vI d] 3, rowT pv9 (outT s x t ++ oldT y d pre).length cp9 (outT s x t ++ oldT y d pre), .cel b9 #[.slice pv9 (outT s x t ++ oldT y d pre).length cp9] 88, .cel q3 #[.slice p t.length cp] 88, .cel q4 #[vI s] 3, .cel q5 #[vI x] 3] := HP.startB hOB
      refine XC.block ?_
      refine XC.seq fun K45 hK45 => ?_
      refine XC.seq fun K46 hK46 => ?_
      refine XC.region ?_
      refine XL.pure (v := vI qx.1.2) 43 rfl (Nat.le_of_ble_eq_true rfl) rfl rfl (by kernel_rfl) ?_
      refine XL.pure (v := vI d) 44 rfl (Nat.le_of_ble_eq_true rfl) rfl rfl (x_load rfl rfl Try.underlying3 rfl (HP.cell hH44 1 rfl rfl)) ?_
      by_cases h45 : qx.1.2 < d
      ·
        refine XL.pure (v := .bool true) 45 rfl (Nat.le_of_ble_eq_true rfl) rfl rfl (x_lss rfl rfl rfl (dT (h45))) ?_
        refine XL.nil ?_
        refine XQ.then ?_
        refine hK46 _ _ _ _ ?_
        refine XC.sub (l' := [(0, .slice p t.length cp), (2, vI x), (5, vP b5 0), (7, vP b7 0), (9, vP b9 0), (12, vI qx.1.1), (13, vI qx.1.2), (15, .slice p t.length cp), (16, vI (t.length : Int)), (17, vI (i : Int)), (18, .bool false), (45, .bool true)]) ⟨rfl, rfl, rfl, rfl, rfl, rfl, rfl, rfl, rfl, rfl, rfl, rfl, trivial⟩ ?_
        refine XC.yes rfl ?_
        refine XC.region ?_
        refine XL.pure (v := vI qx.1.2) 46 rfl (Nat.le_of_ble_eq_true rfl) rfl rfl (by kernel_rfl) ?_
        refine XL.pure (v := vI (qx.1.2 + 1)) 47 rfl (Nat.le_of_ble_eq_true rfl) rfl rfl (x_add (Z := qx.1.2 + 1) rfl rfl rfl (by omega) (by omega) (by omega)) ?_
        refine XL.pure (v := vI (qx.1.2 + 1)) 13 rfl (Nat.le_of_ble_eq_true rfl) rfl rfl (by kernel_rfl) ?_
        refine XL.nil ?_
        refine XQ.then ?_
        refine hK45 _ _ _ _ ?_
        refine XC.seq fun K47 hK47 => ?_
        refine XC.region ?_
        refine XL.pure (v := vI (qx.1.2 + 1)) 48 rfl (Nat.le_of_ble_eq_true rfl) rfl rfl (by kernel_rfl) ?_
        refine XL.pure (v := vP b5 1) 49 rfl (Nat.le_of_ble_eq_true rfl) rfl rfl (by kernel_rfl) ?_
        refine XL.pure (v := vI y) 50 rfl (Nat.le_of_ble_eq_true rfl) rfl rfl (x_load rfl rfl Try.underlying3 rfl (HP.cell hH44 0 rfl rfl)) ?_
        by_cases h51 : qx.1.2 + 1 < y
        ·
          refine XL.pure (v := .bool true) 51 rfl (Nat.le_of_ble_eq_true rfl) rfl rfl (x_lss rfl rfl rfl (dT (h51))) ?_
          refine XL.nil ?_
          refine XQ.then ?_
          refine hK47 _ _ _ _ ?_
          refine XC.sub (l' := [(0, .slice p t.length cp), (2, vI x), (5, vP b5 0), (7, vP b7 0), (9, vP b9 0), (12, vI qx.1.1), (13, vI (qx.1.2 + 1)), (15, .slice p t.length cp), (16, vI (t.length : Int)), (17, vI (i : Int)), (18, .bool false), (45, .bool true), (51, .bool true)]) ⟨rfl, rfl, rfl, rfl, rfl, rfl, rfl, rfl, rfl, rfl, rfl, rfl, rfl, trivial⟩ ?_
          refine XC.yes rfl ?_
          refine XC.region ?_
          refine XL.pure (v := .slice pv9 ((outT s x t ++ oldT y d pre).length) cp9) 52 rfl (Nat.le_of_ble_eq_true rfl) rfl rfl (x_load rfl rfl Try.underlying88 rfl (HP.cell hH44 3 rfl rfl)) ?_
          refine XL.pure (v := vI qx.1.1) 53 rfl (Nat.le_of_ble_eq_true rfl) rfl rfl (by kernel_rfl) ?_
          refine XL.pure (v := vI (qx.1.2 + 1)) 54 rfl (Nat.le_of_ble_eq_true rfl) rfl rfl (by kernel_rfl) ?_
          refine XL.pure (v := .agg #[vI qx.1.1, vI (qx.1.2 + 1)]) 55 rfl (Nat.le_of_ble_eq_true rfl) rfl rfl (by kernel_rfl) ?_
          refine XL.alloc (c := #[vI qx.1.1, vI (qx.1.2 + 1)]) (T := 83) hH44 56 rfl (by decide) rfl rfl (fun b56 => vS b56 1 1) (by kernel_rfl) (fun b56 w48 hw48 => ?_)
          have hH49 : HP (Out [Go.Proofs.Ytmjnakhpekbenaa.Fw.Ent.cel b5 #[vI s, vI y, vI l, vI m] 23, Go.Proofs.Ytmjnakhpekbenaa.Fw.Ent.cel b7 #[vI d] 3, rowT pv9 (outT s x t ++ oldT y d pre).length cp9 (outT s x t ++ oldT y d pre), Go.Proofs.Ytmjnakhpekbenaa.Fw.Ent.cel b9 #[.slice pv9 (outT s x t ++ oldT y d pre).length cp9] 88, Go.Proofs.Ytmjnakhpekbenaa.Fw.Ent.cel q3 #[.slice p t.length cp] 88, Go.Proofs.Ytmjnakhpekbenaa.Fw.Ent.cel q4 #[vI s] 3, Go.Proofs.Ytmjnakhpekbenaa.Fw.Ent.cel q5 #[vI x] 3]) W w48 [.cel b5 #[vI s, vI y, vI l, vI m] 23, .cel b7 #[vI d] 3, rowT pv9 (outT s x t ++ oldT y d pre).length cp9 (outT s x t ++ oldT y d pre), .cel b9 #[.slice pv9 (outT s x t ++ oldT y d pre).length cp9] 88, .cel q3 #[.slice p t.length cp] 88, .cel q4 #[vI s] 3, .cel q5 #[vI x] 3, .cel b56 #[vI qx.1.1, vI (qx.1.2 + 1)] 83] := hw48.2
          have nb56 := hw48.1
          clear hw48
          obtain ⟨i0, hi0, hz0, hz1, hz2⟩ := infoT
          refine XL.append (news := [vI qx.1.1, vI (qx.1.2 + 1)]) 2 7 hH49 57 rfl (by decide) rfl rfl rfl rfl Try.underlying88 hi0 hz0 hz1 hz2 rfl (by decide) rfl rfl rfl rfl (by simp [Value.oneCell']) (by unfold maxLen; rw [List.length_append]; omega) (by rw [List.length_append]; omega) ?_
          rintro v7 w7 - hA7
          obtain ⟨pv7, cp7, rfl⟩ := own_row (HP.get hA7 2 rfl)
          have e7 : (outT s x t ++ oldT y d pre).length + 1 = ((outT s x t ++ oldT y d pre) ++ [(qx.1.1, qx.1.2 + 1)]).length := (len1 _ _).symm
          rw [tL_push, e7] at hA7
          rw [e7]
          have hH50 : HP (Out [Go.Proofs.Ytmjnakhpekbenaa.Fw.Ent.cel b5 #[vI s, vI y, vI l, vI m] 23, Go.Proofs.Ytmjnakhpekbenaa.Fw.Ent.cel b7 #[vI d] 3, rowT pv9 (outT s x t ++ oldT y d pre).length cp9 (outT s x t ++ oldT y d pre), Go.Proofs.Ytmjnakhpekbenaa.Fw.Ent.cel b9 #[.slice pv9 (outT s x t ++ oldT y d pre).length cp9] 88, Go.Proofs.Ytmjnakhpekbenaa.Fw.Ent.cel q3 #[.slice p t.length cp] 88, Go.Proofs.Ytmjnakhpekbenaa.Fw.Ent.cel q4 #[vI s] 3, Go.Proofs.Ytmjnakhpekbenaa.Fw.Ent.cel q5 #[vI x] 3]) W _ [.cel b5 #[vI s, vI y, vI l, vI m] 23, .cel b7 #[vI d] 3, rowT pv7 ((outT s x t ++ oldT y d pre) ++ [(qx.1.1, qx.1.2 + 1)]).length cp7 ((outT s x t ++ oldT y d pre) ++ [(qx.1.1, qx.1.2 + 1)]), .cel b9 #[.slice pv9 (outT s x t ++ oldT y d pre).length cp9] 88, .cel q3 #[.slice p t.length cp] 88, .cel q4 #[vI s] 3, .cel q5 #[vI x] 3, .cel b56 #[vI qx.1.1, vI (qx.1.2 + 1)] 83] := hA7
          refine XL.store (H2 := [.cel b5 #[vI s, vI y, vI l, vI m] 23, .cel b7 #[vI d] 3, rowT pv7 ((outT s x t ++ oldT y d pre) ++ [(qx.1.1, qx.1.2 + 1)]).length cp7 ((outT s x t ++ oldT y d pre) ++ [(qx.1.1, qx.1.2 + 1)]), .cel b9 #[.slice pv7 (((outT s x t ++ oldT y d pre) ++ [(qx.1.1, qx.1.2 + 1)]).length) cp7] 88, .cel q3 #[.slice p t.length cp] 88, .cel q4 #[vI s] 3, .cel q5 #[vI x] 3, .cel b56 #[vI qx.1.1, vI (qx.1.2 + 1)] 83]) 3 hH50 rfl rfl rfl rfl rfl rfl sz88 rfl (Nat.le_of_ble_eq_true rfl) rfl rfl ?_
          intro w51 hH52
          refine XL.nil ?_
          refine XQ.inNormal ?_
          exact fun _ _ => ⟨(pv7, cp7), HP.eq (HP.drop hH52 7) (by rw [old_snoc, show old1 y d qx.1 = [(qx.1.1, qx.1.2 + 1)] by unfold old1; simp [h45, h51], ← List.append_assoc]; rfl)⟩
        ·
          refine XL.pure (v := .bool false) 51 rfl (Nat.le_of_ble_eq_true rfl) rfl rfl (x_lss rfl rfl rfl (dF (h51))) ?_
          refine XL.nil ?_
          refine XQ.then ?_
          refine hK47 _ _ _ _ ?_
          refine XC.sub (l' := [(0, .slice p t.length cp), (2, vI x), (5, vP b5 0), (7, vP b7 0), (9, vP b9 0), (12, vI qx.1.1), (13, vI (qx.1.2 + 1)), (15, .slice p t.length cp), (16, vI (t.length : Int)), (17, vI (i : Int)), (18, .bool false), (45, .bool true), (51, .bool false)]) ⟨rfl, rfl, rfl, rfl, rfl, rfl, rfl, rfl, rfl, rfl, rfl, rfl, rfl, trivial⟩ ?_
          refine XC.no rfl ?_
          refine XC.skip ?_
          refine XQ.inNormal ?_
          exact fun _ _ => ⟨(pv9, cp9), HP.eq hH44 (by rw [old_snoc, show old1 y d qx.1 = [] by unfold old1; simp [h45, h51], List.append_nil])⟩
      ·
        refine XL.pure (v := .bool false) 45 rfl (Nat.le_of_ble_eq_true rfl) rfl rfl (x_lss rfl rfl rfl (dF (h45))) ?_
        refine XL.nil ?_
        refine XQ.then ?_
        refine hK46 _ _ _ _ ?_
        refine XC.sub (l' := [(0, .slice p t.length cp), (2, vI x), (5, vP b5 0), (7, vP b7 0), (9, vP b9 0), (12, vI qx.1.1), (13, vI qx.1.2), (15, .slice p t.length cp), (16, vI (t.length : Int)), (17, vI (i : Int)), (18, .bool false), (45, .bool false)]) ⟨rfl, rfl, rfl, rfl, rfl, rfl, rfl, rfl, rfl, rfl, rfl, rfl, trivial⟩ ?_
        refine XC.no rfl ?_
        refine XC.skip ?_
        refine XQ.then ?_
        refine hK45 _ _ _ _ ?_
        refine XC.seq fun K53 hK53 => ?_
        refine XC.region ?_
        refine XL.pure (v := vI qx.1.2) 48 rfl (Nat.le_of_ble_eq_true rfl) rfl rfl (by kernel_rfl) ?_
        refine XL.pure (v := vP b5 1) 49 rfl (Nat.le_of_ble_eq_true rfl) rfl rfl (by kernel_rfl) ?_
        refine XL.pure (v := vI y) 50 rfl (Nat.le_of_ble_eq_true rfl) rfl rfl (x_load rfl rfl Try.underlying3 rfl (HP.cell hH44 0 rfl rfl)) ?_
        by_cases h51 : qx.1.2 < y
        ·
          refine XL.pure (v := .bool true) 51 rfl (Nat.le_of_ble_eq_true rfl) rfl rfl (x_lss rfl rfl rfl (dT (h51))) ?_
          refine XL.nil ?_
          refine XQ.then ?_
          refine hK53 _ _ _ _ ?_
          refine XC.yes rfl ?_
          refine XC.region ?_
          refine XL.pure (v := .slice pv9 ((outT s x t ++ oldT y d pre).length) cp9) 52 rfl (Nat.le_of_ble_eq_true rfl) rfl rfl (x_load rfl rfl Try.underlying88 rfl (HP.cell hH44 3 rfl rfl)) ?_
          refine XL.pure (v := vI qx.1.1) 53 rfl (Nat.le_of_ble_eq_true rfl) rfl rfl (by kernel_rfl) ?_
          refine XL.pure (v := vI qx.1.2) 54 rfl (Nat.le_of_ble_eq_true rfl) rfl rfl (by kernel_rfl) ?_
          refine XL.pure (v := .agg #[vI qx.1.1, vI qx.1.2]) 55 rfl (Nat.le_of_ble_eq_true rfl) rfl rfl (by kernel_rfl) ?_
          refine XL.alloc (c := #[vI qx.1.1, vI qx.1.2]) (T := 83) hH44 56 rfl (by decide) rfl rfl (fun b56 => vS b56 1 1) (by kernel_rfl) (fun b56 w54 hw54 => ?_)
          have hH55 : HP (Out [Go.Proofs.Ytmjnakhpekbenaa.Fw.Ent.cel b5 #[vI s, vI y, vI l, vI m] 23, Go.Proofs.Ytmjnakhpekbenaa.Fw.Ent.cel b7 #[vI d] 3, rowT pv9 (outT s x t ++ oldT y d pre).length cp9 (outT s x t ++ oldT y d pre), Go.Proofs.Ytmjnakhpekbenaa.Fw.Ent.cel b9 #[.slice pv9 (outT s x t ++ oldT y d pre).length cp9] 88, Go.Proofs.Ytmjnakhpekbenaa.Fw.Ent.cel q3 #[.slice p t.length cp] 88, Go.Proofs.Ytmjnakhpekbenaa.Fw.Ent.cel q4 #[vI s] 3, Go.Proofs.Ytmjnakhpekbenaa.Fw.Ent.cel q5 #[vI x] 3]) W w54 [.cel b5 #[vI s, vI y, vI l, vI m] 23, .cel b7 #[vI d] 3, rowT pv9 (outT s x t ++ oldT y d pre).length cp9 (outT s x t ++ oldT y d pre), .cel b9 #[.slice pv9 (outT s x t ++ oldT y d pre).length cp9] 88, .cel q3 #[.slice p t.length cp] 88, .cel q4 #[vI s] 3, .cel q5 #[vI x] 3, .cel b56 #[vI qx.1.1, vI qx.1.2] 83] := hw54.2
          have nb56 := hw54.1
          clear hw54
          obtain ⟨i0, hi0, hz0, hz1, hz2⟩ := infoT
          refine XL.append (news := [vI qx.1.1, vI qx.1.2]) 2 7 hH55 57 rfl (by decide) rfl rfl rfl rfl Try.underlying88 hi0 hz0 hz1 hz2 rfl (by decide) rfl rfl rfl rfl (by simp [Value.oneCell']) (by unfold maxLen; rw [List.length_append]; omega) (by rw [List.length_append]; omega) ?_
          rintro v7 w7 - hA7
          obtain ⟨pv7, cp7, rfl⟩ := own_row (HP.get hA7 2 rfl)
          have e7 : (outT s x t ++ oldT y d pre).length + 1 = ((outT s x t ++ oldT y d pre) ++ [(qx.1.1, qx.1.2)]).length := (len1 _ _).symm
          rw [tL_push, e7] at hA7
          rw [e7]
          have hH56 : HP (Out [Go.Proofs.Ytmjnakhpekbenaa.Fw.Ent.cel b5 #[vI s, vI y, vI l, vI m] 23, Go.Proofs.Ytmjnakhpekbenaa.Fw.Ent.cel b7 #[vI d] 3, rowT pv9 (outT s x t ++ oldT y d pre).length cp9 (outT s x t ++ oldT y d pre), Go.Proofs.Ytmjnakhpekbenaa.Fw.Ent.cel b9 #[.slice pv9 (outT s x t ++ oldT y d pre).length cp9] 88, Go.Proofs.Ytmjnakhpekbenaa.Fw.Ent.cel q3 #[.slice p t.length cp] 88, Go.Proofs.Ytmjnakhpekbenaa.Fw.Ent.cel q4 #[vI s] 3, Go.Proofs.Ytmjnakhpekbenaa.Fw.Ent.cel q5 #[vI x] 3]) W _ [.cel b5 #[vI s, vI y, vI l, vI m] 23, .cel b7 #[vI d] 3, rowT pv7 ((outT s x t ++ oldT y d pre) ++ [(qx.1.1, qx.1.2)]).length cp7 ((outT s x t ++ oldT y d pre) ++ [(qx.1.1, qx.1.2)]), .cel b9 #[.slice pv9 (outT s x t ++ oldT y d pre).length cp9] 88, .cel q3 #[.slice p t.length cp] 88, .cel q4 #[vI s] 3, .cel q5 #[vI x] 3, .cel b56 #[vI qx.1.1, vI qx.1.2] 83] := hA7
          refine XL.store (H2 := [.cel b5 #[vI s, vI y, vI l, vI m] 23, .cel b7 #[vI d] 3, rowT pv7 ((outT s x t ++ oldT y d pre) ++ [(qx.1.1, qx.1.2)]).length cp7 ((outT s x t ++ oldT y d pre) ++ [(qx.1.1, qx.1.2)]), .cel b9 #[.slice pv7 (((outT s x t ++ oldT y d pre) ++ [(qx.1.1, qx.1.2)]).length) cp7] 88, .cel q3 #[.slice p t.length cp] 88, .cel q4 #[vI s] 3, .cel q5 #[vI x] 3, .cel b56 #[vI qx.1.1, vI qx.1.2] 83]) 3 hH56 rfl rfl rfl rfl rfl rfl sz88 rfl (Nat.le_of_ble_eq_true rfl) rfl rfl ?_
          intro w57 hH58
          refine XL.nil ?_
          refine XQ.inNormal ?_
          exact fun _ _ => ⟨(pv7, cp7), HP.eq (HP.drop hH58 7) (by rw [old_snoc, show old1 y d qx.1 = [(qx.1.1, qx.1.2)] by unfold old1; simp [h45, h51], ← List.append_assoc]; rfl)⟩
        ·
          refine XL.pure (v := .bool false) 51 rfl (Nat.le_of_ble_eq_true rfl) rfl rfl (x_lss rfl rfl rfl (dF (h51))) ?_
          refine XL.nil ?_
          refine XQ.then ?_
          refine hK53 _ _ _ _ ?_
          refine XC.no rfl ?_
          refine XC.skip ?_
          refine XQ.inNormal ?_
          exact fun _ _ => ⟨(pv9, cp9), HP.eq hH44 (by rw [old_snoc, show old1 y d qx.1 = [] by unfold old1; simp [h45, h51], List.append_nil])⟩
    · rintro D xs W ⟨pv8, cp8⟩ hD rfl hF8 hK8
      have hold9 := oldT_len y d (osA s x ta)
      have hH59 : HP (Out [Go.Proofs.Ytmjnakhpekbenaa.Fw.Ent.cel b5 #[vI s, vI y, vI l, vI m] 23, Go.Proofs.Ytmjnakhpekbenaa.Fw.Ent.cel b7 #[vI d] 3, rowT pv8 (outT s x t ++ oldT y d (osA s x ta)).length cp8 (outT s x t ++ oldT y d (osA s x ta)), Go.Proofs.Ytmjnakhpekbenaa.Fw.Ent.cel b9 #[.slice pv8 (outT s x t ++ oldT y d (osA s x ta)).length cp8] 88, Go.Proofs.Ytmjnakhpekbenaa.Fw.Ent.cel q3 #[.slice p t.length cp] 88, Go.Proofs.Ytmjnakhpekbenaa.Fw.Ent.cel q4 #[vI s] 3, Go.Proofs.Ytmjnakhpekbenaa.Fw.Ent.cel q5 #[vI x] 3]) W W [.cel b5 #[vI s, vI y, vI l, vI m] 23, .cel b7 #[vI d] 3, rowT pv8 (outT s x t ++ oldT y d (osA s x ta)).length cp8 (outT s x t ++ oldT y d (osA s x ta)), .cel b9 #[.slice pv8 (outT s x t ++ oldT y d (osA s x ta)).length cp8] 88, .cel q3 #[.slice p t.length cp] 88, .cel q4 #[vI s] 3, .cel q5 #[vI x] 3] := HP.startB ⟨hF8.hold, hF8.apart⟩
      refine XQ.inNormal ?_
      refine XQ.then ?_
      refine hK39 _ _ _ _ ?_
      refine XC.seq fun K60 hK60 => ?_
      refine XC.region ?_
      refine XL.pure (v := .slice pv8 ((outT s x t ++ oldT y d (osA s x ta)).length) cp8) 58 rfl (Nat.le_of_ble_eq_true rfl) rfl rfl (x_load rfl rfl Try.underlying88 rfl (HP.cell hH59 3 rfl rfl)) ?_
      refine XL.pure (v := vI x) 59 rfl (Nat.le_of_ble_eq_true rfl) rfl rfl (by kernel_rfl) ?_
      refine XL.pure (v := .agg #[vI x, vI 0]) 60 rfl (Nat.le_of_ble_eq_true rfl) rfl rfl (by kernel_rfl) ?_
      refine XL.alloc (c := #[vI x, vI 0]) (T := 83) hH59 61 rfl (by decide) rfl rfl (fun b61 => vS b61 1 1) (by kernel_rfl) (fun b61 w61 hw61 => ?_)
      have hH62 : HP (Out [Go.Proofs.Ytmjnakhpekbenaa.Fw.Ent.cel b5 #[vI s, vI y, vI l, vI m] 23, Go.Proofs.Ytmjnakhpekbenaa.Fw.Ent.cel b7 #[vI d] 3, rowT pv8 (outT s x t ++ oldT y d (osA s x ta)).length cp8 (outT s x t ++ oldT y d (osA s x ta)), Go.Proofs.Ytmjnakhpekbenaa.Fw.Ent.cel b9 #[.slice pv8 (outT s x t ++ oldT y d (osA s x ta)).length cp8] 88, Go.Proofs.Ytmjnakhpekbenaa.Fw.Ent.cel q3 #[.slice p t.length cp] 88, Go.Proofs.Ytmjnakhpekbenaa.Fw.Ent.cel q4 #[vI s] 3, Go.Proofs.Ytmjnakhpekbenaa.Fw.Ent.cel q5 #[vI x] 3]) W w61 [.cel b5 #[vI s, vI y, vI l, vI m] 23, .cel b7 #[vI d] 3, rowT pv8 (outT s x t ++ oldT y d (osA s x ta)).length cp8 (outT s x t ++ oldT y d (osA s x ta)), .cel b9 #[.slice pv8 (outT s x t ++ oldT y d (osA s x ta)).length cp8] 88, .cel q3 #[.slice p t.length cp] 88, .cel q4 #[vI s] 3, .cel q5 #[vI x] 3, .cel b61 #[vI x, vI 0] 83] := hw61.2
      have nb61 := hw61.1
      clear hw61
      obtain ⟨i0, hi0, hz0, hz1, hz2⟩ := infoT
      refine XL.append (news := [vI x, vI 0]) 2 7 hH62 62 rfl (by decide) rfl rfl rfl rfl Try.underlying88 hi0 hz0 hz1 hz2 rfl (by decide) rfl rfl rfl rfl (by simp [Value.oneCell']) (by unfold maxLen; rw [List.length_append]; omega) (by rw [List.length_append]; omega) ?_
      rintro v7 w7 - hA7
      obtain ⟨pv7, cp7, rfl⟩ := own_row (HP.get hA7 2 rfl)
      have e7 : (outT s x t ++ oldT y d (osA s x ta)).length + 1 = ((outT s x t ++ oldT y d (osA s x ta)) ++ [(x, 0)]).length := (len1 _ _).symm
      rw [tL_push, e7] at hA7
      rw [e7]
      have hH63 : HP (Out [Go.Proofs.Ytmjnakhpekbenaa.Fw.Ent.cel b5 #[vI s, vI y, vI l, vI m] 23, Go.Proofs.Ytmjnakhpekbenaa.Fw.Ent.cel b7 #[vI d] 3, rowT pv8 (outT s x t ++ oldT y d (osA s x ta)).length cp8 (outT s x t ++ oldT y d (osA s x ta)), Go.Proofs.Ytmjnakhpekbenaa.Fw.Ent.cel b9 #[.slice pv8 (outT s x t ++ oldT y d (osA s x ta)).length cp8] 88, Go.Proofs.Ytmjnakhpekbenaa.Fw.Ent.cel q3 #[.slice p t.length cp] 88, Go.Proofs.Ytmjnakhpekbenaa.Fw.Ent.cel q4 #[vI s] 3, Go.Proofs.Ytmjnakhpekbenaa.Fw.Ent.cel q5 #[vI x] 3]) W _ [.cel b5 #[vI s, vI y, vI l, vI m] 23, .cel b7 #[vI d] 3, rowT pv7 ((outT s x t ++ oldT y d (osA s x ta)) ++ [(x, 0)]).length cp7 ((outT s x t ++ oldT y d (osA s x ta)) ++ [(x, 0)]), .cel b9 #[.slice pv8 (outT s x t ++ oldT y d (osA s x ta)).length cp8] 88, .cel q3 #[.slice p t.length cp] 88, .cel q4 #[vI s] 3, .cel q5 #[vI x] 3, .cel b61 #[vI x, vI 0] 83] := hA7
      refine XL.store (H2 := [.cel b5 #[vI s, vI y, vI l, vI m] 23, .cel b7 #[vI d] 3, rowT pv7 ((outT s x t ++ oldT y d (osA s x ta)) ++ [(x, 0)]).length cp7 ((outT s x t ++ oldT y d (osA s x ta)) ++ [(x, 0)]), .cel b9 #[.slice pv7 (((outT s x t ++ oldT y d (osA s x ta)) ++ [(x, 0)]).length) cp7] 88, .cel q3 #[.slice p t.length cp] 88, .cel q4 #[vI s] 3, .cel q5 #[vI x] 3, .cel b61 #[vI x, vI 0] 83]) 3 hH63 rfl rfl rfl rfl rfl rfl sz88 rfl (Nat.le_of_ble_eq_true rfl) rfl rfl ?_
      intro w64 hH65
      refine XL.nil ?_
      refine XQ.then ?_
      refine hK60 _ _ _ _ ?_
      refine XC.sub (l' := [(0, .slice p t.length cp), (2, vI x), (5, vP b5 0), (7, vP b7 0), (9, vP b9 0), (15, .slice p t.length cp), (16, vI (t.length : Int)), (17, vI (i : Int)), (18, .bool false)]) ⟨rfl, rfl, rfl, rfl, rfl, rfl, rfl, rfl, rfl, trivial⟩ ?_
      refine XC.seq fun K66 hK66 => ?_
      refine XC.region ?_
      refine XL.pure (v := .slice pv7 (((outT s x t ++ oldT y d (osA s x ta)) ++ [(x, 0)]).length) cp7) 63 rfl (Nat.le_of_ble_eq_true rfl) rfl rfl (x_load rfl rfl Try.underlying88 rfl (HP.cell hH65 3 rfl rfl)) ?_
      refine XL.call (f := 98) (args := #[.slice pv7 (((outT s x t ++ oldT y d (osA s x ta)) ++ [(x, 0)]).length) cp7, .func (.func 99) #[] #[]]) 64 rfl (Nat.le_of_ble_eq_true rfl) rfl rfl (by kernel_rfl) ?_
      refine (SortFunc_any pv7 cp7 ((outT s x t ++ oldT y d (osA s x ta)) ++ [(x, 0)]) _ (HP.ownM (A := [Go.Proofs.Ytmjnakhpekbenaa.Fw.Ent.cel b5 #[vI s, vI y, vI l, vI m] 23, Go.Proofs.Ytmjnakhpekbenaa.Fw.Ent.cel b7 #[vI d] 3]) (R := [rowT pv7 ((outT s x t ++ oldT y d (osA s x ta)) ++ [(x, 0)]).length cp7 ((outT s x t ++ oldT y d (osA s x ta)) ++ [(x, 0)])]) (C := [Go.Proofs.Ytmjnakhpekbenaa.Fw.Ent.cel b9 #[.slice pv7 (((outT s x t ++ oldT y d (osA s x ta)) ++ [(x, 0)]).length) cp7] 88, Go.Proofs.Ytmjnakhpekbenaa.Fw.Ent.cel q3 #[.slice p t.length cp] 88, Go.Proofs.Ytmjnakhpekbenaa.Fw.Ent.cel q4 #[vI s] 3, Go.Proofs.Ytmjnakhpekbenaa.Fw.Ent.cel q5 #[vI x] 3, Go.Proofs.Ytmjnakhpekbenaa.Fw.Ent.cel b61 #[vI x, vI 0] 83]) hH65) (by rw [len1]; omega) (by rw [len1, List.length_append]; omega)).mono ?_
      rintro e w9 ⟨rfl, t', hp9, hle9, hb9⟩
      refine ⟨_, rfl, ?_⟩
      have hpl : t'.length = ((outT s x t ++ oldT y d (osA s x ta)) ++ [(x, 0)]).length := hp9.length_eq
      have hH67 : HP (Out [Go.Proofs.Ytmjnakhpekbenaa.Fw.Ent.cel b5 #[vI s, vI y, vI l, vI m] 23, Go.Proofs.Ytmjnakhpekbenaa.Fw.Ent.cel b7 #[vI d] 3, rowT pv8 (outT s x t ++ oldT y d (osA s x ta)).length cp8 (outT s x t ++ oldT y d (osA s x ta)), Go.Proofs.Ytmjnakhpekbenaa.Fw.Ent.cel b9 #[.slice pv8 (outT s x t ++ oldT y d (osA s x ta)).length cp8] 88, Go.Proofs.Ytmjnakhpekbenaa.Fw.Ent.cel q3 #[.slice p t.length cp] 88, Go.Proofs.Ytmjnakhpekbenaa.Fw.Ent.cel q4 #[vI s] 3, Go.Proofs.Ytmjnakhpekbenaa.Fw.Ent.cel q5 #[vI x] 3]) W _ [.cel b5 #[vI s, vI y, vI l, vI m] 23, .cel b7 #[vI d] 3, rowT pv7 ((outT s x t ++ oldT y d (osA s x ta)) ++ [(x, 0)]).length cp7 t', .cel b9 #[.slice pv7 (((outT s x t ++ oldT y d (osA s x ta)) ++ [(x, 0)]).length) cp7] 88, .cel q3 #[.slice p t.length cp] 88, .cel q4 #[vI s] 3, .cel q5 #[vI x] 3, .cel b61 #[vI x, vI 0] 83] := HP.exchM (A := [Go.Proofs.Ytmjnakhpekbenaa.Fw.Ent.cel b5 #[vI s, vI y, vI l, vI m] 23, Go.Proofs.Ytmjnakhpekbenaa.Fw.Ent.cel b7 #[vI d] 3]) (R := [rowT pv7 ((outT s x t ++ oldT y d (osA s x ta)) ++ [(x, 0)]).length cp7 ((outT s x t ++ oldT y d (osA s x ta)) ++ [(x, 0)])]) (C := [Go.Proofs.Ytmjnakhpekbenaa.Fw.Ent.cel b9 #[.slice pv7 (((outT s x t ++ oldT y d (osA s x ta)) ++ [(x, 0)]).length) cp7] 88, Go.Proofs.Ytmjnakhpekbenaa.Fw.Ent.cel q3 #[.slice p t.length cp] 88, Go.Proofs.Ytmjnakhpekbenaa.Fw.Ent.cel q4 #[vI s] 3, Go.Proofs.Ytmjnakhpekbenaa.Fw.Ent.cel q5 #[vI x] 3, Go.Proofs.Ytmjnakhpekbenaa.Fw.Ent.cel b61 #[vI x, vI 0] 83]) hH65 hb9
      refine XL.nil ?_
      refine XQ.then ?_
      refine hK66 _ _ _ _ ?_
      refine XC.seq fun K68 hK68 => ?_
      refine XC.region ?_
      refine XL.pure (v := .slice pv7 (((outT s x t ++ oldT y d (osA s x ta)) ++ [(x, 0)]).length) cp7) 65 rfl (Nat.le_of_ble_eq_true rfl) rfl rfl (x_load rfl rfl Try.underlying88 rfl (HP.cell hH67 3 rfl rfl)) ?_
      refine XL.pure (v := .slice pv7 (((outT s x t ++ oldT y d (osA s x ta)) ++ [(x, 0)]).length) cp7) 8 rfl (Nat.le_of_ble_eq_true rfl) rfl rfl (by kernel_rfl) ?_
      refine XL.nil ?_
      refine XQ.then ?_
      refine hK68 _ _ _ _ ?_
      refine XC.ret ?_
      have hKD : (_ : World).heap[D]? = some (.deferred (some [])) := (hH67.keep D (Array.getElem?_eq_some_iff.1 hK8).1 (fun e he hq => by obtain ⟨c9, T9, z9, hc9⟩ := Fi.HPcells hF8 he hq; rw [hc9] at hK8; cases hK8)).trans hK8
      have hFin := HP.exch (A := []) hF8 hH67
      simp only [List.nil_append] at hFin
      refine XQ.ret1M 8 rfl rfl hKD ?_
      refine ⟨t', pv7, cp7, by rw [hpl], hp9, hle9, ?_⟩
      rw [← hpl] at hFin
      have hFin2 := (HP.drop (HP.drop (HP.drop (HP.drop (HP.drop (HP.drop (HP.drop hFin 7) 6) 5) 4) 3) 1) 0)
      exact Fi.HPgrown hFin2 (grownBy_putObj' _ D _) (fun r e => by cases e; exact ⟨by have := (HP.below hW8).size; omega, _, hKD, rfl⟩)
end Ca
end Go.Proofs.Ytmjnakhpekbenaa
namespace Go.Proofs.Ytmjnakhpekbenaa
open Go.RowKit Fw
namespace Ca
/-- what becomes of an entry -/
def stE (s y x d : Int) (q : T2) : List T2 := if q.1 = x then [] else if q.1.tmod s = x.tmod s then old1 y d q else if q.2 < y then [q] else []
/-- the table with the line put in -/
def rL (s y x d : Int) : List T2 → List T2
  | [] => [(x, 0)]
  | q :: r => if x ≤ q.1 then (x, 0) :: (q :: r).flatMap (stE s y x d) else stE s y x d q ++ rL s y x d r
theorem old1_fst {y d : Int} {q a : T2} (h : a ∈ old1 y d q) : a.1 = q.1 := by
  unfold old1 at h
  generalize (if q.2 < d then q.2 + 1 else q.2) = a9 at h
  split at h
  · rw [List.mem_singleton.1 h]
  · cases h
theorem stE_fst {s y x d : Int} {q a : T2} (h : a ∈ stE s y x d q) : a.1 = q.1 ∧ q.1 ≠ x := by
  unfold stE at h
  by_cases h1 : q.1 = x
  · rw [if_pos h1] at h; cases h
  · rw [if_neg h1] at h
    refine ⟨?_, h1⟩
    by_cases h2 : q.1.tmod s = x.tmod s
    · rw [if_pos h2] at h; exact old1_fst h
    · rw [if_neg h2] at h
      split at h
      · rw [List.mem_singleton.1 h]
      · cases h
theorem stE_len (s y x d : Int) (q : T2) : (stE s y x d q).length ≤ 1 := by
  unfold stE
  by_cases h1 : q.1 = x
  · rw [if_pos h1]; exact Nat.zero_le _
  · rw [if_neg h1]
    by_cases h2 : q.1.tmod s = x.tmod s
    · rw [if_pos h2]; exact old1_len y d q
    · rw [if_neg h2]; split
      · exact Nat.le_refl _
      · exact Nat.zero_le _
theorem fm_perm {s y x d : Int} : ∀ {ta : List TV}, (∀ q ∈ ta, q.1.2 < y) → ((ta.map (·.1)).flatMap (stE s y x d)).Perm (outT s x (ta.map (·.1)) ++ oldT y d (osA s x ta))
  | [], _ => by simp [outT, oldT, osA]
  | q :: r, h => by
    have ih := fm_perm (s := s) (x := x) (d := d) (ta := r) fun a ha => h a (List.mem_cons_of_mem _ ha)
    have hq := h q (by simp)
    simp only [List.map_cons, List.flatMap_cons]
    by_cases h2 : q.1.1.tmod s = x.tmod s
    · have ho : outT s x (q.1 :: r.map (·.1)) = outT s x (r.map (·.1)) := by unfold outT; rw [List.filter_cons, if_neg (by simp [h2])]
      by_cases h1 : q.1.1 = x
      · have hs : osA s x (q :: r) = osA s x r := by unfold osA inS; rw [List.filter_cons, if_neg (by simp [h1])]
        rw [ho, hs, show stE s y x d q.1 = [] by unfold stE; rw [if_pos h1], List.nil_append]
        exact ih
      · have hs : osA s x (q :: r) = q :: osA s x r := by unfold osA inS; rw [List.filter_cons, if_pos (by simp [h1, h2])]
        rw [ho, hs, show stE s y x d q.1 = old1 y d q.1 by unfold stE; rw [if_neg h1, if_pos h2], show oldT y d (q :: osA s x r) = old1 y d q.1 ++ oldT y d (osA s x r) by simp [oldT]]
        refine (ih.append_left _).trans ?_
        rw [← List.append_assoc, ← List.append_assoc]
        exact List.Perm.append_right _ List.perm_append_comm
    · have h1 : q.1.1 ≠ x := fun e => h2 (by rw [e])
      have ho : outT s x (q.1 :: r.map (·.1)) = q.1 :: outT s x (r.map (·.1)) := by unfold outT; rw [List.filter_cons, if_pos (by simp [h2])]
      have hs : osA s x (q :: r) = osA s x r := by unfold osA inS; rw [List.filter_cons, if_neg (by simp [h2])]
      rw [ho, hs, show stE s y x d q.1 = [q.1] by unfold stE; rw [if_neg h1, if_neg h2, if_pos hq]]
      exact ih.cons _
theorem rL_perm {s y x d : Int} : ∀ t : List T2, (rL s y x d t).Perm (t.flatMap (stE s y x d) ++ [(x, 0)])
  | [] => List.Perm.refl _
  | q :: r => by
    simp only [rL]
    split
    · exact List.perm_append_comm (l₁ := [(x, 0)])
    · rw [List.flatMap_cons, List.append_assoc]
      exact (rL_perm r).append_left _
def ltT (t : List T2) : Prop := t.Pairwise fun a b => a.1 < b.1
theorem fm_mem {s y x d : Int} {t : List T2} {a : T2} (h : a ∈ t.flatMap (stE s y x d)) : ∃ q ∈ t, a.1 = q.1 ∧ q.1 ≠ x := by
  obtain ⟨q, hq, ha⟩ := List.mem_flatMap.1 h
  exact ⟨q, hq, stE_fst ha⟩
theorem one_pair {l : List T2} {R : T2 → T2 → Prop} (h : l.length ≤ 1) : l.Pairwise R := by
  match l, h with
  | [], _ => exact List.Pairwise.nil
  | [a], _ => exact List.pairwise_singleton _ _
theorem fm_sorted {s y x d : Int} : ∀ {t : List T2}, sT t → ltT (t.flatMap (stE s y x d))
  | [], _ => List.Pairwise.nil
  | q :: r, h => by
    have hh := List.pairwise_cons.1 h
    rw [List.flatMap_cons]
    refine List.pairwise_append.2 ⟨one_pair (stE_len ..), fm_sorted hh.2, fun a ha b hb => ?_⟩
    obtain ⟨q', hq', e, -⟩ := fm_mem hb
    rw [(stE_fst ha).1, e]
    exact hh.1 q' hq'
theorem rL_mem {s y x d : Int} {t : List T2} {a : T2} (h : a ∈ rL s y x d t) : a.1 = x ∨ ∃ q ∈ t, a.1 = q.1 := by
  have := (rL_perm t).mem_iff.1 h
  rcases List.mem_append.1 this with h | h
  · obtain ⟨q, hq, e, -⟩ := fm_mem h; exact .inr ⟨q, hq, e⟩
  · rw [List.mem_singleton.1 h]; exact .inl rfl
theorem rL_sorted {s y x d : Int} : ∀ {t : List T2}, sT t → ltT (rL s y x d t)
  | [], _ => List.pairwise_singleton _ _
  | q :: r, h => by
    have hh := List.pairwise_cons.1 h
    simp only [rL]
    split
    · rename_i hx
      refine List.pairwise_cons.2 ⟨fun a ha => ?_, fm_sorted h⟩
      obtain ⟨q', hq', e, hne⟩ := fm_mem ha
      rw [e]
      show x < q'.1
      rcases List.mem_cons.1 hq' with rfl | hq'
      · omega
      · have := hh.1 q' hq'; omega
    · rename_i hx
      refine List.pairwise_append.2 ⟨one_pair (stE_len ..), rL_sorted hh.2, fun a ha b hb => ?_⟩
      rw [(stE_fst ha).1]
      rcases rL_mem hb with e | ⟨q', hq', e⟩
      · rw [e]; omega
      · rw [e]; exact hh.1 q' hq'
/-- two sorted lists of the same entries -/
theorem sorted_eq {a b : List T2} (hp : a.Perm b) (ha : leT a) (hb : ltT b) : a = b := by
  refine List.Perm.eq_of_pairwise (le := fun p q : T2 => p.1 ≤ q.1) (fun p q hp' hq' h1 h2 => ?_) ha (hb.imp fun h => Int.le_of_lt h) hp
  have hp2 := hp.mem_iff.1 hp'
  obtain ⟨i, hi, rfl⟩ := List.mem_iff_getElem.1 hp2
  obtain ⟨j, hj, rfl⟩ := List.mem_iff_getElem.1 hq'
  rcases Nat.lt_trichotomy i j with h | h | h
  · have := List.pairwise_iff_getElem.1 hb i j hi hj h; omega
  · subst h; rfl
  · have := List.pairwise_iff_getElem.1 hb j i hj hi h; omega
theorem aged_eq {s y x d : Int} {ta : List TV} {t t' : List T2} (ht : t = ta.map (·.1)) (hv : ∀ q ∈ ta, q.1.2 < y) (hs : sT t) (hp : t'.Perm (outT s x t ++ oldT y d (osA s x ta) ++ [(x, 0)])) (hl : leT t') : t' = rL s y x d t := by
  refine sorted_eq ?_ hl (rL_sorted hs)
  refine hp.trans (List.Perm.trans ?_ (rL_perm t).symm)
  subst ht
  exact (fm_perm hv).symm.append_right _
end Ca
end Go.Proofs.Ytmjnakhpekbenaa
namespace Go.Proofs.Ytmjnakhpekbenaa
open Go.RowKit Fw
namespace Ca
theorem drop_t {t : List T2} {i : Nat} (h : i < t.length) : t.drop i = (lnT t i, agT t i) :: t.drop (i + 1) := by
  rw [List.drop_eq_getElem_cons h, lnT_get h, agT_get h]
theorem age_some {t : List T2} {x a : Int} (h : ageT t x = some a) : ∃ i, i < t.length ∧ agT t i = a := by
  unfold ageT at h
  obtain ⟨q, hq, rfl⟩ := Option.map_eq_some_iff.1 h
  obtain ⟨i, hi, rfl⟩ := List.mem_iff_getElem.1 (List.mem_of_find?_eq_some hq)
  exact ⟨i, hi, agT_get hi⟩
def rest (s y x d : Int) (inn : Bool) (t : List T2) : List T2 := match inn with
  | true => t.flatMap (stE s y x d)
  | false => rL s y x d t
end Ca
end Go.Proofs.Ytmjnakhpekbenaa
namespace Go.Proofs.Ytmjnakhpekbenaa
open Go.RowKit Fw
namespace Ca
structure VT (s y l m : Int) (t : List T2) : Prop where
  s1 : 1 ≤ s
  s2 : s ≤ 8
  y1 : 1 ≤ y
  y2 : y ≤ 4
  l1 : 1 ≤ l
  l2 : l ≤ 8
  m1 : 0 ≤ m
  m2 : m ≤ 100
  ag : ∀ i, i < t.length → 0 ≤ agT t i ∧ agT t i ≤ y - 1
  ln : ∀ i, i < t.length → 0 ≤ lnT t i ∧ lnT t i ≤ 999
  so : sT t
  len : t.length ≤ 1000
theorem ok_VT {s y l m : Int} {t : List T2} (h : okT s y l m t = true) : VT s y l m t := by
  obtain ⟨hg, hi⟩ := okT_iff.1 h
  obtain ⟨⟨a1, a2⟩, ⟨b1, b2⟩, ⟨c1, c2⟩, d1, d2⟩ := vG_iff.1 hg
  have hs := okT_sorted h
  have hln : ∀ i, i < t.length → 0 ≤ lnT t i ∧ lnT t i ≤ 999 := fun i hi' => by
    have := hi i hi'; simp only [okE, Bool.and_eq_true] at this; exact wn_iff.1 this.1
  have hge : ∀ i, i < t.length → (i : Int) ≤ lnT t i := by
    intro i
    induction i with
    | zero => intro h0; exact (hln 0 h0).1
    | succ i ih => intro h1; have := ih (by omega); have := sT_lt hs (show i < i + 1 by omega) h1; omega
  refine ⟨a1, a2, b1, b2, c1, c2, d1, d2, fun i hi' => ?_, hln, hs, ?_⟩
  · have := hi i hi'; simp only [okE, Bool.and_eq_true] at this; exact wn_iff.1 this.2.1
  · by_cases h0 : t.length = 0
    · omega
    · have := hge (t.length - 1) (by omega); have := hln (t.length - 1) (by omega); omega
theorem aged2_any (p : Option Addr) (t : List T2) (cp : Nat) (s y l m x d : Int) (w : World) (hT : InT w p t) (hV : VT s y l m t) (hd : -1000 ≤ d ∧ d ≤ 1000) :
    Calls Try.prog 82 #[.slice p t.length cp, .agg #[vI s, vI y, vI l, vI m], vI x, vI d] w fun e w' => ∃ pv cp', e = .returned (.slice pv (rL s y x d t).length cp') ∧ HP Tr w w' [rowT pv (rL s y x d t).length cp' (rL s y x d t)] := by
  have hl := hV.len
  obtain ⟨ta, hta⟩ := ta_of (t := t) fun i hi => by have := hV.ag i hi; have := hV.y2; omega
  refine (aged_any p t ta cp s y l m x d w hT hta (by have := hV.s1; omega) hd (by omega)).mono ?_
  rintro e w' ⟨t', pv, cp', rfl, hp, hle, hb⟩
  have := aged_eq (y := y) hta (fun q hq => by
    obtain ⟨i, hi, rfl⟩ := List.mem_iff_getElem.1 hq
    have h2 := hV.ag i (by rw [hta]; simpa using hi)
    have h3 := (ln_ta hta (List.getElem?_eq_getElem hi)).2
    rw [h3]; omega) hV.so hp hle
  subst this
  exact ⟨pv, cp', rfl, hb⟩
theorem age_bd {s y l m : Int} {t : List T2} (hV : VT s y l m t) (x : Int) : 0 ≤ (ageT t x).getD y ∧ (ageT t x).getD y ≤ 4 := by
  have h1 := hV.y1
  have h2 := hV.y2
  cases q : ageT t x with
  | none => simp; omega
  | some a => obtain ⟨i, hi, he⟩ := age_some q; have := hV.ag i hi; simp; omega
/-- a table touched -/
def tcH (s y x k : Int) (t : List T2) : List T2 := rL s y x ((ageT t x).getD y + k) t
def TcR (s y x k : Int) (t : List T2) (w : World) (e : Ending) (w' : World) : Prop := ∃ pv cp', e = .returned (.slice pv (tcH s y x k t).length cp') ∧ HP Tr w w' [rowT pv (tcH s y x k t).length cp' (tcH s y x k t)]
/-- what touching an address answers -/
def TaR (s y l m a k : Int) (t : List T2) (w : World) (e : Ending) (w' : World) : Prop :=
  ((okT s y l m t && wn a 0 999) = false ∧ e = .returned (.tuple #[.slice none 0 0, vI 1]) ∧ Below w.heap.size w w') ∨
  ((okT s y l m t && wn a 0 999) = true ∧ ∃ pv cp', e = .returned (.tuple #[.slice pv (tcH s y (a / l) k t).length cp', vI 0]) ∧ HP Tr w w' [rowT pv (tcH s y (a / l) k t).length cp' (tcH s y (a / l) k t)])
theorem wn_no2 {a : Int} (h : ¬ (0 ≤ a ∧ a ≤ 999)) : wn a 0 999 = false := by
  cases q : wn a 0 999 with
  | false => rfl
  | true => exact absurd (wn_iff.1 q) h
set_option maxRecDepth 20000 in
set_option maxHeartbeats 4000000 in
theorem touch0_any (p : Option Addr) (t : List T2) (cp : Nat) (s y l m x : Int) (w : World) (hT : InT w p t) (hV : VT s y l m t) :
    Calls Try.prog 59 #[.agg #[vI s, vI y, vI l, vI m], .slice p t.length cp, vI x] w (TcR s y x 0 t w) := by
  have hage := age_bd hV x
  refine calls_of Try.func59 rfl (m := 16) rfl [(0, .agg #[vI s, vI y, vI l, vI m]), (1, .slice p t.length cp), (2, vI x)] (Fr_enter [.agg #[vI s, vI y, vI l, vI m], .slice p t.length cp, vI x] 16 (Nat.le_of_ble_eq_true rfl)) ?_
  have hH1 : HP Tr w w [] := HP.refl w
  refine WC.seq fun K2 hK2 => WC.region ?_
  refine WL.alloc (c := #[vI s, vI y, vI l, vI m]) (T := 23) hH1 3 rfl (by decide) rfl rfl (fun b3 => vP b3 0) (by kernel_rfl) (fun b3 w3 hw3 => ?_)
  have hH4 : HP Tr w w3 [.cel b3 #[vI s, vI y, vI l, vI m] 23] := hw3.2
  have nb3 := hw3.1
  clear hw3
  refine WL.z (v := .slice none 0 0) 6 ?_
  refine WL.nil (WQ.then (hK2 _ _ _ (WC.seq fun K5 hK5 => ?_)))
  refine WC.confG (γ := Option Addr × Nat × Unit) [(3, vP b3 0), (0, .agg #[vI s, vI y, vI l, vI m]), (1, .slice p t.length cp), (2, vI x)] (fun gy => [.slice p t.length cp, .agg #[vI s, vI y, vI l, vI m], vI x, .slice p t.length cp, vI x, vP b3 1, vI y, vI ((ageT t x).getD y), .slice gy.1 ((rL s y x ((ageT t x).getD y) t).length) gy.2.1, .slice gy.1 ((rL s y x ((ageT t x).getD y) t).length) gy.2.1]) (fun gy D wz => HP Tr w wz ([.cel b3 #[vI s, vI y, vI l, vI m] 23] ++ ((bif D 8 then [rowT gy.1 (rL s y x ((ageT t x).getD y) t).length gy.2.1 (rL s y x ((ageT t x).getD y) t)] else []) ++ []))) (none, 0, ()) (by kernel_rfl) ⟨rfl, rfl, rfl, rfl, trivial⟩ (by kernel_rfl) (by kernel_rfl) (by kernel_rfl) (fun _ => rfl) (by kernel_rfl) (HP.drew hH4) ?_ ?_
  · refine AllOk.cons ?o0 (AllOk.cons ?o1 (AllOk.cons ?o2 (AllOk.cons ?o3 (AllOk.cons ?o4 (AllOk.cons ?o5 (AllOk.cons ?o6 (AllOk.cons ?o7 (AllOk.cons ?o8 (AllOk.cons ?o9 (AllOk.nil _))))))))))
    case o0 =>
      intro gy D wz hDi hdep hclo hW
      exact .inl ⟨rfl, rfl, .inl ⟨gy, wz, fun _ _ => rfl, by kernel_rfl, hW⟩⟩
    case o1 =>
      intro gy D wz hDi hdep hclo hW
      exact .inl ⟨rfl, rfl, .inl ⟨gy, wz, fun _ _ => rfl, x_loadS (cs := [vI s, vI y, vI l, vI m]) rfl rfl Try.underlying23 rfl sz23 (HP.range hW 0 rfl rfl), hW⟩⟩
    case o2 =>
      intro gy D wz hDi hdep hclo hW
      exact .inl ⟨rfl, rfl, .inl ⟨gy, wz, fun _ _ => rfl, by kernel_rfl, hW⟩⟩
    case o3 =>
      intro gy D wz hDi hdep hclo hW
      exact .inl ⟨rfl, rfl, .inl ⟨gy, wz, fun _ _ => rfl, by kernel_rfl, hW⟩⟩
    case o4 =>
      intro gy D wz hDi hdep hclo hW
      exact .inl ⟨rfl, rfl, .inl ⟨gy, wz, fun _ _ => rfl, by kernel_rfl, hW⟩⟩
    case o5 =>
      intro gy D wz hDi hdep hclo hW
      exact .inl ⟨rfl, rfl, .inl ⟨gy, wz, fun _ _ => rfl, by kernel_rfl, hW⟩⟩
    case o6 =>
      intro gy D wz hDi hdep hclo hW
      exact .inl ⟨rfl, rfl, .inl ⟨gy, wz, fun _ _ => rfl, x_load rfl rfl Try.underlying3 rfl (HP.cell hW 0 rfl rfl), hW⟩⟩
    case o7 =>
      intro gy D wz hDi hdep hclo hW
      have d8 : D 8 = false := by
        cases h : D 8 with
        | false => rfl
        | true => exact absurd (hclo 8 _ rfl h ⟨7, .data⟩ (by simp) rfl) (by rw [hDi]; exact Bool.false_ne_true)
      have hW2 := hW
      simp only [d8, cond_true, cond_false, List.append_nil, List.nil_append, List.cons_append] at hW2
      exact .inl ⟨rfl, rfl, .inr (.inr ⟨68, #[.slice p t.length cp, vI x, vI y], by kernel_rfl, (age_any _ t _ _ (hT.below (HP.below hW)) x y (by have := hV.len; omega) hV.so).mono fun e w2 h => ⟨gy, fun _ _ => rfl, h.1, HP.call hW h.2⟩⟩)⟩
    case o8 =>
      intro gy D wz hDi hdep hclo hW
      have d9 : D 9 = false := by
        cases h : D 9 with
        | false => rfl
        | true => exact absurd (hclo 9 _ rfl h ⟨8, .data⟩ (by simp) rfl) (by rw [hDi]; exact Bool.false_ne_true)
      have hW2 := hW
      simp only [hDi, cond_true, cond_false, List.append_nil, List.nil_append, List.cons_append] at hW2
      refine .inl ⟨rfl, rfl, .inr (.inr ⟨82, #[.slice p t.length cp, .agg #[vI s, vI y, vI l, vI m], vI x, vI ((ageT t x).getD y)], by kernel_rfl, (aged2_any _ t _ s y l m x _ _ (hT.below (HP.below hW2)) hV (by have := age_bd hV x; omega)).mono ?_⟩)⟩
      rintro e w3 ⟨pv, cp9, rfl, hb⟩
      refine ⟨⟨pv, cp9, ()⟩, fun j hj => ?_, rfl, ?_⟩
      · match j, hj with
        | 0, hj => rfl
        | 1, hj => rfl
        | 2, hj => rfl
        | 3, hj => rfl
        | 4, hj => rfl
        | 5, hj => rfl
        | 6, hj => rfl
        | 7, hj => rfl
        | 8, hj => rw [hDi] at hj; cases hj
        | 9, hj => exact absurd hj (by rw [d9]; exact Bool.false_ne_true)
        | j + 10, _ => rfl
      · show HP Tr w w3 ([.cel b3 #[vI s, vI y, vI l, vI m] 23] ++ ([rowT pv (rL s y x ((ageT t x).getD y) t).length cp9 (rL s y x ((ageT t x).getD y) t)] ++ []))
        simp only [cond_true, cond_false, List.append_nil, List.nil_append, List.cons_append]
        exact HP.trans hW2 hb
    case o9 =>
      intro gy D wz hDi hdep hclo hW
      exact .inl ⟨rfl, rfl, .inl ⟨gy, wz, fun _ _ => rfl, by kernel_rfl, hW⟩⟩
  rintro ⟨pv, cp9, gu⟩ D w6 hall hH7
  simp only [hall 8 (by kernel_rfl), cond_true, List.append_nil, List.nil_append, List.cons_append] at hH7
  clear hall
  refine WQ.sub (l' := [(0, .agg #[vI s, vI y, vI l, vI m]), (1, .slice p t.length cp), (2, vI x), (3, vP b3 0), (6, .slice pv ((rL s y x ((ageT t x).getD y) t).length) cp9)]) ⟨rfl, rfl, rfl, rfl, rfl, trivial⟩ ?_
  refine WQ.then (hK5 _ _ _ (WC.ret ?_))
  refine WQ.ret1 6 rfl rfl ?_
  have e9 : tcH s y x 0 t = (rL s y x ((ageT t x).getD y) t) := by unfold tcH; rw [Int.add_zero]
  exact ⟨pv, cp9, by rw [e9], by rw [e9]; exact HP.eq (HP.drop hH7 0) rfl⟩
set_option maxRecDepth 20000 in
set_option maxHeartbeats 4000000 in
theorem touch1_any (p : Option Addr) (t : List T2) (cp : Nat) (s y l m x : Int) (w : World) (hT : InT w p t) (hV : VT s y l m t) :
    Calls Try.prog 61 #[.agg #[vI s, vI y, vI l, vI m], .slice p t.length cp, vI x] w (TcR s y x 1 t w) := by
  have hage := age_bd hV x
  refine calls_of Try.func61 rfl (m := 17) rfl [(0, .agg #[vI s, vI y, vI l, vI m]), (1, .slice p t.length cp), (2, vI x)] (Fr_enter [.agg #[vI s, vI y, vI l, vI m], .slice p t.length cp, vI x] 17 (Nat.le_of_ble_eq_true rfl)) ?_
  have hH1 : HP Tr w w [] := HP.refl w
  refine WC.seq fun K2 hK2 => WC.region ?_
  refine WL.alloc (c := #[vI s, vI y, vI l, vI m]) (T := 23) hH1 3 rfl (by decide) rfl rfl (fun b3 => vP b3 0) (by kernel_rfl) (fun b3 w3 hw3 => ?_)
  have hH4 : HP Tr w w3 [.cel b3 #[vI s, vI y, vI l, vI m] 23] := hw3.2
  have nb3 := hw3.1
  clear hw3
  refine WL.z (v := .slice none 0 0) 6 ?_
  refine WL.nil (WQ.then (hK2 _ _ _ (WC.seq fun K5 hK5 => ?_)))
  refine WC.confG (γ := Option Addr × Nat × Unit) [(3, vP b3 0), (0, .agg #[vI s, vI y, vI l, vI m]), (1, .slice p t.length cp), (2, vI x)] (fun gy => [.slice p t.length cp, .agg #[vI s, vI y, vI l, vI m], vI x, .slice p t.length cp, vI x, vP b3 1, vI y, vI ((ageT t x).getD y), vI ((ageT t x).getD y + 1), .slice gy.1 ((rL s y x ((ageT t x).getD y + 1) t).length) gy.2.1, .slice gy.1 ((rL s y x ((ageT t x).getD y + 1) t).length) gy.2.1]) (fun gy D wz => HP Tr w wz ([.cel b3 #[vI s, vI y, vI l, vI m] 23] ++ ((bif D 9 then [rowT gy.1 (rL s y x ((ageT t x).getD y + 1) t).length gy.2.1 (rL s y x ((ageT t x).getD y + 1) t)] else []) ++ []))) (none, 0, ()) (by kernel_rfl) ⟨rfl, rfl, rfl, rfl, trivial⟩ (by kernel_rfl) (by kernel_rfl) (by kernel_rfl) (fun _ => rfl) (by kernel_rfl) (HP.drew hH4) ?_ ?_
  · refine AllOk.cons ?o0 (AllOk.cons ?o1 (AllOk.cons ?o2 (AllOk.cons ?o3 (AllOk.cons ?o4 (AllOk.cons ?o5 (AllOk.cons ?o6 (AllOk.cons ?o7 (AllOk.cons ?o8 (AllOk.cons ?o9 (AllOk.cons ?o10 (AllOk.nil _)))))))))))
    case o0 =>
      intro gy D wz hDi hdep hclo hW
      exact .inl ⟨rfl, rfl, .inl ⟨gy, wz, fun _ _ => rfl, by kernel_rfl, hW⟩⟩
    case o1 =>
      intro gy D wz hDi hdep hclo hW
      exact .inl ⟨rfl, rfl, .inl ⟨gy, wz, fun _ _ => rfl, x_loadS (cs := [vI s, vI y, vI l, vI m]) rfl rfl Try.underlying23 rfl sz23 (HP.range hW 0 rfl rfl), hW⟩⟩
    case o2 =>
      intro gy D wz hDi hdep hclo hW
      exact .inl ⟨rfl, rfl, .inl ⟨gy, wz, fun _ _ => rfl, by kernel_rfl, hW⟩⟩
    case o3 =>
      intro gy D wz hDi hdep hclo hW
      exact .inl ⟨rfl, rfl, .inl ⟨gy, wz, fun _ _ => rfl, by kernel_rfl, hW⟩⟩
    case o4 =>
      intro gy D wz hDi hdep hclo hW
      exact .inl ⟨rfl, rfl, .inl ⟨gy, wz, fun _ _ => rfl, by kernel_rfl, hW⟩⟩
    case o5 =>
      intro gy D wz hDi hdep hclo hW
      exact .inl ⟨rfl, rfl, .inl ⟨gy, wz, fun _ _ => rfl, by kernel_rfl, hW⟩⟩
    case o6 =>
      intro gy D wz hDi hdep hclo hW
      exact .inl ⟨rfl, rfl, .inl ⟨gy, wz, fun _ _ => rfl, x_load rfl rfl Try.underlying3 rfl (HP.cell hW 0 rfl rfl), hW⟩⟩
    case o7 =>
      intro gy D wz hDi hdep hclo hW
      have d9 : D 9 = false := by
        cases h : D 9 with
        | false => rfl
        | true => exact absurd (hclo 9 _ rfl h ⟨7, .chain⟩ (by simp) rfl) (by rw [hDi]; exact Bool.false_ne_true)
      have hW2 := hW
      simp only [d9, cond_true, cond_false, List.append_nil, List.nil_append, List.cons_append] at hW2
      exact .inl ⟨rfl, rfl, .inr (.inr ⟨68, #[.slice p t.length cp, vI x, vI y], by kernel_rfl, (age_any _ t _ _ (hT.below (HP.below hW)) x y (by have := hV.len; omega) hV.so).mono fun e w2 h => ⟨gy, fun _ _ => rfl, h.1, HP.call hW h.2⟩⟩)⟩
    case o8 =>
      intro gy D wz hDi hdep hclo hW
      exact .inl ⟨rfl, rfl, .inl ⟨gy, wz, fun _ _ => rfl, x_add (Z := (ageT t x).getD y + 1) rfl rfl rfl (by omega) (by omega) (by omega), hW⟩⟩
    case o9 =>
      intro gy D wz hDi hdep hclo hW
      have d10 : D 10 = false := by
        cases h : D 10 with
        | false => rfl
        | true => exact absurd (hclo 10 _ rfl h ⟨9, .data⟩ (by simp) rfl) (by rw [hDi]; exact Bool.false_ne_true)
      have hW2 := hW
      simp only [hDi, cond_true, cond_false, List.append_nil, List.nil_append, List.cons_append] at hW2
      refine .inl ⟨rfl, rfl, .inr (.inr ⟨82, #[.slice p t.length cp, .agg #[vI s, vI y, vI l, vI m], vI x, vI ((ageT t x).getD y + 1)], by kernel_rfl, (aged2_any _ t _ s y l m x _ _ (hT.below (HP.below hW2)) hV (by have := age_bd hV x; omega)).mono ?_⟩)⟩
      rintro e w3 ⟨pv, cp9, rfl, hb⟩
      refine ⟨⟨pv, cp9, ()⟩, fun j hj => ?_, rfl, ?_⟩
      · match j, hj with
        | 0, hj => rfl
        | 1, hj => rfl
        | 2, hj => rfl
        | 3, hj => rfl
        | 4, hj => rfl
        | 5, hj => rfl
        | 6, hj => rfl
        | 7, hj => rfl
        | 8, hj => rfl
        | 9, hj => rw [hDi] at hj; cases hj
        | 10, hj => exact absurd hj (by rw [d10]; exact Bool.false_ne_true)
        | j + 11, _ => rfl
      · show HP Tr w w3 ([.cel b3 #[vI s, vI y, vI l, vI m] 23] ++ ([rowT pv (rL s y x ((ageT t x).getD y + 1) t).length cp9 (rL s y x ((ageT t x).getD y + 1) t)] ++ []))
        simp only [cond_true, cond_false, List.append_nil, List.nil_append, List.cons_append]
        exact HP.trans hW2 hb
    case o10 =>
      intro gy D wz hDi hdep hclo hW
      exact .inl ⟨rfl, rfl, .inl ⟨gy, wz, fun _ _ => rfl, by kernel_rfl, hW⟩⟩
  rintro ⟨pv, cp9, gu⟩ D w6 hall hH7
  simp only [hall 9 (by kernel_rfl), cond_true, List.append_nil, List.nil_append, List.cons_append] at hH7
  clear hall
  refine WQ.sub (l' := [(0, .agg #[vI s, vI y, vI l, vI m]), (1, .slice p t.length cp), (2, vI x), (3, vP b3 0), (6, .slice pv ((rL s y x ((ageT t x).getD y + 1) t).length) cp9)]) ⟨rfl, rfl, rfl, rfl, rfl, trivial⟩ ?_
  refine WQ.then (hK5 _ _ _ (WC.ret ?_))
  refine WQ.ret1 6 rfl rfl ?_
  have e9 : tcH s y x 1 t = (rL s y x ((ageT t x).getD y + 1) t) := by unfold tcH; rfl
  exact ⟨pv, cp9, by rw [e9], by rw [e9]; exact HP.eq (HP.drop hH7 0) rfl⟩
set_option maxRecDepth 20000 in
set_option maxHeartbeats 4000000 in
theorem touched0_any (p : Option Addr) (t : List T2) (cp : Nat) (s y l m a : Int) (w : World) (hT : InT w p t) (hn : t.length ≤ 281474976710656) :
    Calls Try.prog 58 #[.agg #[vI s, vI y, vI l, vI m], .slice p t.length cp, vI a, .func (.func 59) #[] #[]] w (TaR s y l m a 0 t w) := by
  refine calls_of Try.func58 rfl (m := 27) rfl [(0, .agg #[vI s, vI y, vI l, vI m]), (1, .slice p t.length cp), (2, vI a), (3, .func (.func 59) #[] #[])] (Fr_enter [.agg #[vI s, vI y, vI l, vI m], .slice p t.length cp, vI a, .func (.func 59) #[] #[]] 27 (Nat.le_of_ble_eq_true rfl)) ?_
  have hH1 : HP Tr w w [] := HP.refl w
  refine WC.seq fun K2 hK2 => WC.region ?_
  refine WL.alloc (c := #[vI s, vI y, vI l, vI m]) (T := 23) hH1 4 rfl (by decide) rfl rfl (fun b4 => vP b4 0) (by kernel_rfl) (fun b4 w3 hw3 => ?_)
  have hH4 : HP Tr w w3 [.cel b4 #[vI s, vI y, vI l, vI m] 23] := hw3.2
  have nb4 := hw3.1
  clear hw3
  refine WL.z (v := .slice none 0 0) 8 ?_
  refine WL.z (v := vI 0) 9 ?_
  refine WL.nil (WQ.then (hK2 _ _ _ (WC.seq fun K5 hK5 => WC.seq fun K6 hK6 => WC.region ?_)))
  refine WL.y (v := .agg #[vI s, vI y, vI l, vI m]) 10 (x_loadS (cs := [vI s, vI y, vI l, vI m]) rfl rfl Try.underlying23 rfl sz23 (HP.range hH4 0 rfl rfl)) ?_
  refine WL.z (v := .slice p t.length cp) 11 ?_
  rcases Bool.eq_false_or_eq_true (okT s y l m t) with hok | hok
  ·
    refine WL.call (f := 66) (args := #[.agg #[vI s, vI y, vI l, vI m], .slice p t.length cp]) 12 rfl (Nat.le_of_ble_eq_true rfl) rfl rfl (by kernel_rfl) ?_
    refine (validTable_any s y l m _ t _ _ (hT.below (HP.below hH4)) hn).mono ?_
    rw [hok]
    rintro e w7 ⟨rfl, hb9⟩
    refine ⟨_, rfl, ?_⟩
    have hH8 : HP Tr w _ [.cel b4 #[vI s, vI y, vI l, vI m] 23] := HP.call hH4 hb9
    have hV := ok_VT hok
    obtain ⟨hl1, hl2⟩ : 1 ≤ l ∧ l ≤ 8 := ⟨hV.l1, hV.l2⟩
    refine WL.z (v := .bool false) 13 ?_
    refine WL.z (v := .bool false) 14 ?_
    refine WL.z (v := vI a) 15 ?_
    rcases Bool.eq_false_or_eq_true (wn a 0 999) with hwn | hwn
    ·
      refine WL.call (f := 44) (args := #[vI a, vI 0, vI 999]) 16 rfl (Nat.le_of_ble_eq_true rfl) rfl rfl (by kernel_rfl) ?_
      refine (within_at hwn _).mono ?_
      rintro e w9 ⟨rfl, rfl⟩
      refine ⟨_, rfl, ?_⟩
      obtain ⟨ha1, ha2⟩ := wn_iff.1 hwn
      refine WL.z (v := .bool false) 17 ?_
      refine WL.z (v := .bool false) 18 ?_
      refine WL.nil (WQ.then (hK6 _ _ _ ?_))
      refine WC.sub (l' := [(0, .agg #[vI s, vI y, vI l, vI m]), (1, .slice p t.length cp), (2, vI a), (3, .func (.func 59) #[] #[]), (4, vP b4 0), (8, .slice none 0 0), (9, vI 0), (18, .bool false)]) ⟨rfl, rfl, rfl, rfl, rfl, rfl, rfl, rfl, trivial⟩ ?_
      refine WC.no rfl (WC.skip (WQ.then (hK5 _ _ _ (WC.seq fun K10 hK10 => ?_))))
      refine WC.confG (γ := Option Addr × Nat × Unit) [(0, .agg #[vI s, vI y, vI l, vI m]), (1, .slice p t.length cp), (2, vI a), (3, .func (.func 59) #[] #[]), (4, vP b4 0), (18, .bool false)] (fun gy => [.func (.func 59) #[] #[], .agg #[vI s, vI y, vI l, vI m], .slice p t.length cp, vI a, vP b4 2, vI l, vI (a / l), .slice gy.1 ((tcH s y (a / l) 0 t).length) gy.2.1, .slice gy.1 ((tcH s y (a / l) 0 t).length) gy.2.1, vI 0]) (fun gy D wz => HP Tr w wz ([.cel b4 #[vI s, vI y, vI l, vI m] 23] ++ ((bif D 7 then [rowT gy.1 (tcH s y (a / l) 0 t).length gy.2.1 (tcH s y (a / l) 0 t)] else []) ++ []))) (none, 0, ()) (by kernel_rfl) ⟨rfl, rfl, rfl, rfl, rfl, rfl, trivial⟩ (by kernel_rfl) (by kernel_rfl) (by kernel_rfl) (fun _ => rfl) (by kernel_rfl) (HP.drew hH8) ?_ ?_
      · refine AllOk.cons ?o0 (AllOk.cons ?o1 (AllOk.cons ?o2 (AllOk.cons ?o3 (AllOk.cons ?o4 (AllOk.cons ?o5 (AllOk.cons ?o6 (AllOk.cons ?o7 (AllOk.cons ?o8 (AllOk.cons ?o9 (AllOk.nil _))))))))))
        case o0 =>
          intro gy D wz hDi hdep hclo hW
          exact .inl ⟨rfl, rfl, .inl ⟨gy, wz, fun _ _ => rfl, by kernel_rfl, hW⟩⟩
        case o1 =>
          intro gy D wz hDi hdep hclo hW
          exact .inl ⟨rfl, rfl, .inl ⟨gy, wz, fun _ _ => rfl, x_loadS (cs := [vI s, vI y, vI l, vI m]) rfl rfl Try.underlying23 rfl sz23 (HP.range hW 0 rfl rfl), hW⟩⟩
        case o2 =>
          intro gy D wz hDi hdep hclo hW
          exact .inl ⟨rfl, rfl, .inl ⟨gy, wz, fun _ _ => rfl, by kernel_rfl, hW⟩⟩
        case o3 =>
          intro gy D wz hDi hdep hclo hW
          exact .inl ⟨rfl, rfl, .inl ⟨gy, wz, fun _ _ => rfl, by kernel_rfl, hW⟩⟩
        case o4 =>
          intro gy D wz hDi hdep hclo hW
          exact .inl ⟨rfl, rfl, .inl ⟨gy, wz, fun _ _ => rfl, by kernel_rfl, hW⟩⟩
        case o5 =>
          intro gy D wz hDi hdep hclo hW
          exact .inl ⟨rfl, rfl, .inl ⟨gy, wz, fun _ _ => rfl, x_load rfl rfl Try.underlying3 rfl (HP.cell hW 0 rfl rfl), hW⟩⟩
        case o6 =>
          intro gy D wz hDi hdep hclo hW
          exact .inl ⟨rfl, rfl, .inl ⟨gy, wz, fun _ _ => rfl, x_quo rfl rfl rfl (by omega) (tdiv_pos (by omega) (by omega)) (by have := Int.ediv_nonneg (show 0 ≤ a by omega) (show 0 ≤ l by omega); omega) (by have := Int.ediv_le_self l (show 0 ≤ a by omega); omega), hW⟩⟩
        case o7 =>
          intro gy D wz hDi hdep hclo hW
          have d8 : D 8 = false := by
            cases h : D 8 with
            | false => rfl
            | true => exact absurd (hclo 8 _ rfl h ⟨7, .data⟩ (by simp) rfl) (by rw [hDi]; exact Bool.false_ne_true)
          have hW2 := hW
          simp only [hDi, cond_true, cond_false, List.append_nil, List.nil_append, List.cons_append] at hW2
          refine .inl ⟨rfl, rfl, .inr (.inr ⟨59, #[.agg #[vI s, vI y, vI l, vI m], .slice p t.length cp, vI (a / l)], by kernel_rfl, (touch0_any _ t _ s y l m (a / l) _ (hT.below (HP.below hW2)) hV).mono ?_⟩)⟩
          rintro e w3 ⟨pv, cp9, rfl, hb⟩
          refine ⟨⟨pv, cp9, ()⟩, fun j hj => ?_, rfl, ?_⟩
          · match j, hj with
            | 0, hj => rfl
            | 1, hj => rfl
            | 2, hj => rfl
            | 3, hj => rfl
            | 4, hj => rfl
            | 5, hj => rfl
            | 6, hj => rfl
            | 7, hj => rw [hDi] at hj; cases hj
            | 8, hj => exact absurd hj (by rw [d8]; exact Bool.false_ne_true)
            | 9, hj => rfl
            | j + 10, _ => rfl
          · show HP Tr w w3 ([.cel b4 #[vI s, vI y, vI l, vI m] 23] ++ ([rowT pv (tcH s y (a / l) 0 t).length cp9 (tcH s y (a / l) 0 t)] ++ []))
            simp only [cond_true, cond_false, List.append_nil, List.nil_append, List.cons_append]
            exact HP.trans hW2 hb
        case o8 =>
          intro gy D wz hDi hdep hclo hW
          exact .inl ⟨rfl, rfl, .inl ⟨gy, wz, fun _ _ => rfl, by kernel_rfl, hW⟩⟩
        case o9 =>
          intro gy D wz hDi hdep hclo hW
          exact .inl ⟨rfl, rfl, .inl ⟨gy, wz, fun _ _ => rfl, by kernel_rfl, hW⟩⟩
      rintro ⟨pv, cp9, gu⟩ D w11 hall hH12
      simp only [hall 7 (by kernel_rfl), cond_true, List.append_nil, List.nil_append, List.cons_append] at hH12
      clear hall
      refine WQ.sub (l' := [(0, .agg #[vI s, vI y, vI l, vI m]), (1, .slice p t.length cp), (2, vI a), (3, .func (.func 59) #[] #[]), (4, vP b4 0), (8, .slice pv ((tcH s y (a / l) 0 t).length) cp9), (9, vI 0), (18, .bool false)]) ⟨rfl, rfl, rfl, rfl, rfl, rfl, rfl, rfl, trivial⟩ ?_
      refine WQ.then (hK10 _ _ _ (WC.ret ?_))
      refine WQ.ret2 8 9 rfl rfl rfl ?_
      exact .inr ⟨by rw [hok, hwn]; rfl, pv, cp9, rfl, HP.drop hH12 0⟩
    ·
      refine WL.call (f := 44) (args := #[vI a, vI 0, vI 999]) 16 rfl (Nat.le_of_ble_eq_true rfl) rfl rfl (by kernel_rfl) ?_
      refine (within_at hwn _).mono ?_
      rintro e w13 ⟨rfl, rfl⟩
      refine ⟨_, rfl, ?_⟩
      refine WL.z (v := .bool true) 17 ?_
      refine WL.z (v := .bool true) 18 ?_
      refine WL.nil (WQ.then (hK6 _ _ _ ?_))
      refine WC.sub (l' := [(0, .agg #[vI s, vI y, vI l, vI m]), (1, .slice p t.length cp), (2, vI a), (3, .func (.func 59) #[] #[]), (4, vP b4 0), (8, .slice none 0 0), (9, vI 0), (18, .bool true)]) ⟨rfl, rfl, rfl, rfl, rfl, rfl, rfl, rfl, trivial⟩ ?_
      refine WC.yes rfl (WC.seq fun K14 hK14 => WC.region ?_)
      refine WL.z (v := .slice none 0 0) 8 ?_
      refine WL.z (v := vI 1) 9 ?_
      refine WL.nil (WQ.then (hK14 _ _ _ (WC.ret ?_)))
      refine WQ.thenRet ?_
      refine WQ.ret2 8 9 rfl rfl rfl ?_
      exact .inl ⟨by rw [hok, hwn]; rfl, rfl, HP.below hH8⟩
  ·
    refine WL.call (f := 66) (args := #[.agg #[vI s, vI y, vI l, vI m], .slice p t.length cp]) 12 rfl (Nat.le_of_ble_eq_true rfl) rfl rfl (by kernel_rfl) ?_
    refine (validTable_any s y l m _ t _ _ (hT.below (HP.below hH4)) hn).mono ?_
    rw [hok]
    rintro e w15 ⟨rfl, hb9⟩
    refine ⟨_, rfl, ?_⟩
    have hH16 : HP Tr w _ [.cel b4 #[vI s, vI y, vI l, vI m] 23] := HP.call hH4 hb9
    refine WL.z (v := .bool true) 13 ?_
    refine WL.z (v := .bool true) 14 ?_
    refine WL.p 15 ?_
    refine WL.p 16 ?_
    refine WL.p 17 ?_
    refine WL.z (v := .bool true) 18 ?_
    refine WL.nil (WQ.then (hK6 _ _ _ ?_))
    refine WC.sub (l' := [(0, .agg #[vI s, vI y, vI l, vI m]), (1, .slice p t.length cp), (2, vI a), (3, .func (.func 59) #[] #[]), (4, vP b4 0), (8, .slice none 0 0), (9, vI 0), (18, .bool true)]) ⟨rfl, rfl, rfl, rfl, rfl, rfl, rfl, rfl, trivial⟩ ?_
    refine WC.yes rfl (WC.seq fun K17 hK17 => WC.region ?_)
    refine WL.z (v := .slice none 0 0) 8 ?_
    refine WL.z (v := vI 1) 9 ?_
    refine WL.nil (WQ.then (hK17 _ _ _ (WC.ret ?_)))
    refine WQ.thenRet ?_
    refine WQ.ret2 8 9 rfl rfl rfl ?_
    exact .inl ⟨by rw [hok]; rfl, rfl, HP.below hH16⟩
set_option maxRecDepth 20000 in
set_option maxHeartbeats 4000000 in
theorem touched1_any (p : Option Addr) (t : List T2) (cp : Nat) (s y l m a : Int) (w : World) (hT : InT w p t) (hn : t.length ≤ 281474976710656) :
    Calls Try.prog 58 #[.agg #[vI s, vI y, vI l, vI m], .slice p t.length cp, vI a, .func (.func 61) #[] #[]] w (TaR s y l m a 1 t w) := by
  refine calls_of Try.func58 rfl (m := 27) rfl [(0, .agg #[vI s, vI y, vI l, vI m]), (1, .slice p t.length cp), (2, vI a), (3, .func (.func 61) #[] #[])] (Fr_enter [.agg #[vI s, vI y, vI l, vI m], .slice p t.length cp, vI a, .func (.func 61) #[] #[]] 27 (Nat.le_of_ble_eq_true rfl)) ?_
  have hH1 : HP Tr w w [] := HP.refl w
  refine WC.seq fun K2 hK2 => WC.region ?_
  refine WL.alloc (c := #[vI s, vI y, vI l, vI m]) (T := 23) hH1 4 rfl (by decide) rfl rfl (fun b4 => vP b4 0) (by kernel_rfl) (fun b4 w3 hw3 => ?_)
  have hH4 : HP Tr w w3 [.cel b4 #[vI s, vI y, vI l, vI m] 23] := hw3.2
  have nb4 := hw3.1
  clear hw3
  refine WL.z (v := .slice none 0 0) 8 ?_
  refine WL.z (v := vI 0) 9 ?_
  refine WL.nil (WQ.then (hK2 _ _ _ (WC.seq fun K5 hK5 => WC.seq fun K6 hK6 => WC.region ?_)))
  refine WL.y (v := .agg #[vI s, vI y, vI l, vI m]) 10 (x_loadS (cs := [vI s, vI y, vI l, vI m]) rfl rfl Try.underlying23 rfl sz23 (HP.range hH4 0 rfl rfl)) ?_
  refine WL.z (v := .slice p t.length cp) 11 ?_
  rcases Bool.eq_false_or_eq_true (okT s y l m t) with hok | hok
  ·
    refine WL.call (f := 66) (args := #[.agg #[vI s, vI y, vI l, vI m], .slice p t.length cp]) 12 rfl (Nat.le_of_ble_eq_true rfl) rfl rfl (by kernel_rfl) ?_
    refine (validTable_any s y l m _ t _ _ (hT.below (HP.below hH4)) hn).mono ?_
    rw [hok]
    rintro e w7 ⟨rfl, hb9⟩
    refine ⟨_, rfl, ?_⟩
    have hH8 : HP Tr w _ [.cel b4 #[vI s, vI y, vI l, vI m] 23] := HP.call hH4 hb9
    have hV := ok_VT hok
    obtain ⟨hl1, hl2⟩ : 1 ≤ l ∧ l ≤ 8 := ⟨hV.l1, hV.l2⟩
    refine WL.z (v := .bool false) 13 ?_
    refine WL.z (v := .bool false) 14 ?_
    refine WL.z (v := vI a) 15 ?_
    rcases Bool.eq_false_or_eq_true (wn a 0 999) with hwn | hwn
    ·
      refine WL.call (f := 44) (args := #[vI a, vI 0, vI 999]) 16 rfl (Nat.le_of_ble_eq_true rfl) rfl rfl (by kernel_rfl) ?_
      refine (within_at hwn _).mono ?_
      rintro e w9 ⟨rfl, rfl⟩
      refine ⟨_, rfl, ?_⟩
      obtain ⟨ha1, ha2⟩ := wn_iff.1 hwn
      refine WL.z (v := .bool false) 17 ?_
      refine WL.z (v := .bool false) 18 ?_
      refine WL.nil (WQ.then (hK6 _ _ _ ?_))
      refine WC.sub (l' := [(0, .agg #[vI s, vI y, vI l, vI m]), (1, .slice p t.length cp), (2, vI a), (3, .func (.func 61) #[] #[]), (4, vP b4 0), (8, .slice none 0 0), (9, vI 0), (18, .bool false)]) ⟨rfl, rfl, rfl, rfl, rfl, rfl, rfl, rfl, trivial⟩ ?_
      refine WC.no rfl (WC.skip (WQ.then (hK5 _ _ _ (WC.seq fun K10 hK10 => ?_))))
      refine WC.confG (γ := Option Addr × Nat × Unit) [(0, .agg #[vI s, vI y, vI l, vI m]), (1, .slice p t.length cp), (2, vI a), (3, .func (.func 61) #[] #[]), (4, vP b4 0), (18, .bool false)] (fun gy => [.func (.func 61) #[] #[], .agg #[vI s, vI y, vI l, vI m], .slice p t.length cp, vI a, vP b4 2, vI l, vI (a / l), .slice gy.1 ((tcH s y (a / l) 1 t).length) gy.2.1, .slice gy.1 ((tcH s y (a / l) 1 t).length) gy.2.1, vI 0]) (fun gy D wz => HP Tr w wz ([.cel b4 #[vI s, vI y, vI l, vI m] 23] ++ ((bif D 7 then [rowT gy.1 (tcH s y (a / l) 1 t).length gy.2.1 (tcH s y (a / l) 1 t)] else []) ++ []))) (none, 0, ()) (by kernel_rfl) ⟨rfl, rfl, rfl, rfl, rfl, rfl, trivial⟩ (by kernel_rfl) (by kernel_rfl) (by kernel_rfl) (fun _ => rfl) (by kernel_rfl) (HP.drew hH8) ?_ ?_
      · refine AllOk.cons ?o0 (AllOk.cons ?o1 (AllOk.cons ?o2 (AllOk.cons ?o3 (AllOk.cons ?o4 (AllOk.cons ?o5 (AllOk.cons ?o6 (AllOk.cons ?o7 (AllOk.cons ?o8 (AllOk.cons ?o9 (AllOk.nil _))))))))))
        case o0 =>
          intro gy D wz hDi hdep hclo hW
          exact .inl ⟨rfl, rfl, .inl ⟨gy, wz, fun _ _ => rfl, by kernel_rfl, hW⟩⟩
        case o1 =>
          intro gy D wz hDi hdep hclo hW
          exact .inl ⟨rfl, rfl, .inl ⟨gy, wz, fun _ _ => rfl, x_loadS (cs := [vI s, vI y, vI l, vI m]) rfl rfl Try.underlying23 rfl sz23 (HP.range hW 0 rfl rfl), hW⟩⟩
        case o2 =>
          intro gy D wz hDi hdep hclo hW
          exact .inl ⟨rfl, rfl, .inl ⟨gy, wz, fun _ _ => rfl, by kernel_rfl, hW⟩⟩
        case o3 =>
          intro gy D wz hDi hdep hclo hW
          exact .inl ⟨rfl, rfl, .inl ⟨gy, wz, fun _ _ => rfl, by kernel_rfl, hW⟩⟩
        case o4 =>
          intro gy D wz hDi hdep hclo hW
          exact .inl ⟨rfl, rfl, .inl ⟨gy, wz, fun _ _ => rfl, by kernel_rfl, hW⟩⟩
        case o5 =>
          intro gy D wz hDi hdep hclo hW
          exact .inl ⟨rfl, rfl, .inl ⟨gy, wz, fun _ _ => rfl, x_load rfl rfl Try.underlying3 rfl (HP.cell hW 0 rfl rfl), hW⟩⟩
        case o6 =>
          intro gy D wz hDi hdep hclo hW
          exact .inl ⟨rfl, rfl, .inl ⟨gy, wz, fun _ _ => rfl, x_quo rfl rfl rfl (by omega) (tdiv_pos (by omega) (by omega)) (by have := Int.ediv_nonneg (show 0 ≤ a by omega) (show 0 ≤ l by omega); omega) (by have := Int.ediv_le_self l (show 0 ≤ a by omega); omega), hW⟩⟩
        case o7 =>
          intro gy D wz hDi hdep hclo hW
          have d8 : D 8 = false := by
            cases h : D 8 with
            | false => rfl
            | true => exact absurd (hclo 8 _ rfl h ⟨7, .data⟩ (by simp) rfl) (by rw [hDi]; exact Bool.false_ne_true)
          have hW2 := hW
          simp only [hDi, cond_true, cond_false, List.append_nil, List.nil_append, List.cons_append] at hW2
          refine .inl ⟨rfl, rfl, .inr (.inr ⟨61, #[.agg #[vI s, vI y, vI l, vI m], .slice p t.length cp, vI (a / l)], by kernel_rfl, (touch1_any _ t _ s y l m (a / l) _ (hT.below (HP.below hW2)) hV).mono ?_⟩)⟩
          rintro e w3 ⟨pv, cp9, rfl, hb⟩
          refine ⟨⟨pv, cp9, ()⟩, fun j hj => ?_, rfl, ?_⟩
          · match j, hj with
            | 0, hj => rfl
            | 1, hj => rfl
            | 2, hj => rfl
            | 3, hj => rfl
            | 4, hj => rfl
            | 5, hj => rfl
            | 6, hj => rfl
            | 7, hj => rw [hDi] at hj; cases hj
            | 8, hj => exact absurd hj (by rw [d8]; exact Bool.false_ne_true)
            | 9, hj => rfl
            | j + 10, _ => rfl
          · show HP Tr w w3 ([.cel b4 #[vI s, vI y, vI l, vI m] 23] ++ ([rowT pv (tcH s y (a / l) 1 t).length cp9 (tcH s y (a / l) 1 t)] ++ []))
            simp only [cond_true, cond_false, List.append_nil, List.nil_append, List.cons_append]
            exact HP.trans hW2 hb
        case o8 =>
          intro gy D wz hDi hdep hclo hW
          exact .inl ⟨rfl, rfl, .inl ⟨gy, wz, fun _ _ => rfl, by kernel_rfl, hW⟩⟩
        case o9 =>
          intro gy D wz hDi hdep hclo hW
          exact .inl ⟨rfl, rfl, .inl ⟨gy, wz, fun _ _ => rfl, by kernel_rfl, hW⟩⟩
      rintro ⟨pv, cp9, gu⟩ D w11 hall hH12
      simp only [hall 7 (by kernel_rfl), cond_true, List.append_nil, List.nil_append, List.cons_append] at hH12
      clear hall
      refine WQ.sub (l' := [(0, .agg #[vI s, vI y, vI l, vI m]), (1, .slice p t.length cp), (2, vI a), (3, .func (.func 61) #[] #[]), (4, vP b4 0), (8, .slice pv ((tcH s y (a / l) 1 t).length) cp9), (9, vI 0), (18, .bool false)]) ⟨rfl, rfl, rfl, rfl, rfl, rfl, rfl, rfl, trivial⟩ ?_
      refine WQ.then (hK10 _ _ _ (WC.ret ?_))
      refine WQ.ret2 8 9 rfl rfl rfl ?_
      exact .inr ⟨by rw [hok, hwn]; rfl, pv, cp9, rfl, HP.drop hH12 0⟩
    ·
      refine WL.call (f := 44) (args := #[vI a, vI 0, vI 999]) 16 rfl (Nat.le_of_ble_eq_true rfl) rfl rfl (by kernel_rfl) ?_
      refine (within_at hwn _).mono ?_
      rintro e w13 ⟨rfl, rfl⟩
      refine ⟨_, rfl, ?_⟩
      refine WL.z (v := .bool true) 17 ?_
      refine WL.z (v := .bool true) 18 ?_
      refine WL.nil (WQ.then (hK6 _ _ _ ?_))
      refine WC.sub (l' := [(0, .agg #[vI s, vI y, vI l, vI m]), (1, .slice p t.length cp), (2, vI a), (3, .func (.func 61) #[] #[]), (4, vP b4 0), (8, .slice none 0 0), (9, vI 0), (18, .bool true)]) ⟨rfl, rfl, rfl, rfl, rfl, rfl, rfl, rfl, trivial⟩ ?_
      refine WC.yes rfl (WC.seq fun K14 hK14 => WC.region ?_)
      refine WL.z (v := .slice none 0 0) 8 ?_
      refine WL.z (v := vI 1) 9 ?_
      refine WL.nil (WQ.then (hK14 _ _ _ (WC.ret ?_)))
      refine WQ.thenRet ?_
      refine WQ.ret2 8 9 rfl rfl rfl ?_
      exact .inl ⟨by rw [hok, hwn]; rfl, rfl, HP.below hH8⟩
  ·
    refine WL.call (f := 66) (args := #[.agg #[vI s, vI y, vI l, vI m], .slice p t.length cp]) 12 rfl (Nat.le_of_ble_eq_true rfl) rfl rfl (by kernel_rfl) ?_
    refine (validTable_any s y l m _ t _ _ (hT.below (HP.below hH4)) hn).mono ?_
    rw [hok]
    rintro e w15 ⟨rfl, hb9⟩
    refine ⟨_, rfl, ?_⟩
    have hH16 : HP Tr w _ [.cel b4 #[vI s, vI y, vI l, vI m] 23] := HP.call hH4 hb9
    refine WL.z (v := .bool true) 13 ?_
    refine WL.z (v := .bool true) 14 ?_
    refine WL.p 15 ?_
    refine WL.p 16 ?_
    refine WL.p 17 ?_
    refine WL.z (v := .bool true) 18 ?_
    refine WL.nil (WQ.then (hK6 _ _ _ ?_))
    refine WC.sub (l' := [(0, .agg #[vI s, vI y, vI l, vI m]), (1, .slice p t.length cp), (2, vI a), (3, .func (.func 61) #[] #[]), (4, vP b4 0), (8, .slice none 0 0), (9, vI 0), (18, .bool true)]) ⟨rfl, rfl, rfl, rfl, rfl, rfl, rfl, rfl, trivial⟩ ?_
    refine WC.yes rfl (WC.seq fun K17 hK17 => WC.region ?_)
    refine WL.z (v := .slice none 0 0) 8 ?_
    refine WL.z (v := vI 1) 9 ?_
    refine WL.nil (WQ.then (hK17 _ _ _ (WC.ret ?_)))
    refine WQ.thenRet ?_
    refine WQ.ret2 8 9 rfl rfl rfl ?_
    exact .inl ⟨by rw [hok]; rfl, rfl, HP.below hH16⟩
set_option maxRecDepth 20000 in
set_option maxHeartbeats 4000000 in
theorem TouchMust_any (p : Option Addr) (t : List T2) (cp : Nat) (s y l m a : Int) (w : World) (hT : InT w p t) (hn : t.length ≤ 281474976710656) :
    Calls Try.prog 30 #[.agg #[vI s, vI y, vI l, vI m], .slice p t.length cp, vI a] w (TaR s y l m a 0 t w) := by
  refine calls_of Try.func30 rfl (m := 14) rfl [(0, .agg #[vI s, vI y, vI l, vI m]), (1, .slice p t.length cp), (2, vI a)] (Fr_enter [.agg #[vI s, vI y, vI l, vI m], .slice p t.length cp, vI a] 14 (Nat.le_of_ble_eq_true rfl)) ?_
  have hH1 : HP Tr w w [] := HP.refl w
  refine WC.seq fun K2 hK2 => WC.region ?_
  refine WL.alloc (c := #[vI s, vI y, vI l, vI m]) (T := 23) hH1 3 rfl (by decide) rfl rfl (fun b3 => vP b3 0) (by kernel_rfl) (fun b3 w3 hw3 => ?_)
  have hH4 : HP Tr w w3 [.cel b3 #[vI s, vI y, vI l, vI m] 23] := hw3.2
  have nb3 := hw3.1
  clear hw3
  refine WL.z (v := .slice none 0 0) 6 ?_
  refine WL.z (v := vI 0) 7 ?_
  refine WL.nil (WQ.then (hK2 _ _ _ (WC.seq fun K5 hK5 => WC.region ?_)))
  refine WL.y (v := .agg #[vI s, vI y, vI l, vI m]) 8 (x_loadS (cs := [vI s, vI y, vI l, vI m]) rfl rfl Try.underlying23 rfl sz23 (HP.range hH4 0 rfl rfl)) ?_
  refine WL.z (v := .slice p t.length cp) 9 ?_
  refine WL.z (v := vI a) 10 ?_
  refine WL.call (f := 58) (args := #[.agg #[vI s, vI y, vI l, vI m], .slice p t.length cp, vI a, .func (.func 59) #[] #[]]) 11 rfl (Nat.le_of_ble_eq_true rfl) rfl rfl (by kernel_rfl) ?_
  refine (touched0_any _ t _ s y l m a _ (hT.below (HP.below hH4)) hn).mono ?_
  rintro e w4 (⟨hno, rfl, hb4⟩ | ⟨hyes, pv, cp9, rfl, hb4⟩)
  ·
    refine ⟨_, rfl, ?_⟩
    have hH6 : HP Tr w _ [.cel b3 #[vI s, vI y, vI l, vI m] 23] := HP.call hH4 hb4
    refine WL.z (v := .slice none 0 0) 12 ?_
    refine WL.z (v := vI 1) 13 ?_
    refine WL.z (v := .slice none 0 0) 6 ?_
    refine WL.z (v := vI 1) 7 ?_
    refine WL.nil (WQ.then (hK5 _ _ _ ?_))
    refine WC.sub (l' := [(0, .agg #[vI s, vI y, vI l, vI m]), (1, .slice p t.length cp), (2, vI a), (3, vP b3 0), (6, .slice none 0 0), (7, vI 1)]) ⟨rfl, rfl, rfl, rfl, rfl, rfl, trivial⟩ ?_
    refine WC.ret ?_
    refine WQ.ret2 6 7 rfl rfl rfl ?_
    exact .inl ⟨hno, rfl, HP.below hH6⟩
  ·
    refine ⟨_, rfl, ?_⟩
    have hH7 : HP Tr w _ [.cel b3 #[vI s, vI y, vI l, vI m] 23, rowT pv (tcH s y (a / l) 0 t).length cp9 (tcH s y (a / l) 0 t)] := HP.trans hH4 hb4
    refine WL.z (v := .slice pv ((tcH s y (a / l) 0 t).length) cp9) 12 ?_
    refine WL.z (v := vI 0) 13 ?_
    refine WL.z (v := .slice pv ((tcH s y (a / l) 0 t).length) cp9) 6 ?_
    refine WL.z (v := vI 0) 7 ?_
    refine WL.nil (WQ.then (hK5 _ _ _ ?_))
    refine WC.sub (l' := [(0, .agg #[vI s, vI y, vI l, vI m]), (1, .slice p t.length cp), (2, vI a), (3, vP b3 0), (6, .slice pv ((tcH s y (a / l) 0 t).length) cp9), (7, vI 0)]) ⟨rfl, rfl, rfl, rfl, rfl, rfl, trivial⟩ ?_
    refine WC.ret ?_
    refine WQ.ret2 6 7 rfl rfl rfl ?_
    exact .inr ⟨hyes, pv, cp9, rfl, HP.drop hH7 0⟩
set_option maxRecDepth 20000 in
set_option maxHeartbeats 4000000 in
theorem TouchMay_any (p : Option Addr) (t : List T2) (cp : Nat) (s y l m a : Int) (w : World) (hT : InT w p t) (hn : t.length ≤ 281474976710656) :
    Calls Try.prog 32 #[.agg #[vI s, vI y, vI l, vI m], .slice p t.length cp, vI a] w (TaR s y l m a 1 t w) := by
  refine calls_of Try.func32 rfl (m := 14) rfl [(0, .agg #[vI s, vI y, vI l, vI m]), (1, .slice p t.length cp), (2, vI a)] (Fr_enter [.agg #[vI s, vI y, vI l, vI m], .slice p t.length cp, vI a] 14 (Nat.le_of_ble_eq_true rfl)) ?_
  have hH1 : HP Tr w w [] := HP.refl w
  refine WC.seq fun K2 hK2 => WC.region ?_
  refine WL.alloc (c := #[vI s, vI y, vI l, vI m]) (T := 23) hH1 3 rfl (by decide) rfl rfl (fun b3 => vP b3 0) (by kernel_rfl) (fun b3 w3 hw3 => ?_)
  have hH4 : HP Tr w w3 [.cel b3 #[vI s, vI y, vI l, vI m] 23] := hw3.2
  have nb3 := hw3.1
  clear hw3
  refine WL.z (v := .slice none 0 0) 6 ?_
  refine WL.z (v := vI 0) 7 ?_
  refine WL.nil (WQ.then (hK2 _ _ _ (WC.seq fun K5 hK5 => WC.region ?_)))
  refine WL.y (v := .agg #[vI s, vI y, vI l, vI m]) 8 (x_loadS (cs := [vI s, vI y, vI l, vI m]) rfl rfl Try.underlying23 rfl sz23 (HP.range hH4 0 rfl rfl)) ?_
  refine WL.z (v := .slice p t.length cp) 9 ?_
  refine WL.z (v := vI a) 10 ?_
  refine WL.call (f := 58) (args := #[.agg #[vI s, vI y, vI l, vI m], .slice p t.length cp, vI a, .func (.func 61) #[] #[]]) 11 rfl (Nat.le_of_ble_eq_true rfl) rfl rfl (by kernel_rfl) ?_
  refine (touched1_any _ t _ s y l m a _ (hT.below (HP.below hH4)) hn).mono ?_
  rintro e w4 (⟨hno, rfl, hb4⟩ | ⟨hyes, pv, cp9, rfl, hb4⟩)
  ·
    refine ⟨_, rfl, ?_⟩
    have hH6 : HP Tr w _ [.cel b3 #[vI s, vI y, vI l, vI m] 23] := HP.call hH4 hb4
    refine WL.z (v := .slice none 0 0) 12 ?_
    refine WL.z (v := vI 1) 13 ?_
    refine WL.z (v := .slice none 0 0) 6 ?_
    refine WL.z (v := vI 1) 7 ?_
    refine WL.nil (WQ.then (hK5 _ _ _ ?_))
    refine WC.sub (l' := [(0, .agg #[vI s, vI y, vI l, vI m]), (1, .slice p t.length cp), (2, vI a), (3, vP b3 0), (6, .slice none 0 0), (7, vI 1)]) ⟨rfl, rfl, rfl, rfl, rfl, rfl, trivial⟩ ?_
    refine WC.ret ?_
    refine WQ.ret2 6 7 rfl rfl rfl ?_
    exact .inl ⟨hno, rfl, HP.below hH6⟩
  ·
    refine ⟨_, rfl, ?_⟩
    have hH7 : HP Tr w _ [.cel b3 #[vI s, vI y, vI l, vI m] 23, rowT pv (tcH s y (a / l) 1 t).length cp9 (tcH s y (a / l) 1 t)] := HP.trans hH4 hb4
    refine WL.z (v := .slice pv ((tcH s y (a / l) 1 t).length) cp9) 12 ?_
    refine WL.z (v := vI 0) 13 ?_
    refine WL.z (v := .slice pv ((tcH s y (a / l) 1 t).length) cp9) 6 ?_
    refine WL.z (v := vI 0) 7 ?_
    refine WL.nil (WQ.then (hK5 _ _ _ ?_))
    refine WC.sub (l' := [(0, .agg #[vI s, vI y, vI l, vI m]), (1, .slice p t.length cp), (2, vI a), (3, vP b3 0), (6, .slice pv ((tcH s y (a / l) 1 t).length) cp9), (7, vI 0)]) ⟨rfl, rfl, rfl, rfl, rfl, rfl, trivial⟩ ?_
    refine WC.ret ?_
    refine WQ.ret2 6 7 rfl rfl rfl ?_
    exact .inr ⟨hyes, pv, cp9, rfl, HP.drop hH7 0⟩
end Ca
end Go.Proofs.Ytmjnakhpekbenaa
namespace Go.Proofs.Ytmjnakhpekbenaa
open Go.RowKit
namespace Fw
section
variable {P : Program} {S : Nat → Prop} {w0 w : World} {H : List Ent} {γ : Type} {Wt Kn R1 R2 : Prop} {ρ : Operand → Value} {o : Oper} {val : γ → Value} {agr : γ → Prop} {WI : γ → World → Prop}
theorem cf_alloc {c : Array Value} {T : TypeId} (hH : HP S w0 w H) (V : Nat → Value) (hw : Wt) (hk : Kn) (hr : (execOp ρ o).run P w = .ok (.value (V w.heap.size)) (w.alloc (.cells c T)))
    (k : ∀ b w', HP S w0 w' (H ++ [.cel b c T]) → ∃ g', agr g' ∧ val g' = V b ∧ WI g' w') :
    (Wt ∧ Kn ∧ ((∃ g' w', agr g' ∧ (execOp ρ o).run P w = .ok (.value (val g')) w' ∧ WI g' w') ∨ R1)) ∨ R2 := by
  obtain ⟨g', h1, h2, h3⟩ := k _ _ (HP.alloc hH c T)
  exact .inl ⟨hw, hk, .inl ⟨g', _, h1, by rw [h2]; exact hr, h3⟩⟩
theorem cf_append {t e : TypeId} {inf : TypeInfo} {z : Value} {sz by' : Nat} {x y : Operand} {v : Value} {k m : Nat} {xs : List Value} (news : List Value) {bn cp : Nat} {cn : Array Value} (i j : Nat) (hH : HP S w0 w H) (hw : Wt) (hkn : Kn)
    (ho : o.op = .call { callee := .builtin .append, args := #[x, y], argTypes := #[t, t] }) (hx : ρ x = v) (hy : ρ y = .slice (some ⟨bn, 0, none⟩) m cp)
    (ht : P.underlying t = some (.slice e)) (hi' : P.info? e = some inf) (hz : inf.zero = some z) (hsz : inf.size = sz) (hby : inf.bytes = by') (hzs : z.cells.size = sz) (h0 : 0 < sz)
    (hi : H[i]? = some (.own v k xs e sz)) (hj : H[j]? = some (.cel bn cn e)) (hnews : cn.toList.take news.length = news) (hl : news.length = m * sz) (h1 : ∀ u ∈ news, u.oneCell' = true) (h63 : k + m ≤ maxLen) (hb : (k + m) * by' ≤ 140737488355328)
    (h : ∀ v' w2, HP S w0 w2 (H.set i (.own v' (k + m) (xs ++ news) e sz)) → ∃ g', agr g' ∧ val g' = v' ∧ WI g' w2) :
    (Wt ∧ Kn ∧ ((∃ g' w', agr g' ∧ (execOp ρ o).run P w = .ok (.value (val g')) w' ∧ WI g' w') ∨ R1)) ∨ R2 := by
  obtain ⟨v', w2, hr, g1, g2, g3, g4⟩ := append_ent (P := P) w t o.type e inf z sz by' ht hi' hz hsz hby hzs h0 v k xs (hH.get i hi) ⟨bn, 0, none⟩ m cp news hl (fun q u hu => by
    rw [Addr.add_mid]
    exact hH.range j hj (by simpa using hnews) q u hu) h1 h63 hb
  obtain ⟨g', a1, a2, a3⟩ := h v' w2 (hH.change i hi g2.os g2.tape g2.output g2.size (fun q hq hne => g2.block q hq fun e => hne e.symm) ⟨g1.1, g1.2⟩ g4)
  exact .inl ⟨hw, hkn, .inl ⟨g', w2, a1, by rw [a2]; exact x_append (P := P) ho hx hy hr, a3⟩⟩
theorem cf_appendSrc {t e : TypeId} {inf : TypeInfo} {z : Value} {sz by' : Nat} {x y : Operand} {v : Value} {k m : Nat} {xs : List Value} (news : List Value) {p : Option Addr} {cp : Nat} (i : Nat) (hH : HP S w0 w H) (hw : Wt) (hkn : Kn)
    (ho : o.op = .call { callee := .builtin .append, args := #[x, y], argTypes := #[t, t] }) (hx : ρ x = v) (hy : ρ y = .slice p m cp)
    (ht : P.underlying t = some (.slice e)) (hi' : P.info? e = some inf) (hz : inf.zero = some z) (hsz : inf.size = sz) (hby : inf.bytes = by') (hzs : z.cells.size = sz) (h0 : 0 < sz)
    (hi : H[i]? = some (.own v k xs e sz)) (hsrc : (∃ a, p = some a ∧ ∀ q u, news[q]? = some u → w.cell? (a.add q) = some u) ∨ (p = none ∧ m = 0 ∧ cp = 0)) (hl : news.length = m * sz) (h1 : ∀ u ∈ news, u.oneCell' = true) (h63 : k + m ≤ maxLen) (hb : (k + m) * by' ≤ 140737488355328)
    (h : ∀ v' w2, HP S w0 w2 (H.set i (.own v' (k + m) (xs ++ news) e sz)) → ∃ g', agr g' ∧ val g' = v' ∧ WI g' w2) :
    (Wt ∧ Kn ∧ ((∃ g' w', agr g' ∧ (execOp ρ o).run P w = .ok (.value (val g')) w' ∧ WI g' w') ∨ R1)) ∨ R2 := by
  rcases hsrc with ⟨ad, rfl, hc⟩ | ⟨rfl, rfl, rfl⟩
  · obtain ⟨v', w2, hr, g1, g2, g3, g4⟩ := append_ent (P := P) w t o.type e inf z sz by' ht hi' hz hsz hby hzs h0 v k xs (hH.get i hi) ad m cp news hl hc h1 h63 hb
    obtain ⟨g', a1, a2, a3⟩ := h v' w2 (hH.change i hi g2.os g2.tape g2.output g2.size (fun q hq hne => g2.block q hq fun e => hne e.symm) ⟨g1.1, g1.2⟩ g4)
    exact .inl ⟨hw, hkn, .inl ⟨g', w2, a1, by rw [a2]; exact x_append (P := P) ho hx hy hr, a3⟩⟩
  · have hnil : news = [] := List.length_eq_zero_iff.1 (by rw [hl]; simp)
    subst hnil
    have hr := run_append_owned_none (P := P) (w := w) 0 t o.type e inf sz ht hi' v k xs (hH.get i hi)
    obtain ⟨g', a1, a2, a3⟩ := h v w (hH.setSame i hi (by have q := hH.get i hi; simpa using q) rfl)
    exact .inl ⟨hw, hkn, .inl ⟨g', w, a1, by rw [a2]; exact x_append (P := P) ho hx hy hr, a3⟩⟩
theorem cf_makeOwn {t e : TypeId} {inf : TypeInfo} {z : Value} {sz by' cap : Nat} {x y : Operand} {C : Int} (hH : HP S w0 w H) (hw : Wt) (hkn : Kn)
    (ho : o.op = .makeSlice t x y) (hx : ρ x = .int .i64 0) (hy : ρ y = .int .i64 C) (hC : C = (cap : Int))
    (ht : P.underlying t = some (.slice e)) (hi' : P.info? e = some inf) (hz : inf.zero = some z) (hsz : inf.size = sz) (hby : inf.bytes = by') (hzs : z.cells.size = sz) (hb : by' * cap ≤ 281474976710656) (h63 : cap ≤ maxLen)
    (h : ∀ g w2, HP S w0 w2 (H ++ [.own (.slice (some ⟨g, 0, none⟩) 0 cap) 0 [] e sz]) → ∃ g', agr g' ∧ val g' = .slice (some ⟨g, 0, none⟩) 0 cap ∧ WI g' w2) :
    (Wt ∧ Kn ∧ ((∃ g' w', agr g' ∧ (execOp ρ o).run P w = .ok (.value (val g')) w' ∧ WI g' w') ∨ R1)) ∨ R2 := by
  subst hC
  have hmx : cap ≤ 9223372036854775807 := h63
  have hr := run_make (P := P) w t e inf z ht hi' hz .i64 .i64 0 (cap : Int) (Int.le_refl 0) (by omega) (by rw [hby]; omega) (by omega)
  have q := HP.alloc hH (madeCells z.cells (cap * inf.size)) e
  have q2 := q.setSame H.length (e := .cel w.heap.size (madeCells z.cells (cap * inf.size)) e) (e' := .own (.slice (some ⟨w.heap.size, 0, none⟩) 0 cap) 0 [] e sz) (by simp)
    (World.ownsRow_made (size := sz) w _ cap (Nat.zero_le _) h63 (by rw [← hsz]; simp [madeCells])) rfl
  obtain ⟨g', a1, a2, a3⟩ := h w.heap.size (w.alloc (.cells (madeCells z.cells (cap * inf.size)) e)) (by simpa using q2)
  simp only [Int.toNat_natCast, Int.toNat_zero] at hr
  exact .inl ⟨hw, hkn, .inl ⟨g', _, a1, by rw [a2]; exact x_makeR (P := P) ho hx hy hr, a3⟩⟩
end
end Fw
end Go.Proofs.Ytmjnakhpekbenaa
namespace Go.Proofs.Ytmjnakhpekbenaa
open Go.RowKit Fw
namespace Ca
/-- the join, as the reference goes through both -/
def rJ (may : Bool) : List T2 → List T2 → List T2
  | [], [] => []
  | p :: r, [] => (bif may then [p] else []) ++ rJ may r []
  | [], q :: v => (bif may then [q] else []) ++ rJ may [] v
  | p :: r, q :: v => if p.1 < q.1 then (bif may then [p] else []) ++ rJ may r (q :: v) else if q.1 < p.1 then (bif may then [q] else []) ++ rJ may (p :: r) v else (p.1, bif may then min p.2 q.2 else max p.2 q.2) :: rJ may r v
termination_by t u => t.length + u.length
/-- the lines that are in both -/
def jm1 (u : List T2) (p : T2) : List T2 := match ageT u p.1 with
  | some a => [(p.1, max p.2 a)]
  | none => []
def jM (t u : List T2) : List T2 := t.flatMap (jm1 u)
theorem jM_drop {t u : List T2} {i : Nat} (hi : i < t.length) : jM (t.drop i) u = jm1 u (lnT t i, agT t i) ++ jM (t.drop (i + 1)) u := by rw [drop_t hi]; rfl
theorem jm_yes {u : List T2} {x a c : Int} (h : ageT u x = some c) : jm1 u (x, a) = [(x, max a c)] := by unfold jm1; rw [h]
theorem jm_no {u : List T2} {x a : Int} (h : ageT u x = none) : jm1 u (x, a) = [] := by unfold jm1; rw [h]
theorem find_none {u : List T2} {x : Int} {k : Nat} (hs : sT u) (hk1 : k ≤ u.length) (hk2 : 0 < k → lnT u (k - 1) < x) (hk3 : k < u.length → x ≤ lnT u k) (hq : ¬ (k < u.length ∧ lnT u k = x)) : ageT u x = none :=
  age_no hs hk2 (fun h => by have := hk3 h; by_cases e : lnT u k = x; exact absurd ⟨h, e⟩ hq; omega) hk1
set_option maxRecDepth 20000 in
set_option maxHeartbeats 4000000 in
theorem joinMust_any (p p2 : Option Addr) (t u : List T2) (cp cp2 : Nat) (w : World) (hT : InT w p t) (hU : InT w p2 u) (hn : t.length ≤ 100000) (hn2 : u.length ≤ 100000) (hs : sT u) :
    Calls Try.prog 63 #[.slice p t.length cp, .slice p2 u.length cp2] w fun e w' => ∃ pv cp', e = .returned (.slice pv (jM t u).length cp') ∧ HP Tr w w' [rowT pv (jM t u).length cp' (jM t u)] := by
  refine calls_of Try.func63 rfl (m := 41) rfl [(0, .slice p t.length cp), (1, .slice p2 u.length cp2)] (Fr_enter [.slice p t.length cp, .slice p2 u.length cp2] 41 (Nat.le_of_ble_eq_true rfl)) ?_
  have hH1 : HP Tr w w [] := HP.refl w
  refine WC.seq fun K2 hK2 => WC.region ?_
  refine WL.z (v := .slice none 0 0) 4 ?_
  refine WL.nil (WQ.then (hK2 _ _ _ (WC.seq fun K3 hK3 => WC.region ?_)))
  refine WL.alloc (c := #[]) (T := 83) hH1 10 rfl (by decide) rfl rfl (fun b10 => vS b10 0 0) (by kernel_rfl) (fun b10 w4 hw4 => ?_)
  have hH5 : HP Tr w w4 [.cel b10 #[] 83] := hw4.2
  have nb10 := hw4.1
  clear hw4
  refine WL.z (v := vS b10 0 0) 5 ?_
  refine WL.nil (WQ.then (hK3 _ _ _ (WC.seq fun K6 hK6 => WC.seq fun K7 hK7 => ?_)))
  have hO9 := HP.celToOwn hH5 0 (k := 0) (cap := 0) (s := 2) rfl (Nat.le_refl _) (by decide) rfl
  have hH8 : HP Tr w _ [rowT (some ⟨b10, 0, none⟩) ([] : List T2).length 0 ([] : List T2)] := HP.eq hO9 rfl
  refine WC.region ?_
  refine WL.z (v := .slice p t.length cp) 11 ?_
  refine WL.z (v := vI (t.length : Int)) 12 ?_
  refine WL.z (v := vI 0) 13 ?_
  refine WL.nil (WQ.then (hK7 _ _ _ (WC.block ?_)))
  refine WC.loop (fun kk0 ll0 ww0 => ∃ (i : Nat) (A : List T2) (pv : Option Addr) (cp3 : Nat), ll0 = [(0, .slice p t.length cp), (1, .slice p2 u.length cp2), (5, .slice pv A.length cp3), (11, .slice p t.length cp), (12, vI (t.length : Int)), (13, vI (i : Int))] ∧ kk0 = t.length - i ∧ (i ≤ t.length) ∧ (A ++ jM (t.drop i) u = jM t u) ∧ (A.length ≤ i) ∧ HP Tr w ww0 [rowT pv A.length cp3 A]) (t.length) [(0, .slice p t.length cp), (1, .slice p2 u.length cp2), (5, .slice (some ⟨b10, 0, none⟩) 0 0), (11, .slice p t.length cp), (12, vI (t.length : Int)), (13, vI 0)] ⟨rfl, rfl, rfl, rfl, rfl, rfl, trivial⟩ ⟨0, [], _, 0, rfl, rfl, Nat.zero_le _, rfl, Nat.zero_le _, hH8⟩ ?_
  rintro kk l w10 ⟨i, A, pv, cp3, rfl, hkk, hi, hA, hAl, hH11⟩ K9 hK9
  refine WC.seq fun K12 hK12 => WC.region ?_
  by_cases h14 : (i : Int) < (t.length : Int)
  ·
    refine WL.y (v := .bool true) 14 (x_lss rfl rfl rfl (dT (h14))) ?_
    refine WL.nil (WQ.then (hK12 _ _ _ (WC.seq fun K13 hK13 => WC.yes rfl (WC.skip (WQ.then (hK13 _ _ _ ?_))))))
    refine WC.seq fun K14 hK14 => WC.block (WC.seq fun K15 hK15 => ?_)
    obtain ⟨g, o, rfl, hrow⟩ := hT (by omega)
    refine WC.region ?_
    refine WL.y (v := vP g (o + i * 2)) 15 (x_idx (i) (o + i * 2) rfl rfl rfl Try.underlying88 sz83 (by omega) (by omega) (by omega)) ?_
    refine WL.y (v := .agg #[vI (lnT t i), vI (agT t i)]) 16 (x_loadS (cs := [vI (lnT t i), vI (agT t i)]) rfl rfl Try.underlying83 rfl sz83 (HP.oldRange hH11 trivial (hrow i (by omega)))) ?_
    refine WL.alloc (c := #[vI 0, vI 0]) (T := 83) hH11 7 rfl (by decide) rfl rfl (fun b7 => vP b7 0) (by kernel_rfl) (fun b7 w16 hw16 => ?_)
    have hH17 : HP Tr w w16 [rowT pv A.length cp3 A, .cel b7 #[vI 0, vI 0] 83] := hw16.2
    have nb7 := hw16.1
    clear hw16
    refine WL.storeS (H2 := [rowT pv A.length cp3 A, .cel b7 #[vI (lnT t i), vI (agT t i)] 83]) 1 hH17 rfl rfl rfl rfl rfl rfl sz83 rfl (Nat.le_of_ble_eq_true rfl) rfl rfl ?_
    intro w18 hH19
    refine WL.nil (WQ.then (hK15 _ _ _ (WC.seq fun K20 hK20 => WC.region ?_)))
    refine WL.z (v := .slice p2 u.length cp2) 18 ?_
    refine WL.y (v := vP b7 0) 19 (x_idxArr (0) (0) rfl rfl rfl Try.underlying83 sz3 (by omega) (by omega) (by omega)) ?_
    refine WL.y (v := vI (lnT t i)) 20 (x_load rfl rfl Try.underlying3 rfl (HP.cell hH19 1 rfl rfl)) ?_
    refine WL.call (f := 83) (args := #[.slice p2 u.length cp2, vI (lnT t i)]) 21 rfl (Nat.le_of_ble_eq_true rfl) rfl rfl (by kernel_rfl) ?_
    refine (find_any _ u _ _ (hU.below (HP.below hH19)) (lnT t i) (by omega)).mono ?_
    rintro e w21 ⟨k, fb, rfl, hk1, hk2, hk3, hfb, hb22⟩
    refine ⟨_, rfl, ?_⟩
    have hH23 : HP Tr w _ [rowT pv A.length cp3 A, .cel b7 #[vI (lnT t i), vI (agT t i)] 83] := HP.call hH19 hb22
    refine WL.z (v := .tuple #[vI (k : Int), .bool fb]) 17 ?_
    refine WL.z (v := vI (k : Int)) 22 ?_
    refine WL.z (v := .bool fb) 23 ?_
    refine WL.z (v := vI (k : Int)) 8 ?_
    refine WL.z (v := .bool fb) 9 ?_
    refine WL.nil (WQ.then (hK20 _ _ _ ?_))
    refine WC.sub (l' := [(0, .slice (some ⟨g, o, none⟩) t.length cp), (1, .slice p2 u.length cp2), (5, .slice pv A.length cp3), (7, vP b7 0), (8, vI (k : Int)), (9, .bool fb), (11, .slice (some ⟨g, o, none⟩) t.length cp), (12, vI (t.length : Int)), (13, vI (i : Int)), (14, .bool true)]) ⟨rfl, rfl, rfl, rfl, rfl, rfl, rfl, rfl, rfl, rfl, trivial⟩ ?_
    refine WC.seq fun K24 hK24 => WC.region ?_
    refine WL.z (v := .bool fb) 24 ?_
    refine WL.nil (WQ.then (hK24 _ _ _ ?_))
    rcases Bool.eq_false_or_eq_true (fb) with c_fb | c_fb
    ·
      rw [c_fb] at hfb
      have hq := of_decide_eq_true hfb.symm
      have hag : ageT u (lnT t i) = some (agT u k) := by rw [← hq.2, age_at hs hq.1]
      obtain ⟨g2, o2, rfl, hrow2⟩ := hU (by omega)
      refine WC.yes (congrArg (fun b => some (Value.bool b)) c_fb) ?_
      obtain ⟨i0, hi0, hz0, hz1, hz2⟩ := infoT
      refine WC.confH (γ := Nat × Option Addr × Nat × Unit) [(24, .bool fb), (0, .slice (some ⟨g, o, none⟩) t.length cp), (1, .slice (some ⟨g2, o2, none⟩) u.length cp2), (5, .slice pv A.length cp3), (7, vP b7 0), (8, vI (k : Int)), (9, .bool fb), (11, .slice (some ⟨g, o, none⟩) t.length cp), (12, vI (t.length : Int)), (13, vI (i : Int)), (14, .bool true)] (fun gy => [.slice pv A.length cp3, vP b7 0, vI (lnT t i), vP b7 1, vI (agT t i), .slice (some ⟨g2, o2, none⟩) u.length cp2, vI (k : Int), vP g2 (o2 + k * 2), vP g2 (o2 + k * 2 + 1), vI (agT u k), vI (max (agT t i) (agT u k)), .agg #[vI (lnT t i), vI (max (agT t i) (agT u k))], vS gy.1 1 1, .slice gy.2.1 ((A ++ [(lnT t i, max (agT t i) (agT u k))]).length) gy.2.2.1, .slice gy.2.1 ((A ++ [(lnT t i, max (agT t i) (agT u k))]).length) gy.2.2.1]) (fun gy D wz => HP Tr w wz ([(bif D 13 then rowT gy.2.1 (A ++ [(lnT t i, max (agT t i) (agT u k))]).length gy.2.2.1 (A ++ [(lnT t i, max (agT t i) (agT u k))]) else rowT pv A.length cp3 A), .cel b7 #[vI (lnT t i), vI (agT t i)] 83] ++ ((bif D 12 then [Ent.cel gy.1 #[vI (lnT t i), vI (max (agT t i) (agT u k))] 83] else []) ++ []))) (0, none, 0, ()) (by kernel_rfl) ⟨rfl, rfl, rfl, rfl, rfl, rfl, rfl, rfl, rfl, rfl, rfl, trivial⟩ (by kernel_rfl) (by kernel_rfl) (by kernel_rfl) (fun _ => rfl) (by kernel_rfl) (HP.drew hH23) ?_ ?_
      · refine AllOk.cons ?o0 (AllOk.cons ?o1 (AllOk.cons ?o2 (AllOk.cons ?o3 (AllOk.cons ?o4 (AllOk.cons ?o5 (AllOk.cons ?o6 (AllOk.cons ?o7 (AllOk.cons ?o8 (AllOk.cons ?o9 (AllOk.cons ?o10 (AllOk.cons ?o11 (AllOk.cons ?o12 (AllOk.cons ?o13 (AllOk.cons ?o14 (AllOk.nil _)))))))))))))))
        case o0 =>
          intro gy D wz hDi hdep hclo hW
          exact .inl ⟨rfl, rfl, .inl ⟨gy, wz, fun _ _ => rfl, by kernel_rfl, hW⟩⟩
        case o1 =>
          intro gy D wz hDi hdep hclo hW
          exact .inl ⟨rfl, rfl, .inl ⟨gy, wz, fun _ _ => rfl, x_idxArr (0) (0) rfl rfl rfl Try.underlying83 sz3 (by omega) (by omega) (by omega), hW⟩⟩
        case o2 =>
          intro gy D wz hDi hdep hclo hW
          exact .inl ⟨rfl, rfl, .inl ⟨gy, wz, fun _ _ => rfl, x_load rfl rfl Try.underlying3 rfl (HP.cell hW 1 rfl rfl), hW⟩⟩
        case o3 =>
          intro gy D wz hDi hdep hclo hW
          exact .inl ⟨rfl, rfl, .inl ⟨gy, wz, fun _ _ => rfl, x_idxArr (1) (1) rfl rfl rfl Try.underlying83 sz3 (by omega) (by omega) (by omega), hW⟩⟩
        case o4 =>
          intro gy D wz hDi hdep hclo hW
          exact .inl ⟨rfl, rfl, .inl ⟨gy, wz, fun _ _ => rfl, x_load rfl rfl Try.underlying3 rfl (HP.cell hW 1 rfl rfl), hW⟩⟩
        case o5 =>
          intro gy D wz hDi hdep hclo hW
          exact .inl ⟨rfl, rfl, .inl ⟨gy, wz, fun _ _ => rfl, by kernel_rfl, hW⟩⟩
        case o6 =>
          intro gy D wz hDi hdep hclo hW
          exact .inl ⟨rfl, rfl, .inl ⟨gy, wz, fun _ _ => rfl, by kernel_rfl, hW⟩⟩
        case o7 =>
          intro gy D wz hDi hdep hclo hW
          exact .inl ⟨rfl, rfl, .inl ⟨gy, wz, fun _ _ => rfl, x_idx (k) (o2 + k * 2) rfl rfl rfl Try.underlying88 sz83 (by omega) (hq.1) (by omega), hW⟩⟩
        case o8 =>
          intro gy D wz hDi hdep hclo hW
          exact .inl ⟨rfl, rfl, .inl ⟨gy, wz, fun _ _ => rfl, x_idxArr (1) (o2 + k * 2 + 1) rfl rfl rfl Try.underlying83 sz3 (by omega) (by omega) (by omega), hW⟩⟩
        case o9 =>
          intro gy D wz hDi hdep hclo hW
          exact .inl ⟨rfl, rfl, .inl ⟨gy, wz, fun _ _ => rfl, x_load rfl rfl Try.underlying3 rfl ((HP.oldRange hW trivial (hrow2 k (by omega))) 1 _ rfl), hW⟩⟩
        case o10 =>
          intro gy D wz hDi hdep hclo hW
          exact .inl ⟨rfl, rfl, .inl ⟨gy, wz, fun _ _ => rfl, x_max (Z := max (agT t i) (agT u k)) (t := 0) rfl rfl rfl (by simp only [Int.max_def]; split <;> split <;> omega), hW⟩⟩
        case o11 =>
          intro gy D wz hDi hdep hclo hW
          exact .inl ⟨rfl, rfl, .inl ⟨gy, wz, fun _ _ => rfl, by kernel_rfl, hW⟩⟩
        case o12 =>
          intro gy D wz hDi hdep hclo hW
          have d13 : D 13 = false := by
            cases h : D 13 with
            | false => rfl
            | true => exact absurd (hclo 13 _ rfl h ⟨12, .data⟩ (by simp) rfl) (by rw [hDi]; exact Bool.false_ne_true)
          have hW2 := hW
          try simp only [d13, hDi, cond_true, cond_false, List.append_nil, List.nil_append, List.cons_append] at hW2
          refine cf_alloc (c := #[vI (lnT t i), vI (max (agT t i) (agT u k))]) (T := 83) hW2 (fun b37 => vS b37 1 1) rfl rfl (by kernel_rfl) ?_
          rintro b37 w3 hA
          refine ⟨⟨b37, gy.2.1, gy.2.2.1, ()⟩, fun j hj => ?_, rfl, ?_⟩
          · match j, hj with
            | 0, hj => rfl
            | 1, hj => rfl
            | 2, hj => rfl
            | 3, hj => rfl
            | 4, hj => rfl
            | 5, hj => rfl
            | 6, hj => rfl
            | 7, hj => rfl
            | 8, hj => rfl
            | 9, hj => rfl
            | 10, hj => rfl
            | 11, hj => rfl
            | 12, hj => rw [hDi] at hj; cases hj
            | 13, hj => rfl
            | 14, hj => rfl
            | j + 15, _ => rfl
          · show HP Tr w w3 ([(bif D 13 then rowT gy.2.1 (A ++ [(lnT t i, max (agT t i) (agT u k))]).length gy.2.2.1 (A ++ [(lnT t i, max (agT t i) (agT u k))]) else rowT pv A.length cp3 A), .cel b7 #[vI (lnT t i), vI (agT t i)] 83] ++ ([Ent.cel b37 #[vI (lnT t i), vI (max (agT t i) (agT u k))] 83] ++ []))
            try simp only [d13, cond_true, cond_false, List.append_nil, List.nil_append, List.cons_append]
            exact hA
        case o13 =>
          intro gy D wz hDi hdep hclo hW
          have d12 : D 12 = true := hdep ⟨12, .data⟩ (by simp) rfl
          have d14 : D 14 = false := by
            cases h : D 14 with
            | false => rfl
            | true => exact absurd (hclo 14 _ rfl h ⟨13, .data⟩ (by simp) rfl) (by rw [hDi]; exact Bool.false_ne_true)
          have hW2 := hW
          try simp only [d12, hDi, cond_true, cond_false, List.append_nil, List.nil_append, List.cons_append] at hW2
          refine cf_append (news := [vI (lnT t i), vI (max (agT t i) (agT u k))]) 0 2 hW2 rfl rfl rfl rfl rfl Try.underlying88 hi0 hz0 hz1 hz2 rfl (by decide) rfl rfl rfl rfl (by simp [Value.oneCell']) (by unfold maxLen; omega) (by omega) ?_
          rintro v7 w3 hA
          obtain ⟨pv7, cp7, rfl⟩ := own_row (HP.get hA 0 rfl)
          have e7 : A.length + 1 = (A ++ [(lnT t i, max (agT t i) (agT u k))]).length := (len1 _ _).symm
          rw [tL_push, e7] at hA
          rw [e7]
          refine ⟨⟨gy.1, pv7, cp7, ()⟩, fun j hj => ?_, rfl, ?_⟩
          · match j, hj with
            | 0, hj => rfl
            | 1, hj => rfl
            | 2, hj => rfl
            | 3, hj => rfl
            | 4, hj => rfl
            | 5, hj => rfl
            | 6, hj => rfl
            | 7, hj => rfl
            | 8, hj => rfl
            | 9, hj => rfl
            | 10, hj => rfl
            | 11, hj => rfl
            | 12, hj => rfl
            | 13, hj => rw [hDi] at hj; cases hj
            | 14, hj => exact absurd hj (by rw [d14]; exact Bool.false_ne_true)
            | j + 15, _ => rfl
          · show HP Tr w w3 ([rowT pv7 (A ++ [(lnT t i, max (agT t i) (agT u k))]).length cp7 (A ++ [(lnT t i, max (agT t i) (agT u k))]), .cel b7 #[vI (lnT t i), vI (agT t i)] 83] ++ ((bif D 12 then [Ent.cel gy.1 #[vI (lnT t i), vI (max (agT t i) (agT u k))] 83] else []) ++ []))
            try simp only [d12, cond_true, cond_false, List.append_nil, List.nil_append, List.cons_append]
            exact hA
        case o14 =>
          intro gy D wz hDi hdep hclo hW
          exact .inl ⟨rfl, rfl, .inl ⟨gy, wz, fun _ _ => rfl, by kernel_rfl, hW⟩⟩
      rintro ⟨b37, pv7, cp7, gu⟩ D w28 hall hH29
      simp only [hall 12 (by kernel_rfl), hall 13 (by kernel_rfl), cond_true, List.append_nil, List.nil_append, List.cons_append] at hH29
      clear hall
      refine WQ.sub (l' := [(0, .slice (some ⟨g, o, none⟩) t.length cp), (1, .slice (some ⟨g2, o2, none⟩) u.length cp2), (5, .slice pv7 ((A ++ [(lnT t i, max (agT t i) (agT u k))]).length) cp7), (7, vP b7 0), (8, vI (k : Int)), (9, .bool fb), (11, .slice (some ⟨g, o, none⟩) t.length cp), (12, vI (t.length : Int)), (13, vI (i : Int)), (14, .bool true), (24, .bool fb)]) ⟨rfl, rfl, rfl, rfl, rfl, rfl, rfl, rfl, rfl, rfl, rfl, trivial⟩ ?_
      refine WQ.inNormal (WQ.then (hK14 _ _ _ (WC.region ?_)))
      refine WL.y (v := vI ((i + 1 : Nat) : Int)) 39 (x_add (Z := ((i + 1 : Nat) : Int)) rfl rfl rfl (by omega) (by omega) (by omega)) ?_
      refine WL.z (v := vI ((i + 1 : Nat) : Int)) 13 ?_
      refine WL.nil ?_
      refine WQ.sub (l' := [(0, .slice (some ⟨g, o, none⟩) t.length cp), (1, .slice (some ⟨g2, o2, none⟩) u.length cp2), (5, .slice pv7 ((A ++ [(lnT t i, max (agT t i) (agT u k))]).length) cp7), (11, .slice (some ⟨g, o, none⟩) t.length cp), (12, vI (t.length : Int)), (13, vI ((i + 1 : Nat) : Int))]) ⟨rfl, rfl, rfl, rfl, rfl, rfl, trivial⟩ ?_
      refine WQ.then (hK9 _ _ _ (by omega) ⟨i + 1, (A ++ [(lnT t i, max (agT t i) (agT u k))]), pv7, cp7, rfl, rfl, by omega, by rw [← hA, jM_drop (t := t) (u := u) (i := i) (by omega), jm_yes hag]; simp, by rw [len1]; omega, (HP.drop (HP.drop hH29 2) 1)⟩)
    ·
      rw [c_fb] at hfb
      have hag := find_none hs hk1 hk2 hk3 (of_decide_eq_false hfb.symm)
      refine WC.no (congrArg (fun b => some (Value.bool b)) c_fb) ?_
      refine WC.skip (WQ.inNormal (WQ.then (hK14 _ _ _ (WC.region ?_))))
      refine WL.y (v := vI ((i + 1 : Nat) : Int)) 39 (x_add (Z := ((i + 1 : Nat) : Int)) rfl rfl rfl (by omega) (by omega) (by omega)) ?_
      refine WL.z (v := vI ((i + 1 : Nat) : Int)) 13 ?_
      refine WL.nil ?_
      refine WQ.sub (l' := [(0, .slice (some ⟨g, o, none⟩) t.length cp), (1, .slice p2 u.length cp2), (5, .slice pv A.length cp3), (11, .slice (some ⟨g, o, none⟩) t.length cp), (12, vI (t.length : Int)), (13, vI ((i + 1 : Nat) : Int))]) ⟨rfl, rfl, rfl, rfl, rfl, rfl, trivial⟩ ?_
      refine WQ.then (hK9 _ _ _ (by omega) ⟨i + 1, A, pv, cp3, rfl, rfl, by omega, by rw [← hA, jM_drop (t := t) (u := u) (i := i) (by omega), jm_no hag]; simp, by omega, (HP.drop hH23 1)⟩)
  ·
    refine WL.y (v := .bool false) 14 (x_lss rfl rfl rfl (dF (h14))) ?_
    refine WL.nil (WQ.then (hK12 _ _ _ (WC.seq fun K30 hK30 => WC.no rfl (WC.exit (WQ.thenExit (WQ.thenExit ?_))))))
    refine WQ.inExit (WQ.then (hK6 _ _ _ (WC.seq fun K31 hK31 => ?_)))
    have hR : jM t u = A := by rw [← hA, List.drop_eq_nil_of_le (by omega)]; simp [jM]
    refine WC.region ?_
    refine WL.z (v := .slice pv A.length cp3) 40 ?_
    refine WL.z (v := .slice pv A.length cp3) 4 ?_
    refine WL.nil (WQ.then (hK31 _ _ _ (WC.ret ?_)))
    refine WQ.ret1 4 rfl rfl ?_
    exact ⟨pv, cp3, by rw [hR], by rw [hR]; exact HP.eq hH11 rfl⟩
end Ca
end Go.Proofs.Ytmjnakhpekbenaa
namespace Go.Proofs.Ytmjnakhpekbenaa
namespace Fl
/-- the tree of a list of instructions -/
inductive Tr where
  | nil : Tr
  | one (i : Nat) (r : Tr) : Tr
  | plain (i E : Nat) (b r : Tr) : Tr
  | alt (i a E : Nat) (b1 b2 r : Tr) : Tr
/-- the code's operations, and its shape: else, end, opener -/
structure Cd where
  c : Nat → Int
  e : Nat → Int
  d : Nat → Int
  o : Nat → Int
def Is (C : Cd) : Tr → Nat → Nat → Prop
  | .nil, k, j => k = j
  | .one i r, k, j => i = k ∧ ¬ (29 ≤ C.c k ∧ C.c k ≤ 35) ∧ Is C r (k + 1) j
  | .plain i E b r, k, j => i = k ∧ (29 ≤ C.c k ∧ C.c k ≤ 32) ∧ C.e k = -1 ∧ C.d k = (E : Int) ∧ C.o E = (k : Int) ∧ C.c E = 35 ∧ Is C b (k + 1) E ∧ Is C r (E + 1) j
  | .alt i a E b1 b2 r, k, j => i = k ∧ (C.c k = 29 ∨ C.c k = 33) ∧ C.e k = (a : Int) ∧ C.d k = (E : Int) ∧ C.o a = (k : Int) ∧ C.o E = (k : Int) ∧ C.c a = 34 ∧ C.c E = 35 ∧ Is C b1 (k + 1) a ∧ Is C b2 (a + 1) E ∧ Is C r (E + 1) j
theorem Is.le {C : Cd} : ∀ {R : Tr} {k j : Nat}, Is C R k j → k ≤ j
  | .nil, k, j, h => by have : k = j := h; omega
  | .one i r, k, j, h => by have := Is.le h.2.2; omega
  | .plain i E b r, k, j, h => by obtain ⟨_, _, _, _, _, _, h1, h2⟩ := h; have := Is.le h1; have := Is.le h2; omega
  | .alt i a E b1 b2 r, k, j, h => by obtain ⟨_, _, _, _, _, _, _, _, h1, h2, h3⟩ := h; have := Is.le h1; have := Is.le h2; have := Is.le h3; omega
/-- what is done with states -/
structure Ops (T : Type) where
  J : T → T → T
  F : Nat → T → T
  mu : T → Nat
/-- states that meet -/
structure Lat (T : Type) extends Ops T where
  ok : T → Prop
  le : T → T → Prop
  okJ : ∀ a b, ok a → ok b → ok (J a b)
  okF : ∀ i a, i < 1000 → ok a → ok (F i a)
  rfl : ∀ a, ok a → le a a
  trans : ∀ a b c, ok a → ok b → ok c → le a b → le b c → le a c
  anti : ∀ a b, ok a → ok b → le a b → le b a → a = b
  left : ∀ a b, ok a → ok b → le a (J a b)
  right : ∀ a b, ok a → ok b → le b (J a b)
  lub : ∀ a b c, ok a → ok b → ok c → le a c → le b c → le (J a b) c
  mono : ∀ i a b, i < 1000 → ok a → ok b → le a b → le (F i a) (F i b)
  lt : ∀ a b, ok a → ok b → le a b → a ≠ b → mu b < mu a
variable {T : Type}
section
variable (O : Ops T) (C : Cd)
abbrev Ah (T : Type) := Nat → T
def up (ah : Ah T) (i : Nat) (t : T) : Ah T := fun j => if j = i then t else ah j
def iter [DecidableEq T] (f : T → Ah T → T × Ah T) : Nat → T → Ah T → T × Ah T
  | 0, t, ah => f t ah
  | k + 1, t, ah => if O.J t (f t ah).1 = t then f t ah else iter f k (O.J t (f t ah).1) (f t ah).2
def last (f : T → Ah T → T × Ah T) (q : Nat) (t : T) (ah : Ah T) : T × Ah T := (O.F q (f t ah).1, up (f t ah).2 q (f t ah).1)
def fold (ah : Ah T) : Nat → Nat → T → T
  | _, 0, x => x
  | i, m + 1, x => fold ah (i + 1) m (O.J x (O.F i (ah i)))
def sol [DecidableEq T] : Tr → T → Ah T → T × Ah T
  | .nil, t, ah => (t, ah)
  | .one i r, t, ah => sol r (O.F i t) (up ah i t)
  | .plain i E b r, t, ah =>
    if C.c i = 29 then
      let x := sol b (O.F i t) (up ah i t)
      sol r (O.F E (O.J (O.F i t) x.1)) (up x.2 E (O.J (O.F i t) x.1))
    else if C.c i = 30 then
      let x := iter O (last O (sol b) E) (O.mu (O.F i t)) (O.F i t) (up ah i t)
      sol r (O.J (O.F i t) x.1) x.2
    else
      let x := last O (sol b) E (O.F i t) (up ah i t)
      sol r x.1 x.2
  | .alt i a E b1 b2 r, t, ah =>
    let x := last O (sol b1) a (O.F i t) (up ah i t)
    let y := last O (sol b2) E (if C.c i = 29 then O.F i t else fold O x.2 (i + 1) (a - (i + 1)) (O.F i t)) x.2
    sol r (O.J x.1 y.1) y.2
end
variable (L : Lat T) (C : Cd)
/-- the state at a place, or behind all -/
def V (x : T × Ah T) (j v : Nat) : T := if v < j then x.2 v else x.1
variable {L} {C}
end Fl
end Go.Proofs.Ytmjnakhpekbenaa
namespace Go.Proofs.Ytmjnakhpekbenaa
namespace Ca
theorem sT_uniq {t : List T2} (h : sT t) {p q : T2} (hp : p ∈ t) (hq : q ∈ t) (e : p.1 = q.1) : p = q := by
  obtain ⟨i, hi, rfl⟩ := List.mem_iff_getElem.1 hp
  obtain ⟨j, hj, rfl⟩ := List.mem_iff_getElem.1 hq
  have h2 := List.pairwise_iff_getElem.1 h
  rcases Nat.lt_trichotomy i j with q1 | q1 | q1
  · have := h2 i j hi hj q1; omega
  · subst q1; rfl
  · have := h2 j i hj hi q1; omega
theorem mem_age {t : List T2} (h : sT t) {z a : Int} : (z, a) ∈ t ↔ ageT t z = some a := by
  unfold ageT
  constructor
  · intro hm
    cases hf : t.find? (fun p => p.1 == z) with
    | none => have := List.find?_eq_none.1 hf _ hm; simp at this
    | some q =>
      have h1 := List.mem_of_find?_eq_some hf
      have h2 := List.find?_some hf
      have h3 : q.1 = z := by simpa using h2
      rw [sT_uniq h h1 hm h3]; rfl
  · intro he
    obtain ⟨q, hq, rfl⟩ := Option.map_eq_some_iff.1 he
    have h1 := List.mem_of_find?_eq_some hq
    have h2 := List.find?_some hq
    have h3 : q.1 = z := by simpa using h2
    subst h3; exact h1
theorem sT_ext : ∀ {t u : List T2}, sT t → sT u → (∀ p, p ∈ t ↔ p ∈ u) → t = u
  | [], [], _, _, _ => rfl
  | [], q :: v, _, _, h => by have := (h q).2 (by simp); cases this
  | p :: r, [], _, _, h => by have := (h p).1 (by simp); cases this
  | p :: r, q :: v, ht, hu, h => by
    have t1 := List.pairwise_cons.1 ht
    have u1 := List.pairwise_cons.1 hu
    have e : p = q := by
      rcases List.mem_cons.1 ((h p).1 (by simp)) with e | hp
      · exact e
      · rcases List.mem_cons.1 ((h q).2 (by simp)) with e | hq
        · exact e.symm
        · have := t1.1 q hq; have := u1.1 p hp; omega
    subst e
    rw [sT_ext t1.2 u1.2 fun x => ⟨fun hx => ?_, fun hx => ?_⟩]
    · rcases List.mem_cons.1 ((h x).1 (List.mem_cons_of_mem _ hx)) with e | hx2
      · have := t1.1 x hx; rw [e] at this; omega
      · exact hx2
    · rcases List.mem_cons.1 ((h x).2 (List.mem_cons_of_mem _ hx)) with e | hx2
      · have := u1.1 x hx; rw [e] at this; omega
      · exact hx2
theorem age_ext {t u : List T2} (ht : sT t) (hu : sT u) (h : ∀ z, ageT t z = ageT u z) : t = u :=
  sT_ext ht hu fun p => by
    obtain ⟨z, a⟩ := p
    rw [mem_age ht, mem_age hu, h]
theorem VT_mk {s y l m : Int} {t : List T2} (hg : vG s y l m = true) (hs : sT t) (hm : ∀ p ∈ t, (0 ≤ p.1 ∧ p.1 ≤ 999) ∧ 0 ≤ p.2 ∧ p.2 ≤ y - 1) : VT s y l m t := by
  obtain ⟨⟨a1, a2⟩, ⟨b1, b2⟩, ⟨c1, c2⟩, d1, d2⟩ := vG_iff.1 hg
  have hln : ∀ i, i < t.length → 0 ≤ lnT t i ∧ lnT t i ≤ 999 := fun i hi => by rw [lnT_get hi]; exact (hm _ (List.getElem_mem hi)).1
  have hge : ∀ i, i < t.length → (i : Int) ≤ lnT t i := by
    intro i
    induction i with
    | zero => intro h0; exact (hln 0 h0).1
    | succ i ih => intro h1; have := ih (by omega); have := sT_lt hs (show i < i + 1 by omega) h1; omega
  refine ⟨a1, a2, b1, b2, c1, c2, d1, d2, fun i hi => by rw [agT_get hi]; exact (hm _ (List.getElem_mem hi)).2, hln, hs, ?_⟩
  by_cases h0 : t.length = 0
  · omega
  · have := hge (t.length - 1) (by omega); have := hln (t.length - 1) (by omega); omega
theorem VT.mem {s y l m : Int} {t : List T2} (h : VT s y l m t) {p : T2} (hp : p ∈ t) : (0 ≤ p.1 ∧ p.1 ≤ 999) ∧ 0 ≤ p.2 ∧ p.2 ≤ y - 1 := by
  obtain ⟨i, hi, rfl⟩ := List.mem_iff_getElem.1 hp
  have h1 := h.ln i hi
  have h2 := h.ag i hi
  rw [lnT_get hi] at h1
  rw [agT_get hi] at h2
  exact ⟨h1, h2⟩
theorem VT.geo {s y l m : Int} {t : List T2} (h : VT s y l m t) : vG s y l m = true := vG_iff.2 ⟨⟨h.s1, h.s2⟩, ⟨h.y1, h.y2⟩, ⟨h.l1, h.l2⟩, h.m1, h.m2⟩
theorem VT.nil {s y l m : Int} (hg : vG s y l m = true) : VT s y l m [] := VT_mk hg List.Pairwise.nil fun p hp => by cases hp
theorem VT.age {s y l m : Int} {t : List T2} (h : VT s y l m t) {z a : Int} (ha : ageT t z = some a) : (0 ≤ z ∧ z ≤ 999) ∧ 0 ≤ a ∧ a ≤ y - 1 := h.mem ((mem_age h.so).2 ha)
/-- what touching says of a line -/
def bmp (d a : Int) : Int := if a < d then a + 1 else a
def agS (s y x d z a : Int) : Option Int := if z.tmod s = x.tmod s then (if bmp d a < y then some (bmp d a) else none) else (if a < y then some a else none)
def agA (s y x d z : Int) (o : Option Int) : Option Int := if z = x then some 0 else o.bind (agS s y x d z)
theorem mem_opt {c : Prop} [Decidable c] {z b u v : Int} : (z, b) ∈ (if c then [(u, v)] else ([] : List T2)) ↔ u = z ∧ (if c then some v else none) = some b := by
  by_cases h : c
  · rw [if_pos h, if_pos h, List.mem_singleton]
    exact ⟨fun e => by cases e; exact ⟨rfl, rfl⟩, fun ⟨e1, e2⟩ => by cases e1; cases e2; rfl⟩
  · rw [if_neg h, if_neg h]
    exact ⟨(fun e => by cases e), (fun e => by cases e.2)⟩
theorem mem_stE {s y x d : Int} {q : T2} {z b : Int} : (z, b) ∈ stE s y x d q ↔ q.1 = z ∧ z ≠ x ∧ agS s y x d z q.2 = some b := by
  by_cases h1 : q.1 = x
  · have e : stE s y x d q = [] := by unfold stE; rw [if_pos h1]
    rw [e]
    constructor
    · intro h; cases h
    · rintro ⟨e, h2, _⟩; exact absurd (e ▸ h1) h2
  · by_cases h2 : q.1.tmod s = x.tmod s
    · have e : stE s y x d q = if bmp d q.2 < y then [(q.1, bmp d q.2)] else [] := by unfold stE; rw [if_neg h1, if_pos h2]; rfl
      rw [e, mem_opt]
      constructor
      · rintro ⟨rfl, h⟩; exact ⟨rfl, h1, by unfold agS; rw [if_pos h2]; exact h⟩
      · rintro ⟨rfl, _, h⟩; exact ⟨rfl, by unfold agS at h; rw [if_pos h2] at h; exact h⟩
    · have e : stE s y x d q = if q.2 < y then [(q.1, q.2)] else [] := by unfold stE; rw [if_neg h1, if_neg h2]
      rw [e, mem_opt]
      constructor
      · rintro ⟨rfl, h⟩; exact ⟨rfl, h1, by unfold agS; rw [if_neg h2]; exact h⟩
      · rintro ⟨rfl, _, h⟩; exact ⟨rfl, by unfold agS at h; rw [if_neg h2] at h; exact h⟩
theorem mem_rL {s y x d : Int} {t : List T2} {z b : Int} : (z, b) ∈ rL s y x d t ↔ (z = x ∧ b = 0) ∨ (z ≠ x ∧ ∃ a, (z, a) ∈ t ∧ agS s y x d z a = some b) := by
  rw [(rL_perm t).mem_iff, List.mem_append, List.mem_flatMap, List.mem_singleton]
  constructor
  · rintro (⟨⟨q1, q2⟩, hq, h⟩ | h)
    · obtain ⟨rfl, h2, h3⟩ := mem_stE.1 h
      exact .inr ⟨h2, q2, hq, h3⟩
    · exact .inl (Prod.mk.inj h)
  · rintro (⟨rfl, rfl⟩ | ⟨h2, a, ha, h3⟩)
    · exact .inr rfl
    · exact .inl ⟨(z, a), ha, mem_stE.2 ⟨rfl, h2, h3⟩⟩
theorem age_rL {s y x d : Int} {t : List T2} (h : sT t) (z : Int) : ageT (rL s y x d t) z = agA s y x d z (ageT t z) := by
  have hs : sT (rL s y x d t) := rL_sorted (s := s) (y := y) (x := x) (d := d) h
  unfold agA
  by_cases e : z = x
  · rw [if_pos e, ← mem_age hs, mem_rL]; exact .inl ⟨e, rfl⟩
  · rw [if_neg e]
    cases ha : ageT t z with
    | none =>
      cases hb : ageT (rL s y x d t) z with
      | none => rfl
      | some b =>
        rcases mem_rL.1 ((mem_age hs).2 hb) with ⟨e2, _⟩ | ⟨_, a, ha2, h3⟩
        · exact absurd e2 e
        · rw [(mem_age h).1 ha2] at ha; cases ha
    | some a =>
      show _ = agS s y x d z a
      cases hz : agS s y x d z a with
      | some b => rw [← mem_age hs, mem_rL]; exact .inr ⟨e, a, (mem_age h).2 ha, hz⟩
      | none =>
        cases hb : ageT (rL s y x d t) z with
        | none => rfl
        | some b =>
          rcases mem_rL.1 ((mem_age hs).2 hb) with ⟨e2, _⟩ | ⟨_, a2, ha2, h3⟩
          · exact absurd e2 e
          · rw [(mem_age h).1 ha2] at ha; cases ha; rw [hz] at h3; cases h3
theorem agS_bd {s y x d z a b : Int} (h : agS s y x d z a = some b) (ha : 0 ≤ a) : a ≤ b ∧ b ≤ a + 1 ∧ b ≤ y - 1 := by
  have hb : a ≤ bmp d a ∧ bmp d a ≤ a + 1 := by unfold bmp; split <;> omega
  unfold agS at h
  generalize bmp d a = e at h hb
  split at h
  · split at h
    · cases h; omega
    · cases h
  · split at h
    · cases h; omega
    · cases h
theorem agA_bd {s y x d z : Int} {o : Option Int} {b : Int} (hy : 1 ≤ y) (h : agA s y x d z o = some b) (ho : ∀ a, o = some a → 0 ≤ a) : 0 ≤ b ∧ b ≤ y - 1 ∧ (z = x ∨ ∃ a, o = some a) := by
  unfold agA at h
  split at h
  · next e => cases h; exact ⟨by omega, by omega, .inl e⟩
  · cases o with
    | none => cases h
    | some a =>
      have h0 := ho a rfl
      have := agS_bd (show agS s y x d z a = some b from h) h0
      exact ⟨by omega, by omega, .inr ⟨a, rfl⟩⟩
theorem VT_tc {s y l m x k : Int} {t : List T2} (h : VT s y l m t) (hx : 0 ≤ x ∧ x ≤ 999) : VT s y l m (tcH s y x k t) := by
  have hs : sT (tcH s y x k t) := rL_sorted h.so
  refine VT_mk h.geo hs fun p hp => ?_
  obtain ⟨z, b⟩ := p
  have ha := (mem_age hs).1 hp
  unfold tcH at ha
  rw [age_rL h.so] at ha
  obtain ⟨q1, q2, q3⟩ := agA_bd h.y1 ha fun a e => (h.age e).2.1
  refine ⟨?_, q1, q2⟩
  rcases q3 with e | ⟨a, e⟩
  · show 0 ≤ z ∧ z ≤ 999; omega
  · exact (h.age e).1
/-! Joins. -/
theorem mem_jM {t u : List T2} {z b : Int} : (z, b) ∈ jM t u ↔ ∃ a c, (z, a) ∈ t ∧ ageT u z = some c ∧ b = max a c := by
  unfold jM
  rw [List.mem_flatMap]
  constructor
  · rintro ⟨⟨q1, q2⟩, hq, h⟩
    unfold jm1 at h
    cases hc : ageT u q1 with
    | none => simp only [hc] at h; cases h
    | some c =>
      simp only [hc] at h
      obtain ⟨rfl, rfl⟩ := Prod.mk.inj (List.mem_singleton.1 h)
      exact ⟨q2, c, hq, hc, rfl⟩
  · rintro ⟨a, c, ha, hc, rfl⟩
    exact ⟨(z, a), ha, by unfold jm1; simp [hc]⟩
theorem jM_sorted {t u : List T2} (h : sT t) : sT (jM t u) := by
  induction t with
  | nil => exact List.Pairwise.nil
  | cons p r ih =>
    obtain ⟨h1, h2⟩ := List.pairwise_cons.1 h
    have e : jM (p :: r) u = jm1 u p ++ jM r u := rfl
    have hx : ∀ a ∈ jm1 u p, a.1 = p.1 := fun a ha => by
      unfold jm1 at ha
      split at ha
      · rw [List.mem_singleton.1 ha]
      · cases ha
    rw [e]
    refine List.pairwise_append.2 ⟨?_, ih h2, fun a ha b hb => ?_⟩
    · unfold jm1; split
      · exact List.pairwise_singleton _ _
      · exact List.Pairwise.nil
    · obtain ⟨z, c⟩ := b
      obtain ⟨a', c', ha', _, _⟩ := mem_jM.1 hb
      have := h1 _ ha'
      rw [hx a ha]; exact this
theorem age_jM {t u : List T2} (ht : sT t) (z : Int) : ageT (jM t u) z = match ageT t z, ageT u z with | some a, some c => some (max a c) | _, _ => none := by
  have hs := jM_sorted (u := u) ht
  cases ha : ageT t z with
  | none =>
    cases hb : ageT (jM t u) z with
    | none => rfl
    | some b =>
      obtain ⟨a, c, h1, _, _⟩ := mem_jM.1 ((mem_age hs).2 hb)
      rw [(mem_age ht).1 h1] at ha; cases ha
  | some a =>
    cases hc : ageT u z with
    | none =>
      cases hb : ageT (jM t u) z with
      | none => rfl
      | some b =>
        obtain ⟨a, c, h1, h2, _⟩ := mem_jM.1 ((mem_age hs).2 hb)
        rw [hc] at h2; cases h2
    | some c => exact (mem_age hs).1 (mem_jM.2 ⟨a, c, (mem_age ht).2 ha, hc, rfl⟩)
theorem VT_jM {s y l m : Int} {t u : List T2} (ht : VT s y l m t) (hu : VT s y l m u) : VT s y l m (jM t u) := by
  refine VT_mk ht.geo (jM_sorted ht.so) fun p hp => ?_
  obtain ⟨z, b⟩ := p
  obtain ⟨a, c, h1, h2, rfl⟩ := mem_jM.1 hp
  have q1 := ht.mem h1
  have q2 := hu.age h2
  simp only [] at q1
  refine ⟨q1.1, ?_, ?_⟩
  · show 0 ≤ max a c; omega
  · show max a c ≤ y - 1; omega
theorem mem_rJ (may : Bool) : ∀ (t u : List T2), sT t → sT u → (∀ z b, (z, b) ∈ rJ may t u ↔ ((∃ a c, (z, a) ∈ t ∧ (z, c) ∈ u ∧ b = bif may then min a c else max a c) ∨ (may = true ∧ (z, b) ∈ t ∧ ∀ c, (z, c) ∉ u) ∨ (may = true ∧ (z, b) ∈ u ∧ ∀ a, (z, a) ∉ t))) ∧ sT (rJ may t u) ∧ (∀ p ∈ rJ may t u, (∃ a, (p.1, a) ∈ t) ∨ ∃ c, (p.1, c) ∈ u)
  | [], [], _, _ => by
    rw [rJ]
    exact ⟨fun z b => by simp, List.Pairwise.nil, fun p hp => by cases hp⟩
  | p :: r, [], ht, hu => by
    obtain ⟨h1, h2⟩ := List.pairwise_cons.1 ht
    obtain ⟨i1, i2, i3⟩ := mem_rJ may r [] h2 hu
    rw [rJ]
    cases may with
    | false =>
      simp only [cond_false, List.nil_append] at i1 i2 i3 ⊢
      refine ⟨fun z b => by rw [i1]; simp, i2, fun q hq => ?_⟩
      rcases i3 q hq with ⟨a, ha⟩ | ⟨c, hc⟩
      · exact .inl ⟨a, List.mem_cons_of_mem _ ha⟩
      · cases hc
    | true =>
      simp only [cond_true] at i1 i2 i3 ⊢
      refine ⟨fun z b => by rw [List.mem_append, i1]; simp, List.pairwise_append.2 ⟨List.pairwise_singleton _ _, i2, fun a ha b hb => ?_⟩, fun q hq => ?_⟩
      · obtain rfl := List.mem_singleton.1 ha
        rcases i3 b hb with ⟨a', ha'⟩ | ⟨c, hc⟩
        · exact h1 (b.1, a') ha'
        · cases hc
      · rcases List.mem_append.1 hq with hq | hq
        · obtain rfl := List.mem_singleton.1 hq
          exact .inl ⟨q.2, by simp⟩
        · rcases i3 q hq with ⟨a, ha⟩ | ⟨c, hc⟩
          · exact .inl ⟨a, List.mem_cons_of_mem _ ha⟩
          · cases hc
  | [], q :: v, ht, hu => by
    obtain ⟨h1, h2⟩ := List.pairwise_cons.1 hu
    obtain ⟨i1, i2, i3⟩ := mem_rJ may [] v ht h2
    rw [rJ]
    cases may with
    | false =>
      simp only [cond_false, List.nil_append] at i1 i2 i3 ⊢
      refine ⟨fun z b => by rw [i1]; simp, i2, fun x hx => ?_⟩
      rcases i3 x hx with ⟨a, ha⟩ | ⟨c, hc⟩
      · cases ha
      · exact .inr ⟨c, List.mem_cons_of_mem _ hc⟩
    | true =>
      simp only [cond_true] at i1 i2 i3 ⊢
      refine ⟨fun z b => by rw [List.mem_append, i1]; simp, List.pairwise_append.2 ⟨List.pairwise_singleton _ _, i2, fun a ha b hb => ?_⟩, fun x hx => ?_⟩
      · obtain rfl := List.mem_singleton.1 ha
        rcases i3 b hb with ⟨a', ha'⟩ | ⟨c, hc⟩
        · cases ha'
        · exact h1 (b.1, c) hc
      · rcases List.mem_append.1 hx with hx | hx
        · obtain rfl := List.mem_singleton.1 hx
          exact .inr ⟨x.2, by simp⟩
        · rcases i3 x hx with ⟨a, ha⟩ | ⟨c, hc⟩
          · cases ha
          · exact .inr ⟨c, List.mem_cons_of_mem _ hc⟩
  | p :: r, q :: v, ht, hu => by
    obtain ⟨h1, h2⟩ := List.pairwise_cons.1 ht
    obtain ⟨g1, g2⟩ := List.pairwise_cons.1 hu
    rw [rJ]
    by_cases e1 : p.1 < q.1
    · rw [if_pos e1]
      obtain ⟨i1, i2, i3⟩ := mem_rJ may r (q :: v) h2 hu
      have np : ∀ c, (p.1, c) ∉ q :: v := fun c hc => by
        rcases List.mem_cons.1 hc with e | hc
        · rw [← e] at e1; exact absurd e1 (Int.lt_irrefl _)
        · have := g1 _ hc; simp only [] at this; omega
      have nr : ∀ a, (p.1, a) ∉ r := fun a ha => by have := h1 _ ha; simp only [] at this; omega
      have i4 : ∀ x ∈ rJ may r (q :: v), p.1 < x.1 := fun x hx => by
        rcases i3 x hx with ⟨a, ha⟩ | ⟨c, hc⟩
        · exact h1 (x.1, a) ha
        · rcases List.mem_cons.1 hc with e | hc
          · rw [← e] at e1; exact e1
          · have := g1 _ hc; simp only [] at this; omega
      refine ⟨fun z b => ?_, ?_, fun x hx => ?_⟩
      · rw [List.mem_append, i1]
        constructor
        · rintro (h | ⟨a, c, ha, hc, hb⟩ | ⟨hm, hb, hc⟩ | ⟨hm, hb, ha⟩)
          · cases may with
            | false => cases h
            | true =>
              have e := List.mem_singleton.1 h
              have e' : z = p.1 := by rw [← e]
              refine .inr (.inl ⟨rfl, by rw [e]; simp, fun c hc => np c (e' ▸ hc)⟩)
          · exact .inl ⟨a, c, List.mem_cons_of_mem _ ha, hc, hb⟩
          · exact .inr (.inl ⟨hm, List.mem_cons_of_mem _ hb, hc⟩)
          · refine .inr (.inr ⟨hm, hb, fun a ha' => ?_⟩)
            rcases List.mem_cons.1 ha' with e | ha'
            · have e' : z = p.1 := by rw [← e]
              exact np b (e' ▸ hb)
            · exact ha a ha'
        · rintro (⟨a, c, ha, hc, hb⟩ | ⟨hm, hb, hc⟩ | ⟨hm, hb, ha⟩)
          · rcases List.mem_cons.1 ha with e | ha
            · have e' : z = p.1 := by rw [← e]
              exact absurd (e' ▸ hc) (np c)
            · exact .inr (.inl ⟨a, c, ha, hc, hb⟩)
          · rcases List.mem_cons.1 hb with e | hb
            · refine .inl ?_
              rw [hm, e]; simp
            · exact .inr (.inr (.inl ⟨hm, hb, hc⟩))
          · exact .inr (.inr (.inr ⟨hm, hb, fun a ha' => ha a (List.mem_cons_of_mem _ ha')⟩))
      · refine List.pairwise_append.2 ⟨?_, i2, fun a ha b hb => ?_⟩
        · cases may
          · exact List.Pairwise.nil
          · exact List.pairwise_singleton _ _
        · cases may with
          | false => cases ha
          | true => rw [List.mem_singleton.1 ha]; exact i4 b hb
      · rcases List.mem_append.1 hx with h | h
        · cases may with
          | false => cases h
          | true => rw [List.mem_singleton.1 h]; exact .inl ⟨p.2, by simp⟩
        · rcases i3 x h with ⟨a, ha⟩ | hc
          · exact .inl ⟨a, List.mem_cons_of_mem _ ha⟩
          · exact .inr hc
    · rw [if_neg e1]
      by_cases e2 : q.1 < p.1
      · rw [if_pos e2]
        obtain ⟨i1, i2, i3⟩ := mem_rJ may (p :: r) v ht g2
        have nq : ∀ a, (q.1, a) ∉ p :: r := fun a ha => by
          rcases List.mem_cons.1 ha with e | ha
          · rw [← e] at e2; exact absurd e2 (Int.lt_irrefl _)
          · have := h1 _ ha; simp only [] at this; omega
        have i4 : ∀ x ∈ rJ may (p :: r) v, q.1 < x.1 := fun x hx => by
          rcases i3 x hx with ⟨a, ha⟩ | ⟨c, hc⟩
          · rcases List.mem_cons.1 ha with e | ha
            · rw [← e] at e2; exact e2
            · have := h1 _ ha; simp only [] at this; omega
          · exact g1 (x.1, c) hc
        refine ⟨fun z b => ?_, ?_, fun x hx => ?_⟩
        · rw [List.mem_append, i1]
          constructor
          · rintro (h | ⟨a, c, ha, hc, hb⟩ | ⟨hm, hb, hc⟩ | ⟨hm, hb, ha⟩)
            · cases may with
              | false => cases h
              | true =>
                have e := List.mem_singleton.1 h
                have e' : z = q.1 := by rw [← e]
                refine .inr (.inr ⟨rfl, by rw [e]; simp, fun a ha => nq a (e' ▸ ha)⟩)
            · exact .inl ⟨a, c, ha, List.mem_cons_of_mem _ hc, hb⟩
            · refine .inr (.inl ⟨hm, hb, fun c hc' => ?_⟩)
              rcases List.mem_cons.1 hc' with e | hc'
              · have e' : z = q.1 := by rw [← e]
                exact nq b (e' ▸ hb)
              · exact hc c hc'
            · exact .inr (.inr ⟨hm, List.mem_cons_of_mem _ hb, ha⟩)
          · rintro (⟨a, c, ha, hc, hb⟩ | ⟨hm, hb, hc⟩ | ⟨hm, hb, ha⟩)
            · rcases List.mem_cons.1 hc with e | hc
              · have e' : z = q.1 := by rw [← e]
                exact absurd (e' ▸ ha) (nq a)
              · exact .inr (.inl ⟨a, c, ha, hc, hb⟩)
            · exact .inr (.inr (.inl ⟨hm, hb, fun c hc' => hc c (List.mem_cons_of_mem _ hc')⟩))
            · rcases List.mem_cons.1 hb with e | hb
              · refine .inl ?_
                rw [hm, e]; simp
              · exact .inr (.inr (.inr ⟨hm, hb, ha⟩))
        · refine List.pairwise_append.2 ⟨?_, i2, fun a ha b hb => ?_⟩
          · cases may
            · exact List.Pairwise.nil
            · exact List.pairwise_singleton _ _
          · cases may with
            | false => cases ha
            | true => rw [List.mem_singleton.1 ha]; exact i4 b hb
        · rcases List.mem_append.1 hx with h | h
          · cases may with
            | false => cases h
            | true => rw [List.mem_singleton.1 h]; exact .inr ⟨q.2, by simp⟩
          · rcases i3 x h with ha | ⟨c, hc⟩
            · exact .inl ha
            · exact .inr ⟨c, List.mem_cons_of_mem _ hc⟩
      · rw [if_neg e2]
        have e : p.1 = q.1 := by omega
        obtain ⟨i1, i2, i3⟩ := mem_rJ may r v h2 g2
        have nr : ∀ a, (p.1, a) ∉ r := fun a ha => by have := h1 _ ha; simp only [] at this; omega
        have nv : ∀ c, (p.1, c) ∉ v := fun c hc => by have := g1 _ hc; simp only [] at this; omega
        have i4 : ∀ x ∈ rJ may r v, p.1 < x.1 := fun x hx => by
          rcases i3 x hx with ⟨a, ha⟩ | ⟨c, hc⟩
          · exact h1 (x.1, a) ha
          · have := g1 _ hc; simp only [] at this; omega
        refine ⟨fun z b => ?_, List.pairwise_cons.2 ⟨i4, i2⟩, fun x hx => ?_⟩
        · rw [List.mem_cons, i1]
          constructor
          · rintro (h | ⟨a, c, ha, hc, hb⟩ | ⟨hm, hb, hc⟩ | ⟨hm, hb, ha⟩)
            · obtain ⟨rfl, rfl⟩ := Prod.mk.inj h
              exact .inl ⟨p.2, q.2, by simp, by rw [e]; simp, rfl⟩
            · exact .inl ⟨a, c, List.mem_cons_of_mem _ ha, List.mem_cons_of_mem _ hc, hb⟩
            · refine .inr (.inl ⟨hm, List.mem_cons_of_mem _ hb, fun c hc' => ?_⟩)
              rcases List.mem_cons.1 hc' with e' | hc'
              · have e3 : z = p.1 := by rw [e, ← e']
                exact nr b (e3 ▸ hb)
              · exact hc c hc'
            · refine .inr (.inr ⟨hm, List.mem_cons_of_mem _ hb, fun a ha' => ?_⟩)
              rcases List.mem_cons.1 ha' with e' | ha'
              · have e3 : z = p.1 := by rw [← e']
                exact nv b (e3 ▸ hb)
              · exact ha a ha'
          · rintro (⟨a, c, ha, hc, hb⟩ | ⟨hm, hb, hc⟩ | ⟨hm, hb, ha⟩)
            · rcases List.mem_cons.1 ha with e' | ha
              · have e3 : z = p.1 := by rw [← e']
                subst e3
                rcases List.mem_cons.1 hc with e4 | hc
                · left
                  rw [hb, ← e', ← e4]
                · exact absurd hc (nv c)
              · rcases List.mem_cons.1 hc with e4 | hc
                · have e3 : z = p.1 := by rw [e, ← e4]
                  exact absurd (e3 ▸ ha) (nr a)
                · exact .inr (.inl ⟨a, c, ha, hc, hb⟩)
            · rcases List.mem_cons.1 hb with e' | hb
              · have e3 : z = q.1 := by rw [← e, ← e']
                exact absurd (by rw [e3]; simp) (hc q.2)
              · exact .inr (.inr (.inl ⟨hm, hb, fun c hc' => hc c (List.mem_cons_of_mem _ hc')⟩))
            · rcases List.mem_cons.1 hb with e' | hb
              · have e3 : z = p.1 := by rw [e, ← e']
                exact absurd (by rw [e3]; simp) (ha p.2)
              · exact .inr (.inr (.inr ⟨hm, hb, fun a ha' => ha a (List.mem_cons_of_mem _ ha')⟩))
        · rcases List.mem_cons.1 hx with rfl | hx
          · exact .inl ⟨p.2, by simp⟩
          · rcases i3 x hx with ⟨a, ha⟩ | ⟨c, hc⟩
            · exact .inl ⟨a, List.mem_cons_of_mem _ ha⟩
            · exact .inr ⟨c, List.mem_cons_of_mem _ hc⟩
termination_by t u => t.length + u.length
theorem jM_eq {t u : List T2} (ht : sT t) (hu : sT u) : jM t u = rJ false t u := by
  obtain ⟨h1, h2, h3⟩ := mem_rJ false t u ht hu
  refine sT_ext (jM_sorted ht) h2 fun p => ?_
  obtain ⟨z, b⟩ := p
  rw [mem_jM, h1]
  constructor
  · rintro ⟨a, c, ha, hc, hb⟩
    exact .inl ⟨a, c, ha, (mem_age hu).2 hc, hb⟩
  · rintro (⟨a, c, ha, hc, hb⟩ | ⟨h, _⟩ | ⟨h, _⟩)
    · exact ⟨a, c, ha, (mem_age hu).1 hc, hb⟩
    · cases h
    · cases h
end Ca
end Go.Proofs.Ytmjnakhpekbenaa
namespace Go.Proofs.Ytmjnakhpekbenaa
open Fw
namespace Ca
def mO : Option Int → Option Int → Option Int
  | some a, some c => some (min a c)
  | some a, none => some a
  | none, o => o
theorem mO_assoc (a b c : Option Int) : mO (mO a b) c = mO a (mO b c) := by
  cases a <;> cases b <;> cases c <;> simp [mO, Int.min_assoc]
theorem age_rJ {t u : List T2} (ht : sT t) (hu : sT u) (z : Int) : ageT (rJ true t u) z = mO (ageT t z) (ageT u z) := by
  obtain ⟨h1, h2, _⟩ := mem_rJ true t u ht hu
  have k1 : ∀ a, (z, a) ∈ t ↔ ageT t z = some a := fun a => mem_age ht
  have k2 : ∀ a, (z, a) ∈ u ↔ ageT u z = some a := fun a => mem_age hu
  have hx : ∀ b, ageT (rJ true t u) z = some b ↔ mO (ageT t z) (ageT u z) = some b := fun b => by
    rw [← mem_age h2, h1]
    simp only [k1, k2]
    cases e1 : ageT t z <;> cases e2 : ageT u z <;> simp [mO, eq_comm]
  cases e : mO (ageT t z) (ageT u z) with
  | none =>
    cases e2 : ageT (rJ true t u) z with
    | none => rfl
    | some b => rw [(hx b).1 e2] at e; cases e
  | some b => exact (hx b).2 e
theorem sT_rJ {t u : List T2} (ht : sT t) (hu : sT u) : sT (rJ true t u) := (mem_rJ true t u ht hu).2.1
theorem VT_rJ {s y l m : Int} {t u : List T2} (ht : VT s y l m t) (hu : VT s y l m u) : VT s y l m (rJ true t u) :=
  VT_mk ht.geo (sT_rJ ht.so hu.so) fun p hp => by
    obtain ⟨z, b⟩ := p
    have h := (mem_age (sT_rJ ht.so hu.so)).1 hp
    rw [age_rJ ht.so hu.so] at h
    cases e1 : ageT t z with
    | none =>
      rw [e1] at h
      exact hu.age (show ageT u z = some b from h)
    | some a =>
      cases e2 : ageT u z with
      | none => rw [e1, e2] at h; cases h; exact ht.age e1
      | some c =>
        rw [e1, e2] at h; cases h
        obtain ⟨h1, h2, h3⟩ := ht.age e1
        obtain ⟨h4, h5, h6⟩ := hu.age e2
        exact ⟨h1, by show 0 ≤ min a c; omega, by show min a c ≤ _; omega⟩
theorem sT_one (x : T2) : sT [x] := List.pairwise_singleton _ _
theorem age_one (x : T2) (z : Int) : ageT [x] z = if z = x.1 then some x.2 else none := by
  unfold ageT
  by_cases h : z = x.1
  · subst h; simp
  · have h2 : ¬ x.1 = z := fun e => h e.symm
    simp [h, h2]
theorem age_snoc {u : List T2} {x : T2} (h : sT (u ++ [x])) (z : Int) : ageT (u ++ [x]) z = mO (ageT u z) (ageT [x] z) := by
  obtain ⟨h1, h2, h3⟩ := List.pairwise_append.1 h
  rw [age_one]
  unfold ageT
  rw [List.find?_append]
  by_cases e : z = x.1
  · subst e
    have hn : u.find? (fun p => p.1 == x.1) = none := List.find?_eq_none.2 fun p hp => by
      have := h3 p hp x (by simp)
      simp; omega
    rw [hn]; simp [mO]
  · have h2' : ¬ x.1 = z := fun e' => e e'.symm
    cases u.find? (fun p => p.1 == z) <;> simp [e, h2', mO]
theorem rJ_snoc {t u : List T2} {x : T2} (ht : sT t) (h : sT (u ++ [x])) : rJ true t (u ++ [x]) = rJ true (rJ true t u) [x] := by
  have hu : sT u := (List.pairwise_append.1 h).1
  refine age_ext (sT_rJ ht h) (sT_rJ (sT_rJ ht hu) (sT_one x)) fun z => ?_
  rw [age_rJ ht h, age_snoc h, age_rJ (sT_rJ ht hu) (sT_one x), age_rJ ht hu, mO_assoc]
def insT (A : List T2) (k : Nat) (x : T2) : List T2 := A.take k ++ x :: A.drop k
theorem insT_len {A : List T2} {k : Nat} {x : T2} (h : k ≤ A.length) : (insT A k x).length = A.length + 1 := by unfold insT; simp; omega
theorem set_rJ {A : List T2} {k : Nat} {x : T2} (hA : sT A) (hk : k < A.length) (he : lnT A k = x.1) : A.set k (x.1, min (agT A k) x.2) = rJ true A [x] := by
  have e0 : A[k].1 = x.1 := by rw [← lnT_get hk]; exact he
  have hs : sT (A.set k (x.1, min (agT A k) x.2)) := by
    refine List.pairwise_iff_getElem.2 fun i j hi hj hij => ?_
    have hi' : i < A.length := by simpa using hi
    have hj' : j < A.length := by simpa using hj
    have h1 := List.pairwise_iff_getElem.1 hA i j hi' hj' hij
    rw [List.getElem_set, List.getElem_set]
    split <;> split
    · omega
    · rename_i q _; subst q; show x.1 < _; omega
    · rename_i _ q; subst q; show _ < x.1; omega
    · exact h1
  refine sT_ext hs (sT_rJ hA (sT_one x)) fun p => ?_
  obtain ⟨z, b⟩ := p
  rw [(mem_rJ true A [x] hA (sT_one x)).1]
  have ha : (x.1, agT A k) ∈ A := by rw [← he, lnT_get hk, agT_get hk]; exact List.getElem_mem hk
  constructor
  · intro h
    obtain ⟨i, hi, e⟩ := List.mem_iff_getElem.1 h
    have hi' : i < A.length := by simpa using hi
    rw [List.getElem_set] at e
    split at e
    · cases e
      exact .inl ⟨agT A k, x.2, ha, by simp, rfl⟩
    · rename_i q
      have hz : (z, b) ∈ A := by rw [← e]; exact List.getElem_mem hi'
      refine .inr (.inl ⟨rfl, hz, fun c hc => ?_⟩)
      have hc' : z = x.1 := by have := List.mem_singleton.1 hc; rw [← this]
      have h2 := List.pairwise_iff_getElem.1 hA
      have e1 : A[i].1 = A[k].1 := by rw [e, e0]; exact hc'
      rcases Nat.lt_trichotomy i k with q1 | q1 | q1
      · have := h2 i k hi' hk q1; omega
      · exact q q1.symm
      · have := h2 k i hk hi' q1; omega
  · rintro (⟨a, c, ha2, hc, hb⟩ | ⟨-, hb, hc⟩ | ⟨-, hb, hn⟩)
    · have hc' := List.mem_singleton.1 hc
      have hz : z = x.1 := by rw [← hc']
      subst hz
      have hca : c = x.2 := by rw [← hc']
      have hag := (mem_age hA).1 ha
      have hag2 := (mem_age hA).1 ha2
      rw [hag] at hag2
      cases hag2
      rw [hb, hca]
      exact List.mem_iff_getElem.2 ⟨k, by simpa using hk, by simp⟩
    · obtain ⟨i, hi, e⟩ := List.mem_iff_getElem.1 hb
      have hik : k ≠ i := fun q => hc x.2 (by subst q; rw [e] at e0; rw [show z = x.1 from e0]; simp)
      exact List.mem_iff_getElem.2 ⟨i, by simpa using hi, by rw [List.getElem_set_ne hik]; exact e⟩
    · have hz : z = x.1 := by have := List.mem_singleton.1 hb; rw [← this]
      exact absurd (hz ▸ ha) (hn _)
theorem ins_rJ {A : List T2} {k : Nat} {x : T2} (hA : sT A) (hk : k ≤ A.length) (h1 : 0 < k → lnT A (k - 1) < x.1) (h2 : k < A.length → x.1 < lnT A k) : insT A k x = rJ true A [x] := by
  have hlt : ∀ p ∈ A.take k, p.1 < x.1 := fun p hp => by
    obtain ⟨i, hi, rfl⟩ := List.mem_iff_getElem.1 hp
    have hi' : i < k ∧ i < A.length := by simp at hi; omega
    rw [List.getElem_take, ← lnT_get hi'.2]
    by_cases e : i = k - 1
    · rw [e]; exact h1 (by omega)
    · have := sT_lt hA (show i < k - 1 by omega) (by omega); have := h1 (by omega); omega
  have hgt : ∀ p ∈ A.drop k, x.1 < p.1 := fun p hp => by
    obtain ⟨i, hi, rfl⟩ := List.mem_iff_getElem.1 hp
    have hi' : k + i < A.length := by simp at hi; omega
    rw [List.getElem_drop, ← lnT_get hi']
    by_cases e : i = 0
    · subst e; exact h2 (by omega)
    · have := sT_lt hA (show k < k + i by omega) hi'; have := h2 (by omega); omega
  have hs : sT (insT A k x) := by
    refine List.pairwise_append.2 ⟨List.Pairwise.sublist (List.take_sublist k A) hA, List.pairwise_cons.2 ⟨hgt, List.Pairwise.sublist (List.drop_sublist k A) hA⟩, fun a ha c hc => ?_⟩
    rcases List.mem_cons.1 hc with rfl | hc
    · exact hlt a ha
    · have := hlt a ha; have := hgt c hc; omega
  have hno : ∀ a, (x.1, a) ∉ A := fun a ha => by
    rw [← List.take_append_drop k A] at ha
    rcases List.mem_append.1 ha with h | h
    · have := hlt _ h; simp only [] at this; omega
    · have := hgt _ h; simp only [] at this; omega
  refine sT_ext hs (sT_rJ hA (sT_one x)) fun p => ?_
  obtain ⟨z, b⟩ := p
  rw [(mem_rJ true A [x] hA (sT_one x)).1]
  have hm : ∀ p, p ∈ insT A k x ↔ p ∈ A ∨ p = x := fun p => by
    unfold insT
    rw [List.mem_append, List.mem_cons]
    constructor
    · rintro (h | h | h)
      · exact .inl (List.mem_of_mem_take h)
      · exact .inr h
      · exact .inl (List.mem_of_mem_drop h)
    · rintro (h | h)
      · rw [← List.take_append_drop k A] at h
        rcases List.mem_append.1 h with h | h
        · exact .inl h
        · exact .inr (.inr h)
      · exact .inr (.inl h)
  rw [hm]
  constructor
  · rintro (h | h)
    · refine .inr (.inl ⟨rfl, h, fun c hc => ?_⟩)
      have hz : z = x.1 := by have := List.mem_singleton.1 hc; rw [← this]
      exact hno b (hz ▸ h)
    · exact .inr (.inr ⟨rfl, by rw [h]; simp, fun a ha => hno a (by rw [← h]; exact ha)⟩)
  · rintro (⟨a, c, ha, hc, hb⟩ | ⟨-, hb, hc⟩ | ⟨-, hb, hn⟩)
    · have hz : z = x.1 := by have := List.mem_singleton.1 hc; rw [← this]
      exact absurd (hz ▸ ha) (hno a)
    · exact .inl hb
    · exact .inr (List.mem_singleton.1 hb)
/-- must tables: the second says less -/
def leM (a b : List T2) : Prop := ∀ z c, ageT b z = some c → ∃ a', ageT a z = some a' ∧ a' ≤ c
/-- may tables: the second lets more -/
def leN (a b : List T2) : Prop := ∀ z c, ageT a z = some c → ∃ c', ageT b z = some c' ∧ c' ≤ c
section
variable {s y l m : Int}
theorem age_tc {t : List T2} (h : VT s y l m t) (x k z : Int) : ageT (tcH s y x k t) z = agA s y x ((ageT t x).getD y + k) z (ageT t z) := age_rL h.so z
theorem jM_left {a b : List T2} (ha : sT a) : leM a (jM a b) := fun z c h => by
  rw [age_jM ha] at h
  cases e1 : ageT a z with
  | none => rw [e1] at h; cases h
  | some x =>
    cases e2 : ageT b z with
    | none => rw [e1, e2] at h; cases h
    | some x2 => rw [e1, e2] at h; cases h; exact ⟨x, rfl, by omega⟩
theorem rJ_right {a b : List T2} (ha : sT a) (hb : sT b) : leN b (rJ true a b) := fun z c h => by
  rw [age_rJ ha hb, h]
  cases e2 : ageT a z with
  | none => exact ⟨c, rfl, Int.le_refl _⟩
  | some x => exact ⟨min x c, rfl, by omega⟩
theorem getD_M {a b : List T2} (ha : VT s y l m a) (h : leM a b) (x : Int) : (ageT a x).getD y ≤ (ageT b x).getD y := by
  cases e : ageT b x with
  | none =>
    cases e2 : ageT a x with
    | none => exact Int.le_refl _
    | some c => have := (ha.age e2).2; simp; omega
  | some c => obtain ⟨c', g1, g2⟩ := h x c e; rw [g1]; exact g2
theorem getD_N {a b : List T2} (hb : VT s y l m b) (h : leN a b) (x : Int) : (ageT b x).getD y ≤ (ageT a x).getD y := by
  cases e : ageT a x with
  | none =>
    cases e2 : ageT b x with
    | none => exact Int.le_refl _
    | some c => have := (hb.age e2).2; simp; omega
  | some c => obtain ⟨c', g1, g2⟩ := h x c e; rw [g1]; exact g2
end
end Ca
end Go.Proofs.Ytmjnakhpekbenaa
namespace Go.Proofs.Ytmjnakhpekbenaa
open Go.RowKit
namespace Fw
section
variable {P : Program} {ops : Array Oper} {Q : Exit → Act → World → Prop} {rest : List Oper} {n : Nat} {l : List (Nat × Value)} {w w0 : World} {S : Nat → Prop} {H H2 : List Ent}
theorem x_sliceAny {t e s m cap : Nat} {a : Option Addr} {I : Int} (i : Nat) (w : World) (hu : P.underlying t = some (.slice e)) (hs : (P.info? e).map (·.size) = some s) (hI : I = (i : Int)) (hle : i ≤ m) (hmc : m ≤ cap) :
    ∃ v, ∀ {ρ : Operand → Value} {o : Oper} {x lo : Operand}, o.op = .slice t x (some lo) none none → ρ x = .slice a m cap → ρ lo = .int .i64 I → (execOp ρ o).run P w = .ok (.value v) w := by
  subst hI
  obtain ⟨inf, hi, rfl⟩ := Option.map_eq_some_iff.1 hs
  have hz : (sizeOf e).run P w = .ok inf.size w := by simp [sizeOf, typeInfo, hi]
  refine ⟨.slice (if cap = i then a else a.map (·.add (i * inf.size))) (m - i) (cap - i), fun ho hx hy => ?_⟩
  unfold execOp; rw [ho]
  simp [hx, hy, Instr.sliceAt, Instr.slice, run_underlying hu, Instr.sliceBounds, Instr.sliceBound, asIntOf, hle, hz, hmc]
theorem run_copy_rows (w : World) (dT sT ty elem sz : Nat) (g o dLen dCap : Nat) (a : Addr) (sLen sCap : Nat) (cur : Array Value) (t : TypeId) (cs : List Value)
    (hu : P.underlying dT = some (.slice elem)) (hs : (P.info? elem).map (·.size) = some sz)
    (hg : w.heap[g]? = some (.cells cur t (0, 0))) (hn : cs.length = Nat.min sLen dLen * sz)
    (hsrc : ∀ j v, cs[j]? = some v → w.cell? (a.add j) = some v) (hfit : o + cs.length ≤ cur.size) (h1 : ∀ v ∈ cs, v.oneCell' = true) :
    (Builtin.copy_ #[dT, sT] ty #[.slice (some ⟨g, o, none⟩) dLen dCap, .slice (some a) sLen sCap]).run P w =
      .ok (goInt (Nat.min sLen dLen)) (w.setRow g (cur.toList.take o ++ cs ++ cur.toList.drop (o + cs.length)).toArray) := by
  have hl := run_loadCells_list (P := P) w a cs hsrc
  have hst := run_storeCells_at P g o t cs 0 cur w hg (by simpa using hfit) h1
  obtain ⟨i, hq, rfl⟩ := Option.map_eq_some_iff.1 hs
  simp [Builtin.copy_, run_underlying hu, Builtin.lenOf, Builtin.firstCells, sizeOf, typeInfo, hq, ← hn, hl, hst]
/-- a copy into a block of the list -/
theorem WL.copyCel {o : Oper} {t t2 e sz : Nat} {x y : Operand} {g off m cp ms cps : Nat} {a : Addr} {cur : Array Value} {T : TypeId} (i : Nat) (hH : HP S w0 w H) (cs : List Value) (d : Nat) (hd : o.dst = some d) (hn : d < n) (hw : wants ops l o = some true)
    (ho : o.op = .call { callee := .builtin .copy, args := #[x, y], argTypes := #[t, t2] }) (hx : ev l x = some (.slice (some ⟨g, off, none⟩) m cp)) (hy : ev l y = some (.slice (some a) ms cps))
    (ht : P.underlying t = some (.slice e)) (hs : (P.info? e).map (·.size) = some sz) (hi : H[i]? = some (.cel g cur T)) (hcs : cs.length = Nat.min ms m * sz)
    (hsrc : ∀ j v, cs[j]? = some v → w.cell? (a.add j) = some v) (hfit : off + cs.length ≤ cur.size) (h1 : ∀ v ∈ cs, v.oneCell' = true)
    (h : ∀ w2, HP S w0 w2 (H.set i (.cel g (cur.toList.take off ++ cs ++ cur.toList.drop (off + cs.length)).toArray T)) → WL P ops Q rest n ((d, goInt (Nat.min ms m)) :: l) w2) : WL P ops Q (o :: rest) n l w := by
  intro b hb
  refine wpList_step fun K hK => ?_
  rw [if_pos (wants_spec hb hw)]
  unfold Oper.wp
  have hr := run_copy_rows (P := P) w t t2 o.type e sz g off m cp a ms cps cur T cs ht hs (hH.get i hi) hcs hsrc hfit h1
  have hx2 : (execOp b.eval o).run P w = .ok (.value (goInt (Nat.min ms m))) (w.setRow g (cur.toList.take off ++ cs ++ cur.toList.drop (off + cs.length)).toArray) := by
    unfold execOp; rw [ho]
    simp [resolve, invoke, builtin, hb.ev hx, hb.ev hy, hr]
  rw [hx2, Oper.upon_value, hd]
  refine hK _ _ (h _ ?_ _ (hb.put hn _))
  exact hH.change i hi rfl rfl rfl (by simp) (fun k _ hne => setRow_other w g k _ fun q => hne (by rw [q]; rfl)) (setRow_heap w g cur _ T (0, 0) (hH.get i hi)) (fun b' hb' => .inl hb')
/-- 'append(s[:i], make(S, k)...)' without room: a new block -/
theorem WL.growZeros {o : Oper} {t tn e : TypeId} {inf : TypeInfo} {z : Value} {sz by' : Nat} {x y : Operand} {g i k cap : Nat} {K : Int} {cur : Array Value} (j : Nat) (hH : HP S w0 w H) (d : Nat) (hd : o.dst = some d) (hn : d < n) (hw : wants ops l o = some true)
    (ho : o.op = .call { callee := .builtin .append, args := #[x, y], argTypes := #[t, tn] }) (hx : ev l x = some (.slice (some ⟨g, 0, none⟩) i cap)) (hy : ev l y = some (.int .i64 K)) (hK : K = (k : Int))
    (ht : P.underlying t = some (.slice e)) (htn : P.underlying tn = some (.int .i64)) (hi' : P.info? e = some inf) (hz : inf.zero = some z) (hsz : inf.size = sz) (hby : inf.bytes = by') (hzs : z.cells.size = sz) (h0 : 0 < sz)
    (hj : H[j]? = some (.cel g cur e)) (hfit : i * sz ≤ cur.size) (hk : 0 < k) (hg : cap < i + k) (h63 : i + k ≤ 9223372036854775807) (hb : (i + k) * by' ≤ 140737488355328)
    (h : ∀ (g' c' : Nat) (cur' : Array Value) w2, HP S w0 w2 (H ++ [.cel g' cur' e]) → cur'.size = c' * sz → i + k ≤ c' → c' ≤ maxLen → cur'.toList.take (i * sz) = cur.toList.take (i * sz) → WL P ops Q rest n ((d, .slice (some ⟨g', 0, none⟩) (i + k) c') :: l) w2) : WL P ops Q (o :: rest) n l w := by
  intro b hfr
  refine wpList_step fun K' hK' => ?_
  rw [if_pos (wants_spec hfr hw)]
  unfold Oper.wp
  subst hK
  have hold : (Builtin.firstCells inf.size i (.slice (some ⟨g, 0, none⟩) i cap)).run P w.drew = .ok (cur.toList.take (i * sz)).toArray w.drew := by
    rw [hsz]
    refine run_firstCells_some w.drew sz i ⟨g, 0, none⟩ i cap (cur.toList.take (i * sz)) (by rw [List.length_take]; simp; omega) (fun q v hq => ?_)
    have hq2 : cur[q]? = some v := by
      rw [List.getElem?_take] at hq
      split at hq
      · simpa using hq
      · cases hq
    rw [Addr.add_lit, Nat.zero_add]
    exact HP.cell hH.drew j hj hq2
  have hik : i * by' + k * by' = (i + k) * by' := (Nat.add_mul _ _ _).symm
  have hr := Lib.run_append_grow_zeros (P := P) w t tn o.type e inf z .i64 .i64 ht htn hi' hz (some ⟨g, 0, none⟩) i cap (cur.toList.take (i * sz)) hold k hk (by omega) hg (by omega) (by rw [hby]; omega) (by rw [hby]; exact growslice_fits hg hb)
  have hx2 : (execOp b.eval o).run P w = .ok (.value (.slice (some ⟨w.heap.size, 0, none⟩) (i + k) (grownCap w (i + k) cap e))) (w.drew.alloc (.cells ((cur.toList.take (i * sz)).toArray ++ Builtin.zeroCells z.cells k ++ Builtin.zeroCells z.cells (grownCap w (i + k) cap e - (i + k))) e)) := by
    unfold execOp; rw [ho]
    simp [resolve, invoke, builtin, hfr.ev hx, hfr.ev hy, hr]
  rw [hx2, Oper.upon_value, hd]
  have hge := grownCap_ge w (i + k) cap e
  have htl : (cur.toList.take (i * sz)).length = i * sz := by rw [List.length_take]; simp; omega
  have hsize : ((cur.toList.take (i * sz)).toArray ++ Builtin.zeroCells z.cells k ++ Builtin.zeroCells z.cells (grownCap w (i + k) cap e - (i + k))).size = grownCap w (i + k) cap e * sz := by
    simp only [Array.size_append, List.size_toArray, htl, size_zeroCells, hzs]
    rw [← Nat.add_mul, ← Nat.add_mul]
    congr 1; omega
  have q := HP.alloc hH.drew ((cur.toList.take (i * sz)).toArray ++ Builtin.zeroCells z.cells k ++ Builtin.zeroCells z.cells (grownCap w (i + k) cap e - (i + k))) e
  refine hK' _ _ (h w.heap.size (grownCap w (i + k) cap e) _ _ q hsize hge (grownCap_le_maxLen w _ _ _ (by unfold maxLen; omega)) ?_ _ (hfr.put hn _))
  simp only [Array.toList_append, List.append_assoc]
  rw [List.take_append_of_le_length (by simp; omega), List.take_of_length_le (by simp; omega)]
theorem append_args {t t2 e e2 ty : TypeId} (ht : P.underlying t = some (.slice e)) (ht2 : P.underlying t2 = some (.slice e2)) (b : Option Addr) (k c : Nat) (b2 : Option Addr) (k2 c2 : Nat) (w : World) : (Builtin.append_ #[t, t2] ty #[.slice b k c, .slice b2 k2 c2]).run P w = (Builtin.append_ #[t, t] ty #[.slice b k c, .slice b2 k2 c2]).run P w := by
  simp [Builtin.append_, run_underlying ht, run_underlying ht2]
/-- append, the second slice of another type of the same elements -/
theorem WL.append2 {o : Oper} {t t2 e e2 : TypeId} {inf : TypeInfo} {z : Value} {sz by' : Nat} {x y : Operand} {v : Value} {k m : Nat} {xs news : List Value} {bn cp : Nat} {cn : Array Value} (i j : Nat) (hH : HP S w0 w H) (d : Nat) (hd : o.dst = some d) (hn : d < n) (hw : wants ops l o = some true)
    (ho : o.op = .call { callee := .builtin .append, args := #[x, y], argTypes := #[t, t2] }) (hx : ev l x = some v) (hy : ev l y = some (.slice (some ⟨bn, 0, none⟩) m cp))
    (ht : P.underlying t = some (.slice e)) (ht2 : P.underlying t2 = some (.slice e2)) (hi' : P.info? e = some inf) (hz : inf.zero = some z) (hsz : inf.size = sz) (hby : inf.bytes = by') (hzs : z.cells.size = sz) (h0 : 0 < sz)
    (hi : H[i]? = some (.own v k xs e sz)) (hj : H[j]? = some (.cel bn cn e)) (hnews : cn.toList.take news.length = news) (hl : news.length = m * sz) (h1 : ∀ u ∈ news, u.oneCell' = true) (h63 : k + m ≤ maxLen) (hb : (k + m) * by' ≤ 140737488355328)
    (h : ∀ v' w2, (v' = .slice none 0 0 ↔ v = .slice none 0 0 ∧ m = 0) → HP S w0 w2 (H.set i (.own v' (k + m) (xs ++ news) e sz)) → WL P ops Q rest n ((d, v') :: l) w2) : WL P ops Q (o :: rest) n l w := by
  intro a ha
  refine wpList_step fun K hK => ?_
  rw [if_pos (wants_spec ha hw)]
  unfold Oper.wp
  obtain ⟨v', w2, hr, g1, g2, g3, g4⟩ := append_ent (P := P) w t o.type e inf z sz by' ht hi' hz hsz hby hzs h0 v k xs (hH.get i hi) ⟨bn, 0, none⟩ m cp news hl (fun q u hu => by
    rw [Addr.add_mid]
    exact hH.range j hj (by simpa using hnews) q u hu) h1 h63 hb
  obtain ⟨pv, kk, cc, rfl⟩ : ∃ pv kk cc, v = .slice pv kk cc := by
    have h2 : w.ownsRow 0 e sz v k xs := hH.get i hi
    rcases h2.2 with ⟨h3, h1⟩ | ⟨g, cap, cur, hv, _⟩
    · exact ⟨_, _, _, h3⟩
    · exact ⟨_, _, _, hv⟩
  have hx2 : (execOp a.eval o).run P w = .ok (.value v') w2 := by
    unfold execOp; rw [ho]
    simp [resolve, invoke, builtin, ha.ev hx, ha.ev hy, append_args ht ht2, hr]
  rw [hx2, Oper.upon_value, hd]
  refine hK _ _ (h v' w2 g3 ?_ _ (ha.put hn v'))
  exact hH.change i hi g2.os g2.tape g2.output g2.size (fun q hq hne => g2.block q hq fun e => hne e.symm) ⟨g1.1, g1.2⟩ g4
theorem own_le {w : World} {pv : Option Addr} {n cp e s : Nat} {xs : List Value} (h : Ent.holds w (.own (.slice pv n cp) n xs e s)) : n ≤ cp ∧ cp ≤ maxLen ∧ (n = 0 ∨ ∃ g, pv = some ⟨g, 0, none⟩) := by
  have h2 : w.ownsRow 0 e s (.slice pv n cp) n xs := h
  rcases h2.2 with ⟨h3, h1⟩ | ⟨g, cap, cur, hv, _, _, hc, hm, _⟩
  · cases h3; exact ⟨Nat.le_refl _, by decide, .inl rfl⟩
  · cases hv; exact ⟨hc, hm, .inr ⟨g, rfl⟩⟩
/-- slices.overlaps of parts of two blocks -/
theorem x_overlaps {o : Oper} {ρ : Operand → Value} {fn : Func} {f tS tR e sz b b2 o1 o2 l1 c1 l2 c2 : Nat} {x y : Operand} {A B : Array Value} {T T2' : TypeId} (i j : Nat) (hH : HP S w0 w H) (ho : o.op = .call { callee := .value (.func f), args := #[x, y], argTypes := #[tS, tS] })
    (hf' : ρ (.func f) = .func (.func f) #[] #[]) (hx : ρ x = .slice (some ⟨b, o1, none⟩) l1 c1) (hy : ρ y = .slice (some ⟨b2, o2, none⟩) l2 c2) (hf : P.funcs[f]? = some fn) (hname : (fn.name == "runtime.NumGoroutine") = false)
    (hbd : fn.body.isNone = true) (hnx : Extern.findNext fn = none) (he : Extern.find fn = some (Extern.SlicesOverlaps.overlaps #[tS, tS] #[tR])) (ht : P.underlying tS = some (.slice e)) (hs : (P.info? e).map (·.size) = some sz)
    (hi : H[i]? = some (.cel b A T)) (hj : H[j]? = some (.cel b2 B T2')) (hne : b ≠ b2) (hB : B.size ≠ 0) :
    (execOp ρ o).run P w = .ok (.value (.bool false)) w := by
  obtain ⟨inf, hq, rfl⟩ := Option.map_eq_some_iff.1 hs
  have hz : ∀ w, (sizeOf e).run P w = .ok inf.size w := fun w => by simp [sizeOf, typeInfo, hq]
  have g1 : w.heap[b]? = some (.cells A T (0, 0)) := hH.get i hi
  have g2 : w.heap[b2]? = some (.cells B T2' (0, 0)) := hH.get j hj
  have hr : (callFunc f #[.slice (some ⟨b, o1, none⟩) l1 c1, .slice (some ⟨b2, o2, none⟩) l2 c2]).run P w = .ok (.value (.bool false)) w := by
    rw [run_callFunc_extern hf hname hbd hnx he, Lib.run_overlaps_apart w tS tR e ht inf.size hz ⟨b, o1, none⟩ ⟨b2, o2, none⟩ l1 c1 l2 c2 hne T T2' A.size B.size
      (by simp [World.shape?, g1]) (by simp [World.shape?, g2]) hB (by simp [World.frozen?, g1]) (by simp [World.frozen?, g1])]
    rfl
  unfold execOp; rw [ho]
  simp [resolve, invoke, Deferred.ofValue, hx, hy, hf', hr, go_sem]
end
end Fw
end Go.Proofs.Ytmjnakhpekbenaa
namespace Go.Proofs.Ytmjnakhpekbenaa
open Go.RowKit Fw
namespace Ca
theorem HP.monoS {S S' : Nat → Prop} {w0 w : World} {H : List Ent} (h : HP S w0 w H) (hk : ∀ b, S' b → S b) : HP S' w0 w H := ⟨h.os, h.tape, h.output, h.size, fun k hl hS => h.keep k hl (hk k hS), h.hold, fun e he b hb hl hS => h.fresh e he b hb hl (hk b hS), h.apart⟩
theorem ins_grow {C X cs : List Value} {a k : Nat} (hX : X.length = 2) (ha : a ≤ C.length) :
    ((C.take a ++ X ++ C.drop (a + X.length)).take (a + 2) ++ cs ++ (C.take a ++ X ++ C.drop (a + X.length)).drop k).take (a + 2 + cs.length) = C.take a ++ X ++ cs := by
  have e1 : (C.take a ++ X ++ C.drop (a + X.length)).take (a + 2) = C.take a ++ X := by
    rw [List.take_append_of_le_length (by simp; omega), List.take_of_length_le (by simp; omega)]
  rw [e1, List.take_append_of_le_length (by simp; omega), List.take_of_length_le (by simp; omega)]
theorem ins_room {C X cs : List Value} {a k : Nat} (hX : X.length = 2) (ha : a + 2 ≤ C.length) :
    ((C.take (a + 2) ++ cs ++ C.drop k).take a ++ X ++ (C.take (a + 2) ++ cs ++ C.drop k).drop (a + X.length)).take (a + 2 + cs.length) = C.take a ++ X ++ cs := by
  have e1 : (C.take (a + 2) ++ cs ++ C.drop k).take a = C.take a := by
    rw [List.append_assoc, List.take_append_of_le_length (by simp; omega), List.take_take, Nat.min_eq_left (by omega)]
  have e2 : (C.take (a + 2) ++ cs ++ C.drop k).drop (a + X.length) = cs ++ C.drop k := by
    rw [hX, List.append_assoc, List.drop_left' (by simp; omega)]
  rw [e1, e2, ← List.append_assoc, List.take_append_of_le_length (by simp; omega), List.take_of_length_le (by simp; omega)]
theorem toL_size {l : List Value} : l.toArray.size = l.length := by simp
theorem app_len {C X : List Value} {a : Nat} (h : a + X.length ≤ C.length) : (C.take a ++ X ++ C.drop (a + X.length)).length = C.length := by simp; omega
theorem cs_mem {C : List Value} {i n : Nat} {v : Value} (hi : i < n) (h : v ∈ (C.drop (i * 2)).take ((n - i) * 2)) : v ∈ C.take (n * 2) := by
  have e : (C.drop (i * 2)).take ((n - i) * 2) = (C.take (n * 2)).drop (i * 2) := by rw [List.drop_take]; congr 1; omega
  rw [e] at h
  exact List.mem_of_mem_drop h
theorem cs_at {C : Array Value} {a k j : Nat} {v : Value} (h : ((C.toList.drop a).take k)[j]? = some v) : C[a + j]? = some v := by
  rw [List.getElem?_take] at h
  split at h
  · rw [List.getElem?_drop] at h; simpa using h
  · cases h
set_option maxRecDepth 20000 in
set_option maxHeartbeats 4000000 in
theorem insC_any (g gb n c i : Nat) (cur : Array Value) (x : T2) (w : World) (hB : OwnB w [Go.Proofs.Ytmjnakhpekbenaa.Fw.Ent.cel g cur 83, Go.Proofs.Ytmjnakhpekbenaa.Fw.Ent.cel gb #[vI x.1, vI x.2] 83]) (hs : cur.size = c * 2) (hone : ∀ v ∈ cur.toList.take (n * 2), v.oneCell' = true) (hne : gb ≠ g) (hnc : n ≤ c) (hm : c ≤ maxLen) (hi : i < n) (hn : n ≤ 1000000) :
    Calls Try.prog 85 #[vS g n c, vI (i : Int), vS gb 1 1] w fun e w' => ∃ g' c' cur', e = .returned (vS g' (n + 1) c') ∧ HP (Out [Go.Proofs.Ytmjnakhpekbenaa.Fw.Ent.cel g cur 83, Go.Proofs.Ytmjnakhpekbenaa.Fw.Ent.cel gb #[vI x.1, vI x.2] 83]) w w' [.cel g' cur' 83] ∧ cur'.size = c' * 2 ∧ n + 1 ≤ c' ∧ c' ≤ maxLen ∧ cur'.toList.take ((n + 1) * 2) = cur.toList.take (i * 2) ++ [vI x.1, vI x.2] ++ (cur.toList.drop (i * 2)).take ((n - i) * 2) := by
  refine calls_of Try.func85 rfl (m := 95) rfl [(0, vS g n c), (1, vI (i : Int)), (2, vS gb 1 1)] (Fr_enter [vS g n c, vI (i : Int), vS gb 1 1] 95 (Nat.le_of_ble_eq_true rfl)) ?_
  refine WC.seq fun K1 hK1 => WC.region ?_
  refine WL.z (v := .slice none 0 0) 6 ?_
  refine WL.nil (WQ.then (hK1 _ _ _ (WC.seq fun K2 hK2 => WC.region ?_)))
  refine WL.z (v := vS g n c) 10 ?_
  refine WL.z (v := vI (i : Int)) 11 ?_
  refine WL.y (v := .slice (some ⟨g, i * 2, none⟩) (n - i) (c - i)) 12 (x_sliceL (i) rfl rfl rfl Try.underlying88 (by omega) (by omega) (by omega) sz83 (by omega) rfl rfl (by omega)) ?_
  refine WL.nil (WQ.then (hK2 _ _ _ (WC.seq fun K3 hK3 => WC.region ?_)))
  refine WL.z (v := vS gb 1 1) 13 ?_
  refine WL.z (v := vI 1) 14 ?_
  refine WL.z (v := vI 1) 7 ?_
  refine WL.nil (WQ.then (hK3 _ _ _ (WC.seq fun K4 hK4 => WC.seq fun K5 hK5 => WC.region ?_)))
  refine WL.z (v := vI 1) 15 ?_
  refine WL.y (v := .bool false) 16 (x_eql rfl rfl rfl (by decide)) ?_
  refine WL.nil (WQ.then (hK5 _ _ _ ?_))
  refine WC.sub (l' := [(0, vS g n c), (1, vI (i : Int)), (2, vS gb 1 1), (6, .slice none 0 0), (7, vI 1), (16, .bool false)]) ⟨rfl, rfl, rfl, rfl, rfl, rfl, trivial⟩ ?_
  refine WC.no rfl (WC.skip (WQ.then (hK4 _ _ _ (WC.seq fun K6 hK6 => WC.region ?_))))
  refine WL.z (v := vS g n c) 18 ?_
  refine WL.z (v := vI (n : Int)) 19 ?_
  refine WL.z (v := vI (n : Int)) 8 ?_
  refine WL.nil (WQ.then (hK6 _ _ _ (WC.seq fun K7 hK7 => WC.seq fun K8 hK8 => WC.region ?_)))
  refine WL.z (v := vI (i : Int)) 20 ?_
  refine WL.z (v := vI (n : Int)) 21 ?_
  refine WL.y (v := .bool false) 22 (x_eql rfl rfl rfl (dF (by omega))) ?_
  refine WL.nil (WQ.then (hK8 _ _ _ (WC.no rfl (WC.skip (WQ.then (hK7 _ _ _ (WC.seq fun K9 hK9 => ?_)))))))
  refine WC.seq fun K10 hK10 => WC.region ?_
  refine WL.z (v := vI (n : Int)) 26 ?_
  refine WL.z (v := vI 1) 27 ?_
  refine WL.y (v := vI ((n + 1 : Nat) : Int)) 28 (x_add (Z := ((n + 1 : Nat) : Int)) rfl rfl rfl (by omega) (by omega) (by omega)) ?_
  refine WL.z (v := vS g n c) 29 ?_
  refine WL.z (v := vI (c : Int)) 30 ?_
  by_cases hgr : (c : Int) < ((n + 1 : Nat) : Int)
  ·
    refine WL.y (v := .bool true) 31 (x_gtr rfl rfl rfl (dT (hgr))) ?_
    refine WL.nil (WQ.then (hK10 _ _ _ ?_))
    refine WC.sub (l' := [(0, vS g n c), (1, vI (i : Int)), (2, vS gb 1 1), (6, .slice none 0 0), (7, vI 1), (8, vI (n : Int)), (16, .bool false), (22, .bool false), (31, .bool true)]) ⟨rfl, rfl, rfl, rfl, rfl, rfl, rfl, rfl, rfl, trivial⟩ ?_
    refine WC.yes rfl (WC.seq fun K11 hK11 => WC.region ?_)
    refine WL.z (v := vS g n c) 32 ?_
    refine WL.z (v := vI (i : Int)) 33 ?_
    refine WL.y (v := vS g i c) 34 (x_sliceH (i) rfl rfl rfl Try.underlying88 (by omega) (by omega) sz83) ?_
    refine WL.z (v := vI (n : Int)) 35 ?_
    refine WL.z (v := vI 1) 36 ?_
    refine WL.y (v := vI ((n + 1 : Nat) : Int)) 37 (x_add (Z := ((n + 1 : Nat) : Int)) rfl rfl rfl (by omega) (by omega) (by omega)) ?_
    refine WL.z (v := vI (i : Int)) 38 ?_
    refine WL.y (v := vI ((n + 1 - i : Nat) : Int)) 39 (x_sub (Z := ((n + 1 - i : Nat) : Int)) rfl rfl rfl (by omega) (by omega) (by omega)) ?_
    obtain ⟨i0, hi0, hz0, hz1, hz2⟩ := infoT
    refine WL.growZeros (k := n + 1 - i) 0 (HP.startB hB) 40 rfl (by decide) rfl rfl rfl rfl rfl Try.underlying88 Try.underlying3 hi0 hz0 hz1 hz2 rfl (by decide) rfl (by omega) (by omega) (by omega) (by omega) (by omega) ?_
    intro g2 c2 cur2 w5 hA5 hs5 hc5 hm5 ht5
    have e5 : i + (n + 1 - i) = n + 1 := by omega
    rw [e5] at hc5 ⊢
    have hH12 : HP (Out [Go.Proofs.Ytmjnakhpekbenaa.Fw.Ent.cel g cur 83, Go.Proofs.Ytmjnakhpekbenaa.Fw.Ent.cel gb #[vI x.1, vI x.2] 83]) w _ [.cel g cur 83, .cel gb #[vI x.1, vI x.2] 83, .cel g2 cur2 83] := hA5
    refine WL.z (v := vS g2 (n + 1) c2) 9 ?_
    refine WL.nil (WQ.then (hK11 _ _ _ ?_))
    refine WC.sub (l' := [(0, vS g n c), (1, vI (i : Int)), (2, vS gb 1 1), (6, .slice none 0 0), (7, vI 1), (8, vI (n : Int)), (9, vS g2 (n + 1) c2), (16, .bool false), (22, .bool false), (31, .bool true)]) ⟨rfl, rfl, rfl, rfl, rfl, rfl, rfl, rfl, rfl, rfl, trivial⟩ ?_
    refine WC.seq fun K13 hK13 => WC.region ?_
    refine WL.z (v := vS g2 (n + 1) c2) 41 ?_
    refine WL.z (v := vI (i : Int)) 42 ?_
    refine WL.y (v := .slice (some ⟨g2, i * 2, none⟩) (n + 1 - i) (c2 - i)) 43 (x_sliceL (i) rfl rfl rfl Try.underlying88 (by omega) (by omega) (by omega) sz83 (by omega) rfl rfl (by omega)) ?_
    refine WL.z (v := vS gb 1 1) 44 ?_
    refine WL.copyCel 2 hH12 [vI x.1, vI x.2] 45 rfl (by decide) rfl rfl rfl rfl Try.underlying88 sz83 rfl (by rw [show Nat.min 1 (n + 1 - i) = 1 from Nat.min_eq_left (by omega)]; rfl) (fun j v hj => by rw [Addr.add_lit]; exact HP.range hH12 1 rfl rfl j v hj) (by simp only [List.length_cons, List.length_nil]; omega) (by simp [Value.oneCell']) ?_
    intro w14 hCw14
    generalize ecur4 : (cur2.toList.take (i * 2) ++ [vI x.1, vI x.2] ++ cur2.toList.drop (i * 2 + [vI x.1, vI x.2].length)).toArray = cur4 at hCw14
    have scur4 : cur4.size = cur2.size := by rw [← ecur4, toL_size, app_len (by simp only [List.length_cons, List.length_nil, Array.length_toList]; omega), Array.length_toList]
    have hH15 : HP (Out [Go.Proofs.Ytmjnakhpekbenaa.Fw.Ent.cel g cur 83, Go.Proofs.Ytmjnakhpekbenaa.Fw.Ent.cel gb #[vI x.1, vI x.2] 83]) w _ [.cel g cur 83, .cel gb #[vI x.1, vI x.2] 83, .cel g2 cur4 83] := hCw14
    refine WL.nil (WQ.then (hK13 _ _ _ (WC.seq fun K16 hK16 => ?_)))
    refine WC.stillTail 8 (by kernel_rfl) (by kernel_rfl) ?_
    have hH17 : HP (Out [Go.Proofs.Ytmjnakhpekbenaa.Fw.Ent.cel g cur 83, Go.Proofs.Ytmjnakhpekbenaa.Fw.Ent.cel gb #[vI x.1, vI x.2] 83]) w _ [.cel g cur 83, .cel gb #[vI x.1, vI x.2] 83, .cel g2 cur4 83] := HP.drew hH15
    refine WS.z (v := vS g2 (n + 1) c2) 46 ?_
    refine WS.z (v := vI (i : Int)) 47 ?_
    refine WS.z (v := vI 1) 48 ?_
    refine WS.y (v := vI ((i + 1 : Nat) : Int)) 49 (x_add (Z := ((i + 1 : Nat) : Int)) rfl rfl rfl (by omega) (by omega) (by omega)) ?_
    refine WS.y (v := .slice (some ⟨g2, (i + 1) * 2, none⟩) (n + 1 - (i + 1)) (c2 - (i + 1))) 50 (x_sliceL (i + 1) rfl rfl rfl Try.underlying88 (by omega) (by omega) (by omega) sz83 (by omega) rfl rfl (by omega)) ?_
    refine WS.z (v := vS g n c) 51 ?_
    refine WS.z (v := vI (i : Int)) 52 ?_
    refine WS.y (v := .slice (some ⟨g, i * 2, none⟩) (n - i) (c - i)) 53 (x_sliceL (i) rfl rfl rfl Try.underlying88 (by omega) (by omega) (by omega) sz83 (by omega) rfl rfl (by omega)) ?_
    refine WS.nilL ?_
    have hcs : ((cur.toList.drop (i * 2)).take ((n - i) * 2)).length = (n - i) * 2 := by rw [List.length_take, List.length_drop, Array.length_toList]; omega
    have hmn : Nat.min (n - i) (n + 1 - (i + 1)) = n - i := by simp only [Nat.min_def]; split <;> omega
    refine WL.copyCel 2 hH17 ((cur.toList.drop (i * 2)).take ((n - i) * 2)) 54 rfl (by decide) rfl rfl rfl rfl Try.underlying88 sz83 rfl (by rw [hmn, hcs]) (fun j v hj => by rw [Addr.add_lit]; exact HP.cell hH17 0 rfl (cs_at hj)) (by rw [hcs]; omega) (fun v hv => hone v (cs_mem hi hv)) ?_
    intro w18 hCw18
    generalize ecur5 : (cur4.toList.take ((i + 1) * 2) ++ ((cur.toList.drop (i * 2)).take ((n - i) * 2)) ++ cur4.toList.drop ((i + 1) * 2 + ((cur.toList.drop (i * 2)).take ((n - i) * 2)).length)).toArray = cur5 at hCw18
    have scur5 : cur5.size = cur4.size := by rw [← ecur5, toL_size, app_len (by rw [hcs, Array.length_toList]; omega), Array.length_toList]
    have hH19 : HP (Out [Go.Proofs.Ytmjnakhpekbenaa.Fw.Ent.cel g cur 83, Go.Proofs.Ytmjnakhpekbenaa.Fw.Ent.cel gb #[vI x.1, vI x.2] 83]) w _ [.cel g cur 83, .cel gb #[vI x.1, vI x.2] 83, .cel g2 cur5 83] := hCw18
    refine WL.nil (WQ.then (hK16 _ _ _ ?_))
    refine WC.sub (l' := [(0, vS g n c), (1, vI (i : Int)), (2, vS gb 1 1), (6, .slice none 0 0), (7, vI 1), (8, vI (n : Int)), (9, vS g2 (n + 1) c2), (16, .bool false), (22, .bool false), (31, .bool true)]) ⟨rfl, rfl, rfl, rfl, rfl, rfl, rfl, rfl, rfl, rfl, trivial⟩ ?_
    refine WC.seq fun K20 hK20 => WC.region ?_
    refine WL.z (v := vS g2 (n + 1) c2) 55 ?_
    refine WL.z (v := vS g2 (n + 1) c2) 6 ?_
    refine WL.nil (WQ.then (hK20 _ _ _ (WC.ret ?_)))
    refine WQ.thenRet ?_
    refine WQ.ret1 6 rfl rfl ?_
    refine ⟨g2, c2, cur5, rfl, HP.drop (HP.drop hH19 0) 0, by omega, hc5, hm5, ?_⟩
    rw [← ecur5, ← ecur4, ← ht5]
    rw [show (i + 1) * 2 = i * 2 + 2 by omega, show (n + 1) * 2 = i * 2 + 2 + ((cur.toList.drop (i * 2)).take ((n - i) * 2)).length by rw [hcs]; omega]
    exact ins_grow rfl (by rw [Array.length_toList]; omega)
  ·
    refine WL.y (v := .bool false) 31 (x_gtr rfl rfl rfl (dF (hgr))) ?_
    refine WL.nil (WQ.then (hK10 _ _ _ ?_))
    refine WC.sub (l' := [(0, vS g n c), (1, vI (i : Int)), (2, vS gb 1 1), (6, .slice none 0 0), (7, vI 1), (8, vI (n : Int)), (16, .bool false), (22, .bool false), (31, .bool false)]) ⟨rfl, rfl, rfl, rfl, rfl, rfl, rfl, rfl, rfl, trivial⟩ ?_
    refine WC.no rfl (WC.skip (WQ.then (hK9 _ _ _ (WC.seq fun K21 hK21 => WC.region ?_))))
    refine WL.z (v := vS g n c) 56 ?_
    refine WL.z (v := vI (n : Int)) 57 ?_
    refine WL.z (v := vI 1) 58 ?_
    refine WL.y (v := vI ((n + 1 : Nat) : Int)) 59 (x_add (Z := ((n + 1 : Nat) : Int)) rfl rfl rfl (by omega) (by omega) (by omega)) ?_
    refine WL.y (v := vS g (n + 1) c) 60 (x_sliceH (n + 1) rfl rfl rfl Try.underlying88 (by omega) (by omega) sz83) ?_
    refine WL.z (v := vS g (n + 1) c) 0 ?_
    refine WL.nil (WQ.then (hK21 _ _ _ ?_))
    refine WC.sub (l' := [(0, vS g (n + 1) c), (1, vI (i : Int)), (2, vS gb 1 1), (6, .slice none 0 0), (7, vI 1), (8, vI (n : Int)), (16, .bool false), (22, .bool false), (31, .bool false)]) ⟨rfl, rfl, rfl, rfl, rfl, rfl, rfl, rfl, rfl, trivial⟩ ?_
    refine WC.seq fun K22 hK22 => WC.seq fun K23 hK23 => WC.region ?_
    refine WL.z (v := vS gb 1 1) 61 ?_
    refine WL.z (v := vS g (n + 1) c) 62 ?_
    refine WL.z (v := vI (i : Int)) 63 ?_
    refine WL.z (v := vI 1) 64 ?_
    refine WL.y (v := vI ((i + 1 : Nat) : Int)) 65 (x_add (Z := ((i + 1 : Nat) : Int)) rfl rfl rfl (by omega) (by omega) (by omega)) ?_
    refine WL.y (v := .slice (some ⟨g, (i + 1) * 2, none⟩) (n + 1 - (i + 1)) (c - (i + 1))) 66 (x_sliceL (i + 1) rfl rfl rfl Try.underlying88 (by omega) (by omega) (by omega) sz83 (by omega) rfl rfl (by omega)) ?_
    refine WL.y (v := .bool false) 67 (x_overlaps (tR := 4) 1 0 (HP.startB hB) rfl rfl rfl rfl Try.func103 (by kernel_rfl) (by kernel_rfl) (by kernel_rfl) (by kernel_rfl) Try.underlying49 sz83 rfl rfl hne (by omega)) ?_
    refine WL.z (v := .bool true) 68 ?_
    refine WL.nil (WQ.then (hK23 _ _ _ ?_))
    refine WC.sub (l' := [(0, vS g (n + 1) c), (1, vI (i : Int)), (2, vS gb 1 1), (6, .slice none 0 0), (7, vI 1), (8, vI (n : Int)), (16, .bool false), (22, .bool false), (31, .bool false), (68, .bool true)]) ⟨rfl, rfl, rfl, rfl, rfl, rfl, rfl, rfl, rfl, rfl, trivial⟩ ?_
    refine WC.yes rfl (WC.seq fun K24 hK24 => ?_)
    refine WC.stillTail 8 (by kernel_rfl) (by kernel_rfl) ?_
    have hH25 : HP (Out [Go.Proofs.Ytmjnakhpekbenaa.Fw.Ent.cel g cur 83, Go.Proofs.Ytmjnakhpekbenaa.Fw.Ent.cel gb #[vI x.1, vI x.2] 83]) w _ [.cel g cur 83, .cel gb #[vI x.1, vI x.2] 83] := HP.drew (HP.startB hB)
    refine WS.z (v := vS g (n + 1) c) 69 ?_
    refine WS.z (v := vI (i : Int)) 70 ?_
    refine WS.z (v := vI 1) 71 ?_
    refine WS.y (v := vI ((i + 1 : Nat) : Int)) 72 (x_add (Z := ((i + 1 : Nat) : Int)) rfl rfl rfl (by omega) (by omega) (by omega)) ?_
    refine WS.y (v := .slice (some ⟨g, (i + 1) * 2, none⟩) (n + 1 - (i + 1)) (c - (i + 1))) 73 (x_sliceL (i + 1) rfl rfl rfl Try.underlying88 (by omega) (by omega) (by omega) sz83 (by omega) rfl rfl (by omega)) ?_
    refine WS.z (v := vS g (n + 1) c) 74 ?_
    refine WS.z (v := vI (i : Int)) 75 ?_
    refine WS.y (v := .slice (some ⟨g, i * 2, none⟩) (n + 1 - i) (c - i)) 76 (x_sliceL (i) rfl rfl rfl Try.underlying88 (by omega) (by omega) (by omega) sz83 (by omega) rfl rfl (by omega)) ?_
    refine WS.nilL ?_
    have hcs : ((cur.toList.drop (i * 2)).take ((n - i) * 2)).length = (n - i) * 2 := by rw [List.length_take, List.length_drop, Array.length_toList]; omega
    have hmn : Nat.min (n + 1 - i) (n + 1 - (i + 1)) = n - i := by simp only [Nat.min_def]; split <;> omega
    refine WL.copyCel 0 hH25 ((cur.toList.drop (i * 2)).take ((n - i) * 2)) 77 rfl (by decide) rfl rfl rfl rfl Try.underlying88 sz83 rfl (by rw [hmn, hcs]) (fun j v hj => by rw [Addr.add_lit]; exact HP.cell hH25 0 rfl (cs_at hj)) (by rw [hcs]; omega) (fun v hv => hone v (cs_mem hi hv)) ?_
    intro w26 hCw26
    generalize ecur6 : (cur.toList.take ((i + 1) * 2) ++ ((cur.toList.drop (i * 2)).take ((n - i) * 2)) ++ cur.toList.drop ((i + 1) * 2 + ((cur.toList.drop (i * 2)).take ((n - i) * 2)).length)).toArray = cur6 at hCw26
    have scur6 : cur6.size = cur.size := by rw [← ecur6, toL_size, app_len (by rw [hcs, Array.length_toList]; omega), Array.length_toList]
    have hH27 : HP (Out [Go.Proofs.Ytmjnakhpekbenaa.Fw.Ent.cel g cur 83, Go.Proofs.Ytmjnakhpekbenaa.Fw.Ent.cel gb #[vI x.1, vI x.2] 83]) w _ [.cel g cur6 83, .cel gb #[vI x.1, vI x.2] 83] := hCw26
    refine WL.nil (WQ.then (hK24 _ _ _ ?_))
    refine WC.sub (l' := [(0, vS g (n + 1) c), (1, vI (i : Int)), (2, vS gb 1 1), (6, .slice none 0 0), (7, vI 1), (8, vI (n : Int)), (16, .bool false), (22, .bool false), (31, .bool false), (68, .bool true)]) ⟨rfl, rfl, rfl, rfl, rfl, rfl, rfl, rfl, rfl, rfl, trivial⟩ ?_
    refine WC.seq fun K28 hK28 => WC.region ?_
    refine WL.z (v := vS g (n + 1) c) 78 ?_
    refine WL.z (v := vI (i : Int)) 79 ?_
    refine WL.y (v := .slice (some ⟨g, i * 2, none⟩) (n + 1 - i) (c - i)) 80 (x_sliceL (i) rfl rfl rfl Try.underlying88 (by omega) (by omega) (by omega) sz83 (by omega) rfl rfl (by omega)) ?_
    refine WL.z (v := vS gb 1 1) 81 ?_
    refine WL.copyCel 0 hH27 [vI x.1, vI x.2] 82 rfl (by decide) rfl rfl rfl rfl Try.underlying88 sz83 rfl (by rw [show Nat.min 1 (n + 1 - i) = 1 from Nat.min_eq_left (by omega)]; rfl) (fun j v hj => by rw [Addr.add_lit]; exact HP.range hH27 1 rfl rfl j v hj) (by simp only [List.length_cons, List.length_nil]; omega) (by simp [Value.oneCell']) ?_
    intro w29 hCw29
    generalize ecur7 : (cur6.toList.take (i * 2) ++ [vI x.1, vI x.2] ++ cur6.toList.drop (i * 2 + [vI x.1, vI x.2].length)).toArray = cur7 at hCw29
    have scur7 : cur7.size = cur6.size := by rw [← ecur7, toL_size, app_len (by simp only [List.length_cons, List.length_nil, Array.length_toList]; omega), Array.length_toList]
    have hH30 : HP (Out [Go.Proofs.Ytmjnakhpekbenaa.Fw.Ent.cel g cur 83, Go.Proofs.Ytmjnakhpekbenaa.Fw.Ent.cel gb #[vI x.1, vI x.2] 83]) w _ [.cel g cur7 83, .cel gb #[vI x.1, vI x.2] 83] := hCw29
    refine WL.nil (WQ.then (hK28 _ _ _ (WC.seq fun K31 hK31 => WC.region ?_)))
    refine WL.z (v := vS g (n + 1) c) 83 ?_
    refine WL.z (v := vS g (n + 1) c) 6 ?_
    refine WL.nil (WQ.then (hK31 _ _ _ ?_))
    refine WC.sub (l' := [(0, vS g (n + 1) c), (1, vI (i : Int)), (2, vS gb 1 1), (6, vS g (n + 1) c), (7, vI 1), (8, vI (n : Int)), (16, .bool false), (22, .bool false), (31, .bool false), (68, .bool true)]) ⟨rfl, rfl, rfl, rfl, rfl, rfl, rfl, rfl, rfl, rfl, trivial⟩ ?_
    refine WC.ret ?_
    refine WQ.thenRet ?_
    refine WQ.ret1 6 rfl rfl ?_
    refine ⟨g, c, cur7, rfl, HP.drop hH30 1, by omega, by omega, hm, ?_⟩
    rw [← ecur7, ← ecur6]
    rw [show (i + 1) * 2 = i * 2 + 2 by omega, show (n + 1) * 2 = i * 2 + 2 + ((cur.toList.drop (i * 2)).take ((n - i) * 2)).length by rw [hcs]; omega]
    exact ins_room rfl (by rw [Array.length_toList]; omega)
set_option maxRecDepth 20000 in
set_option maxHeartbeats 4000000 in
theorem insE_any (pv : Option Addr) (cp gb : Nat) (t : List T2) (x : T2) (w : World) (hB : OwnB w [rowT pv t.length cp t, Go.Proofs.Ytmjnakhpekbenaa.Fw.Ent.cel gb #[vI x.1, vI x.2] 83]) (hn : t.length ≤ 1000000) :
    Calls Try.prog 85 #[.slice pv t.length cp, vI (t.length : Int), vS gb 1 1] w fun e w' => ∃ pv' cp', e = .returned (.slice pv' (t.length + 1) cp') ∧ HP (Out [rowT pv t.length cp t, Go.Proofs.Ytmjnakhpekbenaa.Fw.Ent.cel gb #[vI x.1, vI x.2] 83]) w w' [.own (.slice pv' (t.length + 1) cp') (t.length + 1) (tL (t ++ [(x.1, x.2)])) 83 2] := by
  refine calls_of Try.func85 rfl (m := 95) rfl [(0, .slice pv t.length cp), (1, vI (t.length : Int)), (2, vS gb 1 1)] (Fr_enter [.slice pv t.length cp, vI (t.length : Int), vS gb 1 1] 95 (Nat.le_of_ble_eq_true rfl)) ?_
  refine WC.seq fun K1 hK1 => WC.region ?_
  refine WL.z (v := .slice none 0 0) 6 ?_
  refine WL.nil (WQ.then (hK1 _ _ _ (WC.seq fun K2 hK2 => WC.region ?_)))
  refine WL.z (v := .slice pv t.length cp) 10 ?_
  refine WL.z (v := vI (t.length : Int)) 11 ?_
  obtain ⟨hle, hcm, -⟩ := own_le (HP.get (HP.startB hB) 0 rfl)
  obtain ⟨v12, hv12⟩ := x_sliceAny (P := Try.prog) (s := 2) (a := pv) t.length w Try.underlying88 sz83 rfl (Nat.le_refl _) hle
  refine WL.y (v := v12) 12 (hv12 rfl rfl rfl) ?_
  refine WL.nil (WQ.then (hK2 _ _ _ (WC.seq fun K3 hK3 => WC.region ?_)))
  refine WL.z (v := vS gb 1 1) 13 ?_
  refine WL.z (v := vI 1) 14 ?_
  refine WL.z (v := vI 1) 7 ?_
  refine WL.nil (WQ.then (hK3 _ _ _ (WC.seq fun K4 hK4 => WC.seq fun K5 hK5 => WC.region ?_)))
  refine WL.z (v := vI 1) 15 ?_
  refine WL.y (v := .bool false) 16 (x_eql rfl rfl rfl (by decide)) ?_
  refine WL.nil (WQ.then (hK5 _ _ _ ?_))
  refine WC.sub (l' := [(0, .slice pv t.length cp), (1, vI (t.length : Int)), (2, vS gb 1 1), (6, .slice none 0 0), (7, vI 1), (16, .bool false)]) ⟨rfl, rfl, rfl, rfl, rfl, rfl, trivial⟩ ?_
  refine WC.no rfl (WC.skip (WQ.then (hK4 _ _ _ (WC.seq fun K6 hK6 => WC.region ?_))))
  refine WL.z (v := .slice pv t.length cp) 18 ?_
  refine WL.z (v := vI (t.length : Int)) 19 ?_
  refine WL.z (v := vI (t.length : Int)) 8 ?_
  refine WL.nil (WQ.then (hK6 _ _ _ (WC.seq fun K7 hK7 => WC.seq fun K8 hK8 => WC.region ?_)))
  refine WL.z (v := vI (t.length : Int)) 20 ?_
  refine WL.z (v := vI (t.length : Int)) 21 ?_
  refine WL.y (v := .bool true) 22 (x_eql rfl rfl rfl (dT (rfl))) ?_
  refine WL.nil (WQ.then (hK8 _ _ _ (WC.yes rfl (WC.seq fun K9 hK9 => WC.region ?_))))
  refine WL.z (v := .slice pv t.length cp) 23 ?_
  refine WL.z (v := vS gb 1 1) 24 ?_
  obtain ⟨i0, hi0, hz0, hz1, hz2⟩ := infoT
  refine WL.append2 (news := [vI x.1, vI x.2]) 0 1 (HP.startB hB) 25 rfl (by decide) rfl rfl rfl rfl Try.underlying88 Try.underlying49 hi0 hz0 hz1 hz2 rfl (by decide) rfl rfl rfl rfl (by simp [Value.oneCell']) (by unfold maxLen; omega) (by omega) ?_
  rintro v7 w7 - hA7
  obtain ⟨pv7, cp7, rfl⟩ := own_row (HP.get hA7 0 rfl)
  have e7 : t.length + 1 = (t ++ [(x.1, x.2)]).length := (len1 _ _).symm
  rw [tL_push] at hA7
  have hH10 : HP (Out [rowT pv t.length cp t, Go.Proofs.Ytmjnakhpekbenaa.Fw.Ent.cel gb #[vI x.1, vI x.2] 83]) w _ [.own (.slice pv7 (t.length + 1) cp7) (t.length + 1) (tL (t ++ [(x.1, x.2)])) 83 2, .cel gb #[vI x.1, vI x.2] 83] := hA7
  refine WL.z (v := .slice pv7 (t.length + 1) cp7) 6 ?_
  refine WL.nil (WQ.then (hK9 _ _ _ ?_))
  refine WC.sub (l' := [(0, .slice pv t.length cp), (1, vI (t.length : Int)), (2, vS gb 1 1), (6, .slice pv7 (t.length + 1) cp7), (7, vI 1), (8, vI (t.length : Int)), (16, .bool false), (22, .bool true)]) ⟨rfl, rfl, rfl, rfl, rfl, rfl, rfl, rfl, trivial⟩ ?_
  refine WC.ret ?_
  refine WQ.thenRet ?_
  refine WQ.ret1 6 rfl rfl ?_
  exact ⟨pv7, cp7, rfl, HP.drop hH10 1⟩
theorem tL_take : ∀ (t : List T2) (i : Nat), (tL t).take (i * 2) = tL (t.take i)
  | [], i => by simp [tL]
  | p :: r, 0 => by simp [tL]
  | p :: r, i + 1 => by
    have h := tL_take r i
    rw [List.take_succ_cons, show (i + 1) * 2 = i * 2 + 1 + 1 by omega]
    show (vI p.1 :: vI p.2 :: tL r).take (i * 2 + 1 + 1) = vI p.1 :: vI p.2 :: tL (r.take i)
    rw [List.take_succ_cons, List.take_succ_cons, h]
theorem tL_drop : ∀ (t : List T2) (i : Nat), (tL t).drop (i * 2) = tL (t.drop i)
  | [], i => by simp [tL]
  | p :: r, 0 => by simp [tL]
  | p :: r, i + 1 => by
    have h := tL_drop r i
    rw [List.drop_succ_cons, show (i + 1) * 2 = i * 2 + 1 + 1 by omega]
    show (vI p.1 :: vI p.2 :: tL r).drop (i * 2 + 1 + 1) = tL (r.drop i)
    rw [List.drop_succ_cons, List.drop_succ_cons, h]
theorem tL_app (a c : List T2) : tL (a ++ c) = tL a ++ tL c := by simp [tL]
theorem insT_end (t : List T2) (x : T2) : insT t t.length x = t ++ [(x.1, x.2)] := by simp [insT]
/-- slices.Insert of one element -/
theorem Insert_any (pv : Option Addr) (cp gb i : Nat) (t : List T2) (x : T2) (w : World) (hB : OwnB w [rowT pv t.length cp t, Go.Proofs.Ytmjnakhpekbenaa.Fw.Ent.cel gb #[vI x.1, vI x.2] 83]) (hi : i ≤ t.length) (hn : t.length ≤ 1000000) :
    Calls Try.prog 85 #[.slice pv t.length cp, vI (i : Int), vS gb 1 1] w fun e w' => ∃ pv' cp', e = .returned (.slice pv' (insT t i x).length cp') ∧ HP (Out [rowT pv t.length cp t, Go.Proofs.Ytmjnakhpekbenaa.Fw.Ent.cel gb #[vI x.1, vI x.2] 83]) w w' [rowT pv' (insT t i x).length cp' (insT t i x)] := by
  rw [insT_len hi]
  by_cases he : i = t.length
  · subst he
    rw [insT_end]
    exact insE_any pv cp gb t x w hB hn
  · have h0 := HP.startB hB
    obtain ⟨hle, hcm, hpv⟩ := own_le (HP.get h0 0 rfl)
    obtain ⟨g, rfl⟩ : ∃ g, pv = some ⟨g, 0, none⟩ := by rcases hpv with h | h; omega; exact h
    obtain ⟨cur, hC, hnc, hcm, hcs, htk⟩ := HP.ownToCel h0 0 rfl
    have hne : gb ≠ g := fun e => (List.pairwise_cons.1 hB.2).1 (.cel gb #[vI x.1, vI x.2] 83) (by simp) g rfl (by rw [e]; rfl)
    have hB2 : OwnB w [Go.Proofs.Ytmjnakhpekbenaa.Fw.Ent.cel g cur 83, Go.Proofs.Ytmjnakhpekbenaa.Fw.Ent.cel gb #[vI x.1, vI x.2] 83] := HP.ownB (A := []) hC
    refine (insC_any g gb t.length cp i cur x w hB2 hcs (fun v hv => ?_) hne hnc hcm (by omega) hn).mono fun e w' h => ?_
    · rw [htk] at hv; exact tL_one t v hv
    · obtain ⟨g', c', cur', rfl, h1, h2, h3, h4, h5⟩ := h
      refine ⟨_, _, rfl, ?_⟩
      have e5 : cur'.toList.take ((t.length + 1) * 2) = tL (insT t i x) := by
        rw [h5]
        have e1 : cur.toList.take (i * 2) = tL (t.take i) := by
          rw [← tL_take, ← htk, List.take_take, Nat.min_eq_left (by omega)]
        have e2 : (cur.toList.drop (i * 2)).take ((t.length - i) * 2) = tL (t.drop i) := by
          rw [← tL_drop, ← htk, List.drop_take]
          congr 1; omega
        rw [e1, e2]; unfold insT; rw [tL_app]; simp [tL]
      have h6 := HP.celToOwn h1 0 (k := t.length + 1) (cap := c') (s := 2) rfl h3 h4 h2
      rw [e5] at h6
      refine HP.monoS h6 fun b hb e he' => ?_
      rcases List.mem_cons.1 he' with rfl | he'
      · exact hb (rowT (some ⟨g, 0, none⟩) t.length cp t) (by simp)
      · exact hb e (List.mem_cons_of_mem _ he')
theorem src_T {w : World} {a : Addr} {t : List T2} (h : InT w (some a) t) : ∀ q u, (tL t)[q]? = some u → w.cell? (a.add q) = some u := fun q u hq => by
  have hlt := (List.getElem?_eq_some_iff.1 hq).1
  rw [tL_len] at hlt
  obtain ⟨g, o, e, hr⟩ := h (by omega)
  cases e
  rw [hadd]
  have h2 := tL_at (t := t) (i := q / 2) (by omega)
  have h3 := hr (q / 2) (by omega)
  rcases Nat.mod_two_eq_zero_or_one q with h | h
  · have e : q / 2 * 2 = q := by omega
    rw [e] at h2 h3
    rw [h2.1] at hq
    exact h3 0 u (by simpa using hq)
  · have e : q / 2 * 2 + 1 = q := by omega
    rw [e] at h2
    rw [h2.2] at hq
    have h4 := h3 1 u (by simpa using hq)
    rwa [show o + q / 2 * 2 + 1 = o + q by omega] at h4
set_option maxRecDepth 20000 in
set_option maxHeartbeats 4000000 in
theorem CloneT_any (p : Option Addr) (t : List T2) (cp : Nat) (w : World) (hT : InT w p t) (hn : t.length ≤ 100000) :
    Calls Try.prog 84 #[.slice p t.length cp] w fun e w' => ∃ pv cp', e = .returned (.slice pv t.length cp') ∧ HP Tr w w' [rowT pv t.length cp' t] := by
  refine calls_of Try.func84 rfl (m := 8) rfl [(0, .slice p t.length cp)] (Fr_enter [.slice p t.length cp] 8 (Nat.le_of_ble_eq_true rfl)) ?_
  have hH1 : HP Tr w w [] := HP.refl w
  cases p with
  | none =>
    refine WC.seq fun K2 hK2 => WC.region ?_
    refine WL.z (v := .slice none 0 0) 2 ?_
    refine WL.nil (WQ.then (hK2 _ _ _ (WC.seq fun K3 hK3 => WC.seq fun K4 hK4 => WC.region ?_)))
    refine WL.z (v := .slice none t.length cp) 3 ?_
    refine WL.y (v := .bool true) 4 (x_eqlNil rfl rfl rfl Try.underlying88 (by kernel_rfl) rfl) ?_
    refine WL.nil (WQ.then (hK4 _ _ _ (WC.yes rfl (WC.seq fun K5 hK5 => WC.region ?_))))
    refine WL.z (v := .slice none 0 0) 2 ?_
    refine WL.nil (WQ.then (hK5 _ _ _ (WC.ret ?_)))
    refine WQ.thenRet ?_
    refine WQ.ret1 2 rfl rfl ?_
    obtain rfl : t = [] := by cases t with | nil => rfl | cons q r => obtain ⟨g, o, e, _⟩ := hT (by simp); cases e
    exact ⟨none, 0, rfl, HP.ownNil hH1 83 2⟩
  | some a =>
    refine WC.seq fun K6 hK6 => WC.region ?_
    refine WL.z (v := .slice none 0 0) 2 ?_
    refine WL.nil (WQ.then (hK6 _ _ _ (WC.seq fun K7 hK7 => WC.seq fun K8 hK8 => WC.region ?_)))
    refine WL.z (v := .slice (some a) t.length cp) 3 ?_
    refine WL.y (v := .bool false) 4 (x_eqlNil rfl rfl rfl Try.underlying88 (by kernel_rfl) rfl) ?_
    refine WL.nil (WQ.then (hK8 _ _ _ (WC.no rfl (WC.skip (WQ.then (hK7 _ _ _ (WC.seq fun K9 hK9 => ?_)))))))
    refine WC.region ?_
    refine WL.alloc (c := #[]) (T := 83) hH1 5 rfl (by decide) rfl rfl (fun b5 => vS b5 0 0) (by kernel_rfl) (fun b5 w10 hw10 => ?_)
    have hH11 : HP Tr w w10 [.cel b5 #[] 83] := hw10.2
    have nb5 := hw10.1
    clear hw10
    refine WL.z (v := .slice (some a) t.length cp) 6 ?_
    have hO9 := HP.celToOwn hH11 0 (k := 0) (cap := 0) (s := 2) rfl (Nat.le_refl _) (by decide) rfl
    have hH12 : HP Tr w _ [rowT (some ⟨b5, 0, none⟩) ([] : List T2).length 0 ([] : List T2)] := HP.eq hO9 rfl
    obtain ⟨i0, hi0, hz0, hz1, hz2⟩ := infoT
    refine WL.appendSrc (tL t) 0 hH12 7 rfl (by decide) rfl rfl rfl rfl Try.underlying88 hi0 hz0 hz1 hz2 rfl (by decide) rfl (.inl ⟨a, rfl, src_T (hT.below (HP.below hH12))⟩) (tL_len t) (tL_one t) (by unfold maxLen; simp only [List.length_nil]; omega) (by simp only [List.length_nil]; omega) ?_
    rintro v7 w7 - hA7
    obtain ⟨pv7, cp7, rfl⟩ := own_row (HP.get hA7 0 rfl)
    rw [show ([] : List T2).length + t.length = t.length from Nat.zero_add _, show tL ([] : List T2) ++ tL t = tL t from rfl] at hA7
    rw [show ([] : List T2).length + t.length = t.length from Nat.zero_add _]
    have hH13 : HP Tr w _ [rowT pv7 t.length cp7 t] := hA7
    refine WL.z (v := .slice pv7 t.length cp7) 2 ?_
    refine WL.nil (WQ.then (hK9 _ _ _ (WC.ret ?_)))
    refine WQ.ret1 2 rfl rfl ?_
    exact ⟨pv7, cp7, rfl, hH13⟩
end Ca
end Go.Proofs.Ytmjnakhpekbenaa
