/- What the proof of CacheTables stands on, part 2 of 5. -/
import Derived.CallsIn
import Derived.ChangeKeysEq
import Derived.ChangeSlices
import Derived.Deep.LoopGhost
import Derived.Deep.MidRow
import Derived.Great.BuildSlice
import Derived.Ground.Names2Prog
import Derived.Ground.SlgnProg
import Derived.Ground.SlsfProg
import Derived.Handy
import Derived.KernelRfl
import Derived.Laws.AppendOwn
import Derived.Laws.AppendOwnNone
import Derived.Laws.CopyRow
import Derived.Laws.MakeOwn
import Derived.Laws.Rows
import Derived.Laws.StructEq
import Derived.Lib.QuietBelow
import Derived.Lib.SliceRun
import Derived.Orders
import Derived.OrdersIn
import Derived.RangeFuncFrom
import Derived.RangeFuncLeaves
import Derived.RangeFuncWrites
import Derived.Shelf.SlSortCmp.HeapSortK
import Derived.Shelf.SlSortCmp.InsertionK
import Derived.Shelf.SlSortCmp.MedianK
import Derived.Shelf.SlSortCmp.NoneTotal
import Derived.Shelf.SlSortCmp.PartialInsertionK
import Derived.Shelf.SlSortCmp.PartitionEqualK
import Derived.Shelf.SlSortCmp.PartitionK
import Derived.Shelf.SlSortCmp.PdqK
import Derived.Shelf.SlSortCmp.PivotK
import Derived.Shelf.SlSortCmp.ReverseRangeK
import Derived.Shelf.SlSortCmp.SiftDownK
import Derived.Shelf.Slices.Cells
import Derived.Shelf.Slices.Clone
import Derived.Shelf.Slices.Delete
import Derived.Shelf.Slices.Empties
import Derived.Shelf.Slices.SearchI
import Derived.Shelf.Slices.Turned
import Derived.Shelf.SlicesE.Clone
import Derived.Shelf.SlicesE.Delete
import Derived.Shelf.SlicesQ.Reverse
import Derived.Shelf.Small.Bits
import Derived.Shelf.Small.Wraps
import Derived.Shelf.Strconv.Itoa0
import Derived.Sort.AssemblyPlain
import Derived.Still
import Derived.StillTail
import Derived.TacticsIn
import Derived.Test.YtmjnakhpekbenaaProg
import Derived.WalkKit
import Derived.WalkLawsBesides
import Derived.Test.YtmjnakhpekbenaaCacheTablesA
set_option linter.unusedVariables false
set_option linter.unusedSimpArgs false
namespace Go.Proofs.Ytmjnakhpekbenaa
open Go.RowKit Fw
namespace Ca
/-- is the entry one of the line's set, and another line? -/
def inS (s x : Int) (p : T2) : Bool := decide (p.1 ≠ x) && decide (p.1.tmod s = x.tmod s)
/-- an entry whose age is a number -/
abbrev TV := { q : T2 // -1000 ≤ q.2 ∧ q.2 ≤ 1000 }
def osA (s x : Int) (t : List TV) : List TV := t.filter fun q => inS s x q.1
theorem os_take {s x : Int} {t : List TV} {i : Nat} {xa : TV} (h : t[i]? = some xa) : osA s x (t.take (i + 1)) = osA s x (t.take i) ++ (if inS s x xa.1 = true then [xa] else []) := by
  unfold osA
  rw [List.take_add_one, List.filter_append, h]
  simp [List.filter_cons]
/-- what the iterator reads: the boxes, the table -/
structure Rd (n0 : Nat) (W : World) (b3 b4 b5 : Nat) (p : Option Addr) (t : List T2) (cp : Nat) (s x : Int) : Prop where
  h3 : W.heap[b3]? = some (.cells #[.slice p t.length cp] 88 (0, 0))
  h4 : W.heap[b4]? = some (.cells #[vI s] 3 (0, 0))
  h5 : W.heap[b5]? = some (.cells #[vI x] 3 (0, 0))
  ht : 0 < t.length → ∃ g o, p = some ⟨g, o, none⟩ ∧ g < n0 ∧ ∀ i, i < t.length → W.rangeAt g (o + i * 2) [vI (lnT t i), vI (agT t i)]
theorem rangeAt_heap {W W' : World} {g o : Nat} {cs : List Value} (h : W'.heap[g]? = W.heap[g]?) (hr : W.rangeAt g o cs) : W'.rangeAt g o cs := fun j v hv => by
  have := hr j v hv
  unfold World.cell? at this ⊢
  rw [h]; exact this
theorem Rd.keep {n0 : Nat} {W W' : World} {b3 b4 b5 : Nat} {p : Option Addr} {t : List T2} {cp : Nat} {s x : Int} (h : Rd n0 W b3 b4 b5 p t cp s x) (hk : Fi.KpB n0 [b3, b4, b5] W W') : Rd n0 W' b3 b4 b5 p t cp s x :=
  ⟨(hk.2 b3 (by simp)).trans h.h3, (hk.2 b4 (by simp)).trans h.h4, (hk.2 b5 (by simp)).trans h.h5, fun h0 => by
    obtain ⟨g, o, hp, hg, hr⟩ := h.ht h0
    exact ⟨g, o, hp, hg, fun i hi => rangeAt_heap (hk.1 g hg) (hr i hi)⟩⟩
theorem Rd.below {n0 : Nat} {W W' : World} {b3 b4 b5 : Nat} {p : Option Addr} {t : List T2} {cp : Nat} {s x : Int} (h : Rd n0 W b3 b4 b5 p t cp s x) (hb : Below W.heap.size W W') : Rd n0 W' b3 b4 b5 p t cp s x := by
  have lt : ∀ {b o}, W.heap[b]? = some o → b < W.heap.size := fun h => (Array.getElem?_eq_some_iff.1 h).1
  exact ⟨(hb.block _ (lt h.h3)).trans h.h3, (hb.block _ (lt h.h4)).trans h.h4, (hb.block _ (lt h.h5)).trans h.h5, fun h0 => by
    obtain ⟨g, o, hp, hg, hr⟩ := h.ht h0
    exact ⟨g, o, hp, hg, fun i hi => HP.oldRange (HP.of_below (S := Tr) hb) trivial (hr i hi)⟩⟩
theorem Rd.cell {n0 : Nat} {W : World} {b3 b4 b5 : Nat} {p : Option Addr} {t : List T2} {cp : Nat} {s x : Int} (h : Rd n0 W b3 b4 b5 p t cp s x) : W.cell? ⟨b3, 0, none⟩ = some (.slice p t.length cp) ∧ W.cell? ⟨b4, 0, none⟩ = some (vI s) ∧ W.cell? ⟨b5, 0, none⟩ = some (vI x) := by
  refine ⟨?_, ?_, ?_⟩ <;> simp [World.cell?, h.h3, h.h4, h.h5]
theorem grown_hp {w w' : World} {H : List Ent} (h : HP Tr w w' H) : w.grownBy w' none := ⟨h.os, h.tape, h.output, h.size, fun k hk _ => h.keep k hk trivial⟩
/-- the table is in the world where the call began -/
theorem others_any (p : Option Addr) (t : List T2) (cp : Nat) (s x : Int) (w : World) : Calls Try.prog 97 #[.slice p t.length cp, vI s, vI x] w fun e w' => ∃ b3 b4 b5, e = .returned (.func (.func 111) #[] #[vP b3 0, vP b5 0, vP b4 0]) ∧ HP Tr w w' [.cel b3 #[.slice p t.length cp] 88, .cel b4 #[vI s] 3, .cel b5 #[vI x] 3] := by
  refine calls_of Try.func97 rfl (m := 8) rfl [(0, .slice p t.length cp), (1, vI s), (2, vI x)] (Fr_enter [.slice p t.length cp, vI s, vI x] 8 (Nat.le_of_ble_eq_true rfl)) ?_
  have hH1 : HP Tr w w [] := HP.refl w
  refine WC.seq fun K2 hK2 => WC.region ?_
  refine WL.alloc (c := #[.slice p t.length cp]) (T := 88) hH1 3 rfl (by decide) rfl rfl (fun b3 => vP b3 0) (by kernel_rfl) (fun b3 w3 hw3 => ?_)
  have hH4 : HP Tr w w3 [.cel b3 #[.slice p t.length cp] 88] := hw3.2
  have nb3 := hw3.1
  clear hw3
  refine WL.alloc (c := #[vI s]) (T := 3) hH4 4 rfl (by decide) rfl rfl (fun b4 => vP b4 0) (by kernel_rfl) (fun b4 w5 hw5 => ?_)
  have hH6 : HP Tr w w5 [.cel b3 #[.slice p t.length cp] 88, .cel b4 #[vI s] 3] := hw5.2
  have nb4 := hw5.1
  clear hw5
  refine WL.alloc (c := #[vI x]) (T := 3) hH6 5 rfl (by decide) rfl rfl (fun b5 => vP b5 0) (by kernel_rfl) (fun b5 w7 hw7 => ?_)
  have hH8 : HP Tr w w7 [.cel b3 #[.slice p t.length cp] 88, .cel b4 #[vI s] 3, .cel b5 #[vI x] 3] := hw7.2
  have nb5 := hw7.1
  clear hw7
  refine WL.z (v := .nilFunc) 6 ?_
  refine WL.nil (WQ.then (hK2 _ _ _ (WC.seq fun K9 hK9 => WC.region ?_)))
  refine WL.z (v := .func (.func 111) #[] #[vP b3 0, vP b5 0, vP b4 0]) 7 ?_
  refine WL.z (v := .func (.func 111) #[] #[vP b3 0, vP b5 0, vP b4 0]) 6 ?_
  refine WL.nil (WQ.then (hK9 _ _ _ (WC.ret ?_)))
  refine WQ.ret1 6 rfl rfl ?_
  exact ⟨b3, b4, b5, rfl, hH8⟩

theorem os_pre {s x : Int} {t : List TV} {i : Nat} : osA s x (t.take i) <+: osA s x t := by
  have h := List.take_append_drop i t
  refine ⟨osA s x (t.drop i), ?_⟩
  unfold osA
  rw [← List.filter_append, h]
theorem ln_ta {ta : List TV} {t : List T2} (h : t = ta.map (·.1)) {i : Nat} {xa : TV} (hx : ta[i]? = some xa) : xa.1.1 = lnT t i ∧ xa.1.2 = agT t i := by
  subst h; simp [lnT, agT, List.getD_eq_getElem?_getD, hx]
theorem yield_op {P : Program} {ρ : Operand → Value} {o : Oper} {W : World} {l : Nat} {u v : Value} {x y z : Operand} {at' : Array TypeId} {fn : FuncId} {tmps : Array Value} {assign body : Code} (hy : (Instr.yield l #[u, v]).run P W = .ok (.round l fn tmps assign body) W)
    (ho : o.op = .call { callee := .value z, args := #[x, y], argTypes := at' }) (hz : ρ z = .func (.yield l) #[] #[] := by rfl) (hx : ρ x = u := by rfl) (hy2 : ρ y = v := by rfl) : (execOp ρ o).run P W = .ok (.round l fn tmps assign body) W := by
  unfold execOp; rw [ho]
  simp [resolve, invoke, Deferred.ofValue, hz, hx, hy2, hy]
set_option maxRecDepth 20000 in
set_option maxHeartbeats 4000000 in
theorem others_stops (n0 : Nat) (wl : World) (b3 b4 b5 : Nat) (p : Option Addr) (ta : List TV) (t : List T2) (ht9 : t = ta.map (·.1)) (cp : Nat) (s x : Int) (hs0 : s ≠ 0) (hn : t.length ≤ 281474976710656) (hn0 : n0 ≤ wl.heap.size) (hRd9 : Rd n0 wl b3 b4 b5 p t cp s x) :
    SeqStopsK (Fi.fen none) 4 Try.prog 111 #[vP b3 0, vP b5 0, vP b4 0] (fun q : TV => #[vI q.1.1, vI q.1.2]) (Fi.KpB n0 [b3, b4, b5]) (fun xs => xs = osA s x ta) (fun pre => pre <+: osA s x ta) (osA s x ta).length wl := by
  intro ll J Jx W hbw hJ hJx hY h0
  have hl9 : t.length = ta.length := by rw [ht9]; simp
  have hRd0 : Rd n0 W b3 b4 b5 p t cp s x := hRd9.below hbw
  open Fi in
  have hcells := hRd0.cell
  refine callsIn_ofX Try.func111 rfl (m := 37) rfl [(0, .func (.yield ll) #[] #[]), (1, vP b3 0), (2, vP b5 0), (3, vP b4 0)] (Fr_enter [.func (.yield ll) #[] #[], vP b3 0, vP b5 0, vP b4 0] 37 (Nat.le_of_ble_eq_true rfl)) ?_
  have hH1 : HP Tr W W [] := HP.refl W
  have hH2 : HP Tr W _ [] := HP.refl W
  refine XC.seq fun K3 hK3 => ?_
  refine XC.region ?_
  refine XL.pure (v := .slice p t.length cp) 7 rfl (Nat.le_of_ble_eq_true rfl) rfl rfl (x_load rfl rfl Try.underlying88 rfl (HP.old hH2 trivial hcells.1)) ?_
  refine XL.pure (v := vI (t.length : Int)) 8 rfl (Nat.le_of_ble_eq_true rfl) rfl rfl (by kernel_rfl) ?_
  refine XL.pure (v := vI 0) 9 rfl (Nat.le_of_ble_eq_true rfl) rfl rfl (by kernel_rfl) ?_
  refine XL.nil ?_
  refine XQ.then ?_
  refine hK3 _ _ _ _ ?_
  refine XC.block ?_
  refine XC.loop (fun kk0 ll0 ww0 => ∃ (i : Nat), ll0 = [(0, .func (.yield ll) #[] #[]), (1, vP b3 0), (2, vP b5 0), (3, vP b4 0), (7, .slice p t.length cp), (8, vI (t.length : Int)), (9, vI (i : Int))] ∧ kk0 = t.length - i ∧ (i ≤ t.length) ∧ (J (osA s x (ta.take i)) ww0) ∧ (Rd n0 ww0 b3 b4 b5 p t cp s x) ∧ HP Tr ww0 ww0 []) (t.length) [(0, .func (.yield ll) #[] #[]), (1, vP b3 0), (2, vP b5 0), (3, vP b4 0), (7, .slice p t.length cp), (8, vI (t.length : Int)), (9, vI 0)] ⟨rfl, rfl, rfl, rfl, rfl, rfl, rfl, trivial⟩ ⟨0, rfl, rfl, Nat.zero_le _, h0, hRd0, HP.refl _⟩ ?_
  rintro kk l w5 ⟨i, rfl, hkk, hi, hJp, hRd, hH6⟩ K4 hK4
  have hH7 : HP Tr w5 w5 [] := HP.refl w5
  have hcells := hRd.cell
  refine XC.seq fun K8 hK8 => ?_
  refine XC.region ?_
  by_cases hlt : (i : Int) < (t.length : Int)
  ·
    refine XL.pure (v := .bool true) 10 rfl (Nat.le_of_ble_eq_true rfl) rfl rfl (x_lss rfl rfl rfl (dT (hlt))) ?_
    refine XL.nil ?_
    refine XQ.then ?_
    refine hK8 _ _ _ _ ?_
    refine XC.seq fun K9 hK9 => ?_
    refine XC.yes rfl ?_
    refine XC.skip ?_
    refine XQ.then ?_
    refine hK9 _ _ _ _ ?_
    refine XC.seq fun K10 hK10 => ?_
    refine XC.block ?_
    refine XC.seq fun K11 hK11 => ?_
    obtain ⟨g, o, rfl, hg0, hrow⟩ := hRd.ht (by omega)
    obtain ⟨xa, hxa⟩ : ∃ xa, ta[i]? = some xa := ⟨ta[i]'(by rw [← hl9]; omega), List.getElem?_eq_getElem _⟩
    obtain ⟨hxa1, hxa2⟩ := ln_ta ht9 hxa
    have htk := os_take (s := s) (x := x) hxa
    refine XC.region ?_
    refine XL.pure (v := vP g (o + i * 2)) 11 rfl (Nat.le_of_ble_eq_true rfl) rfl rfl (x_idx (i) (o + i * 2) rfl rfl rfl Try.underlying88 sz83 (by omega) (by omega) (by omega)) ?_
    refine XL.pure (v := .agg #[vI (lnT t i), vI (agT t i)]) 12 rfl (Nat.le_of_ble_eq_true rfl) rfl rfl (x_loadS (cs := [vI (lnT t i), vI (agT t i)]) rfl rfl Try.underlying83 rfl sz83 (HP.oldRange hH7 trivial (hrow i (by omega)))) ?_
    refine XL.alloc (c := #[vI 0, vI 0]) (T := 83) hH7 6 rfl (by decide) rfl rfl (fun b6 => vP b6 0) (by kernel_rfl) (fun b6 w12 hw12 => ?_)
    have hH13 : HP Tr w5 w12 [.cel b6 #[vI 0, vI 0] 83] := hw12.2
    have nb6 := hw12.1
    clear hw12
    refine XL.storeS (H2 := [.cel b6 #[vI (lnT t i), vI (agT t i)] 83]) 0 hH13 rfl rfl rfl rfl rfl rfl sz83 rfl (Nat.le_of_ble_eq_true rfl) rfl rfl ?_
    intro w14 hH15
    refine XL.nil ?_
    refine XQ.then ?_
    refine hK11 _ _ _ _ ?_
    refine XC.seq fun K16 hK16 => ?_
    by_cases hx1 : lnT t i = x
    ·
      have hin : inS s x xa.1 = false := by unfold inS; rw [hxa1]; simp [hx1]
      rw [hin] at htk
      simp only [if_true, Bool.false_eq_true, if_false, List.append_nil] at htk
      refine XC.confH (γ := Unit) [(6, vP b6 0), (12, .agg #[vI (lnT t i), vI (agT t i)]), (11, vP g (o + i * 2)), (10, .bool true), (0, .func (.yield ll) #[] #[]), (1, vP b3 0), (2, vP b5 0), (3, vP b4 0), (7, .slice (some ⟨g, o, none⟩) t.length cp), (8, vI (t.length : Int)), (9, vI (i : Int))] (fun gy => [vP b6 0, vI (lnT t i), vI x, .bool false, .bool false, undef, undef, undef, undef, undef, undef, undef, undef, .bool false, .bool false, undef, undef, undef, undef, undef, undef, undef, .bool false]) (fun gy D wz => HP Tr w5 wz [.cel b6 #[vI (lnT t i), vI (agT t i)] 83]) () (by kernel_rfl) ⟨rfl, rfl, rfl, rfl, rfl, rfl, rfl, rfl, rfl, rfl, rfl, trivial⟩ (by kernel_rfl) (by kernel_rfl) (by kernel_rfl) (fun _ => rfl) (by kernel_rfl) (HP.drew hH15) ?_ ?_
      · refine AllOkX.cons ?o0 (AllOkX.cons ?o1 (AllOkX.cons ?o2 (AllOkX.cons ?o3 (AllOkX.cons ?o4 (AllOkX.cons ?o5 (AllOkX.cons ?o6 (AllOkX.cons ?o7 (AllOkX.cons ?o8 (AllOkX.cons ?o9 (AllOkX.cons ?o10 (AllOkX.cons ?o11 (AllOkX.cons ?o12 (AllOkX.cons ?o13 (AllOkX.cons ?o14 (AllOkX.cons ?o15 (AllOkX.cons ?o16 (AllOkX.cons ?o17 (AllOkX.cons ?o18 (AllOkX.cons ?o19 (AllOkX.cons ?o20 (AllOkX.cons ?o21 (AllOkX.cons ?o22 (AllOkX.nil _)))))))))))))))))))))))
        case o0 =>
          intro gy D wz hDi hdep hclo hW
          exact .inl ⟨rfl, rfl, .inl ⟨gy, wz, fun _ _ => rfl, x_idxArr (0) (0) rfl rfl rfl Try.underlying83 sz3 (by omega) (by omega) (by omega), hW⟩⟩
        case o1 =>
          intro gy D wz hDi hdep hclo hW
          exact .inl ⟨rfl, rfl, .inl ⟨gy, wz, fun _ _ => rfl, x_load rfl rfl Try.underlying3 rfl (HP.cell hW 0 rfl rfl), hW⟩⟩
        case o2 =>
          intro gy D wz hDi hdep hclo hW
          exact .inl ⟨rfl, rfl, .inl ⟨gy, wz, fun _ _ => rfl, x_load rfl rfl Try.underlying3 rfl (HP.old hW trivial hcells.2.2), hW⟩⟩
        case o3 =>
          intro gy D wz hDi hdep hclo hW
          exact .inl ⟨rfl, rfl, .inl ⟨gy, wz, fun _ _ => rfl, x_neq rfl rfl rfl (dF (fun h => h hx1)), hW⟩⟩
        case o4 =>
          intro gy D wz hDi hdep hclo hW
          exact .inl ⟨rfl, rfl, .inl ⟨gy, wz, fun _ _ => rfl, by kernel_rfl, hW⟩⟩
        case o5 =>
          intro gy D wz hDi hdep hclo hW
          exact .inr ⟨rfl, rfl, hW⟩
        case o6 =>
          intro gy D wz hDi hdep hclo hW
          exact .inr ⟨rfl, rfl, hW⟩
        case o7 =>
          intro gy D wz hDi hdep hclo hW
          exact .inr ⟨rfl, rfl, hW⟩
        case o8 =>
          intro gy D wz hDi hdep hclo hW
          exact .inr ⟨rfl, rfl, hW⟩
        case o9 =>
          intro gy D wz hDi hdep hclo hW
          exact .inr ⟨rfl, rfl, hW⟩
        case o10 =>
          intro gy D wz hDi hdep hclo hW
          exact .inr ⟨rfl, rfl, hW⟩
        case o11 =>
          intro gy D wz hDi hdep hclo hW
          exact .inr ⟨rfl, rfl, hW⟩
        case o12 =>
          intro gy D wz hDi hdep hclo hW
          exact .inr ⟨rfl, rfl, hW⟩
        case o13 =>
          intro gy D wz hDi hdep hclo hW
          exact .inl ⟨rfl, rfl, .inl ⟨gy, wz, fun _ _ => rfl, by kernel_rfl, hW⟩⟩
        case o14 =>
          intro gy D wz hDi hdep hclo hW
          exact .inl ⟨rfl, rfl, .inl ⟨gy, wz, fun _ _ => rfl, by kernel_rfl, hW⟩⟩
        case o15 =>
          intro gy D wz hDi hdep hclo hW
          exact .inr ⟨rfl, rfl, hW⟩
        case o16 =>
          intro gy D wz hDi hdep hclo hW
          exact .inr ⟨rfl, rfl, hW⟩
        case o17 =>
          intro gy D wz hDi hdep hclo hW
          exact .inr ⟨rfl, rfl, hW⟩
        case o18 =>
          intro gy D wz hDi hdep hclo hW
          exact .inr ⟨rfl, rfl, hW⟩
        case o19 =>
          intro gy D wz hDi hdep hclo hW
          exact .inr ⟨rfl, rfl, hW⟩
        case o20 =>
          intro gy D wz hDi hdep hclo hW
          exact .inr ⟨rfl, rfl, hW⟩
        case o21 =>
          intro gy D wz hDi hdep hclo hW
          exact .inr ⟨rfl, rfl, hW⟩
        case o22 =>
          intro gy D wz hDi hdep hclo hW
          exact .inl ⟨rfl, rfl, .inl ⟨gy, wz, fun _ _ => rfl, by kernel_rfl, hW⟩⟩
      rintro gy D w17 hall hH18
      clear hall
      refine XQ.sub (l' := [(0, .func (.yield ll) #[] #[]), (1, vP b3 0), (2, vP b5 0), (3, vP b4 0), (6, vP b6 0), (7, .slice (some ⟨g, o, none⟩) t.length cp), (8, vI (t.length : Int)), (9, vI (i : Int)), (10, .bool true), (35, .bool false)]) ⟨rfl, rfl, rfl, rfl, rfl, rfl, rfl, rfl, rfl, rfl, trivial⟩ ?_
      refine XQ.then ?_
      refine hK16 _ _ _ _ ?_
      refine XC.no rfl ?_
      refine XC.skip ?_
      refine XQ.inNormal ?_
      refine XQ.then ?_
      refine hK10 _ _ _ _ ?_
      refine XC.region ?_
      refine XL.pure (v := vI ((i + 1 : Nat) : Int)) 36 rfl (Nat.le_of_ble_eq_true rfl) rfl rfl (x_add (Z := ((i + 1 : Nat) : Int)) rfl rfl rfl (by omega) (by omega) (by omega)) ?_
      refine XL.pure (v := vI ((i + 1 : Nat) : Int)) 9 rfl (Nat.le_of_ble_eq_true rfl) rfl rfl (by kernel_rfl) ?_
      refine XL.nil ?_
      refine XQ.sub (l' := [(0, .func (.yield ll) #[] #[]), (1, vP b3 0), (2, vP b5 0), (3, vP b4 0), (7, .slice (some ⟨g, o, none⟩) t.length cp), (8, vI (t.length : Int)), (9, vI ((i + 1 : Nat) : Int))]) ⟨rfl, rfl, rfl, rfl, rfl, rfl, rfl, trivial⟩ ?_
      refine XQ.then (hK4 _ _ _ (by omega) ⟨i + 1, rfl, rfl, by omega, by rw [htk]; exact hJ _ _ _ none hJp (grown_hp hH18) (fun r e => by cases e), hRd.below (HP.below hH18), HP.refl _⟩)
    ·
      by_cases hx2 : (lnT t i).tmod s = x.tmod s
      ·
        have hin : inS s x xa.1 = true := by unfold inS; rw [hxa1]; simp [hx1, hx2]
        rw [hin] at htk
        simp only [if_true, Bool.false_eq_true, if_false, List.append_nil] at htk
        have hlen : (osA s x (ta.take i)).length < (osA s x ta).length := by have q9 := (os_pre (s := s) (x := x) (t := ta) (i := i + 1)).length_le; rw [htk] at q9; simp at q9; omega
        refine XC.confH (γ := Bool) [(6, vP b6 0), (12, .agg #[vI (lnT t i), vI (agT t i)]), (11, vP g (o + i * 2)), (10, .bool true), (0, .func (.yield ll) #[] #[]), (1, vP b3 0), (2, vP b5 0), (3, vP b4 0), (7, .slice (some ⟨g, o, none⟩) t.length cp), (8, vI (t.length : Int)), (9, vI (i : Int))] (fun gy => [vP b6 0, vI (lnT t i), vI x, .bool true, .bool true, vP b6 0, vI (lnT t i), vI s, vI ((lnT t i).tmod s), vI x, vI s, vI ((x).tmod s), .bool true, .bool true, .bool true, .func (.yield ll) #[] #[], vP b6 0, vI (lnT t i), vP b6 1, vI (agT t i), .bool gy, .bool (!gy), .bool (!gy)]) (fun gy D wz => (D 20 = false → (HP Tr w5 wz [.cel b6 #[vI (lnT t i), vI (agT t i)] 83] ∧ J (osA s x (ta.take i)) wz)) ∧ (D 20 = true → ((gy = true ∧ J (osA s x (ta.take i) ++ [xa]) wz ∧ Rd n0 wz b3 b4 b5 (some ⟨g, o, none⟩) t cp s x) ∨ (gy = false ∧ Jx (osA s x (ta.take i) ++ [xa]) wz)))) false (by kernel_rfl) ⟨rfl, rfl, rfl, rfl, rfl, rfl, rfl, rfl, rfl, rfl, rfl, trivial⟩ (by kernel_rfl) (by kernel_rfl) (by kernel_rfl) (fun _ => rfl) (by kernel_rfl) ⟨fun _ => ⟨HP.drew hH15, hJ _ _ _ none hJp (grown_hp (HP.drew hH15)) (fun r e => by cases e)⟩, (fun h => by cases h)⟩ ?_ ?_
        · refine AllOkX.cons ?o0 (AllOkX.cons ?o1 (AllOkX.cons ?o2 (AllOkX.cons ?o3 (AllOkX.cons ?o4 (AllOkX.cons ?o5 (AllOkX.cons ?o6 (AllOkX.cons ?o7 (AllOkX.cons ?o8 (AllOkX.cons ?o9 (AllOkX.cons ?o10 (AllOkX.cons ?o11 (AllOkX.cons ?o12 (AllOkX.cons ?o13 (AllOkX.cons ?o14 (AllOkX.cons ?o15 (AllOkX.cons ?o16 (AllOkX.cons ?o17 (AllOkX.cons ?o18 (AllOkX.cons ?o19 (AllOkX.consR ?o20 (AllOkX.cons ?o21 (AllOkX.cons ?o22 (AllOkX.nil _)))))))))))))))))))))))
          case o0 =>
            intro gy D wz hDi hdep hclo hWI
            have d1 : D 1 = false := by
              cases h : D 1 with
              | false => rfl
              | true => exact absurd (hclo 1 _ rfl h ⟨0, .data⟩ (by simp) rfl) (by rw [hDi]; exact Bool.false_ne_true)
            have d3 : D 3 = false := by
              cases h : D 3 with
              | false => rfl
              | true => exact absurd (hclo 3 _ rfl h ⟨1, .data⟩ (by simp) rfl) (by rw [d1]; exact Bool.false_ne_true)
            have d4 : D 4 = false := by
              cases h : D 4 with
              | false => rfl
              | true => exact absurd (hclo 4 _ rfl h ⟨3, .data⟩ (by simp) rfl) (by rw [d3]; exact Bool.false_ne_true)
            have d14 : D 14 = false := by
              cases h : D 14 with
              | false => rfl
              | true => exact absurd (hclo 14 _ rfl h ⟨4, .chain⟩ (by simp) rfl) (by rw [d4]; exact Bool.false_ne_true)
            have d20 : D 20 = false := by
              cases h : D 20 with
              | false => rfl
              | true => exact absurd (hclo 20 _ rfl h ⟨14, .chain⟩ (by simp) rfl) (by rw [d14]; exact Bool.false_ne_true)
            obtain ⟨hW0, hJ9⟩ := hWI.1 d20
            have hW := hW0
            exact .inl ⟨rfl, rfl, .inl ⟨gy, wz, fun _ _ => rfl, x_idxArr (0) (0) rfl rfl rfl Try.underlying83 sz3 (by omega) (by omega) (by omega), hWI⟩⟩
          case o1 =>
            intro gy D wz hDi hdep hclo hWI
            have d3 : D 3 = false := by
              cases h : D 3 with
              | false => rfl
              | true => exact absurd (hclo 3 _ rfl h ⟨1, .data⟩ (by simp) rfl) (by rw [hDi]; exact Bool.false_ne_true)
            have d4 : D 4 = false := by
              cases h : D 4 with
              | false => rfl
              | true => exact absurd (hclo 4 _ rfl h ⟨3, .data⟩ (by simp) rfl) (by rw [d3]; exact Bool.false_ne_true)
            have d14 : D 14 = false := by
              cases h : D 14 with
              | false => rfl
              | true => exact absurd (hclo 14 _ rfl h ⟨4, .chain⟩ (by simp) rfl) (by rw [d4]; exact Bool.false_ne_true)
            have d20 : D 20 = false := by
              cases h : D 20 with
              | false => rfl
              | true => exact absurd (hclo 20 _ rfl h ⟨14, .chain⟩ (by simp) rfl) (by rw [d14]; exact Bool.false_ne_true)
            obtain ⟨hW0, hJ9⟩ := hWI.1 d20
            have hW := hW0
            exact .inl ⟨rfl, rfl, .inl ⟨gy, wz, fun _ _ => rfl, x_load rfl rfl Try.underlying3 rfl (HP.cell hW 0 rfl rfl), hWI⟩⟩
          case o2 =>
            intro gy D wz hDi hdep hclo hWI
            have d3 : D 3 = false := by
              cases h : D 3 with
              | false => rfl
              | true => exact absurd (hclo 3 _ rfl h ⟨2, .data⟩ (by simp) rfl) (by rw [hDi]; exact Bool.false_ne_true)
            have d4 : D 4 = false := by
              cases h : D 4 with
              | false => rfl
              | true => exact absurd (hclo 4 _ rfl h ⟨3, .data⟩ (by simp) rfl) (by rw [d3]; exact Bool.false_ne_true)
            have d14 : D 14 = false := by
              cases h : D 14 with
              | false => rfl
              | true => exact absurd (hclo 14 _ rfl h ⟨4, .chain⟩ (by simp) rfl) (by rw [d4]; exact Bool.false_ne_true)
            have d20 : D 20 = false := by
              cases h : D 20 with
              | false => rfl
              | true => exact absurd (hclo 20 _ rfl h ⟨14, .chain⟩ (by simp) rfl) (by rw [d14]; exact Bool.false_ne_true)
            obtain ⟨hW0, hJ9⟩ := hWI.1 d20
            have hW := hW0
            exact .inl ⟨rfl, rfl, .inl ⟨gy, wz, fun _ _ => rfl, x_load rfl rfl Try.underlying3 rfl (HP.old hW trivial hcells.2.2), hWI⟩⟩
          case o3 =>
            intro gy D wz hDi hdep hclo hWI
            have d4 : D 4 = false := by
              cases h : D 4 with
              | false => rfl
              | true => exact absurd (hclo 4 _ rfl h ⟨3, .data⟩ (by simp) rfl) (by rw [hDi]; exact Bool.false_ne_true)
            have d14 : D 14 = false := by
              cases h : D 14 with
              | false => rfl
              | true => exact absurd (hclo 14 _ rfl h ⟨4, .chain⟩ (by simp) rfl) (by rw [d4]; exact Bool.false_ne_true)
            have d20 : D 20 = false := by
              cases h : D 20 with
              | false => rfl
              | true => exact absurd (hclo 20 _ rfl h ⟨14, .chain⟩ (by simp) rfl) (by rw [d14]; exact Bool.false_ne_true)
            obtain ⟨hW0, hJ9⟩ := hWI.1 d20
            have hW := hW0
            exact .inl ⟨rfl, rfl, .inl ⟨gy, wz, fun _ _ => rfl, x_neq rfl rfl rfl (dT (hx1)), hWI⟩⟩
          case o4 =>
            intro gy D wz hDi hdep hclo hWI
            have d14 : D 14 = false := by
              cases h : D 14 with
              | false => rfl
              | true => exact absurd (hclo 14 _ rfl h ⟨4, .chain⟩ (by simp) rfl) (by rw [hDi]; exact Bool.false_ne_true)
            have d20 : D 20 = false := by
              cases h : D 20 with
              | false => rfl
              | true => exact absurd (hclo 20 _ rfl h ⟨14, .chain⟩ (by simp) rfl) (by rw [d14]; exact Bool.false_ne_true)
            obtain ⟨hW0, hJ9⟩ := hWI.1 d20
            have hW := hW0
            exact .inl ⟨rfl, rfl, .inl ⟨gy, wz, fun _ _ => rfl, by kernel_rfl, hWI⟩⟩
          case o5 =>
            intro gy D wz hDi hdep hclo hWI
            have d6 : D 6 = false := by
              cases h : D 6 with
              | false => rfl
              | true => exact absurd (hclo 6 _ rfl h ⟨5, .data⟩ (by simp) rfl) (by rw [hDi]; exact Bool.false_ne_true)
            have d8 : D 8 = false := by
              cases h : D 8 with
              | false => rfl
              | true => exact absurd (hclo 8 _ rfl h ⟨6, .data⟩ (by simp) rfl) (by rw [d6]; exact Bool.false_ne_true)
            have d12 : D 12 = false := by
              cases h : D 12 with
              | false => rfl
              | true => exact absurd (hclo 12 _ rfl h ⟨8, .data⟩ (by simp) rfl) (by rw [d8]; exact Bool.false_ne_true)
            have d13 : D 13 = false := by
              cases h : D 13 with
              | false => rfl
              | true => exact absurd (hclo 13 _ rfl h ⟨12, .data⟩ (by simp) rfl) (by rw [d12]; exact Bool.false_ne_true)
            have d14 : D 14 = false := by
              cases h : D 14 with
              | false => rfl
              | true => exact absurd (hclo 14 _ rfl h ⟨13, .data⟩ (by simp) rfl) (by rw [d13]; exact Bool.false_ne_true)
            have d20 : D 20 = false := by
              cases h : D 20 with
              | false => rfl
              | true => exact absurd (hclo 20 _ rfl h ⟨14, .chain⟩ (by simp) rfl) (by rw [d14]; exact Bool.false_ne_true)
            obtain ⟨hW0, hJ9⟩ := hWI.1 d20
            have hW := hW0
            exact .inl ⟨rfl, rfl, .inl ⟨gy, wz, fun _ _ => rfl, x_idxArr (0) (0) rfl rfl rfl Try.underlying83 sz3 (by omega) (by omega) (by omega), hWI⟩⟩
          case o6 =>
            intro gy D wz hDi hdep hclo hWI
            have d8 : D 8 = false := by
              cases h : D 8 with
              | false => rfl
              | true => exact absurd (hclo 8 _ rfl h ⟨6, .data⟩ (by simp) rfl) (by rw [hDi]; exact Bool.false_ne_true)
            have d12 : D 12 = false := by
              cases h : D 12 with
              | false => rfl
              | true => exact absurd (hclo 12 _ rfl h ⟨8, .data⟩ (by simp) rfl) (by rw [d8]; exact Bool.false_ne_true)
            have d13 : D 13 = false := by
              cases h : D 13 with
              | false => rfl
              | true => exact absurd (hclo 13 _ rfl h ⟨12, .data⟩ (by simp) rfl) (by rw [d12]; exact Bool.false_ne_true)
            have d14 : D 14 = false := by
              cases h : D 14 with
              | false => rfl
              | true => exact absurd (hclo 14 _ rfl h ⟨13, .data⟩ (by simp) rfl) (by rw [d13]; exact Bool.false_ne_true)
            have d20 : D 20 = false := by
              cases h : D 20 with
              | false => rfl
              | true => exact absurd (hclo 20 _ rfl h ⟨14, .chain⟩ (by simp) rfl) (by rw [d14]; exact Bool.false_ne_true)
            obtain ⟨hW0, hJ9⟩ := hWI.1 d20
            have hW := hW0
            exact .inl ⟨rfl, rfl, .inl ⟨gy, wz, fun _ _ => rfl, x_load rfl rfl Try.underlying3 rfl (HP.cell hW 0 rfl rfl), hWI⟩⟩
          case o7 =>
            intro gy D wz hDi hdep hclo hWI
            have d8 : D 8 = false := by
              cases h : D 8 with
              | false => rfl
              | true => exact absurd (hclo 8 _ rfl h ⟨7, .data⟩ (by simp) rfl) (by rw [hDi]; exact Bool.false_ne_true)
            have d12 : D 12 = false := by
              cases h : D 12 with
              | false => rfl
              | true => exact absurd (hclo 12 _ rfl h ⟨8, .data⟩ (by simp) rfl) (by rw [d8]; exact Bool.false_ne_true)
            have d13 : D 13 = false := by
              cases h : D 13 with
              | false => rfl
              | true => exact absurd (hclo 13 _ rfl h ⟨12, .data⟩ (by simp) rfl) (by rw [d12]; exact Bool.false_ne_true)
            have d14 : D 14 = false := by
              cases h : D 14 with
              | false => rfl
              | true => exact absurd (hclo 14 _ rfl h ⟨13, .data⟩ (by simp) rfl) (by rw [d13]; exact Bool.false_ne_true)
            have d20 : D 20 = false := by
              cases h : D 20 with
              | false => rfl
              | true => exact absurd (hclo 20 _ rfl h ⟨14, .chain⟩ (by simp) rfl) (by rw [d14]; exact Bool.false_ne_true)
            obtain ⟨hW0, hJ9⟩ := hWI.1 d20
            have hW := hW0
            exact .inl ⟨rfl, rfl, .inl ⟨gy, wz, fun _ _ => rfl, x_load rfl rfl Try.underlying3 rfl (HP.old hW trivial hcells.2.1), hWI⟩⟩
          case o8 =>
            intro gy D wz hDi hdep hclo hWI
            have d12 : D 12 = false := by
              cases h : D 12 with
              | false => rfl
              | true => exact absurd (hclo 12 _ rfl h ⟨8, .data⟩ (by simp) rfl) (by rw [hDi]; exact Bool.false_ne_true)
            have d13 : D 13 = false := by
              cases h : D 13 with
              | false => rfl
              | true => exact absurd (hclo 13 _ rfl h ⟨12, .data⟩ (by simp) rfl) (by rw [d12]; exact Bool.false_ne_true)
            have d14 : D 14 = false := by
              cases h : D 14 with
              | false => rfl
              | true => exact absurd (hclo 14 _ rfl h ⟨13, .data⟩ (by simp) rfl) (by rw [d13]; exact Bool.false_ne_true)
            have d20 : D 20 = false := by
              cases h : D 20 with
              | false => rfl
              | true => exact absurd (hclo 20 _ rfl h ⟨14, .chain⟩ (by simp) rfl) (by rw [d14]; exact Bool.false_ne_true)
            obtain ⟨hW0, hJ9⟩ := hWI.1 d20
            have hW := hW0
            exact .inl ⟨rfl, rfl, .inl ⟨gy, wz, fun _ _ => rfl, x_rem rfl rfl rfl hs0 rfl, hWI⟩⟩
          case o9 =>
            intro gy D wz hDi hdep hclo hWI
            have d11 : D 11 = false := by
              cases h : D 11 with
              | false => rfl
              | true => exact absurd (hclo 11 _ rfl h ⟨9, .data⟩ (by simp) rfl) (by rw [hDi]; exact Bool.false_ne_true)
            have d12 : D 12 = false := by
              cases h : D 12 with
              | false => rfl
              | true => exact absurd (hclo 12 _ rfl h ⟨11, .data⟩ (by simp) rfl) (by rw [d11]; exact Bool.false_ne_true)
            have d13 : D 13 = false := by
              cases h : D 13 with
              | false => rfl
              | true => exact absurd (hclo 13 _ rfl h ⟨12, .data⟩ (by simp) rfl) (by rw [d12]; exact Bool.false_ne_true)
            have d14 : D 14 = false := by
              cases h : D 14 with
              | false => rfl
              | true => exact absurd (hclo 14 _ rfl h ⟨13, .data⟩ (by simp) rfl) (by rw [d13]; exact Bool.false_ne_true)
            have d20 : D 20 = false := by
              cases h : D 20 with
              | false => rfl
              | true => exact absurd (hclo 20 _ rfl h ⟨14, .chain⟩ (by simp) rfl) (by rw [d14]; exact Bool.false_ne_true)
            obtain ⟨hW0, hJ9⟩ := hWI.1 d20
            have hW := hW0
            exact .inl ⟨rfl, rfl, .inl ⟨gy, wz, fun _ _ => rfl, x_load rfl rfl Try.underlying3 rfl (HP.old hW trivial hcells.2.2), hWI⟩⟩
          case o10 =>
            intro gy D wz hDi hdep hclo hWI
            have d11 : D 11 = false := by
              cases h : D 11 with
              | false => rfl
              | true => exact absurd (hclo 11 _ rfl h ⟨10, .data⟩ (by simp) rfl) (by rw [hDi]; exact Bool.false_ne_true)
            have d12 : D 12 = false := by
              cases h : D 12 with
              | false => rfl
              | true => exact absurd (hclo 12 _ rfl h ⟨11, .data⟩ (by simp) rfl) (by rw [d11]; exact Bool.false_ne_true)
            have d13 : D 13 = false := by
              cases h : D 13 with
              | false => rfl
              | true => exact absurd (hclo 13 _ rfl h ⟨12, .data⟩ (by simp) rfl) (by rw [d12]; exact Bool.false_ne_true)
            have d14 : D 14 = false := by
              cases h : D 14 with
              | false => rfl
              | true => exact absurd (hclo 14 _ rfl h ⟨13, .data⟩ (by simp) rfl) (by rw [d13]; exact Bool.false_ne_true)
            have d20 : D 20 = false := by
              cases h : D 20 with
              | false => rfl
              | true => exact absurd (hclo 20 _ rfl h ⟨14, .chain⟩ (by simp) rfl) (by rw [d14]; exact Bool.false_ne_true)
            obtain ⟨hW0, hJ9⟩ := hWI.1 d20
            have hW := hW0
            exact .inl ⟨rfl, rfl, .inl ⟨gy, wz, fun _ _ => rfl, x_load rfl rfl Try.underlying3 rfl (HP.old hW trivial hcells.2.1), hWI⟩⟩
          case o11 =>
            intro gy D wz hDi hdep hclo hWI
            have d12 : D 12 = false := by
              cases h : D 12 with
              | false => rfl
              | true => exact absurd (hclo 12 _ rfl h ⟨11, .data⟩ (by simp) rfl) (by rw [hDi]; exact Bool.false_ne_true)
            have d13 : D 13 = false := by
              cases h : D 13 with
              | false => rfl
              | true => exact absurd (hclo 13 _ rfl h ⟨12, .data⟩ (by simp) rfl) (by rw [d12]; exact Bool.false_ne_true)
            have d14 : D 14 = false := by
              cases h : D 14 with
              | false => rfl
              | true => exact absurd (hclo 14 _ rfl h ⟨13, .data⟩ (by simp) rfl) (by rw [d13]; exact Bool.false_ne_true)
            have d20 : D 20 = false := by
              cases h : D 20 with
              | false => rfl
              | true => exact absurd (hclo 20 _ rfl h ⟨14, .chain⟩ (by simp) rfl) (by rw [d14]; exact Bool.false_ne_true)
            obtain ⟨hW0, hJ9⟩ := hWI.1 d20
            have hW := hW0
            exact .inl ⟨rfl, rfl, .inl ⟨gy, wz, fun _ _ => rfl, x_rem rfl rfl rfl hs0 rfl, hWI⟩⟩
          case o12 =>
            intro gy D wz hDi hdep hclo hWI
            have d13 : D 13 = false := by
              cases h : D 13 with
              | false => rfl
              | true => exact absurd (hclo 13 _ rfl h ⟨12, .data⟩ (by simp) rfl) (by rw [hDi]; exact Bool.false_ne_true)
            have d14 : D 14 = false := by
              cases h : D 14 with
              | false => rfl
              | true => exact absurd (hclo 14 _ rfl h ⟨13, .data⟩ (by simp) rfl) (by rw [d13]; exact Bool.false_ne_true)
            have d20 : D 20 = false := by
              cases h : D 20 with
              | false => rfl
              | true => exact absurd (hclo 20 _ rfl h ⟨14, .chain⟩ (by simp) rfl) (by rw [d14]; exact Bool.false_ne_true)
            obtain ⟨hW0, hJ9⟩ := hWI.1 d20
            have hW := hW0
            exact .inl ⟨rfl, rfl, .inl ⟨gy, wz, fun _ _ => rfl, x_eql rfl rfl rfl (dT (hx2)), hWI⟩⟩
          case o13 =>
            intro gy D wz hDi hdep hclo hWI
            have d14 : D 14 = false := by
              cases h : D 14 with
              | false => rfl
              | true => exact absurd (hclo 14 _ rfl h ⟨13, .data⟩ (by simp) rfl) (by rw [hDi]; exact Bool.false_ne_true)
            have d20 : D 20 = false := by
              cases h : D 20 with
              | false => rfl
              | true => exact absurd (hclo 20 _ rfl h ⟨14, .chain⟩ (by simp) rfl) (by rw [d14]; exact Bool.false_ne_true)
            obtain ⟨hW0, hJ9⟩ := hWI.1 d20
            have hW := hW0
            exact .inl ⟨rfl, rfl, .inl ⟨gy, wz, fun _ _ => rfl, by kernel_rfl, hWI⟩⟩
          case o14 =>
            intro gy D wz hDi hdep hclo hWI
            have d20 : D 20 = false := by
              cases h : D 20 with
              | false => rfl
              | true => exact absurd (hclo 20 _ rfl h ⟨14, .chain⟩ (by simp) rfl) (by rw [hDi]; exact Bool.false_ne_true)
            obtain ⟨hW0, hJ9⟩ := hWI.1 d20
            have hW := hW0
            exact .inl ⟨rfl, rfl, .inl ⟨gy, wz, fun _ _ => rfl, by kernel_rfl, hWI⟩⟩
          case o15 =>
            intro gy D wz hDi hdep hclo hWI
            have d20 : D 20 = false := by
              cases h : D 20 with
              | false => rfl
              | true => exact absurd (hclo 20 _ rfl h ⟨15, .data⟩ (by simp) rfl) (by rw [hDi]; exact Bool.false_ne_true)
            obtain ⟨hW0, hJ9⟩ := hWI.1 d20
            have hW := hW0
            exact .inl ⟨rfl, rfl, .inl ⟨gy, wz, fun _ _ => rfl, by kernel_rfl, hWI⟩⟩
          case o16 =>
            intro gy D wz hDi hdep hclo hWI
            have d17 : D 17 = false := by
              cases h : D 17 with
              | false => rfl
              | true => exact absurd (hclo 17 _ rfl h ⟨16, .data⟩ (by simp) rfl) (by rw [hDi]; exact Bool.false_ne_true)
            have d20 : D 20 = false := by
              cases h : D 20 with
              | false => rfl
              | true => exact absurd (hclo 20 _ rfl h ⟨17, .data⟩ (by simp) rfl) (by rw [d17]; exact Bool.false_ne_true)
            obtain ⟨hW0, hJ9⟩ := hWI.1 d20
            have hW := hW0
            exact .inl ⟨rfl, rfl, .inl ⟨gy, wz, fun _ _ => rfl, x_idxArr (0) (0) rfl rfl rfl Try.underlying83 sz3 (by omega) (by omega) (by omega), hWI⟩⟩
          case o17 =>
            intro gy D wz hDi hdep hclo hWI
            have d20 : D 20 = false := by
              cases h : D 20 with
              | false => rfl
              | true => exact absurd (hclo 20 _ rfl h ⟨17, .data⟩ (by simp) rfl) (by rw [hDi]; exact Bool.false_ne_true)
            obtain ⟨hW0, hJ9⟩ := hWI.1 d20
            have hW := hW0
            exact .inl ⟨rfl, rfl, .inl ⟨gy, wz, fun _ _ => rfl, x_load rfl rfl Try.underlying3 rfl (HP.cell hW 0 rfl rfl), hWI⟩⟩
          case o18 =>
            intro gy D wz hDi hdep hclo hWI
            have d19 : D 19 = false := by
              cases h : D 19 with
              | false => rfl
              | true => exact absurd (hclo 19 _ rfl h ⟨18, .data⟩ (by simp) rfl) (by rw [hDi]; exact Bool.false_ne_true)
            have d20 : D 20 = false := by
              cases h : D 20 with
              | false => rfl
              | true => exact absurd (hclo 20 _ rfl h ⟨19, .data⟩ (by simp) rfl) (by rw [d19]; exact Bool.false_ne_true)
            obtain ⟨hW0, hJ9⟩ := hWI.1 d20
            have hW := hW0
            exact .inl ⟨rfl, rfl, .inl ⟨gy, wz, fun _ _ => rfl, x_idxArr (1) (1) rfl rfl rfl Try.underlying83 sz3 (by omega) (by omega) (by omega), hWI⟩⟩
          case o19 =>
            intro gy D wz hDi hdep hclo hWI
            have d20 : D 20 = false := by
              cases h : D 20 with
              | false => rfl
              | true => exact absurd (hclo 20 _ rfl h ⟨19, .data⟩ (by simp) rfl) (by rw [hDi]; exact Bool.false_ne_true)
            obtain ⟨hW0, hJ9⟩ := hWI.1 d20
            have hW := hW0
            exact .inl ⟨rfl, rfl, .inl ⟨gy, wz, fun _ _ => rfl, x_load rfl rfl Try.underlying3 rfl (HP.cell hW 0 rfl rfl), hWI⟩⟩
          case o20 =>
            intro gy D wz hDi hdep hclo hWI
            obtain ⟨hW, hJ9⟩ := hWI.1 hDi
            have hYx := hY _ xa wz hJ9 hlen
            simp only [hxa1, hxa2] at hYx
            obtain ⟨fn, tmps, assign, body, hy, hR⟩ := hYx
            have hrd9 := hRd.below (HP.below hW)
            refine ⟨rfl, rfl, ll, fn, tmps, assign, body, yield_op hy rfl, hR.mono ?_⟩
            have d21 : D 21 = false := by
              cases h : D 21 with
              | false => rfl
              | true => exact absurd (hclo 21 _ rfl h ⟨20, .data⟩ (by simp) rfl) (by rw [hDi]; exact Bool.false_ne_true)
            have d21 : D 21 = false := by
              cases h : D 21 with
              | false => rfl
              | true => exact absurd (hclo 21 _ rfl h ⟨20, .data⟩ (by simp) rfl) (by rw [hDi]; exact Bool.false_ne_true)
            have d22 : D 22 = false := by
              cases h : D 22 with
              | false => rfl
              | true => exact absurd (hclo 22 _ rfl h ⟨21, .data⟩ (by simp) rfl) (by rw [d21]; exact Bool.false_ne_true)
            rintro e W' (⟨rfl, hJ', hk⟩ | ⟨rfl, hJx'⟩)
            · refine ⟨true, fun j hj => ?_, rfl, ⟨(fun h => Bool.noConfusion (show true = false from h)), fun _ => .inl ⟨rfl, hJ', hrd9.keep hk⟩⟩⟩
              match j, hj with
              | 0, hj => rfl
              | 1, hj => rfl
              | 2, hj => rfl
              | 3, hj => rfl
              | 4, hj => rfl
              | 5, hj => rfl
              | 6, hj => rfl
              | 7, hj => rfl
              | 8, hj => rfl
              | 9, hj => rfl
              | 10, hj => rfl
              | 11, hj => rfl
              | 12, hj => rfl
              | 13, hj => rfl
              | 14, hj => rfl
              | 15, hj => rfl
              | 16, hj => rfl
              | 17, hj => rfl
              | 18, hj => rfl
              | 19, hj => rfl
              | 20, hj => rw [hDi] at hj; cases hj
              | 21, hj => exact absurd hj (by rw [d21]; exact Bool.false_ne_true)
              | 22, hj => exact absurd hj (by rw [d22]; exact Bool.false_ne_true)
              | j + 23, _ => rfl
            · refine ⟨false, fun j hj => ?_, rfl, ⟨(fun h => Bool.noConfusion (show true = false from h)), fun _ => .inr ⟨rfl, hJx'⟩⟩⟩
              match j, hj with
              | 0, hj => rfl
              | 1, hj => rfl
              | 2, hj => rfl
              | 3, hj => rfl
              | 4, hj => rfl
              | 5, hj => rfl
              | 6, hj => rfl
              | 7, hj => rfl
              | 8, hj => rfl
              | 9, hj => rfl
              | 10, hj => rfl
              | 11, hj => rfl
              | 12, hj => rfl
              | 13, hj => rfl
              | 14, hj => rfl
              | 15, hj => rfl
              | 16, hj => rfl
              | 17, hj => rfl
              | 18, hj => rfl
              | 19, hj => rfl
              | 20, hj => rw [hDi] at hj; cases hj
              | 21, hj => exact absurd hj (by rw [d21]; exact Bool.false_ne_true)
              | 22, hj => exact absurd hj (by rw [d22]; exact Bool.false_ne_true)
              | j + 23, _ => rfl
          case o21 =>
            intro gy D wz hDi hdep hclo hWI
            exact .inl ⟨rfl, rfl, .inl ⟨gy, wz, fun _ _ => rfl, by kernel_rfl, hWI⟩⟩
          case o22 =>
            intro gy D wz hDi hdep hclo hWI
            exact .inl ⟨rfl, rfl, .inl ⟨gy, wz, fun _ _ => rfl, by kernel_rfl, hWI⟩⟩
        rintro gy D w19 hall hWI
        have hpost := hWI.2 (hall 20 (by kernel_rfl))
        clear hall hWI
        skip
        refine XQ.sub (l' := [(0, .func (.yield ll) #[] #[]), (1, vP b3 0), (2, vP b5 0), (3, vP b4 0), (6, vP b6 0), (7, .slice (some ⟨g, o, none⟩) t.length cp), (8, vI (t.length : Int)), (9, vI (i : Int)), (10, .bool true), (35, .bool (!gy))]) ⟨rfl, rfl, rfl, rfl, rfl, rfl, rfl, rfl, rfl, rfl, trivial⟩ ?_
        rcases hpost with ⟨rfl, hJ', hRd'⟩ | ⟨rfl, hJx'⟩
        ·
          refine XQ.then ?_
          refine hK16 _ _ _ _ ?_
          refine XC.no rfl ?_
          refine XC.skip ?_
          refine XQ.inNormal ?_
          refine XQ.then ?_
          refine hK10 _ _ _ _ ?_
          refine XC.region ?_
          refine XL.pure (v := vI ((i + 1 : Nat) : Int)) 36 rfl (Nat.le_of_ble_eq_true rfl) rfl rfl (x_add (Z := ((i + 1 : Nat) : Int)) rfl rfl rfl (by omega) (by omega) (by omega)) ?_
          refine XL.pure (v := vI ((i + 1 : Nat) : Int)) 9 rfl (Nat.le_of_ble_eq_true rfl) rfl rfl (by kernel_rfl) ?_
          refine XL.nil ?_
          refine XQ.sub (l' := [(0, .func (.yield ll) #[] #[]), (1, vP b3 0), (2, vP b5 0), (3, vP b4 0), (7, .slice (some ⟨g, o, none⟩) t.length cp), (8, vI (t.length : Int)), (9, vI ((i + 1 : Nat) : Int))]) ⟨rfl, rfl, rfl, rfl, rfl, rfl, rfl, trivial⟩ ?_
          refine XQ.then (hK4 _ _ _ (by omega) ⟨i + 1, rfl, rfl, by omega, by rw [htk]; exact hJ', hRd', HP.refl _⟩)
        ·
          refine XQ.then ?_
          refine hK16 _ _ _ _ ?_
          refine XC.yes rfl ?_
          refine XC.ret ?_
          refine XQ.inRet ?_
          refine XQ.thenRet ?_
          refine XQ.thenRet ?_
          refine XQ.inRet ?_
          refine XQ.ret0B rfl ?_
          exact ⟨⟨_, rfl⟩, .inr ⟨_, (by have q9 := os_pre (s := s) (x := x) (t := ta) (i := i + 1); rw [htk] at q9; exact q9), hJx'⟩⟩
      ·
        have hin : inS s x xa.1 = false := by unfold inS; rw [hxa1]; simp [hx1, hx2]
        rw [hin] at htk
        simp only [if_true, Bool.false_eq_true, if_false, List.append_nil] at htk
        refine XC.confH (γ := Unit) [(6, vP b6 0), (12, .agg #[vI (lnT t i), vI (agT t i)]), (11, vP g (o + i * 2)), (10, .bool true), (0, .func (.yield ll) #[] #[]), (1, vP b3 0), (2, vP b5 0), (3, vP b4 0), (7, .slice (some ⟨g, o, none⟩) t.length cp), (8, vI (t.length : Int)), (9, vI (i : Int))] (fun gy => [vP b6 0, vI (lnT t i), vI x, .bool true, .bool true, vP b6 0, vI (lnT t i), vI s, vI ((lnT t i).tmod s), vI x, vI s, vI ((x).tmod s), .bool false, .bool false, .bool false, undef, undef, undef, undef, undef, undef, undef, .bool false]) (fun gy D wz => HP Tr w5 wz [.cel b6 #[vI (lnT t i), vI (agT t i)] 83]) () (by kernel_rfl) ⟨rfl, rfl, rfl, rfl, rfl, rfl, rfl, rfl, rfl, rfl, rfl, trivial⟩ (by kernel_rfl) (by kernel_rfl) (by kernel_rfl) (fun _ => rfl) (by kernel_rfl) (HP.drew hH15) ?_ ?_
        · refine AllOkX.cons ?o0 (AllOkX.cons ?o1 (AllOkX.cons ?o2 (AllOkX.cons ?o3 (AllOkX.cons ?o4 (AllOkX.cons ?o5 (AllOkX.cons ?o6 (AllOkX.cons ?o7 (AllOkX.cons ?o8 (AllOkX.cons ?o9 (AllOkX.cons ?o10 (AllOkX.cons ?o11 (AllOkX.cons ?o12 (AllOkX.cons ?o13 (AllOkX.cons ?o14 (AllOkX.cons ?o15 (AllOkX.cons ?o16 (AllOkX.cons ?o17 (AllOkX.cons ?o18 (AllOkX.cons ?o19 (AllOkX.cons ?o20 (AllOkX.cons ?o21 (AllOkX.cons ?o22 (AllOkX.nil _)))))))))))))))))))))))
          case o0 =>
            intro gy D wz hDi hdep hclo hW
            exact .inl ⟨rfl, rfl, .inl ⟨gy, wz, fun _ _ => rfl, x_idxArr (0) (0) rfl rfl rfl Try.underlying83 sz3 (by omega) (by omega) (by omega), hW⟩⟩
          case o1 =>
            intro gy D wz hDi hdep hclo hW
            exact .inl ⟨rfl, rfl, .inl ⟨gy, wz, fun _ _ => rfl, x_load rfl rfl Try.underlying3 rfl (HP.cell hW 0 rfl rfl), hW⟩⟩
          case o2 =>
            intro gy D wz hDi hdep hclo hW
            exact .inl ⟨rfl, rfl, .inl ⟨gy, wz, fun _ _ => rfl, x_load rfl rfl Try.underlying3 rfl (HP.old hW trivial hcells.2.2), hW⟩⟩
          case o3 =>
            intro gy D wz hDi hdep hclo hW
            exact .inl ⟨rfl, rfl, .inl ⟨gy, wz, fun _ _ => rfl, x_neq rfl rfl rfl (dT (hx1)), hW⟩⟩
          case o4 =>
            intro gy D wz hDi hdep hclo hW
            exact .inl ⟨rfl, rfl, .inl ⟨gy, wz, fun _ _ => rfl, by kernel_rfl, hW⟩⟩
          case o5 =>
            intro gy D wz hDi hdep hclo hW
            exact .inl ⟨rfl, rfl, .inl ⟨gy, wz, fun _ _ => rfl, x_idxArr (0) (0) rfl rfl rfl Try.underlying83 sz3 (by omega) (by omega) (by omega), hW⟩⟩
          case o6 =>
            intro gy D wz hDi hdep hclo hW
            exact .inl ⟨rfl, rfl, .inl ⟨gy, wz, fun _ _ => rfl, x_load rfl rfl Try.underlying3 rfl (HP.cell hW 0 rfl rfl), hW⟩⟩
          case o7 =>
            intro gy D wz hDi hdep hclo hW
            exact .inl ⟨rfl, rfl, .inl ⟨gy, wz, fun _ _ => rfl, x_load rfl rfl Try.underlying3 rfl (HP.old hW trivial hcells.2.1), hW⟩⟩
          case o8 =>
            intro gy D wz hDi hdep hclo hW
            exact .inl ⟨rfl, rfl, .inl ⟨gy, wz, fun _ _ => rfl, x_rem rfl rfl rfl hs0 rfl, hW⟩⟩
          case o9 =>
            intro gy D wz hDi hdep hclo hW
            exact .inl ⟨rfl, rfl, .inl ⟨gy, wz, fun _ _ => rfl, x_load rfl rfl Try.underlying3 rfl (HP.old hW trivial hcells.2.2), hW⟩⟩
          case o10 =>
            intro gy D wz hDi hdep hclo hW
            exact .inl ⟨rfl, rfl, .inl ⟨gy, wz, fun _ _ => rfl, x_load rfl rfl Try.underlying3 rfl (HP.old hW trivial hcells.2.1), hW⟩⟩
          case o11 =>
            intro gy D wz hDi hdep hclo hW
            exact .inl ⟨rfl, rfl, .inl ⟨gy, wz, fun _ _ => rfl, x_rem rfl rfl rfl hs0 rfl, hW⟩⟩
          case o12 =>
            intro gy D wz hDi hdep hclo hW
            exact .inl ⟨rfl, rfl, .inl ⟨gy, wz, fun _ _ => rfl, x_eql rfl rfl rfl (dF (hx2)), hW⟩⟩
          case o13 =>
            intro gy D wz hDi hdep hclo hW
            exact .inl ⟨rfl, rfl, .inl ⟨gy, wz, fun _ _ => rfl, by kernel_rfl, hW⟩⟩
          case o14 =>
            intro gy D wz hDi hdep hclo hW
            exact .inl ⟨rfl, rfl, .inl ⟨gy, wz, fun _ _ => rfl, by kernel_rfl, hW⟩⟩
          case o15 =>
            intro gy D wz hDi hdep hclo hW
            exact .inr ⟨rfl, rfl, hW⟩
          case o16 =>
            intro gy D wz hDi hdep hclo hW
            exact .inr ⟨rfl, rfl, hW⟩
          case o17 =>
            intro gy D wz hDi hdep hclo hW
            exact .inr ⟨rfl, rfl, hW⟩
          case o18 =>
            intro gy D wz hDi hdep hclo hW
            exact .inr ⟨rfl, rfl, hW⟩
          case o19 =>
            intro gy D wz hDi hdep hclo hW
            exact .inr ⟨rfl, rfl, hW⟩
          case o20 =>
            intro gy D wz hDi hdep hclo hW
            exact .inr ⟨rfl, rfl, hW⟩
          case o21 =>
            intro gy D wz hDi hdep hclo hW
            exact .inr ⟨rfl, rfl, hW⟩
          case o22 =>
            intro gy D wz hDi hdep hclo hW
            exact .inl ⟨rfl, rfl, .inl ⟨gy, wz, fun _ _ => rfl, by kernel_rfl, hW⟩⟩
        rintro gy D w20 hall hH21
        clear hall
        refine XQ.sub (l' := [(0, .func (.yield ll) #[] #[]), (1, vP b3 0), (2, vP b5 0), (3, vP b4 0), (6, vP b6 0), (7, .slice (some ⟨g, o, none⟩) t.length cp), (8, vI (t.length : Int)), (9, vI (i : Int)), (10, .bool true), (35, .bool false)]) ⟨rfl, rfl, rfl, rfl, rfl, rfl, rfl, rfl, rfl, rfl, trivial⟩ ?_
        refine XQ.then ?_
        refine hK16 _ _ _ _ ?_
        refine XC.no rfl ?_
        refine XC.skip ?_
        refine XQ.inNormal ?_
        refine XQ.then ?_
        refine hK10 _ _ _ _ ?_
        refine XC.region ?_
        refine XL.pure (v := vI ((i + 1 : Nat) : Int)) 36 rfl (Nat.le_of_ble_eq_true rfl) rfl rfl (x_add (Z := ((i + 1 : Nat) : Int)) rfl rfl rfl (by omega) (by omega) (by omega)) ?_
        refine XL.pure (v := vI ((i + 1 : Nat) : Int)) 9 rfl (Nat.le_of_ble_eq_true rfl) rfl rfl (by kernel_rfl) ?_
        refine XL.nil ?_
        refine XQ.sub (l' := [(0, .func (.yield ll) #[] #[]), (1, vP b3 0), (2, vP b5 0), (3, vP b4 0), (7, .slice (some ⟨g, o, none⟩) t.length cp), (8, vI (t.length : Int)), (9, vI ((i + 1 : Nat) : Int))]) ⟨rfl, rfl, rfl, rfl, rfl, rfl, rfl, trivial⟩ ?_
        refine XQ.then (hK4 _ _ _ (by omega) ⟨i + 1, rfl, rfl, by omega, by rw [htk]; exact hJ _ _ _ none hJp (grown_hp hH21) (fun r e => by cases e), hRd.below (HP.below hH21), HP.refl _⟩)
  ·
    refine XL.pure (v := .bool false) 10 rfl (Nat.le_of_ble_eq_true rfl) rfl rfl (x_lss rfl rfl rfl (dF (hlt))) ?_
    refine XL.nil ?_
    refine XQ.then ?_
    refine hK8 _ _ _ _ ?_
    refine XC.seq fun K22 hK22 => ?_
    refine XC.no rfl ?_
    refine XC.exit ?_
    refine XQ.thenExit ?_
    refine XQ.thenExit ?_
    refine XQ.inExit ?_
    refine XQ.end0B rfl ?_
    exact ⟨⟨_, rfl⟩, .inl ⟨_, rfl, by rw [List.take_of_length_le (show ta.length ≤ i by omega)] at hJp; exact hJp⟩⟩
end Ca
end Go.Proofs.Ytmjnakhpekbenaa
namespace Go.Proofs
open Go.Shelf
def Try.lays125_ren : Go.Shelf.Ren := ⟨fun | 125 => 113 | 128 => 128 | 129 => 129 | n => n, fun | 46 => 139 | 3 => 3 | 51 => 150 | 53 => 152 | 4 => 4 | 5 => 5 | 9 => 9 | n => n, fun | n => n⟩
theorem Try.lays125 : Go.Proofs.Lays.n125 Try.prog Try.lays125_ren := {
  mixed := by kernel_rfl
  f125 := Try.func113.trans (congrArg some (by kernel_rfl))
  f128 := Try.func128.trans (congrArg some (by kernel_rfl))
  f129 := Try.func129.trans (congrArg some (by kernel_rfl))
  t3 := Try.underlying3
  a3 := Try.isAgg3
  z3 := Try.sizeOf3
  v3 := Try.zeroValue3
  t4 := Try.underlying4
  a4 := Try.isAgg4
  z4 := Try.sizeOf4
  v4 := Try.zeroValue4
  t5 := Try.underlying5
  a5 := Try.isAgg5
  z5 := Try.sizeOf5
  v5 := Try.zeroValue5
  t9 := Try.underlying9
  a9 := Try.isAgg9
  z9 := Try.sizeOf9
  v9 := Try.zeroValue9
  t46 := Try.underlying139
  a46 := Try.isAgg139
  z46 := Try.sizeOf139
  v46 := Try.zeroValue139
  t51 := Try.underlying150
  a51 := Try.isAgg150
  z51 := Try.sizeOf150
  v51 := Try.zeroValue150
  t53 := Try.underlying152
  a53 := Try.isAgg152
  z53 := Try.sizeOf152
  v53 := Try.zeroValue152 }
theorem Try.bits_Len (x : Int) (w : World) (h0 : 0 ≤ x) (h1 : x ≤ 18446744073709551615) :
    Calls Try.prog 113 #[.int .u64 x] w fun e w' => e = .returned (.int .i64 (Lib.bitLen x.toNat)) ∧ w' = w := Any.bits_Len Try.lays125 x w h0 h1
def Try.lays108_ren : Go.Shelf.Ren := ⟨fun | 108 => 67 | n => n, fun | 28 => 33 | 3 => 3 | 0 => 0 | 4 => 4 | n => n, fun | n => n⟩
theorem Try.lays108 : Go.Proofs.Lays.n108 Try.prog Try.lays108_ren := {
  mixed := by kernel_rfl
  f108 := Try.func67.trans (congrArg some (by kernel_rfl))
  t0 := Try.underlying0
  a0 := Try.isAgg0
  z0 := Try.sizeOf0
  v0 := Try.zeroValue0
  t3 := Try.underlying3
  a3 := Try.isAgg3
  z3 := Try.sizeOf3
  v3 := Try.zeroValue3
  t4 := Try.underlying4
  a4 := Try.isAgg4
  z4 := Try.sizeOf4
  v4 := Try.zeroValue4
  t28 := Try.underlying33
  a28 := Try.isAgg33
  z28 := Try.sizeOf33
  v28 := Try.zeroValue33 }
open Go.Lib in
theorem Try.slices_Index_int (b off n c : Nat) (zs : List Int) (x : Int) (w : World) (hz : n ≤ zs.length) (hbig : n ≤ 9223372036854775807) (hc : ∀ j, j < zs.length → w.cell? ⟨b, off + j, none⟩ = some (.int .i64 (zs.getD j 0))) :
    Calls Try.prog 67 #[.slice (some ⟨b, off, none⟩) n c, .int .i64 x] w fun e w' => e = .returned (.int .i64 (Lib.idxOf (zs.take n) x)) ∧ w' = w := Any.slices_Index_int Try.lays108 b off n c zs x w hz hbig hc
open Go.Lib in
theorem Try.slices_Index_int_empty (a : Option Addr) (c : Nat) (x : Int) (w : World) :
    Calls Try.prog 67 #[.slice a 0 c, .int .i64 x] w fun e w' => e = .returned (.int .i64 (Lib.idxOf [] x)) ∧ w' = w := Any.slices_Index_int_empty Try.lays108 a c x w
def Try.lays107_ren : Go.Shelf.Ren := ⟨fun | 107 => 45 | 108 => 67 | n => n, fun | 28 => 33 | 3 => 3 | 4 => 4 | 0 => 0 | n => n, fun | n => n⟩
theorem Try.lays107 : Go.Proofs.Lays.n107 Try.prog Try.lays107_ren := {
  mixed := by kernel_rfl
  f107 := Try.func45.trans (congrArg some (by kernel_rfl))
  f108 := Try.func67.trans (congrArg some (by kernel_rfl))
  t0 := Try.underlying0
  a0 := Try.isAgg0
  z0 := Try.sizeOf0
  v0 := Try.zeroValue0
  t3 := Try.underlying3
  a3 := Try.isAgg3
  z3 := Try.sizeOf3
  v3 := Try.zeroValue3
  t4 := Try.underlying4
  a4 := Try.isAgg4
  z4 := Try.sizeOf4
  v4 := Try.zeroValue4
  t28 := Try.underlying33
  a28 := Try.isAgg33
  z28 := Try.sizeOf33
  v28 := Try.zeroValue33 }
open Go.Lib in
theorem Try.slices_Contains_int (b off n c : Nat) (zs : List Int) (x : Int) (w : World) (hz : n ≤ zs.length) (hbig : n ≤ 9223372036854775807) (hc : ∀ j, j < zs.length → w.cell? ⟨b, off + j, none⟩ = some (.int .i64 (zs.getD j 0))) :
    Calls Try.prog 45 #[.slice (some ⟨b, off, none⟩) n c, .int .i64 x] w fun e w' => e = .returned (.bool ((zs.take n).contains x)) ∧ w' = w := Any.slices_Contains_int Try.lays107 b off n c zs x w hz hbig hc
open Go.Lib in
def Try.laysNm215_ren : Go.Shelf.Ren := ⟨fun | 15 => 72 | n => n, fun | 22 => 33 | 3 => 3 | 4 => 4 | n => n, fun | n => n⟩
theorem Try.laysNm215 : Go.Proofs.Lays2.n15 Try.prog Try.laysNm215_ren := {
  mixed := by kernel_rfl
  f15 := Try.func72.trans (congrArg some (by kernel_rfl))
  t3 := Try.underlying3
  a3 := Try.isAgg3
  z3 := Try.sizeOf3
  v3 := Try.zeroValue3
  t4 := Try.underlying4
  a4 := Try.isAgg4
  z4 := Try.sizeOf4
  v4 := Try.zeroValue4
  t22 := Try.underlying33
  a22 := Try.isAgg33
  z22 := Try.sizeOf33
  v22 := Try.zeroValue33
  i3 := by kernel_rfl }
open Go.RowKit Go.Lib in
theorem Try.slices_Clone_int (b off n c : Nat) (zs : List Int) (w : World) (hz : n ≤ zs.length) (hbig : n * 8 ≤ 140737488355328) (hc : ∀ j, j < zs.length → w.cell? ⟨b, off + j, none⟩ = some (.int .i64 (zs.getD j 0))) :
    Calls Try.prog 72 #[.slice (some ⟨b, off, none⟩) n c] w fun e w' => ∃ v', e = .returned v' ∧ w'.ownsRow w.heap.size 3 1 v' n ((zs.take n).map (Value.int .i64)) ∧ v' ≠ .slice none 0 0 ∧ Below w.heap.size w w' := Any.slices_Clone_int Try.laysNm215 b off n c zs w hz hbig hc
open Go.RowKit Go.Lib in
theorem Try.slices_Clone_int_nil (n c : Nat) (w : World) :
    Calls Try.prog 72 #[.slice none n c] w fun e w' => e = .returned (.slice none 0 0) ∧ w' = w := Any.slices_Clone_int_nil Try.laysNm215 n c w
open Go.RowKit Go.Lib in
theorem Try.slices_Clone_int_zero (a : Addr) (c : Nat) (w : World) :
    Calls Try.prog 72 #[.slice (some a) 0 c] w fun e w' => ∃ v', e = .returned v' ∧ w'.ownsRow w.heap.size 3 1 v' 0 [] ∧ v' ≠ .slice none 0 0 ∧ Below w.heap.size w w' := Any.slices_Clone_int_zero Try.laysNm215 a c w
def Try.laysNm223_ren : Go.Shelf.Ren := ⟨fun | 23 => 73 | n => n, fun | 22 => 33 | 3 => 3 | 4 => 4 | 0 => 0 | n => n, fun | n => n⟩
theorem Try.laysNm223 : Go.Proofs.Lays2.n23 Try.prog Try.laysNm223_ren := {
  mixed := by kernel_rfl
  f23 := Try.func73.trans (congrArg some (by kernel_rfl))
  t0 := Try.underlying0
  a0 := Try.isAgg0
  z0 := Try.sizeOf0
  v0 := Try.zeroValue0
  t3 := Try.underlying3
  a3 := Try.isAgg3
  z3 := Try.sizeOf3
  v3 := Try.zeroValue3
  t4 := Try.underlying4
  a4 := Try.isAgg4
  z4 := Try.sizeOf4
  v4 := Try.zeroValue4
  t22 := Try.underlying33
  a22 := Try.isAgg33
  z22 := Try.sizeOf33
  v22 := Try.zeroValue33
  i3 := by kernel_rfl }
open Go.RowKit Go.Lib Go.Sort in
theorem Try.slices_Delete_int (blk off cap i j : Nat) (zs : List Int) (w : World) (hH : Holds (Value.int .i64) w blk off zs.toArray) (hcap : zs.length ≤ cap) (hm : cap ≤ 9223372036854775807) (hij : i ≤ j) (hj : j ≤ zs.length) :
    Calls Try.prog 73 #[.slice (some ⟨blk, off, none⟩) zs.length cap, .int .i64 i, .int .i64 j] w fun e w' => e = .returned (.slice (some ⟨blk, off, none⟩) (zs.length - (j - i)) cap) ∧ ∃ q, w' = putRow (Value.int .i64) (Sort.ahead w q) blk off (zs.take i ++ zs.drop j ++ List.replicate (j - i) 0).toArray := Any.slices_Delete_int Try.laysNm223 blk off cap i j zs w hH hcap hm hij hj
open Go.RowKit Go.Lib Go.Sort in
open Go.RowKit Go.Lib in
open Go.RowKit Go.Lib in
def Try.laysSlF014_f112_ren : Go.Shelf.Ren := ⟨fun | 14 => 112 | 20 => 120 | 21 => 121 | 22 => 122 | 23 => 123 | 24 => 124 | 25 => 125 | 26 => 126 | 27 => 127 | 46 => 134 | 47 => 135 | 48 => 136 | 49 => 137 | 50 => 138 | 15 => 113 | 57 => 142 | 28 => 128 | 29 => 129 | n => n, fun | 24 => 83 | 22 => 49 | 3 => 3 | 25 => 127 | 4 => 4 | 0 => 0 | 46 => 144 | 45 => 143 | 50 => 102 | 66 => 159 | 39 => 139 | 55 => 152 | 70 => 163 | 76 => 168 | 77 => 96 | 53 => 150 | 5 => 5 | 9 => 9 | n => n, fun | n => n⟩
theorem Try.laysSlF014_f112 : Go.Proofs.SlLaysF0.n14 Try.prog Try.laysSlF014_f112_ren := {
  mixed := by kernel_rfl
  f14 := ⟨Try.f112.name, by decide, Try.func112.trans (congrArg some (by kernel_rfl))⟩
  f15 := Try.func113.trans (congrArg some (by kernel_rfl))
  f20 := ⟨Try.f120.name, by decide, Try.func120.trans (congrArg some (by kernel_rfl))⟩
  f21 := ⟨Try.f121.name, by decide, Try.func121.trans (congrArg some (by kernel_rfl))⟩
  f22 := ⟨Try.f122.name, by decide, Try.func122.trans (congrArg some (by kernel_rfl))⟩
  f23 := ⟨Try.f123.name, by decide, Try.func123.trans (congrArg some (by kernel_rfl))⟩
  f24 := ⟨Try.f124.name, by decide, Try.func124.trans (congrArg some (by kernel_rfl))⟩
  f25 := ⟨Try.f125.name, by decide, Try.func125.trans (congrArg some (by kernel_rfl))⟩
  f26 := ⟨Try.f126.name, by decide, Try.func126.trans (congrArg some (by kernel_rfl))⟩
  f27 := ⟨Try.f127.name, by decide, Try.func127.trans (congrArg some (by kernel_rfl))⟩
  f28 := Try.func128.trans (congrArg some (by kernel_rfl))
  f29 := Try.func129.trans (congrArg some (by kernel_rfl))
  f46 := ⟨Try.f134.name, by decide, Try.func134.trans (congrArg some (by kernel_rfl))⟩
  f47 := Try.func135.trans (congrArg some (by kernel_rfl))
  f48 := Try.func136.trans (congrArg some (by kernel_rfl))
  f49 := ⟨Try.f137.name, by decide, Try.func137.trans (congrArg some (by kernel_rfl))⟩
  f50 := ⟨Try.f138.name, by decide, Try.func138.trans (congrArg some (by kernel_rfl))⟩
  f57 := ⟨Try.f142.name, by decide, Try.func142.trans (congrArg some (by kernel_rfl))⟩
  t0 := Try.underlying0
  a0 := Try.isAgg0
  z0 := Try.sizeOf0
  v0 := Try.zeroValue0
  t3 := Try.underlying3
  a3 := Try.isAgg3
  z3 := Try.sizeOf3
  v3 := Try.zeroValue3
  t4 := Try.underlying4
  a4 := Try.isAgg4
  z4 := Try.sizeOf4
  v4 := Try.zeroValue4
  t5 := Try.underlying5
  a5 := Try.isAgg5
  z5 := Try.sizeOf5
  v5 := Try.zeroValue5
  t9 := Try.underlying9
  a9 := Try.isAgg9
  z9 := Try.sizeOf9
  v9 := Try.zeroValue9
  t22 := Try.underlying49
  a22 := Try.isAgg49
  z22 := Try.sizeOf49
  v22 := Try.zeroValue49
  t25 := Try.underlying127
  a25 := Try.isAgg127
  z25 := Try.sizeOf127
  v25 := Try.zeroValue127
  t39 := Try.underlying139
  a39 := Try.isAgg139
  z39 := Try.sizeOf139
  v39 := Try.zeroValue139
  t45 := Try.underlying143
  a45 := Try.isAgg143
  z45 := Try.sizeOf143
  v45 := Try.zeroValue143
  t46 := Try.underlying144
  a46 := Try.isAgg144
  z46 := Try.sizeOf144
  v46 := Try.zeroValue144
  t50 := Try.underlying102
  a50 := Try.isAgg102
  z50 := Try.sizeOf102
  v50 := Try.zeroValue102
  t53 := Try.underlying150
  a53 := Try.isAgg150
  z53 := Try.sizeOf150
  v53 := Try.zeroValue150
  t55 := Try.underlying152
  a55 := Try.isAgg152
  z55 := Try.sizeOf152
  v55 := Try.zeroValue152
  t66 := Try.underlying159
  a66 := Try.isAgg159
  z66 := Try.sizeOf159
  v66 := Try.zeroValue159
  t70 := Try.underlying163
  a70 := Try.isAgg163
  z70 := Try.sizeOf163
  v70 := Try.zeroValue163
  t76 := Try.underlying168
  a76 := Try.isAgg168
  z76 := Try.sizeOf168
  v76 := Try.zeroValue168
  t77 := Try.underlying96
  a77 := Try.isAgg96
  z77 := Try.sizeOf96
  v77 := Try.zeroValue96 }
open Go.RowKit Go.Lib Go.Sort in
theorem Try.pdqsortCmpFunc_all {α : Type} [Inhabited α] (k : Nat) (aE : ∀ w, (isAgg 83).run Try.prog w = .ok true w) (zE : ∀ w, (Go.sizeOf 83).run Try.prog w = .ok k w) (enc : α → List Value) (cf : α → α → Int) (g : Nat) (cb : Array Value) (hO : SWO (ltOf cf)) (blk off cap : Nat) (d0 : Array α) (w0 : World) (eg : ∀ args w, (callFunc g args).run Try.prog w = .ok (.enter g args) w) (hcmp : CmpLays Try.prog g cb enc k cf blk off d0.size w0) (R : RowK enc k w0 blk off d0) :
    ∀ (N a b limit : Nat) (d : Array α) (w : World), b - a < N → d0.size = d.size → SWK enc k w0 blk off d w → a ≤ b → b ≤ d.size → d.size < 4611686018427387904 → limit < 4611686018427387904 → Below (ltOf cf) a b d →
    Calls Try.prog 112 #[.slice (some ⟨blk, off, none⟩) d.size cap, .int .i64 a, .int .i64 b, .int .i64 limit, .func (.func g) #[] cb] w fun e w' => e = .returned (.tuple #[]) ∧ SWK enc k w0 blk off (pdq (ltOf cf) d a b limit true true) w' := AnyQ.pdqsortCmpFunc_all Try.laysSlF014_f112 k aE zE enc cf g cb hO blk off cap d0 w0 eg hcmp R
end Go.Proofs
namespace Go.Proofs.Ytmjnakhpekbenaa
open Go.RowKit Fw
namespace Ca
open Go.Sort (swp SWO PermIn SortedIn flatK putRowK HoldsK Holds putRow putCells mapBlock onCells grow ahead)
def enc2 (p : T2) : List Value := [vI p.1, vI p.2]
def cfT (x y : T2) : Int := cmpI x.1 y.1
set_option maxHeartbeats 1000000 in
theorem closure99 (x y : T2) (W : World) : Calls Try.prog 99 #[.agg #[vI x.1, vI x.2], .agg #[vI y.1, vI y.2]] W fun e w' => e = .returned (.int .i64 (cmpI x.1 y.1)) ∧ ∃ q os', w' = Go.Sort.grow (W.drewN q) os' := by
  have hcon := fun W' => Compare_any x.1 y.1 W'
  generalize cmpI x.1 y.1 = r at hcon ⊢
  go_enter Try.func99, Try.ntmps99
  go_wp2_with (go_at_call 100; refine (hcon _).mono ?_; rintro e w' ⟨rfl, rfl⟩)
  go_ret
  exact ⟨rfl, 0, _, by rw [Go.Sort.alloc_eq_grow, Go.Sort.alloc_eq_grow, Go.Sort.grow_grow]; rfl⟩
theorem lt_iff {x y : T2} : ltOf cfT x y = true ↔ x.1 < y.1 := by
  unfold ltOf cfT
  rw [decide_eq_true_eq]
  exact ⟨cmp_lt, fun h => by unfold cmpI; rw [if_pos h]; decide⟩
theorem lt_no {x y : T2} : ltOf cfT x y = false ↔ y.1 ≤ x.1 := by
  cases h : ltOf cfT x y with
  | true => have := lt_iff.1 h; exact ⟨fun q => (by cases q), fun q => by omega⟩
  | false => exact ⟨fun _ => by have : ¬ x.1 < y.1 := fun q => by rw [lt_iff.2 q] at h; cases h
                                omega, fun _ => rfl⟩
theorem swo : SWO (ltOf cfT) :=
  ⟨fun x => lt_no.2 (Int.le_refl _), fun x y z h1 h2 => lt_iff.2 (Int.lt_trans (lt_iff.1 h1) (lt_iff.1 h2)), fun x y z h1 h2 => lt_no.2 (Int.le_trans (lt_no.1 h2) (lt_no.1 h1))⟩
theorem flat_eq (t : List T2) : flatK enc2 2 t.toArray = (tL t).toArray := by
  apply Array.ext
  · simp [tL_len]
  · intro j h1 h2
    have hj : j < t.length * 2 := by simpa using h1
    have e1 : (flatK enc2 2 t.toArray)[j] = (flatK enc2 2 t.toArray)[j]! := (getElem!_pos (flatK enc2 2 t.toArray) j h1).symm
    rw [e1, Go.Sort.get_flatK enc2 2 t.toArray j (by simpa using hj)]
    have hi : j / 2 < t.length := by omega
    obtain ⟨q1, q2⟩ := tL_at hi
    have e2 : t.toArray[j / 2]! = t.getD (j / 2) (0, 0) := by simp [List.getD_eq_getElem?_getD, hi]
    rw [e2]
    have e3 : (tL t)[j]? = some (tL t).toArray[j] := by simp
    by_cases hm : j % 2 = 0
    · rw [show j / 2 * 2 = j by omega] at q1
      rw [q1] at e3
      rw [hm]
      simpa [enc2] using Option.some.inj e3
    · have hm1 : j % 2 = 1 := by omega
      rw [show j / 2 * 2 + 1 = j by omega] at q2
      rw [q2] at e3
      rw [hm1]
      simpa [enc2] using Option.some.inj e3
theorem holds_own {w : World} {g cp : Nat} {t : List T2} (h : Ent.holds w (rowT (some ⟨g, 0, none⟩) t.length cp t)) : HoldsK enc2 2 w g 0 t.toArray ∧ g < w.heap.size := by
  have h2 : w.ownsRow 0 83 2 (.slice (some ⟨g, 0, none⟩) t.length cp) t.length (tL t) := h
  have hc := @World.ownsRow.cells _ _ _ _ _ _ _ h2
  rcases h2.2 with ⟨h0', h1⟩ | ⟨g', cap, cur, hv, hb, hg, hnc, hm, hs, hx⟩
  · cases h0'
  · cases hv
    refine ⟨?_, (Array.getElem?_eq_some_iff.1 hg).1⟩
    unfold HoldsK
    rw [flat_eq]
    intro j hj
    have hj' : j < (tL t).length := by simpa using hj
    refine ⟨?_, by simp [World.frozen?, hg]⟩
    have := hc (g := g) rfl j _ (List.getElem?_eq_getElem hj')
    rw [hadd] at this
    rw [this]
    simp [hj']
theorem sorted_hp {w : World} {g cp n : Nat} {t t' : List T2} {os : Array Obj} (h : Ent.holds w (rowT (some ⟨g, 0, none⟩) t.length cp t)) (hl : t'.length = t.length) :
    HP (Out [rowT (some ⟨g, 0, none⟩) t.length cp t]) w (Go.Sort.grow (putRowK enc2 2 (Go.Sort.ahead w n) g 0 t'.toArray) os) [rowT (some ⟨g, 0, none⟩) t.length cp t'] := by
  have h2 : w.ownsRow 0 83 2 (.slice (some ⟨g, 0, none⟩) t.length cp) t.length (tL t) := h
  rcases h2.2 with ⟨h0', h1⟩ | ⟨g', cap, cur, hv, hb, hg, hnc, hm, hs, hx⟩
  · cases h0'
  · cases hv
    have hlt := (Array.getElem?_eq_some_iff.1 hg).1
    have hheap : (Go.Sort.grow (putRowK enc2 2 (Go.Sort.ahead w n) g 0 t'.toArray) os).heap = w.heap.modify g (onCells (putCells id 0 (tL t').toArray)) ++ os := by
      unfold putRowK; rw [flat_eq]; rfl
    refine ⟨rfl, rfl, rfl, by rw [hheap]; simp, fun k hk hO => ?_, fun e he => ?_, fun e he b hb hlt' hO => ?_, by simp⟩
    · have hne : g ≠ k := fun e => hO _ (List.mem_singleton.2 rfl) (by rw [← e]; rfl)
      rw [hheap, Array.getElem?_append_left (by simpa using hk), Array.getElem?_modify, if_neg hne]
    · obtain rfl := List.mem_singleton.1 he
      refine ⟨by rw [tL_len, hl], .inr ⟨g, cp, putCells id 0 (tL t').toArray cur, rfl, Nat.zero_le _, ?_, hnc, hm, by simp [putCells, hs], ?_⟩⟩
      · rw [hheap, Array.getElem?_append_left (by simpa using hlt), Array.getElem?_modify, if_pos rfl, hg]; rfl
      · refine List.ext_getElem? fun q => ?_
        rw [List.getElem?_take]
        have hsz : (tL t').length = t.length * 2 := by rw [tL_len, hl]
        by_cases hq : q < t.length * 2
        · rw [if_pos hq]
          have hcur : q < cur.size := by rw [hs]; have := Nat.mul_le_mul_right 2 hnc; omega
          rw [Array.getElem?_toList]
          simp only [putCells, Array.getElem?_mapIdx, Array.getElem?_eq_getElem hcur, Option.map_some, List.size_toArray, Nat.zero_le, true_and, Nat.zero_add, hsz, hq, if_true, Nat.sub_zero, id]
          rw [List.getElem?_eq_getElem (by omega)]
          simp [show q < (tL t').length by omega]
        · rw [if_neg hq, List.getElem?_eq_none (by omega)]
    · obtain rfl := List.mem_singleton.1 he
      exact hO _ (List.mem_singleton.2 rfl) hb
/-- sorted by lines -/
def leT (t : List T2) : Prop := t.Pairwise fun a b => a.1 ≤ b.1
theorem pdq_any (pv : Option Addr) (cp : Nat) (t : List T2) (L : Nat) (w : World) (hB : OwnB w [rowT pv t.length cp t]) (h0 : 0 < t.length) (hn : t.length ≤ 281474976710656) (hL : L ≤ 281474976710656) :
    Calls Try.prog 112 #[.slice pv t.length cp, vI 0, vI (t.length : Int), vI (L : Int), .func (.func 99) #[] #[]] w fun e w' => e = .returned (.tuple #[]) ∧ ∃ t', t'.Perm t ∧ leT t' ∧ HP (Out [rowT pv t.length cp t]) w w' [rowT pv t.length cp t'] := by
  have hO := hB.1 _ (List.mem_singleton.2 rfl)
  obtain ⟨g, rfl⟩ : ∃ g, pv = some ⟨g, 0, none⟩ := by
    have h2 : w.ownsRow 0 83 2 (.slice pv t.length cp) t.length (tL t) := hO
    rcases h2.2 with ⟨h0', h1⟩ | ⟨g', cap, cur, hv, _⟩
    · omega
    · cases hv; exact ⟨g', rfl⟩
  obtain ⟨hH, hlt⟩ := holds_own hO
  have R : RowK enc2 2 w g 0 t.toArray := ⟨fun _ => rfl, fun x v hv => by simp [enc2] at hv; rcases hv with rfl | rfl <;> rfl, hH, hlt⟩
  have eg : ∀ args w, (callFunc 99 args).run Try.prog w = .ok (.enter 99 args) w := enters_of Try.func99 (by kernel_rfl) rfl
  have hcmp : CmpLays Try.prog 99 #[] enc2 2 cfT g 0 t.toArray.size w := fun m os dk _ x y => closure99 x y _
  have h := Try.pdqsortCmpFunc_all (α := T2) 2 Try.isAgg83 Try.sizeOf83 enc2 cfT 99 #[] swo g 0 cp t.toArray w eg hcmp R (t.length + 1) 0 t.length L t.toArray w (by omega) rfl (SWK.start hH) (by omega) (by simp) (by simp; omega) (by omega) (.inl rfl)
  have hs := Go.Sort.pdq_sorts (ltOf cfT) swo t.toArray 0 t.length L true true (Nat.zero_le _) (by simp) (Or.inl rfl)
  generalize Go.Sort.pdq (ltOf cfT) t.toArray 0 t.length L true true = d' at h hs
  obtain ⟨hp, hsd⟩ := hs
  refine h.mono ?_
  rintro e w' ⟨rfl, n, os, rfl⟩
  have hsz : d'.size = t.length := by simpa using hp.1
  have hperm : d'.toList.Perm t := by
    have := hp.2.2
    rw [show d'.extract 0 t.length = d' by rw [← hsz]; simp, show t.toArray.extract 0 t.length = t.toArray by simp] at this
    simpa using this
  refine ⟨rfl, d'.toList, hperm, List.pairwise_iff_getElem.2 fun i j hi hj hij => ?_, ?_⟩
  · have hj' : j < t.length := by simpa [hsz] using hj
    have := lt_no.1 (hsd i j (Nat.zero_le _) hij (by simpa using hj'))
    have hi' : i < d'.size := by omega
    rw [getElem!_pos d' i hi', getElem!_pos d' j (by omega)] at this
    simpa using this
  · have := sorted_hp (n := n) (os := os) (t' := d'.toList) hO (by simpa using hsz)
    rw [show d'.toList.toArray = d' by simp] at this
    exact this
end Ca
end Go.Proofs.Ytmjnakhpekbenaa
namespace Go.Proofs.Ytmjnakhpekbenaa
open Go.RowKit Fw
namespace Ca
theorem len1 (A : List T2) (z : T2) : (A ++ [z]).length = A.length + 1 := by simp
theorem bitLenAux_le : ∀ (f x : Nat), Lib.bitLenAux f x ≤ f
  | 0, _ => Nat.le_refl _
  | f + 1, x => by
    unfold Lib.bitLenAux
    have := bitLenAux_le f (x / 2)
    split <;> omega
theorem bitLen_le {n : Nat} : Lib.bitLen n ≤ 64 := bitLenAux_le 64 n
/-- the entries of other sets -/
def outT (s x : Int) (t : List T2) : List T2 := t.filter fun q => decide (q.1.tmod s ≠ x.tmod s)
theorem out_take {s x : Int} {t : List T2} {i : Nat} (h : i < t.length) : outT s x (t.take (i + 1)) = outT s x (t.take i) ++ (if (lnT t i).tmod s ≠ x.tmod s then [(lnT t i, agT t i)] else []) := by
  unfold outT
  rw [List.take_add_one, List.filter_append, List.getElem?_eq_getElem h, lnT_get h, agT_get h]
  by_cases q : t[i].1.tmod s = x.tmod s <;> simp [List.filter_cons, q]
/-- one that stands in the line's set, older -/
def old1 (y d : Int) (q : T2) : List T2 := if (if q.2 < d then q.2 + 1 else q.2) < y then [(q.1, if q.2 < d then q.2 + 1 else q.2)] else []
def oldT (y d : Int) (l : List TV) : List T2 := l.flatMap fun q => old1 y d q.1
theorem old_snoc (y d : Int) (l : List TV) (q : TV) : oldT y d (l ++ [q]) = oldT y d l ++ old1 y d q.1 := by simp [oldT]
theorem old1_len (y d : Int) (q : T2) : (old1 y d q).length ≤ 1 := by
  unfold old1
  generalize (if q.2 < d then q.2 + 1 else q.2) = a
  split
  · exact Nat.le_refl _
  · exact Nat.zero_le _
theorem oldT_len (y d : Int) : ∀ l : List TV, (oldT y d l).length ≤ l.length
  | [] => by simp [oldT]
  | q :: r => by
    have := oldT_len y d r
    have h1 := old1_len y d q.1
    simp only [oldT, List.flatMap_cons, List.length_append, List.length_cons] at this ⊢
    omega
theorem infoT : ∃ i, Try.prog.info? 83 = some i ∧ i.zero = some (.agg #[.int .i64 0, .int .i64 0]) ∧ i.size = 2 ∧ i.bytes = 16 := by
  obtain ⟨i, hi, h⟩ := Option.map_eq_some_iff.1 (show (Try.prog.info? 83).map (fun i => (i.zero, i.size, i.bytes)) = some (some (.agg #[.int .i64 0, .int .i64 0]), 2, 16) by kernel_rfl)
  simp only [Prod.mk.injEq] at h
  exact ⟨i, hi, h.1, h.2.1, h.2.2⟩
theorem rd_of {w W : World} {H : List Ent} {b3 b4 b5 : Nat} {p : Option Addr} {t : List T2} {cp : Nat} {s x : Int} (h : HP Tr w W H) (hT : InT w p t) (h3 : Ent.cel b3 #[.slice p t.length cp] 88 ∈ H) (h4 : Ent.cel b4 #[vI s] 3 ∈ H) (h5 : Ent.cel b5 #[vI x] 3 ∈ H) : Rd w.heap.size W b3 b4 b5 p t cp s x :=
  ⟨h.hold _ h3, h.hold _ h4, h.hold _ h5, fun h0 => by
    obtain ⟨g, o, hp, hr⟩ := hT h0
    exact ⟨g, o, hp, World.block_lt_of_cell? w _ (hr 0 h0 0 _ rfl), fun i hi => HP.oldRange h trivial (hr i hi)⟩⟩
theorem ta_of : ∀ {t : List T2}, (∀ i, i < t.length → -1000 ≤ agT t i ∧ agT t i ≤ 1000) → ∃ ta : List TV, t = ta.map (·.1)
  | [], _ => ⟨[], rfl⟩
  | q :: r, h => by
    obtain ⟨ta, rfl⟩ := ta_of (t := r) fun i hi => by have := h (i + 1) (by simpa using hi); simpa [agT] using this
    exact ⟨⟨q, by have := h 0 (by simp); simpa [agT] using this⟩ :: ta, by simp⟩
theorem osA_len (s x : Int) (ta : List TV) : (osA s x ta).length ≤ ta.length := List.length_filter_le _ _
theorem outT_len (s x : Int) (t : List T2) : (outT s x t).length ≤ t.length := List.length_filter_le _ _
theorem sz88 : (Try.prog.info? 88).map (·.size) = some 1 := by kernel_rfl
set_option maxRecDepth 20000 in
set_option maxHeartbeats 4000000 in
theorem SortFunc_any (pv : Option Addr) (cp : Nat) (t : List T2) (w : World) (hB : OwnB w [rowT pv t.length cp t]) (h0 : 0 < t.length) (hn : t.length ≤ 281474976710000) :
    Calls Try.prog 98 #[.slice pv t.length cp, .func (.func 99) #[] #[]] w fun e w' => e = .returned (.tuple #[]) ∧ ∃ t', t'.Perm t ∧ leT t' ∧ HP (Out [rowT pv t.length cp t]) w w' [rowT pv t.length cp t'] := by
  refine calls_of Try.func98 rfl (m := 14) rfl [(0, .slice pv t.length cp), (1, .func (.func 99) #[] #[])] (Fr_enter [.slice pv t.length cp, .func (.func 99) #[] #[]] 14 (Nat.le_of_ble_eq_true rfl)) ?_
  refine WC.seq fun K1 hK1 => WC.region ?_
  refine WL.z (v := .slice pv t.length cp) 5 ?_
  refine WL.z (v := vI (t.length : Int)) 6 ?_
  refine WL.z (v := vI (t.length : Int)) 4 ?_
  refine WL.nil (WQ.then (hK1 _ _ _ (WC.region ?_)))
  refine WL.z (v := .slice pv t.length cp) 7 ?_
  refine WL.z (v := vI (t.length : Int)) 8 ?_
  refine WL.z (v := vI (t.length : Int)) 9 ?_
  refine WL.y (v := .int .u64 ((t.length : Nat) : Int)) 10 (x_convI rfl rfl (by kernel_rfl) (by kernel_rfl) (by kernel_rfl) (by rw [IntKind.wrap_u64]; omega)) ?_
  refine WL.call (f := 113) (args := #[.int .u64 ((t.length : Nat) : Int)]) 11 rfl (Nat.le_of_ble_eq_true rfl) rfl rfl (by kernel_rfl) ?_
  refine (((Try.bits_Len ((t.length : Nat) : Int) _ (by omega) (by omega)).mono fun e w' h => (⟨h.1, h.2.symm⟩ : _ ∧ _ = w'))).mono ?_
  rintro e w2 ⟨rfl, rfl⟩
  refine ⟨_, rfl, ?_⟩
  refine WL.z (v := .func (.func 99) #[] #[]) 12 ?_
  refine WL.call (f := 112) (args := #[.slice pv t.length cp, vI 0, vI (t.length : Int), vI ((Lib.bitLen (Int.toNat ((t.length : Nat) : Int)) : Nat) : Int), .func (.func 99) #[] #[]]) 13 rfl (Nat.le_of_ble_eq_true rfl) rfl rfl (by kernel_rfl) ?_
  refine (pdq_any pv cp t _ _ (HP.ownF (A := [rowT pv t.length cp t]) (B := []) (by simpa using (HP.startB hB))) h0 (by omega) (Nat.le_trans bitLen_le (by omega))).mono ?_
  rintro e w4 ⟨rfl, t', hp, hle, hb4⟩
  refine ⟨_, rfl, ?_⟩
  refine WL.nil ?_
  refine WQ.end0 rfl ?_
  exact ⟨rfl, t', hp, hle, hb4⟩
set_option maxRecDepth 20000 in
set_option maxHeartbeats 4000000 in
theorem aged_any (p : Option Addr) (t : List T2) (ta : List TV) (cp : Nat) (s y l m x d : Int) (w : World) (hT : InT w p t) (ht9 : t = ta.map (·.1)) (hs0 : s ≠ 0) (hd : -1000 ≤ d ∧ d ≤ 1000) (hn : t.length ≤ 100000) :
    Calls Try.prog 82 #[.slice p t.length cp, .agg #[vI s, vI y, vI l, vI m], vI x, vI d] w fun e w' => ∃ t' pv cp', e = .returned (.slice pv t'.length cp') ∧ t'.Perm (outT s x t ++ oldT y d (osA s x ta) ++ [(x, 0)]) ∧ leT t' ∧ HP Tr w w' [rowT pv t'.length cp' t'] := by
  open Fi in
  refine Fi.calls_ofX Try.func82 rfl (m := 66) rfl [(0, .slice p t.length cp), (1, .agg #[vI s, vI y, vI l, vI m]), (2, vI x), (3, vI d)] (Fi.Fr_enter [.slice p t.length cp, .agg #[vI s, vI y, vI l, vI m], vI x, vI d] 66 (Nat.le_of_ble_eq_true rfl)) ?_
  have hH1 : HP Tr w w [] := HP.refl w
  refine XC.seq fun K2 hK2 => ?_
  refine XC.region ?_
  refine XL.alloc (c := #[vI s, vI y, vI l, vI m]) (T := 23) hH1 5 rfl (by decide) rfl rfl (fun b5 => vP b5 0) (by kernel_rfl) (fun b5 w3 hw3 => ?_)
  have hH4 : HP Tr w w3 [.cel b5 #[vI s, vI y, vI l, vI m] 23] := hw3.2
  have nb5 := hw3.1
  clear hw3
  refine XL.alloc (c := #[vI d]) (T := 3) hH4 7 rfl (by decide) rfl rfl (fun b7 => vP b7 0) (by kernel_rfl) (fun b7 w5 hw5 => ?_)
  have hH6 : HP Tr w w5 [.cel b5 #[vI s, vI y, vI l, vI m] 23, .cel b7 #[vI d] 3] := hw5.2
  have nb7 := hw5.1
  clear hw5
  refine XL.pure (v := .slice none 0 0) 8 rfl (Nat.le_of_ble_eq_true rfl) rfl rfl (by kernel_rfl) ?_
  refine XL.nil ?_
  refine XQ.then ?_
  refine hK2 _ _ _ _ ?_
  refine XC.seq fun K7 hK7 => ?_
  refine XC.region ?_
  refine XL.alloc (c := #[]) (T := 83) hH6 14 rfl (by decide) rfl rfl (fun b14 => vS b14 0 0) (by kernel_rfl) (fun b14 w8 hw8 => ?_)
  have hH9 : HP Tr w w8 [.cel b5 #[vI s, vI y, vI l, vI m] 23, .cel b7 #[vI d] 3, .cel b14 #[] 83] := hw8.2
  have nb14 := hw8.1
  clear hw8
  refine XL.alloc (c := #[.slice none 0 0]) (T := 88) hH9 9 rfl (by decide) rfl rfl (fun b9 => vP b9 0) (by kernel_rfl) (fun b9 w10 hw10 => ?_)
  have hH11 : HP Tr w w10 [.cel b5 #[vI s, vI y, vI l, vI m] 23, .cel b7 #[vI d] 3, .cel b14 #[] 83, .cel b9 #[.slice none 0 0] 88] := hw10.2
  have nb9 := hw10.1
  clear hw10
  refine XL.store (H2 := [.cel b5 #[vI s, vI y, vI l, vI m] 23, .cel b7 #[vI d] 3, .cel b14 #[] 83, .cel b9 #[vS b14 0 0] 88]) 3 hH11 rfl rfl rfl rfl rfl rfl sz88 rfl (Nat.le_of_ble_eq_true rfl) rfl rfl ?_
  intro w12 hH13
  refine XL.nil ?_
  refine XQ.then ?_
  refine hK7 _ _ _ _ ?_
  refine XC.seq fun K14 hK14 => ?_
  refine XC.seq fun K15 hK15 => ?_
  have hO9 := HP.celToOwn hH13 2 (k := 0) (cap := 0) (s := 2) rfl (Nat.le_refl _) (by decide) rfl
  have hH16 : HP Tr w _ [.cel b5 #[vI s, vI y, vI l, vI m] 23, .cel b7 #[vI d] 3, rowT (some ⟨b14, 0, none⟩) ([] : List T2).length 0 ([] : List T2), .cel b9 #[.slice (some ⟨b14, 0, none⟩) ([] : List T2).length 0] 88] := HP.eq hO9 rfl
  refine XC.region ?_
  refine XL.pure (v := .slice p t.length cp) 15 rfl (Nat.le_of_ble_eq_true rfl) rfl rfl (by kernel_rfl) ?_
  refine XL.pure (v := vI (t.length : Int)) 16 rfl (Nat.le_of_ble_eq_true rfl) rfl rfl (by kernel_rfl) ?_
  refine XL.pure (v := vI 0) 17 rfl (Nat.le_of_ble_eq_true rfl) rfl rfl (by kernel_rfl) ?_
  refine XL.nil ?_
  refine XQ.then ?_
  refine hK15 _ _ _ _ ?_
  refine XC.block ?_
  refine XC.loop (fun kk0 ll0 ww0 => ∃ (i : Nat) (A : List T2) (pv : Option Addr) (cp2 : Nat), ll0 = [(0, .slice p t.length cp), (2, vI x), (5, vP b5 0), (7, vP b7 0), (9, vP b9 0), (15, .slice p t.length cp), (16, vI (t.length : Int)), (17, vI (i : Int))] ∧ kk0 = t.length - i ∧ (i ≤ t.length) ∧ (A = outT s x (t.take i)) ∧ (A.length ≤ i) ∧ HP Tr w ww0 [.cel b5 #[vI s, vI y, vI l, vI m] 23, .cel b7 #[vI d] 3, rowT pv A.length cp2 A, .cel b9 #[.slice pv A.length cp2] 88]) (t.length) [(0, .slice p t.length cp), (2, vI x), (5, vP b5 0), (7, vP b7 0), (9, vP b9 0), (15, .slice p t.length cp), (16, vI (t.length : Int)), (17, vI 0)] ⟨rfl, rfl, rfl, rfl, rfl, rfl, rfl, rfl, trivial⟩ ⟨0, [], (some ⟨b14, 0, none⟩), 0, rfl, rfl, Nat.zero_le _, by simp [outT], Nat.zero_le _, hH16⟩ ?_
  rintro kk l w18 ⟨i, A, pv, cp2, rfl, hkk, hi, hA, hAl, hH19⟩ K17 hK17
  refine XC.seq fun K20 hK20 => ?_
  refine XC.region ?_
  by_cases hlt : (i : Int) < (t.length : Int)
  ·
    refine XL.pure (v := .bool true) 18 rfl (Nat.le_of_ble_eq_true rfl) rfl rfl (x_lss rfl rfl rfl (dT (hlt))) ?_
    refine XL.nil ?_
    refine XQ.then ?_
    refine hK20 _ _ _ _ ?_
    refine XC.seq fun K21 hK21 => ?_
    refine XC.yes rfl ?_
    refine XC.skip ?_
    refine XQ.then ?_
    refine hK21 _ _ _ _ ?_
    refine XC.seq fun K22 hK22 => ?_
    refine XC.block ?_
    refine XC.seq fun K23 hK23 => ?_
    obtain ⟨g, o, rfl, hrow⟩ := hT (by omega)
    have hot := out_take (s := s) (x := x) (show i < t.length by omega)
    refine XC.region ?_
    refine XL.pure (v := vP g (o + i * 2)) 19 rfl (Nat.le_of_ble_eq_true rfl) rfl rfl (x_idx (i) (o + i * 2) rfl rfl rfl Try.underlying88 sz83 (by omega) (by omega) (by omega)) ?_
    refine XL.pure (v := .agg #[vI (lnT t i), vI (agT t i)]) 20 rfl (Nat.le_of_ble_eq_true rfl) rfl rfl (x_loadS (cs := [vI (lnT t i), vI (agT t i)]) rfl rfl Try.underlying83 rfl sz83 (HP.oldRange hH19 trivial (hrow i (by omega)))) ?_
    refine XL.alloc (c := #[vI 0, vI 0]) (T := 83) hH19 11 rfl (by decide) rfl rfl (fun b11 => vP b11 0) (by kernel_rfl) (fun b11 w24 hw24 => ?_)
    have hH25 : HP Tr w w24 [.cel b5 #[vI s, vI y, vI l, vI m] 23, .cel b7 #[vI d] 3, rowT pv A.length cp2 A, .cel b9 #[.slice pv A.length cp2] 88, .cel b11 #[vI 0, vI 0] 83] := hw24.2
    have nb11 := hw24.1
    clear hw24
    refine XL.storeS (H2 := [.cel b5 #[vI s, vI y, vI l, vI m] 23, .cel b7 #[vI d] 3, rowT pv A.length cp2 A, .cel b9 #[.slice pv A.length cp2] 88, .cel b11 #[vI (lnT t i), vI (agT t i)] 83]) 4 hH25 rfl rfl rfl rfl rfl rfl sz83 rfl (Nat.le_of_ble_eq_true rfl) rfl rfl ?_
    intro w26 hH27
    refine XL.nil ?_
    refine XQ.then ?_
    refine hK23 _ _ _ _ ?_
    refine XC.seq fun K28 hK28 => ?_
    by_cases hx2 : (lnT t i).tmod s = x.tmod s
    ·
      rw [if_neg (fun h => h hx2), List.append_nil] at hot
      refine XC.confH (γ := Unit) [(11, vP b11 0), (20, .agg #[vI (lnT t i), vI (agT t i)]), (19, vP g (o + i * 2)), (18, .bool true), (0, .slice (some ⟨g, o, none⟩) t.length cp), (2, vI x), (5, vP b5 0), (7, vP b7 0), (9, vP b9 0), (15, .slice (some ⟨g, o, none⟩) t.length cp), (16, vI (t.length : Int)), (17, vI (i : Int))] (fun gy => [vP b11 0, vI (lnT t i), vP b5 0, vI s, vI ((lnT t i).tmod s), vI x, vP b5 0, vI s, vI (x.tmod s), .bool false]) (fun gy D wz => HP Tr w wz [.cel b5 #[vI s, vI y, vI l, vI m] 23, .cel b7 #[vI d] 3, rowT pv A.length cp2 A, .cel b9 #[.slice pv A.length cp2] 88, .cel b11 #[vI (lnT t i), vI (agT t i)] 83]) () (by kernel_rfl) ⟨rfl, rfl, rfl, rfl, rfl, rfl, rfl, rfl, rfl, rfl, rfl, rfl, trivial⟩ (by kernel_rfl) (by kernel_rfl) (by kernel_rfl) (fun _ => rfl) (by kernel_rfl) (HP.drew hH27) ?_ ?_
      · refine AllOkX.cons ?o0 (AllOkX.cons ?o1 (AllOkX.cons ?o2 (AllOkX.cons ?o3 (AllOkX.cons ?o4 (AllOkX.cons ?o5 (AllOkX.cons ?o6 (AllOkX.cons ?o7 (AllOkX.cons ?o8 (AllOkX.cons ?o9 (AllOkX.nil _))))))))))
        case o0 =>
          intro gy D wz hDi hdep hclo hW
          exact .inl ⟨rfl, rfl, .inl ⟨gy, wz, fun _ _ => rfl, x_idxArr (0) (0) rfl rfl rfl Try.underlying83 sz3 (by omega) (by omega) (by omega), hW⟩⟩
        case o1 =>
          intro gy D wz hDi hdep hclo hW
          exact .inl ⟨rfl, rfl, .inl ⟨gy, wz, fun _ _ => rfl, x_load rfl rfl Try.underlying3 rfl (HP.cell hW 4 rfl rfl), hW⟩⟩
        case o2 =>
          intro gy D wz hDi hdep hclo hW
          exact .inl ⟨rfl, rfl, .inl ⟨gy, wz, fun _ _ => rfl, by kernel_rfl, hW⟩⟩
        case o3 =>
          intro gy D wz hDi hdep hclo hW
          exact .inl ⟨rfl, rfl, .inl ⟨gy, wz, fun _ _ => rfl, x_load rfl rfl Try.underlying3 rfl (HP.cell hW 0 rfl rfl), hW⟩⟩
        case o4 =>
          intro gy D wz hDi hdep hclo hW
          exact .inl ⟨rfl, rfl, .inl ⟨gy, wz, fun _ _ => rfl, x_rem rfl rfl rfl hs0 rfl, hW⟩⟩
        case o5 =>
          intro gy D wz hDi hdep hclo hW
          exact .inl ⟨rfl, rfl, .inl ⟨gy, wz, fun _ _ => rfl, by kernel_rfl, hW⟩⟩
        case o6 =>
          intro gy D wz hDi hdep hclo hW
          exact .inl ⟨rfl, rfl, .inl ⟨gy, wz, fun _ _ => rfl, by kernel_rfl, hW⟩⟩
        case o7 =>
          intro gy D wz hDi hdep hclo hW
          exact .inl ⟨rfl, rfl, .inl ⟨gy, wz, fun _ _ => rfl, x_load rfl rfl Try.underlying3 rfl (HP.cell hW 0 rfl rfl), hW⟩⟩
        case o8 =>
          intro gy D wz hDi hdep hclo hW
          exact .inl ⟨rfl, rfl, .inl ⟨gy, wz, fun _ _ => rfl, x_rem rfl rfl rfl hs0 rfl, hW⟩⟩
        case o9 =>
          intro gy D wz hDi hdep hclo hW
          exact .inl ⟨rfl, rfl, .inl ⟨gy, wz, fun _ _ => rfl, x_neq rfl rfl rfl (dF (fun h => h hx2)), hW⟩⟩
      rintro gy D w29 hall hH30
      clear hall
      refine XQ.sub (l' := [(0, .slice (some ⟨g, o, none⟩) t.length cp), (2, vI x), (5, vP b5 0), (7, vP b7 0), (9, vP b9 0), (11, vP b11 0), (15, .slice (some ⟨g, o, none⟩) t.length cp), (16, vI (t.length : Int)), (17, vI (i : Int)), (18, .bool true), (30, .bool false)]) ⟨rfl, rfl, rfl, rfl, rfl, rfl, rfl, rfl, rfl, rfl, rfl, trivial⟩ ?_
      refine XQ.then ?_
      refine hK28 _ _ _ _ ?_
      refine XC.no rfl ?_
      refine XC.skip ?_
      refine XQ.inNormal ?_
      refine XQ.then ?_
      refine hK22 _ _ _ _ ?_
      refine XC.region ?_
      refine XL.pure (v := vI ((i + 1 : Nat) : Int)) 35 rfl (Nat.le_of_ble_eq_true rfl) rfl rfl (x_add (Z := ((i + 1 : Nat) : Int)) rfl rfl rfl (by omega) (by omega) (by omega)) ?_
      refine XL.pure (v := vI ((i + 1 : Nat) : Int)) 17 rfl (Nat.le_of_ble_eq_true rfl) rfl rfl (by kernel_rfl) ?_
      refine XL.nil ?_
      refine XQ.sub (l' := [(0, .slice (some ⟨g, o, none⟩) t.length cp), (2, vI x), (5, vP b5 0), (7, vP b7 0), (9, vP b9 0), (15, .slice (some ⟨g, o, none⟩) t.length cp), (16, vI (t.length : Int)), (17, vI ((i + 1 : Nat) : Int))]) ⟨rfl, rfl, rfl, rfl, rfl, rfl, rfl, rfl, trivial⟩ ?_
      refine XQ.then (hK17 _ _ _ (by omega) ⟨i + 1, A, pv, cp2, rfl, rfl, by omega, by rw [hot, hA], by first | omega | (simp; omega), (HP.drop hH30 4)⟩)
    ·
      rw [if_pos hx2] at hot
      refine XC.confH (γ := Unit) [(11, vP b11 0), (20, .agg #[vI (lnT t i), vI (agT t i)]), (19, vP g (o + i * 2)), (18, .bool true), (0, .slice (some ⟨g, o, none⟩) t.length cp), (2, vI x), (5, vP b5 0), (7, vP b7 0), (9, vP b9 0), (15, .slice (some ⟨g, o, none⟩) t.length cp), (16, vI (t.length : Int)), (17, vI (i : Int))] (fun gy => [vP b11 0, vI (lnT t i), vP b5 0, vI s, vI ((lnT t i).tmod s), vI x, vP b5 0, vI s, vI (x.tmod s), .bool true]) (fun gy D wz => HP Tr w wz [.cel b5 #[vI s, vI y, vI l, vI m] 23, .cel b7 #[vI d] 3, rowT pv A.length cp2 A, .cel b9 #[.slice pv A.length cp2] 88, .cel b11 #[vI (lnT t i), vI (agT t i)] 83]) () (by kernel_rfl) ⟨rfl, rfl, rfl, rfl, rfl, rfl, rfl, rfl, rfl, rfl, rfl, rfl, trivial⟩ (by kernel_rfl) (by kernel_rfl) (by kernel_rfl) (fun _ => rfl) (by kernel_rfl) (HP.drew hH27) ?_ ?_
      · refine AllOkX.cons ?o0 (AllOkX.cons ?o1 (AllOkX.cons ?o2 (AllOkX.cons ?o3 (AllOkX.cons ?o4 (AllOkX.cons ?o5 (AllOkX.cons ?o6 (AllOkX.cons ?o7 (AllOkX.cons ?o8 (AllOkX.cons ?o9 (AllOkX.nil _))))))))))
        case o0 =>
          intro gy D wz hDi hdep hclo hW
          exact .inl ⟨rfl, rfl, .inl ⟨gy, wz, fun _ _ => rfl, x_idxArr (0) (0) rfl rfl rfl Try.underlying83 sz3 (by omega) (by omega) (by omega), hW⟩⟩
        case o1 =>
          intro gy D wz hDi hdep hclo hW
          exact .inl ⟨rfl, rfl, .inl ⟨gy, wz, fun _ _ => rfl, x_load rfl rfl Try.underlying3 rfl (HP.cell hW 4 rfl rfl), hW⟩⟩
        case o2 =>
          intro gy D wz hDi hdep hclo hW
          exact .inl ⟨rfl, rfl, .inl ⟨gy, wz, fun _ _ => rfl, by kernel_rfl, hW⟩⟩
        case o3 =>
          intro gy D wz hDi hdep hclo hW
          exact .inl ⟨rfl, rfl, .inl ⟨gy, wz, fun _ _ => rfl, x_load rfl rfl Try.underlying3 rfl (HP.cell hW 0 rfl rfl), hW⟩⟩
        case o4 =>
          intro gy D wz hDi hdep hclo hW
          exact .inl ⟨rfl, rfl, .inl ⟨gy, wz, fun _ _ => rfl, x_rem rfl rfl rfl hs0 rfl, hW⟩⟩
        case o5 =>
          intro gy D wz hDi hdep hclo hW
          exact .inl ⟨rfl, rfl, .inl ⟨gy, wz, fun _ _ => rfl, by kernel_rfl, hW⟩⟩
        case o6 =>
          intro gy D wz hDi hdep hclo hW
          exact .inl ⟨rfl, rfl, .inl ⟨gy, wz, fun _ _ => rfl, by kernel_rfl, hW⟩⟩
        case o7 =>
          intro gy D wz hDi hdep hclo hW
          exact .inl ⟨rfl, rfl, .inl ⟨gy, wz, fun _ _ => rfl, x_load rfl rfl Try.underlying3 rfl (HP.cell hW 0 rfl rfl), hW⟩⟩
        case o8 =>
          intro gy D wz hDi hdep hclo hW
          exact .inl ⟨rfl, rfl, .inl ⟨gy, wz, fun _ _ => rfl, x_rem rfl rfl rfl hs0 rfl, hW⟩⟩
        case o9 =>
          intro gy D wz hDi hdep hclo hW
          exact .inl ⟨rfl, rfl, .inl ⟨gy, wz, fun _ _ => rfl, x_neq rfl rfl rfl (dT (hx2)), hW⟩⟩
      rintro gy D w31 hall hH32
      clear hall
      refine XQ.sub (l' := [(0, .slice (some ⟨g, o, none⟩) t.length cp), (2, vI x), (5, vP b5 0), (7, vP b7 0), (9, vP b9 0), (11, vP b11 0), (15, .slice (some ⟨g, o, none⟩) t.length cp), (16, vI (t.length : Int)), (17, vI (i : Int)), (18, .bool true), (30, .bool true)]) ⟨rfl, rfl, rfl, rfl, rfl, rfl, rfl, rfl, rfl, rfl, rfl, trivial⟩ ?_
      refine XQ.then ?_
      refine hK28 _ _ _ _ ?_
      refine XC.yes rfl ?_
      refine XC.region ?_
      refine XL.pure (v := .slice pv A.length cp2) 31 rfl (Nat.le_of_ble_eq_true rfl) rfl rfl (x_load rfl rfl Try.underlying88 rfl (HP.cell hH32 3 rfl rfl)) ?_
      refine XL.pure (v := .agg #[vI (lnT t i), vI (agT t i)]) 32 rfl (Nat.le_of_ble_eq_true rfl) rfl rfl (x_loadS (cs := [vI (lnT t i), vI (agT t i)]) rfl rfl Try.underlying83 rfl sz83 (HP.range hH32 4 rfl rfl)) ?_
      refine XL.alloc (c := #[vI (lnT t i), vI (agT t i)]) (T := 83) hH32 33 rfl (by decide) rfl rfl (fun b33 => vS b33 1 1) (by kernel_rfl) (fun b33 w33 hw33 => ?_)
      have hH34 : HP Tr w w33 [.cel b5 #[vI s, vI y, vI l, vI m] 23, .cel b7 #[vI d] 3, rowT pv A.length cp2 A, .cel b9 #[.slice pv A.length cp2] 88, .cel b11 #[vI (lnT t i), vI (agT t i)] 83, .cel b33 #[vI (lnT t i), vI (agT t i)] 83] := hw33.2
      have nb33 := hw33.1
      clear hw33
      obtain ⟨i0, hi0, hz0, hz1, hz2⟩ := infoT
      refine XL.append (news := [vI (lnT t i), vI (agT t i)]) 2 5 hH34 34 rfl (by decide) rfl rfl rfl rfl Try.underlying88 hi0 hz0 hz1 hz2 rfl (by decide) rfl rfl rfl rfl (by simp [Value.oneCell']) (by unfold maxLen; omega) (by omega) ?_
      rintro v7 w7 - hA7
      obtain ⟨pv7, cp7, rfl⟩ := own_row (HP.get hA7 2 rfl)
      have e7 : A.length + 1 = (A ++ [(lnT t i, agT t i)]).length := (len1 _ _).symm
      rw [tL_push, e7] at hA7
      rw [e7]
      have hH35 : HP Tr w _ [.cel b5 #[vI s, vI y, vI l, vI m] 23, .cel b7 #[vI d] 3, rowT pv7 (A ++ [(lnT t i, agT t i)]).length cp7 (A ++ [(lnT t i, agT t i)]), .cel b9 #[.slice pv A.length cp2] 88, .cel b11 #[vI (lnT t i), vI (agT t i)] 83, .cel b33 #[vI (lnT t i), vI (agT t i)] 83] := hA7
      refine XL.store (H2 := [.cel b5 #[vI s, vI y, vI l, vI m] 23, .cel b7 #[vI d] 3, rowT pv7 (A ++ [(lnT t i, agT t i)]).length cp7 (A ++ [(lnT t i, agT t i)]), .cel b9 #[.slice pv7 ((A ++ [(lnT t i, agT t i)]).length) cp7] 88, .cel b11 #[vI (lnT t i), vI (agT t i)] 83, .cel b33 #[vI (lnT t i), vI (agT t i)] 83]) 3 hH35 rfl rfl rfl rfl rfl rfl sz88 rfl (Nat.le_of_ble_eq_true rfl) rfl rfl ?_
      intro w36 hH37
      refine XL.nil ?_
      refine XQ.inNormal ?_
      refine XQ.then ?_
      refine hK22 _ _ _ _ ?_
      refine XC.region ?_
      refine XL.pure (v := vI ((i + 1 : Nat) : Int)) 35 rfl (Nat.le_of_ble_eq_true rfl) rfl rfl (x_add (Z := ((i + 1 : Nat) : Int)) rfl rfl rfl (by omega) (by omega) (by omega)) ?_
      refine XL.pure (v := vI ((i + 1 : Nat) : Int)) 17 rfl (Nat.le_of_ble_eq_true rfl) rfl rfl (by kernel_rfl) ?_
      refine XL.nil ?_
      refine XQ.sub (l' := [(0, .slice (some ⟨g, o, none⟩) t.length cp), (2, vI x), (5, vP b5 0), (7, vP b7 0), (9, vP b9 0), (15, .slice (some ⟨g, o, none⟩) t.length cp), (16, vI (t.length : Int)), (17, vI ((i + 1 : Nat) : Int))]) ⟨rfl, rfl, rfl, rfl, rfl, rfl, rfl, rfl, trivial⟩ ?_
      refine XQ.then (hK17 _ _ _ (by omega) ⟨i + 1, (A ++ [(lnT t i, agT t i)]), pv7, cp7, rfl, rfl, by omega, by rw [hot, hA], by first | omega | (simp; omega), (HP.drop (HP.drop hH37 5) 4)⟩)
  ·
    refine XL.pure (v := .bool false) 18 rfl (Nat.le_of_ble_eq_true rfl) rfl rfl (x_lss rfl rfl rfl (dF (hlt))) ?_
    refine XL.nil ?_
    refine XQ.then ?_
    refine hK20 _ _ _ _ ?_
    refine XC.seq fun K38 hK38 => ?_
    refine XC.no rfl ?_
    refine XC.exit ?_
    refine XQ.thenExit ?_
    refine XQ.thenExit ?_
    refine XQ.inExit ?_
    refine XQ.then ?_
    refine hK14 _ _ _ _ ?_
    refine XC.seq fun K39 hK39 => ?_
    refine XC.seq fun K40 hK40 => ?_
    refine XC.region ?_
    refine XL.pure (v := .slice p t.length cp) 36 rfl (Nat.le_of_ble_eq_true rfl) rfl rfl (by kernel_rfl) ?_
    refine XL.pure (v := vP b5 0) 37 rfl (Nat.le_of_ble_eq_true rfl) rfl rfl (by kernel_rfl) ?_
    refine XL.pure (v := vI s) 38 rfl (Nat.le_of_ble_eq_true rfl) rfl rfl (x_load rfl rfl Try.underlying3 rfl (HP.cell hH19 0 rfl rfl)) ?_
    refine XL.pure (v := vI x) 39 rfl (Nat.le_of_ble_eq_true rfl) rfl rfl (by kernel_rfl) ?_
    have hA9 : A = outT s x t := by rw [hA, List.take_of_length_le (by omega)]
    subst hA9
    refine XL.call (f := 97) (args := #[.slice p t.length cp, vI s, vI x]) 40 rfl (Nat.le_of_ble_eq_true rfl) rfl rfl (by kernel_rfl) ?_
    refine (others_any p t cp s x _).mono ?_
    rintro e w41 ⟨q3, q4, q5, rfl, hb42⟩
    refine ⟨_, rfl, ?_⟩
    have hH43 : HP Tr w _ [.cel b5 #[vI s, vI y, vI l, vI m] 23, .cel b7 #[vI d] 3, rowT pv (outT s x t).length cp2 (outT s x t), .cel b9 #[.slice pv (outT s x t).length cp2] 88, .cel q3 #[.slice p t.length cp] 88, .cel q4 #[vI s] 3, .cel q5 #[vI x] 3] := HP.trans hH19 hb42
    refine XL.nil ?_
    refine XQ.then ?_
    refine hK40 _ _ _ _ ?_
    refine XC.block ?_
    have hbase : outT s x t = outT s x t ++ oldT y d [] := by simp [oldT]
    have hW8 := hH43
    have hosl := osA_len s x ta
    have houl := outT_len s x t
    have hl9 : t.length = ta.length := by rw [ht9]; simp
    refine XC.rangeFunc2 (w0 := w) (Hf := fun (pre : List TV) (gx : Option Addr × Nat) => [Go.Proofs.Ytmjnakhpekbenaa.Fw.Ent.cel b5 #[vI s, vI y, vI l, vI m] 23, Go.Proofs.Ytmjnakhpekbenaa.Fw.Ent.cel b7 #[vI d] 3, rowT gx.1 (outT s x t ++ oldT y d pre).length gx.2 (outT s x t ++ oldT y d pre), Go.Proofs.Ytmjnakhpekbenaa.Fw.Ent.cel b9 #[.slice gx.1 (outT s x t ++ oldT y d pre).length gx.2] 88, Go.Proofs.Ytmjnakhpekbenaa.Fw.Ent.cel q3 #[.slice p t.length cp] 88, Go.Proofs.Ytmjnakhpekbenaa.Fw.Ent.cel q4 #[vI s] 3, Go.Proofs.Ytmjnakhpekbenaa.Fw.Ent.cel q5 #[vI x] 3]) (KB := [q3, q4, q5]) rfl (enters_of Try.func111 (by kernel_rfl) rfl) (fun q : TV => vI q.1.1) (fun q : TV => vI q.1.2) (others_stops w.heap.size _ q3 q4 q5 p ta t ht9 cp s x hs0 (by omega) (HP.below hW8).size (rd_of hW8 hT (by simp) (by simp) (by simp))) ?_ (pv, cp2) (HP.eq hW8 (by simp [oldT])) (by decide) (by decide) (by decide) (by decide) (by decide) (by decide) ?_ ?_
    · intro bb hbb
      simp only [List.mem_cons, List.not_mem_nil, or_false] at hbb
      rcases hbb with rfl | rfl | rfl
      · exact ⟨_, _, fun pre gx => List.mem_of_getElem? (i := 4) rfl⟩
      · exact ⟨_, _, fun pre gx => List.mem_of_getElem? (i := 5) rfl⟩
      · exact ⟨_, _, fun pre gx => List.mem_of_getElem? (i := 6) rfl⟩
    · rintro ll pre qx W ⟨pv9, cp9⟩ hlt hOB
      have hold9 := oldT_len y d pre
      have hqx := qx.2
      have hH44 : HP (Out [Go.Proofs.Ytmjnakhpekbenaa.Fw.Ent.cel b5 #[vI s, vI y, vI l, vI m] 23, Go.Proofs.Ytmjnakhpekbenaa.Fw.Ent.cel b7 #[vI d] 3, rowT pv9 (outT s x t ++ oldT y d pre).length cp9 (outT s x t ++ oldT y d pre), Go.Proofs.Ytmjnakhpekbenaa.Fw.Ent.cel b9 #[.slice pv9 (outT s x t ++ oldT y d pre).length cp9] 88, Go.Proofs.Ytmjnakhpekbenaa.Fw.Ent.cel q3 #[.slice p t.length cp] 88, Go.Proofs.Ytmjnakhpekbenaa.Fw.Ent.cel q4 #[vI s] 3, Go.Proofs.Ytmjnakhpekbenaa.Fw.Ent.cel q5 #[vI x] 3]) W W [.cel b5 #[vI s, vI y, vI l, vI m] 23, .cel b7 #[vI d] 3, rowT pv9 (outT s x t ++ oldT y d pre).length cp9 (outT s x t ++ oldT y d pre), .cel b9 #[.slice pv9 (outT s x t ++ oldT y d pre).length cp9] 88, .cel q3 #[.slice p t.length cp] 88, .cel q4 #[vI s] 3, .cel q5 #[vI x] 3] := HP.startB hOB
      refine XC.block ?_
      refine XC.seq fun K45 hK45 => ?_
      refine XC.seq fun K46 hK46 => ?_
      refine XC.region ?_
      refine XL.pure (v := vI qx.1.2) 43 rfl (Nat.le_of_ble_eq_true rfl) rfl rfl (by kernel_rfl) ?_
      refine XL.pure (v := vI d) 44 rfl (Nat.le_of_ble_eq_true rfl) rfl rfl (x_load rfl rfl Try.underlying3 rfl (HP.cell hH44 1 rfl rfl)) ?_
      by_cases h45 : qx.1.2 < d
      ·
        refine XL.pure (v := .bool true) 45 rfl (Nat.le_of_ble_eq_true rfl) rfl rfl (x_lss rfl rfl rfl (dT (h45))) ?_
        refine XL.nil ?_
        refine XQ.then ?_
        refine hK46 _ _ _ _ ?_
        refine XC.sub (l' := [(0, .slice p t.length cp), (2, vI x), (5, vP b5 0), (7, vP b7 0), (9, vP b9 0), (12, vI qx.1.1), (13, vI qx.1.2), (15, .slice p t.length cp), (16, vI (t.length : Int)), (17, vI (i : Int)), (18, .bool false), (45, .bool true)]) ⟨rfl, rfl, rfl, rfl, rfl, rfl, rfl, rfl, rfl, rfl, rfl, rfl, trivial⟩ ?_
        refine XC.yes rfl ?_
        refine XC.region ?_
        refine XL.pure (v := vI qx.1.2) 46 rfl (Nat.le_of_ble_eq_true rfl) rfl rfl (by kernel_rfl) ?_
        refine XL.pure (v := vI (qx.1.2 + 1)) 47 rfl (Nat.le_of_ble_eq_true rfl) rfl rfl (x_add (Z := qx.1.2 + 1) rfl rfl rfl (by omega) (by omega) (by omega)) ?_
        refine XL.pure (v := vI (qx.1.2 + 1)) 13 rfl (Nat.le_of_ble_eq_true rfl) rfl rfl (by kernel_rfl) ?_
        refine XL.nil ?_
        refine XQ.then ?_
        refine hK45 _ _ _ _ ?_
        refine XC.seq fun K47 hK47 => ?_
        refine XC.region ?_
        refine XL.pure (v := vI (qx.1.2 + 1)) 48 rfl (Nat.le_of_ble_eq_true rfl) rfl rfl (by kernel_rfl) ?_
        refine XL.pure (v := vP b5 1) 49 rfl (Nat.le_of_ble_eq_true rfl) rfl rfl (by kernel_rfl) ?_
        refine XL.pure (v := vI y) 50 rfl (Nat.le_of_ble_eq_true rfl) rfl rfl (x_load rfl rfl Try.underlying3 rfl (HP.cell hH44 0 rfl rfl)) ?_
        by_cases h51 : qx.1.2 + 1 < y
        ·
          refine XL.pure (v := .bool true) 51 rfl (Nat.le_of_ble_eq_true rfl) rfl rfl (x_lss rfl rfl rfl (dT (h51))) ?_
          refine XL.nil ?_
          refine XQ.then ?_
          refine hK47 _ _ _ _ ?_
          refine XC.sub (l' := [(0, .slice p t.length cp), (2, vI x), (5, vP b5 0), (7, vP b7 0), (9, vP b9 0), (12, vI qx.1.1), (13, vI (qx.1.2 + 1)), (15, .slice p t.length cp), (16, vI (t.length : Int)), (17, vI (i : Int)), (18, .bool false), (45, .bool true), (51, .bool true)]) ⟨rfl, rfl, rfl, rfl, rfl, rfl, rfl, rfl, rfl, rfl, rfl, rfl, rfl, trivial⟩ ?_
          refine XC.yes rfl ?_
          refine XC.region ?_
          refine XL.pure (v := .slice pv9 ((outT s x t ++ oldT y d pre).length) cp9) 52 rfl (Nat.le_of_ble_eq_true rfl) rfl rfl (x_load rfl rfl Try.underlying88 rfl (HP.cell hH44 3 rfl rfl)) ?_
          refine XL.pure (v := vI qx.1.1) 53 rfl (Nat.le_of_ble_eq_true rfl) rfl rfl (by kernel_rfl) ?_
          refine XL.pure (v := vI (qx.1.2 + 1)) 54 rfl (Nat.le_of_ble_eq_true rfl) rfl rfl (by kernel_rfl) ?_
          refine XL.pure (v := .agg #[vI qx.1.1, vI (qx.1.2 + 1)]) 55 rfl (Nat.le_of_ble_eq_true rfl) rfl rfl (by kernel_rfl) ?_
          refine XL.alloc (c := #[vI qx.1.1, vI (qx.1.2 + 1)]) (T := 83) hH44 56 rfl (by decide) rfl rfl (fun b56 => vS b56 1 1) (by kernel_rfl) (fun b56 w48 hw48 => ?_)
          have hH49 : HP (Out [Go.Proofs.Ytmjnakhpekbenaa.Fw.Ent.cel b5 #[vI s, vI y, vI l, vI m] 23, Go.Proofs.Ytmjnakhpekbenaa.Fw.Ent.cel b7 #[vI d] 3, rowT pv9 (outT s x t ++ oldT y d pre).length cp9 (outT s x t ++ oldT y d pre), Go.Proofs.Ytmjnakhpekbenaa.Fw.Ent.cel b9 #[.slice pv9 (outT s x t ++ oldT y d pre).length cp9] 88, Go.Proofs.Ytmjnakhpekbenaa.Fw.Ent.cel q3 #[.slice p t.length cp] 88, Go.Proofs.Ytmjnakhpekbenaa.Fw.Ent.cel q4 #[vI s] 3, Go.Proofs.Ytmjnakhpekbenaa.Fw.Ent.cel q5 #[vI x] 3]) W w48 [.cel b5 #[vI s, vI y, vI l, vI m] 23, .cel b7 #[vI d] 3, rowT pv9 (outT s x t ++ oldT y d pre).length cp9 (outT s x t ++ oldT y d pre), .cel b9 #[.slice pv9 (outT s x t ++ oldT y d pre).length cp9] 88, .cel q3 #[.slice p t.length cp] 88, .cel q4 #[vI s] 3, .cel q5 #[vI x] 3, .cel b56 #[vI qx.1.1, vI (qx.1.2 + 1)] 83] := hw48.2
          have nb56 := hw48.1
          clear hw48
          obtain ⟨i0, hi0, hz0, hz1, hz2⟩ := infoT
          refine XL.append (news := [vI qx.1.1, vI (qx.1.2 + 1)]) 2 7 hH49 57 rfl (by decide) rfl rfl rfl rfl Try.underlying88 hi0 hz0 hz1 hz2 rfl (by decide) rfl rfl rfl rfl (by simp [Value.oneCell']) (by unfold maxLen; rw [List.length_append]; omega) (by rw [List.length_append]; omega) ?_
          rintro v7 w7 - hA7
          obtain ⟨pv7, cp7, rfl⟩ := own_row (HP.get hA7 2 rfl)
          have e7 : (outT s x t ++ oldT y d pre).length + 1 = ((outT s x t ++ oldT y d pre) ++ [(qx.1.1, qx.1.2 + 1)]).length := (len1 _ _).symm
          rw [tL_push, e7] at hA7
          rw [e7]
          have hH50 : HP (Out [Go.Proofs.Ytmjnakhpekbenaa.Fw.Ent.cel b5 #[vI s, vI y, vI l, vI m] 23, Go.Proofs.Ytmjnakhpekbenaa.Fw.Ent.cel b7 #[vI d] 3, rowT pv9 (outT s x t ++ oldT y d pre).length cp9 (outT s x t ++ oldT y d pre), Go.Proofs.Ytmjnakhpekbenaa.Fw.Ent.cel b9 #[.slice pv9 (outT s x t ++ oldT y d pre).length cp9] 88, Go.Proofs.Ytmjnakhpekbenaa.Fw.Ent.cel q3 #[.slice p t.length cp] 88, Go.Proofs.Ytmjnakhpekbenaa.Fw.Ent.cel q4 #[vI s] 3, Go.Proofs.Ytmjnakhpekbenaa.Fw.Ent.cel q5 #[vI x] 3]) W _ [.cel b5 #[vI s, vI y, vI l, vI m] 23, .cel b7 #[vI d] 3, rowT pv7 ((outT s x t ++ oldT y d pre) ++ [(qx.1.1, qx.1.2 + 1)]).length cp7 ((outT s x t ++ oldT y d pre) ++ [(qx.1.1, qx.1.2 + 1)]), .cel b9 #[.slice pv9 (outT s x t ++ oldT y d pre).length cp9] 88, .cel q3 #[.slice p t.length cp] 88, .cel q4 #[vI s] 3, .cel q5 #[vI x] 3, .cel b56 #[vI qx.1.1, vI (qx.1.2 + 1)] 83] := hA7
          refine XL.store (H2 := [.cel b5 #[vI s, vI y, vI l, vI m] 23, .cel b7 #[vI d] 3, rowT pv7 ((outT s x t ++ oldT y d pre) ++ [(qx.1.1, qx.1.2 + 1)]).length cp7 ((outT s x t ++ oldT y d pre) ++ [(qx.1.1, qx.1.2 + 1)]), .cel b9 #[.slice pv7 (((outT s x t ++ oldT y d pre) ++ [(qx.1.1, qx.1.2 + 1)]).length) cp7] 88, .cel q3 #[.slice p t.length cp] 88, .cel q4 #[vI s] 3, .cel q5 #[vI x] 3, .cel b56 #[vI qx.1.1, vI (qx.1.2 + 1)] 83]) 3 hH50 rfl rfl rfl rfl rfl rfl sz88 rfl (Nat.le_of_ble_eq_true rfl) rfl rfl ?_
          intro w51 hH52
          refine XL.nil ?_
          refine XQ.inNormal ?_
          exact fun _ _ => ⟨(pv7, cp7), HP.eq (HP.drop hH52 7) (by rw [old_snoc, show old1 y d qx.1 = [(qx.1.1, qx.1.2 + 1)] by unfold old1; simp [h45, h51], ← List.append_assoc]; rfl)⟩
        ·
          refine XL.pure (v := .bool false) 51 rfl (Nat.le_of_ble_eq_true rfl) rfl rfl (x_lss rfl rfl rfl (dF (h51))) ?_
          refine XL.nil ?_
          refine XQ.then ?_
          refine hK47 _ _ _ _ ?_
          refine XC.sub (l' := [(0, .slice p t.length cp), (2, vI x), (5, vP b5 0), (7, vP b7 0), (9, vP b9 0), (12, vI qx.1.1), (13, vI (qx.1.2 + 1)), (15, .slice p t.length cp), (16, vI (t.length : Int)), (17, vI (i : Int)), (18, .bool false), (45, .bool true), (51, .bool false)]) ⟨rfl, rfl, rfl, rfl, rfl, rfl, rfl, rfl, rfl, rfl, rfl, rfl, rfl, trivial⟩ ?_
          refine XC.no rfl ?_
          refine XC.skip ?_
          refine XQ.inNormal ?_
          exact fun _ _ => ⟨(pv9, cp9), HP.eq hH44 (by rw [old_snoc, show old1 y d qx.1 = [] by unfold old1; simp [h45, h51], List.append_nil])⟩
      ·
        refine XL.pure (v := .bool false) 45 rfl (Nat.le_of_ble_eq_true rfl) rfl rfl (x_lss rfl rfl rfl (dF (h45))) ?_
        refine XL.nil ?_
        refine XQ.then ?_
        refine hK46 _ _ _ _ ?_
        refine XC.sub (l' := [(0, .slice p t.length cp), (2, vI x), (5, vP b5 0), (7, vP b7 0), (9, vP b9 0), (12, vI qx.1.1), (13, vI qx.1.2), (15, .slice p t.length cp), (16, vI (t.length : Int)), (17, vI (i : Int)), (18, .bool false), (45, .bool false)]) ⟨rfl, rfl, rfl, rfl, rfl, rfl, rfl, rfl, rfl, rfl, rfl, rfl, trivial⟩ ?_
        refine XC.no rfl ?_
        refine XC.skip ?_
        refine XQ.then ?_
        refine hK45 _ _ _ _ ?_
        refine XC.seq fun K53 hK53 => ?_
        refine XC.region ?_
        refine XL.pure (v := vI qx.1.2) 48 rfl (Nat.le_of_ble_eq_true rfl) rfl rfl (by kernel_rfl) ?_
        refine XL.pure (v := vP b5 1) 49 rfl (Nat.le_of_ble_eq_true rfl) rfl rfl (by kernel_rfl) ?_
        refine XL.pure (v := vI y) 50 rfl (Nat.le_of_ble_eq_true rfl) rfl rfl (x_load rfl rfl Try.underlying3 rfl (HP.cell hH44 0 rfl rfl)) ?_
        by_cases h51 : qx.1.2 < y
        ·
          refine XL.pure (v := .bool true) 51 rfl (Nat.le_of_ble_eq_true rfl) rfl rfl (x_lss rfl rfl rfl (dT (h51))) ?_
          refine XL.nil ?_
          refine XQ.then ?_
          refine hK53 _ _ _ _ ?_
          refine XC.yes rfl ?_
          refine XC.region ?_
          refine XL.pure (v := .slice pv9 ((outT s x t ++ oldT y d pre).length) cp9) 52 rfl (Nat.le_of_ble_eq_true rfl) rfl rfl (x_load rfl rfl Try.underlying88 rfl (HP.cell hH44 3 rfl rfl)) ?_
          refine XL.pure (v := vI qx.1.1) 53 rfl (Nat.le_of_ble_eq_true rfl) rfl rfl (by kernel_rfl) ?_
          refine XL.pure (v := vI qx.1.2) 54 rfl (Nat.le_of_ble_eq_true rfl) rfl rfl (by kernel_rfl) ?_
          refine XL.pure (v := .agg #[vI qx.1.1, vI qx.1.2]) 55 rfl (Nat.le_of_ble_eq_true rfl) rfl rfl (by kernel_rfl) ?_
          refine XL.alloc (c := #[vI qx.1.1, vI qx.1.2]) (T := 83) hH44 56 rfl (by decide) rfl rfl (fun b56 => vS b56 1 1) (by kernel_rfl) (fun b56 w54 hw54 => ?_)
          have hH55 : HP (Out [Go.Proofs.Ytmjnakhpekbenaa.Fw.Ent.cel b5 #[vI s, vI y, vI l, vI m] 23, Go.Proofs.Ytmjnakhpekbenaa.Fw.Ent.cel b7 #[vI d] 3, rowT pv9 (outT s x t ++ oldT y d pre).length cp9 (outT s x t ++ oldT y d pre), Go.Proofs.Ytmjnakhpekbenaa.Fw.Ent.cel b9 #[.slice pv9 (outT s x t ++ oldT y d pre).length cp9] 88, Go.Proofs.Ytmjnakhpekbenaa.Fw.Ent.cel q3 #[.slice p t.length cp] 88, Go.Proofs.Ytmjnakhpekbenaa.Fw.Ent.cel q4 #[vI s] 3, Go.Proofs.Ytmjnakhpekbenaa.Fw.Ent.cel q5 #[vI x] 3]) W w54 [.cel b5 #[vI s, vI y, vI l, vI m] 23, .cel b7 #[vI d] 3, rowT pv9 (outT s x t ++ oldT y d pre).length cp9 (outT s x t ++ oldT y d pre), .cel b9 #[.slice pv9 (outT s x t ++ oldT y d pre).length cp9] 88, .cel q3 #[.slice p t.length cp] 88, .cel q4 #[vI s] 3, .cel q5 #[vI x] 3, .cel b56 #[vI qx.1.1, vI qx.1.2] 83] := hw54.2
          have nb56 := hw54.1
          clear hw54
          obtain ⟨i0, hi0, hz0, hz1, hz2⟩ := infoT
          refine XL.append (news := [vI qx.1.1, vI qx.1.2]) 2 7 hH55 57 rfl (by decide) rfl rfl rfl rfl Try.underlying88 hi0 hz0 hz1 hz2 rfl (by decide) rfl rfl rfl rfl (by simp [Value.oneCell']) (by unfold maxLen; rw [List.length_append]; omega) (by rw [List.length_append]; omega) ?_
          rintro v7 w7 - hA7
          obtain ⟨pv7, cp7, rfl⟩ := own_row (HP.get hA7 2 rfl)
          have e7 : (outT s x t ++ oldT y d pre).length + 1 = ((outT s x t ++ oldT y d pre) ++ [(qx.1.1, qx.1.2)]).length := (len1 _ _).symm
          rw [tL_push, e7] at hA7
          rw [e7]
          have hH56 : HP (Out [Go.Proofs.Ytmjnakhpekbenaa.Fw.Ent.cel b5 #[vI s, vI y, vI l, vI m] 23, Go.Proofs.Ytmjnakhpekbenaa.Fw.Ent.cel b7 #[vI d] 3, rowT pv9 (outT s x t ++ oldT y d pre).length cp9 (outT s x t ++ oldT y d pre), Go.Proofs.Ytmjnakhpekbenaa.Fw.Ent.cel b9 #[.slice pv9 (outT s x t ++ oldT y d pre).length cp9] 88, Go.Proofs.Ytmjnakhpekbenaa.Fw.Ent.cel q3 #[.slice p t.length cp] 88, Go.Proofs.Ytmjnakhpekbenaa.Fw.Ent.cel q4 #[vI s] 3, Go.Proofs.Ytmjnakhpekbenaa.Fw.Ent.cel q5 #[vI x] 3]) W _ [.cel b5 #[vI s, vI y, vI l, vI m] 23, .cel b7 #[vI d] 3, rowT pv7 ((outT s x t ++ oldT y d pre) ++ [(qx.1.1, qx.1.2)]).length cp7 ((outT s x t ++ oldT y d pre) ++ [(qx.1.1, qx.1.2)]), .cel b9 #[.slice pv9 (outT s x t ++ oldT y d pre).length cp9] 88, .cel q3 #[.slice p t.length cp] 88, .cel q4 #[vI s] 3, .cel q5 #[vI x] 3, .cel b56 #[vI qx.1.1, vI qx.1.2] 83] := hA7
          refine XL.store (H2 := [.cel b5 #[vI s, vI y, vI l, vI m] 23, .cel b7 #[vI d] 3, rowT pv7 ((outT s x t ++ oldT y d pre) ++ [(qx.1.1, qx.1.2)]).length cp7 ((outT s x t ++ oldT y d pre) ++ [(qx.1.1, qx.1.2)]), .cel b9 #[.slice pv7 (((outT s x t ++ oldT y d pre) ++ [(qx.1.1, qx.1.2)]).length) cp7] 88, .cel q3 #[.slice p t.length cp] 88, .cel q4 #[vI s] 3, .cel q5 #[vI x] 3, .cel b56 #[vI qx.1.1, vI qx.1.2] 83]) 3 hH56 rfl rfl rfl rfl rfl rfl sz88 rfl (Nat.le_of_ble_eq_true rfl) rfl rfl ?_
          intro w57 hH58
          refine XL.nil ?_
          refine XQ.inNormal ?_
          exact fun _ _ => ⟨(pv7, cp7), HP.eq (HP.drop hH58 7) (by rw [old_snoc, show old1 y d qx.1 = [(qx.1.1, qx.1.2)] by unfold old1; simp [h45, h51], ← List.append_assoc]; rfl)⟩
        ·
          refine XL.pure (v := .bool false) 51 rfl (Nat.le_of_ble_eq_true rfl) rfl rfl (x_lss rfl rfl rfl (dF (h51))) ?_
          refine XL.nil ?_
          refine XQ.then ?_
          refine hK53 _ _ _ _ ?_
          refine XC.no rfl ?_
          refine XC.skip ?_
          refine XQ.inNormal ?_
          exact fun _ _ => ⟨(pv9, cp9), HP.eq hH44 (by rw [old_snoc, show old1 y d qx.1 = [] by unfold old1; simp [h45, h51], List.append_nil])⟩
    · rintro D xs W ⟨pv8, cp8⟩ hD rfl hF8 hK8
      have hold9 := oldT_len y d (osA s x ta)
      have hH59 : HP (Out [Go.Proofs.Ytmjnakhpekbenaa.Fw.Ent.cel b5 #[vI s, vI y, vI l, vI m] 23, Go.Proofs.Ytmjnakhpekbenaa.Fw.Ent.cel b7 #[vI d] 3, rowT pv8 (outT s x t ++ oldT y d (osA s x ta)).length cp8 (outT s x t ++ oldT y d (osA s x ta)), Go.Proofs.Ytmjnakhpekbenaa.Fw.Ent.cel b9 #[.slice pv8 (outT s x t ++ oldT y d (osA s x ta)).length cp8] 88, Go.Proofs.Ytmjnakhpekbenaa.Fw.Ent.cel q3 #[.slice p t.length cp] 88, Go.Proofs.Ytmjnakhpekbenaa.Fw.Ent.cel q4 #[vI s] 3, Go.Proofs.Ytmjnakhpekbenaa.Fw.Ent.cel q5 #[vI x] 3]) W W [.cel b5 #[vI s, vI y, vI l, vI m] 23, .cel b7 #[vI d] 3, rowT pv8 (outT s x t ++ oldT y d (osA s x ta)).length cp8 (outT s x t ++ oldT y d (osA s x ta)), .cel b9 #[.slice pv8 (outT s x t ++ oldT y d (osA s x ta)).length cp8] 88, .cel q3 #[.slice p t.length cp] 88, .cel q4 #[vI s] 3, .cel q5 #[vI x] 3] := HP.startB ⟨hF8.hold, hF8.apart⟩
      refine XQ.inNormal ?_
      refine XQ.then ?_
      refine hK39 _ _ _ _ ?_
      refine XC.seq fun K60 hK60 => ?_
      refine XC.region ?_
      refine XL.pure (v := .slice pv8 ((outT s x t ++ oldT y d (osA s x ta)).length) cp8) 58 rfl (Nat.le_of_ble_eq_true rfl) rfl rfl (x_load rfl rfl Try.underlying88 rfl (HP.cell hH59 3 rfl rfl)) ?_
      refine XL.pure (v := vI x) 59 rfl (Nat.le_of_ble_eq_true rfl) rfl rfl (by kernel_rfl) ?_
      refine XL.pure (v := .agg #[vI x, vI 0]) 60 rfl (Nat.le_of_ble_eq_true rfl) rfl rfl (by kernel_rfl) ?_
      refine XL.alloc (c := #[vI x, vI 0]) (T := 83) hH59 61 rfl (by decide) rfl rfl (fun b61 => vS b61 1 1) (by kernel_rfl) (fun b61 w61 hw61 => ?_)
      have hH62 : HP (Out [Go.Proofs.Ytmjnakhpekbenaa.Fw.Ent.cel b5 #[vI s, vI y, vI l, vI m] 23, Go.Proofs.Ytmjnakhpekbenaa.Fw.Ent.cel b7 #[vI d] 3, rowT pv8 (outT s x t ++ oldT y d (osA s x ta)).length cp8 (outT s x t ++ oldT y d (osA s x ta)), Go.Proofs.Ytmjnakhpekbenaa.Fw.Ent.cel b9 #[.slice pv8 (outT s x t ++ oldT y d (osA s x ta)).length cp8] 88, Go.Proofs.Ytmjnakhpekbenaa.Fw.Ent.cel q3 #[.slice p t.length cp] 88, Go.Proofs.Ytmjnakhpekbenaa.Fw.Ent.cel q4 #[vI s] 3, Go.Proofs.Ytmjnakhpekbenaa.Fw.Ent.cel q5 #[vI x] 3]) W w61 [.cel b5 #[vI s, vI y, vI l, vI m] 23, .cel b7 #[vI d] 3, rowT pv8 (outT s x t ++ oldT y d (osA s x ta)).length cp8 (outT s x t ++ oldT y d (osA s x ta)), .cel b9 #[.slice pv8 (outT s x t ++ oldT y d (osA s x ta)).length cp8] 88, .cel q3 #[.slice p t.length cp] 88, .cel q4 #[vI s] 3, .cel q5 #[vI x] 3, .cel b61 #[vI x, vI 0] 83] := hw61.2
      have nb61 := hw61.1
      clear hw61
      obtain ⟨i0, hi0, hz0, hz1, hz2⟩ := infoT
      refine XL.append (news := [vI x, vI 0]) 2 7 hH62 62 rfl (by decide) rfl rfl rfl rfl Try.underlying88 hi0 hz0 hz1 hz2 rfl (by decide) rfl rfl rfl rfl (by simp [Value.oneCell']) (by unfold maxLen; rw [List.length_append]; omega) (by rw [List.length_append]; omega) ?_
      rintro v7 w7 - hA7
      obtain ⟨pv7, cp7, rfl⟩ := own_row (HP.get hA7 2 rfl)
      have e7 : (outT s x t ++ oldT y d (osA s x ta)).length + 1 = ((outT s x t ++ oldT y d (osA s x ta)) ++ [(x, 0)]).length := (len1 _ _).symm
      rw [tL_push, e7] at hA7
      rw [e7]
      have hH63 : HP (Out [Go.Proofs.Ytmjnakhpekbenaa.Fw.Ent.cel b5 #[vI s, vI y, vI l, vI m] 23, Go.Proofs.Ytmjnakhpekbenaa.Fw.Ent.cel b7 #[vI d] 3, rowT pv8 (outT s x t ++ oldT y d (osA s x ta)).length cp8 (outT s x t ++ oldT y d (osA s x ta)), Go.Proofs.Ytmjnakhpekbenaa.Fw.Ent.cel b9 #[.slice pv8 (outT s x t ++ oldT y d (osA s x ta)).length cp8] 88, Go.Proofs.Ytmjnakhpekbenaa.Fw.Ent.cel q3 #[.slice p t.length cp] 88, Go.Proofs.Ytmjnakhpekbenaa.Fw.Ent.cel q4 #[vI s] 3, Go.Proofs.Ytmjnakhpekbenaa.Fw.Ent.cel q5 #[vI x] 3]) W _ [.cel b5 #[vI s, vI y, vI l, vI m] 23, .cel b7 #[vI d] 3, rowT pv7 ((outT s x t ++ oldT y d (osA s x ta)) ++ [(x, 0)]).length cp7 ((outT s x t ++ oldT y d (osA s x ta)) ++ [(x, 0)]), .cel b9 #[.slice pv8 (outT s x t ++ oldT y d (osA s x ta)).length cp8] 88, .cel q3 #[.slice p t.length cp] 88, .cel q4 #[vI s] 3, .cel q5 #[vI x] 3, .cel b61 #[vI x, vI 0] 83] := hA7
      refine XL.store (H2 := [.cel b5 #[vI s, vI y, vI l, vI m] 23, .cel b7 #[vI d] 3, rowT pv7 ((outT s x t ++ oldT y d (osA s x ta)) ++ [(x, 0)]).length cp7 ((outT s x t ++ oldT y d (osA s x ta)) ++ [(x, 0)]), .cel b9 #[.slice pv7 (((outT s x t ++ oldT y d (osA s x ta)) ++ [(x, 0)]).length) cp7] 88, .cel q3 #[.slice p t.length cp] 88, .cel q4 #[vI s] 3, .cel q5 #[vI x] 3, .cel b61 #[vI x, vI 0] 83]) 3 hH63 rfl rfl rfl rfl rfl rfl sz88 rfl (Nat.le_of_ble_eq_true rfl) rfl rfl ?_
      intro w64 hH65
      refine XL.nil ?_
      refine XQ.then ?_
      refine hK60 _ _ _ _ ?_
      refine XC.sub (l' := [(0, .slice p t.length cp), (2, vI x), (5, vP b5 0), (7, vP b7 0), (9, vP b9 0), (15, .slice p t.length cp), (16, vI (t.length : Int)), (17, vI (i : Int)), (18, .bool false)]) ⟨rfl, rfl, rfl, rfl, rfl, rfl, rfl, rfl, rfl, trivial⟩ ?_
      refine XC.seq fun K66 hK66 => ?_
      refine XC.region ?_
      refine XL.pure (v := .slice pv7 (((outT s x t ++ oldT y d (osA s x ta)) ++ [(x, 0)]).length) cp7) 63 rfl (Nat.le_of_ble_eq_true rfl) rfl rfl (x_load rfl rfl Try.underlying88 rfl (HP.cell hH65 3 rfl rfl)) ?_
      refine XL.call (f := 98) (args := #[.slice pv7 (((outT s x t ++ oldT y d (osA s x ta)) ++ [(x, 0)]).length) cp7, .func (.func 99) #[] #[]]) 64 rfl (Nat.le_of_ble_eq_true rfl) rfl rfl (by kernel_rfl) ?_
      refine (SortFunc_any pv7 cp7 ((outT s x t ++ oldT y d (osA s x ta)) ++ [(x, 0)]) _ (HP.ownM (A := [Go.Proofs.Ytmjnakhpekbenaa.Fw.Ent.cel b5 #[vI s, vI y, vI l, vI m] 23, Go.Proofs.Ytmjnakhpekbenaa.Fw.Ent.cel b7 #[vI d] 3]) (R := [rowT pv7 ((outT s x t ++ oldT y d (osA s x ta)) ++ [(x, 0)]).length cp7 ((outT s x t ++ oldT y d (osA s x ta)) ++ [(x, 0)])]) (C := [Go.Proofs.Ytmjnakhpekbenaa.Fw.Ent.cel b9 #[.slice pv7 (((outT s x t ++ oldT y d (osA s x ta)) ++ [(x, 0)]).length) cp7] 88, Go.Proofs.Ytmjnakhpekbenaa.Fw.Ent.cel q3 #[.slice p t.length cp] 88, Go.Proofs.Ytmjnakhpekbenaa.Fw.Ent.cel q4 #[vI s] 3, Go.Proofs.Ytmjnakhpekbenaa.Fw.Ent.cel q5 #[vI x] 3, Go.Proofs.Ytmjnakhpekbenaa.Fw.Ent.cel b61 #[vI x, vI 0] 83]) hH65) (by rw [len1]; omega) (by rw [len1, List.length_append]; omega)).mono ?_
      rintro e w9 ⟨rfl, t', hp9, hle9, hb9⟩
      refine ⟨_, rfl, ?_⟩
      have hpl : t'.length = ((outT s x t ++ oldT y d (osA s x ta)) ++ [(x, 0)]).length := hp9.length_eq
      have hH67 : HP (Out [Go.Proofs.Ytmjnakhpekbenaa.Fw.Ent.cel b5 #[vI s, vI y, vI l, vI m] 23, Go.Proofs.Ytmjnakhpekbenaa.Fw.Ent.cel b7 #[vI d] 3, rowT pv8 (outT s x t ++ oldT y d (osA s x ta)).length cp8 (outT s x t ++ oldT y d (osA s x ta)), Go.Proofs.Ytmjnakhpekbenaa.Fw.Ent.cel b9 #[.slice pv8 (outT s x t ++ oldT y d (osA s x ta)).length cp8] 88, Go.Proofs.Ytmjnakhpekbenaa.Fw.Ent.cel q3 #[.slice p t.length cp] 88, Go.Proofs.Ytmjnakhpekbenaa.Fw.Ent.cel q4 #[vI s] 3, Go.Proofs.Ytmjnakhpekbenaa.Fw.Ent.cel q5 #[vI x] 3]) W _ [.cel b5 #[vI s, vI y, vI l, vI m] 23, .cel b7 #[vI d] 3, rowT pv7 ((outT s x t ++ oldT y d (osA s x ta)) ++ [(x, 0)]).length cp7 t', .cel b9 #[.slice pv7 (((outT s x t ++ oldT y d (osA s x ta)) ++ [(x, 0)]).length) cp7] 88, .cel q3 #[.slice p t.length cp] 88, .cel q4 #[vI s] 3, .cel q5 #[vI x] 3, .cel b61 #[vI x, vI 0] 83] := HP.exchM (A := [Go.Proofs.Ytmjnakhpekbenaa.Fw.Ent.cel b5 #[vI s, vI y, vI l, vI m] 23, Go.Proofs.Ytmjnakhpekbenaa.Fw.Ent.cel b7 #[vI d] 3]) (R := [rowT pv7 ((outT s x t ++ oldT y d (osA s x ta)) ++ [(x, 0)]).length cp7 ((outT s x t ++ oldT y d (osA s x ta)) ++ [(x, 0)])]) (C := [Go.Proofs.Ytmjnakhpekbenaa.Fw.Ent.cel b9 #[.slice pv7 (((outT s x t ++ oldT y d (osA s x ta)) ++ [(x, 0)]).length) cp7] 88, Go.Proofs.Ytmjnakhpekbenaa.Fw.Ent.cel q3 #[.slice p t.length cp] 88, Go.Proofs.Ytmjnakhpekbenaa.Fw.Ent.cel q4 #[vI s] 3, Go.Proofs.Ytmjnakhpekbenaa.Fw.Ent.cel q5 #[vI x] 3, Go.Proofs.Ytmjnakhpekbenaa.Fw.Ent.cel b61 #[vI x, vI 0] 83]) hH65 hb9
      refine XL.nil ?_
      refine XQ.then ?_
      refine hK66 _ _ _ _ ?_
      refine XC.seq fun K68 hK68 => ?_
      refine XC.region ?_
      refine XL.pure (v := .slice pv7 (((outT s x t ++ oldT y d (osA s x ta)) ++ [(x, 0)]).length) cp7) 65 rfl (Nat.le_of_ble_eq_true rfl) rfl rfl (x_load rfl rfl Try.underlying88 rfl (HP.cell hH67 3 rfl rfl)) ?_
      refine XL.pure (v := .slice pv7 (((outT s x t ++ oldT y d (osA s x ta)) ++ [(x, 0)]).length) cp7) 8 rfl (Nat.le_of_ble_eq_true rfl) rfl rfl (by kernel_rfl) ?_
      refine XL.nil ?_
      refine XQ.then ?_
      refine hK68 _ _ _ _ ?_
      refine XC.ret ?_
      have hKD : (_ : World).heap[D]? = some (.deferred (some [])) := (hH67.keep D (Array.getElem?_eq_some_iff.1 hK8).1 (fun e he hq => by obtain ⟨c9, T9, z9, hc9⟩ := Fi.HPcells hF8 he hq; rw [hc9] at hK8; cases hK8)).trans hK8
      have hFin := HP.exch (A := []) hF8 hH67
      simp only [List.nil_append] at hFin
      refine XQ.ret1M 8 rfl rfl hKD ?_
      refine ⟨t', pv7, cp7, by rw [hpl], hp9, hle9, ?_⟩
      rw [← hpl] at hFin
      have hFin2 := (HP.drop (HP.drop (HP.drop (HP.drop (HP.drop (HP.drop (HP.drop hFin 7) 6) 5) 4) 3) 1) 0)
      exact Fi.HPgrown hFin2 (grownBy_putObj' _ D _) (fun r e => by cases e; exact ⟨by have := (HP.below hW8).size; omega, _, hKD, rfl⟩)
end Ca
end Go.Proofs.Ytmjnakhpekbenaa
namespace Go.Proofs.Ytmjnakhpekbenaa
open Go.RowKit Fw
namespace Ca
/-- what becomes of an entry -/
def stE (s y x d : Int) (q : T2) : List T2 := if q.1 = x then [] else if q.1.tmod s = x.tmod s then old1 y d q else if q.2 < y then [q] else []
/-- the table with the line put in -/
def rL (s y x d : Int) : List T2 → List T2
  | [] => [(x, 0)]
  | q :: r => if x ≤ q.1 then (x, 0) :: (q :: r).flatMap (stE s y x d) else stE s y x d q ++ rL s y x d r
theorem old1_fst {y d : Int} {q a : T2} (h : a ∈ old1 y d q) : a.1 = q.1 := by
  unfold old1 at h
  generalize (if q.2 < d then q.2 + 1 else q.2) = a9 at h
  split at h
  · rw [List.mem_singleton.1 h]
  · cases h
theorem stE_fst {s y x d : Int} {q a : T2} (h : a ∈ stE s y x d q) : a.1 = q.1 ∧ q.1 ≠ x := by
  unfold stE at h
  by_cases h1 : q.1 = x
  · rw [if_pos h1] at h; cases h
  · rw [if_neg h1] at h
    refine ⟨?_, h1⟩
    by_cases h2 : q.1.tmod s = x.tmod s
    · rw [if_pos h2] at h; exact old1_fst h
    · rw [if_neg h2] at h
      split at h
      · rw [List.mem_singleton.1 h]
      · cases h
theorem stE_len (s y x d : Int) (q : T2) : (stE s y x d q).length ≤ 1 := by
  unfold stE
  by_cases h1 : q.1 = x
  · rw [if_pos h1]; exact Nat.zero_le _
  · rw [if_neg h1]
    by_cases h2 : q.1.tmod s = x.tmod s
    · rw [if_pos h2]; exact old1_len y d q
    · rw [if_neg h2]; split
      · exact Nat.le_refl _
      · exact Nat.zero_le _
theorem fm_perm {s y x d : Int} : ∀ {ta : List TV}, (∀ q ∈ ta, q.1.2 < y) → ((ta.map (·.1)).flatMap (stE s y x d)).Perm (outT s x (ta.map (·.1)) ++ oldT y d (osA s x ta))
  | [], _ => by simp [outT, oldT, osA]
  | q :: r, h => by
    have ih := fm_perm (s := s) (x := x) (d := d) (ta := r) fun a ha => h a (List.mem_cons_of_mem _ ha)
    have hq := h q (by simp)
    simp only [List.map_cons, List.flatMap_cons]
    by_cases h2 : q.1.1.tmod s = x.tmod s
    · have ho : outT s x (q.1 :: r.map (·.1)) = outT s x (r.map (·.1)) := by unfold outT; rw [List.filter_cons, if_neg (by simp [h2])]
      by_cases h1 : q.1.1 = x
      · have hs : osA s x (q :: r) = osA s x r := by unfold osA inS; rw [List.filter_cons, if_neg (by simp [h1])]
        rw [ho, hs, show stE s y x d q.1 = [] by unfold stE; rw [if_pos h1], List.nil_append]
        exact ih
      · have hs : osA s x (q :: r) = q :: osA s x r := by unfold osA inS; rw [List.filter_cons, if_pos (by simp [h1, h2])]
        rw [ho, hs, show stE s y x d q.1 = old1 y d q.1 by unfold stE; rw [if_neg h1, if_pos h2], show oldT y d (q :: osA s x r) = old1 y d q.1 ++ oldT y d (osA s x r) by simp [oldT]]
        refine (ih.append_left _).trans ?_
        rw [← List.append_assoc, ← List.append_assoc]
        exact List.Perm.append_right _ List.perm_append_comm
    · have h1 : q.1.1 ≠ x := fun e => h2 (by rw [e])
      have ho : outT s x (q.1 :: r.map (·.1)) = q.1 :: outT s x (r.map (·.1)) := by unfold outT; rw [List.filter_cons, if_pos (by simp [h2])]
      have hs : osA s x (q :: r) = osA s x r := by unfold osA inS; rw [List.filter_cons, if_neg (by simp [h2])]
      rw [ho, hs, show stE s y x d q.1 = [q.1] by unfold stE; rw [if_neg h1, if_neg h2, if_pos hq]]
      exact ih.cons _
theorem rL_perm {s y x d : Int} : ∀ t : List T2, (rL s y x d t).Perm (t.flatMap (stE s y x d) ++ [(x, 0)])
  | [] => List.Perm.refl _
  | q :: r => by
    simp only [rL]
    split
    · exact List.perm_append_comm (l₁ := [(x, 0)])
    · rw [List.flatMap_cons, List.append_assoc]
      exact (rL_perm r).append_left _
def ltT (t : List T2) : Prop := t.Pairwise fun a b => a.1 < b.1
theorem fm_mem {s y x d : Int} {t : List T2} {a : T2} (h : a ∈ t.flatMap (stE s y x d)) : ∃ q ∈ t, a.1 = q.1 ∧ q.1 ≠ x := by
  obtain ⟨q, hq, ha⟩ := List.mem_flatMap.1 h
  exact ⟨q, hq, stE_fst ha⟩
theorem one_pair {l : List T2} {R : T2 → T2 → Prop} (h : l.length ≤ 1) : l.Pairwise R := by
  match l, h with
  | [], _ => exact List.Pairwise.nil
  | [a], _ => exact List.pairwise_singleton _ _
theorem fm_sorted {s y x d : Int} : ∀ {t : List T2}, sT t → ltT (t.flatMap (stE s y x d))
  | [], _ => List.Pairwise.nil
  | q :: r, h => by
    have hh := List.pairwise_cons.1 h
    rw [List.flatMap_cons]
    refine List.pairwise_append.2 ⟨one_pair (stE_len ..), fm_sorted hh.2, fun a ha b hb => ?_⟩
    obtain ⟨q', hq', e, -⟩ := fm_mem hb
    rw [(stE_fst ha).1, e]
    exact hh.1 q' hq'
theorem rL_mem {s y x d : Int} {t : List T2} {a : T2} (h : a ∈ rL s y x d t) : a.1 = x ∨ ∃ q ∈ t, a.1 = q.1 := by
  have := (rL_perm t).mem_iff.1 h
  rcases List.mem_append.1 this with h | h
  · obtain ⟨q, hq, e, -⟩ := fm_mem h; exact .inr ⟨q, hq, e⟩
  · rw [List.mem_singleton.1 h]; exact .inl rfl
theorem rL_sorted {s y x d : Int} : ∀ {t : List T2}, sT t → ltT (rL s y x d t)
  | [], _ => List.pairwise_singleton _ _
  | q :: r, h => by
    have hh := List.pairwise_cons.1 h
    simp only [rL]
    split
    · rename_i hx
      refine List.pairwise_cons.2 ⟨fun a ha => ?_, fm_sorted h⟩
      obtain ⟨q', hq', e, hne⟩ := fm_mem ha
      rw [e]
      show x < q'.1
      rcases List.mem_cons.1 hq' with rfl | hq'
      · omega
      · have := hh.1 q' hq'; omega
    · rename_i hx
      refine List.pairwise_append.2 ⟨one_pair (stE_len ..), rL_sorted hh.2, fun a ha b hb => ?_⟩
      rw [(stE_fst ha).1]
      rcases rL_mem hb with e | ⟨q', hq', e⟩
      · rw [e]; omega
      · rw [e]; exact hh.1 q' hq'
/-- two sorted lists of the same entries -/
theorem sorted_eq {a b : List T2} (hp : a.Perm b) (ha : leT a) (hb : ltT b) : a = b := by
  refine List.Perm.eq_of_pairwise (le := fun p q : T2 => p.1 ≤ q.1) (fun p q hp' hq' h1 h2 => ?_) ha (hb.imp fun h => Int.le_of_lt h) hp
  have hp2 := hp.mem_iff.1 hp'
  obtain ⟨i, hi, rfl⟩ := List.mem_iff_getElem.1 hp2
  obtain ⟨j, hj, rfl⟩ := List.mem_iff_getElem.1 hq'
  rcases Nat.lt_trichotomy i j with h | h | h
  · have := List.pairwise_iff_getElem.1 hb i j hi hj h; omega
  · subst h; rfl
  · have := List.pairwise_iff_getElem.1 hb j i hj hi h; omega
theorem aged_eq {s y x d : Int} {ta : List TV} {t t' : List T2} (ht : t = ta.map (·.1)) (hv : ∀ q ∈ ta, q.1.2 < y) (hs : sT t) (hp : t'.Perm (outT s x t ++ oldT y d (osA s x ta) ++ [(x, 0)])) (hl : leT t') : t' = rL s y x d t := by
  refine sorted_eq ?_ hl (rL_sorted hs)
  refine hp.trans (List.Perm.trans ?_ (rL_perm t).symm)
  subst ht
  exact (fm_perm hv).symm.append_right _
end Ca
end Go.Proofs.Ytmjnakhpekbenaa
namespace Go.Proofs.Ytmjnakhpekbenaa
open Go.RowKit Fw
namespace Ca
theorem drop_t {t : List T2} {i : Nat} (h : i < t.length) : t.drop i = (lnT t i, agT t i) :: t.drop (i + 1) := by
  rw [List.drop_eq_getElem_cons h, lnT_get h, agT_get h]
theorem age_some {t : List T2} {x a : Int} (h : ageT t x = some a) : ∃ i, i < t.length ∧ agT t i = a := by
  unfold ageT at h
  obtain ⟨q, hq, rfl⟩ := Option.map_eq_some_iff.1 h
  obtain ⟨i, hi, rfl⟩ := List.mem_iff_getElem.1 (List.mem_of_find?_eq_some hq)
  exact ⟨i, hi, agT_get hi⟩
def rest (s y x d : Int) (inn : Bool) (t : List T2) : List T2 := match inn with
  | true => t.flatMap (stE s y x d)
  | false => rL s y x d t
theorem rest_put {s y x d : Int} {q : T2} {r : List T2} (h : x ≤ q.1) : rest s y x d false (q :: r) = [(x, 0)] ++ (stE s y x d q ++ rest s y x d true r) := by
  simp only [rest, rL, if_pos h, List.flatMap_cons]; rfl
theorem rest_no {s y x d : Int} {q : T2} {r : List T2} (h : ¬ x ≤ q.1) : rest s y x d false (q :: r) = stE s y x d q ++ rest s y x d false r := by
  simp only [rest, rL, if_neg h]
theorem rest_in {s y x d : Int} {q : T2} {r : List T2} : rest s y x d true (q :: r) = stE s y x d q ++ rest s y x d true r := by
  simp only [rest, List.flatMap_cons]
theorem age_neg {t : List T2} {x y : Int} (hv : ∀ i, i < t.length → 0 ≤ agT t i ∧ agT t i ≤ 100) (h : (ageT t x).getD (-1) < 0) : (ageT t x).getD y = y := by
  cases q : ageT t x with
  | none => rfl
  | some a => rw [q] at h; obtain ⟨i, hi, he⟩ := age_some q; have := hv i hi; simp at h; omega
theorem age_pos {t : List T2} {x y : Int} (hv : ∀ i, i < t.length → 0 ≤ agT t i ∧ agT t i ≤ 100) (h : ¬ (ageT t x).getD (-1) < 0) : (ageT t x).getD y = (ageT t x).getD (-1) ∧ 0 ≤ (ageT t x).getD (-1) ∧ (ageT t x).getD (-1) ≤ 100 := by
  cases q : ageT t x with
  | none => rw [q] at h; simp at h
  | some a => obtain ⟨i, hi, he⟩ := age_some q; have := hv i hi; simp; omega
theorem st_age {s y x d a2 : Int} {q : T2} (h1 : q.1 ≠ x) (h : a2 = (if q.1.tmod s = x.tmod s ∧ q.2 < d then q.2 + 1 else q.2)) : stE s y x d q = if a2 < y then [(q.1, a2)] else [] := by
  unfold stE old1
  rw [if_neg h1]
  by_cases h2 : q.1.tmod s = x.tmod s
  · rw [if_pos h2, h]; simp only [h2, true_and]
  · rw [if_neg h2, h]; simp only [h2, false_and, if_false]
set_option maxRecDepth 20000 in
set_option maxHeartbeats 4000000 in
theorem rAged0_any (p : Option Addr) (t : List T2) (cp : Nat) (s y l m x d mz : Int) (w : World) (hT : InT w p t) (hs0 : s ≠ 0) (hy : 0 ≤ y ∧ y ≤ 100) (hv : ∀ i, i < t.length → 0 ≤ agT t i ∧ agT t i ≤ 100) (hd : d = (ageT t x).getD y + mz) (hmz : mz = 0) (hn : t.length ≤ 100000) :
    Calls Try.prog 60 #[.agg #[vI s, vI y, vI l, vI m], .slice p t.length cp, vI x, .bool false] w fun e w' => ∃ pv cp', e = .returned (.slice pv (rL s y x d t).length cp') ∧ HP Tr w w' [rowT pv (rL s y x d t).length cp' (rL s y x d t)] := by
  refine calls_of Try.func60 rfl (m := 105) rfl [(0, .agg #[vI s, vI y, vI l, vI m]), (1, .slice p t.length cp), (2, vI x), (3, .bool false)] (Fr_enter [.agg #[vI s, vI y, vI l, vI m], .slice p t.length cp, vI x, .bool false] 105 (Nat.le_of_ble_eq_true rfl)) ?_
  have hH1 : HP Tr w w [] := HP.refl w
  refine WC.seq fun K2 hK2 => WC.region ?_
  refine WL.alloc (c := #[vI s, vI y, vI l, vI m]) (T := 23) hH1 4 rfl (by decide) rfl rfl (fun b4 => vP b4 0) (by kernel_rfl) (fun b4 w3 hw3 => ?_)
  have hH4 : HP Tr w w3 [.cel b4 #[vI s, vI y, vI l, vI m] 23] := hw3.2
  have nb4 := hw3.1
  clear hw3
  refine WL.z (v := .slice none 0 0) 8 ?_
  refine WL.nil (WQ.then (hK2 _ _ _ (WC.seq fun K5 hK5 => WC.region ?_)))
  refine WL.z (v := .slice p t.length cp) 14 ?_
  refine WL.z (v := vI x) 15 ?_
  refine WL.call (f := 69) (args := #[.slice p t.length cp, vI x]) 16 rfl (Nat.le_of_ble_eq_true rfl) rfl rfl (by kernel_rfl) ?_
  refine (rAge_any _ t _ _ (hT.below (HP.below hH4)) x (by omega)).mono ?_
  rintro e w6 ⟨rfl, hb7⟩
  refine ⟨_, rfl, ?_⟩
  have hH8 : HP Tr w _ [.cel b4 #[vI s, vI y, vI l, vI m] 23] := HP.call hH4 hb7
  refine WL.z (v := vI ((ageT t x).getD (-1))) 9 ?_
  refine WL.nil (WQ.then (hK5 _ _ _ ?_))
  refine WC.cut (fun lz w2 => ∃ (h : Int), lz = [(0, .agg #[vI s, vI y, vI l, vI m]), (1, .slice p t.length cp), (2, vI x), (3, .bool false), (4, vP b4 0), (8, .slice none 0 0), (9, vI h)] ∧ (d = h + mz) ∧ (0 ≤ h ∧ h ≤ 100) ∧ HP Tr w w2 [.cel b4 #[vI s, vI y, vI l, vI m] 23]) ?_ ?_
  ·
    refine WC.seq fun K9 hK9 => WC.region ?_
    refine WL.z (v := vI ((ageT t x).getD (-1))) 17 ?_
    by_cases h18 : (ageT t x).getD (-1) < 0
    ·
      refine WL.y (v := .bool true) 18 (x_lss rfl rfl rfl (dT (h18))) ?_
      refine WL.nil (WQ.then (hK9 _ _ _ (WC.yes rfl (WC.region ?_))))
      refine WL.z (v := vP b4 1) 19 ?_
      refine WL.y (v := vI y) 20 (x_load rfl rfl Try.underlying3 rfl (HP.cell hH8 0 rfl rfl)) ?_
      refine WL.z (v := vI y) 9 ?_
      refine WL.nil ?_
      refine WQ.sub (l' := [(0, .agg #[vI s, vI y, vI l, vI m]), (1, .slice p t.length cp), (2, vI x), (3, .bool false), (4, vP b4 0), (8, .slice none 0 0), (9, vI y)]) ⟨rfl, rfl, rfl, rfl, rfl, rfl, rfl, trivial⟩ ?_
      exact WQ.cut ⟨y, rfl, by rw [← age_neg (y := y) hv h18]; exact hd, by omega, hH8⟩
    ·
      refine WL.y (v := .bool false) 18 (x_lss rfl rfl rfl (dF (h18))) ?_
      refine WL.nil (WQ.then (hK9 _ _ _ (WC.no rfl (WC.skip ?_))))
      refine WQ.sub (l' := [(0, .agg #[vI s, vI y, vI l, vI m]), (1, .slice p t.length cp), (2, vI x), (3, .bool false), (4, vP b4 0), (8, .slice none 0 0), (9, vI ((ageT t x).getD (-1)))]) ⟨rfl, rfl, rfl, rfl, rfl, rfl, rfl, trivial⟩ ?_
      exact WQ.cut ⟨(ageT t x).getD (-1), rfl, by rw [← (age_pos (y := y) hv h18).1]; exact hd, by have := age_pos (y := y) hv h18; omega, hH8⟩
  ·
    rintro lz w11 ⟨h, rfl, hdv, hh, hH10⟩
    refine WC.seq fun K12 hK12 => WC.region ?_
    refine WL.z (v := .slice none 0 0) 10 ?_
    refine WL.nil (WQ.then (hK12 _ _ _ (WC.seq fun K13 hK13 => WC.region ?_)))
    refine WL.z (v := .bool false) 11 ?_
    refine WL.nil (WQ.then (hK13 _ _ _ (WC.seq fun K14 hK14 => WC.seq fun K15 hK15 => WC.region ?_)))
    refine WL.z (v := vI 0) 12 ?_
    refine WL.nil (WQ.then (hK15 _ _ _ (WC.block ?_)))
    refine WC.loop (fun kk0 ll0 ww0 => ∃ (i : Nat) (A : List T2) (pv : Option Addr) (cp2 : Nat) (inn : Bool), ll0 = [(1, .slice p t.length cp), (2, vI x), (3, .bool false), (4, vP b4 0), (9, vI h), (10, .slice pv A.length cp2), (11, .bool inn), (12, vI (i : Int))] ∧ kk0 = t.length - i ∧ (i ≤ t.length) ∧ (rest s y x d false t = A ++ rest s y x d inn (t.drop i)) ∧ (A.length ≤ i + (bif inn then 1 else 0)) ∧ HP Tr w ww0 [.cel b4 #[vI s, vI y, vI l, vI m] 23, rowT pv A.length cp2 A]) (t.length) [(1, .slice p t.length cp), (2, vI x), (3, .bool false), (4, vP b4 0), (9, vI h), (10, .slice none 0 0), (11, .bool false), (12, vI 0)] ⟨rfl, rfl, rfl, rfl, rfl, rfl, rfl, rfl, trivial⟩ ⟨0, [], none, 0, false, rfl, rfl, Nat.zero_le _, by simp, Nat.zero_le _, HP.ownNil hH10 83 2⟩ ?_
    rintro kk l w17 ⟨i, A, pv, cp2, inn, rfl, hkk, hi, hR, hAl, hH18⟩ K16 hK16
    refine WC.seq fun K19 hK19 => WC.seq fun K20 hK20 => WC.region ?_
    refine WL.z (v := vI (i : Int)) 21 ?_
    refine WL.z (v := .slice p t.length cp) 22 ?_
    refine WL.z (v := vI (t.length : Int)) 23 ?_
    by_cases hlt : (i : Int) < (t.length : Int)
    ·
      refine WL.y (v := .bool true) 24 (x_lss rfl rfl rfl (dT (hlt))) ?_
      refine WL.nil (WQ.then (hK20 _ _ _ (WC.yes rfl (WC.skip (WQ.then (hK19 _ _ _ (WC.seq fun K21 hK21 => ?_)))))))
      refine WC.block ?_
      obtain ⟨g, o, rfl, hrow⟩ := hT (by omega)
      have hdr := drop_t (show i < t.length by omega)
      have hvi := hv i (by omega)
      rw [hdr] at hR
      refine WC.cut (fun lz w2 => ∃ (A1 : List T2) (pv1 : Option Addr) (cp1 : Nat) (in1 : Bool), lz = [(1, .slice (some ⟨g, o, none⟩) t.length cp), (2, vI x), (3, .bool false), (4, vP b4 0), (9, vI h), (10, .slice pv1 A1.length cp1), (11, .bool in1), (12, vI (i : Int)), (24, .bool true)] ∧ (rest s y x d false t = A1 ++ (stE s y x d (lnT t i, agT t i) ++ rest s y x d in1 (t.drop (i + 1)))) ∧ (A1.length ≤ i + (bif in1 then 1 else 0)) ∧ HP Tr w w2 [.cel b4 #[vI s, vI y, vI l, vI m] 23, rowT pv1 A1.length cp1 A1]) ?_ ?_
      ·
        refine WC.seq fun K22 hK22 => ?_
        cases inn
        ·
          refine WC.region ?_
          refine WL.z (v := .slice (some ⟨g, o, none⟩) t.length cp) 27 ?_
          refine WL.z (v := vI (i : Int)) 28 ?_
          refine WL.y (v := vP g (o + i * 2)) 29 (x_idx (i) (o + i * 2) rfl rfl rfl Try.underlying49 sz83 (by omega) (by omega) (by omega)) ?_
          refine WL.y (v := vP g (o + i * 2)) 30 (x_idxArr (0) (o + i * 2) rfl rfl rfl Try.underlying83 sz3 (by omega) (by omega) (by omega)) ?_
          refine WL.y (v := vI (lnT t i)) 31 (x_load rfl rfl Try.underlying3 rfl ((HP.oldRange hH18 trivial (hrow i (by omega))) 0 _ rfl)) ?_
          refine WL.z (v := vI x) 32 ?_
          by_cases h33 : x ≤ lnT t i
          ·
            refine WL.y (v := .bool true) 33 (x_geq rfl rfl rfl (dT (h33))) ?_
            refine WL.z (v := .bool true) 34 ?_
            refine WL.z (v := .bool false) 35 ?_
            refine WL.z (v := .bool true) 36 ?_
            refine WL.z (v := .bool true) 37 ?_
            refine WL.nil (WQ.then (hK22 _ _ _ ?_))
            refine WC.sub (l' := [(1, .slice (some ⟨g, o, none⟩) t.length cp), (2, vI x), (3, .bool false), (4, vP b4 0), (9, vI h), (10, .slice pv A.length cp2), (11, .bool false), (12, vI (i : Int)), (24, .bool true), (37, .bool true)]) ⟨rfl, rfl, rfl, rfl, rfl, rfl, rfl, rfl, rfl, rfl, trivial⟩ ?_
            refine WC.yes rfl (WC.seq fun K23 hK23 => WC.region ?_)
            refine WL.z (v := .slice pv A.length cp2) 38 ?_
            refine WL.z (v := vI x) 39 ?_
            refine WL.z (v := .agg #[vI x, vI 0]) 40 ?_
            refine WL.alloc (c := #[vI x, vI 0]) (T := 83) hH18 41 rfl (by decide) rfl rfl (fun b41 => vS b41 1 1) (by kernel_rfl) (fun b41 w24 hw24 => ?_)
            have hH25 : HP Tr w w24 [.cel b4 #[vI s, vI y, vI l, vI m] 23, rowT pv A.length cp2 A, .cel b41 #[vI x, vI 0] 83] := hw24.2
            have nb41 := hw24.1
            clear hw24
            obtain ⟨i0, hi0, hz0, hz1, hz2⟩ := infoT
            have hAl9 : A.length ≤ 200000 := by have := hAl; simp at this; omega
            refine WL.append (news := [vI x, vI 0]) 1 2 hH25 42 rfl (by decide) rfl rfl rfl rfl Try.underlying49 hi0 hz0 hz1 hz2 rfl (by decide) rfl rfl rfl rfl (by simp [Value.oneCell']) (by unfold maxLen; omega) (by omega) ?_
            rintro v726 w726 - hA726
            obtain ⟨pv726, cp726, rfl⟩ := own_row (HP.get hA726 1 rfl)
            have e726 : A.length + 1 = (A ++ [(x, 0)]).length := (len1 _ _).symm
            rw [tL_push, e726] at hA726
            rw [e726]
            have hH27 : HP Tr w _ [.cel b4 #[vI s, vI y, vI l, vI m] 23, rowT pv726 (A ++ [(x, 0)]).length cp726 (A ++ [(x, 0)]), .cel b41 #[vI x, vI 0] 83] := hA726
            refine WL.z (v := .slice pv726 ((A ++ [(x, 0)]).length) cp726) 10 ?_
            refine WL.nil (WQ.then (hK23 _ _ _ ?_))
            refine WC.sub (l' := [(1, .slice (some ⟨g, o, none⟩) t.length cp), (2, vI x), (3, .bool false), (4, vP b4 0), (9, vI h), (10, .slice pv726 ((A ++ [(x, 0)]).length) cp726), (11, .bool false), (12, vI (i : Int)), (24, .bool true), (37, .bool true)]) ⟨rfl, rfl, rfl, rfl, rfl, rfl, rfl, rfl, rfl, rfl, trivial⟩ ?_
            refine WC.region ?_
            refine WL.z (v := .bool true) 11 ?_
            refine WL.nil ?_
            refine WQ.sub (l' := [(1, .slice (some ⟨g, o, none⟩) t.length cp), (2, vI x), (3, .bool false), (4, vP b4 0), (9, vI h), (10, .slice pv726 ((A ++ [(x, 0)]).length) cp726), (11, .bool true), (12, vI (i : Int)), (24, .bool true)]) ⟨rfl, rfl, rfl, rfl, rfl, rfl, rfl, rfl, rfl, trivial⟩ ?_
            exact WQ.cut ⟨(A ++ [(x, 0)]), pv726, cp726, true, rfl, by rw [hR, rest_put (show x ≤ (lnT t i, agT t i).1 from h33), List.append_assoc], by have := hAl; simp at this ⊢; omega, (HP.drop hH27 2)⟩
          ·
            refine WL.y (v := .bool false) 33 (x_geq rfl rfl rfl (dF (h33))) ?_
            refine WL.z (v := .bool false) 34 ?_
            refine WL.p 35 ?_
            refine WL.p 36 ?_
            refine WL.z (v := .bool false) 37 ?_
            refine WL.nil (WQ.then (hK22 _ _ _ ?_))
            refine WC.sub (l' := [(1, .slice (some ⟨g, o, none⟩) t.length cp), (2, vI x), (3, .bool false), (4, vP b4 0), (9, vI h), (10, .slice pv A.length cp2), (11, .bool false), (12, vI (i : Int)), (24, .bool true), (37, .bool false)]) ⟨rfl, rfl, rfl, rfl, rfl, rfl, rfl, rfl, rfl, rfl, trivial⟩ ?_
            refine WC.no rfl (WC.skip ?_)
            refine WQ.sub (l' := [(1, .slice (some ⟨g, o, none⟩) t.length cp), (2, vI x), (3, .bool false), (4, vP b4 0), (9, vI h), (10, .slice pv A.length cp2), (11, .bool false), (12, vI (i : Int)), (24, .bool true)]) ⟨rfl, rfl, rfl, rfl, rfl, rfl, rfl, rfl, rfl, trivial⟩ ?_
            exact WQ.cut ⟨A, pv, cp2, false, rfl, by rw [hR, rest_no (show ¬ x ≤ (lnT t i, agT t i).1 from h33)], hAl, hH18⟩
        ·
          refine WC.region ?_
          refine WL.z (v := .slice (some ⟨g, o, none⟩) t.length cp) 27 ?_
          refine WL.z (v := vI (i : Int)) 28 ?_
          refine WL.y (v := vP g (o + i * 2)) 29 (x_idx (i) (o + i * 2) rfl rfl rfl Try.underlying49 sz83 (by omega) (by omega) (by omega)) ?_
          refine WL.y (v := vP g (o + i * 2)) 30 (x_idxArr (0) (o + i * 2) rfl rfl rfl Try.underlying83 sz3 (by omega) (by omega) (by omega)) ?_
          refine WL.y (v := vI (lnT t i)) 31 (x_load rfl rfl Try.underlying3 rfl ((HP.oldRange hH18 trivial (hrow i (by omega))) 0 _ rfl)) ?_
          refine WL.z (v := vI x) 32 ?_
          by_cases h33 : x ≤ lnT t i
          ·
            refine WL.y (v := .bool true) 33 (x_geq rfl rfl rfl (dT (h33))) ?_
            refine WL.z (v := .bool true) 34 ?_
            refine WL.z (v := .bool true) 35 ?_
            refine WL.z (v := .bool false) 36 ?_
            refine WL.z (v := .bool false) 37 ?_
            refine WL.nil (WQ.then (hK22 _ _ _ ?_))
            refine WC.sub (l' := [(1, .slice (some ⟨g, o, none⟩) t.length cp), (2, vI x), (3, .bool false), (4, vP b4 0), (9, vI h), (10, .slice pv A.length cp2), (11, .bool true), (12, vI (i : Int)), (24, .bool true), (37, .bool false)]) ⟨rfl, rfl, rfl, rfl, rfl, rfl, rfl, rfl, rfl, rfl, trivial⟩ ?_
            refine WC.no rfl (WC.skip ?_)
            refine WQ.sub (l' := [(1, .slice (some ⟨g, o, none⟩) t.length cp), (2, vI x), (3, .bool false), (4, vP b4 0), (9, vI h), (10, .slice pv A.length cp2), (11, .bool true), (12, vI (i : Int)), (24, .bool true)]) ⟨rfl, rfl, rfl, rfl, rfl, rfl, rfl, rfl, rfl, trivial⟩ ?_
            exact WQ.cut ⟨A, pv, cp2, true, rfl, by rw [hR, rest_in], hAl, hH18⟩
          ·
            refine WL.y (v := .bool false) 33 (x_geq rfl rfl rfl (dF (h33))) ?_
            refine WL.z (v := .bool false) 34 ?_
            refine WL.p 35 ?_
            refine WL.p 36 ?_
            refine WL.z (v := .bool false) 37 ?_
            refine WL.nil (WQ.then (hK22 _ _ _ ?_))
            refine WC.sub (l' := [(1, .slice (some ⟨g, o, none⟩) t.length cp), (2, vI x), (3, .bool false), (4, vP b4 0), (9, vI h), (10, .slice pv A.length cp2), (11, .bool true), (12, vI (i : Int)), (24, .bool true), (37, .bool false)]) ⟨rfl, rfl, rfl, rfl, rfl, rfl, rfl, rfl, rfl, rfl, trivial⟩ ?_
            refine WC.no rfl (WC.skip ?_)
            refine WQ.sub (l' := [(1, .slice (some ⟨g, o, none⟩) t.length cp), (2, vI x), (3, .bool false), (4, vP b4 0), (9, vI h), (10, .slice pv A.length cp2), (11, .bool true), (12, vI (i : Int)), (24, .bool true)]) ⟨rfl, rfl, rfl, rfl, rfl, rfl, rfl, rfl, rfl, trivial⟩ ?_
            exact WQ.cut ⟨A, pv, cp2, true, rfl, by rw [hR, rest_in], hAl, hH18⟩
      ·
        rintro lz w29 ⟨A1, pv1, cp1, in1, rfl, hR1, hAl1, hH28⟩
        refine WC.seq fun K30 hK30 => WC.seq fun K31 hK31 => WC.region ?_
        refine WL.z (v := .slice (some ⟨g, o, none⟩) t.length cp) 43 ?_
        refine WL.z (v := vI (i : Int)) 44 ?_
        refine WL.y (v := vP g (o + i * 2)) 45 (x_idx (i) (o + i * 2) rfl rfl rfl Try.underlying49 sz83 (by omega) (by omega) (by omega)) ?_
        refine WL.y (v := vP g (o + i * 2)) 46 (x_idxArr (0) (o + i * 2) rfl rfl rfl Try.underlying83 sz3 (by omega) (by omega) (by omega)) ?_
        refine WL.y (v := vI (lnT t i)) 47 (x_load rfl rfl Try.underlying3 rfl ((HP.oldRange hH28 trivial (hrow i (by omega))) 0 _ rfl)) ?_
        refine WL.z (v := vI x) 48 ?_
        by_cases h49 : lnT t i = x
        ·
          refine WL.y (v := .bool true) 49 (x_eql rfl rfl rfl (dT (h49))) ?_
          refine WL.nil (WQ.then (hK31 _ _ _ ?_))
          refine WC.sub (l' := [(1, .slice (some ⟨g, o, none⟩) t.length cp), (2, vI x), (3, .bool false), (4, vP b4 0), (9, vI h), (10, .slice pv1 A1.length cp1), (11, .bool in1), (12, vI (i : Int)), (24, .bool true), (49, .bool true)]) ⟨rfl, rfl, rfl, rfl, rfl, rfl, rfl, rfl, rfl, rfl, trivial⟩ ?_
          refine WC.yes rfl (WC.exit (WQ.thenExit (WQ.inExit (WQ.then (hK21 _ _ _ (WC.region ?_))))))
          refine WL.z (v := vI (i : Int)) 25 ?_
          refine WL.y (v := vI ((i + 1 : Nat) : Int)) 26 (x_add (Z := ((i + 1 : Nat) : Int)) rfl rfl rfl (by omega) (by omega) (by omega)) ?_
          refine WL.z (v := vI ((i + 1 : Nat) : Int)) 12 ?_
          refine WL.nil ?_
          have hst : stE s y x d (lnT t i, agT t i) = [] := by unfold stE; rw [if_pos h49]
          refine WQ.sub (l' := [(1, .slice (some ⟨g, o, none⟩) t.length cp), (2, vI x), (3, .bool false), (4, vP b4 0), (9, vI h), (10, .slice pv1 A1.length cp1), (11, .bool in1), (12, vI ((i + 1 : Nat) : Int))]) ⟨rfl, rfl, rfl, rfl, rfl, rfl, rfl, rfl, trivial⟩ ?_
          refine WQ.then (hK16 _ _ _ (by omega) ⟨i + 1, A1, pv1, cp1, in1, rfl, rfl, by omega, by rw [hR1, hst]; simp, by omega, hH28⟩)
        ·
          refine WL.y (v := .bool false) 49 (x_eql rfl rfl rfl (dF (h49))) ?_
          refine WL.nil (WQ.then (hK31 _ _ _ ?_))
          refine WC.sub (l' := [(1, .slice (some ⟨g, o, none⟩) t.length cp), (2, vI x), (3, .bool false), (4, vP b4 0), (9, vI h), (10, .slice pv1 A1.length cp1), (11, .bool in1), (12, vI (i : Int)), (24, .bool true), (49, .bool false)]) ⟨rfl, rfl, rfl, rfl, rfl, rfl, rfl, rfl, rfl, rfl, trivial⟩ ?_
          refine WC.no rfl (WC.skip (WQ.then (hK30 _ _ _ (WC.seq fun K32 hK32 => WC.region ?_))))
          refine WL.z (v := .slice (some ⟨g, o, none⟩) t.length cp) 50 ?_
          refine WL.z (v := vI (i : Int)) 51 ?_
          refine WL.y (v := vP g (o + i * 2)) 52 (x_idx (i) (o + i * 2) rfl rfl rfl Try.underlying49 sz83 (by omega) (by omega) (by omega)) ?_
          refine WL.y (v := vP g (o + i * 2 + 1)) 53 (x_idxArr (1) (o + i * 2 + 1) rfl rfl rfl Try.underlying83 sz3 (by omega) (by omega) (by omega)) ?_
          refine WL.y (v := vI (agT t i)) 54 (x_load rfl rfl Try.underlying3 rfl ((HP.oldRange hH28 trivial (hrow i (by omega))) 1 _ rfl)) ?_
          refine WL.z (v := vI (agT t i)) 13 ?_
          refine WL.nil (WQ.then (hK32 _ _ _ ?_))
          refine WC.cut (fun lz w2 => ∃ (a2 : Int), lz = [(1, .slice (some ⟨g, o, none⟩) t.length cp), (2, vI x), (3, .bool false), (4, vP b4 0), (9, vI h), (10, .slice pv1 A1.length cp1), (11, .bool in1), (12, vI (i : Int)), (13, vI a2), (24, .bool true), (49, .bool false)] ∧ (a2 = (if (lnT t i).tmod s = x.tmod s ∧ agT t i < d then agT t i + 1 else agT t i)) ∧ (0 ≤ a2 ∧ a2 ≤ 1000) ∧ HP Tr w w2 [.cel b4 #[vI s, vI y, vI l, vI m] 23, rowT pv1 A1.length cp1 A1]) ?_ ?_
          ·
            refine WC.seq fun K33 hK33 => ?_
            refine WC.still (by kernel_rfl) (by kernel_rfl) ?_
            have hH34 : HP Tr w _ [.cel b4 #[vI s, vI y, vI l, vI m] 23, rowT pv1 A1.length cp1 A1] := HP.drew hH28
            refine WS.z (v := .slice (some ⟨g, o, none⟩) t.length cp) 55 ?_
            refine WS.z (v := vI (i : Int)) 56 ?_
            refine WS.y (v := vP g (o + i * 2)) 57 (x_idx (i) (o + i * 2) rfl rfl rfl Try.underlying49 sz83 (by omega) (by omega) (by omega)) ?_
            refine WS.y (v := vP g (o + i * 2)) 58 (x_idxArr (0) (o + i * 2) rfl rfl rfl Try.underlying83 sz3 (by omega) (by omega) (by omega)) ?_
            refine WS.y (v := vI (lnT t i)) 59 (x_load rfl rfl Try.underlying3 rfl ((HP.oldRange hH34 trivial (hrow i (by omega))) 0 _ rfl)) ?_
            refine WS.z (v := vP b4 0) 60 ?_
            refine WS.y (v := vI s) 61 (x_load rfl rfl Try.underlying3 rfl (HP.cell hH34 0 rfl rfl)) ?_
            refine WS.y (v := vI ((lnT t i).tmod s)) 62 (x_rem rfl rfl rfl hs0 rfl) ?_
            refine WS.z (v := vI x) 63 ?_
            refine WS.z (v := vP b4 0) 64 ?_
            refine WS.y (v := vI s) 65 (x_load rfl rfl Try.underlying3 rfl (HP.cell hH34 0 rfl rfl)) ?_
            refine WS.y (v := vI (x.tmod s)) 66 (x_rem rfl rfl rfl hs0 rfl) ?_
            by_cases h67 : (lnT t i).tmod s = x.tmod s
            ·
              refine WS.y (v := .bool true) 67 (x_eql rfl rfl rfl (dT (h67))) ?_
              refine WS.z (v := .bool true) 68 ?_
              refine WS.z (v := vI (agT t i)) 69 ?_
              refine WS.z (v := vI h) 70 ?_
              by_cases h71 : agT t i < h
              ·
                refine WS.y (v := .bool true) 71 (x_lss rfl rfl rfl (dT (h71))) ?_
                refine WS.z (v := .bool true) 72 ?_
                refine WS.p 73 ?_
                refine WS.p 74 ?_
                refine WS.p 75 ?_
                refine WS.p 76 ?_
                refine WS.p 77 ?_
                refine WS.p 78 ?_
                refine WS.z (v := .bool true) 79 ?_
                refine WS.z (v := .bool true) 80 ?_
                refine WS.nilQ (WQ.then (hK33 _ _ _ ?_))
                refine WC.sub (l' := [(1, .slice (some ⟨g, o, none⟩) t.length cp), (2, vI x), (3, .bool false), (4, vP b4 0), (9, vI h), (10, .slice pv1 A1.length cp1), (11, .bool in1), (12, vI (i : Int)), (13, vI (agT t i)), (24, .bool true), (49, .bool false), (80, .bool true)]) ⟨rfl, rfl, rfl, rfl, rfl, rfl, rfl, rfl, rfl, rfl, rfl, rfl, trivial⟩ ?_
                refine WC.yes rfl (WC.region ?_)
                refine WL.z (v := vI (agT t i)) 81 ?_
                refine WL.y (v := vI (agT t i + 1)) 82 (x_add (Z := agT t i + 1) rfl rfl rfl (by omega) (by omega) (by omega)) ?_
                refine WL.z (v := vI (agT t i + 1)) 13 ?_
                refine WL.nil ?_
                refine WQ.sub (l' := [(1, .slice (some ⟨g, o, none⟩) t.length cp), (2, vI x), (3, .bool false), (4, vP b4 0), (9, vI h), (10, .slice pv1 A1.length cp1), (11, .bool in1), (12, vI (i : Int)), (13, vI (agT t i + 1)), (24, .bool true), (49, .bool false)]) ⟨rfl, rfl, rfl, rfl, rfl, rfl, rfl, rfl, rfl, rfl, rfl, trivial⟩ ?_
                exact WQ.cut ⟨agT t i + 1, rfl, by rw [if_pos ⟨h67, by omega⟩], by omega, hH34⟩
              ·
                refine WS.y (v := .bool false) 71 (x_lss rfl rfl rfl (dF (h71))) ?_
                refine WS.z (v := .bool false) 72 ?_
                refine WS.z (v := .bool false) 73 ?_
                refine WS.z (v := .bool false) 74 ?_
                refine WS.p 75 ?_
                refine WS.p 76 ?_
                refine WS.p 77 ?_
                refine WS.z (v := .bool false) 78 ?_
                refine WS.z (v := .bool false) 79 ?_
                refine WS.z (v := .bool false) 80 ?_
                refine WS.nilQ (WQ.then (hK33 _ _ _ ?_))
                refine WC.sub (l' := [(1, .slice (some ⟨g, o, none⟩) t.length cp), (2, vI x), (3, .bool false), (4, vP b4 0), (9, vI h), (10, .slice pv1 A1.length cp1), (11, .bool in1), (12, vI (i : Int)), (13, vI (agT t i)), (24, .bool true), (49, .bool false), (80, .bool false)]) ⟨rfl, rfl, rfl, rfl, rfl, rfl, rfl, rfl, rfl, rfl, rfl, rfl, trivial⟩ ?_
                refine WC.no rfl (WC.skip ?_)
                refine WQ.sub (l' := [(1, .slice (some ⟨g, o, none⟩) t.length cp), (2, vI x), (3, .bool false), (4, vP b4 0), (9, vI h), (10, .slice pv1 A1.length cp1), (11, .bool in1), (12, vI (i : Int)), (13, vI (agT t i)), (24, .bool true), (49, .bool false)]) ⟨rfl, rfl, rfl, rfl, rfl, rfl, rfl, rfl, rfl, rfl, rfl, trivial⟩ ?_
                exact WQ.cut ⟨agT t i, rfl, by rw [if_neg (fun q => absurd q.2 (by omega))], by omega, hH34⟩
            ·
              refine WS.y (v := .bool false) 67 (x_eql rfl rfl rfl (dF (h67))) ?_
              refine WS.z (v := .bool false) 68 ?_
              refine WS.p 69 ?_
              refine WS.p 70 ?_
              refine WS.p 71 ?_
              refine WS.p 72 ?_
              refine WS.p 73 ?_
              refine WS.p 74 ?_
              refine WS.p 75 ?_
              refine WS.p 76 ?_
              refine WS.p 77 ?_
              refine WS.p 78 ?_
              refine WS.p 79 ?_
              refine WS.z (v := .bool false) 80 ?_
              refine WS.nilQ (WQ.then (hK33 _ _ _ ?_))
              refine WC.sub (l' := [(1, .slice (some ⟨g, o, none⟩) t.length cp), (2, vI x), (3, .bool false), (4, vP b4 0), (9, vI h), (10, .slice pv1 A1.length cp1), (11, .bool in1), (12, vI (i : Int)), (13, vI (agT t i)), (24, .bool true), (49, .bool false), (80, .bool false)]) ⟨rfl, rfl, rfl, rfl, rfl, rfl, rfl, rfl, rfl, rfl, rfl, rfl, trivial⟩ ?_
              refine WC.no rfl (WC.skip ?_)
              refine WQ.sub (l' := [(1, .slice (some ⟨g, o, none⟩) t.length cp), (2, vI x), (3, .bool false), (4, vP b4 0), (9, vI h), (10, .slice pv1 A1.length cp1), (11, .bool in1), (12, vI (i : Int)), (13, vI (agT t i)), (24, .bool true), (49, .bool false)]) ⟨rfl, rfl, rfl, rfl, rfl, rfl, rfl, rfl, rfl, rfl, rfl, trivial⟩ ?_
              exact WQ.cut ⟨agT t i, rfl, by rw [if_neg (fun q => h67 q.1)], by omega, hH34⟩
          ·
            rintro lz w36 ⟨a2, rfl, ha2, hab, hH35⟩
            refine WC.seq fun K37 hK37 => WC.region ?_
            refine WL.z (v := vI a2) 83 ?_
            refine WL.z (v := vP b4 1) 84 ?_
            refine WL.y (v := vI y) 85 (x_load rfl rfl Try.underlying3 rfl (HP.cell hH35 0 rfl rfl)) ?_
            by_cases h86 : a2 < y
            ·
              refine WL.y (v := .bool true) 86 (x_lss rfl rfl rfl (dT (h86))) ?_
              refine WL.nil (WQ.then (hK37 _ _ _ (WC.yes rfl (WC.region ?_))))
              refine WL.z (v := .slice pv1 A1.length cp1) 87 ?_
              refine WL.z (v := .slice (some ⟨g, o, none⟩) t.length cp) 88 ?_
              refine WL.z (v := vI (i : Int)) 89 ?_
              refine WL.y (v := vP g (o + i * 2)) 90 (x_idx (i) (o + i * 2) rfl rfl rfl Try.underlying49 sz83 (by omega) (by omega) (by omega)) ?_
              refine WL.y (v := vP g (o + i * 2)) 91 (x_idxArr (0) (o + i * 2) rfl rfl rfl Try.underlying83 sz3 (by omega) (by omega) (by omega)) ?_
              refine WL.y (v := vI (lnT t i)) 92 (x_load rfl rfl Try.underlying3 rfl ((HP.oldRange hH35 trivial (hrow i (by omega))) 0 _ rfl)) ?_
              refine WL.z (v := vI a2) 93 ?_
              refine WL.z (v := .agg #[vI (lnT t i), vI a2]) 94 ?_
              refine WL.alloc (c := #[vI (lnT t i), vI a2]) (T := 83) hH35 95 rfl (by decide) rfl rfl (fun b95 => vS b95 1 1) (by kernel_rfl) (fun b95 w38 hw38 => ?_)
              have hH39 : HP Tr w w38 [.cel b4 #[vI s, vI y, vI l, vI m] 23, rowT pv1 A1.length cp1 A1, .cel b95 #[vI (lnT t i), vI a2] 83] := hw38.2
              have nb95 := hw38.1
              clear hw38
              obtain ⟨i0, hi0, hz0, hz1, hz2⟩ := infoT
              have hAl9 : A1.length ≤ 200000 := by have := hAl1; revert this; cases in1 <;> simp <;> omega
              refine WL.append (news := [vI (lnT t i), vI a2]) 1 2 hH39 96 rfl (by decide) rfl rfl rfl rfl Try.underlying49 hi0 hz0 hz1 hz2 rfl (by decide) rfl rfl rfl rfl (by simp [Value.oneCell']) (by unfold maxLen; omega) (by omega) ?_
              rintro v740 w740 - hA740
              obtain ⟨pv740, cp740, rfl⟩ := own_row (HP.get hA740 1 rfl)
              have e740 : A1.length + 1 = (A1 ++ [(lnT t i, a2)]).length := (len1 _ _).symm
              rw [tL_push, e740] at hA740
              rw [e740]
              have hH41 : HP Tr w _ [.cel b4 #[vI s, vI y, vI l, vI m] 23, rowT pv740 (A1 ++ [(lnT t i, a2)]).length cp740 (A1 ++ [(lnT t i, a2)]), .cel b95 #[vI (lnT t i), vI a2] 83] := hA740
              refine WL.z (v := .slice pv740 ((A1 ++ [(lnT t i, a2)]).length) cp740) 10 ?_
              refine WL.nil (WQ.inNormal (WQ.then (hK21 _ _ _ ?_)))
              refine WC.sub (l' := [(1, .slice (some ⟨g, o, none⟩) t.length cp), (2, vI x), (3, .bool false), (4, vP b4 0), (9, vI h), (10, .slice pv740 ((A1 ++ [(lnT t i, a2)]).length) cp740), (11, .bool in1), (12, vI (i : Int)), (13, vI a2), (24, .bool true), (49, .bool false), (86, .bool true)]) ⟨rfl, rfl, rfl, rfl, rfl, rfl, rfl, rfl, rfl, rfl, rfl, rfl, trivial⟩ ?_
              refine WC.region ?_
              refine WL.z (v := vI (i : Int)) 25 ?_
              refine WL.y (v := vI ((i + 1 : Nat) : Int)) 26 (x_add (Z := ((i + 1 : Nat) : Int)) rfl rfl rfl (by omega) (by omega) (by omega)) ?_
              refine WL.z (v := vI ((i + 1 : Nat) : Int)) 12 ?_
              refine WL.nil ?_
              have hst : stE s y x d (lnT t i, agT t i) = [(lnT t i, a2)] := by rw [st_age (q := (lnT t i, agT t i)) h49 ha2, if_pos h86]
              refine WQ.sub (l' := [(1, .slice (some ⟨g, o, none⟩) t.length cp), (2, vI x), (3, .bool false), (4, vP b4 0), (9, vI h), (10, .slice pv740 ((A1 ++ [(lnT t i, a2)]).length) cp740), (11, .bool in1), (12, vI ((i + 1 : Nat) : Int))]) ⟨rfl, rfl, rfl, rfl, rfl, rfl, rfl, rfl, trivial⟩ ?_
              refine WQ.then (hK16 _ _ _ (by omega) ⟨i + 1, (A1 ++ [(lnT t i, a2)]), pv740, cp740, in1, rfl, rfl, by omega, by rw [hR1, hst]; simp, by rw [len1]; omega, (HP.drop hH41 2)⟩)
            ·
              refine WL.y (v := .bool false) 86 (x_lss rfl rfl rfl (dF (h86))) ?_
              refine WL.nil (WQ.then (hK37 _ _ _ (WC.no rfl (WC.skip (WQ.inNormal (WQ.then (hK21 _ _ _ ?_)))))))
              refine WC.region ?_
              refine WL.z (v := vI (i : Int)) 25 ?_
              refine WL.y (v := vI ((i + 1 : Nat) : Int)) 26 (x_add (Z := ((i + 1 : Nat) : Int)) rfl rfl rfl (by omega) (by omega) (by omega)) ?_
              refine WL.z (v := vI ((i + 1 : Nat) : Int)) 12 ?_
              refine WL.nil ?_
              have hst : stE s y x d (lnT t i, agT t i) = [] := by rw [st_age (q := (lnT t i, agT t i)) h49 ha2, if_neg h86]
              refine WQ.sub (l' := [(1, .slice (some ⟨g, o, none⟩) t.length cp), (2, vI x), (3, .bool false), (4, vP b4 0), (9, vI h), (10, .slice pv1 A1.length cp1), (11, .bool in1), (12, vI ((i + 1 : Nat) : Int))]) ⟨rfl, rfl, rfl, rfl, rfl, rfl, rfl, rfl, trivial⟩ ?_
              refine WQ.then (hK16 _ _ _ (by omega) ⟨i + 1, A1, pv1, cp1, in1, rfl, rfl, by omega, by rw [hR1, hst]; simp, by omega, hH35⟩)
    ·
      refine WL.y (v := .bool false) 24 (x_lss rfl rfl rfl (dF (hlt))) ?_
      refine WL.nil (WQ.then (hK20 _ _ _ (WC.no rfl (WC.exit (WQ.thenExit (WQ.thenExit (WQ.inExit ?_)))))))
      refine WQ.then (hK14 _ _ _ (WC.seq fun K42 hK42 => WC.seq fun K43 hK43 => ?_))
      have hil : i = t.length := by omega
      subst hil
      rw [List.drop_length] at hR
      cases inn
      ·
        refine WC.region ?_
        refine WL.z (v := .bool false) 97 ?_
        refine WL.z (v := .bool true) 98 ?_
        refine WL.nil (WQ.then (hK43 _ _ _ (WC.yes rfl (WC.region ?_))))
        refine WL.z (v := .slice pv A.length cp2) 99 ?_
        refine WL.z (v := vI x) 100 ?_
        refine WL.z (v := .agg #[vI x, vI 0]) 101 ?_
        refine WL.alloc (c := #[vI x, vI 0]) (T := 83) hH18 102 rfl (by decide) rfl rfl (fun b102 => vS b102 1 1) (by kernel_rfl) (fun b102 w44 hw44 => ?_)
        have hH45 : HP Tr w w44 [.cel b4 #[vI s, vI y, vI l, vI m] 23, rowT pv A.length cp2 A, .cel b102 #[vI x, vI 0] 83] := hw44.2
        have nb102 := hw44.1
        clear hw44
        obtain ⟨i0, hi0, hz0, hz1, hz2⟩ := infoT
        have hAl9 : A.length ≤ 200000 := by have := hAl; simp at this; omega
        refine WL.append (news := [vI x, vI 0]) 1 2 hH45 103 rfl (by decide) rfl rfl rfl rfl Try.underlying49 hi0 hz0 hz1 hz2 rfl (by decide) rfl rfl rfl rfl (by simp [Value.oneCell']) (by unfold maxLen; omega) (by omega) ?_
        rintro v746 w746 - hA746
        obtain ⟨pv746, cp746, rfl⟩ := own_row (HP.get hA746 1 rfl)
        have e746 : A.length + 1 = (A ++ [(x, 0)]).length := (len1 _ _).symm
        rw [tL_push, e746] at hA746
        rw [e746]
        have hH47 : HP Tr w _ [.cel b4 #[vI s, vI y, vI l, vI m] 23, rowT pv746 (A ++ [(x, 0)]).length cp746 (A ++ [(x, 0)]), .cel b102 #[vI x, vI 0] 83] := hA746
        refine WL.z (v := .slice pv746 ((A ++ [(x, 0)]).length) cp746) 10 ?_
        refine WL.nil (WQ.then (hK42 _ _ _ ?_))
        refine WC.sub (l' := [(1, .slice p t.length cp), (2, vI x), (3, .bool false), (4, vP b4 0), (9, vI h), (10, .slice pv746 ((A ++ [(x, 0)]).length) cp746), (11, .bool false), (12, vI (t.length : Int)), (24, .bool false), (98, .bool true)]) ⟨rfl, rfl, rfl, rfl, rfl, rfl, rfl, rfl, rfl, rfl, trivial⟩ ?_
        refine WC.seq fun K48 hK48 => ?_
        have hR2 : rL s y x d t = (A ++ [(x, 0)]) := by rw [show rL s y x d t = rest s y x d false t from rfl, hR]; simp [rest, rL]
        refine WC.region ?_
        refine WL.z (v := .slice pv746 ((A ++ [(x, 0)]).length) cp746) 104 ?_
        refine WL.z (v := .slice pv746 ((A ++ [(x, 0)]).length) cp746) 8 ?_
        refine WL.nil (WQ.then (hK48 _ _ _ (WC.ret ?_)))
        refine WQ.ret1 8 rfl rfl ?_
        exact ⟨pv746, cp746, by rw [hR2], by rw [hR2]; exact HP.eq (HP.drop (HP.drop hH47 2) 0) rfl⟩
      ·
        refine WC.region ?_
        refine WL.z (v := .bool true) 97 ?_
        refine WL.z (v := .bool false) 98 ?_
        refine WL.nil (WQ.then (hK43 _ _ _ (WC.no rfl (WC.skip (WQ.then (hK42 _ _ _ (WC.seq fun K49 hK49 => ?_)))))))
        have hR2 : rL s y x d t = A := by rw [show rL s y x d t = rest s y x d false t from rfl, hR]; simp [rest, rL]
        refine WC.region ?_
        refine WL.z (v := .slice pv A.length cp2) 104 ?_
        refine WL.z (v := .slice pv A.length cp2) 8 ?_
        refine WL.nil (WQ.then (hK49 _ _ _ (WC.ret ?_)))
        refine WQ.ret1 8 rfl rfl ?_
        exact ⟨pv, cp2, by rw [hR2], by rw [hR2]; exact HP.eq (HP.drop hH18 0) rfl⟩
set_option maxRecDepth 20000 in
set_option maxHeartbeats 4000000 in
theorem rAged1_any (p : Option Addr) (t : List T2) (cp : Nat) (s y l m x d mz : Int) (w : World) (hT : InT w p t) (hs0 : s ≠ 0) (hy : 0 ≤ y ∧ y ≤ 100) (hv : ∀ i, i < t.length → 0 ≤ agT t i ∧ agT t i ≤ 100) (hd : d = (ageT t x).getD y + mz) (hmz : mz = 1) (hn : t.length ≤ 100000) :
    Calls Try.prog 60 #[.agg #[vI s, vI y, vI l, vI m], .slice p t.length cp, vI x, .bool true] w fun e w' => ∃ pv cp', e = .returned (.slice pv (rL s y x d t).length cp') ∧ HP Tr w w' [rowT pv (rL s y x d t).length cp' (rL s y x d t)] := by
  refine calls_of Try.func60 rfl (m := 105) rfl [(0, .agg #[vI s, vI y, vI l, vI m]), (1, .slice p t.length cp), (2, vI x), (3, .bool true)] (Fr_enter [.agg #[vI s, vI y, vI l, vI m], .slice p t.length cp, vI x, .bool true] 105 (Nat.le_of_ble_eq_true rfl)) ?_
  have hH1 : HP Tr w w [] := HP.refl w
  refine WC.seq fun K2 hK2 => WC.region ?_
  refine WL.alloc (c := #[vI s, vI y, vI l, vI m]) (T := 23) hH1 4 rfl (by decide) rfl rfl (fun b4 => vP b4 0) (by kernel_rfl) (fun b4 w3 hw3 => ?_)
  have hH4 : HP Tr w w3 [.cel b4 #[vI s, vI y, vI l, vI m] 23] := hw3.2
  have nb4 := hw3.1
  clear hw3
  refine WL.z (v := .slice none 0 0) 8 ?_
  refine WL.nil (WQ.then (hK2 _ _ _ (WC.seq fun K5 hK5 => WC.region ?_)))
  refine WL.z (v := .slice p t.length cp) 14 ?_
  refine WL.z (v := vI x) 15 ?_
  refine WL.call (f := 69) (args := #[.slice p t.length cp, vI x]) 16 rfl (Nat.le_of_ble_eq_true rfl) rfl rfl (by kernel_rfl) ?_
  refine (rAge_any _ t _ _ (hT.below (HP.below hH4)) x (by omega)).mono ?_
  rintro e w6 ⟨rfl, hb7⟩
  refine ⟨_, rfl, ?_⟩
  have hH8 : HP Tr w _ [.cel b4 #[vI s, vI y, vI l, vI m] 23] := HP.call hH4 hb7
  refine WL.z (v := vI ((ageT t x).getD (-1))) 9 ?_
  refine WL.nil (WQ.then (hK5 _ _ _ ?_))
  refine WC.cut (fun lz w2 => ∃ (h : Int), lz = [(0, .agg #[vI s, vI y, vI l, vI m]), (1, .slice p t.length cp), (2, vI x), (3, .bool true), (4, vP b4 0), (8, .slice none 0 0), (9, vI h)] ∧ (d = h + mz) ∧ (0 ≤ h ∧ h ≤ 100) ∧ HP Tr w w2 [.cel b4 #[vI s, vI y, vI l, vI m] 23]) ?_ ?_
  ·
    refine WC.seq fun K9 hK9 => WC.region ?_
    refine WL.z (v := vI ((ageT t x).getD (-1))) 17 ?_
    by_cases h18 : (ageT t x).getD (-1) < 0
    ·
      refine WL.y (v := .bool true) 18 (x_lss rfl rfl rfl (dT (h18))) ?_
      refine WL.nil (WQ.then (hK9 _ _ _ (WC.yes rfl (WC.region ?_))))
      refine WL.z (v := vP b4 1) 19 ?_
      refine WL.y (v := vI y) 20 (x_load rfl rfl Try.underlying3 rfl (HP.cell hH8 0 rfl rfl)) ?_
      refine WL.z (v := vI y) 9 ?_
      refine WL.nil ?_
      refine WQ.sub (l' := [(0, .agg #[vI s, vI y, vI l, vI m]), (1, .slice p t.length cp), (2, vI x), (3, .bool true), (4, vP b4 0), (8, .slice none 0 0), (9, vI y)]) ⟨rfl, rfl, rfl, rfl, rfl, rfl, rfl, trivial⟩ ?_
      exact WQ.cut ⟨y, rfl, by rw [← age_neg (y := y) hv h18]; exact hd, by omega, hH8⟩
    ·
      refine WL.y (v := .bool false) 18 (x_lss rfl rfl rfl (dF (h18))) ?_
      refine WL.nil (WQ.then (hK9 _ _ _ (WC.no rfl (WC.skip ?_))))
      refine WQ.sub (l' := [(0, .agg #[vI s, vI y, vI l, vI m]), (1, .slice p t.length cp), (2, vI x), (3, .bool true), (4, vP b4 0), (8, .slice none 0 0), (9, vI ((ageT t x).getD (-1)))]) ⟨rfl, rfl, rfl, rfl, rfl, rfl, rfl, trivial⟩ ?_
      exact WQ.cut ⟨(ageT t x).getD (-1), rfl, by rw [← (age_pos (y := y) hv h18).1]; exact hd, by have := age_pos (y := y) hv h18; omega, hH8⟩
  ·
    rintro lz w11 ⟨h, rfl, hdv, hh, hH10⟩
    refine WC.seq fun K12 hK12 => WC.region ?_
    refine WL.z (v := .slice none 0 0) 10 ?_
    refine WL.nil (WQ.then (hK12 _ _ _ (WC.seq fun K13 hK13 => WC.region ?_)))
    refine WL.z (v := .bool false) 11 ?_
    refine WL.nil (WQ.then (hK13 _ _ _ (WC.seq fun K14 hK14 => WC.seq fun K15 hK15 => WC.region ?_)))
    refine WL.z (v := vI 0) 12 ?_
    refine WL.nil (WQ.then (hK15 _ _ _ (WC.block ?_)))
    refine WC.loop (fun kk0 ll0 ww0 => ∃ (i : Nat) (A : List T2) (pv : Option Addr) (cp2 : Nat) (inn : Bool), ll0 = [(1, .slice p t.length cp), (2, vI x), (3, .bool true), (4, vP b4 0), (9, vI h), (10, .slice pv A.length cp2), (11, .bool inn), (12, vI (i : Int))] ∧ kk0 = t.length - i ∧ (i ≤ t.length) ∧ (rest s y x d false t = A ++ rest s y x d inn (t.drop i)) ∧ (A.length ≤ i + (bif inn then 1 else 0)) ∧ HP Tr w ww0 [.cel b4 #[vI s, vI y, vI l, vI m] 23, rowT pv A.length cp2 A]) (t.length) [(1, .slice p t.length cp), (2, vI x), (3, .bool true), (4, vP b4 0), (9, vI h), (10, .slice none 0 0), (11, .bool false), (12, vI 0)] ⟨rfl, rfl, rfl, rfl, rfl, rfl, rfl, rfl, trivial⟩ ⟨0, [], none, 0, false, rfl, rfl, Nat.zero_le _, by simp, Nat.zero_le _, HP.ownNil hH10 83 2⟩ ?_
    rintro kk l w17 ⟨i, A, pv, cp2, inn, rfl, hkk, hi, hR, hAl, hH18⟩ K16 hK16
    refine WC.seq fun K19 hK19 => WC.seq fun K20 hK20 => WC.region ?_
    refine WL.z (v := vI (i : Int)) 21 ?_
    refine WL.z (v := .slice p t.length cp) 22 ?_
    refine WL.z (v := vI (t.length : Int)) 23 ?_
    by_cases hlt : (i : Int) < (t.length : Int)
    ·
      refine WL.y (v := .bool true) 24 (x_lss rfl rfl rfl (dT (hlt))) ?_
      refine WL.nil (WQ.then (hK20 _ _ _ (WC.yes rfl (WC.skip (WQ.then (hK19 _ _ _ (WC.seq fun K21 hK21 => ?_)))))))
      refine WC.block ?_
      obtain ⟨g, o, rfl, hrow⟩ := hT (by omega)
      have hdr := drop_t (show i < t.length by omega)
      have hvi := hv i (by omega)
      rw [hdr] at hR
      refine WC.cut (fun lz w2 => ∃ (A1 : List T2) (pv1 : Option Addr) (cp1 : Nat) (in1 : Bool), lz = [(1, .slice (some ⟨g, o, none⟩) t.length cp), (2, vI x), (3, .bool true), (4, vP b4 0), (9, vI h), (10, .slice pv1 A1.length cp1), (11, .bool in1), (12, vI (i : Int)), (24, .bool true)] ∧ (rest s y x d false t = A1 ++ (stE s y x d (lnT t i, agT t i) ++ rest s y x d in1 (t.drop (i + 1)))) ∧ (A1.length ≤ i + (bif in1 then 1 else 0)) ∧ HP Tr w w2 [.cel b4 #[vI s, vI y, vI l, vI m] 23, rowT pv1 A1.length cp1 A1]) ?_ ?_
      ·
        refine WC.seq fun K22 hK22 => ?_
        cases inn
        ·
          refine WC.region ?_
          refine WL.z (v := .slice (some ⟨g, o, none⟩) t.length cp) 27 ?_
          refine WL.z (v := vI (i : Int)) 28 ?_
          refine WL.y (v := vP g (o + i * 2)) 29 (x_idx (i) (o + i * 2) rfl rfl rfl Try.underlying49 sz83 (by omega) (by omega) (by omega)) ?_
          refine WL.y (v := vP g (o + i * 2)) 30 (x_idxArr (0) (o + i * 2) rfl rfl rfl Try.underlying83 sz3 (by omega) (by omega) (by omega)) ?_
          refine WL.y (v := vI (lnT t i)) 31 (x_load rfl rfl Try.underlying3 rfl ((HP.oldRange hH18 trivial (hrow i (by omega))) 0 _ rfl)) ?_
          refine WL.z (v := vI x) 32 ?_
          by_cases h33 : x ≤ lnT t i
          ·
            refine WL.y (v := .bool true) 33 (x_geq rfl rfl rfl (dT (h33))) ?_
            refine WL.z (v := .bool true) 34 ?_
            refine WL.z (v := .bool false) 35 ?_
            refine WL.z (v := .bool true) 36 ?_
            refine WL.z (v := .bool true) 37 ?_
            refine WL.nil (WQ.then (hK22 _ _ _ ?_))
            refine WC.sub (l' := [(1, .slice (some ⟨g, o, none⟩) t.length cp), (2, vI x), (3, .bool true), (4, vP b4 0), (9, vI h), (10, .slice pv A.length cp2), (11, .bool false), (12, vI (i : Int)), (24, .bool true), (37, .bool true)]) ⟨rfl, rfl, rfl, rfl, rfl, rfl, rfl, rfl, rfl, rfl, trivial⟩ ?_
            refine WC.yes rfl (WC.seq fun K23 hK23 => WC.region ?_)
            refine WL.z (v := .slice pv A.length cp2) 38 ?_
            refine WL.z (v := vI x) 39 ?_
            refine WL.z (v := .agg #[vI x, vI 0]) 40 ?_
            refine WL.alloc (c := #[vI x, vI 0]) (T := 83) hH18 41 rfl (by decide) rfl rfl (fun b41 => vS b41 1 1) (by kernel_rfl) (fun b41 w24 hw24 => ?_)
            have hH25 : HP Tr w w24 [.cel b4 #[vI s, vI y, vI l, vI m] 23, rowT pv A.length cp2 A, .cel b41 #[vI x, vI 0] 83] := hw24.2
            have nb41 := hw24.1
            clear hw24
            obtain ⟨i0, hi0, hz0, hz1, hz2⟩ := infoT
            have hAl9 : A.length ≤ 200000 := by have := hAl; simp at this; omega
            refine WL.append (news := [vI x, vI 0]) 1 2 hH25 42 rfl (by decide) rfl rfl rfl rfl Try.underlying49 hi0 hz0 hz1 hz2 rfl (by decide) rfl rfl rfl rfl (by simp [Value.oneCell']) (by unfold maxLen; omega) (by omega) ?_
            rintro v726 w726 - hA726
            obtain ⟨pv726, cp726, rfl⟩ := own_row (HP.get hA726 1 rfl)
            have e726 : A.length + 1 = (A ++ [(x, 0)]).length := (len1 _ _).symm
            rw [tL_push, e726] at hA726
            rw [e726]
            have hH27 : HP Tr w _ [.cel b4 #[vI s, vI y, vI l, vI m] 23, rowT pv726 (A ++ [(x, 0)]).length cp726 (A ++ [(x, 0)]), .cel b41 #[vI x, vI 0] 83] := hA726
            refine WL.z (v := .slice pv726 ((A ++ [(x, 0)]).length) cp726) 10 ?_
            refine WL.nil (WQ.then (hK23 _ _ _ ?_))
            refine WC.sub (l' := [(1, .slice (some ⟨g, o, none⟩) t.length cp), (2, vI x), (3, .bool true), (4, vP b4 0), (9, vI h), (10, .slice pv726 ((A ++ [(x, 0)]).length) cp726), (11, .bool false), (12, vI (i : Int)), (24, .bool true), (37, .bool true)]) ⟨rfl, rfl, rfl, rfl, rfl, rfl, rfl, rfl, rfl, rfl, trivial⟩ ?_
            refine WC.region ?_
            refine WL.z (v := .bool true) 11 ?_
            refine WL.nil ?_
            refine WQ.sub (l' := [(1, .slice (some ⟨g, o, none⟩) t.length cp), (2, vI x), (3, .bool true), (4, vP b4 0), (9, vI h), (10, .slice pv726 ((A ++ [(x, 0)]).length) cp726), (11, .bool true), (12, vI (i : Int)), (24, .bool true)]) ⟨rfl, rfl, rfl, rfl, rfl, rfl, rfl, rfl, rfl, trivial⟩ ?_
            exact WQ.cut ⟨(A ++ [(x, 0)]), pv726, cp726, true, rfl, by rw [hR, rest_put (show x ≤ (lnT t i, agT t i).1 from h33), List.append_assoc], by have := hAl; simp at this ⊢; omega, (HP.drop hH27 2)⟩
          ·
            refine WL.y (v := .bool false) 33 (x_geq rfl rfl rfl (dF (h33))) ?_
            refine WL.z (v := .bool false) 34 ?_
            refine WL.p 35 ?_
            refine WL.p 36 ?_
            refine WL.z (v := .bool false) 37 ?_
            refine WL.nil (WQ.then (hK22 _ _ _ ?_))
            refine WC.sub (l' := [(1, .slice (some ⟨g, o, none⟩) t.length cp), (2, vI x), (3, .bool true), (4, vP b4 0), (9, vI h), (10, .slice pv A.length cp2), (11, .bool false), (12, vI (i : Int)), (24, .bool true), (37, .bool false)]) ⟨rfl, rfl, rfl, rfl, rfl, rfl, rfl, rfl, rfl, rfl, trivial⟩ ?_
            refine WC.no rfl (WC.skip ?_)
            refine WQ.sub (l' := [(1, .slice (some ⟨g, o, none⟩) t.length cp), (2, vI x), (3, .bool true), (4, vP b4 0), (9, vI h), (10, .slice pv A.length cp2), (11, .bool false), (12, vI (i : Int)), (24, .bool true)]) ⟨rfl, rfl, rfl, rfl, rfl, rfl, rfl, rfl, rfl, trivial⟩ ?_
            exact WQ.cut ⟨A, pv, cp2, false, rfl, by rw [hR, rest_no (show ¬ x ≤ (lnT t i, agT t i).1 from h33)], hAl, hH18⟩
        ·
          refine WC.region ?_
          refine WL.z (v := .slice (some ⟨g, o, none⟩) t.length cp) 27 ?_
          refine WL.z (v := vI (i : Int)) 28 ?_
          refine WL.y (v := vP g (o + i * 2)) 29 (x_idx (i) (o + i * 2) rfl rfl rfl Try.underlying49 sz83 (by omega) (by omega) (by omega)) ?_
          refine WL.y (v := vP g (o + i * 2)) 30 (x_idxArr (0) (o + i * 2) rfl rfl rfl Try.underlying83 sz3 (by omega) (by omega) (by omega)) ?_
          refine WL.y (v := vI (lnT t i)) 31 (x_load rfl rfl Try.underlying3 rfl ((HP.oldRange hH18 trivial (hrow i (by omega))) 0 _ rfl)) ?_
          refine WL.z (v := vI x) 32 ?_
          by_cases h33 : x ≤ lnT t i
          ·
            refine WL.y (v := .bool true) 33 (x_geq rfl rfl rfl (dT (h33))) ?_
            refine WL.z (v := .bool true) 34 ?_
            refine WL.z (v := .bool true) 35 ?_
            refine WL.z (v := .bool false) 36 ?_
            refine WL.z (v := .bool false) 37 ?_
            refine WL.nil (WQ.then (hK22 _ _ _ ?_))
            refine WC.sub (l' := [(1, .slice (some ⟨g, o, none⟩) t.length cp), (2, vI x), (3, .bool true), (4, vP b4 0), (9, vI h), (10, .slice pv A.length cp2), (11, .bool true), (12, vI (i : Int)), (24, .bool true), (37, .bool false)]) ⟨rfl, rfl, rfl, rfl, rfl, rfl, rfl, rfl, rfl, rfl, trivial⟩ ?_
            refine WC.no rfl (WC.skip ?_)
            refine WQ.sub (l' := [(1, .slice (some ⟨g, o, none⟩) t.length cp), (2, vI x), (3, .bool true), (4, vP b4 0), (9, vI h), (10, .slice pv A.length cp2), (11, .bool true), (12, vI (i : Int)), (24, .bool true)]) ⟨rfl, rfl, rfl, rfl, rfl, rfl, rfl, rfl, rfl, trivial⟩ ?_
            exact WQ.cut ⟨A, pv, cp2, true, rfl, by rw [hR, rest_in], hAl, hH18⟩
          ·
            refine WL.y (v := .bool false) 33 (x_geq rfl rfl rfl (dF (h33))) ?_
            refine WL.z (v := .bool false) 34 ?_
            refine WL.p 35 ?_
            refine WL.p 36 ?_
            refine WL.z (v := .bool false) 37 ?_
            refine WL.nil (WQ.then (hK22 _ _ _ ?_))
            refine WC.sub (l' := [(1, .slice (some ⟨g, o, none⟩) t.length cp), (2, vI x), (3, .bool true), (4, vP b4 0), (9, vI h), (10, .slice pv A.length cp2), (11, .bool true), (12, vI (i : Int)), (24, .bool true), (37, .bool false)]) ⟨rfl, rfl, rfl, rfl, rfl, rfl, rfl, rfl, rfl, rfl, trivial⟩ ?_
            refine WC.no rfl (WC.skip ?_)
            refine WQ.sub (l' := [(1, .slice (some ⟨g, o, none⟩) t.length cp), (2, vI x), (3, .bool true), (4, vP b4 0), (9, vI h), (10, .slice pv A.length cp2), (11, .bool true), (12, vI (i : Int)), (24, .bool true)]) ⟨rfl, rfl, rfl, rfl, rfl, rfl, rfl, rfl, rfl, trivial⟩ ?_
            exact WQ.cut ⟨A, pv, cp2, true, rfl, by rw [hR, rest_in], hAl, hH18⟩
      ·
        rintro lz w29 ⟨A1, pv1, cp1, in1, rfl, hR1, hAl1, hH28⟩
        refine WC.seq fun K30 hK30 => WC.seq fun K31 hK31 => WC.region ?_
        refine WL.z (v := .slice (some ⟨g, o, none⟩) t.length cp) 43 ?_
        refine WL.z (v := vI (i : Int)) 44 ?_
        refine WL.y (v := vP g (o + i * 2)) 45 (x_idx (i) (o + i * 2) rfl rfl rfl Try.underlying49 sz83 (by omega) (by omega) (by omega)) ?_
        refine WL.y (v := vP g (o + i * 2)) 46 (x_idxArr (0) (o + i * 2) rfl rfl rfl Try.underlying83 sz3 (by omega) (by omega) (by omega)) ?_
        refine WL.y (v := vI (lnT t i)) 47 (x_load rfl rfl Try.underlying3 rfl ((HP.oldRange hH28 trivial (hrow i (by omega))) 0 _ rfl)) ?_
        refine WL.z (v := vI x) 48 ?_
        by_cases h49 : lnT t i = x
        ·
          refine WL.y (v := .bool true) 49 (x_eql rfl rfl rfl (dT (h49))) ?_
          refine WL.nil (WQ.then (hK31 _ _ _ ?_))
          refine WC.sub (l' := [(1, .slice (some ⟨g, o, none⟩) t.length cp), (2, vI x), (3, .bool true), (4, vP b4 0), (9, vI h), (10, .slice pv1 A1.length cp1), (11, .bool in1), (12, vI (i : Int)), (24, .bool true), (49, .bool true)]) ⟨rfl, rfl, rfl, rfl, rfl, rfl, rfl, rfl, rfl, rfl, trivial⟩ ?_
          refine WC.yes rfl (WC.exit (WQ.thenExit (WQ.inExit (WQ.then (hK21 _ _ _ (WC.region ?_))))))
          refine WL.z (v := vI (i : Int)) 25 ?_
          refine WL.y (v := vI ((i + 1 : Nat) : Int)) 26 (x_add (Z := ((i + 1 : Nat) : Int)) rfl rfl rfl (by omega) (by omega) (by omega)) ?_
          refine WL.z (v := vI ((i + 1 : Nat) : Int)) 12 ?_
          refine WL.nil ?_
          have hst : stE s y x d (lnT t i, agT t i) = [] := by unfold stE; rw [if_pos h49]
          refine WQ.sub (l' := [(1, .slice (some ⟨g, o, none⟩) t.length cp), (2, vI x), (3, .bool true), (4, vP b4 0), (9, vI h), (10, .slice pv1 A1.length cp1), (11, .bool in1), (12, vI ((i + 1 : Nat) : Int))]) ⟨rfl, rfl, rfl, rfl, rfl, rfl, rfl, rfl, trivial⟩ ?_
          refine WQ.then (hK16 _ _ _ (by omega) ⟨i + 1, A1, pv1, cp1, in1, rfl, rfl, by omega, by rw [hR1, hst]; simp, by omega, hH28⟩)
        ·
          refine WL.y (v := .bool false) 49 (x_eql rfl rfl rfl (dF (h49))) ?_
          refine WL.nil (WQ.then (hK31 _ _ _ ?_))
          refine WC.sub (l' := [(1, .slice (some ⟨g, o, none⟩) t.length cp), (2, vI x), (3, .bool true), (4, vP b4 0), (9, vI h), (10, .slice pv1 A1.length cp1), (11, .bool in1), (12, vI (i : Int)), (24, .bool true), (49, .bool false)]) ⟨rfl, rfl, rfl, rfl, rfl, rfl, rfl, rfl, rfl, rfl, trivial⟩ ?_
          refine WC.no rfl (WC.skip (WQ.then (hK30 _ _ _ (WC.seq fun K32 hK32 => WC.region ?_))))
          refine WL.z (v := .slice (some ⟨g, o, none⟩) t.length cp) 50 ?_
          refine WL.z (v := vI (i : Int)) 51 ?_
          refine WL.y (v := vP g (o + i * 2)) 52 (x_idx (i) (o + i * 2) rfl rfl rfl Try.underlying49 sz83 (by omega) (by omega) (by omega)) ?_
          refine WL.y (v := vP g (o + i * 2 + 1)) 53 (x_idxArr (1) (o + i * 2 + 1) rfl rfl rfl Try.underlying83 sz3 (by omega) (by omega) (by omega)) ?_
          refine WL.y (v := vI (agT t i)) 54 (x_load rfl rfl Try.underlying3 rfl ((HP.oldRange hH28 trivial (hrow i (by omega))) 1 _ rfl)) ?_
          refine WL.z (v := vI (agT t i)) 13 ?_
          refine WL.nil (WQ.then (hK32 _ _ _ ?_))
          refine WC.cut (fun lz w2 => ∃ (a2 : Int), lz = [(1, .slice (some ⟨g, o, none⟩) t.length cp), (2, vI x), (3, .bool true), (4, vP b4 0), (9, vI h), (10, .slice pv1 A1.length cp1), (11, .bool in1), (12, vI (i : Int)), (13, vI a2), (24, .bool true), (49, .bool false)] ∧ (a2 = (if (lnT t i).tmod s = x.tmod s ∧ agT t i < d then agT t i + 1 else agT t i)) ∧ (0 ≤ a2 ∧ a2 ≤ 1000) ∧ HP Tr w w2 [.cel b4 #[vI s, vI y, vI l, vI m] 23, rowT pv1 A1.length cp1 A1]) ?_ ?_
          ·
            refine WC.seq fun K33 hK33 => ?_
            refine WC.still (by kernel_rfl) (by kernel_rfl) ?_
            have hH34 : HP Tr w _ [.cel b4 #[vI s, vI y, vI l, vI m] 23, rowT pv1 A1.length cp1 A1] := HP.drew hH28
            refine WS.z (v := .slice (some ⟨g, o, none⟩) t.length cp) 55 ?_
            refine WS.z (v := vI (i : Int)) 56 ?_
            refine WS.y (v := vP g (o + i * 2)) 57 (x_idx (i) (o + i * 2) rfl rfl rfl Try.underlying49 sz83 (by omega) (by omega) (by omega)) ?_
            refine WS.y (v := vP g (o + i * 2)) 58 (x_idxArr (0) (o + i * 2) rfl rfl rfl Try.underlying83 sz3 (by omega) (by omega) (by omega)) ?_
            refine WS.y (v := vI (lnT t i)) 59 (x_load rfl rfl Try.underlying3 rfl ((HP.oldRange hH34 trivial (hrow i (by omega))) 0 _ rfl)) ?_
            refine WS.z (v := vP b4 0) 60 ?_
            refine WS.y (v := vI s) 61 (x_load rfl rfl Try.underlying3 rfl (HP.cell hH34 0 rfl rfl)) ?_
            refine WS.y (v := vI ((lnT t i).tmod s)) 62 (x_rem rfl rfl rfl hs0 rfl) ?_
            refine WS.z (v := vI x) 63 ?_
            refine WS.z (v := vP b4 0) 64 ?_
            refine WS.y (v := vI s) 65 (x_load rfl rfl Try.underlying3 rfl (HP.cell hH34 0 rfl rfl)) ?_
            refine WS.y (v := vI (x.tmod s)) 66 (x_rem rfl rfl rfl hs0 rfl) ?_
            by_cases h67 : (lnT t i).tmod s = x.tmod s
            ·
              refine WS.y (v := .bool true) 67 (x_eql rfl rfl rfl (dT (h67))) ?_
              refine WS.z (v := .bool true) 68 ?_
              refine WS.z (v := vI (agT t i)) 69 ?_
              refine WS.z (v := vI h) 70 ?_
              by_cases h71 : agT t i < h
              ·
                refine WS.y (v := .bool true) 71 (x_lss rfl rfl rfl (dT (h71))) ?_
                refine WS.z (v := .bool true) 72 ?_
                refine WS.p 73 ?_
                refine WS.p 74 ?_
                refine WS.p 75 ?_
                refine WS.p 76 ?_
                refine WS.p 77 ?_
                refine WS.p 78 ?_
                refine WS.z (v := .bool true) 79 ?_
                refine WS.z (v := .bool true) 80 ?_
                refine WS.nilQ (WQ.then (hK33 _ _ _ ?_))
                refine WC.sub (l' := [(1, .slice (some ⟨g, o, none⟩) t.length cp), (2, vI x), (3, .bool true), (4, vP b4 0), (9, vI h), (10, .slice pv1 A1.length cp1), (11, .bool in1), (12, vI (i : Int)), (13, vI (agT t i)), (24, .bool true), (49, .bool false), (80, .bool true)]) ⟨rfl, rfl, rfl, rfl, rfl, rfl, rfl, rfl, rfl, rfl, rfl, rfl, trivial⟩ ?_
                refine WC.yes rfl (WC.region ?_)
                refine WL.z (v := vI (agT t i)) 81 ?_
                refine WL.y (v := vI (agT t i + 1)) 82 (x_add (Z := agT t i + 1) rfl rfl rfl (by omega) (by omega) (by omega)) ?_
                refine WL.z (v := vI (agT t i + 1)) 13 ?_
                refine WL.nil ?_
                refine WQ.sub (l' := [(1, .slice (some ⟨g, o, none⟩) t.length cp), (2, vI x), (3, .bool true), (4, vP b4 0), (9, vI h), (10, .slice pv1 A1.length cp1), (11, .bool in1), (12, vI (i : Int)), (13, vI (agT t i + 1)), (24, .bool true), (49, .bool false)]) ⟨rfl, rfl, rfl, rfl, rfl, rfl, rfl, rfl, rfl, rfl, rfl, trivial⟩ ?_
                exact WQ.cut ⟨agT t i + 1, rfl, by rw [if_pos ⟨h67, by omega⟩], by omega, hH34⟩
              ·
                refine WS.y (v := .bool false) 71 (x_lss rfl rfl rfl (dF (h71))) ?_
                refine WS.z (v := .bool false) 72 ?_
                refine WS.z (v := .bool true) 73 ?_
                refine WS.z (v := .bool true) 74 ?_
                refine WS.z (v := vI (agT t i)) 75 ?_
                refine WS.z (v := vI h) 76 ?_
                by_cases h77 : agT t i = h
                ·
                  refine WS.y (v := .bool true) 77 (x_eql rfl rfl rfl (dT (h77))) ?_
                  refine WS.z (v := .bool true) 78 ?_
                  refine WS.z (v := .bool true) 79 ?_
                  refine WS.z (v := .bool true) 80 ?_
                  refine WS.nilQ (WQ.then (hK33 _ _ _ ?_))
                  refine WC.sub (l' := [(1, .slice (some ⟨g, o, none⟩) t.length cp), (2, vI x), (3, .bool true), (4, vP b4 0), (9, vI h), (10, .slice pv1 A1.length cp1), (11, .bool in1), (12, vI (i : Int)), (13, vI (agT t i)), (24, .bool true), (49, .bool false), (80, .bool true)]) ⟨rfl, rfl, rfl, rfl, rfl, rfl, rfl, rfl, rfl, rfl, rfl, rfl, trivial⟩ ?_
                  refine WC.yes rfl (WC.region ?_)
                  refine WL.z (v := vI (agT t i)) 81 ?_
                  refine WL.y (v := vI (agT t i + 1)) 82 (x_add (Z := agT t i + 1) rfl rfl rfl (by omega) (by omega) (by omega)) ?_
                  refine WL.z (v := vI (agT t i + 1)) 13 ?_
                  refine WL.nil ?_
                  refine WQ.sub (l' := [(1, .slice (some ⟨g, o, none⟩) t.length cp), (2, vI x), (3, .bool true), (4, vP b4 0), (9, vI h), (10, .slice pv1 A1.length cp1), (11, .bool in1), (12, vI (i : Int)), (13, vI (agT t i + 1)), (24, .bool true), (49, .bool false)]) ⟨rfl, rfl, rfl, rfl, rfl, rfl, rfl, rfl, rfl, rfl, rfl, trivial⟩ ?_
                  exact WQ.cut ⟨agT t i + 1, rfl, by rw [if_pos ⟨h67, by omega⟩], by omega, hH34⟩
                ·
                  refine WS.y (v := .bool false) 77 (x_eql rfl rfl rfl (dF (h77))) ?_
                  refine WS.z (v := .bool false) 78 ?_
                  refine WS.z (v := .bool false) 79 ?_
                  refine WS.z (v := .bool false) 80 ?_
                  refine WS.nilQ (WQ.then (hK33 _ _ _ ?_))
                  refine WC.sub (l' := [(1, .slice (some ⟨g, o, none⟩) t.length cp), (2, vI x), (3, .bool true), (4, vP b4 0), (9, vI h), (10, .slice pv1 A1.length cp1), (11, .bool in1), (12, vI (i : Int)), (13, vI (agT t i)), (24, .bool true), (49, .bool false), (80, .bool false)]) ⟨rfl, rfl, rfl, rfl, rfl, rfl, rfl, rfl, rfl, rfl, rfl, rfl, trivial⟩ ?_
                  refine WC.no rfl (WC.skip ?_)
                  refine WQ.sub (l' := [(1, .slice (some ⟨g, o, none⟩) t.length cp), (2, vI x), (3, .bool true), (4, vP b4 0), (9, vI h), (10, .slice pv1 A1.length cp1), (11, .bool in1), (12, vI (i : Int)), (13, vI (agT t i)), (24, .bool true), (49, .bool false)]) ⟨rfl, rfl, rfl, rfl, rfl, rfl, rfl, rfl, rfl, rfl, rfl, trivial⟩ ?_
                  exact WQ.cut ⟨agT t i, rfl, by rw [if_neg (fun q => absurd q.2 (by omega))], by omega, hH34⟩
            ·
              refine WS.y (v := .bool false) 67 (x_eql rfl rfl rfl (dF (h67))) ?_
              refine WS.z (v := .bool false) 68 ?_
              refine WS.p 69 ?_
              refine WS.p 70 ?_
              refine WS.p 71 ?_
              refine WS.p 72 ?_
              refine WS.p 73 ?_
              refine WS.p 74 ?_
              refine WS.p 75 ?_
              refine WS.p 76 ?_
              refine WS.p 77 ?_
              refine WS.p 78 ?_
              refine WS.p 79 ?_
              refine WS.z (v := .bool false) 80 ?_
              refine WS.nilQ (WQ.then (hK33 _ _ _ ?_))
              refine WC.sub (l' := [(1, .slice (some ⟨g, o, none⟩) t.length cp), (2, vI x), (3, .bool true), (4, vP b4 0), (9, vI h), (10, .slice pv1 A1.length cp1), (11, .bool in1), (12, vI (i : Int)), (13, vI (agT t i)), (24, .bool true), (49, .bool false), (80, .bool false)]) ⟨rfl, rfl, rfl, rfl, rfl, rfl, rfl, rfl, rfl, rfl, rfl, rfl, trivial⟩ ?_
              refine WC.no rfl (WC.skip ?_)
              refine WQ.sub (l' := [(1, .slice (some ⟨g, o, none⟩) t.length cp), (2, vI x), (3, .bool true), (4, vP b4 0), (9, vI h), (10, .slice pv1 A1.length cp1), (11, .bool in1), (12, vI (i : Int)), (13, vI (agT t i)), (24, .bool true), (49, .bool false)]) ⟨rfl, rfl, rfl, rfl, rfl, rfl, rfl, rfl, rfl, rfl, rfl, trivial⟩ ?_
              exact WQ.cut ⟨agT t i, rfl, by rw [if_neg (fun q => h67 q.1)], by omega, hH34⟩
          ·
            rintro lz w36 ⟨a2, rfl, ha2, hab, hH35⟩
            refine WC.seq fun K37 hK37 => WC.region ?_
            refine WL.z (v := vI a2) 83 ?_
            refine WL.z (v := vP b4 1) 84 ?_
            refine WL.y (v := vI y) 85 (x_load rfl rfl Try.underlying3 rfl (HP.cell hH35 0 rfl rfl)) ?_
            by_cases h86 : a2 < y
            ·
              refine WL.y (v := .bool true) 86 (x_lss rfl rfl rfl (dT (h86))) ?_
              refine WL.nil (WQ.then (hK37 _ _ _ (WC.yes rfl (WC.region ?_))))
              refine WL.z (v := .slice pv1 A1.length cp1) 87 ?_
              refine WL.z (v := .slice (some ⟨g, o, none⟩) t.length cp) 88 ?_
              refine WL.z (v := vI (i : Int)) 89 ?_
              refine WL.y (v := vP g (o + i * 2)) 90 (x_idx (i) (o + i * 2) rfl rfl rfl Try.underlying49 sz83 (by omega) (by omega) (by omega)) ?_
              refine WL.y (v := vP g (o + i * 2)) 91 (x_idxArr (0) (o + i * 2) rfl rfl rfl Try.underlying83 sz3 (by omega) (by omega) (by omega)) ?_
              refine WL.y (v := vI (lnT t i)) 92 (x_load rfl rfl Try.underlying3 rfl ((HP.oldRange hH35 trivial (hrow i (by omega))) 0 _ rfl)) ?_
              refine WL.z (v := vI a2) 93 ?_
              refine WL.z (v := .agg #[vI (lnT t i), vI a2]) 94 ?_
              refine WL.alloc (c := #[vI (lnT t i), vI a2]) (T := 83) hH35 95 rfl (by decide) rfl rfl (fun b95 => vS b95 1 1) (by kernel_rfl) (fun b95 w38 hw38 => ?_)
              have hH39 : HP Tr w w38 [.cel b4 #[vI s, vI y, vI l, vI m] 23, rowT pv1 A1.length cp1 A1, .cel b95 #[vI (lnT t i), vI a2] 83] := hw38.2
              have nb95 := hw38.1
              clear hw38
              obtain ⟨i0, hi0, hz0, hz1, hz2⟩ := infoT
              have hAl9 : A1.length ≤ 200000 := by have := hAl1; revert this; cases in1 <;> simp <;> omega
              refine WL.append (news := [vI (lnT t i), vI a2]) 1 2 hH39 96 rfl (by decide) rfl rfl rfl rfl Try.underlying49 hi0 hz0 hz1 hz2 rfl (by decide) rfl rfl rfl rfl (by simp [Value.oneCell']) (by unfold maxLen; omega) (by omega) ?_
              rintro v740 w740 - hA740
              obtain ⟨pv740, cp740, rfl⟩ := own_row (HP.get hA740 1 rfl)
              have e740 : A1.length + 1 = (A1 ++ [(lnT t i, a2)]).length := (len1 _ _).symm
              rw [tL_push, e740] at hA740
              rw [e740]
              have hH41 : HP Tr w _ [.cel b4 #[vI s, vI y, vI l, vI m] 23, rowT pv740 (A1 ++ [(lnT t i, a2)]).length cp740 (A1 ++ [(lnT t i, a2)]), .cel b95 #[vI (lnT t i), vI a2] 83] := hA740
              refine WL.z (v := .slice pv740 ((A1 ++ [(lnT t i, a2)]).length) cp740) 10 ?_
              refine WL.nil (WQ.inNormal (WQ.then (hK21 _ _ _ ?_)))
              refine WC.sub (l' := [(1, .slice (some ⟨g, o, none⟩) t.length cp), (2, vI x), (3, .bool true), (4, vP b4 0), (9, vI h), (10, .slice pv740 ((A1 ++ [(lnT t i, a2)]).length) cp740), (11, .bool in1), (12, vI (i : Int)), (13, vI a2), (24, .bool true), (49, .bool false), (86, .bool true)]) ⟨rfl, rfl, rfl, rfl, rfl, rfl, rfl, rfl, rfl, rfl, rfl, rfl, trivial⟩ ?_
              refine WC.region ?_
              refine WL.z (v := vI (i : Int)) 25 ?_
              refine WL.y (v := vI ((i + 1 : Nat) : Int)) 26 (x_add (Z := ((i + 1 : Nat) : Int)) rfl rfl rfl (by omega) (by omega) (by omega)) ?_
              refine WL.z (v := vI ((i + 1 : Nat) : Int)) 12 ?_
              refine WL.nil ?_
              have hst : stE s y x d (lnT t i, agT t i) = [(lnT t i, a2)] := by rw [st_age (q := (lnT t i, agT t i)) h49 ha2, if_pos h86]
              refine WQ.sub (l' := [(1, .slice (some ⟨g, o, none⟩) t.length cp), (2, vI x), (3, .bool true), (4, vP b4 0), (9, vI h), (10, .slice pv740 ((A1 ++ [(lnT t i, a2)]).length) cp740), (11, .bool in1), (12, vI ((i + 1 : Nat) : Int))]) ⟨rfl, rfl, rfl, rfl, rfl, rfl, rfl, rfl, trivial⟩ ?_
              refine WQ.then (hK16 _ _ _ (by omega) ⟨i + 1, (A1 ++ [(lnT t i, a2)]), pv740, cp740, in1, rfl, rfl, by omega, by rw [hR1, hst]; simp, by rw [len1]; omega, (HP.drop hH41 2)⟩)
            ·
              refine WL.y (v := .bool false) 86 (x_lss rfl rfl rfl (dF (h86))) ?_
              refine WL.nil (WQ.then (hK37 _ _ _ (WC.no rfl (WC.skip (WQ.inNormal (WQ.then (hK21 _ _ _ ?_)))))))
              refine WC.region ?_
              refine WL.z (v := vI (i : Int)) 25 ?_
              refine WL.y (v := vI ((i + 1 : Nat) : Int)) 26 (x_add (Z := ((i + 1 : Nat) : Int)) rfl rfl rfl (by omega) (by omega) (by omega)) ?_
              refine WL.z (v := vI ((i + 1 : Nat) : Int)) 12 ?_
              refine WL.nil ?_
              have hst : stE s y x d (lnT t i, agT t i) = [] := by rw [st_age (q := (lnT t i, agT t i)) h49 ha2, if_neg h86]
              refine WQ.sub (l' := [(1, .slice (some ⟨g, o, none⟩) t.length cp), (2, vI x), (3, .bool true), (4, vP b4 0), (9, vI h), (10, .slice pv1 A1.length cp1), (11, .bool in1), (12, vI ((i + 1 : Nat) : Int))]) ⟨rfl, rfl, rfl, rfl, rfl, rfl, rfl, rfl, trivial⟩ ?_
              refine WQ.then (hK16 _ _ _ (by omega) ⟨i + 1, A1, pv1, cp1, in1, rfl, rfl, by omega, by rw [hR1, hst]; simp, by omega, hH35⟩)
    ·
      refine WL.y (v := .bool false) 24 (x_lss rfl rfl rfl (dF (hlt))) ?_
      refine WL.nil (WQ.then (hK20 _ _ _ (WC.no rfl (WC.exit (WQ.thenExit (WQ.thenExit (WQ.inExit ?_)))))))
      refine WQ.then (hK14 _ _ _ (WC.seq fun K42 hK42 => WC.seq fun K43 hK43 => ?_))
      have hil : i = t.length := by omega
      subst hil
      rw [List.drop_length] at hR
      cases inn
      ·
        refine WC.region ?_
        refine WL.z (v := .bool false) 97 ?_
        refine WL.z (v := .bool true) 98 ?_
        refine WL.nil (WQ.then (hK43 _ _ _ (WC.yes rfl (WC.region ?_))))
        refine WL.z (v := .slice pv A.length cp2) 99 ?_
        refine WL.z (v := vI x) 100 ?_
        refine WL.z (v := .agg #[vI x, vI 0]) 101 ?_
        refine WL.alloc (c := #[vI x, vI 0]) (T := 83) hH18 102 rfl (by decide) rfl rfl (fun b102 => vS b102 1 1) (by kernel_rfl) (fun b102 w44 hw44 => ?_)
        have hH45 : HP Tr w w44 [.cel b4 #[vI s, vI y, vI l, vI m] 23, rowT pv A.length cp2 A, .cel b102 #[vI x, vI 0] 83] := hw44.2
        have nb102 := hw44.1
        clear hw44
        obtain ⟨i0, hi0, hz0, hz1, hz2⟩ := infoT
        have hAl9 : A.length ≤ 200000 := by have := hAl; simp at this; omega
        refine WL.append (news := [vI x, vI 0]) 1 2 hH45 103 rfl (by decide) rfl rfl rfl rfl Try.underlying49 hi0 hz0 hz1 hz2 rfl (by decide) rfl rfl rfl rfl (by simp [Value.oneCell']) (by unfold maxLen; omega) (by omega) ?_
        rintro v746 w746 - hA746
        obtain ⟨pv746, cp746, rfl⟩ := own_row (HP.get hA746 1 rfl)
        have e746 : A.length + 1 = (A ++ [(x, 0)]).length := (len1 _ _).symm
        rw [tL_push, e746] at hA746
        rw [e746]
        have hH47 : HP Tr w _ [.cel b4 #[vI s, vI y, vI l, vI m] 23, rowT pv746 (A ++ [(x, 0)]).length cp746 (A ++ [(x, 0)]), .cel b102 #[vI x, vI 0] 83] := hA746
        refine WL.z (v := .slice pv746 ((A ++ [(x, 0)]).length) cp746) 10 ?_
        refine WL.nil (WQ.then (hK42 _ _ _ ?_))
        refine WC.sub (l' := [(1, .slice p t.length cp), (2, vI x), (3, .bool true), (4, vP b4 0), (9, vI h), (10, .slice pv746 ((A ++ [(x, 0)]).length) cp746), (11, .bool false), (12, vI (t.length : Int)), (24, .bool false), (98, .bool true)]) ⟨rfl, rfl, rfl, rfl, rfl, rfl, rfl, rfl, rfl, rfl, trivial⟩ ?_
        refine WC.seq fun K48 hK48 => ?_
        have hR2 : rL s y x d t = (A ++ [(x, 0)]) := by rw [show rL s y x d t = rest s y x d false t from rfl, hR]; simp [rest, rL]
        refine WC.region ?_
        refine WL.z (v := .slice pv746 ((A ++ [(x, 0)]).length) cp746) 104 ?_
        refine WL.z (v := .slice pv746 ((A ++ [(x, 0)]).length) cp746) 8 ?_
        refine WL.nil (WQ.then (hK48 _ _ _ (WC.ret ?_)))
        refine WQ.ret1 8 rfl rfl ?_
        exact ⟨pv746, cp746, by rw [hR2], by rw [hR2]; exact HP.eq (HP.drop (HP.drop hH47 2) 0) rfl⟩
      ·
        refine WC.region ?_
        refine WL.z (v := .bool true) 97 ?_
        refine WL.z (v := .bool false) 98 ?_
        refine WL.nil (WQ.then (hK43 _ _ _ (WC.no rfl (WC.skip (WQ.then (hK42 _ _ _ (WC.seq fun K49 hK49 => ?_)))))))
        have hR2 : rL s y x d t = A := by rw [show rL s y x d t = rest s y x d false t from rfl, hR]; simp [rest, rL]
        refine WC.region ?_
        refine WL.z (v := .slice pv A.length cp2) 104 ?_
        refine WL.z (v := .slice pv A.length cp2) 8 ?_
        refine WL.nil (WQ.then (hK49 _ _ _ (WC.ret ?_)))
        refine WQ.ret1 8 rfl rfl ?_
        exact ⟨pv, cp2, by rw [hR2], by rw [hR2]; exact HP.eq (HP.drop hH18 0) rfl⟩
end Ca
end Go.Proofs.Ytmjnakhpekbenaa
namespace Go.Proofs.Ytmjnakhpekbenaa
open Go.RowKit Fw
namespace Ca
structure VT (s y l m : Int) (t : List T2) : Prop where
  s1 : 1 ≤ s
  s2 : s ≤ 8
  y1 : 1 ≤ y
  y2 : y ≤ 4
  l1 : 1 ≤ l
  l2 : l ≤ 8
  m1 : 0 ≤ m
  m2 : m ≤ 100
  ag : ∀ i, i < t.length → 0 ≤ agT t i ∧ agT t i ≤ y - 1
  ln : ∀ i, i < t.length → 0 ≤ lnT t i ∧ lnT t i ≤ 999
  so : sT t
  len : t.length ≤ 1000
theorem ok_VT {s y l m : Int} {t : List T2} (h : okT s y l m t = true) : VT s y l m t := by
  obtain ⟨hg, hi⟩ := okT_iff.1 h
  obtain ⟨⟨a1, a2⟩, ⟨b1, b2⟩, ⟨c1, c2⟩, d1, d2⟩ := vG_iff.1 hg
  have hs := okT_sorted h
  have hln : ∀ i, i < t.length → 0 ≤ lnT t i ∧ lnT t i ≤ 999 := fun i hi' => by
    have := hi i hi'; simp only [okE, Bool.and_eq_true] at this; exact wn_iff.1 this.1
  have hge : ∀ i, i < t.length → (i : Int) ≤ lnT t i := by
    intro i
    induction i with
    | zero => intro h0; exact (hln 0 h0).1
    | succ i ih => intro h1; have := ih (by omega); have := sT_lt hs (show i < i + 1 by omega) h1; omega
  refine ⟨a1, a2, b1, b2, c1, c2, d1, d2, fun i hi' => ?_, hln, hs, ?_⟩
  · have := hi i hi'; simp only [okE, Bool.and_eq_true] at this; exact wn_iff.1 this.2.1
  · by_cases h0 : t.length = 0
    · omega
    · have := hge (t.length - 1) (by omega); have := hln (t.length - 1) (by omega); omega
theorem aged2_any (p : Option Addr) (t : List T2) (cp : Nat) (s y l m x d : Int) (w : World) (hT : InT w p t) (hV : VT s y l m t) (hd : -1000 ≤ d ∧ d ≤ 1000) :
    Calls Try.prog 82 #[.slice p t.length cp, .agg #[vI s, vI y, vI l, vI m], vI x, vI d] w fun e w' => ∃ pv cp', e = .returned (.slice pv (rL s y x d t).length cp') ∧ HP Tr w w' [rowT pv (rL s y x d t).length cp' (rL s y x d t)] := by
  have hl := hV.len
  obtain ⟨ta, hta⟩ := ta_of (t := t) fun i hi => by have := hV.ag i hi; have := hV.y2; omega
  refine (aged_any p t ta cp s y l m x d w hT hta (by have := hV.s1; omega) hd (by omega)).mono ?_
  rintro e w' ⟨t', pv, cp', rfl, hp, hle, hb⟩
  have := aged_eq (y := y) hta (fun q hq => by
    obtain ⟨i, hi, rfl⟩ := List.mem_iff_getElem.1 hq
    have h2 := hV.ag i (by rw [hta]; simpa using hi)
    have h3 := (ln_ta hta (List.getElem?_eq_getElem hi)).2
    rw [h3]; omega) hV.so hp hle
  subst this
  exact ⟨pv, cp', rfl, hb⟩
theorem age_bd {s y l m : Int} {t : List T2} (hV : VT s y l m t) (x : Int) : 0 ≤ (ageT t x).getD y ∧ (ageT t x).getD y ≤ 4 := by
  have h1 := hV.y1
  have h2 := hV.y2
  cases q : ageT t x with
  | none => simp; omega
  | some a => obtain ⟨i, hi, he⟩ := age_some q; have := hV.ag i hi; simp; omega
/-- a table touched -/
def tcH (s y x k : Int) (t : List T2) : List T2 := rL s y x ((ageT t x).getD y + k) t
def TcR (s y x k : Int) (t : List T2) (w : World) (e : Ending) (w' : World) : Prop := ∃ pv cp', e = .returned (.slice pv (tcH s y x k t).length cp') ∧ HP Tr w w' [rowT pv (tcH s y x k t).length cp' (tcH s y x k t)]
/-- what touching an address answers -/
def TaR (s y l m a k : Int) (t : List T2) (w : World) (e : Ending) (w' : World) : Prop :=
  ((okT s y l m t && wn a 0 999) = false ∧ e = .returned (.tuple #[.slice none 0 0, vI 1]) ∧ Below w.heap.size w w') ∨
  ((okT s y l m t && wn a 0 999) = true ∧ ∃ pv cp', e = .returned (.tuple #[.slice pv (tcH s y (a / l) k t).length cp', vI 0]) ∧ HP Tr w w' [rowT pv (tcH s y (a / l) k t).length cp' (tcH s y (a / l) k t)])
theorem wn_no2 {a : Int} (h : ¬ (0 ≤ a ∧ a ≤ 999)) : wn a 0 999 = false := by
  cases q : wn a 0 999 with
  | false => rfl
  | true => exact absurd (wn_iff.1 q) h
set_option maxRecDepth 20000 in
set_option maxHeartbeats 4000000 in
theorem touch0_any (p : Option Addr) (t : List T2) (cp : Nat) (s y l m x : Int) (w : World) (hT : InT w p t) (hV : VT s y l m t) :
    Calls Try.prog 59 #[.agg #[vI s, vI y, vI l, vI m], .slice p t.length cp, vI x] w (TcR s y x 0 t w) := by
  have hage := age_bd hV x
  refine calls_of Try.func59 rfl (m := 16) rfl [(0, .agg #[vI s, vI y, vI l, vI m]), (1, .slice p t.length cp), (2, vI x)] (Fr_enter [.agg #[vI s, vI y, vI l, vI m], .slice p t.length cp, vI x] 16 (Nat.le_of_ble_eq_true rfl)) ?_
  have hH1 : HP Tr w w [] := HP.refl w
  refine WC.seq fun K2 hK2 => WC.region ?_
  refine WL.alloc (c := #[vI s, vI y, vI l, vI m]) (T := 23) hH1 3 rfl (by decide) rfl rfl (fun b3 => vP b3 0) (by kernel_rfl) (fun b3 w3 hw3 => ?_)
  have hH4 : HP Tr w w3 [.cel b3 #[vI s, vI y, vI l, vI m] 23] := hw3.2
  have nb3 := hw3.1
  clear hw3
  refine WL.z (v := .slice none 0 0) 6 ?_
  refine WL.nil (WQ.then (hK2 _ _ _ (WC.seq fun K5 hK5 => ?_)))
  refine WC.confG (γ := Option Addr × Nat × Unit) [(3, vP b3 0), (0, .agg #[vI s, vI y, vI l, vI m]), (1, .slice p t.length cp), (2, vI x)] (fun gy => [.slice p t.length cp, .agg #[vI s, vI y, vI l, vI m], vI x, .slice p t.length cp, vI x, vP b3 1, vI y, vI ((ageT t x).getD y), .slice gy.1 ((rL s y x ((ageT t x).getD y) t).length) gy.2.1, .slice gy.1 ((rL s y x ((ageT t x).getD y) t).length) gy.2.1]) (fun gy D wz => HP Tr w wz ([.cel b3 #[vI s, vI y, vI l, vI m] 23] ++ ((bif D 8 then [rowT gy.1 (rL s y x ((ageT t x).getD y) t).length gy.2.1 (rL s y x ((ageT t x).getD y) t)] else []) ++ []))) (none, 0, ()) (by kernel_rfl) ⟨rfl, rfl, rfl, rfl, trivial⟩ (by kernel_rfl) (by kernel_rfl) (by kernel_rfl) (fun _ => rfl) (by kernel_rfl) (HP.drew hH4) ?_ ?_
  · refine AllOk.cons ?o0 (AllOk.cons ?o1 (AllOk.cons ?o2 (AllOk.cons ?o3 (AllOk.cons ?o4 (AllOk.cons ?o5 (AllOk.cons ?o6 (AllOk.cons ?o7 (AllOk.cons ?o8 (AllOk.cons ?o9 (AllOk.nil _))))))))))
    case o0 =>
      intro gy D wz hDi hdep hclo hW
      exact .inl ⟨rfl, rfl, .inl ⟨gy, wz, fun _ _ => rfl, by kernel_rfl, hW⟩⟩
    case o1 =>
      intro gy D wz hDi hdep hclo hW
      exact .inl ⟨rfl, rfl, .inl ⟨gy, wz, fun _ _ => rfl, x_loadS (cs := [vI s, vI y, vI l, vI m]) rfl rfl Try.underlying23 rfl sz23 (HP.range hW 0 rfl rfl), hW⟩⟩
    case o2 =>
      intro gy D wz hDi hdep hclo hW
      exact .inl ⟨rfl, rfl, .inl ⟨gy, wz, fun _ _ => rfl, by kernel_rfl, hW⟩⟩
    case o3 =>
      intro gy D wz hDi hdep hclo hW
      exact .inl ⟨rfl, rfl, .inl ⟨gy, wz, fun _ _ => rfl, by kernel_rfl, hW⟩⟩
    case o4 =>
      intro gy D wz hDi hdep hclo hW
      exact .inl ⟨rfl, rfl, .inl ⟨gy, wz, fun _ _ => rfl, by kernel_rfl, hW⟩⟩
    case o5 =>
      intro gy D wz hDi hdep hclo hW
      exact .inl ⟨rfl, rfl, .inl ⟨gy, wz, fun _ _ => rfl, by kernel_rfl, hW⟩⟩
    case o6 =>
      intro gy D wz hDi hdep hclo hW
      exact .inl ⟨rfl, rfl, .inl ⟨gy, wz, fun _ _ => rfl, x_load rfl rfl Try.underlying3 rfl (HP.cell hW 0 rfl rfl), hW⟩⟩
    case o7 =>
      intro gy D wz hDi hdep hclo hW
      have d8 : D 8 = false := by
        cases h : D 8 with
        | false => rfl
        | true => exact absurd (hclo 8 _ rfl h ⟨7, .data⟩ (by simp) rfl) (by rw [hDi]; exact Bool.false_ne_true)
      have hW2 := hW
      simp only [d8, cond_true, cond_false, List.append_nil, List.nil_append, List.cons_append] at hW2
      exact .inl ⟨rfl, rfl, .inr (.inr ⟨68, #[.slice p t.length cp, vI x, vI y], by kernel_rfl, (age_any _ t _ _ (hT.below (HP.below hW)) x y (by have := hV.len; omega) hV.so).mono fun e w2 h => ⟨gy, fun _ _ => rfl, h.1, HP.call hW h.2⟩⟩)⟩
    case o8 =>
      intro gy D wz hDi hdep hclo hW
      have d9 : D 9 = false := by
        cases h : D 9 with
        | false => rfl
        | true => exact absurd (hclo 9 _ rfl h ⟨8, .data⟩ (by simp) rfl) (by rw [hDi]; exact Bool.false_ne_true)
      have hW2 := hW
      simp only [hDi, cond_true, cond_false, List.append_nil, List.nil_append, List.cons_append] at hW2
      refine .inl ⟨rfl, rfl, .inr (.inr ⟨82, #[.slice p t.length cp, .agg #[vI s, vI y, vI l, vI m], vI x, vI ((ageT t x).getD y)], by kernel_rfl, (aged2_any _ t _ s y l m x _ _ (hT.below (HP.below hW2)) hV (by have := age_bd hV x; omega)).mono ?_⟩)⟩
      rintro e w3 ⟨pv, cp9, rfl, hb⟩
      refine ⟨⟨pv, cp9, ()⟩, fun j hj => ?_, rfl, ?_⟩
      · match j, hj with
        | 0, hj => rfl
        | 1, hj => rfl
        | 2, hj => rfl
        | 3, hj => rfl
        | 4, hj => rfl
        | 5, hj => rfl
        | 6, hj => rfl
        | 7, hj => rfl
        | 8, hj => rw [hDi] at hj; cases hj
        | 9, hj => exact absurd hj (by rw [d9]; exact Bool.false_ne_true)
        | j + 10, _ => rfl
      · show HP Tr w w3 ([.cel b3 #[vI s, vI y, vI l, vI m] 23] ++ ([rowT pv (rL s y x ((ageT t x).getD y) t).length cp9 (rL s y x ((ageT t x).getD y) t)] ++ []))
        simp only [cond_true, cond_false, List.append_nil, List.nil_append, List.cons_append]
        exact HP.trans hW2 hb
    case o9 =>
      intro gy D wz hDi hdep hclo hW
      exact .inl ⟨rfl, rfl, .inl ⟨gy, wz, fun _ _ => rfl, by kernel_rfl, hW⟩⟩
  rintro ⟨pv, cp9, gu⟩ D w6 hall hH7
  simp only [hall 8 (by kernel_rfl), cond_true, List.append_nil, List.nil_append, List.cons_append] at hH7
  clear hall
  refine WQ.sub (l' := [(0, .agg #[vI s, vI y, vI l, vI m]), (1, .slice p t.length cp), (2, vI x), (3, vP b3 0), (6, .slice pv ((rL s y x ((ageT t x).getD y) t).length) cp9)]) ⟨rfl, rfl, rfl, rfl, rfl, trivial⟩ ?_
  refine WQ.then (hK5 _ _ _ (WC.ret ?_))
  refine WQ.ret1 6 rfl rfl ?_
  have e9 : tcH s y x 0 t = (rL s y x ((ageT t x).getD y) t) := by unfold tcH; rw [Int.add_zero]
  exact ⟨pv, cp9, by rw [e9], by rw [e9]; exact HP.eq (HP.drop hH7 0) rfl⟩
set_option maxRecDepth 20000 in
set_option maxHeartbeats 4000000 in
theorem touch1_any (p : Option Addr) (t : List T2) (cp : Nat) (s y l m x : Int) (w : World) (hT : InT w p t) (hV : VT s y l m t) :
    Calls Try.prog 61 #[.agg #[vI s, vI y, vI l, vI m], .slice p t.length cp, vI x] w (TcR s y x 1 t w) := by
  have hage := age_bd hV x
  refine calls_of Try.func61 rfl (m := 17) rfl [(0, .agg #[vI s, vI y, vI l, vI m]), (1, .slice p t.length cp), (2, vI x)] (Fr_enter [.agg #[vI s, vI y, vI l, vI m], .slice p t.length cp, vI x] 17 (Nat.le_of_ble_eq_true rfl)) ?_
  have hH1 : HP Tr w w [] := HP.refl w
  refine WC.seq fun K2 hK2 => WC.region ?_
  refine WL.alloc (c := #[vI s, vI y, vI l, vI m]) (T := 23) hH1 3 rfl (by decide) rfl rfl (fun b3 => vP b3 0) (by kernel_rfl) (fun b3 w3 hw3 => ?_)
  have hH4 : HP Tr w w3 [.cel b3 #[vI s, vI y, vI l, vI m] 23] := hw3.2
  have nb3 := hw3.1
  clear hw3
  refine WL.z (v := .slice none 0 0) 6 ?_
  refine WL.nil (WQ.then (hK2 _ _ _ (WC.seq fun K5 hK5 => ?_)))
  refine WC.confG (γ := Option Addr × Nat × Unit) [(3, vP b3 0), (0, .agg #[vI s, vI y, vI l, vI m]), (1, .slice p t.length cp), (2, vI x)] (fun gy => [.slice p t.length cp, .agg #[vI s, vI y, vI l, vI m], vI x, .slice p t.length cp, vI x, vP b3 1, vI y, vI ((ageT t x).getD y), vI ((ageT t x).getD y + 1), .slice gy.1 ((rL s y x ((ageT t x).getD y + 1) t).length) gy.2.1, .slice gy.1 ((rL s y x ((ageT t x).getD y + 1) t).length) gy.2.1]) (fun gy D wz => HP Tr w wz ([.cel b3 #[vI s, vI y, vI l, vI m] 23] ++ ((bif D 9 then [rowT gy.1 (rL s y x ((ageT t x).getD y + 1) t).length gy.2.1 (rL s y x ((ageT t x).getD y + 1) t)] else []) ++ []))) (none, 0, ()) (by kernel_rfl) ⟨rfl, rfl, rfl, rfl, trivial⟩ (by kernel_rfl) (by kernel_rfl) (by kernel_rfl) (fun _ => rfl) (by kernel_rfl) (HP.drew hH4) ?_ ?_
  · refine AllOk.cons ?o0 (AllOk.cons ?o1 (AllOk.cons ?o2 (AllOk.cons ?o3 (AllOk.cons ?o4 (AllOk.cons ?o5 (AllOk.cons ?o6 (AllOk.cons ?o7 (AllOk.cons ?o8 (AllOk.cons ?o9 (AllOk.cons ?o10 (AllOk.nil _)))))))))))
    case o0 =>
      intro gy D wz hDi hdep hclo hW
      exact .inl ⟨rfl, rfl, .inl ⟨gy, wz, fun _ _ => rfl, by kernel_rfl, hW⟩⟩
    case o1 =>
      intro gy D wz hDi hdep hclo hW
      exact .inl ⟨rfl, rfl, .inl ⟨gy, wz, fun _ _ => rfl, x_loadS (cs := [vI s, vI y, vI l, vI m]) rfl rfl Try.underlying23 rfl sz23 (HP.range hW 0 rfl rfl), hW⟩⟩
    case o2 =>
      intro gy D wz hDi hdep hclo hW
      exact .inl ⟨rfl, rfl, .inl ⟨gy, wz, fun _ _ => rfl, by kernel_rfl, hW⟩⟩
    case o3 =>
      intro gy D wz hDi hdep hclo hW
      exact .inl ⟨rfl, rfl, .inl ⟨gy, wz, fun _ _ => rfl, by kernel_rfl, hW⟩⟩
    case o4 =>
      intro gy D wz hDi hdep hclo hW
      exact .inl ⟨rfl, rfl, .inl ⟨gy, wz, fun _ _ => rfl, by kernel_rfl, hW⟩⟩
    case o5 =>
      intro gy D wz hDi hdep hclo hW
      exact .inl ⟨rfl, rfl, .inl ⟨gy, wz, fun _ _ => rfl, by kernel_rfl, hW⟩⟩
    case o6 =>
      intro gy D wz hDi hdep hclo hW
      exact .inl ⟨rfl, rfl, .inl ⟨gy, wz, fun _ _ => rfl, x_load rfl rfl Try.underlying3 rfl (HP.cell hW 0 rfl rfl), hW⟩⟩
    case o7 =>
      intro gy D wz hDi hdep hclo hW
      have d9 : D 9 = false := by
        cases h : D 9 with
        | false => rfl
        | true => exact absurd (hclo 9 _ rfl h ⟨7, .chain⟩ (by simp) rfl) (by rw [hDi]; exact Bool.false_ne_true)
      have hW2 := hW
      simp only [d9, cond_true, cond_false, List.append_nil, List.nil_append, List.cons_append] at hW2
      exact .inl ⟨rfl, rfl, .inr (.inr ⟨68, #[.slice p t.length cp, vI x, vI y], by kernel_rfl, (age_any _ t _ _ (hT.below (HP.below hW)) x y (by have := hV.len; omega) hV.so).mono fun e w2 h => ⟨gy, fun _ _ => rfl, h.1, HP.call hW h.2⟩⟩)⟩
    case o8 =>
      intro gy D wz hDi hdep hclo hW
      exact .inl ⟨rfl, rfl, .inl ⟨gy, wz, fun _ _ => rfl, x_add (Z := (ageT t x).getD y + 1) rfl rfl rfl (by omega) (by omega) (by omega), hW⟩⟩
    case o9 =>
      intro gy D wz hDi hdep hclo hW
      have d10 : D 10 = false := by
        cases h : D 10 with
        | false => rfl
        | true => exact absurd (hclo 10 _ rfl h ⟨9, .data⟩ (by simp) rfl) (by rw [hDi]; exact Bool.false_ne_true)
      have hW2 := hW
      simp only [hDi, cond_true, cond_false, List.append_nil, List.nil_append, List.cons_append] at hW2
      refine .inl ⟨rfl, rfl, .inr (.inr ⟨82, #[.slice p t.length cp, .agg #[vI s, vI y, vI l, vI m], vI x, vI ((ageT t x).getD y + 1)], by kernel_rfl, (aged2_any _ t _ s y l m x _ _ (hT.below (HP.below hW2)) hV (by have := age_bd hV x; omega)).mono ?_⟩)⟩
      rintro e w3 ⟨pv, cp9, rfl, hb⟩
      refine ⟨⟨pv, cp9, ()⟩, fun j hj => ?_, rfl, ?_⟩
      · match j, hj with
        | 0, hj => rfl
        | 1, hj => rfl
        | 2, hj => rfl
        | 3, hj => rfl
        | 4, hj => rfl
        | 5, hj => rfl
        | 6, hj => rfl
        | 7, hj => rfl
        | 8, hj => rfl
        | 9, hj => rw [hDi] at hj; cases hj
        | 10, hj => exact absurd hj (by rw [d10]; exact Bool.false_ne_true)
        | j + 11, _ => rfl
      · show HP Tr w w3 ([.cel b3 #[vI s, vI y, vI l, vI m] 23] ++ ([rowT pv (rL s y x ((ageT t x).getD y + 1) t).length cp9 (rL s y x ((ageT t x).getD y + 1) t)] ++ []))
        simp only [cond_true, cond_false, List.append_nil, List.nil_append, List.cons_append]
        exact HP.trans hW2 hb
    case o10 =>
      intro gy D wz hDi hdep hclo hW
      exact .inl ⟨rfl, rfl, .inl ⟨gy, wz, fun _ _ => rfl, by kernel_rfl, hW⟩⟩
  rintro ⟨pv, cp9, gu⟩ D w6 hall hH7
  simp only [hall 9 (by kernel_rfl), cond_true, List.append_nil, List.nil_append, List.cons_append] at hH7
  clear hall
  refine WQ.sub (l' := [(0, .agg #[vI s, vI y, vI l, vI m]), (1, .slice p t.length cp), (2, vI x), (3, vP b3 0), (6, .slice pv ((rL s y x ((ageT t x).getD y + 1) t).length) cp9)]) ⟨rfl, rfl, rfl, rfl, rfl, trivial⟩ ?_
  refine WQ.then (hK5 _ _ _ (WC.ret ?_))
  refine WQ.ret1 6 rfl rfl ?_
  have e9 : tcH s y x 1 t = (rL s y x ((ageT t x).getD y + 1) t) := by unfold tcH; rfl
  exact ⟨pv, cp9, by rw [e9], by rw [e9]; exact HP.eq (HP.drop hH7 0) rfl⟩
set_option maxRecDepth 20000 in
set_option maxHeartbeats 4000000 in
theorem touched0_any (p : Option Addr) (t : List T2) (cp : Nat) (s y l m a : Int) (w : World) (hT : InT w p t) (hn : t.length ≤ 281474976710656) :
    Calls Try.prog 58 #[.agg #[vI s, vI y, vI l, vI m], .slice p t.length cp, vI a, .func (.func 59) #[] #[]] w (TaR s y l m a 0 t w) := by
  refine calls_of Try.func58 rfl (m := 27) rfl [(0, .agg #[vI s, vI y, vI l, vI m]), (1, .slice p t.length cp), (2, vI a), (3, .func (.func 59) #[] #[])] (Fr_enter [.agg #[vI s, vI y, vI l, vI m], .slice p t.length cp, vI a, .func (.func 59) #[] #[]] 27 (Nat.le_of_ble_eq_true rfl)) ?_
  have hH1 : HP Tr w w [] := HP.refl w
  refine WC.seq fun K2 hK2 => WC.region ?_
  refine WL.alloc (c := #[vI s, vI y, vI l, vI m]) (T := 23) hH1 4 rfl (by decide) rfl rfl (fun b4 => vP b4 0) (by kernel_rfl) (fun b4 w3 hw3 => ?_)
  have hH4 : HP Tr w w3 [.cel b4 #[vI s, vI y, vI l, vI m] 23] := hw3.2
  have nb4 := hw3.1
  clear hw3
  refine WL.z (v := .slice none 0 0) 8 ?_
  refine WL.z (v := vI 0) 9 ?_
  refine WL.nil (WQ.then (hK2 _ _ _ (WC.seq fun K5 hK5 => WC.seq fun K6 hK6 => WC.region ?_)))
  refine WL.y (v := .agg #[vI s, vI y, vI l, vI m]) 10 (x_loadS (cs := [vI s, vI y, vI l, vI m]) rfl rfl Try.underlying23 rfl sz23 (HP.range hH4 0 rfl rfl)) ?_
  refine WL.z (v := .slice p t.length cp) 11 ?_
  rcases Bool.eq_false_or_eq_true (okT s y l m t) with hok | hok
  ·
    refine WL.call (f := 66) (args := #[.agg #[vI s, vI y, vI l, vI m], .slice p t.length cp]) 12 rfl (Nat.le_of_ble_eq_true rfl) rfl rfl (by kernel_rfl) ?_
    refine (validTable_any s y l m _ t _ _ (hT.below (HP.below hH4)) hn).mono ?_
    rw [hok]
    rintro e w7 ⟨rfl, hb9⟩
    refine ⟨_, rfl, ?_⟩
    have hH8 : HP Tr w _ [.cel b4 #[vI s, vI y, vI l, vI m] 23] := HP.call hH4 hb9
    have hV := ok_VT hok
    obtain ⟨hl1, hl2⟩ : 1 ≤ l ∧ l ≤ 8 := ⟨hV.l1, hV.l2⟩
    refine WL.z (v := .bool false) 13 ?_
    refine WL.z (v := .bool false) 14 ?_
    refine WL.z (v := vI a) 15 ?_
    rcases Bool.eq_false_or_eq_true (wn a 0 999) with hwn | hwn
    ·
      refine WL.call (f := 44) (args := #[vI a, vI 0, vI 999]) 16 rfl (Nat.le_of_ble_eq_true rfl) rfl rfl (by kernel_rfl) ?_
      refine (within_at hwn _).mono ?_
      rintro e w9 ⟨rfl, rfl⟩
      refine ⟨_, rfl, ?_⟩
      obtain ⟨ha1, ha2⟩ := wn_iff.1 hwn
      refine WL.z (v := .bool false) 17 ?_
      refine WL.z (v := .bool false) 18 ?_
      refine WL.nil (WQ.then (hK6 _ _ _ ?_))
      refine WC.sub (l' := [(0, .agg #[vI s, vI y, vI l, vI m]), (1, .slice p t.length cp), (2, vI a), (3, .func (.func 59) #[] #[]), (4, vP b4 0), (8, .slice none 0 0), (9, vI 0), (18, .bool false)]) ⟨rfl, rfl, rfl, rfl, rfl, rfl, rfl, rfl, trivial⟩ ?_
      refine WC.no rfl (WC.skip (WQ.then (hK5 _ _ _ (WC.seq fun K10 hK10 => ?_))))
      refine WC.confG (γ := Option Addr × Nat × Unit) [(0, .agg #[vI s, vI y, vI l, vI m]), (1, .slice p t.length cp), (2, vI a), (3, .func (.func 59) #[] #[]), (4, vP b4 0), (18, .bool false)] (fun gy => [.func (.func 59) #[] #[], .agg #[vI s, vI y, vI l, vI m], .slice p t.length cp, vI a, vP b4 2, vI l, vI (a / l), .slice gy.1 ((tcH s y (a / l) 0 t).length) gy.2.1, .slice gy.1 ((tcH s y (a / l) 0 t).length) gy.2.1, vI 0]) (fun gy D wz => HP Tr w wz ([.cel b4 #[vI s, vI y, vI l, vI m] 23] ++ ((bif D 7 then [rowT gy.1 (tcH s y (a / l) 0 t).length gy.2.1 (tcH s y (a / l) 0 t)] else []) ++ []))) (none, 0, ()) (by kernel_rfl) ⟨rfl, rfl, rfl, rfl, rfl, rfl, trivial⟩ (by kernel_rfl) (by kernel_rfl) (by kernel_rfl) (fun _ => rfl) (by kernel_rfl) (HP.drew hH8) ?_ ?_
      · refine AllOk.cons ?o0 (AllOk.cons ?o1 (AllOk.cons ?o2 (AllOk.cons ?o3 (AllOk.cons ?o4 (AllOk.cons ?o5 (AllOk.cons ?o6 (AllOk.cons ?o7 (AllOk.cons ?o8 (AllOk.cons ?o9 (AllOk.nil _))))))))))
        case o0 =>
          intro gy D wz hDi hdep hclo hW
          exact .inl ⟨rfl, rfl, .inl ⟨gy, wz, fun _ _ => rfl, by kernel_rfl, hW⟩⟩
        case o1 =>
          intro gy D wz hDi hdep hclo hW
          exact .inl ⟨rfl, rfl, .inl ⟨gy, wz, fun _ _ => rfl, x_loadS (cs := [vI s, vI y, vI l, vI m]) rfl rfl Try.underlying23 rfl sz23 (HP.range hW 0 rfl rfl), hW⟩⟩
        case o2 =>
          intro gy D wz hDi hdep hclo hW
          exact .inl ⟨rfl, rfl, .inl ⟨gy, wz, fun _ _ => rfl, by kernel_rfl, hW⟩⟩
        case o3 =>
          intro gy D wz hDi hdep hclo hW
          exact .inl ⟨rfl, rfl, .inl ⟨gy, wz, fun _ _ => rfl, by kernel_rfl, hW⟩⟩
        case o4 =>
          intro gy D wz hDi hdep hclo hW
          exact .inl ⟨rfl, rfl, .inl ⟨gy, wz, fun _ _ => rfl, by kernel_rfl, hW⟩⟩
        case o5 =>
          intro gy D wz hDi hdep hclo hW
          exact .inl ⟨rfl, rfl, .inl ⟨gy, wz, fun _ _ => rfl, x_load rfl rfl Try.underlying3 rfl (HP.cell hW 0 rfl rfl), hW⟩⟩
        case o6 =>
          intro gy D wz hDi hdep hclo hW
          exact .inl ⟨rfl, rfl, .inl ⟨gy, wz, fun _ _ => rfl, x_quo rfl rfl rfl (by omega) (tdiv_pos (by omega) (by omega)) (by have := Int.ediv_nonneg (show 0 ≤ a by omega) (show 0 ≤ l by omega); omega) (by have := Int.ediv_le_self l (show 0 ≤ a by omega); omega), hW⟩⟩
        case o7 =>
          intro gy D wz hDi hdep hclo hW
          have d8 : D 8 = false := by
            cases h : D 8 with
            | false => rfl
            | true => exact absurd (hclo 8 _ rfl h ⟨7, .data⟩ (by simp) rfl) (by rw [hDi]; exact Bool.false_ne_true)
          have hW2 := hW
          simp only [hDi, cond_true, cond_false, List.append_nil, List.nil_append, List.cons_append] at hW2
          refine .inl ⟨rfl, rfl, .inr (.inr ⟨59, #[.agg #[vI s, vI y, vI l, vI m], .slice p t.length cp, vI (a / l)], by kernel_rfl, (touch0_any _ t _ s y l m (a / l) _ (hT.below (HP.below hW2)) hV).mono ?_⟩)⟩
          rintro e w3 ⟨pv, cp9, rfl, hb⟩
          refine ⟨⟨pv, cp9, ()⟩, fun j hj => ?_, rfl, ?_⟩
          · match j, hj with
            | 0, hj => rfl
            | 1, hj => rfl
            | 2, hj => rfl
            | 3, hj => rfl
            | 4, hj => rfl
            | 5, hj => rfl
            | 6, hj => rfl
            | 7, hj => rw [hDi] at hj; cases hj
            | 8, hj => exact absurd hj (by rw [d8]; exact Bool.false_ne_true)
            | 9, hj => rfl
            | j + 10, _ => rfl
          · show HP Tr w w3 ([.cel b4 #[vI s, vI y, vI l, vI m] 23] ++ ([rowT pv (tcH s y (a / l) 0 t).length cp9 (tcH s y (a / l) 0 t)] ++ []))
            simp only [cond_true, cond_false, List.append_nil, List.nil_append, List.cons_append]
            exact HP.trans hW2 hb
        case o8 =>
          intro gy D wz hDi hdep hclo hW
          exact .inl ⟨rfl, rfl, .inl ⟨gy, wz, fun _ _ => rfl, by kernel_rfl, hW⟩⟩
        case o9 =>
          intro gy D wz hDi hdep hclo hW
          exact .inl ⟨rfl, rfl, .inl ⟨gy, wz, fun _ _ => rfl, by kernel_rfl, hW⟩⟩
      rintro ⟨pv, cp9, gu⟩ D w11 hall hH12
      simp only [hall 7 (by kernel_rfl), cond_true, List.append_nil, List.nil_append, List.cons_append] at hH12
      clear hall
      refine WQ.sub (l' := [(0, .agg #[vI s, vI y, vI l, vI m]), (1, .slice p t.length cp), (2, vI a), (3, .func (.func 59) #[] #[]), (4, vP b4 0), (8, .slice pv ((tcH s y (a / l) 0 t).length) cp9), (9, vI 0), (18, .bool false)]) ⟨rfl, rfl, rfl, rfl, rfl, rfl, rfl, rfl, trivial⟩ ?_
      refine WQ.then (hK10 _ _ _ (WC.ret ?_))
      refine WQ.ret2 8 9 rfl rfl rfl ?_
      exact .inr ⟨by rw [hok, hwn]; rfl, pv, cp9, rfl, HP.drop hH12 0⟩
    ·
      refine WL.call (f := 44) (args := #[vI a, vI 0, vI 999]) 16 rfl (Nat.le_of_ble_eq_true rfl) rfl rfl (by kernel_rfl) ?_
      refine (within_at hwn _).mono ?_
      rintro e w13 ⟨rfl, rfl⟩
      refine ⟨_, rfl, ?_⟩
      refine WL.z (v := .bool true) 17 ?_
      refine WL.z (v := .bool true) 18 ?_
      refine WL.nil (WQ.then (hK6 _ _ _ ?_))
      refine WC.sub (l' := [(0, .agg #[vI s, vI y, vI l, vI m]), (1, .slice p t.length cp), (2, vI a), (3, .func (.func 59) #[] #[]), (4, vP b4 0), (8, .slice none 0 0), (9, vI 0), (18, .bool true)]) ⟨rfl, rfl, rfl, rfl, rfl, rfl, rfl, rfl, trivial⟩ ?_
      refine WC.yes rfl (WC.seq fun K14 hK14 => WC.region ?_)
      refine WL.z (v := .slice none 0 0) 8 ?_
      refine WL.z (v := vI 1) 9 ?_
      refine WL.nil (WQ.then (hK14 _ _ _ (WC.ret ?_)))
      refine WQ.thenRet ?_
      refine WQ.ret2 8 9 rfl rfl rfl ?_
      exact .inl ⟨by rw [hok, hwn]; rfl, rfl, HP.below hH8⟩
  ·
    refine WL.call (f := 66) (args := #[.agg #[vI s, vI y, vI l, vI m], .slice p t.length cp]) 12 rfl (Nat.le_of_ble_eq_true rfl) rfl rfl (by kernel_rfl) ?_
    refine (validTable_any s y l m _ t _ _ (hT.below (HP.below hH4)) hn).mono ?_
    rw [hok]
    rintro e w15 ⟨rfl, hb9⟩
    refine ⟨_, rfl, ?_⟩
    have hH16 : HP Tr w _ [.cel b4 #[vI s, vI y, vI l, vI m] 23] := HP.call hH4 hb9
    refine WL.z (v := .bool true) 13 ?_
    refine WL.z (v := .bool true) 14 ?_
    refine WL.p 15 ?_
    refine WL.p 16 ?_
    refine WL.p 17 ?_
    refine WL.z (v := .bool true) 18 ?_
    refine WL.nil (WQ.then (hK6 _ _ _ ?_))
    refine WC.sub (l' := [(0, .agg #[vI s, vI y, vI l, vI m]), (1, .slice p t.length cp), (2, vI a), (3, .func (.func 59) #[] #[]), (4, vP b4 0), (8, .slice none 0 0), (9, vI 0), (18, .bool true)]) ⟨rfl, rfl, rfl, rfl, rfl, rfl, rfl, rfl, trivial⟩ ?_
    refine WC.yes rfl (WC.seq fun K17 hK17 => WC.region ?_)
    refine WL.z (v := .slice none 0 0) 8 ?_
    refine WL.z (v := vI 1) 9 ?_
    refine WL.nil (WQ.then (hK17 _ _ _ (WC.ret ?_)))
    refine WQ.thenRet ?_
    refine WQ.ret2 8 9 rfl rfl rfl ?_
    exact .inl ⟨by rw [hok]; rfl, rfl, HP.below hH16⟩
set_option maxRecDepth 20000 in
set_option maxHeartbeats 4000000 in
theorem touched1_any (p : Option Addr) (t : List T2) (cp : Nat) (s y l m a : Int) (w : World) (hT : InT w p t) (hn : t.length ≤ 281474976710656) :
    Calls Try.prog 58 #[.agg #[vI s, vI y, vI l, vI m], .slice p t.length cp, vI a, .func (.func 61) #[] #[]] w (TaR s y l m a 1 t w) := by
  refine calls_of Try.func58 rfl (m := 27) rfl [(0, .agg #[vI s, vI y, vI l, vI m]), (1, .slice p t.length cp), (2, vI a), (3, .func (.func 61) #[] #[])] (Fr_enter [.agg #[vI s, vI y, vI l, vI m], .slice p t.length cp, vI a, .func (.func 61) #[] #[]] 27 (Nat.le_of_ble_eq_true rfl)) ?_
  have hH1 : HP Tr w w [] := HP.refl w
  refine WC.seq fun K2 hK2 => WC.region ?_
  refine WL.alloc (c := #[vI s, vI y, vI l, vI m]) (T := 23) hH1 4 rfl (by decide) rfl rfl (fun b4 => vP b4 0) (by kernel_rfl) (fun b4 w3 hw3 => ?_)
  have hH4 : HP Tr w w3 [.cel b4 #[vI s, vI y, vI l, vI m] 23] := hw3.2
  have nb4 := hw3.1
  clear hw3
  refine WL.z (v := .slice none 0 0) 8 ?_
  refine WL.z (v := vI 0) 9 ?_
  refine WL.nil (WQ.then (hK2 _ _ _ (WC.seq fun K5 hK5 => WC.seq fun K6 hK6 => WC.region ?_)))
  refine WL.y (v := .agg #[vI s, vI y, vI l, vI m]) 10 (x_loadS (cs := [vI s, vI y, vI l, vI m]) rfl rfl Try.underlying23 rfl sz23 (HP.range hH4 0 rfl rfl)) ?_
  refine WL.z (v := .slice p t.length cp) 11 ?_
  rcases Bool.eq_false_or_eq_true (okT s y l m t) with hok | hok
  ·
    refine WL.call (f := 66) (args := #[.agg #[vI s, vI y, vI l, vI m], .slice p t.length cp]) 12 rfl (Nat.le_of_ble_eq_true rfl) rfl rfl (by kernel_rfl) ?_
    refine (validTable_any s y l m _ t _ _ (hT.below (HP.below hH4)) hn).mono ?_
    rw [hok]
    rintro e w7 ⟨rfl, hb9⟩
    refine ⟨_, rfl, ?_⟩
    have hH8 : HP Tr w _ [.cel b4 #[vI s, vI y, vI l, vI m] 23] := HP.call hH4 hb9
    have hV := ok_VT hok
    obtain ⟨hl1, hl2⟩ : 1 ≤ l ∧ l ≤ 8 := ⟨hV.l1, hV.l2⟩
    refine WL.z (v := .bool false) 13 ?_
    refine WL.z (v := .bool false) 14 ?_
    refine WL.z (v := vI a) 15 ?_
    rcases Bool.eq_false_or_eq_true (wn a 0 999) with hwn | hwn
    ·
      refine WL.call (f := 44) (args := #[vI a, vI 0, vI 999]) 16 rfl (Nat.le_of_ble_eq_true rfl) rfl rfl (by kernel_rfl) ?_
      refine (within_at hwn _).mono ?_
      rintro e w9 ⟨rfl, rfl⟩
      refine ⟨_, rfl, ?_⟩
      obtain ⟨ha1, ha2⟩ := wn_iff.1 hwn
      refine WL.z (v := .bool false) 17 ?_
      refine WL.z (v := .bool false) 18 ?_
      refine WL.nil (WQ.then (hK6 _ _ _ ?_))
      refine WC.sub (l' := [(0, .agg #[vI s, vI y, vI l, vI m]), (1, .slice p t.length cp), (2, vI a), (3, .func (.func 61) #[] #[]), (4, vP b4 0), (8, .slice none 0 0), (9, vI 0), (18, .bool false)]) ⟨rfl, rfl, rfl, rfl, rfl, rfl, rfl, rfl, trivial⟩ ?_
      refine WC.no rfl (WC.skip (WQ.then (hK5 _ _ _ (WC.seq fun K10 hK10 => ?_))))
      refine WC.confG (γ := Option Addr × Nat × Unit) [(0, .agg #[vI s, vI y, vI l, vI m]), (1, .slice p t.length cp), (2, vI a), (3, .func (.func 61) #[] #[]), (4, vP b4 0), (18, .bool false)] (fun gy => [.func (.func 61) #[] #[], .agg #[vI s, vI y, vI l, vI m], .slice p t.length cp, vI a, vP b4 2, vI l, vI (a / l), .slice gy.1 ((tcH s y (a / l) 1 t).length) gy.2.1, .slice gy.1 ((tcH s y (a / l) 1 t).length) gy.2.1, vI 0]) (fun gy D wz => HP Tr w wz ([.cel b4 #[vI s, vI y, vI l, vI m] 23] ++ ((bif D 7 then [rowT gy.1 (tcH s y (a / l) 1 t).length gy.2.1 (tcH s y (a / l) 1 t)] else []) ++ []))) (none, 0, ()) (by kernel_rfl) ⟨rfl, rfl, rfl, rfl, rfl, rfl, trivial⟩ (by kernel_rfl) (by kernel_rfl) (by kernel_rfl) (fun _ => rfl) (by kernel_rfl) (HP.drew hH8) ?_ ?_
      · refine AllOk.cons ?o0 (AllOk.cons ?o1 (AllOk.cons ?o2 (AllOk.cons ?o3 (AllOk.cons ?o4 (AllOk.cons ?o5 (AllOk.cons ?o6 (AllOk.cons ?o7 (AllOk.cons ?o8 (AllOk.cons ?o9 (AllOk.nil _))))))))))
        case o0 =>
          intro gy D wz hDi hdep hclo hW
          exact .inl ⟨rfl, rfl, .inl ⟨gy, wz, fun _ _ => rfl, by kernel_rfl, hW⟩⟩
        case o1 =>
          intro gy D wz hDi hdep hclo hW
          exact .inl ⟨rfl, rfl, .inl ⟨gy, wz, fun _ _ => rfl, x_loadS (cs := [vI s, vI y, vI l, vI m]) rfl rfl Try.underlying23 rfl sz23 (HP.range hW 0 rfl rfl), hW⟩⟩
        case o2 =>
          intro gy D wz hDi hdep hclo hW
          exact .inl ⟨rfl, rfl, .inl ⟨gy, wz, fun _ _ => rfl, by kernel_rfl, hW⟩⟩
        case o3 =>
          intro gy D wz hDi hdep hclo hW
          exact .inl ⟨rfl, rfl, .inl ⟨gy, wz, fun _ _ => rfl, by kernel_rfl, hW⟩⟩
        case o4 =>
          intro gy D wz hDi hdep hclo hW
          exact .inl ⟨rfl, rfl, .inl ⟨gy, wz, fun _ _ => rfl, by kernel_rfl, hW⟩⟩
        case o5 =>
          intro gy D wz hDi hdep hclo hW
          exact .inl ⟨rfl, rfl, .inl ⟨gy, wz, fun _ _ => rfl, x_load rfl rfl Try.underlying3 rfl (HP.cell hW 0 rfl rfl), hW⟩⟩
        case o6 =>
          intro gy D wz hDi hdep hclo hW
          exact .inl ⟨rfl, rfl, .inl ⟨gy, wz, fun _ _ => rfl, x_quo rfl rfl rfl (by omega) (tdiv_pos (by omega) (by omega)) (by have := Int.ediv_nonneg (show 0 ≤ a by omega) (show 0 ≤ l by omega); omega) (by have := Int.ediv_le_self l (show 0 ≤ a by omega); omega), hW⟩⟩
        case o7 =>
          intro gy D wz hDi hdep hclo hW
          have d8 : D 8 = false := by
            cases h : D 8 with
            | false => rfl
            | true => exact absurd (hclo 8 _ rfl h ⟨7, .data⟩ (by simp) rfl) (by rw [hDi]; exact Bool.false_ne_true)
          have hW2 := hW
          simp only [hDi, cond_true, cond_false, List.append_nil, List.nil_append, List.cons_append] at hW2
          refine .inl ⟨rfl, rfl, .inr (.inr ⟨61, #[.agg #[vI s, vI y, vI l, vI m], .slice p t.length cp, vI (a / l)], by kernel_rfl, (touch1_any _ t _ s y l m (a / l) _ (hT.below (HP.below hW2)) hV).mono ?_⟩)⟩
          rintro e w3 ⟨pv, cp9, rfl, hb⟩
          refine ⟨⟨pv, cp9, ()⟩, fun j hj => ?_, rfl, ?_⟩
          · match j, hj with
            | 0, hj => rfl
            | 1, hj => rfl
            | 2, hj => rfl
            | 3, hj => rfl
            | 4, hj => rfl
            | 5, hj => rfl
            | 6, hj => rfl
            | 7, hj => rw [hDi] at hj; cases hj
            | 8, hj => exact absurd hj (by rw [d8]; exact Bool.false_ne_true)
            | 9, hj => rfl
            | j + 10, _ => rfl
          · show HP Tr w w3 ([.cel b4 #[vI s, vI y, vI l, vI m] 23] ++ ([rowT pv (tcH s y (a / l) 1 t).length cp9 (tcH s y (a / l) 1 t)] ++ []))
            simp only [cond_true, cond_false, List.append_nil, List.nil_append, List.cons_append]
            exact HP.trans hW2 hb
        case o8 =>
          intro gy D wz hDi hdep hclo hW
          exact .inl ⟨rfl, rfl, .inl ⟨gy, wz, fun _ _ => rfl, by kernel_rfl, hW⟩⟩
        case o9 =>
          intro gy D wz hDi hdep hclo hW
          exact .inl ⟨rfl, rfl, .inl ⟨gy, wz, fun _ _ => rfl, by kernel_rfl, hW⟩⟩
      rintro ⟨pv, cp9, gu⟩ D w11 hall hH12
      simp only [hall 7 (by kernel_rfl), cond_true, List.append_nil, List.nil_append, List.cons_append] at hH12
      clear hall
      refine WQ.sub (l' := [(0, .agg #[vI s, vI y, vI l, vI m]), (1, .slice p t.length cp), (2, vI a), (3, .func (.func 61) #[] #[]), (4, vP b4 0), (8, .slice pv ((tcH s y (a / l) 1 t).length) cp9), (9, vI 0), (18, .bool false)]) ⟨rfl, rfl, rfl, rfl, rfl, rfl, rfl, rfl, trivial⟩ ?_
      refine WQ.then (hK10 _ _ _ (WC.ret ?_))
      refine WQ.ret2 8 9 rfl rfl rfl ?_
      exact .inr ⟨by rw [hok, hwn]; rfl, pv, cp9, rfl, HP.drop hH12 0⟩
    ·
      refine WL.call (f := 44) (args := #[vI a, vI 0, vI 999]) 16 rfl (Nat.le_of_ble_eq_true rfl) rfl rfl (by kernel_rfl) ?_
      refine (within_at hwn _).mono ?_
      rintro e w13 ⟨rfl, rfl⟩
      refine ⟨_, rfl, ?_⟩
      refine WL.z (v := .bool true) 17 ?_
      refine WL.z (v := .bool true) 18 ?_
      refine WL.nil (WQ.then (hK6 _ _ _ ?_))
      refine WC.sub (l' := [(0, .agg #[vI s, vI y, vI l, vI m]), (1, .slice p t.length cp), (2, vI a), (3, .func (.func 61) #[] #[]), (4, vP b4 0), (8, .slice none 0 0), (9, vI 0), (18, .bool true)]) ⟨rfl, rfl, rfl, rfl, rfl, rfl, rfl, rfl, trivial⟩ ?_
      refine WC.yes rfl (WC.seq fun K14 hK14 => WC.region ?_)
      refine WL.z (v := .slice none 0 0) 8 ?_
      refine WL.z (v := vI 1) 9 ?_
      refine WL.nil (WQ.then (hK14 _ _ _ (WC.ret ?_)))
      refine WQ.thenRet ?_
      refine WQ.ret2 8 9 rfl rfl rfl ?_
      exact .inl ⟨by rw [hok, hwn]; rfl, rfl, HP.below hH8⟩
  ·
    refine WL.call (f := 66) (args := #[.agg #[vI s, vI y, vI l, vI m], .slice p t.length cp]) 12 rfl (Nat.le_of_ble_eq_true rfl) rfl rfl (by kernel_rfl) ?_
    refine (validTable_any s y l m _ t _ _ (hT.below (HP.below hH4)) hn).mono ?_
    rw [hok]
    rintro e w15 ⟨rfl, hb9⟩
    refine ⟨_, rfl, ?_⟩
    have hH16 : HP Tr w _ [.cel b4 #[vI s, vI y, vI l, vI m] 23] := HP.call hH4 hb9
    refine WL.z (v := .bool true) 13 ?_
    refine WL.z (v := .bool true) 14 ?_
    refine WL.p 15 ?_
    refine WL.p 16 ?_
    refine WL.p 17 ?_
    refine WL.z (v := .bool true) 18 ?_
    refine WL.nil (WQ.then (hK6 _ _ _ ?_))
    refine WC.sub (l' := [(0, .agg #[vI s, vI y, vI l, vI m]), (1, .slice p t.length cp), (2, vI a), (3, .func (.func 61) #[] #[]), (4, vP b4 0), (8, .slice none 0 0), (9, vI 0), (18, .bool true)]) ⟨rfl, rfl, rfl, rfl, rfl, rfl, rfl, rfl, trivial⟩ ?_
    refine WC.yes rfl (WC.seq fun K17 hK17 => WC.region ?_)
    refine WL.z (v := .slice none 0 0) 8 ?_
    refine WL.z (v := vI 1) 9 ?_
    refine WL.nil (WQ.then (hK17 _ _ _ (WC.ret ?_)))
    refine WQ.thenRet ?_
    refine WQ.ret2 8 9 rfl rfl rfl ?_
    exact .inl ⟨by rw [hok]; rfl, rfl, HP.below hH16⟩
set_option maxRecDepth 20000 in
set_option maxHeartbeats 4000000 in
theorem TouchMust_any (p : Option Addr) (t : List T2) (cp : Nat) (s y l m a : Int) (w : World) (hT : InT w p t) (hn : t.length ≤ 281474976710656) :
    Calls Try.prog 30 #[.agg #[vI s, vI y, vI l, vI m], .slice p t.length cp, vI a] w (TaR s y l m a 0 t w) := by
  refine calls_of Try.func30 rfl (m := 14) rfl [(0, .agg #[vI s, vI y, vI l, vI m]), (1, .slice p t.length cp), (2, vI a)] (Fr_enter [.agg #[vI s, vI y, vI l, vI m], .slice p t.length cp, vI a] 14 (Nat.le_of_ble_eq_true rfl)) ?_
  have hH1 : HP Tr w w [] := HP.refl w
  refine WC.seq fun K2 hK2 => WC.region ?_
  refine WL.alloc (c := #[vI s, vI y, vI l, vI m]) (T := 23) hH1 3 rfl (by decide) rfl rfl (fun b3 => vP b3 0) (by kernel_rfl) (fun b3 w3 hw3 => ?_)
  have hH4 : HP Tr w w3 [.cel b3 #[vI s, vI y, vI l, vI m] 23] := hw3.2
  have nb3 := hw3.1
  clear hw3
  refine WL.z (v := .slice none 0 0) 6 ?_
  refine WL.z (v := vI 0) 7 ?_
  refine WL.nil (WQ.then (hK2 _ _ _ (WC.seq fun K5 hK5 => WC.region ?_)))
  refine WL.y (v := .agg #[vI s, vI y, vI l, vI m]) 8 (x_loadS (cs := [vI s, vI y, vI l, vI m]) rfl rfl Try.underlying23 rfl sz23 (HP.range hH4 0 rfl rfl)) ?_
  refine WL.z (v := .slice p t.length cp) 9 ?_
  refine WL.z (v := vI a) 10 ?_
  refine WL.call (f := 58) (args := #[.agg #[vI s, vI y, vI l, vI m], .slice p t.length cp, vI a, .func (.func 59) #[] #[]]) 11 rfl (Nat.le_of_ble_eq_true rfl) rfl rfl (by kernel_rfl) ?_
  refine (touched0_any _ t _ s y l m a _ (hT.below (HP.below hH4)) hn).mono ?_
  rintro e w4 (⟨hno, rfl, hb4⟩ | ⟨hyes, pv, cp9, rfl, hb4⟩)
  ·
    refine ⟨_, rfl, ?_⟩
    have hH6 : HP Tr w _ [.cel b3 #[vI s, vI y, vI l, vI m] 23] := HP.call hH4 hb4
    refine WL.z (v := .slice none 0 0) 12 ?_
    refine WL.z (v := vI 1) 13 ?_
    refine WL.z (v := .slice none 0 0) 6 ?_
    refine WL.z (v := vI 1) 7 ?_
    refine WL.nil (WQ.then (hK5 _ _ _ ?_))
    refine WC.sub (l' := [(0, .agg #[vI s, vI y, vI l, vI m]), (1, .slice p t.length cp), (2, vI a), (3, vP b3 0), (6, .slice none 0 0), (7, vI 1)]) ⟨rfl, rfl, rfl, rfl, rfl, rfl, trivial⟩ ?_
    refine WC.ret ?_
    refine WQ.ret2 6 7 rfl rfl rfl ?_
    exact .inl ⟨hno, rfl, HP.below hH6⟩
  ·
    refine ⟨_, rfl, ?_⟩
    have hH7 : HP Tr w _ [.cel b3 #[vI s, vI y, vI l, vI m] 23, rowT pv (tcH s y (a / l) 0 t).length cp9 (tcH s y (a / l) 0 t)] := HP.trans hH4 hb4
    refine WL.z (v := .slice pv ((tcH s y (a / l) 0 t).length) cp9) 12 ?_
    refine WL.z (v := vI 0) 13 ?_
    refine WL.z (v := .slice pv ((tcH s y (a / l) 0 t).length) cp9) 6 ?_
    refine WL.z (v := vI 0) 7 ?_
    refine WL.nil (WQ.then (hK5 _ _ _ ?_))
    refine WC.sub (l' := [(0, .agg #[vI s, vI y, vI l, vI m]), (1, .slice p t.length cp), (2, vI a), (3, vP b3 0), (6, .slice pv ((tcH s y (a / l) 0 t).length) cp9), (7, vI 0)]) ⟨rfl, rfl, rfl, rfl, rfl, rfl, trivial⟩ ?_
    refine WC.ret ?_
    refine WQ.ret2 6 7 rfl rfl rfl ?_
    exact .inr ⟨hyes, pv, cp9, rfl, HP.drop hH7 0⟩
set_option maxRecDepth 20000 in
set_option maxHeartbeats 4000000 in
theorem TouchMay_any (p : Option Addr) (t : List T2) (cp : Nat) (s y l m a : Int) (w : World) (hT : InT w p t) (hn : t.length ≤ 281474976710656) :
    Calls Try.prog 32 #[.agg #[vI s, vI y, vI l, vI m], .slice p t.length cp, vI a] w (TaR s y l m a 1 t w) := by
  refine calls_of Try.func32 rfl (m := 14) rfl [(0, .agg #[vI s, vI y, vI l, vI m]), (1, .slice p t.length cp), (2, vI a)] (Fr_enter [.agg #[vI s, vI y, vI l, vI m], .slice p t.length cp, vI a] 14 (Nat.le_of_ble_eq_true rfl)) ?_
  have hH1 : HP Tr w w [] := HP.refl w
  refine WC.seq fun K2 hK2 => WC.region ?_
  refine WL.alloc (c := #[vI s, vI y, vI l, vI m]) (T := 23) hH1 3 rfl (by decide) rfl rfl (fun b3 => vP b3 0) (by kernel_rfl) (fun b3 w3 hw3 => ?_)
  have hH4 : HP Tr w w3 [.cel b3 #[vI s, vI y, vI l, vI m] 23] := hw3.2
  have nb3 := hw3.1
  clear hw3
  refine WL.z (v := .slice none 0 0) 6 ?_
  refine WL.z (v := vI 0) 7 ?_
  refine WL.nil (WQ.then (hK2 _ _ _ (WC.seq fun K5 hK5 => WC.region ?_)))
  refine WL.y (v := .agg #[vI s, vI y, vI l, vI m]) 8 (x_loadS (cs := [vI s, vI y, vI l, vI m]) rfl rfl Try.underlying23 rfl sz23 (HP.range hH4 0 rfl rfl)) ?_
  refine WL.z (v := .slice p t.length cp) 9 ?_
  refine WL.z (v := vI a) 10 ?_
  refine WL.call (f := 58) (args := #[.agg #[vI s, vI y, vI l, vI m], .slice p t.length cp, vI a, .func (.func 61) #[] #[]]) 11 rfl (Nat.le_of_ble_eq_true rfl) rfl rfl (by kernel_rfl) ?_
  refine (touched1_any _ t _ s y l m a _ (hT.below (HP.below hH4)) hn).mono ?_
  rintro e w4 (⟨hno, rfl, hb4⟩ | ⟨hyes, pv, cp9, rfl, hb4⟩)
  ·
    refine ⟨_, rfl, ?_⟩
    have hH6 : HP Tr w _ [.cel b3 #[vI s, vI y, vI l, vI m] 23] := HP.call hH4 hb4
    refine WL.z (v := .slice none 0 0) 12 ?_
    refine WL.z (v := vI 1) 13 ?_
    refine WL.z (v := .slice none 0 0) 6 ?_
    refine WL.z (v := vI 1) 7 ?_
    refine WL.nil (WQ.then (hK5 _ _ _ ?_))
    refine WC.sub (l' := [(0, .agg #[vI s, vI y, vI l, vI m]), (1, .slice p t.length cp), (2, vI a), (3, vP b3 0), (6, .slice none 0 0), (7, vI 1)]) ⟨rfl, rfl, rfl, rfl, rfl, rfl, trivial⟩ ?_
    refine WC.ret ?_
    refine WQ.ret2 6 7 rfl rfl rfl ?_
    exact .inl ⟨hno, rfl, HP.below hH6⟩
  ·
    refine ⟨_, rfl, ?_⟩
    have hH7 : HP Tr w _ [.cel b3 #[vI s, vI y, vI l, vI m] 23, rowT pv (tcH s y (a / l) 1 t).length cp9 (tcH s y (a / l) 1 t)] := HP.trans hH4 hb4
    refine WL.z (v := .slice pv ((tcH s y (a / l) 1 t).length) cp9) 12 ?_
    refine WL.z (v := vI 0) 13 ?_
    refine WL.z (v := .slice pv ((tcH s y (a / l) 1 t).length) cp9) 6 ?_
    refine WL.z (v := vI 0) 7 ?_
    refine WL.nil (WQ.then (hK5 _ _ _ ?_))
    refine WC.sub (l' := [(0, .agg #[vI s, vI y, vI l, vI m]), (1, .slice p t.length cp), (2, vI a), (3, vP b3 0), (6, .slice pv ((tcH s y (a / l) 1 t).length) cp9), (7, vI 0)]) ⟨rfl, rfl, rfl, rfl, rfl, rfl, trivial⟩ ?_
    refine WC.ret ?_
    refine WQ.ret2 6 7 rfl rfl rfl ?_
    exact .inr ⟨hyes, pv, cp9, rfl, HP.drop hH7 0⟩
theorem rtouch0_any (p : Option Addr) (t : List T2) (cp : Nat) (s y l m x : Int) (w : World) (hT : InT w p t) (hV : VT s y l m t) :
    Calls Try.prog 60 #[.agg #[vI s, vI y, vI l, vI m], .slice p t.length cp, vI x, .bool false] w (TcR s y x 0 t w) :=
  rAged0_any p t cp s y l m x _ 0 w hT (by have := hV.s1; omega) (by have := hV.y1; have := hV.y2; omega) (fun i hi => by have := hV.ag i hi; have := hV.y2; omega) rfl rfl (by have := hV.len; omega)
theorem rtouch1_any (p : Option Addr) (t : List T2) (cp : Nat) (s y l m x : Int) (w : World) (hT : InT w p t) (hV : VT s y l m t) :
    Calls Try.prog 60 #[.agg #[vI s, vI y, vI l, vI m], .slice p t.length cp, vI x, .bool true] w (TcR s y x 1 t w) :=
  rAged1_any p t cp s y l m x _ 1 w hT (by have := hV.s1; omega) (by have := hV.y1; have := hV.y2; omega) (fun i hi => by have := hV.ag i hi; have := hV.y2; omega) rfl rfl (by have := hV.len; omega)
set_option maxRecDepth 20000 in
set_option maxHeartbeats 4000000 in
theorem rTouchMust_any (p : Option Addr) (t : List T2) (cp : Nat) (s y l m a : Int) (w : World) (hT : InT w p t) (hn : t.length ≤ 281474976710656) :
    Calls Try.prog 31 #[.agg #[vI s, vI y, vI l, vI m], .slice p t.length cp, vI a] w (TaR s y l m a 0 t w) := by
  refine calls_of Try.func31 rfl (m := 27) rfl [(0, .agg #[vI s, vI y, vI l, vI m]), (1, .slice p t.length cp), (2, vI a)] (Fr_enter [.agg #[vI s, vI y, vI l, vI m], .slice p t.length cp, vI a] 27 (Nat.le_of_ble_eq_true rfl)) ?_
  have hH1 : HP Tr w w [] := HP.refl w
  refine WC.seq fun K2 hK2 => WC.region ?_
  refine WL.alloc (c := #[vI s, vI y, vI l, vI m]) (T := 23) hH1 3 rfl (by decide) rfl rfl (fun b3 => vP b3 0) (by kernel_rfl) (fun b3 w3 hw3 => ?_)
  have hH4 : HP Tr w w3 [.cel b3 #[vI s, vI y, vI l, vI m] 23] := hw3.2
  have nb3 := hw3.1
  clear hw3
  refine WL.z (v := .slice none 0 0) 6 ?_
  refine WL.z (v := vI 0) 7 ?_
  refine WL.nil (WQ.then (hK2 _ _ _ (WC.seq fun K5 hK5 => WC.seq fun K6 hK6 => WC.region ?_)))
  refine WL.y (v := .agg #[vI s, vI y, vI l, vI m]) 8 (x_loadS (cs := [vI s, vI y, vI l, vI m]) rfl rfl Try.underlying23 rfl sz23 (HP.range hH4 0 rfl rfl)) ?_
  refine WL.z (v := .slice p t.length cp) 9 ?_
  rcases Bool.eq_false_or_eq_true (okT s y l m t) with hok | hok
  ·
    refine WL.call (f := 41) (args := #[.agg #[vI s, vI y, vI l, vI m], .slice p t.length cp]) 10 rfl (Nat.le_of_ble_eq_true rfl) rfl rfl (by kernel_rfl) ?_
    refine (IsTable_any s y l m _ t _ _ (hT.below (HP.below hH4)) hn).mono ?_
    rw [hok]
    rintro e w7 ⟨rfl, hb9⟩
    refine ⟨_, rfl, ?_⟩
    have hH8 : HP Tr w _ [.cel b3 #[vI s, vI y, vI l, vI m] 23] := HP.call hH4 hb9
    have hV := ok_VT hok
    obtain ⟨hl1, hl2⟩ : 1 ≤ l ∧ l ≤ 8 := ⟨hV.l1, hV.l2⟩
    refine WL.z (v := .bool false) 11 ?_
    refine WL.z (v := .bool false) 12 ?_
    refine WL.z (v := vI a) 13 ?_
    by_cases hlo : a < 0
    ·
      refine WL.y (v := .bool true) 14 (x_lss rfl rfl rfl (dT (hlo))) ?_
      refine WL.z (v := .bool true) 15 ?_
      refine WL.z (v := .bool true) 16 ?_
      refine WL.p 17 ?_
      refine WL.p 18 ?_
      refine WL.z (v := .bool true) 19 ?_
      refine WL.nil (WQ.then (hK6 _ _ _ ?_))
      refine WC.sub (l' := [(0, .agg #[vI s, vI y, vI l, vI m]), (1, .slice p t.length cp), (2, vI a), (3, vP b3 0), (6, .slice none 0 0), (7, vI 0), (19, .bool true)]) ⟨rfl, rfl, rfl, rfl, rfl, rfl, rfl, trivial⟩ ?_
      refine WC.yes rfl (WC.seq fun K9 hK9 => WC.region ?_)
      refine WL.z (v := .slice none 0 0) 6 ?_
      refine WL.z (v := vI 1) 7 ?_
      refine WL.nil (WQ.then (hK9 _ _ _ (WC.ret ?_)))
      refine WQ.thenRet ?_
      refine WQ.ret2 6 7 rfl rfl rfl ?_
      exact .inl ⟨by rw [hok, wn_no2 (by omega)]; rfl, rfl, HP.below hH8⟩
    ·
      refine WL.y (v := .bool false) 14 (x_lss rfl rfl rfl (dF (hlo))) ?_
      refine WL.z (v := .bool false) 15 ?_
      refine WL.z (v := .bool false) 16 ?_
      refine WL.z (v := vI a) 17 ?_
      by_cases hhi : (999 : Int) < a
      ·
        refine WL.y (v := .bool true) 18 (x_gtr rfl rfl rfl (dT (hhi))) ?_
        refine WL.z (v := .bool true) 19 ?_
        refine WL.nil (WQ.then (hK6 _ _ _ ?_))
        refine WC.sub (l' := [(0, .agg #[vI s, vI y, vI l, vI m]), (1, .slice p t.length cp), (2, vI a), (3, vP b3 0), (6, .slice none 0 0), (7, vI 0), (19, .bool true)]) ⟨rfl, rfl, rfl, rfl, rfl, rfl, rfl, trivial⟩ ?_
        refine WC.yes rfl (WC.seq fun K10 hK10 => WC.region ?_)
        refine WL.z (v := .slice none 0 0) 6 ?_
        refine WL.z (v := vI 1) 7 ?_
        refine WL.nil (WQ.then (hK10 _ _ _ (WC.ret ?_)))
        refine WQ.thenRet ?_
        refine WQ.ret2 6 7 rfl rfl rfl ?_
        exact .inl ⟨by rw [hok, wn_no2 (by omega)]; rfl, rfl, HP.below hH8⟩
      ·
        refine WL.y (v := .bool false) 18 (x_gtr rfl rfl rfl (dF (hhi))) ?_
        refine WL.z (v := .bool false) 19 ?_
        refine WL.nil (WQ.then (hK6 _ _ _ ?_))
        refine WC.sub (l' := [(0, .agg #[vI s, vI y, vI l, vI m]), (1, .slice p t.length cp), (2, vI a), (3, vP b3 0), (6, .slice none 0 0), (7, vI 0), (19, .bool false)]) ⟨rfl, rfl, rfl, rfl, rfl, rfl, rfl, trivial⟩ ?_
        refine WC.no rfl (WC.skip (WQ.then (hK5 _ _ _ (WC.seq fun K11 hK11 => ?_))))
        refine WC.confG (γ := Option Addr × Nat × Unit) [(0, .agg #[vI s, vI y, vI l, vI m]), (1, .slice p t.length cp), (2, vI a), (3, vP b3 0), (19, .bool false)] (fun gy => [.agg #[vI s, vI y, vI l, vI m], .slice p t.length cp, vI a, vP b3 2, vI l, vI (a / l), .slice gy.1 ((tcH s y (a / l) 0 t).length) gy.2.1, .slice gy.1 ((tcH s y (a / l) 0 t).length) gy.2.1, vI 0]) (fun gy D wz => HP Tr w wz ([.cel b3 #[vI s, vI y, vI l, vI m] 23] ++ ((bif D 6 then [rowT gy.1 (tcH s y (a / l) 0 t).length gy.2.1 (tcH s y (a / l) 0 t)] else []) ++ []))) (none, 0, ()) (by kernel_rfl) ⟨rfl, rfl, rfl, rfl, rfl, trivial⟩ (by kernel_rfl) (by kernel_rfl) (by kernel_rfl) (fun _ => rfl) (by kernel_rfl) (HP.drew hH8) ?_ ?_
        · refine AllOk.cons ?o0 (AllOk.cons ?o1 (AllOk.cons ?o2 (AllOk.cons ?o3 (AllOk.cons ?o4 (AllOk.cons ?o5 (AllOk.cons ?o6 (AllOk.cons ?o7 (AllOk.cons ?o8 (AllOk.nil _)))))))))
          case o0 =>
            intro gy D wz hDi hdep hclo hW
            exact .inl ⟨rfl, rfl, .inl ⟨gy, wz, fun _ _ => rfl, x_loadS (cs := [vI s, vI y, vI l, vI m]) rfl rfl Try.underlying23 rfl sz23 (HP.range hW 0 rfl rfl), hW⟩⟩
          case o1 =>
            intro gy D wz hDi hdep hclo hW
            exact .inl ⟨rfl, rfl, .inl ⟨gy, wz, fun _ _ => rfl, by kernel_rfl, hW⟩⟩
          case o2 =>
            intro gy D wz hDi hdep hclo hW
            exact .inl ⟨rfl, rfl, .inl ⟨gy, wz, fun _ _ => rfl, by kernel_rfl, hW⟩⟩
          case o3 =>
            intro gy D wz hDi hdep hclo hW
            exact .inl ⟨rfl, rfl, .inl ⟨gy, wz, fun _ _ => rfl, by kernel_rfl, hW⟩⟩
          case o4 =>
            intro gy D wz hDi hdep hclo hW
            exact .inl ⟨rfl, rfl, .inl ⟨gy, wz, fun _ _ => rfl, x_load rfl rfl Try.underlying3 rfl (HP.cell hW 0 rfl rfl), hW⟩⟩
          case o5 =>
            intro gy D wz hDi hdep hclo hW
            exact .inl ⟨rfl, rfl, .inl ⟨gy, wz, fun _ _ => rfl, x_quo rfl rfl rfl (by omega) (tdiv_pos (by omega) (by omega)) (by have := Int.ediv_nonneg (show 0 ≤ a by omega) (show 0 ≤ l by omega); omega) (by have := Int.ediv_le_self l (show 0 ≤ a by omega); omega), hW⟩⟩
          case o6 =>
            intro gy D wz hDi hdep hclo hW
            have d7 : D 7 = false := by
              cases h : D 7 with
              | false => rfl
              | true => exact absurd (hclo 7 _ rfl h ⟨6, .data⟩ (by simp) rfl) (by rw [hDi]; exact Bool.false_ne_true)
            have hW2 := hW
            simp only [hDi, cond_true, cond_false, List.append_nil, List.nil_append, List.cons_append] at hW2
            refine .inl ⟨rfl, rfl, .inr (.inr ⟨60, #[.agg #[vI s, vI y, vI l, vI m], .slice p t.length cp, vI (a / l), .bool false], by kernel_rfl, (rtouch0_any _ t _ s y l m (a / l) _ (hT.below (HP.below hW2)) hV).mono ?_⟩)⟩
            rintro e w3 ⟨pv, cp9, rfl, hb⟩
            refine ⟨⟨pv, cp9, ()⟩, fun j hj => ?_, rfl, ?_⟩
            · match j, hj with
              | 0, hj => rfl
              | 1, hj => rfl
              | 2, hj => rfl
              | 3, hj => rfl
              | 4, hj => rfl
              | 5, hj => rfl
              | 6, hj => rw [hDi] at hj; cases hj
              | 7, hj => exact absurd hj (by rw [d7]; exact Bool.false_ne_true)
              | 8, hj => rfl
              | j + 9, _ => rfl
            · show HP Tr w w3 ([.cel b3 #[vI s, vI y, vI l, vI m] 23] ++ ([rowT pv (tcH s y (a / l) 0 t).length cp9 (tcH s y (a / l) 0 t)] ++ []))
              simp only [cond_true, cond_false, List.append_nil, List.nil_append, List.cons_append]
              exact HP.trans hW2 hb
          case o7 =>
            intro gy D wz hDi hdep hclo hW
            exact .inl ⟨rfl, rfl, .inl ⟨gy, wz, fun _ _ => rfl, by kernel_rfl, hW⟩⟩
          case o8 =>
            intro gy D wz hDi hdep hclo hW
            exact .inl ⟨rfl, rfl, .inl ⟨gy, wz, fun _ _ => rfl, by kernel_rfl, hW⟩⟩
        rintro ⟨pv, cp9, gu⟩ D w12 hall hH13
        simp only [hall 6 (by kernel_rfl), cond_true, List.append_nil, List.nil_append, List.cons_append] at hH13
        clear hall
        refine WQ.sub (l' := [(0, .agg #[vI s, vI y, vI l, vI m]), (1, .slice p t.length cp), (2, vI a), (3, vP b3 0), (6, .slice pv ((tcH s y (a / l) 0 t).length) cp9), (7, vI 0), (19, .bool false)]) ⟨rfl, rfl, rfl, rfl, rfl, rfl, rfl, trivial⟩ ?_
        refine WQ.then (hK11 _ _ _ (WC.ret ?_))
        refine WQ.ret2 6 7 rfl rfl rfl ?_
        exact .inr ⟨by rw [hok, wn_iff.2 ⟨by omega, by omega⟩]; rfl, pv, cp9, rfl, HP.drop hH13 0⟩
  ·
    refine WL.call (f := 41) (args := #[.agg #[vI s, vI y, vI l, vI m], .slice p t.length cp]) 10 rfl (Nat.le_of_ble_eq_true rfl) rfl rfl (by kernel_rfl) ?_
    refine (IsTable_any s y l m _ t _ _ (hT.below (HP.below hH4)) hn).mono ?_
    rw [hok]
    rintro e w14 ⟨rfl, hb9⟩
    refine ⟨_, rfl, ?_⟩
    have hH15 : HP Tr w _ [.cel b3 #[vI s, vI y, vI l, vI m] 23] := HP.call hH4 hb9
    refine WL.z (v := .bool true) 11 ?_
    refine WL.z (v := .bool true) 12 ?_
    refine WL.p 13 ?_
    refine WL.p 14 ?_
    refine WL.z (v := .bool true) 15 ?_
    refine WL.z (v := .bool true) 16 ?_
    refine WL.p 17 ?_
    refine WL.p 18 ?_
    refine WL.z (v := .bool true) 19 ?_
    refine WL.nil (WQ.then (hK6 _ _ _ ?_))
    refine WC.sub (l' := [(0, .agg #[vI s, vI y, vI l, vI m]), (1, .slice p t.length cp), (2, vI a), (3, vP b3 0), (6, .slice none 0 0), (7, vI 0), (19, .bool true)]) ⟨rfl, rfl, rfl, rfl, rfl, rfl, rfl, trivial⟩ ?_
    refine WC.yes rfl (WC.seq fun K16 hK16 => WC.region ?_)
    refine WL.z (v := .slice none 0 0) 6 ?_
    refine WL.z (v := vI 1) 7 ?_
    refine WL.nil (WQ.then (hK16 _ _ _ (WC.ret ?_)))
    refine WQ.thenRet ?_
    refine WQ.ret2 6 7 rfl rfl rfl ?_
    exact .inl ⟨by rw [hok]; rfl, rfl, HP.below hH15⟩
set_option maxRecDepth 20000 in
set_option maxHeartbeats 4000000 in
theorem rTouchMay_any (p : Option Addr) (t : List T2) (cp : Nat) (s y l m a : Int) (w : World) (hT : InT w p t) (hn : t.length ≤ 281474976710656) :
    Calls Try.prog 33 #[.agg #[vI s, vI y, vI l, vI m], .slice p t.length cp, vI a] w (TaR s y l m a 1 t w) := by
  refine calls_of Try.func33 rfl (m := 27) rfl [(0, .agg #[vI s, vI y, vI l, vI m]), (1, .slice p t.length cp), (2, vI a)] (Fr_enter [.agg #[vI s, vI y, vI l, vI m], .slice p t.length cp, vI a] 27 (Nat.le_of_ble_eq_true rfl)) ?_
  have hH1 : HP Tr w w [] := HP.refl w
  refine WC.seq fun K2 hK2 => WC.region ?_
  refine WL.alloc (c := #[vI s, vI y, vI l, vI m]) (T := 23) hH1 3 rfl (by decide) rfl rfl (fun b3 => vP b3 0) (by kernel_rfl) (fun b3 w3 hw3 => ?_)
  have hH4 : HP Tr w w3 [.cel b3 #[vI s, vI y, vI l, vI m] 23] := hw3.2
  have nb3 := hw3.1
  clear hw3
  refine WL.z (v := .slice none 0 0) 6 ?_
  refine WL.z (v := vI 0) 7 ?_
  refine WL.nil (WQ.then (hK2 _ _ _ (WC.seq fun K5 hK5 => WC.seq fun K6 hK6 => WC.region ?_)))
  refine WL.y (v := .agg #[vI s, vI y, vI l, vI m]) 8 (x_loadS (cs := [vI s, vI y, vI l, vI m]) rfl rfl Try.underlying23 rfl sz23 (HP.range hH4 0 rfl rfl)) ?_
  refine WL.z (v := .slice p t.length cp) 9 ?_
  rcases Bool.eq_false_or_eq_true (okT s y l m t) with hok | hok
  ·
    refine WL.call (f := 41) (args := #[.agg #[vI s, vI y, vI l, vI m], .slice p t.length cp]) 10 rfl (Nat.le_of_ble_eq_true rfl) rfl rfl (by kernel_rfl) ?_
    refine (IsTable_any s y l m _ t _ _ (hT.below (HP.below hH4)) hn).mono ?_
    rw [hok]
    rintro e w7 ⟨rfl, hb9⟩
    refine ⟨_, rfl, ?_⟩
    have hH8 : HP Tr w _ [.cel b3 #[vI s, vI y, vI l, vI m] 23] := HP.call hH4 hb9
    have hV := ok_VT hok
    obtain ⟨hl1, hl2⟩ : 1 ≤ l ∧ l ≤ 8 := ⟨hV.l1, hV.l2⟩
    refine WL.z (v := .bool false) 11 ?_
    refine WL.z (v := .bool false) 12 ?_
    refine WL.z (v := vI a) 13 ?_
    by_cases hlo : a < 0
    ·
      refine WL.y (v := .bool true) 14 (x_lss rfl rfl rfl (dT (hlo))) ?_
      refine WL.z (v := .bool true) 15 ?_
      refine WL.z (v := .bool true) 16 ?_
      refine WL.p 17 ?_
      refine WL.p 18 ?_
      refine WL.z (v := .bool true) 19 ?_
      refine WL.nil (WQ.then (hK6 _ _ _ ?_))
      refine WC.sub (l' := [(0, .agg #[vI s, vI y, vI l, vI m]), (1, .slice p t.length cp), (2, vI a), (3, vP b3 0), (6, .slice none 0 0), (7, vI 0), (19, .bool true)]) ⟨rfl, rfl, rfl, rfl, rfl, rfl, rfl, trivial⟩ ?_
      refine WC.yes rfl (WC.seq fun K9 hK9 => WC.region ?_)
      refine WL.z (v := .slice none 0 0) 6 ?_
      refine WL.z (v := vI 1) 7 ?_
      refine WL.nil (WQ.then (hK9 _ _ _ (WC.ret ?_)))
      refine WQ.thenRet ?_
      refine WQ.ret2 6 7 rfl rfl rfl ?_
      exact .inl ⟨by rw [hok, wn_no2 (by omega)]; rfl, rfl, HP.below hH8⟩
    ·
      refine WL.y (v := .bool false) 14 (x_lss rfl rfl rfl (dF (hlo))) ?_
      refine WL.z (v := .bool false) 15 ?_
      refine WL.z (v := .bool false) 16 ?_
      refine WL.z (v := vI a) 17 ?_
      by_cases hhi : (999 : Int) < a
      ·
        refine WL.y (v := .bool true) 18 (x_gtr rfl rfl rfl (dT (hhi))) ?_
        refine WL.z (v := .bool true) 19 ?_
        refine WL.nil (WQ.then (hK6 _ _ _ ?_))
        refine WC.sub (l' := [(0, .agg #[vI s, vI y, vI l, vI m]), (1, .slice p t.length cp), (2, vI a), (3, vP b3 0), (6, .slice none 0 0), (7, vI 0), (19, .bool true)]) ⟨rfl, rfl, rfl, rfl, rfl, rfl, rfl, trivial⟩ ?_
        refine WC.yes rfl (WC.seq fun K10 hK10 => WC.region ?_)
        refine WL.z (v := .slice none 0 0) 6 ?_
        refine WL.z (v := vI 1) 7 ?_
        refine WL.nil (WQ.then (hK10 _ _ _ (WC.ret ?_)))
        refine WQ.thenRet ?_
        refine WQ.ret2 6 7 rfl rfl rfl ?_
        exact .inl ⟨by rw [hok, wn_no2 (by omega)]; rfl, rfl, HP.below hH8⟩
      ·
        refine WL.y (v := .bool false) 18 (x_gtr rfl rfl rfl (dF (hhi))) ?_
        refine WL.z (v := .bool false) 19 ?_
        refine WL.nil (WQ.then (hK6 _ _ _ ?_))
        refine WC.sub (l' := [(0, .agg #[vI s, vI y, vI l, vI m]), (1, .slice p t.length cp), (2, vI a), (3, vP b3 0), (6, .slice none 0 0), (7, vI 0), (19, .bool false)]) ⟨rfl, rfl, rfl, rfl, rfl, rfl, rfl, trivial⟩ ?_
        refine WC.no rfl (WC.skip (WQ.then (hK5 _ _ _ (WC.seq fun K11 hK11 => ?_))))
        refine WC.confG (γ := Option Addr × Nat × Unit) [(0, .agg #[vI s, vI y, vI l, vI m]), (1, .slice p t.length cp), (2, vI a), (3, vP b3 0), (19, .bool false)] (fun gy => [.agg #[vI s, vI y, vI l, vI m], .slice p t.length cp, vI a, vP b3 2, vI l, vI (a / l), .slice gy.1 ((tcH s y (a / l) 1 t).length) gy.2.1, .slice gy.1 ((tcH s y (a / l) 1 t).length) gy.2.1, vI 0]) (fun gy D wz => HP Tr w wz ([.cel b3 #[vI s, vI y, vI l, vI m] 23] ++ ((bif D 6 then [rowT gy.1 (tcH s y (a / l) 1 t).length gy.2.1 (tcH s y (a / l) 1 t)] else []) ++ []))) (none, 0, ()) (by kernel_rfl) ⟨rfl, rfl, rfl, rfl, rfl, trivial⟩ (by kernel_rfl) (by kernel_rfl) (by kernel_rfl) (fun _ => rfl) (by kernel_rfl) (HP.drew hH8) ?_ ?_
        · refine AllOk.cons ?o0 (AllOk.cons ?o1 (AllOk.cons ?o2 (AllOk.cons ?o3 (AllOk.cons ?o4 (AllOk.cons ?o5 (AllOk.cons ?o6 (AllOk.cons ?o7 (AllOk.cons ?o8 (AllOk.nil _)))))))))
          case o0 =>
            intro gy D wz hDi hdep hclo hW
            exact .inl ⟨rfl, rfl, .inl ⟨gy, wz, fun _ _ => rfl, x_loadS (cs := [vI s, vI y, vI l, vI m]) rfl rfl Try.underlying23 rfl sz23 (HP.range hW 0 rfl rfl), hW⟩⟩
          case o1 =>
            intro gy D wz hDi hdep hclo hW
            exact .inl ⟨rfl, rfl, .inl ⟨gy, wz, fun _ _ => rfl, by kernel_rfl, hW⟩⟩
          case o2 =>
            intro gy D wz hDi hdep hclo hW
            exact .inl ⟨rfl, rfl, .inl ⟨gy, wz, fun _ _ => rfl, by kernel_rfl, hW⟩⟩
          case o3 =>
            intro gy D wz hDi hdep hclo hW
            exact .inl ⟨rfl, rfl, .inl ⟨gy, wz, fun _ _ => rfl, by kernel_rfl, hW⟩⟩
          case o4 =>
            intro gy D wz hDi hdep hclo hW
            exact .inl ⟨rfl, rfl, .inl ⟨gy, wz, fun _ _ => rfl, x_load rfl rfl Try.underlying3 rfl (HP.cell hW 0 rfl rfl), hW⟩⟩
          case o5 =>
            intro gy D wz hDi hdep hclo hW
            exact .inl ⟨rfl, rfl, .inl ⟨gy, wz, fun _ _ => rfl, x_quo rfl rfl rfl (by omega) (tdiv_pos (by omega) (by omega)) (by have := Int.ediv_nonneg (show 0 ≤ a by omega) (show 0 ≤ l by omega); omega) (by have := Int.ediv_le_self l (show 0 ≤ a by omega); omega), hW⟩⟩
          case o6 =>
            intro gy D wz hDi hdep hclo hW
            have d7 : D 7 = false := by
              cases h : D 7 with
              | false => rfl
              | true => exact absurd (hclo 7 _ rfl h ⟨6, .data⟩ (by simp) rfl) (by rw [hDi]; exact Bool.false_ne_true)
            have hW2 := hW
            simp only [hDi, cond_true, cond_false, List.append_nil, List.nil_append, List.cons_append] at hW2
            refine .inl ⟨rfl, rfl, .inr (.inr ⟨60, #[.agg #[vI s, vI y, vI l, vI m], .slice p t.length cp, vI (a / l), .bool true], by kernel_rfl, (rtouch1_any _ t _ s y l m (a / l) _ (hT.below (HP.below hW2)) hV).mono ?_⟩)⟩
            rintro e w3 ⟨pv, cp9, rfl, hb⟩
            refine ⟨⟨pv, cp9, ()⟩, fun j hj => ?_, rfl, ?_⟩
            · match j, hj with
              | 0, hj => rfl
              | 1, hj => rfl
              | 2, hj => rfl
              | 3, hj => rfl
              | 4, hj => rfl
              | 5, hj => rfl
              | 6, hj => rw [hDi] at hj; cases hj
              | 7, hj => exact absurd hj (by rw [d7]; exact Bool.false_ne_true)
              | 8, hj => rfl
              | j + 9, _ => rfl
            · show HP Tr w w3 ([.cel b3 #[vI s, vI y, vI l, vI m] 23] ++ ([rowT pv (tcH s y (a / l) 1 t).length cp9 (tcH s y (a / l) 1 t)] ++ []))
              simp only [cond_true, cond_false, List.append_nil, List.nil_append, List.cons_append]
              exact HP.trans hW2 hb
          case o7 =>
            intro gy D wz hDi hdep hclo hW
            exact .inl ⟨rfl, rfl, .inl ⟨gy, wz, fun _ _ => rfl, by kernel_rfl, hW⟩⟩
          case o8 =>
            intro gy D wz hDi hdep hclo hW
            exact .inl ⟨rfl, rfl, .inl ⟨gy, wz, fun _ _ => rfl, by kernel_rfl, hW⟩⟩
        rintro ⟨pv, cp9, gu⟩ D w12 hall hH13
        simp only [hall 6 (by kernel_rfl), cond_true, List.append_nil, List.nil_append, List.cons_append] at hH13
        clear hall
        refine WQ.sub (l' := [(0, .agg #[vI s, vI y, vI l, vI m]), (1, .slice p t.length cp), (2, vI a), (3, vP b3 0), (6, .slice pv ((tcH s y (a / l) 1 t).length) cp9), (7, vI 0), (19, .bool false)]) ⟨rfl, rfl, rfl, rfl, rfl, rfl, rfl, trivial⟩ ?_
        refine WQ.then (hK11 _ _ _ (WC.ret ?_))
        refine WQ.ret2 6 7 rfl rfl rfl ?_
        exact .inr ⟨by rw [hok, wn_iff.2 ⟨by omega, by omega⟩]; rfl, pv, cp9, rfl, HP.drop hH13 0⟩
  ·
    refine WL.call (f := 41) (args := #[.agg #[vI s, vI y, vI l, vI m], .slice p t.length cp]) 10 rfl (Nat.le_of_ble_eq_true rfl) rfl rfl (by kernel_rfl) ?_
    refine (IsTable_any s y l m _ t _ _ (hT.below (HP.below hH4)) hn).mono ?_
    rw [hok]
    rintro e w14 ⟨rfl, hb9⟩
    refine ⟨_, rfl, ?_⟩
    have hH15 : HP Tr w _ [.cel b3 #[vI s, vI y, vI l, vI m] 23] := HP.call hH4 hb9
    refine WL.z (v := .bool true) 11 ?_
    refine WL.z (v := .bool true) 12 ?_
    refine WL.p 13 ?_
    refine WL.p 14 ?_
    refine WL.z (v := .bool true) 15 ?_
    refine WL.z (v := .bool true) 16 ?_
    refine WL.p 17 ?_
    refine WL.p 18 ?_
    refine WL.z (v := .bool true) 19 ?_
    refine WL.nil (WQ.then (hK6 _ _ _ ?_))
    refine WC.sub (l' := [(0, .agg #[vI s, vI y, vI l, vI m]), (1, .slice p t.length cp), (2, vI a), (3, vP b3 0), (6, .slice none 0 0), (7, vI 0), (19, .bool true)]) ⟨rfl, rfl, rfl, rfl, rfl, rfl, rfl, trivial⟩ ?_
    refine WC.yes rfl (WC.seq fun K16 hK16 => WC.region ?_)
    refine WL.z (v := .slice none 0 0) 6 ?_
    refine WL.z (v := vI 1) 7 ?_
    refine WL.nil (WQ.then (hK16 _ _ _ (WC.ret ?_)))
    refine WQ.thenRet ?_
    refine WQ.ret2 6 7 rfl rfl rfl ?_
    exact .inl ⟨by rw [hok]; rfl, rfl, HP.below hH15⟩
end Ca
end Go.Proofs.Ytmjnakhpekbenaa
namespace Go.Proofs.Ytmjnakhpekbenaa
open Go.RowKit
namespace Fw
section
variable {P : Program} {S : Nat → Prop} {w0 w : World} {H : List Ent} {γ : Type} {Wt Kn R1 R2 : Prop} {ρ : Operand → Value} {o : Oper} {val : γ → Value} {agr : γ → Prop} {WI : γ → World → Prop}
theorem cf_alloc {c : Array Value} {T : TypeId} (hH : HP S w0 w H) (V : Nat → Value) (hw : Wt) (hk : Kn) (hr : (execOp ρ o).run P w = .ok (.value (V w.heap.size)) (w.alloc (.cells c T)))
    (k : ∀ b w', HP S w0 w' (H ++ [.cel b c T]) → ∃ g', agr g' ∧ val g' = V b ∧ WI g' w') :
    (Wt ∧ Kn ∧ ((∃ g' w', agr g' ∧ (execOp ρ o).run P w = .ok (.value (val g')) w' ∧ WI g' w') ∨ R1)) ∨ R2 := by
  obtain ⟨g', h1, h2, h3⟩ := k _ _ (HP.alloc hH c T)
  exact .inl ⟨hw, hk, .inl ⟨g', _, h1, by rw [h2]; exact hr, h3⟩⟩
theorem cf_append {t e : TypeId} {inf : TypeInfo} {z : Value} {sz by' : Nat} {x y : Operand} {v : Value} {k m : Nat} {xs : List Value} (news : List Value) {bn cp : Nat} {cn : Array Value} (i j : Nat) (hH : HP S w0 w H) (hw : Wt) (hkn : Kn)
    (ho : o.op = .call { callee := .builtin .append, args := #[x, y], argTypes := #[t, t] }) (hx : ρ x = v) (hy : ρ y = .slice (some ⟨bn, 0, none⟩) m cp)
    (ht : P.underlying t = some (.slice e)) (hi' : P.info? e = some inf) (hz : inf.zero = some z) (hsz : inf.size = sz) (hby : inf.bytes = by') (hzs : z.cells.size = sz) (h0 : 0 < sz)
    (hi : H[i]? = some (.own v k xs e sz)) (hj : H[j]? = some (.cel bn cn e)) (hnews : cn.toList.take news.length = news) (hl : news.length = m * sz) (h1 : ∀ u ∈ news, u.oneCell' = true) (h63 : k + m ≤ maxLen) (hb : (k + m) * by' ≤ 140737488355328)
    (h : ∀ v' w2, HP S w0 w2 (H.set i (.own v' (k + m) (xs ++ news) e sz)) → ∃ g', agr g' ∧ val g' = v' ∧ WI g' w2) :
    (Wt ∧ Kn ∧ ((∃ g' w', agr g' ∧ (execOp ρ o).run P w = .ok (.value (val g')) w' ∧ WI g' w') ∨ R1)) ∨ R2 := by
  obtain ⟨v', w2, hr, g1, g2, g3, g4⟩ := append_ent (P := P) w t o.type e inf z sz by' ht hi' hz hsz hby hzs h0 v k xs (hH.get i hi) ⟨bn, 0, none⟩ m cp news hl (fun q u hu => by
    rw [Addr.add_mid]
    exact hH.range j hj (by simpa using hnews) q u hu) h1 h63 hb
  obtain ⟨g', a1, a2, a3⟩ := h v' w2 (hH.change i hi g2.os g2.tape g2.output g2.size (fun q hq hne => g2.block q hq fun e => hne e.symm) ⟨g1.1, g1.2⟩ g4)
  exact .inl ⟨hw, hkn, .inl ⟨g', w2, a1, by rw [a2]; exact x_append (P := P) ho hx hy hr, a3⟩⟩
end
end Fw
end Go.Proofs.Ytmjnakhpekbenaa
