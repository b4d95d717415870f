/- What the proof of CacheHolds stands on, part 4 of 5. -/
import Derived.BigQuiet
import Derived.BigRegion
import Derived.CallsIn
import Derived.ChangeAlike
import Derived.ChangeArms
import Derived.ChangeKeysEq
import Derived.ChangeSlices
import Derived.Deep.AppendLies
import Derived.Deep.CutRange
import Derived.Deep.DeepCutAuto
import Derived.Deep.Heap
import Derived.Deep.LoopGhost
import Derived.Deep.Matrix
import Derived.Deep.MidRow
import Derived.Deep.QuietTactic
import Derived.Deep.Slices
import Derived.Great.BuildSlice
import Derived.Great.Walk
import Derived.Ground.Names2Prog
import Derived.Ground.SlgnProg
import Derived.Ground.SlsfProg
import Derived.Handy
import Derived.KernelRfl
import Derived.Laws.AppendOwn
import Derived.Laws.AppendOwnNone
import Derived.Laws.CopyRow
import Derived.Laws.Externs
import Derived.Laws.MakeOwn
import Derived.Laws.Rows
import Derived.Laws.StructEq
import Derived.Lib.AppendZerosOnto
import Derived.Lib.Overlaps
import Derived.Lib.QuietBelow
import Derived.Lib.SliceRun
import Derived.OpenShut
import Derived.Orders
import Derived.OrdersIn
import Derived.RangeFuncFrom
import Derived.RangeFuncLeaves
import Derived.RangeFuncWrites
import Derived.RegionTactic
import Derived.Shelf.SlSortCmp.HeapSortK
import Derived.Shelf.SlSortCmp.InsertionK
import Derived.Shelf.SlSortCmp.MedianK
import Derived.Shelf.SlSortCmp.NoneTotal
import Derived.Shelf.SlSortCmp.PartialInsertionK
import Derived.Shelf.SlSortCmp.PartitionEqualK
import Derived.Shelf.SlSortCmp.PartitionK
import Derived.Shelf.SlSortCmp.PdqK
import Derived.Shelf.SlSortCmp.PivotK
import Derived.Shelf.SlSortCmp.ReverseRangeK
import Derived.Shelf.SlSortCmp.SiftDownK
import Derived.Shelf.Slices.Cells
import Derived.Shelf.Slices.Clone
import Derived.Shelf.Slices.Delete
import Derived.Shelf.Slices.Empties
import Derived.Shelf.Slices.SearchI
import Derived.Shelf.Slices.Turned
import Derived.Shelf.SlicesE.Clone
import Derived.Shelf.SlicesE.Delete
import Derived.Shelf.SlicesQ.Reverse
import Derived.Shelf.Small.Bits
import Derived.Shelf.Small.Wraps
import Derived.Shelf.Strconv.Itoa0
import Derived.SizedLaws
import Derived.Sort.AssemblyPlain
import Derived.Still
import Derived.StillTail
import Derived.TacticsIn
import Derived.Test.YtmjnakhpekbenaaProg
import Derived.WalkKit
import Derived.WalkLawsBesides
import Derived.Test.YtmjnakhpekbenaaCacheHoldsC
set_option linter.unusedVariables false
set_option linter.unusedSimpArgs false
namespace Go.Proofs.Ytmjnakhpekbenaa
open Go.RowKit Fw
namespace Ec
/-- a list of instructions in memory -/
def InC (w : World) (p : Option Addr) (n : Nat) (c A B : Nat → Int) : Prop :=
  0 < n → ∃ bb oo, p = some ⟨bb, oo, none⟩ ∧ ∀ i, i < n → w.rangeAt bb (oo + i * 3) [.int .i64 (c i), .int .i64 (A i), .int .i64 (B i)]
theorem InC.below {w w' : World} {p : Option Addr} {n : Nat} {c A B : Nat → Int} (h : InC w p n c A B) (hb : Below w.heap.size w w') : InC w' p n c A B := fun h0 => by
  obtain ⟨bb, oo, hp, hr⟩ := h h0
  exact ⟨bb, oo, hp, fun i hi j v hv => by rw [hb.cell (World.block_lt_of_cell? w _ (hr i hi j v hv))]; exact hr i hi j v hv⟩
theorem own_form {w : World} {e k : Nat} {v : Value} {xs : List Value} (h : Ent.holds w (.own v k xs e 1)) : ∃ pv cp, v = .slice pv k cp ∧ cp ≤ 9223372036854775807 ∧ k ≤ cp ∧ (0 < k → ∃ g, pv = some ⟨g, 0, none⟩) := by
  have h2 : w.ownsRow 0 e 1 v k xs := h
  obtain ⟨hl, ⟨h0, h1⟩ | ⟨g, cap, cur, hv, hb, hg, hc, hm, hs, hx⟩⟩ := h2
  · subst h1; exact ⟨none, 0, h0, by omega, by omega, fun q => absurd q (by omega)⟩
  · exact ⟨some ⟨g, 0, none⟩, cap, hv, by unfold maxLen at hm; omega, hc, fun _ => ⟨g, rfl⟩⟩
end Ec
namespace Fw
open Ec
theorem HP.repl {S : Nat → Prop} {w0 w : World} {H : List Ent} (h : HP S w0 w H) (i : Nat) {e e' : Ent} (hi : H[i]? = some e) (hold : e'.holds w) (hb : e'.blk = e.blk) : HP S w0 w (H.set i e') :=
  h.change i hi rfl rfl rfl (Nat.le_refl _) (fun _ _ _ => rfl) hold (fun b q => .inl (by rw [← hb]; exact q))
end Fw
namespace Ec
theorem own_pop {w : World} {g k cap : Nat} {l : List Nat} (h : Ent.holds w (.own (.slice (some ⟨g, 0, none⟩) l.length cap) l.length (lI l) 3 1)) (hk : k = l.dropLast.length) : Ent.holds w (.own (.slice (some ⟨g, 0, none⟩) k cap) k (lI l.dropLast) 3 1) := by
  subst hk
  have h2 : w.ownsRow 0 3 1 (.slice (some ⟨g, 0, none⟩) l.length cap) l.length (lI l) := h
  obtain ⟨hl, ⟨h0, h1⟩ | ⟨g', cap', cur, hv, hb, hg, hc, hm, hs, hx⟩⟩ := h2
  · cases h0
  · cases hv
    refine ⟨by simp [lI], .inr ⟨g, cap, cur, rfl, hb, hg, by simp; omega, hm, hs, ?_⟩⟩
    have : (lI l).take (l.length - 1) = lI l.dropLast := by unfold lI; rw [List.dropLast_eq_take, List.map_take]
    rw [← this, ← hx, List.take_take, List.length_dropLast]
    congr 1; omega
theorem last_cell {l : List Nat} {x : Nat} (h : l.getLast? = some x) : (lI l)[l.length - 1]? = some (.int .i64 (x : Int)) := by
  unfold lI
  rw [List.getElem?_map, ← List.getLast?_eq_getElem?, h]; rfl
end Ec
namespace Fw
open Ec
theorem HP.addOwn {S : Nat → Prop} {w0 w : World} {H : List Ent} (h : HP S w0 w H) {v : Value} {k : Nat} {xs : List Value} {e s : Nat} (hb : v.ownBlock = none) (hown : w.ownsRow 0 e s v k xs) : HP S w0 w (H ++ [.own v k xs e s]) := by
  refine ⟨h.os, h.tape, h.output, h.size, h.keep, ?_, ?_, ?_⟩
  · intro x hx
    rcases List.mem_append.1 hx with hx | hx
    · exact h.hold x hx
    · simp at hx; subst hx; exact hown
  · intro x hx b hb'
    rcases List.mem_append.1 hx with hx | hx
    · exact h.fresh x hx b hb'
    · simp at hx; subst hx; simp only [Ent.blk, hb] at hb'; cases hb'
  · refine List.pairwise_append.2 ⟨h.apart, by simp, fun x hx y hy b hb1 hb2 => ?_⟩
    simp at hy; subst hy; simp only [Ent.blk, hb] at hb2; cases hb2
end Fw
namespace Ec
theorem last_of {l : List Nat} (h : 0 < l.length) : ∃ x, l.getLast? = some x := by
  cases hq : l.getLast? with
  | some x => exact ⟨x, rfl⟩
  | none => rw [List.getLast?_eq_none_iff] at hq; rw [hq] at h; cases h
theorem lay_o_top {k x : Nat} {s : Sh} (h : s.l.getLast? = some x) : (lay k s).o k = (x : Int) := by unfold lay upI top; simp [h]
theorem lay_o_some {k x : Nat} {s : Sh} (h : s.l.getLast? = some x) : upI (upI s.o k (-1)) k (x : Int) = (lay k s).o := by
  funext j; unfold lay upI top; simp only [h]; split <;> rfl
theorem lay_o_none {k : Nat} {s : Sh} (h : s.l.length = 0) : upI s.o k (-1) = (lay k s).o := by
  have : s.l = [] := List.length_eq_zero_iff.1 h
  funext j; unfold lay upI top; rw [this]; rfl
theorem stp_none_nil {c : Nat → Int} {k : Nat} {s : Sh} (hA : opn (c k) = false) (h : c k = 34 ∨ c k = 35) (hl : s.l.length = 0) : stp c k s = none := by
  have h0 : s.l = [] := List.length_eq_zero_iff.1 hl
  unfold stp
  simp only []
  rw [if_neg (by rw [hA]; exact Bool.false_ne_true), if_pos (by rcases h with h | h <;> rw [h] <;> rfl), h0]
  rfl
theorem stp_open {c : Nat → Int} {k : Nat} {s : Sh} (hA : opn (c k) = true) : stp c k s = some { lay k s with l := s.l ++ [k], m := max s.m (s.l.length + 1) } := by
  unfold stp; simp only []; rw [if_pos hA]
theorem stp_other {c : Nat → Int} {k : Nat} {s : Sh} (hA : opn (c k) = false) (h4 : ¬ c k = 34) (h5 : ¬ c k = 35) : stp c k s = some (lay k s) := by
  unfold stp; simp only []; rw [if_neg (by rw [hA]; exact Bool.false_ne_true), show (c k == 34) = false by simpa using h4, show (c k == 35) = false by simpa using h5]; rfl
theorem two_no {c : Nat → Int} {x : Nat} (h1 : ¬ c x = 29) (h2 : ¬ c x = 33) : two c x = false := by simp [two]; omega
theorem two_yes {c : Nat → Int} {x : Nat} (h1 : c x = 29 ∨ c x = 33) : two c x = true := by rcases h1 with h | h <;> simp [two, h]
theorem okS_yes {c : Nat → Int} {n : Nat} {s : Sh} (hs : shp c n = some s) (h1 : s.l.length = 0) (h2 : s.m ≤ 6) : okS c n = true := by
  unfold okS; rw [hs]; show (s.l.isEmpty && decide (s.m ≤ 6)) = true; rw [List.length_eq_zero_iff.1 h1]; simp [h2]
theorem okS_no {c : Nat → Int} {n : Nat} {s : Sh} (hs : shp c n = some s) (h : ¬ (s.l.length = 0 ∧ s.m ≤ 6)) : okS c n = false := by
  unfold okS; rw [hs]
  show (s.l.isEmpty && decide (s.m ≤ 6)) = false
  cases hl : s.l with
  | nil => simp [hl] at h ⊢; omega
  | cons x r => rfl
theorem makeI2 (n : Nat) (hn : n ≤ 400) (W : World) : (Instr.makeSlice 33 (.int .i64 (n : Int)) (.int .i64 (n : Int))).run Try.prog W = .ok (.slice (some ⟨W.heap.size, 0, none⟩) n n) (W.alloc (.cells (irow n (fun _ => 0)) 3)) := by
  have h := makeI n hn W
  unfold rowI at h
  rw [irow_made] at h
  exact h
theorem permIns (A B : List Ent) (e : Ent) : ((A ++ B) ++ [e]).Perm (A ++ ([e] ++ B)) := by
  rw [List.append_assoc]; exact List.Perm.append_left A (List.perm_append_comm)
/-- what shapeOf returns -/
def ResH (w : World) (c : Nat → Int) (n : Nat) (e : Ending) (w' : World) : Prop :=
  ∃ (g0 g1 g2 g3 : Nat) (m : Int) (s : Sh), e = .returned (.agg #[.slice (some ⟨g0, 0, none⟩) n n, .slice (some ⟨g1, 0, none⟩) n n, .slice (some ⟨g2, 0, none⟩) n n, .slice (some ⟨g3, 0, none⟩) n n, .int .i64 m, .bool (okS c n)]) ∧
    HP Tr w w' [.cel g0 (irow n s.o) 3, .cel g1 (irow n s.e) 3, .cel g2 (irow n s.d) 3, .cel g3 (irow n s.t) 3] ∧ (okS c n = true → shp c n = some s ∧ m = (s.m : Int))
theorem sz3 : (Try.prog.info? 3).map (·.size) = some 1 := by kernel_rfl
theorem sz4 : (Try.prog.info? 4).map (·.size) = some 1 := by kernel_rfl
theorem sz75 : (Try.prog.info? 75).map (·.size) = some 3 := by kernel_rfl
theorem sz116 : (Try.prog.info? 116).map (·.size) = some 6 := by kernel_rfl
set_option maxRecDepth 20000 in
set_option maxHeartbeats 4000000 in
theorem shapeH_any (p : Option Addr) (n cap : Nat) (c A B : Nat → Int) (w : World) (hIn : InC w p n c A B) (hn : n ≤ 400) :
    Calls Try.prog 109 #[.slice p n cap] w (ResH w c n) := by
  obtain ⟨i0, hi0, hz0, hz1, hz2⟩ := info_parts infoI
  refine calls_of Try.func109 rfl (m := 170) rfl [(0, .slice p n cap)] (Fr_enter [.slice p n cap] 170 (Nat.le_of_ble_eq_true rfl)) ?_
  have hH1 : HP Tr w w [] := HP.refl w
  refine WC.seq fun K2 hK2 => WC.region ?_
  refine WL.alloc (c := #[.slice none 0 0, .slice none 0 0, .slice none 0 0, .slice none 0 0, vI 0, .bool false]) (T := 116) hH1 2 rfl (by decide) rfl rfl (fun b1 => vP b1 0) (by kernel_rfl) (fun b1 w4 hw4 => ?_)
  have hH5 : HP Tr w w4 [.cel b1 #[.slice none 0 0, .slice none 0 0, .slice none 0 0, .slice none 0 0, vI 0, .bool false] 116] := hw4.2
  have nb1 := hw4.1
  clear hw4
  refine WL.nil (WQ.then (hK2 _ _ _ (WC.seq fun K6 hK6 => WC.region ?_)))
  refine WL.z (v := .slice p n cap) 10 ?_
  refine WL.z (v := vI (n : Int)) 11 ?_
  refine WL.z (v := vI (n : Int)) 3 ?_
  refine WL.nil (WQ.then (hK6 _ _ _ (WC.seq fun K7 hK7 => ?_)))
  refine WC.confG (γ := Nat → Nat) [(0, .slice p n cap), (2, vP b1 0), (3, vI (n : Int))] (fun g => [.int .i64 (n : Int), .slice (some ⟨g 1, 0, none⟩) n n, .int .i64 (n : Int), .slice (some ⟨g 3, 0, none⟩) n n, .int .i64 (n : Int), .slice (some ⟨g 5, 0, none⟩) n n, .int .i64 (n : Int), .slice (some ⟨g 7, 0, none⟩) n n, .agg #[.slice (some ⟨g 1, 0, none⟩) n n, .slice (some ⟨g 3, 0, none⟩) n n, .slice (some ⟨g 5, 0, none⟩) n n, .slice (some ⟨g 7, 0, none⟩) n n, .int .i64 0, .bool true], .pointer (some ⟨g 9, 0, none⟩), undef]) (fun g D w2 => HP Tr w w2 ([.cel b1 #[.slice none 0 0, .slice none 0 0, .slice none 0 0, .slice none 0 0, .int .i64 0, .bool false] 116] ++ ((bif D 1 then [Ent.cel (g 1) (irow n (fun _ => 0)) 3] else []) ++ ((bif D 3 then [Ent.cel (g 3) (irow n (fun _ => 0)) 3] else []) ++ ((bif D 5 then [Ent.cel (g 5) (irow n (fun _ => 0)) 3] else []) ++ ((bif D 7 then [Ent.cel (g 7) (irow n (fun _ => 0)) 3] else []) ++ (bif D 9 then [Ent.cel (g 9) (bif D 10 then #[.slice (some ⟨g 1, 0, none⟩) n n, .slice (some ⟨g 3, 0, none⟩) n n, .slice (some ⟨g 5, 0, none⟩) n n, .slice (some ⟨g 7, 0, none⟩) n n, .int .i64 0, .bool true] else #[.slice none 0 0, .slice none 0 0, .slice none 0 0, .slice none 0 0, .int .i64 0, .bool false]) 116] else []))))))) (fun _ => 0) (by kernel_rfl) ⟨rfl, rfl, rfl, trivial⟩ (by kernel_rfl) (by kernel_rfl) (by kernel_rfl) (fun _ => rfl) (by kernel_rfl) (HP.drew hH5) ?_ ?_
  · refine AllOk.cons ?o0 (AllOk.cons ?o1 (AllOk.cons ?o2 (AllOk.cons ?o3 (AllOk.cons ?o4 (AllOk.cons ?o5 (AllOk.cons ?o6 (AllOk.cons ?o7 (AllOk.cons ?o8 (AllOk.cons ?o9 (AllOk.cons ?o10 (AllOk.nil _)))))))))))
    case o0 =>
      intro g D w2 hDi hdep hclo hW
      exact .inl ⟨rfl, rfl, .inl ⟨g, w2, fun _ _ => rfl, by kernel_rfl, hW⟩⟩
    case o1 =>
      intro g D w2 hDi hdep hclo hW
      have h8 : D 8 = false := by
        cases h : D 8 with
        | false => rfl
        | true => exact absurd (hclo 8 _ rfl h ⟨1, .data⟩ (by simp) rfl) (by rw [hDi]; exact Bool.false_ne_true)
      have h10 : D 10 = false := by
        cases h : D 10 with
        | false => rfl
        | true => exact absurd (hclo 10 _ rfl h ⟨1, .phase⟩ (by simp) rfl) (by rw [hDi]; exact Bool.false_ne_true)
      refine .inl ⟨rfl, rfl, .inl ⟨fun j => if j = 1 then w2.heap.size else g j, _, fun j hj => ?_, x_makeR rfl rfl rfl (makeI2 n hn w2), ?_⟩⟩
      · match j, hj with
        | 0, _ => rfl
        | 1, hj => rw [hDi] at hj; cases hj
        | 2, _ => rfl
        | 3, _ => rfl
        | 4, _ => rfl
        | 5, _ => rfl
        | 6, _ => rfl
        | 7, _ => rfl
        | 8, hj => rw [h8] at hj; cases hj
        | 9, _ => rfl
        | 10, hj => rw [h10] at hj; cases hj
        | j + 11, _ => rfl
      · simp only [hDi, h10, cond_false] at hW
        have h4 := HP.alloc hW (irow n (fun _ => 0)) 3
        have h5 : HP Tr w (w2.alloc (.cells (irow n (fun _ => 0)) 3)) ([.cel b1 #[.slice none 0 0, .slice none 0 0, .slice none 0 0, .slice none 0 0, .int .i64 0, .bool false] 116] ++ ([Ent.cel w2.heap.size (irow n (fun _ => 0)) 3] ++ ((bif D 3 then [Ent.cel (g 3) (irow n (fun _ => 0)) 3] else []) ++ ((bif D 5 then [Ent.cel (g 5) (irow n (fun _ => 0)) 3] else []) ++ ((bif D 7 then [Ent.cel (g 7) (irow n (fun _ => 0)) 3] else []) ++ (bif D 9 then [Ent.cel (g 9) #[.slice none 0 0, .slice none 0 0, .slice none 0 0, .slice none 0 0, .int .i64 0, .bool false] 116] else [])))))) := HP.perm h4 (by
          have q := permIns ([.cel b1 #[.slice none 0 0, .slice none 0 0, .slice none 0 0, .slice none 0 0, .int .i64 0, .bool false] 116]) ((bif D 3 then [Ent.cel (g 3) (irow n (fun _ => 0)) 3] else []) ++ (bif D 5 then [Ent.cel (g 5) (irow n (fun _ => 0)) 3] else []) ++ (bif D 7 then [Ent.cel (g 7) (irow n (fun _ => 0)) 3] else []) ++ (bif D 9 then [Ent.cel (g 9) #[.slice none 0 0, .slice none 0 0, .slice none 0 0, .slice none 0 0, .int .i64 0, .bool false] 116] else [])) (Ent.cel w2.heap.size (irow n (fun _ => 0)) 3)
          simpa only [List.append_assoc, List.nil_append, List.append_nil, List.singleton_append, List.cons_append] using q)
        show HP Tr w _ ([.cel b1 #[.slice none 0 0, .slice none 0 0, .slice none 0 0, .slice none 0 0, .int .i64 0, .bool false] 116] ++ ([Ent.cel w2.heap.size (irow n (fun _ => 0)) 3] ++ ((bif D 3 then [Ent.cel (g 3) (irow n (fun _ => 0)) 3] else []) ++ ((bif D 5 then [Ent.cel (g 5) (irow n (fun _ => 0)) 3] else []) ++ ((bif D 7 then [Ent.cel (g 7) (irow n (fun _ => 0)) 3] else []) ++ (bif D 9 then [Ent.cel (g 9) (bif D 10 then #[.slice (some ⟨w2.heap.size, 0, none⟩) n n, .slice (some ⟨g 3, 0, none⟩) n n, .slice (some ⟨g 5, 0, none⟩) n n, .slice (some ⟨g 7, 0, none⟩) n n, .int .i64 0, .bool true] else #[.slice none 0 0, .slice none 0 0, .slice none 0 0, .slice none 0 0, .int .i64 0, .bool false]) 116] else []))))))
        rw [h10]
        exact h5
    case o2 =>
      intro g D w2 hDi hdep hclo hW
      exact .inl ⟨rfl, rfl, .inl ⟨g, w2, fun _ _ => rfl, by kernel_rfl, hW⟩⟩
    case o3 =>
      intro g D w2 hDi hdep hclo hW
      have h8 : D 8 = false := by
        cases h : D 8 with
        | false => rfl
        | true => exact absurd (hclo 8 _ rfl h ⟨3, .data⟩ (by simp) rfl) (by rw [hDi]; exact Bool.false_ne_true)
      have h10 : D 10 = false := by
        cases h : D 10 with
        | false => rfl
        | true => exact absurd (hclo 10 _ rfl h ⟨3, .phase⟩ (by simp) rfl) (by rw [hDi]; exact Bool.false_ne_true)
      refine .inl ⟨rfl, rfl, .inl ⟨fun j => if j = 3 then w2.heap.size else g j, _, fun j hj => ?_, x_makeR rfl rfl rfl (makeI2 n hn w2), ?_⟩⟩
      · match j, hj with
        | 0, _ => rfl
        | 1, _ => rfl
        | 2, _ => rfl
        | 3, hj => rw [hDi] at hj; cases hj
        | 4, _ => rfl
        | 5, _ => rfl
        | 6, _ => rfl
        | 7, _ => rfl
        | 8, hj => rw [h8] at hj; cases hj
        | 9, _ => rfl
        | 10, hj => rw [h10] at hj; cases hj
        | j + 11, _ => rfl
      · simp only [hDi, h10, cond_false] at hW
        have h4 := HP.alloc hW (irow n (fun _ => 0)) 3
        have h5 : HP Tr w (w2.alloc (.cells (irow n (fun _ => 0)) 3)) ([.cel b1 #[.slice none 0 0, .slice none 0 0, .slice none 0 0, .slice none 0 0, .int .i64 0, .bool false] 116] ++ ((bif D 1 then [Ent.cel (g 1) (irow n (fun _ => 0)) 3] else []) ++ ([Ent.cel w2.heap.size (irow n (fun _ => 0)) 3] ++ ((bif D 5 then [Ent.cel (g 5) (irow n (fun _ => 0)) 3] else []) ++ ((bif D 7 then [Ent.cel (g 7) (irow n (fun _ => 0)) 3] else []) ++ (bif D 9 then [Ent.cel (g 9) #[.slice none 0 0, .slice none 0 0, .slice none 0 0, .slice none 0 0, .int .i64 0, .bool false] 116] else [])))))) := HP.perm h4 (by
          have q := permIns ([.cel b1 #[.slice none 0 0, .slice none 0 0, .slice none 0 0, .slice none 0 0, .int .i64 0, .bool false] 116] ++ (bif D 1 then [Ent.cel (g 1) (irow n (fun _ => 0)) 3] else [])) ((bif D 5 then [Ent.cel (g 5) (irow n (fun _ => 0)) 3] else []) ++ (bif D 7 then [Ent.cel (g 7) (irow n (fun _ => 0)) 3] else []) ++ (bif D 9 then [Ent.cel (g 9) #[.slice none 0 0, .slice none 0 0, .slice none 0 0, .slice none 0 0, .int .i64 0, .bool false] 116] else [])) (Ent.cel w2.heap.size (irow n (fun _ => 0)) 3)
          simpa only [List.append_assoc, List.nil_append, List.append_nil, List.singleton_append, List.cons_append] using q)
        show HP Tr w _ ([.cel b1 #[.slice none 0 0, .slice none 0 0, .slice none 0 0, .slice none 0 0, .int .i64 0, .bool false] 116] ++ ((bif D 1 then [Ent.cel (g 1) (irow n (fun _ => 0)) 3] else []) ++ ([Ent.cel w2.heap.size (irow n (fun _ => 0)) 3] ++ ((bif D 5 then [Ent.cel (g 5) (irow n (fun _ => 0)) 3] else []) ++ ((bif D 7 then [Ent.cel (g 7) (irow n (fun _ => 0)) 3] else []) ++ (bif D 9 then [Ent.cel (g 9) (bif D 10 then #[.slice (some ⟨g 1, 0, none⟩) n n, .slice (some ⟨w2.heap.size, 0, none⟩) n n, .slice (some ⟨g 5, 0, none⟩) n n, .slice (some ⟨g 7, 0, none⟩) n n, .int .i64 0, .bool true] else #[.slice none 0 0, .slice none 0 0, .slice none 0 0, .slice none 0 0, .int .i64 0, .bool false]) 116] else []))))))
        rw [h10]
        exact h5
    case o4 =>
      intro g D w2 hDi hdep hclo hW
      exact .inl ⟨rfl, rfl, .inl ⟨g, w2, fun _ _ => rfl, by kernel_rfl, hW⟩⟩
    case o5 =>
      intro g D w2 hDi hdep hclo hW
      have h8 : D 8 = false := by
        cases h : D 8 with
        | false => rfl
        | true => exact absurd (hclo 8 _ rfl h ⟨5, .data⟩ (by simp) rfl) (by rw [hDi]; exact Bool.false_ne_true)
      have h10 : D 10 = false := by
        cases h : D 10 with
        | false => rfl
        | true => exact absurd (hclo 10 _ rfl h ⟨5, .phase⟩ (by simp) rfl) (by rw [hDi]; exact Bool.false_ne_true)
      refine .inl ⟨rfl, rfl, .inl ⟨fun j => if j = 5 then w2.heap.size else g j, _, fun j hj => ?_, x_makeR rfl rfl rfl (makeI2 n hn w2), ?_⟩⟩
      · match j, hj with
        | 0, _ => rfl
        | 1, _ => rfl
        | 2, _ => rfl
        | 3, _ => rfl
        | 4, _ => rfl
        | 5, hj => rw [hDi] at hj; cases hj
        | 6, _ => rfl
        | 7, _ => rfl
        | 8, hj => rw [h8] at hj; cases hj
        | 9, _ => rfl
        | 10, hj => rw [h10] at hj; cases hj
        | j + 11, _ => rfl
      · simp only [hDi, h10, cond_false] at hW
        have h4 := HP.alloc hW (irow n (fun _ => 0)) 3
        have h5 : HP Tr w (w2.alloc (.cells (irow n (fun _ => 0)) 3)) ([.cel b1 #[.slice none 0 0, .slice none 0 0, .slice none 0 0, .slice none 0 0, .int .i64 0, .bool false] 116] ++ ((bif D 1 then [Ent.cel (g 1) (irow n (fun _ => 0)) 3] else []) ++ ((bif D 3 then [Ent.cel (g 3) (irow n (fun _ => 0)) 3] else []) ++ ([Ent.cel w2.heap.size (irow n (fun _ => 0)) 3] ++ ((bif D 7 then [Ent.cel (g 7) (irow n (fun _ => 0)) 3] else []) ++ (bif D 9 then [Ent.cel (g 9) #[.slice none 0 0, .slice none 0 0, .slice none 0 0, .slice none 0 0, .int .i64 0, .bool false] 116] else [])))))) := HP.perm h4 (by
          have q := permIns ([.cel b1 #[.slice none 0 0, .slice none 0 0, .slice none 0 0, .slice none 0 0, .int .i64 0, .bool false] 116] ++ (bif D 1 then [Ent.cel (g 1) (irow n (fun _ => 0)) 3] else []) ++ (bif D 3 then [Ent.cel (g 3) (irow n (fun _ => 0)) 3] else [])) ((bif D 7 then [Ent.cel (g 7) (irow n (fun _ => 0)) 3] else []) ++ (bif D 9 then [Ent.cel (g 9) #[.slice none 0 0, .slice none 0 0, .slice none 0 0, .slice none 0 0, .int .i64 0, .bool false] 116] else [])) (Ent.cel w2.heap.size (irow n (fun _ => 0)) 3)
          simpa only [List.append_assoc, List.nil_append, List.append_nil, List.singleton_append, List.cons_append] using q)
        show HP Tr w _ ([.cel b1 #[.slice none 0 0, .slice none 0 0, .slice none 0 0, .slice none 0 0, .int .i64 0, .bool false] 116] ++ ((bif D 1 then [Ent.cel (g 1) (irow n (fun _ => 0)) 3] else []) ++ ((bif D 3 then [Ent.cel (g 3) (irow n (fun _ => 0)) 3] else []) ++ ([Ent.cel w2.heap.size (irow n (fun _ => 0)) 3] ++ ((bif D 7 then [Ent.cel (g 7) (irow n (fun _ => 0)) 3] else []) ++ (bif D 9 then [Ent.cel (g 9) (bif D 10 then #[.slice (some ⟨g 1, 0, none⟩) n n, .slice (some ⟨g 3, 0, none⟩) n n, .slice (some ⟨w2.heap.size, 0, none⟩) n n, .slice (some ⟨g 7, 0, none⟩) n n, .int .i64 0, .bool true] else #[.slice none 0 0, .slice none 0 0, .slice none 0 0, .slice none 0 0, .int .i64 0, .bool false]) 116] else []))))))
        rw [h10]
        exact h5
    case o6 =>
      intro g D w2 hDi hdep hclo hW
      exact .inl ⟨rfl, rfl, .inl ⟨g, w2, fun _ _ => rfl, by kernel_rfl, hW⟩⟩
    case o7 =>
      intro g D w2 hDi hdep hclo hW
      have h8 : D 8 = false := by
        cases h : D 8 with
        | false => rfl
        | true => exact absurd (hclo 8 _ rfl h ⟨7, .data⟩ (by simp) rfl) (by rw [hDi]; exact Bool.false_ne_true)
      have h10 : D 10 = false := by
        cases h : D 10 with
        | false => rfl
        | true => exact absurd (hclo 10 _ rfl h ⟨7, .phase⟩ (by simp) rfl) (by rw [hDi]; exact Bool.false_ne_true)
      refine .inl ⟨rfl, rfl, .inl ⟨fun j => if j = 7 then w2.heap.size else g j, _, fun j hj => ?_, x_makeR rfl rfl rfl (makeI2 n hn w2), ?_⟩⟩
      · match j, hj with
        | 0, _ => rfl
        | 1, _ => rfl
        | 2, _ => rfl
        | 3, _ => rfl
        | 4, _ => rfl
        | 5, _ => rfl
        | 6, _ => rfl
        | 7, hj => rw [hDi] at hj; cases hj
        | 8, hj => rw [h8] at hj; cases hj
        | 9, _ => rfl
        | 10, hj => rw [h10] at hj; cases hj
        | j + 11, _ => rfl
      · simp only [hDi, h10, cond_false] at hW
        have h4 := HP.alloc hW (irow n (fun _ => 0)) 3
        have h5 : HP Tr w (w2.alloc (.cells (irow n (fun _ => 0)) 3)) ([.cel b1 #[.slice none 0 0, .slice none 0 0, .slice none 0 0, .slice none 0 0, .int .i64 0, .bool false] 116] ++ ((bif D 1 then [Ent.cel (g 1) (irow n (fun _ => 0)) 3] else []) ++ ((bif D 3 then [Ent.cel (g 3) (irow n (fun _ => 0)) 3] else []) ++ ((bif D 5 then [Ent.cel (g 5) (irow n (fun _ => 0)) 3] else []) ++ ([Ent.cel w2.heap.size (irow n (fun _ => 0)) 3] ++ (bif D 9 then [Ent.cel (g 9) #[.slice none 0 0, .slice none 0 0, .slice none 0 0, .slice none 0 0, .int .i64 0, .bool false] 116] else [])))))) := HP.perm h4 (by
          have q := permIns ([.cel b1 #[.slice none 0 0, .slice none 0 0, .slice none 0 0, .slice none 0 0, .int .i64 0, .bool false] 116] ++ (bif D 1 then [Ent.cel (g 1) (irow n (fun _ => 0)) 3] else []) ++ (bif D 3 then [Ent.cel (g 3) (irow n (fun _ => 0)) 3] else []) ++ (bif D 5 then [Ent.cel (g 5) (irow n (fun _ => 0)) 3] else [])) ((bif D 9 then [Ent.cel (g 9) #[.slice none 0 0, .slice none 0 0, .slice none 0 0, .slice none 0 0, .int .i64 0, .bool false] 116] else [])) (Ent.cel w2.heap.size (irow n (fun _ => 0)) 3)
          simpa only [List.append_assoc, List.nil_append, List.append_nil, List.singleton_append, List.cons_append] using q)
        show HP Tr w _ ([.cel b1 #[.slice none 0 0, .slice none 0 0, .slice none 0 0, .slice none 0 0, .int .i64 0, .bool false] 116] ++ ((bif D 1 then [Ent.cel (g 1) (irow n (fun _ => 0)) 3] else []) ++ ((bif D 3 then [Ent.cel (g 3) (irow n (fun _ => 0)) 3] else []) ++ ((bif D 5 then [Ent.cel (g 5) (irow n (fun _ => 0)) 3] else []) ++ ([Ent.cel w2.heap.size (irow n (fun _ => 0)) 3] ++ (bif D 9 then [Ent.cel (g 9) (bif D 10 then #[.slice (some ⟨g 1, 0, none⟩) n n, .slice (some ⟨g 3, 0, none⟩) n n, .slice (some ⟨g 5, 0, none⟩) n n, .slice (some ⟨w2.heap.size, 0, none⟩) n n, .int .i64 0, .bool true] else #[.slice none 0 0, .slice none 0 0, .slice none 0 0, .slice none 0 0, .int .i64 0, .bool false]) 116] else []))))))
        rw [h10]
        exact h5
    case o8 =>
      intro g D w2 hDi hdep hclo hW
      exact .inl ⟨rfl, rfl, .inl ⟨g, w2, fun _ _ => rfl, by kernel_rfl, hW⟩⟩
    case o9 =>
      intro g D w2 hDi hdep hclo hW
      have h10 : D 10 = false := by
        cases h : D 10 with
        | false => rfl
        | true => exact absurd (hclo 10 _ rfl h ⟨9, .data⟩ (by simp) rfl) (by rw [hDi]; exact Bool.false_ne_true)
      refine .inl ⟨rfl, rfl, .inl ⟨fun j => if j = 9 then w2.heap.size else g j, w2.alloc (.cells #[.slice none 0 0, .slice none 0 0, .slice none 0 0, .slice none 0 0, .int .i64 0, .bool false] 116), fun j hj => ?_, by kernel_rfl, ?_⟩⟩
      · match j, hj with
        | 0, _ => rfl
        | 1, _ => rfl
        | 2, _ => rfl
        | 3, _ => rfl
        | 4, _ => rfl
        | 5, _ => rfl
        | 6, _ => rfl
        | 7, _ => rfl
        | 8, _ => rfl
        | 9, hj => rw [hDi] at hj; cases hj
        | 10, hj => rw [h10] at hj; cases hj
        | j + 11, _ => rfl
      · simp only [hDi, h10, cond_false] at hW
        have h4 := HP.alloc hW #[.slice none 0 0, .slice none 0 0, .slice none 0 0, .slice none 0 0, .int .i64 0, .bool false] 116
        have h5 : HP Tr w (w2.alloc (.cells #[.slice none 0 0, .slice none 0 0, .slice none 0 0, .slice none 0 0, .int .i64 0, .bool false] 116)) ([.cel b1 #[.slice none 0 0, .slice none 0 0, .slice none 0 0, .slice none 0 0, .int .i64 0, .bool false] 116] ++ ((bif D 1 then [Ent.cel (g 1) (irow n (fun _ => 0)) 3] else []) ++ ((bif D 3 then [Ent.cel (g 3) (irow n (fun _ => 0)) 3] else []) ++ ((bif D 5 then [Ent.cel (g 5) (irow n (fun _ => 0)) 3] else []) ++ ((bif D 7 then [Ent.cel (g 7) (irow n (fun _ => 0)) 3] else []) ++ [Ent.cel w2.heap.size #[.slice none 0 0, .slice none 0 0, .slice none 0 0, .slice none 0 0, .int .i64 0, .bool false] 116]))))) := HP.perm h4 (by
          have q := permIns ([.cel b1 #[.slice none 0 0, .slice none 0 0, .slice none 0 0, .slice none 0 0, .int .i64 0, .bool false] 116] ++ (bif D 1 then [Ent.cel (g 1) (irow n (fun _ => 0)) 3] else []) ++ (bif D 3 then [Ent.cel (g 3) (irow n (fun _ => 0)) 3] else []) ++ (bif D 5 then [Ent.cel (g 5) (irow n (fun _ => 0)) 3] else []) ++ (bif D 7 then [Ent.cel (g 7) (irow n (fun _ => 0)) 3] else [])) ([]) (Ent.cel w2.heap.size #[.slice none 0 0, .slice none 0 0, .slice none 0 0, .slice none 0 0, .int .i64 0, .bool false] 116)
          simpa only [List.append_assoc, List.nil_append, List.append_nil, List.singleton_append, List.cons_append] using q)
        have e10 : (bif D 10 then #[.slice (some ⟨g 1, 0, none⟩) n n, .slice (some ⟨g 3, 0, none⟩) n n, .slice (some ⟨g 5, 0, none⟩) n n, .slice (some ⟨g 7, 0, none⟩) n n, .int .i64 0, .bool true] else #[.slice none 0 0, .slice none 0 0, .slice none 0 0, .slice none 0 0, .int .i64 0, .bool false] : Array Value) = #[.slice none 0 0, .slice none 0 0, .slice none 0 0, .slice none 0 0, .int .i64 0, .bool false] := by rw [h10]; rfl
        show HP Tr w _ ([.cel b1 #[.slice none 0 0, .slice none 0 0, .slice none 0 0, .slice none 0 0, .int .i64 0, .bool false] 116] ++ ((bif D 1 then [Ent.cel (g 1) (irow n (fun _ => 0)) 3] else []) ++ ((bif D 3 then [Ent.cel (g 3) (irow n (fun _ => 0)) 3] else []) ++ ((bif D 5 then [Ent.cel (g 5) (irow n (fun _ => 0)) 3] else []) ++ ((bif D 7 then [Ent.cel (g 7) (irow n (fun _ => 0)) 3] else []) ++ [Ent.cel w2.heap.size (bif D 10 then #[.slice (some ⟨g 1, 0, none⟩) n n, .slice (some ⟨g 3, 0, none⟩) n n, .slice (some ⟨g 5, 0, none⟩) n n, .slice (some ⟨g 7, 0, none⟩) n n, .int .i64 0, .bool true] else #[.slice none 0 0, .slice none 0 0, .slice none 0 0, .slice none 0 0, .int .i64 0, .bool false]) 116])))))
        rw [e10]
        exact h5
    case o10 =>
      intro g D w2 hDi hdep hclo hW
      have d1 : D 1 = true := hdep ⟨1, .phase⟩ (by simp) rfl
      have d3 : D 3 = true := hdep ⟨3, .phase⟩ (by simp) rfl
      have d5 : D 5 = true := hdep ⟨5, .phase⟩ (by simp) rfl
      have d7 : D 7 = true := hdep ⟨7, .phase⟩ (by simp) rfl
      have d9 : D 9 = true := hdep ⟨9, .phase⟩ (by simp) rfl
      simp only [hDi, d1, d3, d5, d7, d9, cond_true, cond_false] at hW
      have h4 := HP.setCells (off := 0) 5 [.slice (some ⟨g 1, 0, none⟩) n n, .slice (some ⟨g 3, 0, none⟩) n n, .slice (some ⟨g 5, 0, none⟩) n n, .slice (some ⟨g 7, 0, none⟩) n n, .int .i64 0, .bool true] hW rfl
      refine .inl ⟨rfl, rfl, .inr (.inl ⟨_, x_storeS rfl rfl rfl sz116 rfl (fun j hj => ⟨by rw [HP.cell hW 5 (off := 0 + j) rfl (Array.getElem?_eq_getElem (by simpa using hj))]; rfl, HP.free hW 5 rfl⟩), rfl, ?_⟩)⟩
      show HP Tr w _ ([.cel b1 #[.slice none 0 0, .slice none 0 0, .slice none 0 0, .slice none 0 0, .int .i64 0, .bool false] 116] ++ ((bif D 1 then [Ent.cel (g 1) (irow n (fun _ => 0)) 3] else []) ++ ((bif D 3 then [Ent.cel (g 3) (irow n (fun _ => 0)) 3] else []) ++ ((bif D 5 then [Ent.cel (g 5) (irow n (fun _ => 0)) 3] else []) ++ ((bif D 7 then [Ent.cel (g 7) (irow n (fun _ => 0)) 3] else []) ++ (bif D 9 then [Ent.cel (g 9) #[.slice (some ⟨g 1, 0, none⟩) n n, .slice (some ⟨g 3, 0, none⟩) n n, .slice (some ⟨g 5, 0, none⟩) n n, .slice (some ⟨g 7, 0, none⟩) n n, .int .i64 0, .bool true] 116] else []))))))
      simp only [d1, d3, d5, d7, d9, cond_true]
      exact h4
  intro g D w2 hall hW
  simp only [hall 1 (by kernel_rfl), hall 3 (by kernel_rfl), hall 5 (by kernel_rfl), hall 7 (by kernel_rfl), hall 9 (by kernel_rfl), hall 10 (by kernel_rfl), cond_true] at hW
  clear hall
  obtain ⟨g0, g1, g2, g3, b, e0, e1, e2, e3, e4⟩ : ∃ g0 g1 g2 g3 b, g0 = g 1 ∧ g1 = g 3 ∧ g2 = g 5 ∧ g3 = g 7 ∧ b = g 9 := ⟨_, _, _, _, _, rfl, rfl, rfl, rfl, rfl⟩
  rw [← e0, ← e1, ← e2, ← e3, ← e4] at hW
  refine WQ.sub (l' := [(0, .slice p n cap), (2, vP b1 0), (3, vI (n : Int)), (4, vP b 0)]) ⟨rfl, rfl, rfl, by rw [e4]; rfl, trivial⟩ ?_
  clear e0 e1 e2 e3 e4
  have hH8 : HP Tr w _ [.cel b1 #[.slice none 0 0, .slice none 0 0, .slice none 0 0, .slice none 0 0, .int .i64 0, .bool false] 116, .cel g0 (irow n (fun _ => 0)) 3, .cel g1 (irow n (fun _ => 0)) 3, .cel g2 (irow n (fun _ => 0)) 3, .cel g3 (irow n (fun _ => 0)) 3, .cel b #[.slice (some ⟨g0, 0, none⟩) n n, .slice (some ⟨g1, 0, none⟩) n n, .slice (some ⟨g2, 0, none⟩) n n, .slice (some ⟨g3, 0, none⟩) n n, .int .i64 0, .bool true] 116] := hW
  refine WQ.then (hK7 _ _ _ (WC.seq fun K9 hK9 => WC.region ?_))
  refine WL.z (v := .slice none 0 0) 5 ?_
  refine WL.nil (WQ.then (hK9 _ _ _ (WC.seq fun K10 hK10 => WC.seq fun K11 hK11 => WC.region ?_)))
  refine WL.z (v := .slice p n cap) 21 ?_
  refine WL.z (v := vI (n : Int)) 22 ?_
  refine WL.z (v := vI 0) 23 ?_
  refine WL.nil (WQ.then (hK11 _ _ _ (WC.block ?_)))
  have hO := HP.addOwn hH8 (v := .slice none 0 0) (k := 0) (xs := []) (e := 3) (s := 1) rfl (World.ownsRow_nil _ _ _ _)
  refine WC.loop (fun kk0 ll0 ww0 => ∃ (k : Nat) (s : Sh) (v : Value), ll0 = [(0, .slice p n cap), (2, vP b1 0), (3, vI (n : Int)), (4, vP b 0), (5, v), (21, .slice p n cap), (22, vI (n : Int)), (23, vI (k : Int))] ∧ kk0 = n - k ∧ (k ≤ n) ∧ (shp c k = some s) ∧ HP Tr w ww0 [.cel b1 #[.slice none 0 0, .slice none 0 0, .slice none 0 0, .slice none 0 0, .int .i64 0, .bool false] 116, .cel g0 (irow n s.o) 3, .cel g1 (irow n s.e) 3, .cel g2 (irow n s.d) 3, .cel g3 (irow n s.t) 3, .cel b #[.slice (some ⟨g0, 0, none⟩) n n, .slice (some ⟨g1, 0, none⟩) n n, .slice (some ⟨g2, 0, none⟩) n n, .slice (some ⟨g3, 0, none⟩) n n, .int .i64 (s.m : Int), .bool true] 116, .own v s.l.length (Ec.lI s.l) 3 1]) (n) [(0, .slice p n cap), (2, vP b1 0), (3, vI (n : Int)), (4, vP b 0), (5, .slice none 0 0), (21, .slice p n cap), (22, vI (n : Int)), (23, vI 0)] ⟨rfl, rfl, rfl, rfl, rfl, rfl, rfl, rfl, trivial⟩ ⟨0, Ec.s0, .slice none 0 0, rfl, rfl, Nat.zero_le n, rfl, hO⟩ ?_
  rintro kk l w13 ⟨k, s, v, rfl, hkk, hk, hs, hH14⟩ K12 hK12
  obtain ⟨pv, cp, rfl, hcp, hlc, hpv⟩ := own_form (HP.get hH14 6 rfl)
  refine WC.seq fun K15 hK15 => WC.region ?_
  by_cases hlt : (k : Int) < (n : Int)
  ·
    refine WL.y (v := .bool true) 24 (x_lss rfl rfl rfl (dT (hlt))) ?_
    refine WL.nil (WQ.then (hK15 _ _ _ (WC.seq fun K16 hK16 => WC.yes rfl (WC.skip (WQ.then (hK16 _ _ _ ?_))))))
    refine WC.seq fun K17 hK17 => WC.block (WC.seq fun K18 hK18 => ?_)
    obtain ⟨bb, oo, rfl, hrow⟩ := hIn (by omega)
    refine WC.region ?_
    refine WL.z (v := vI (k : Int)) 25 ?_
    refine WL.y (v := vP bb (oo + k * 3)) 26 (x_idx (k) (oo + k * 3) rfl rfl rfl Try.underlying42 sz75 (by omega) (by omega) (by omega)) ?_
    refine WL.y (v := .agg #[vI (c k), vI (A k), vI (B k)]) 27 (x_loadS (cs := [.int .i64 (c k), .int .i64 (A k), .int .i64 (B k)]) rfl rfl Try.underlying75 rfl sz75 (HP.oldRange hH14 trivial (hrow k (by omega)))) ?_
    refine WL.alloc (c := #[vI 0, vI 0, vI 0]) (T := 75) hH14 7 rfl (by decide) rfl rfl (fun b19 => vP b19 0) (by kernel_rfl) (fun b19 w20 hw20 => ?_)
    have hH21 : HP Tr w w20 [.cel b1 #[.slice none 0 0, .slice none 0 0, .slice none 0 0, .slice none 0 0, .int .i64 0, .bool false] 116, .cel g0 (irow n s.o) 3, .cel g1 (irow n s.e) 3, .cel g2 (irow n s.d) 3, .cel g3 (irow n s.t) 3, .cel b #[.slice (some ⟨g0, 0, none⟩) n n, .slice (some ⟨g1, 0, none⟩) n n, .slice (some ⟨g2, 0, none⟩) n n, .slice (some ⟨g3, 0, none⟩) n n, .int .i64 (s.m : Int), .bool true] 116, .own (.slice pv s.l.length cp) s.l.length (Ec.lI s.l) 3 1, .cel b19 #[vI 0, vI 0, vI 0] 75] := hw20.2
    have nb19 := hw20.1
    clear hw20
    refine WL.z (v := vI (k : Int)) 6 ?_
    refine WL.storeS (H2 := [.cel b1 #[.slice none 0 0, .slice none 0 0, .slice none 0 0, .slice none 0 0, .int .i64 0, .bool false] 116, .cel g0 (irow n s.o) 3, .cel g1 (irow n s.e) 3, .cel g2 (irow n s.d) 3, .cel g3 (irow n s.t) 3, .cel b #[.slice (some ⟨g0, 0, none⟩) n n, .slice (some ⟨g1, 0, none⟩) n n, .slice (some ⟨g2, 0, none⟩) n n, .slice (some ⟨g3, 0, none⟩) n n, .int .i64 (s.m : Int), .bool true] 116, .own (.slice pv s.l.length cp) s.l.length (Ec.lI s.l) 3 1, .cel b19 #[vI (c k), vI (A k), vI (B k)] 75]) 7 hH21 rfl rfl rfl rfl rfl rfl sz75 rfl (Nat.le_of_ble_eq_true rfl) rfl rfl ?_
    intro w22 hH23
    refine WL.nil (WQ.then (hK18 _ _ _ (WC.seq fun K24 hK24 => ?_)))
    refine WC.confG (γ := Unit) [(6, vI (k : Int)), (7, vP b19 0), (27, .agg #[vI (c k), vI (A k), vI (B k)]), (26, vP bb (oo + k * 3)), (25, vI (k : Int)), (24, .bool true), (0, .slice (some ⟨bb, oo, none⟩) n cap), (2, vP b1 0), (3, vI (n : Int)), (4, vP b 0), (5, .slice pv s.l.length cp), (21, .slice (some ⟨bb, oo, none⟩) n cap), (22, vI (n : Int)), (23, vI (k : Int))] (fun _ => [vP b 0, vS g0 n n, vI (k : Int), vP b 1, vS g1 n n, vI (k : Int), vP b 2, vS g2 n n, vI (k : Int), vP b 3, vS g3 n n, vI (k : Int), .slice pv s.l.length cp, vI (s.l.length : Int), vP g0 k, undef, vP g1 k, undef, vP g2 k, undef, vP g3 k, undef]) (fun _ D wz => HP Tr w wz [.cel b1 #[.slice none 0 0, .slice none 0 0, .slice none 0 0, .slice none 0 0, .int .i64 0, .bool false] 116, (bif D 15 then Ent.cel g0 (irow n (upI s.o k (-1))) 3 else Ent.cel g0 (irow n s.o) 3), (bif D 17 then Ent.cel g1 (irow n (upI s.e k (-1))) 3 else Ent.cel g1 (irow n s.e) 3), (bif D 19 then Ent.cel g2 (irow n (upI s.d k (-1))) 3 else Ent.cel g2 (irow n s.d) 3), (bif D 21 then Ent.cel g3 (irow n (upI s.t k (s.l.length : Int))) 3 else Ent.cel g3 (irow n s.t) 3), .cel b #[.slice (some ⟨g0, 0, none⟩) n n, .slice (some ⟨g1, 0, none⟩) n n, .slice (some ⟨g2, 0, none⟩) n n, .slice (some ⟨g3, 0, none⟩) n n, .int .i64 (s.m : Int), .bool true] 116, .own (.slice pv s.l.length cp) s.l.length (Ec.lI s.l) 3 1, .cel b19 #[vI (c k), vI (A k), vI (B k)] 75]) () (by kernel_rfl) ⟨rfl, rfl, rfl, rfl, rfl, rfl, rfl, rfl, rfl, rfl, rfl, rfl, rfl, rfl, trivial⟩ (by kernel_rfl) (by kernel_rfl) (by kernel_rfl) (fun _ => rfl) (by kernel_rfl) (HP.drew hH23) ?_ ?_
    · refine AllOk.cons ?o0 (AllOk.cons ?o1 (AllOk.cons ?o2 (AllOk.cons ?o3 (AllOk.cons ?o4 (AllOk.cons ?o5 (AllOk.cons ?o6 (AllOk.cons ?o7 (AllOk.cons ?o8 (AllOk.cons ?o9 (AllOk.cons ?o10 (AllOk.cons ?o11 (AllOk.cons ?o12 (AllOk.cons ?o13 (AllOk.cons ?o14 (AllOk.cons ?o15 (AllOk.cons ?o16 (AllOk.cons ?o17 (AllOk.cons ?o18 (AllOk.cons ?o19 (AllOk.cons ?o20 (AllOk.cons ?o21 (AllOk.nil _))))))))))))))))))))))
      case o0 =>
        intro g D wz hDi hdep hclo hW
        exact .inl ⟨rfl, rfl, .inl ⟨g, wz, fun _ _ => rfl, by kernel_rfl, hW⟩⟩
      case o1 =>
        intro g D wz hDi hdep hclo hW
        exact .inl ⟨rfl, rfl, .inl ⟨g, wz, fun _ _ => rfl, x_load rfl rfl Try.underlying33 rfl (HP.cell hW 5 rfl rfl), hW⟩⟩
      case o2 =>
        intro g D wz hDi hdep hclo hW
        exact .inl ⟨rfl, rfl, .inl ⟨g, wz, fun _ _ => rfl, by kernel_rfl, hW⟩⟩
      case o3 =>
        intro g D wz hDi hdep hclo hW
        exact .inl ⟨rfl, rfl, .inl ⟨g, wz, fun _ _ => rfl, by kernel_rfl, hW⟩⟩
      case o4 =>
        intro g D wz hDi hdep hclo hW
        exact .inl ⟨rfl, rfl, .inl ⟨g, wz, fun _ _ => rfl, x_load rfl rfl Try.underlying33 rfl (HP.cell hW 5 rfl rfl), hW⟩⟩
      case o5 =>
        intro g D wz hDi hdep hclo hW
        exact .inl ⟨rfl, rfl, .inl ⟨g, wz, fun _ _ => rfl, by kernel_rfl, hW⟩⟩
      case o6 =>
        intro g D wz hDi hdep hclo hW
        exact .inl ⟨rfl, rfl, .inl ⟨g, wz, fun _ _ => rfl, by kernel_rfl, hW⟩⟩
      case o7 =>
        intro g D wz hDi hdep hclo hW
        exact .inl ⟨rfl, rfl, .inl ⟨g, wz, fun _ _ => rfl, x_load rfl rfl Try.underlying33 rfl (HP.cell hW 5 rfl rfl), hW⟩⟩
      case o8 =>
        intro g D wz hDi hdep hclo hW
        exact .inl ⟨rfl, rfl, .inl ⟨g, wz, fun _ _ => rfl, by kernel_rfl, hW⟩⟩
      case o9 =>
        intro g D wz hDi hdep hclo hW
        exact .inl ⟨rfl, rfl, .inl ⟨g, wz, fun _ _ => rfl, by kernel_rfl, hW⟩⟩
      case o10 =>
        intro g D wz hDi hdep hclo hW
        exact .inl ⟨rfl, rfl, .inl ⟨g, wz, fun _ _ => rfl, x_load rfl rfl Try.underlying33 rfl (HP.cell hW 5 rfl rfl), hW⟩⟩
      case o11 =>
        intro g D wz hDi hdep hclo hW
        exact .inl ⟨rfl, rfl, .inl ⟨g, wz, fun _ _ => rfl, by kernel_rfl, hW⟩⟩
      case o12 =>
        intro g D wz hDi hdep hclo hW
        exact .inl ⟨rfl, rfl, .inl ⟨g, wz, fun _ _ => rfl, by kernel_rfl, hW⟩⟩
      case o13 =>
        intro g D wz hDi hdep hclo hW
        exact .inl ⟨rfl, rfl, .inl ⟨g, wz, fun _ _ => rfl, by kernel_rfl, hW⟩⟩
      case o14 =>
        intro g D wz hDi hdep hclo hW
        exact .inl ⟨rfl, rfl, .inl ⟨g, wz, fun _ _ => rfl, x_idx (k) (k) rfl rfl rfl Try.underlying33 sz3 (by omega) (by omega) (by omega), hW⟩⟩
      case o15 =>
        intro g D wz hDi hdep hclo hW
        simp only [hDi, cond_false] at hW
        have h3 : HP Tr w (wz.setCell ⟨g0, k, none⟩ (vI (-1))) [.cel b1 #[.slice none 0 0, .slice none 0 0, .slice none 0 0, .slice none 0 0, .int .i64 0, .bool false] 116, .cel g0 (irow n (upI s.o k (-1))) 3, (bif D 17 then Ent.cel g1 (irow n (upI s.e k (-1))) 3 else Ent.cel g1 (irow n s.e) 3), (bif D 19 then Ent.cel g2 (irow n (upI s.d k (-1))) 3 else Ent.cel g2 (irow n s.d) 3), (bif D 21 then Ent.cel g3 (irow n (upI s.t k (s.l.length : Int))) 3 else Ent.cel g3 (irow n s.t) 3), .cel b #[.slice (some ⟨g0, 0, none⟩) n n, .slice (some ⟨g1, 0, none⟩) n n, .slice (some ⟨g2, 0, none⟩) n n, .slice (some ⟨g3, 0, none⟩) n n, .int .i64 (s.m : Int), .bool true] 116, .own (.slice pv s.l.length cp) s.l.length (Ec.lI s.l) 3 1, .cel b19 #[vI (c k), vI (A k), vI (B k)] 75] := by have h4 := HP.set (off := k) (v := vI (-1)) hW 1 rfl; rw [irow_set] at h4; exact h4
        exact .inl ⟨rfl, rfl, .inr (.inl ⟨_, x_store rfl rfl rfl sz3 rfl (HP.cell hW 1 rfl (irow_get (by omega) rfl)) (HP.free hW 1 rfl), rfl, h3⟩)⟩
      case o16 =>
        intro g D wz hDi hdep hclo hW
        exact .inl ⟨rfl, rfl, .inl ⟨g, wz, fun _ _ => rfl, x_idx (k) (k) rfl rfl rfl Try.underlying33 sz3 (by omega) (by omega) (by omega), hW⟩⟩
      case o17 =>
        intro g D wz hDi hdep hclo hW
        simp only [hDi, cond_false] at hW
        have h3 : HP Tr w (wz.setCell ⟨g1, k, none⟩ (vI (-1))) [.cel b1 #[.slice none 0 0, .slice none 0 0, .slice none 0 0, .slice none 0 0, .int .i64 0, .bool false] 116, (bif D 15 then Ent.cel g0 (irow n (upI s.o k (-1))) 3 else Ent.cel g0 (irow n s.o) 3), .cel g1 (irow n (upI s.e k (-1))) 3, (bif D 19 then Ent.cel g2 (irow n (upI s.d k (-1))) 3 else Ent.cel g2 (irow n s.d) 3), (bif D 21 then Ent.cel g3 (irow n (upI s.t k (s.l.length : Int))) 3 else Ent.cel g3 (irow n s.t) 3), .cel b #[.slice (some ⟨g0, 0, none⟩) n n, .slice (some ⟨g1, 0, none⟩) n n, .slice (some ⟨g2, 0, none⟩) n n, .slice (some ⟨g3, 0, none⟩) n n, .int .i64 (s.m : Int), .bool true] 116, .own (.slice pv s.l.length cp) s.l.length (Ec.lI s.l) 3 1, .cel b19 #[vI (c k), vI (A k), vI (B k)] 75] := by have h4 := HP.set (off := k) (v := vI (-1)) hW 2 rfl; rw [irow_set] at h4; exact h4
        exact .inl ⟨rfl, rfl, .inr (.inl ⟨_, x_store rfl rfl rfl sz3 rfl (HP.cell hW 2 rfl (irow_get (by omega) rfl)) (HP.free hW 2 rfl), rfl, h3⟩)⟩
      case o18 =>
        intro g D wz hDi hdep hclo hW
        exact .inl ⟨rfl, rfl, .inl ⟨g, wz, fun _ _ => rfl, x_idx (k) (k) rfl rfl rfl Try.underlying33 sz3 (by omega) (by omega) (by omega), hW⟩⟩
      case o19 =>
        intro g D wz hDi hdep hclo hW
        simp only [hDi, cond_false] at hW
        have h3 : HP Tr w (wz.setCell ⟨g2, k, none⟩ (vI (-1))) [.cel b1 #[.slice none 0 0, .slice none 0 0, .slice none 0 0, .slice none 0 0, .int .i64 0, .bool false] 116, (bif D 15 then Ent.cel g0 (irow n (upI s.o k (-1))) 3 else Ent.cel g0 (irow n s.o) 3), (bif D 17 then Ent.cel g1 (irow n (upI s.e k (-1))) 3 else Ent.cel g1 (irow n s.e) 3), .cel g2 (irow n (upI s.d k (-1))) 3, (bif D 21 then Ent.cel g3 (irow n (upI s.t k (s.l.length : Int))) 3 else Ent.cel g3 (irow n s.t) 3), .cel b #[.slice (some ⟨g0, 0, none⟩) n n, .slice (some ⟨g1, 0, none⟩) n n, .slice (some ⟨g2, 0, none⟩) n n, .slice (some ⟨g3, 0, none⟩) n n, .int .i64 (s.m : Int), .bool true] 116, .own (.slice pv s.l.length cp) s.l.length (Ec.lI s.l) 3 1, .cel b19 #[vI (c k), vI (A k), vI (B k)] 75] := by have h4 := HP.set (off := k) (v := vI (-1)) hW 3 rfl; rw [irow_set] at h4; exact h4
        exact .inl ⟨rfl, rfl, .inr (.inl ⟨_, x_store rfl rfl rfl sz3 rfl (HP.cell hW 3 rfl (irow_get (by omega) rfl)) (HP.free hW 3 rfl), rfl, h3⟩)⟩
      case o20 =>
        intro g D wz hDi hdep hclo hW
        exact .inl ⟨rfl, rfl, .inl ⟨g, wz, fun _ _ => rfl, x_idx (k) (k) rfl rfl rfl Try.underlying33 sz3 (by omega) (by omega) (by omega), hW⟩⟩
      case o21 =>
        intro g D wz hDi hdep hclo hW
        simp only [hDi, cond_false] at hW
        have h3 : HP Tr w (wz.setCell ⟨g3, k, none⟩ (vI (s.l.length : Int))) [.cel b1 #[.slice none 0 0, .slice none 0 0, .slice none 0 0, .slice none 0 0, .int .i64 0, .bool false] 116, (bif D 15 then Ent.cel g0 (irow n (upI s.o k (-1))) 3 else Ent.cel g0 (irow n s.o) 3), (bif D 17 then Ent.cel g1 (irow n (upI s.e k (-1))) 3 else Ent.cel g1 (irow n s.e) 3), (bif D 19 then Ent.cel g2 (irow n (upI s.d k (-1))) 3 else Ent.cel g2 (irow n s.d) 3), .cel g3 (irow n (upI s.t k (s.l.length : Int))) 3, .cel b #[.slice (some ⟨g0, 0, none⟩) n n, .slice (some ⟨g1, 0, none⟩) n n, .slice (some ⟨g2, 0, none⟩) n n, .slice (some ⟨g3, 0, none⟩) n n, .int .i64 (s.m : Int), .bool true] 116, .own (.slice pv s.l.length cp) s.l.length (Ec.lI s.l) 3 1, .cel b19 #[vI (c k), vI (A k), vI (B k)] 75] := by have h4 := HP.set (off := k) (v := vI (s.l.length : Int)) hW 4 rfl; rw [irow_set] at h4; exact h4
        exact .inl ⟨rfl, rfl, .inr (.inl ⟨_, x_store rfl rfl rfl sz3 rfl (HP.cell hW 4 rfl (irow_get (by omega) rfl)) (HP.free hW 4 rfl), rfl, h3⟩)⟩
    intro g D w25 hall hH26
    simp only [hall 15 (by kernel_rfl), hall 17 (by kernel_rfl), hall 19 (by kernel_rfl), hall 21 (by kernel_rfl), cond_true] at hH26
    clear hall
    refine WQ.sub (l' := [(0, .slice (some ⟨bb, oo, none⟩) n cap), (2, vP b1 0), (3, vI (n : Int)), (4, vP b 0), (5, .slice pv s.l.length cp), (6, vI (k : Int)), (7, vP b19 0), (21, .slice (some ⟨bb, oo, none⟩) n cap), (22, vI (n : Int)), (23, vI (k : Int)), (24, .bool true)]) ⟨rfl, rfl, rfl, rfl, rfl, rfl, rfl, rfl, rfl, rfl, rfl, trivial⟩ ?_
    refine WQ.then (hK24 _ _ _ ?_)
    refine WC.cut (fun l w2 => l = [(0, .slice (some ⟨bb, oo, none⟩) n cap), (2, vP b1 0), (3, vI (n : Int)), (4, vP b 0), (5, .slice pv s.l.length cp), (6, vI (k : Int)), (7, vP b19 0), (21, .slice (some ⟨bb, oo, none⟩) n cap), (22, vI (n : Int)), (23, vI (k : Int)), (24, .bool true)] ∧ HP Tr w w2 [.cel b1 #[.slice none 0 0, .slice none 0 0, .slice none 0 0, .slice none 0 0, .int .i64 0, .bool false] 116, .cel g0 (irow n (Ec.lay k s).o) 3, .cel g1 (irow n (upI s.e k (-1))) 3, .cel g2 (irow n (upI s.d k (-1))) 3, .cel g3 (irow n (upI s.t k (s.l.length : Int))) 3, .cel b #[.slice (some ⟨g0, 0, none⟩) n n, .slice (some ⟨g1, 0, none⟩) n n, .slice (some ⟨g2, 0, none⟩) n n, .slice (some ⟨g3, 0, none⟩) n n, .int .i64 (s.m : Int), .bool true] 116, .own (.slice pv s.l.length cp) s.l.length (Ec.lI s.l) 3 1, .cel b19 #[vI (c k), vI (A k), vI (B k)] 75]) ?_ ?_
    ·
      refine WC.seq fun K27 hK27 => WC.region ?_
      refine WL.z (v := .slice pv s.l.length cp) 46 ?_
      refine WL.z (v := vI (s.l.length : Int)) 47 ?_
      by_cases h0 : (0 : Int) < (s.l.length : Int)
      ·
        refine WL.y (v := .bool true) 48 (x_gtr rfl rfl rfl (dT (h0))) ?_
        refine WL.nil (WQ.then (hK27 _ _ _ (WC.yes rfl ?_)))
        obtain ⟨g, rfl⟩ := hpv (by omega)
        obtain ⟨x, hx⟩ := last_of (l := s.l) (by omega)
        have hxk := (shp_lt k s hs).1 x (List.mem_of_getLast? hx)
        refine WC.stillTail 10 (by kernel_rfl) (by kernel_rfl) ?_
        have hH28 : HP Tr w _ [.cel b1 #[.slice none 0 0, .slice none 0 0, .slice none 0 0, .slice none 0 0, .int .i64 0, .bool false] 116, .cel g0 (irow n (upI s.o k (-1))) 3, .cel g1 (irow n (upI s.e k (-1))) 3, .cel g2 (irow n (upI s.d k (-1))) 3, .cel g3 (irow n (upI s.t k (s.l.length : Int))) 3, .cel b #[.slice (some ⟨g0, 0, none⟩) n n, .slice (some ⟨g1, 0, none⟩) n n, .slice (some ⟨g2, 0, none⟩) n n, .slice (some ⟨g3, 0, none⟩) n n, .int .i64 (s.m : Int), .bool true] 116, .own (.slice (some ⟨g, 0, none⟩) s.l.length cp) s.l.length (Ec.lI s.l) 3 1, .cel b19 #[vI (c k), vI (A k), vI (B k)] 75] := HP.drew hH26
        refine WS.z (v := vP b 0) 49 ?_
        refine WS.y (v := vS g0 n n) 50 (x_load rfl rfl Try.underlying33 rfl (HP.cell hH28 5 rfl rfl)) ?_
        refine WS.z (v := vI (k : Int)) 51 ?_
        refine WS.z (v := vS g s.l.length cp) 52 ?_
        refine WS.z (v := vS g s.l.length cp) 53 ?_
        refine WS.z (v := vI (s.l.length : Int)) 54 ?_
        refine WS.y (v := vI ((s.l.length - 1 : Nat) : Int)) 55 (x_sub (Z := ((s.l.length - 1 : Nat) : Int)) rfl rfl rfl (by omega) (by omega) (by omega)) ?_
        refine WS.y (v := vP g (s.l.length - 1)) 56 (x_idx (s.l.length - 1) (s.l.length - 1) rfl rfl rfl Try.underlying33 sz3 (by omega) (by omega) (by omega)) ?_
        refine WS.y (v := vI (x : Int)) 57 (x_load rfl rfl Try.underlying3 rfl (HP.ownCell hH28 6 rfl (last_cell hx))) ?_
        refine WS.y (v := vP g0 k) 58 (x_idx (k) (k) rfl rfl rfl Try.underlying33 sz3 (by omega) (by omega) (by omega)) ?_
        refine WS.nilL ?_
        refine WL.store (H2 := [.cel b1 #[.slice none 0 0, .slice none 0 0, .slice none 0 0, .slice none 0 0, .int .i64 0, .bool false] 116, .cel g0 (irow n (upI (upI s.o k (-1)) k (x : Int))) 3, .cel g1 (irow n (upI s.e k (-1))) 3, .cel g2 (irow n (upI s.d k (-1))) 3, .cel g3 (irow n (upI s.t k (s.l.length : Int))) 3, .cel b #[.slice (some ⟨g0, 0, none⟩) n n, .slice (some ⟨g1, 0, none⟩) n n, .slice (some ⟨g2, 0, none⟩) n n, .slice (some ⟨g3, 0, none⟩) n n, .int .i64 (s.m : Int), .bool true] 116, .own (.slice (some ⟨g, 0, none⟩) s.l.length cp) s.l.length (Ec.lI s.l) 3 1, .cel b19 #[vI (c k), vI (A k), vI (B k)] 75]) 1 hH28 rfl rfl rfl rfl rfl rfl sz3 rfl (by simp [size_irow]; omega) (irow_set _ _ _ _) rfl ?_
        intro w29 hH30
        refine WL.nil ?_
        refine WQ.sub (l' := [(0, .slice (some ⟨bb, oo, none⟩) n cap), (2, vP b1 0), (3, vI (n : Int)), (4, vP b 0), (5, vS g s.l.length cp), (6, vI (k : Int)), (7, vP b19 0), (21, .slice (some ⟨bb, oo, none⟩) n cap), (22, vI (n : Int)), (23, vI (k : Int)), (24, .bool true)]) ⟨rfl, rfl, rfl, rfl, rfl, rfl, rfl, rfl, rfl, rfl, rfl, trivial⟩ ?_
        refine WQ.cut ⟨rfl, ?_⟩
        rw [← lay_o_some hx]
        exact hH30
      ·
        refine WL.y (v := .bool false) 48 (x_gtr rfl rfl rfl (dF (h0))) ?_
        refine WL.nil (WQ.then (hK27 _ _ _ (WC.no rfl (WC.skip ?_))))
        refine WQ.sub (l' := [(0, .slice (some ⟨bb, oo, none⟩) n cap), (2, vP b1 0), (3, vI (n : Int)), (4, vP b 0), (5, .slice pv s.l.length cp), (6, vI (k : Int)), (7, vP b19 0), (21, .slice (some ⟨bb, oo, none⟩) n cap), (22, vI (n : Int)), (23, vI (k : Int)), (24, .bool true)]) ⟨rfl, rfl, rfl, rfl, rfl, rfl, rfl, rfl, rfl, rfl, rfl, trivial⟩ ?_
        refine WQ.cut ⟨rfl, ?_⟩
        rw [← lay_o_none (k := k) (s := s) (by omega)]
        exact hH26
    ·
      rintro l w31 ⟨rfl, hH32⟩
      refine WC.block (WC.seq fun K33 hK33 => WC.region ?_)
      refine WL.z (v := vP b19 0) 60 ?_
      refine WL.y (v := vI (c k)) 61 (x_load rfl rfl Try.underlying3 rfl (HP.cell hH32 7 rfl rfl)) ?_
      refine WL.call (f := 74) (args := #[vI (c k)]) 62 rfl (Nat.le_of_ble_eq_true rfl) rfl rfl (by kernel_rfl) ?_
      refine (Opens_any _ _).mono ?_
      rintro e w34 ⟨rfl, rfl⟩
      refine ⟨_, rfl, ?_⟩
      refine WL.z (v := .bool (opn (c k))) 59 ?_
      refine WL.nil (WQ.then (hK33 _ _ _ ?_))
      rcases Bool.eq_false_or_eq_true (opn (c k)) with hA | hA
      ·
        refine WC.yes (congrArg (fun b => some (Value.bool b)) hA) ?_
        refine WC.seq fun K35 hK35 => WC.region ?_
        refine WL.z (v := .slice pv s.l.length cp) 63 ?_
        refine WL.z (v := vI (k : Int)) 64 ?_
        refine WL.alloc (c := #[vI (k : Int)]) (T := 3) hH32 65 rfl (by decide) rfl rfl (fun b36 => vS b36 1 1) (by kernel_rfl) (fun b36 w37 hw37 => ?_)
        have hH38 : HP Tr w w37 [.cel b1 #[.slice none 0 0, .slice none 0 0, .slice none 0 0, .slice none 0 0, .int .i64 0, .bool false] 116, .cel g0 (irow n (Ec.lay k s).o) 3, .cel g1 (irow n (upI s.e k (-1))) 3, .cel g2 (irow n (upI s.d k (-1))) 3, .cel g3 (irow n (upI s.t k (s.l.length : Int))) 3, .cel b #[.slice (some ⟨g0, 0, none⟩) n n, .slice (some ⟨g1, 0, none⟩) n n, .slice (some ⟨g2, 0, none⟩) n n, .slice (some ⟨g3, 0, none⟩) n n, .int .i64 (s.m : Int), .bool true] 116, .own (.slice pv s.l.length cp) s.l.length (Ec.lI s.l) 3 1, .cel b19 #[vI (c k), vI (A k), vI (B k)] 75, .cel b36 #[vI (k : Int)] 3] := hw37.2
        have nb36 := hw37.1
        clear hw37
        refine WL.append (news := [vI (k : Int)]) 6 8 hH38 66 rfl (by decide) rfl rfl rfl rfl Try.underlying33 hi0 hz0 hz1 hz2 rfl (by decide) rfl rfl rfl rfl (by simp [Value.oneCell']) (by have := (shp_lt k s hs).2.1; unfold maxLen; omega) (by have := (shp_lt k s hs).2.1; omega) ?_
        rintro v2 w40 - hH39
        obtain ⟨pv2, cp2, rfl, hcp2, hlc2, hpv2⟩ := own_form (HP.get hH39 6 rfl)
        have hH41 : HP Tr w _ [.cel b1 #[.slice none 0 0, .slice none 0 0, .slice none 0 0, .slice none 0 0, .int .i64 0, .bool false] 116, .cel g0 (irow n (Ec.lay k s).o) 3, .cel g1 (irow n (upI s.e k (-1))) 3, .cel g2 (irow n (upI s.d k (-1))) 3, .cel g3 (irow n (upI s.t k (s.l.length : Int))) 3, .cel b #[.slice (some ⟨g0, 0, none⟩) n n, .slice (some ⟨g1, 0, none⟩) n n, .slice (some ⟨g2, 0, none⟩) n n, .slice (some ⟨g3, 0, none⟩) n n, .int .i64 (s.m : Int), .bool true] 116, .own (.slice pv2 (s.l.length + 1) cp2) (s.l.length + 1) (Ec.lI s.l ++ [.int .i64 (k : Int)]) 3 1, .cel b19 #[vI (c k), vI (A k), vI (B k)] 75, .cel b36 #[vI (k : Int)] 3] := hH39
        refine WL.z (v := .slice pv2 (s.l.length + 1) cp2) 5 ?_
        refine WL.nil (WQ.then (hK35 _ _ _ ?_))
        refine WC.sub (l' := [(0, .slice (some ⟨bb, oo, none⟩) n cap), (2, vP b1 0), (3, vI (n : Int)), (4, vP b 0), (5, .slice pv2 (s.l.length + 1) cp2), (6, vI (k : Int)), (7, vP b19 0), (21, .slice (some ⟨bb, oo, none⟩) n cap), (22, vI (n : Int)), (23, vI (k : Int)), (24, .bool true), (59, .bool (opn (c k)))]) ⟨rfl, rfl, rfl, rfl, rfl, rfl, rfl, rfl, rfl, rfl, rfl, rfl, trivial⟩ ?_
        refine WC.region ?_
        refine WL.z (v := vP b 4) 67 ?_
        refine WL.y (v := vI (s.m : Int)) 68 (x_load rfl rfl Try.underlying3 rfl (HP.cell hH41 5 rfl rfl)) ?_
        refine WL.z (v := .slice pv2 (s.l.length + 1) cp2) 69 ?_
        refine WL.z (v := vI ((s.l.length + 1 : Nat) : Int)) 70 ?_
        refine WL.y (v := vI ((max s.m (s.l.length + 1) : Nat) : Int)) 71 (x_max (Z := ((max s.m (s.l.length + 1) : Nat) : Int)) (t := 0) rfl rfl rfl (by split <;> omega)) ?_
        refine WL.z (v := vP b 4) 72 ?_
        refine WL.store (H2 := [.cel b1 #[.slice none 0 0, .slice none 0 0, .slice none 0 0, .slice none 0 0, .int .i64 0, .bool false] 116, .cel g0 (irow n (Ec.lay k s).o) 3, .cel g1 (irow n (upI s.e k (-1))) 3, .cel g2 (irow n (upI s.d k (-1))) 3, .cel g3 (irow n (upI s.t k (s.l.length : Int))) 3, .cel b #[.slice (some ⟨g0, 0, none⟩) n n, .slice (some ⟨g1, 0, none⟩) n n, .slice (some ⟨g2, 0, none⟩) n n, .slice (some ⟨g3, 0, none⟩) n n, vI ((max s.m (s.l.length + 1) : Nat) : Int), .bool true] 116, .own (.slice pv2 (s.l.length + 1) cp2) (s.l.length + 1) (Ec.lI s.l ++ [.int .i64 (k : Int)]) 3 1, .cel b19 #[vI (c k), vI (A k), vI (B k)] 75, .cel b36 #[vI (k : Int)] 3]) 5 hH41 rfl rfl rfl rfl rfl rfl sz3 rfl (Nat.le_of_ble_eq_true rfl) rfl rfl ?_
        intro w42 hH43
        refine WL.nil (WQ.inNormal (WQ.inNormal (WQ.then (hK17 _ _ _ ?_))))
        refine WC.sub (l' := [(0, .slice (some ⟨bb, oo, none⟩) n cap), (2, vP b1 0), (3, vI (n : Int)), (4, vP b 0), (5, .slice pv2 (s.l.length + 1) cp2), (6, vI (k : Int)), (7, vP b19 0), (21, .slice (some ⟨bb, oo, none⟩) n cap), (22, vI (n : Int)), (23, vI (k : Int)), (24, .bool true), (59, .bool (opn (c k)))]) ⟨rfl, rfl, rfl, rfl, rfl, rfl, rfl, rfl, rfl, rfl, rfl, rfl, trivial⟩ ?_
        refine WC.region ?_
        refine WL.y (v := vI ((k + 1 : Nat) : Int)) 159 (x_add (Z := ((k + 1 : Nat) : Int)) rfl rfl rfl (by omega) (by omega) (by omega)) ?_
        refine WL.z (v := vI ((k + 1 : Nat) : Int)) 23 ?_
        refine WL.nil ?_
        obtain ⟨s1, hs1⟩ : ∃ s1 : Sh, s1 = ⟨s.l ++ [k], (Ec.lay k s).o, (upI s.e k (-1)), (upI s.d k (-1)), (upI s.t k (s.l.length : Int)), max s.m (s.l.length + 1)⟩ := ⟨_, rfl⟩
        have hsN : shp c (k + 1) = some s1 := by
          rw [hs1]
          exact shp_step hs (stp_open hA)
        have el : s1.l.length = s.l.length + 1 := by rw [hs1]; simp
        have eI : Ec.lI s1.l = Ec.lI s.l ++ [.int .i64 (k : Int)] := by rw [hs1]; simp [lI]
        have hN := HP.eq (H' := [.cel b1 #[.slice none 0 0, .slice none 0 0, .slice none 0 0, .slice none 0 0, .int .i64 0, .bool false] 116, .cel g0 (irow n s1.o) 3, .cel g1 (irow n s1.e) 3, .cel g2 (irow n s1.d) 3, .cel g3 (irow n s1.t) 3, .cel b #[.slice (some ⟨g0, 0, none⟩) n n, .slice (some ⟨g1, 0, none⟩) n n, .slice (some ⟨g2, 0, none⟩) n n, .slice (some ⟨g3, 0, none⟩) n n, .int .i64 (s1.m : Int), .bool true] 116, .own (.slice pv2 (s.l.length + 1) cp2) s1.l.length (Ec.lI s1.l) 3 1]) (HP.drop (HP.drop hH43 8) 7) (by rw [el, eI]; subst hs1; rfl)
        refine WQ.sub (l' := [(0, .slice (some ⟨bb, oo, none⟩) n cap), (2, vP b1 0), (3, vI (n : Int)), (4, vP b 0), (5, .slice pv2 (s.l.length + 1) cp2), (21, .slice (some ⟨bb, oo, none⟩) n cap), (22, vI (n : Int)), (23, vI ((k + 1 : Nat) : Int))]) ⟨rfl, rfl, rfl, rfl, rfl, rfl, rfl, rfl, trivial⟩ ?_
        refine WQ.then (hK12 _ _ _ (by omega) ⟨k + 1, s1, .slice pv2 (s.l.length + 1) cp2, rfl, rfl, by omega, hsN, hN⟩)
      ·
        refine WC.no (congrArg (fun b => some (Value.bool b)) hA) ?_
        refine WC.seq fun K44 hK44 => WC.region ?_
        refine WL.z (v := vP b19 0) 74 ?_
        refine WL.y (v := vI (c k)) 75 (x_load rfl rfl Try.underlying3 rfl (HP.cell hH32 7 rfl rfl)) ?_
        by_cases h34 : c k = 34
        ·
          refine WL.y (v := .bool true) 76 (x_eql rfl rfl rfl (dT (h34))) ?_
          refine WL.z (v := .bool true) 77 ?_
          refine WL.pass 78 rfl (by decide) rfl ?_
          refine WL.pass 79 rfl (by decide) rfl ?_
          refine WL.pass 80 rfl (by decide) rfl ?_
          refine WL.z (v := .bool true) 81 ?_
          refine WL.z (v := .bool true) 73 ?_
          refine WL.nil (WQ.then (hK44 _ _ _ ?_))
          refine WC.sub (l' := [(0, .slice (some ⟨bb, oo, none⟩) n cap), (2, vP b1 0), (3, vI (n : Int)), (4, vP b 0), (5, .slice pv s.l.length cp), (6, vI (k : Int)), (7, vP b19 0), (21, .slice (some ⟨bb, oo, none⟩) n cap), (22, vI (n : Int)), (23, vI (k : Int)), (24, .bool true), (59, .bool (opn (c k))), (73, .bool true)]) ⟨rfl, rfl, rfl, rfl, rfl, rfl, rfl, rfl, rfl, rfl, rfl, rfl, rfl, trivial⟩ ?_
          refine WC.yes rfl (WC.seq fun K45 hK45 => WC.seq fun K46 hK46 => WC.region ?_)
          refine WL.z (v := .slice pv s.l.length cp) 82 ?_
          refine WL.z (v := vI (s.l.length : Int)) 83 ?_
          by_cases h0b : (s.l.length : Int) = 0
          ·
            refine WL.y (v := .bool true) 84 (x_eql rfl rfl rfl (dT (h0b))) ?_
            refine WL.nil (WQ.then (hK46 _ _ _ (WC.yes rfl (WC.seq fun K47 hK47 => WC.region ?_))))
            refine WL.z (v := vP b 5) 85 ?_
            refine WL.store (H2 := [.cel b1 #[.slice none 0 0, .slice none 0 0, .slice none 0 0, .slice none 0 0, .int .i64 0, .bool false] 116, .cel g0 (irow n (Ec.lay k s).o) 3, .cel g1 (irow n (upI s.e k (-1))) 3, .cel g2 (irow n (upI s.d k (-1))) 3, .cel g3 (irow n (upI s.t k (s.l.length : Int))) 3, .cel b #[.slice (some ⟨g0, 0, none⟩) n n, .slice (some ⟨g1, 0, none⟩) n n, .slice (some ⟨g2, 0, none⟩) n n, .slice (some ⟨g3, 0, none⟩) n n, .int .i64 (s.m : Int), .bool false] 116, .own (.slice pv s.l.length cp) s.l.length (Ec.lI s.l) 3 1, .cel b19 #[vI (c k), vI (A k), vI (B k)] 75]) 5 hH32 rfl rfl rfl rfl rfl rfl sz4 rfl (Nat.le_of_ble_eq_true rfl) rfl rfl ?_
            intro w48 hH49
            refine WL.nil (WQ.then (hK47 _ _ _ (WC.seq fun K50 hK50 => WC.region ?_)))
            refine WL.y (v := .agg #[vS g0 n n, vS g1 n n, vS g2 n n, vS g3 n n, vI (s.m : Int), .bool false]) 86 (x_loadS (cs := [.slice (some ⟨g0, 0, none⟩) n n, .slice (some ⟨g1, 0, none⟩) n n, .slice (some ⟨g2, 0, none⟩) n n, .slice (some ⟨g3, 0, none⟩) n n, .int .i64 (s.m : Int), .bool false]) rfl rfl Try.underlying116 rfl sz116 (HP.range hH49 5 rfl rfl)) ?_
            refine WL.storeS (H2 := [.cel b1 #[vS g0 n n, vS g1 n n, vS g2 n n, vS g3 n n, vI (s.m : Int), .bool false] 116, .cel g0 (irow n (Ec.lay k s).o) 3, .cel g1 (irow n (upI s.e k (-1))) 3, .cel g2 (irow n (upI s.d k (-1))) 3, .cel g3 (irow n (upI s.t k (s.l.length : Int))) 3, .cel b #[.slice (some ⟨g0, 0, none⟩) n n, .slice (some ⟨g1, 0, none⟩) n n, .slice (some ⟨g2, 0, none⟩) n n, .slice (some ⟨g3, 0, none⟩) n n, .int .i64 (s.m : Int), .bool false] 116, .own (.slice pv s.l.length cp) s.l.length (Ec.lI s.l) 3 1, .cel b19 #[vI (c k), vI (A k), vI (B k)] 75]) 0 hH49 rfl rfl rfl rfl rfl rfl sz116 rfl (Nat.le_of_ble_eq_true rfl) rfl rfl ?_
            intro w51 hH52
            refine WL.nil (WQ.then (hK50 _ _ _ (WC.ret ?_)))
            refine WQ.thenRet ?_
            refine WQ.inRet ?_
            refine WQ.inRet ?_
            refine WQ.thenRet ?_
            refine WQ.thenRet ?_
            refine WQ.inRet ?_
            refine WQ.thenRet ?_
            refine WQ.retC 2 116 rfl rfl (HP.loadRow hH52 0 rfl Try.underlying116 rfl sz116) ?_
            have hOK : okS c n = false := shp_bad hs (stp_none_nil hA (by omega) (by omega)) (by omega)
            refine ⟨g0, g1, g2, g3, (s.m : Int), ⟨[], (Ec.lay k s).o, (upI s.e k (-1)), (upI s.d k (-1)), (upI s.t k (s.l.length : Int)), 0⟩, by rw [hOK], ?_, ?_⟩
            · exact HP.drop (HP.drop (HP.drop (HP.drop hH52 7) 6) 5) 0
            · intro hq; rw [hOK] at hq; cases hq
          ·
            refine WL.y (v := .bool false) 84 (x_eql rfl rfl rfl (dF (h0b))) ?_
            refine WL.nil (WQ.then (hK46 _ _ _ (WC.no rfl (WC.skip (WQ.then (hK45 _ _ _ (WC.seq fun K53 hK53 => ?_)))))))
            obtain ⟨g, rfl⟩ := hpv (by omega)
            obtain ⟨x, hx⟩ := last_of (l := s.l) (by omega)
            have hxk := (shp_lt k s hs).1 x (List.mem_of_getLast? hx)
            refine WC.region ?_
            refine WL.z (v := vP b 3) 87 ?_
            refine WL.y (v := vS g3 n n) 88 (x_load rfl rfl Try.underlying33 rfl (HP.cell hH32 5 rfl rfl)) ?_
            refine WL.z (v := vI (k : Int)) 89 ?_
            refine WL.z (v := vS g s.l.length cp) 90 ?_
            refine WL.z (v := vI (s.l.length : Int)) 91 ?_
            refine WL.y (v := vI ((s.l.length : Int) - 1)) 92 (x_sub (Z := (s.l.length : Int) - 1) rfl rfl rfl (by omega) (by omega) (by omega)) ?_
            refine WL.y (v := vP g3 k) 93 (x_idx (k) (k) rfl rfl rfl Try.underlying33 sz3 (by omega) (by omega) (by omega)) ?_
            refine WL.store (H2 := [.cel b1 #[.slice none 0 0, .slice none 0 0, .slice none 0 0, .slice none 0 0, .int .i64 0, .bool false] 116, .cel g0 (irow n (Ec.lay k s).o) 3, .cel g1 (irow n (upI s.e k (-1))) 3, .cel g2 (irow n (upI s.d k (-1))) 3, .cel g3 (irow n (upI (upI s.t k (s.l.length : Int)) k ((s.l.length : Int) - 1))) 3, .cel b #[.slice (some ⟨g0, 0, none⟩) n n, .slice (some ⟨g1, 0, none⟩) n n, .slice (some ⟨g2, 0, none⟩) n n, .slice (some ⟨g3, 0, none⟩) n n, .int .i64 (s.m : Int), .bool true] 116, .own (.slice (some ⟨g, 0, none⟩) s.l.length cp) s.l.length (Ec.lI s.l) 3 1, .cel b19 #[vI (c k), vI (A k), vI (B k)] 75]) 4 hH32 rfl rfl rfl rfl rfl rfl sz3 rfl (by simp [size_irow]; omega) (irow_set _ _ _ _) rfl ?_
            intro w54 hH55
            refine WL.nil (WQ.then (hK53 _ _ _ ?_))
            refine WC.sub (l' := [(0, .slice (some ⟨bb, oo, none⟩) n cap), (2, vP b1 0), (3, vI (n : Int)), (4, vP b 0), (5, vS g s.l.length cp), (6, vI (k : Int)), (7, vP b19 0), (21, .slice (some ⟨bb, oo, none⟩) n cap), (22, vI (n : Int)), (23, vI (k : Int)), (24, .bool true), (59, .bool (opn (c k))), (73, .bool true), (84, .bool false)]) ⟨rfl, rfl, rfl, rfl, rfl, rfl, rfl, rfl, rfl, rfl, rfl, rfl, rfl, rfl, trivial⟩ ?_
            refine WC.seq fun K56 hK56 => WC.region ?_
            refine WL.z (v := vP b 0) 94 ?_
            refine WL.y (v := vS g0 n n) 95 (x_load rfl rfl Try.underlying33 rfl (HP.cell hH55 5 rfl rfl)) ?_
            refine WL.z (v := vI (k : Int)) 96 ?_
            refine WL.y (v := vP g0 k) 97 (x_idx (k) (k) rfl rfl rfl Try.underlying33 sz3 (by omega) (by omega) (by omega)) ?_
            refine WL.y (v := vI (x : Int)) 98 (x_load rfl rfl Try.underlying3 rfl (HP.cell hH55 1 rfl (irow_get (by omega) (lay_o_top hx)))) ?_
            refine WL.z (v := vI (x : Int)) 8 ?_
            refine WL.nil (WQ.then (hK56 _ _ _ (WC.seq fun K57 hK57 => WC.region ?_)))
            refine WL.z (v := .slice (some ⟨bb, oo, none⟩) n cap) 99 ?_
            refine WL.z (v := vI (x : Int)) 100 ?_
            refine WL.y (v := vP bb (oo + x * 3)) 101 (x_idx (x) (oo + x * 3) rfl rfl rfl Try.underlying42 sz75 (by omega) (by omega) (by omega)) ?_
            refine WL.z (v := vP bb (oo + x * 3)) 102 ?_
            refine WL.y (v := vI (c x)) 103 (x_load rfl rfl Try.underlying3 rfl ((HP.oldRange hH55 trivial (hrow x (by omega))) 0 _ rfl)) ?_
            by_cases h29 : c x = 29
            ·
              refine WL.y (v := .bool true) 104 (x_eql rfl rfl rfl (dT (h29))) ?_
              refine WL.z (v := .bool true) 105 ?_
              refine WL.pass 106 rfl (by decide) rfl ?_
              refine WL.pass 107 rfl (by decide) rfl ?_
              refine WL.pass 108 rfl (by decide) rfl ?_
              refine WL.pass 109 rfl (by decide) rfl ?_
              refine WL.pass 110 rfl (by decide) rfl ?_
              refine WL.pass 111 rfl (by decide) rfl ?_
              refine WL.z (v := .bool true) 112 ?_
              refine WL.z (v := .bool true) 9 ?_
              refine WL.nil (WQ.then (hK57 _ _ _ ?_))
              refine WC.sub (l' := [(0, .slice (some ⟨bb, oo, none⟩) n cap), (2, vP b1 0), (3, vI (n : Int)), (4, vP b 0), (5, vS g s.l.length cp), (6, vI (k : Int)), (7, vP b19 0), (8, vI (x : Int)), (9, .bool true), (21, .slice (some ⟨bb, oo, none⟩) n cap), (22, vI (n : Int)), (23, vI (k : Int)), (24, .bool true), (59, .bool (opn (c k))), (73, .bool true), (84, .bool false)]) ⟨rfl, rfl, rfl, rfl, rfl, rfl, rfl, rfl, rfl, rfl, rfl, rfl, rfl, rfl, rfl, rfl, trivial⟩ ?_
              refine WC.seq fun K58 hK58 => WC.seq fun K59 hK59 => WC.region ?_
              refine WL.z (v := vP b19 0) 113 ?_
              refine WL.y (v := vI (c k)) 114 (x_load rfl rfl Try.underlying3 rfl (HP.cell hH55 7 rfl rfl)) ?_
              refine WL.y (v := .bool true) 115 (x_eql rfl rfl rfl (dT (by omega))) ?_
              refine WL.nil (WQ.then (hK59 _ _ _ (WC.yes rfl (WC.seq fun K60 hK60 => WC.seq fun K61 hK61 => WC.region ?_))))
              refine WL.z (v := .bool true) 116 ?_
              refine WL.z (v := .bool false) 117 ?_
              refine WL.z (v := .bool false) 118 ?_
              refine WL.z (v := vP b 1) 119 ?_
              refine WL.y (v := vS g1 n n) 120 (x_load rfl rfl Try.underlying33 rfl (HP.cell hH55 5 rfl rfl)) ?_
              refine WL.z (v := vI (x : Int)) 121 ?_
              refine WL.y (v := vP g1 x) 122 (x_idx (x) (x) rfl rfl rfl Try.underlying33 sz3 (by omega) (by omega) (by omega)) ?_
              refine WL.y (v := vI ((upI s.e k (-1)) x)) 123 (x_load rfl rfl Try.underlying3 rfl (HP.cell hH55 2 rfl (irow_get (by omega) rfl))) ?_
              by_cases he : (0 : Int) ≤ (upI s.e k (-1)) x
              ·
                refine WL.y (v := .bool true) 124 (x_geq rfl rfl rfl (dT (he))) ?_
                refine WL.z (v := .bool true) 125 ?_
                refine WL.nil (WQ.then (hK61 _ _ _ ?_))
                refine WC.sub (l' := [(0, .slice (some ⟨bb, oo, none⟩) n cap), (2, vP b1 0), (3, vI (n : Int)), (4, vP b 0), (5, vS g s.l.length cp), (6, vI (k : Int)), (7, vP b19 0), (8, vI (x : Int)), (9, .bool true), (21, .slice (some ⟨bb, oo, none⟩) n cap), (22, vI (n : Int)), (23, vI (k : Int)), (24, .bool true), (59, .bool (opn (c k))), (73, .bool true), (84, .bool false), (115, .bool true), (125, .bool true)]) ⟨rfl, rfl, rfl, rfl, rfl, rfl, rfl, rfl, rfl, rfl, rfl, rfl, rfl, rfl, rfl, rfl, rfl, rfl, trivial⟩ ?_
                refine WC.yes rfl (WC.seq fun K62 hK62 => WC.region ?_)
                refine WL.z (v := vP b 5) 126 ?_
                refine WL.store (H2 := [.cel b1 #[.slice none 0 0, .slice none 0 0, .slice none 0 0, .slice none 0 0, .int .i64 0, .bool false] 116, .cel g0 (irow n (Ec.lay k s).o) 3, .cel g1 (irow n (upI s.e k (-1))) 3, .cel g2 (irow n (upI s.d k (-1))) 3, .cel g3 (irow n (upI (upI s.t k (s.l.length : Int)) k ((s.l.length : Int) - 1))) 3, .cel b #[.slice (some ⟨g0, 0, none⟩) n n, .slice (some ⟨g1, 0, none⟩) n n, .slice (some ⟨g2, 0, none⟩) n n, .slice (some ⟨g3, 0, none⟩) n n, .int .i64 (s.m : Int), .bool false] 116, .own (.slice (some ⟨g, 0, none⟩) s.l.length cp) s.l.length (Ec.lI s.l) 3 1, .cel b19 #[vI (c k), vI (A k), vI (B k)] 75]) 5 hH55 rfl rfl rfl rfl rfl rfl sz4 rfl (Nat.le_of_ble_eq_true rfl) rfl rfl ?_
                intro w63 hH64
                refine WL.nil (WQ.then (hK62 _ _ _ (WC.seq fun K65 hK65 => WC.region ?_)))
                refine WL.y (v := .agg #[vS g0 n n, vS g1 n n, vS g2 n n, vS g3 n n, vI (s.m : Int), .bool false]) 127 (x_loadS (cs := [.slice (some ⟨g0, 0, none⟩) n n, .slice (some ⟨g1, 0, none⟩) n n, .slice (some ⟨g2, 0, none⟩) n n, .slice (some ⟨g3, 0, none⟩) n n, .int .i64 (s.m : Int), .bool false]) rfl rfl Try.underlying116 rfl sz116 (HP.range hH64 5 rfl rfl)) ?_
                refine WL.storeS (H2 := [.cel b1 #[vS g0 n n, vS g1 n n, vS g2 n n, vS g3 n n, vI (s.m : Int), .bool false] 116, .cel g0 (irow n (Ec.lay k s).o) 3, .cel g1 (irow n (upI s.e k (-1))) 3, .cel g2 (irow n (upI s.d k (-1))) 3, .cel g3 (irow n (upI (upI s.t k (s.l.length : Int)) k ((s.l.length : Int) - 1))) 3, .cel b #[.slice (some ⟨g0, 0, none⟩) n n, .slice (some ⟨g1, 0, none⟩) n n, .slice (some ⟨g2, 0, none⟩) n n, .slice (some ⟨g3, 0, none⟩) n n, .int .i64 (s.m : Int), .bool false] 116, .own (.slice (some ⟨g, 0, none⟩) s.l.length cp) s.l.length (Ec.lI s.l) 3 1, .cel b19 #[vI (c k), vI (A k), vI (B k)] 75]) 0 hH64 rfl rfl rfl rfl rfl rfl sz116 rfl (Nat.le_of_ble_eq_true rfl) rfl rfl ?_
                intro w66 hH67
                refine WL.nil (WQ.then (hK65 _ _ _ (WC.ret ?_)))
                refine WQ.thenRet ?_
                refine WQ.thenRet ?_
                refine WQ.inRet ?_
                refine WQ.inRet ?_
                refine WQ.thenRet ?_
                refine WQ.thenRet ?_
                refine WQ.inRet ?_
                refine WQ.thenRet ?_
                refine WQ.retC 2 116 rfl rfl (HP.loadRow hH67 0 rfl Try.underlying116 rfl sz116) ?_
                have hOK : okS c n = false := shp_bad hs (stp_else_has hA h34 hx (show ¬ upI s.e k (-1) x < 0 by omega)) (by omega)
                refine ⟨g0, g1, g2, g3, (s.m : Int), ⟨[], (Ec.lay k s).o, (upI s.e k (-1)), (upI s.d k (-1)), (upI (upI s.t k (s.l.length : Int)) k ((s.l.length : Int) - 1)), 0⟩, by rw [hOK], ?_, ?_⟩
                · exact HP.drop (HP.drop (HP.drop (HP.drop hH67 7) 6) 5) 0
                · intro hq; rw [hOK] at hq; cases hq
              ·
                refine WL.y (v := .bool false) 124 (x_geq rfl rfl rfl (dF (he))) ?_
                refine WL.z (v := .bool false) 125 ?_
                refine WL.nil (WQ.then (hK61 _ _ _ ?_))
                refine WC.sub (l' := [(0, .slice (some ⟨bb, oo, none⟩) n cap), (2, vP b1 0), (3, vI (n : Int)), (4, vP b 0), (5, vS g s.l.length cp), (6, vI (k : Int)), (7, vP b19 0), (8, vI (x : Int)), (9, .bool true), (21, .slice (some ⟨bb, oo, none⟩) n cap), (22, vI (n : Int)), (23, vI (k : Int)), (24, .bool true), (59, .bool (opn (c k))), (73, .bool true), (84, .bool false), (115, .bool true), (125, .bool false)]) ⟨rfl, rfl, rfl, rfl, rfl, rfl, rfl, rfl, rfl, rfl, rfl, rfl, rfl, rfl, rfl, rfl, rfl, rfl, trivial⟩ ?_
                refine WC.no rfl (WC.skip (WQ.then (hK60 _ _ _ (WC.seq fun K68 hK68 => WC.region ?_))))
                refine WL.z (v := vP b 1) 128 ?_
                refine WL.y (v := vS g1 n n) 129 (x_load rfl rfl Try.underlying33 rfl (HP.cell hH55 5 rfl rfl)) ?_
                refine WL.z (v := vI (x : Int)) 130 ?_
                refine WL.z (v := vI (k : Int)) 131 ?_
                refine WL.y (v := vP g1 x) 132 (x_idx (x) (x) rfl rfl rfl Try.underlying33 sz3 (by omega) (by omega) (by omega)) ?_
                refine WL.store (H2 := [.cel b1 #[.slice none 0 0, .slice none 0 0, .slice none 0 0, .slice none 0 0, .int .i64 0, .bool false] 116, .cel g0 (irow n (Ec.lay k s).o) 3, .cel g1 (irow n (upI (upI s.e k (-1)) x (k : Int))) 3, .cel g2 (irow n (upI s.d k (-1))) 3, .cel g3 (irow n (upI (upI s.t k (s.l.length : Int)) k ((s.l.length : Int) - 1))) 3, .cel b #[.slice (some ⟨g0, 0, none⟩) n n, .slice (some ⟨g1, 0, none⟩) n n, .slice (some ⟨g2, 0, none⟩) n n, .slice (some ⟨g3, 0, none⟩) n n, .int .i64 (s.m : Int), .bool true] 116, .own (.slice (some ⟨g, 0, none⟩) s.l.length cp) s.l.length (Ec.lI s.l) 3 1, .cel b19 #[vI (c k), vI (A k), vI (B k)] 75]) 2 hH55 rfl rfl rfl rfl rfl rfl sz3 rfl (by simp [size_irow]; omega) (irow_set _ _ _ _) rfl ?_
                intro w69 hH70
                refine WL.nil (WQ.then (hK68 _ _ _ (WC.exit (WQ.thenExit ?_))))
                refine WQ.inOther (by decide) ?_
                refine WQ.inExit (WQ.then (hK17 _ _ _ (WC.region ?_)))
                refine WL.y (v := vI ((k + 1 : Nat) : Int)) 159 (x_add (Z := ((k + 1 : Nat) : Int)) rfl rfl rfl (by omega) (by omega) (by omega)) ?_
                refine WL.z (v := vI ((k + 1 : Nat) : Int)) 23 ?_
                refine WL.nil ?_
                obtain ⟨s1, hs1⟩ : ∃ s1 : Sh, s1 = ⟨s.l, (Ec.lay k s).o, (upI (upI s.e k (-1)) x (k : Int)), (upI s.d k (-1)), (upI (upI s.t k (s.l.length : Int)) k ((s.l.length : Int) - 1)), s.m⟩ := ⟨_, rfl⟩
                have hsN : shp c (k + 1) = some s1 := by
                  rw [hs1]
                  exact shp_step hs (stp_else_ok hA h34 hx (two_yes (by omega)) (show upI s.e k (-1) x < 0 by omega))
                have el : s1.l.length = s.l.length := by rw [hs1]
                have eI : Ec.lI s1.l = Ec.lI s.l := by rw [hs1]
                have hN := HP.eq (H' := [.cel b1 #[.slice none 0 0, .slice none 0 0, .slice none 0 0, .slice none 0 0, .int .i64 0, .bool false] 116, .cel g0 (irow n s1.o) 3, .cel g1 (irow n s1.e) 3, .cel g2 (irow n s1.d) 3, .cel g3 (irow n s1.t) 3, .cel b #[.slice (some ⟨g0, 0, none⟩) n n, .slice (some ⟨g1, 0, none⟩) n n, .slice (some ⟨g2, 0, none⟩) n n, .slice (some ⟨g3, 0, none⟩) n n, .int .i64 (s1.m : Int), .bool true] 116, .own (vS g s.l.length cp) s1.l.length (Ec.lI s1.l) 3 1]) (HP.drop hH70 7) (by rw [el, eI]; subst hs1; rfl)
                refine WQ.sub (l' := [(0, .slice (some ⟨bb, oo, none⟩) n cap), (2, vP b1 0), (3, vI (n : Int)), (4, vP b 0), (5, vS g s.l.length cp), (21, .slice (some ⟨bb, oo, none⟩) n cap), (22, vI (n : Int)), (23, vI ((k + 1 : Nat) : Int))]) ⟨rfl, rfl, rfl, rfl, rfl, rfl, rfl, rfl, trivial⟩ ?_
                refine WQ.then (hK12 _ _ _ (by omega) ⟨k + 1, s1, vS g s.l.length cp, rfl, rfl, by omega, hsN, hN⟩)
            ·
              refine WL.y (v := .bool false) 104 (x_eql rfl rfl rfl (dF (h29))) ?_
              refine WL.z (v := .bool false) 105 ?_
              refine WL.z (v := .slice (some ⟨bb, oo, none⟩) n cap) 106 ?_
              refine WL.z (v := vI (x : Int)) 107 ?_
              refine WL.y (v := vP bb (oo + x * 3)) 108 (x_idx (x) (oo + x * 3) rfl rfl rfl Try.underlying42 sz75 (by omega) (by omega) (by omega)) ?_
              refine WL.z (v := vP bb (oo + x * 3)) 109 ?_
              refine WL.y (v := vI (c x)) 110 (x_load rfl rfl Try.underlying3 rfl ((HP.oldRange hH55 trivial (hrow x (by omega))) 0 _ rfl)) ?_
              by_cases h33 : c x = 33
              ·
                refine WL.y (v := .bool true) 111 (x_eql rfl rfl rfl (dT (h33))) ?_
                refine WL.z (v := .bool true) 112 ?_
                refine WL.z (v := .bool true) 9 ?_
                refine WL.nil (WQ.then (hK57 _ _ _ ?_))
                refine WC.sub (l' := [(0, .slice (some ⟨bb, oo, none⟩) n cap), (2, vP b1 0), (3, vI (n : Int)), (4, vP b 0), (5, vS g s.l.length cp), (6, vI (k : Int)), (7, vP b19 0), (8, vI (x : Int)), (9, .bool true), (21, .slice (some ⟨bb, oo, none⟩) n cap), (22, vI (n : Int)), (23, vI (k : Int)), (24, .bool true), (59, .bool (opn (c k))), (73, .bool true), (84, .bool false)]) ⟨rfl, rfl, rfl, rfl, rfl, rfl, rfl, rfl, rfl, rfl, rfl, rfl, rfl, rfl, rfl, rfl, trivial⟩ ?_
                refine WC.seq fun K71 hK71 => WC.seq fun K72 hK72 => WC.region ?_
                refine WL.z (v := vP b19 0) 113 ?_
                refine WL.y (v := vI (c k)) 114 (x_load rfl rfl Try.underlying3 rfl (HP.cell hH55 7 rfl rfl)) ?_
                refine WL.y (v := .bool true) 115 (x_eql rfl rfl rfl (dT (by omega))) ?_
                refine WL.nil (WQ.then (hK72 _ _ _ (WC.yes rfl (WC.seq fun K73 hK73 => WC.seq fun K74 hK74 => WC.region ?_))))
                refine WL.z (v := .bool true) 116 ?_
                refine WL.z (v := .bool false) 117 ?_
                refine WL.z (v := .bool false) 118 ?_
                refine WL.z (v := vP b 1) 119 ?_
                refine WL.y (v := vS g1 n n) 120 (x_load rfl rfl Try.underlying33 rfl (HP.cell hH55 5 rfl rfl)) ?_
                refine WL.z (v := vI (x : Int)) 121 ?_
                refine WL.y (v := vP g1 x) 122 (x_idx (x) (x) rfl rfl rfl Try.underlying33 sz3 (by omega) (by omega) (by omega)) ?_
                refine WL.y (v := vI ((upI s.e k (-1)) x)) 123 (x_load rfl rfl Try.underlying3 rfl (HP.cell hH55 2 rfl (irow_get (by omega) rfl))) ?_
                by_cases he : (0 : Int) ≤ (upI s.e k (-1)) x
                ·
                  refine WL.y (v := .bool true) 124 (x_geq rfl rfl rfl (dT (he))) ?_
                  refine WL.z (v := .bool true) 125 ?_
                  refine WL.nil (WQ.then (hK74 _ _ _ ?_))
                  refine WC.sub (l' := [(0, .slice (some ⟨bb, oo, none⟩) n cap), (2, vP b1 0), (3, vI (n : Int)), (4, vP b 0), (5, vS g s.l.length cp), (6, vI (k : Int)), (7, vP b19 0), (8, vI (x : Int)), (9, .bool true), (21, .slice (some ⟨bb, oo, none⟩) n cap), (22, vI (n : Int)), (23, vI (k : Int)), (24, .bool true), (59, .bool (opn (c k))), (73, .bool true), (84, .bool false), (115, .bool true), (125, .bool true)]) ⟨rfl, rfl, rfl, rfl, rfl, rfl, rfl, rfl, rfl, rfl, rfl, rfl, rfl, rfl, rfl, rfl, rfl, rfl, trivial⟩ ?_
                  refine WC.yes rfl (WC.seq fun K75 hK75 => WC.region ?_)
                  refine WL.z (v := vP b 5) 126 ?_
                  refine WL.store (H2 := [.cel b1 #[.slice none 0 0, .slice none 0 0, .slice none 0 0, .slice none 0 0, .int .i64 0, .bool false] 116, .cel g0 (irow n (Ec.lay k s).o) 3, .cel g1 (irow n (upI s.e k (-1))) 3, .cel g2 (irow n (upI s.d k (-1))) 3, .cel g3 (irow n (upI (upI s.t k (s.l.length : Int)) k ((s.l.length : Int) - 1))) 3, .cel b #[.slice (some ⟨g0, 0, none⟩) n n, .slice (some ⟨g1, 0, none⟩) n n, .slice (some ⟨g2, 0, none⟩) n n, .slice (some ⟨g3, 0, none⟩) n n, .int .i64 (s.m : Int), .bool false] 116, .own (.slice (some ⟨g, 0, none⟩) s.l.length cp) s.l.length (Ec.lI s.l) 3 1, .cel b19 #[vI (c k), vI (A k), vI (B k)] 75]) 5 hH55 rfl rfl rfl rfl rfl rfl sz4 rfl (Nat.le_of_ble_eq_true rfl) rfl rfl ?_
                  intro w76 hH77
                  refine WL.nil (WQ.then (hK75 _ _ _ (WC.seq fun K78 hK78 => WC.region ?_)))
                  refine WL.y (v := .agg #[vS g0 n n, vS g1 n n, vS g2 n n, vS g3 n n, vI (s.m : Int), .bool false]) 127 (x_loadS (cs := [.slice (some ⟨g0, 0, none⟩) n n, .slice (some ⟨g1, 0, none⟩) n n, .slice (some ⟨g2, 0, none⟩) n n, .slice (some ⟨g3, 0, none⟩) n n, .int .i64 (s.m : Int), .bool false]) rfl rfl Try.underlying116 rfl sz116 (HP.range hH77 5 rfl rfl)) ?_
                  refine WL.storeS (H2 := [.cel b1 #[vS g0 n n, vS g1 n n, vS g2 n n, vS g3 n n, vI (s.m : Int), .bool false] 116, .cel g0 (irow n (Ec.lay k s).o) 3, .cel g1 (irow n (upI s.e k (-1))) 3, .cel g2 (irow n (upI s.d k (-1))) 3, .cel g3 (irow n (upI (upI s.t k (s.l.length : Int)) k ((s.l.length : Int) - 1))) 3, .cel b #[.slice (some ⟨g0, 0, none⟩) n n, .slice (some ⟨g1, 0, none⟩) n n, .slice (some ⟨g2, 0, none⟩) n n, .slice (some ⟨g3, 0, none⟩) n n, .int .i64 (s.m : Int), .bool false] 116, .own (.slice (some ⟨g, 0, none⟩) s.l.length cp) s.l.length (Ec.lI s.l) 3 1, .cel b19 #[vI (c k), vI (A k), vI (B k)] 75]) 0 hH77 rfl rfl rfl rfl rfl rfl sz116 rfl (Nat.le_of_ble_eq_true rfl) rfl rfl ?_
                  intro w79 hH80
                  refine WL.nil (WQ.then (hK78 _ _ _ (WC.ret ?_)))
                  refine WQ.thenRet ?_
                  refine WQ.thenRet ?_
                  refine WQ.inRet ?_
                  refine WQ.inRet ?_
                  refine WQ.thenRet ?_
                  refine WQ.thenRet ?_
                  refine WQ.inRet ?_
                  refine WQ.thenRet ?_
                  refine WQ.retC 2 116 rfl rfl (HP.loadRow hH80 0 rfl Try.underlying116 rfl sz116) ?_
                  have hOK : okS c n = false := shp_bad hs (stp_else_has hA h34 hx (show ¬ upI s.e k (-1) x < 0 by omega)) (by omega)
                  refine ⟨g0, g1, g2, g3, (s.m : Int), ⟨[], (Ec.lay k s).o, (upI s.e k (-1)), (upI s.d k (-1)), (upI (upI s.t k (s.l.length : Int)) k ((s.l.length : Int) - 1)), 0⟩, by rw [hOK], ?_, ?_⟩
                  · exact HP.drop (HP.drop (HP.drop (HP.drop hH80 7) 6) 5) 0
                  · intro hq; rw [hOK] at hq; cases hq
                ·
                  refine WL.y (v := .bool false) 124 (x_geq rfl rfl rfl (dF (he))) ?_
                  refine WL.z (v := .bool false) 125 ?_
                  refine WL.nil (WQ.then (hK74 _ _ _ ?_))
                  refine WC.sub (l' := [(0, .slice (some ⟨bb, oo, none⟩) n cap), (2, vP b1 0), (3, vI (n : Int)), (4, vP b 0), (5, vS g s.l.length cp), (6, vI (k : Int)), (7, vP b19 0), (8, vI (x : Int)), (9, .bool true), (21, .slice (some ⟨bb, oo, none⟩) n cap), (22, vI (n : Int)), (23, vI (k : Int)), (24, .bool true), (59, .bool (opn (c k))), (73, .bool true), (84, .bool false), (115, .bool true), (125, .bool false)]) ⟨rfl, rfl, rfl, rfl, rfl, rfl, rfl, rfl, rfl, rfl, rfl, rfl, rfl, rfl, rfl, rfl, rfl, rfl, trivial⟩ ?_
                  refine WC.no rfl (WC.skip (WQ.then (hK73 _ _ _ (WC.seq fun K81 hK81 => WC.region ?_))))
                  refine WL.z (v := vP b 1) 128 ?_
                  refine WL.y (v := vS g1 n n) 129 (x_load rfl rfl Try.underlying33 rfl (HP.cell hH55 5 rfl rfl)) ?_
                  refine WL.z (v := vI (x : Int)) 130 ?_
                  refine WL.z (v := vI (k : Int)) 131 ?_
                  refine WL.y (v := vP g1 x) 132 (x_idx (x) (x) rfl rfl rfl Try.underlying33 sz3 (by omega) (by omega) (by omega)) ?_
                  refine WL.store (H2 := [.cel b1 #[.slice none 0 0, .slice none 0 0, .slice none 0 0, .slice none 0 0, .int .i64 0, .bool false] 116, .cel g0 (irow n (Ec.lay k s).o) 3, .cel g1 (irow n (upI (upI s.e k (-1)) x (k : Int))) 3, .cel g2 (irow n (upI s.d k (-1))) 3, .cel g3 (irow n (upI (upI s.t k (s.l.length : Int)) k ((s.l.length : Int) - 1))) 3, .cel b #[.slice (some ⟨g0, 0, none⟩) n n, .slice (some ⟨g1, 0, none⟩) n n, .slice (some ⟨g2, 0, none⟩) n n, .slice (some ⟨g3, 0, none⟩) n n, .int .i64 (s.m : Int), .bool true] 116, .own (.slice (some ⟨g, 0, none⟩) s.l.length cp) s.l.length (Ec.lI s.l) 3 1, .cel b19 #[vI (c k), vI (A k), vI (B k)] 75]) 2 hH55 rfl rfl rfl rfl rfl rfl sz3 rfl (by simp [size_irow]; omega) (irow_set _ _ _ _) rfl ?_
                  intro w82 hH83
                  refine WL.nil (WQ.then (hK81 _ _ _ (WC.exit (WQ.thenExit ?_))))
                  refine WQ.inOther (by decide) ?_
                  refine WQ.inExit (WQ.then (hK17 _ _ _ (WC.region ?_)))
                  refine WL.y (v := vI ((k + 1 : Nat) : Int)) 159 (x_add (Z := ((k + 1 : Nat) : Int)) rfl rfl rfl (by omega) (by omega) (by omega)) ?_
                  refine WL.z (v := vI ((k + 1 : Nat) : Int)) 23 ?_
                  refine WL.nil ?_
                  obtain ⟨s1, hs1⟩ : ∃ s1 : Sh, s1 = ⟨s.l, (Ec.lay k s).o, (upI (upI s.e k (-1)) x (k : Int)), (upI s.d k (-1)), (upI (upI s.t k (s.l.length : Int)) k ((s.l.length : Int) - 1)), s.m⟩ := ⟨_, rfl⟩
                  have hsN : shp c (k + 1) = some s1 := by
                    rw [hs1]
                    exact shp_step hs (stp_else_ok hA h34 hx (two_yes (by omega)) (show upI s.e k (-1) x < 0 by omega))
                  have el : s1.l.length = s.l.length := by rw [hs1]
                  have eI : Ec.lI s1.l = Ec.lI s.l := by rw [hs1]
                  have hN := HP.eq (H' := [.cel b1 #[.slice none 0 0, .slice none 0 0, .slice none 0 0, .slice none 0 0, .int .i64 0, .bool false] 116, .cel g0 (irow n s1.o) 3, .cel g1 (irow n s1.e) 3, .cel g2 (irow n s1.d) 3, .cel g3 (irow n s1.t) 3, .cel b #[.slice (some ⟨g0, 0, none⟩) n n, .slice (some ⟨g1, 0, none⟩) n n, .slice (some ⟨g2, 0, none⟩) n n, .slice (some ⟨g3, 0, none⟩) n n, .int .i64 (s1.m : Int), .bool true] 116, .own (vS g s.l.length cp) s1.l.length (Ec.lI s1.l) 3 1]) (HP.drop hH83 7) (by rw [el, eI]; subst hs1; rfl)
                  refine WQ.sub (l' := [(0, .slice (some ⟨bb, oo, none⟩) n cap), (2, vP b1 0), (3, vI (n : Int)), (4, vP b 0), (5, vS g s.l.length cp), (21, .slice (some ⟨bb, oo, none⟩) n cap), (22, vI (n : Int)), (23, vI ((k + 1 : Nat) : Int))]) ⟨rfl, rfl, rfl, rfl, rfl, rfl, rfl, rfl, trivial⟩ ?_
                  refine WQ.then (hK12 _ _ _ (by omega) ⟨k + 1, s1, vS g s.l.length cp, rfl, rfl, by omega, hsN, hN⟩)
              ·
                refine WL.y (v := .bool false) 111 (x_eql rfl rfl rfl (dF (h33))) ?_
                refine WL.z (v := .bool false) 112 ?_
                refine WL.z (v := .bool false) 9 ?_
                refine WL.nil (WQ.then (hK57 _ _ _ ?_))
                refine WC.sub (l' := [(0, .slice (some ⟨bb, oo, none⟩) n cap), (2, vP b1 0), (3, vI (n : Int)), (4, vP b 0), (5, vS g s.l.length cp), (6, vI (k : Int)), (7, vP b19 0), (8, vI (x : Int)), (9, .bool false), (21, .slice (some ⟨bb, oo, none⟩) n cap), (22, vI (n : Int)), (23, vI (k : Int)), (24, .bool true), (59, .bool (opn (c k))), (73, .bool true), (84, .bool false)]) ⟨rfl, rfl, rfl, rfl, rfl, rfl, rfl, rfl, rfl, rfl, rfl, rfl, rfl, rfl, rfl, rfl, trivial⟩ ?_
                refine WC.seq fun K84 hK84 => WC.seq fun K85 hK85 => WC.region ?_
                refine WL.z (v := vP b19 0) 113 ?_
                refine WL.y (v := vI (c k)) 114 (x_load rfl rfl Try.underlying3 rfl (HP.cell hH55 7 rfl rfl)) ?_
                refine WL.y (v := .bool true) 115 (x_eql rfl rfl rfl (dT (by omega))) ?_
                refine WL.nil (WQ.then (hK85 _ _ _ (WC.yes rfl (WC.seq fun K86 hK86 => WC.seq fun K87 hK87 => WC.region ?_))))
                refine WL.z (v := .bool false) 116 ?_
                refine WL.z (v := .bool true) 117 ?_
                refine WL.z (v := .bool true) 118 ?_
                refine WL.pass 119 rfl (by decide) rfl ?_
                refine WL.pass 120 rfl (by decide) rfl ?_
                refine WL.pass 121 rfl (by decide) rfl ?_
                refine WL.pass 122 rfl (by decide) rfl ?_
                refine WL.pass 123 rfl (by decide) rfl ?_
                refine WL.pass 124 rfl (by decide) rfl ?_
                refine WL.z (v := .bool true) 125 ?_
                refine WL.nil (WQ.then (hK87 _ _ _ ?_))
                refine WC.sub (l' := [(0, .slice (some ⟨bb, oo, none⟩) n cap), (2, vP b1 0), (3, vI (n : Int)), (4, vP b 0), (5, vS g s.l.length cp), (6, vI (k : Int)), (7, vP b19 0), (8, vI (x : Int)), (9, .bool false), (21, .slice (some ⟨bb, oo, none⟩) n cap), (22, vI (n : Int)), (23, vI (k : Int)), (24, .bool true), (59, .bool (opn (c k))), (73, .bool true), (84, .bool false), (115, .bool true), (125, .bool true)]) ⟨rfl, rfl, rfl, rfl, rfl, rfl, rfl, rfl, rfl, rfl, rfl, rfl, rfl, rfl, rfl, rfl, rfl, rfl, trivial⟩ ?_
                refine WC.yes rfl (WC.seq fun K88 hK88 => WC.region ?_)
                refine WL.z (v := vP b 5) 126 ?_
                refine WL.store (H2 := [.cel b1 #[.slice none 0 0, .slice none 0 0, .slice none 0 0, .slice none 0 0, .int .i64 0, .bool false] 116, .cel g0 (irow n (Ec.lay k s).o) 3, .cel g1 (irow n (upI s.e k (-1))) 3, .cel g2 (irow n (upI s.d k (-1))) 3, .cel g3 (irow n (upI (upI s.t k (s.l.length : Int)) k ((s.l.length : Int) - 1))) 3, .cel b #[.slice (some ⟨g0, 0, none⟩) n n, .slice (some ⟨g1, 0, none⟩) n n, .slice (some ⟨g2, 0, none⟩) n n, .slice (some ⟨g3, 0, none⟩) n n, .int .i64 (s.m : Int), .bool false] 116, .own (.slice (some ⟨g, 0, none⟩) s.l.length cp) s.l.length (Ec.lI s.l) 3 1, .cel b19 #[vI (c k), vI (A k), vI (B k)] 75]) 5 hH55 rfl rfl rfl rfl rfl rfl sz4 rfl (Nat.le_of_ble_eq_true rfl) rfl rfl ?_
                intro w89 hH90
                refine WL.nil (WQ.then (hK88 _ _ _ (WC.seq fun K91 hK91 => WC.region ?_)))
                refine WL.y (v := .agg #[vS g0 n n, vS g1 n n, vS g2 n n, vS g3 n n, vI (s.m : Int), .bool false]) 127 (x_loadS (cs := [.slice (some ⟨g0, 0, none⟩) n n, .slice (some ⟨g1, 0, none⟩) n n, .slice (some ⟨g2, 0, none⟩) n n, .slice (some ⟨g3, 0, none⟩) n n, .int .i64 (s.m : Int), .bool false]) rfl rfl Try.underlying116 rfl sz116 (HP.range hH90 5 rfl rfl)) ?_
                refine WL.storeS (H2 := [.cel b1 #[vS g0 n n, vS g1 n n, vS g2 n n, vS g3 n n, vI (s.m : Int), .bool false] 116, .cel g0 (irow n (Ec.lay k s).o) 3, .cel g1 (irow n (upI s.e k (-1))) 3, .cel g2 (irow n (upI s.d k (-1))) 3, .cel g3 (irow n (upI (upI s.t k (s.l.length : Int)) k ((s.l.length : Int) - 1))) 3, .cel b #[.slice (some ⟨g0, 0, none⟩) n n, .slice (some ⟨g1, 0, none⟩) n n, .slice (some ⟨g2, 0, none⟩) n n, .slice (some ⟨g3, 0, none⟩) n n, .int .i64 (s.m : Int), .bool false] 116, .own (.slice (some ⟨g, 0, none⟩) s.l.length cp) s.l.length (Ec.lI s.l) 3 1, .cel b19 #[vI (c k), vI (A k), vI (B k)] 75]) 0 hH90 rfl rfl rfl rfl rfl rfl sz116 rfl (Nat.le_of_ble_eq_true rfl) rfl rfl ?_
                intro w92 hH93
                refine WL.nil (WQ.then (hK91 _ _ _ (WC.ret ?_)))
                refine WQ.thenRet ?_
                refine WQ.thenRet ?_
                refine WQ.inRet ?_
                refine WQ.inRet ?_
                refine WQ.thenRet ?_
                refine WQ.thenRet ?_
                refine WQ.inRet ?_
                refine WQ.thenRet ?_
                refine WQ.retC 2 116 rfl rfl (HP.loadRow hH93 0 rfl Try.underlying116 rfl sz116) ?_
                have hOK : okS c n = false := shp_bad hs (stp_else_two hA h34 hx (two_no h29 h33)) (by omega)
                refine ⟨g0, g1, g2, g3, (s.m : Int), ⟨[], (Ec.lay k s).o, (upI s.e k (-1)), (upI s.d k (-1)), (upI (upI s.t k (s.l.length : Int)) k ((s.l.length : Int) - 1)), 0⟩, by rw [hOK], ?_, ?_⟩
                · exact HP.drop (HP.drop (HP.drop (HP.drop hH93 7) 6) 5) 0
                · intro hq; rw [hOK] at hq; cases hq
        ·
          refine WL.y (v := .bool false) 76 (x_eql rfl rfl rfl (dF (h34))) ?_
          refine WL.z (v := .bool false) 77 ?_
          refine WL.z (v := vP b19 0) 78 ?_
          refine WL.y (v := vI (c k)) 79 (x_load rfl rfl Try.underlying3 rfl (HP.cell hH32 7 rfl rfl)) ?_
          by_cases h35 : c k = 35
          ·
            refine WL.y (v := .bool true) 80 (x_eql rfl rfl rfl (dT (h35))) ?_
            refine WL.z (v := .bool true) 81 ?_
            refine WL.z (v := .bool true) 73 ?_
            refine WL.nil (WQ.then (hK44 _ _ _ ?_))
            refine WC.sub (l' := [(0, .slice (some ⟨bb, oo, none⟩) n cap), (2, vP b1 0), (3, vI (n : Int)), (4, vP b 0), (5, .slice pv s.l.length cp), (6, vI (k : Int)), (7, vP b19 0), (21, .slice (some ⟨bb, oo, none⟩) n cap), (22, vI (n : Int)), (23, vI (k : Int)), (24, .bool true), (59, .bool (opn (c k))), (73, .bool true)]) ⟨rfl, rfl, rfl, rfl, rfl, rfl, rfl, rfl, rfl, rfl, rfl, rfl, rfl, trivial⟩ ?_
            refine WC.yes rfl (WC.seq fun K94 hK94 => WC.seq fun K95 hK95 => WC.region ?_)
            refine WL.z (v := .slice pv s.l.length cp) 82 ?_
            refine WL.z (v := vI (s.l.length : Int)) 83 ?_
            by_cases h0b : (s.l.length : Int) = 0
            ·
              refine WL.y (v := .bool true) 84 (x_eql rfl rfl rfl (dT (h0b))) ?_
              refine WL.nil (WQ.then (hK95 _ _ _ (WC.yes rfl (WC.seq fun K96 hK96 => WC.region ?_))))
              refine WL.z (v := vP b 5) 85 ?_
              refine WL.store (H2 := [.cel b1 #[.slice none 0 0, .slice none 0 0, .slice none 0 0, .slice none 0 0, .int .i64 0, .bool false] 116, .cel g0 (irow n (Ec.lay k s).o) 3, .cel g1 (irow n (upI s.e k (-1))) 3, .cel g2 (irow n (upI s.d k (-1))) 3, .cel g3 (irow n (upI s.t k (s.l.length : Int))) 3, .cel b #[.slice (some ⟨g0, 0, none⟩) n n, .slice (some ⟨g1, 0, none⟩) n n, .slice (some ⟨g2, 0, none⟩) n n, .slice (some ⟨g3, 0, none⟩) n n, .int .i64 (s.m : Int), .bool false] 116, .own (.slice pv s.l.length cp) s.l.length (Ec.lI s.l) 3 1, .cel b19 #[vI (c k), vI (A k), vI (B k)] 75]) 5 hH32 rfl rfl rfl rfl rfl rfl sz4 rfl (Nat.le_of_ble_eq_true rfl) rfl rfl ?_
              intro w97 hH98
              refine WL.nil (WQ.then (hK96 _ _ _ (WC.seq fun K99 hK99 => WC.region ?_)))
              refine WL.y (v := .agg #[vS g0 n n, vS g1 n n, vS g2 n n, vS g3 n n, vI (s.m : Int), .bool false]) 86 (x_loadS (cs := [.slice (some ⟨g0, 0, none⟩) n n, .slice (some ⟨g1, 0, none⟩) n n, .slice (some ⟨g2, 0, none⟩) n n, .slice (some ⟨g3, 0, none⟩) n n, .int .i64 (s.m : Int), .bool false]) rfl rfl Try.underlying116 rfl sz116 (HP.range hH98 5 rfl rfl)) ?_
              refine WL.storeS (H2 := [.cel b1 #[vS g0 n n, vS g1 n n, vS g2 n n, vS g3 n n, vI (s.m : Int), .bool false] 116, .cel g0 (irow n (Ec.lay k s).o) 3, .cel g1 (irow n (upI s.e k (-1))) 3, .cel g2 (irow n (upI s.d k (-1))) 3, .cel g3 (irow n (upI s.t k (s.l.length : Int))) 3, .cel b #[.slice (some ⟨g0, 0, none⟩) n n, .slice (some ⟨g1, 0, none⟩) n n, .slice (some ⟨g2, 0, none⟩) n n, .slice (some ⟨g3, 0, none⟩) n n, .int .i64 (s.m : Int), .bool false] 116, .own (.slice pv s.l.length cp) s.l.length (Ec.lI s.l) 3 1, .cel b19 #[vI (c k), vI (A k), vI (B k)] 75]) 0 hH98 rfl rfl rfl rfl rfl rfl sz116 rfl (Nat.le_of_ble_eq_true rfl) rfl rfl ?_
              intro w100 hH101
              refine WL.nil (WQ.then (hK99 _ _ _ (WC.ret ?_)))
              refine WQ.thenRet ?_
              refine WQ.inRet ?_
              refine WQ.inRet ?_
              refine WQ.thenRet ?_
              refine WQ.thenRet ?_
              refine WQ.inRet ?_
              refine WQ.thenRet ?_
              refine WQ.retC 2 116 rfl rfl (HP.loadRow hH101 0 rfl Try.underlying116 rfl sz116) ?_
              have hOK : okS c n = false := shp_bad hs (stp_none_nil hA (by omega) (by omega)) (by omega)
              refine ⟨g0, g1, g2, g3, (s.m : Int), ⟨[], (Ec.lay k s).o, (upI s.e k (-1)), (upI s.d k (-1)), (upI s.t k (s.l.length : Int)), 0⟩, by rw [hOK], ?_, ?_⟩
              · exact HP.drop (HP.drop (HP.drop (HP.drop hH101 7) 6) 5) 0
              · intro hq; rw [hOK] at hq; cases hq
            ·
              refine WL.y (v := .bool false) 84 (x_eql rfl rfl rfl (dF (h0b))) ?_
              refine WL.nil (WQ.then (hK95 _ _ _ (WC.no rfl (WC.skip (WQ.then (hK94 _ _ _ (WC.seq fun K102 hK102 => ?_)))))))
              obtain ⟨g, rfl⟩ := hpv (by omega)
              obtain ⟨x, hx⟩ := last_of (l := s.l) (by omega)
              have hxk := (shp_lt k s hs).1 x (List.mem_of_getLast? hx)
              refine WC.region ?_
              refine WL.z (v := vP b 3) 87 ?_
              refine WL.y (v := vS g3 n n) 88 (x_load rfl rfl Try.underlying33 rfl (HP.cell hH32 5 rfl rfl)) ?_
              refine WL.z (v := vI (k : Int)) 89 ?_
              refine WL.z (v := vS g s.l.length cp) 90 ?_
              refine WL.z (v := vI (s.l.length : Int)) 91 ?_
              refine WL.y (v := vI ((s.l.length : Int) - 1)) 92 (x_sub (Z := (s.l.length : Int) - 1) rfl rfl rfl (by omega) (by omega) (by omega)) ?_
              refine WL.y (v := vP g3 k) 93 (x_idx (k) (k) rfl rfl rfl Try.underlying33 sz3 (by omega) (by omega) (by omega)) ?_
              refine WL.store (H2 := [.cel b1 #[.slice none 0 0, .slice none 0 0, .slice none 0 0, .slice none 0 0, .int .i64 0, .bool false] 116, .cel g0 (irow n (Ec.lay k s).o) 3, .cel g1 (irow n (upI s.e k (-1))) 3, .cel g2 (irow n (upI s.d k (-1))) 3, .cel g3 (irow n (upI (upI s.t k (s.l.length : Int)) k ((s.l.length : Int) - 1))) 3, .cel b #[.slice (some ⟨g0, 0, none⟩) n n, .slice (some ⟨g1, 0, none⟩) n n, .slice (some ⟨g2, 0, none⟩) n n, .slice (some ⟨g3, 0, none⟩) n n, .int .i64 (s.m : Int), .bool true] 116, .own (.slice (some ⟨g, 0, none⟩) s.l.length cp) s.l.length (Ec.lI s.l) 3 1, .cel b19 #[vI (c k), vI (A k), vI (B k)] 75]) 4 hH32 rfl rfl rfl rfl rfl rfl sz3 rfl (by simp [size_irow]; omega) (irow_set _ _ _ _) rfl ?_
              intro w103 hH104
              refine WL.nil (WQ.then (hK102 _ _ _ ?_))
              refine WC.sub (l' := [(0, .slice (some ⟨bb, oo, none⟩) n cap), (2, vP b1 0), (3, vI (n : Int)), (4, vP b 0), (5, vS g s.l.length cp), (6, vI (k : Int)), (7, vP b19 0), (21, .slice (some ⟨bb, oo, none⟩) n cap), (22, vI (n : Int)), (23, vI (k : Int)), (24, .bool true), (59, .bool (opn (c k))), (73, .bool true), (84, .bool false)]) ⟨rfl, rfl, rfl, rfl, rfl, rfl, rfl, rfl, rfl, rfl, rfl, rfl, rfl, rfl, trivial⟩ ?_
              refine WC.seq fun K105 hK105 => WC.region ?_
              refine WL.z (v := vP b 0) 94 ?_
              refine WL.y (v := vS g0 n n) 95 (x_load rfl rfl Try.underlying33 rfl (HP.cell hH104 5 rfl rfl)) ?_
              refine WL.z (v := vI (k : Int)) 96 ?_
              refine WL.y (v := vP g0 k) 97 (x_idx (k) (k) rfl rfl rfl Try.underlying33 sz3 (by omega) (by omega) (by omega)) ?_
              refine WL.y (v := vI (x : Int)) 98 (x_load rfl rfl Try.underlying3 rfl (HP.cell hH104 1 rfl (irow_get (by omega) (lay_o_top hx)))) ?_
              refine WL.z (v := vI (x : Int)) 8 ?_
              refine WL.nil (WQ.then (hK105 _ _ _ (WC.seq fun K106 hK106 => WC.region ?_)))
              refine WL.z (v := .slice (some ⟨bb, oo, none⟩) n cap) 99 ?_
              refine WL.z (v := vI (x : Int)) 100 ?_
              refine WL.y (v := vP bb (oo + x * 3)) 101 (x_idx (x) (oo + x * 3) rfl rfl rfl Try.underlying42 sz75 (by omega) (by omega) (by omega)) ?_
              refine WL.z (v := vP bb (oo + x * 3)) 102 ?_
              refine WL.y (v := vI (c x)) 103 (x_load rfl rfl Try.underlying3 rfl ((HP.oldRange hH104 trivial (hrow x (by omega))) 0 _ rfl)) ?_
              by_cases h29 : c x = 29
              ·
                refine WL.y (v := .bool true) 104 (x_eql rfl rfl rfl (dT (h29))) ?_
                refine WL.z (v := .bool true) 105 ?_
                refine WL.pass 106 rfl (by decide) rfl ?_
                refine WL.pass 107 rfl (by decide) rfl ?_
                refine WL.pass 108 rfl (by decide) rfl ?_
                refine WL.pass 109 rfl (by decide) rfl ?_
                refine WL.pass 110 rfl (by decide) rfl ?_
                refine WL.pass 111 rfl (by decide) rfl ?_
                refine WL.z (v := .bool true) 112 ?_
                refine WL.z (v := .bool true) 9 ?_
                refine WL.nil (WQ.then (hK106 _ _ _ ?_))
                refine WC.sub (l' := [(0, .slice (some ⟨bb, oo, none⟩) n cap), (2, vP b1 0), (3, vI (n : Int)), (4, vP b 0), (5, vS g s.l.length cp), (6, vI (k : Int)), (7, vP b19 0), (8, vI (x : Int)), (9, .bool true), (21, .slice (some ⟨bb, oo, none⟩) n cap), (22, vI (n : Int)), (23, vI (k : Int)), (24, .bool true), (59, .bool (opn (c k))), (73, .bool true), (84, .bool false)]) ⟨rfl, rfl, rfl, rfl, rfl, rfl, rfl, rfl, rfl, rfl, rfl, rfl, rfl, rfl, rfl, rfl, trivial⟩ ?_
                refine WC.seq fun K107 hK107 => WC.seq fun K108 hK108 => WC.region ?_
                refine WL.z (v := vP b19 0) 113 ?_
                refine WL.y (v := vI (c k)) 114 (x_load rfl rfl Try.underlying3 rfl (HP.cell hH104 7 rfl rfl)) ?_
                refine WL.y (v := .bool false) 115 (x_eql rfl rfl rfl (dF (by omega))) ?_
                refine WL.nil (WQ.then (hK108 _ _ _ (WC.no rfl (WC.skip (WQ.then (hK107 _ _ _ (WC.seq fun K109 hK109 => ?_)))))))
                refine WC.seq fun K110 hK110 => WC.region ?_
                refine WL.z (v := .slice (some ⟨bb, oo, none⟩) n cap) 133 ?_
                refine WL.z (v := vI (x : Int)) 134 ?_
                refine WL.y (v := vP bb (oo + x * 3)) 135 (x_idx (x) (oo + x * 3) rfl rfl rfl Try.underlying42 sz75 (by omega) (by omega) (by omega)) ?_
                refine WL.z (v := vP bb (oo + x * 3)) 136 ?_
                refine WL.y (v := vI (c x)) 137 (x_load rfl rfl Try.underlying3 rfl ((HP.oldRange hH104 trivial (hrow x (by omega))) 0 _ rfl)) ?_
                refine WL.y (v := .bool false) 138 (x_eql rfl rfl rfl (dF (by omega))) ?_
                refine WL.z (v := .bool false) 139 ?_
                refine WL.pass 140 rfl (by decide) rfl ?_
                refine WL.pass 141 rfl (by decide) rfl ?_
                refine WL.pass 142 rfl (by decide) rfl ?_
                refine WL.pass 143 rfl (by decide) rfl ?_
                refine WL.pass 144 rfl (by decide) rfl ?_
                refine WL.pass 145 rfl (by decide) rfl ?_
                refine WL.z (v := .bool false) 146 ?_
                refine WL.nil (WQ.then (hK110 _ _ _ ?_))
                refine WC.sub (l' := [(0, .slice (some ⟨bb, oo, none⟩) n cap), (2, vP b1 0), (3, vI (n : Int)), (4, vP b 0), (5, vS g s.l.length cp), (6, vI (k : Int)), (7, vP b19 0), (8, vI (x : Int)), (9, .bool true), (21, .slice (some ⟨bb, oo, none⟩) n cap), (22, vI (n : Int)), (23, vI (k : Int)), (24, .bool true), (59, .bool (opn (c k))), (73, .bool true), (84, .bool false), (115, .bool false), (146, .bool false)]) ⟨rfl, rfl, rfl, rfl, rfl, rfl, rfl, rfl, rfl, rfl, rfl, rfl, rfl, rfl, rfl, rfl, rfl, rfl, trivial⟩ ?_
                refine WC.no rfl (WC.skip (WQ.then (hK109 _ _ _ (WC.seq fun K111 hK111 => WC.region ?_))))
                refine WL.z (v := vP b 2) 149 ?_
                refine WL.y (v := vS g2 n n) 150 (x_load rfl rfl Try.underlying33 rfl (HP.cell hH104 5 rfl rfl)) ?_
                refine WL.z (v := vI (x : Int)) 151 ?_
                refine WL.z (v := vI (k : Int)) 152 ?_
                refine WL.y (v := vP g2 x) 153 (x_idx (x) (x) rfl rfl rfl Try.underlying33 sz3 (by omega) (by omega) (by omega)) ?_
                refine WL.store (H2 := [.cel b1 #[.slice none 0 0, .slice none 0 0, .slice none 0 0, .slice none 0 0, .int .i64 0, .bool false] 116, .cel g0 (irow n (Ec.lay k s).o) 3, .cel g1 (irow n (upI s.e k (-1))) 3, .cel g2 (irow n (upI (upI s.d k (-1)) x (k : Int))) 3, .cel g3 (irow n (upI (upI s.t k (s.l.length : Int)) k ((s.l.length : Int) - 1))) 3, .cel b #[.slice (some ⟨g0, 0, none⟩) n n, .slice (some ⟨g1, 0, none⟩) n n, .slice (some ⟨g2, 0, none⟩) n n, .slice (some ⟨g3, 0, none⟩) n n, .int .i64 (s.m : Int), .bool true] 116, .own (.slice (some ⟨g, 0, none⟩) s.l.length cp) s.l.length (Ec.lI s.l) 3 1, .cel b19 #[vI (c k), vI (A k), vI (B k)] 75]) 3 hH104 rfl rfl rfl rfl rfl rfl sz3 rfl (by simp [size_irow]; omega) (irow_set _ _ _ _) rfl ?_
                intro w112 hH113
                refine WL.nil (WQ.then (hK111 _ _ _ (WC.region ?_)))
                refine WL.z (v := vS g s.l.length cp) 154 ?_
                refine WL.z (v := vS g s.l.length cp) 155 ?_
                refine WL.z (v := vI (s.l.length : Int)) 156 ?_
                refine WL.y (v := vI ((s.l.length - 1 : Nat) : Int)) 157 (x_sub (Z := ((s.l.length - 1 : Nat) : Int)) rfl rfl rfl (by omega) (by omega) (by omega)) ?_
                refine WL.y (v := vS g (s.l.length - 1) cp) 158 (x_sliceH (s.l.length - 1) rfl rfl rfl Try.underlying33 rfl (by omega) sz3) ?_
                have hH114 : HP Tr w _ [.cel b1 #[.slice none 0 0, .slice none 0 0, .slice none 0 0, .slice none 0 0, .int .i64 0, .bool false] 116, .cel g0 (irow n (Ec.lay k s).o) 3, .cel g1 (irow n (upI s.e k (-1))) 3, .cel g2 (irow n (upI (upI s.d k (-1)) x (k : Int))) 3, .cel g3 (irow n (upI (upI s.t k (s.l.length : Int)) k ((s.l.length : Int) - 1))) 3, .cel b #[.slice (some ⟨g0, 0, none⟩) n n, .slice (some ⟨g1, 0, none⟩) n n, .slice (some ⟨g2, 0, none⟩) n n, .slice (some ⟨g3, 0, none⟩) n n, .int .i64 (s.m : Int), .bool true] 116, .own (.slice (some ⟨g, 0, none⟩) (s.l.length - 1) cp) (s.l.length - 1) (Ec.lI s.l.dropLast) 3 1, .cel b19 #[vI (c k), vI (A k), vI (B k)] 75] := HP.repl hH113 6 rfl (own_pop (HP.get hH113 6 rfl) (by simp)) rfl
                refine WL.z (v := vS g (s.l.length - 1) cp) 5 ?_
                refine WL.nil (WQ.inNormal (WQ.inNormal (WQ.then (hK17 _ _ _ ?_))))
                refine WC.sub (l' := [(0, .slice (some ⟨bb, oo, none⟩) n cap), (2, vP b1 0), (3, vI (n : Int)), (4, vP b 0), (5, vS g (s.l.length - 1) cp), (6, vI (k : Int)), (7, vP b19 0), (8, vI (x : Int)), (9, .bool true), (21, .slice (some ⟨bb, oo, none⟩) n cap), (22, vI (n : Int)), (23, vI (k : Int)), (24, .bool true), (59, .bool (opn (c k))), (73, .bool true), (84, .bool false), (115, .bool false), (146, .bool false)]) ⟨rfl, rfl, rfl, rfl, rfl, rfl, rfl, rfl, rfl, rfl, rfl, rfl, rfl, rfl, rfl, rfl, rfl, rfl, trivial⟩ ?_
                refine WC.region ?_
                refine WL.y (v := vI ((k + 1 : Nat) : Int)) 159 (x_add (Z := ((k + 1 : Nat) : Int)) rfl rfl rfl (by omega) (by omega) (by omega)) ?_
                refine WL.z (v := vI ((k + 1 : Nat) : Int)) 23 ?_
                refine WL.nil ?_
                obtain ⟨s1, hs1⟩ : ∃ s1 : Sh, s1 = ⟨s.l.dropLast, (Ec.lay k s).o, (upI s.e k (-1)), (upI (upI s.d k (-1)) x (k : Int)), (upI (upI s.t k (s.l.length : Int)) k ((s.l.length : Int) - 1)), s.m⟩ := ⟨_, rfl⟩
                have hsN : shp c (k + 1) = some s1 := by
                  rw [hs1]
                  exact shp_step hs (stp_end_ok hA h35 hx (show ¬ (c x = 33 ∧ upI s.e k (-1) x < 0) by omega))
                have el : s1.l.length = s.l.length - 1 := by rw [hs1]; simp
                have eI : Ec.lI s1.l = Ec.lI s.l.dropLast := by rw [hs1]
                have hN := HP.eq (H' := [.cel b1 #[.slice none 0 0, .slice none 0 0, .slice none 0 0, .slice none 0 0, .int .i64 0, .bool false] 116, .cel g0 (irow n s1.o) 3, .cel g1 (irow n s1.e) 3, .cel g2 (irow n s1.d) 3, .cel g3 (irow n s1.t) 3, .cel b #[.slice (some ⟨g0, 0, none⟩) n n, .slice (some ⟨g1, 0, none⟩) n n, .slice (some ⟨g2, 0, none⟩) n n, .slice (some ⟨g3, 0, none⟩) n n, .int .i64 (s1.m : Int), .bool true] 116, .own (vS g (s.l.length - 1) cp) s1.l.length (Ec.lI s1.l) 3 1]) (HP.drop hH114 7) (by rw [el, eI]; subst hs1; rfl)
                refine WQ.sub (l' := [(0, .slice (some ⟨bb, oo, none⟩) n cap), (2, vP b1 0), (3, vI (n : Int)), (4, vP b 0), (5, vS g (s.l.length - 1) cp), (21, .slice (some ⟨bb, oo, none⟩) n cap), (22, vI (n : Int)), (23, vI ((k + 1 : Nat) : Int))]) ⟨rfl, rfl, rfl, rfl, rfl, rfl, rfl, rfl, trivial⟩ ?_
                refine WQ.then (hK12 _ _ _ (by omega) ⟨k + 1, s1, vS g (s.l.length - 1) cp, rfl, rfl, by omega, hsN, hN⟩)
              ·
                refine WL.y (v := .bool false) 104 (x_eql rfl rfl rfl (dF (h29))) ?_
                refine WL.z (v := .bool false) 105 ?_
                refine WL.z (v := .slice (some ⟨bb, oo, none⟩) n cap) 106 ?_
                refine WL.z (v := vI (x : Int)) 107 ?_
                refine WL.y (v := vP bb (oo + x * 3)) 108 (x_idx (x) (oo + x * 3) rfl rfl rfl Try.underlying42 sz75 (by omega) (by omega) (by omega)) ?_
                refine WL.z (v := vP bb (oo + x * 3)) 109 ?_
                refine WL.y (v := vI (c x)) 110 (x_load rfl rfl Try.underlying3 rfl ((HP.oldRange hH104 trivial (hrow x (by omega))) 0 _ rfl)) ?_
                by_cases h33 : c x = 33
                ·
                  refine WL.y (v := .bool true) 111 (x_eql rfl rfl rfl (dT (h33))) ?_
                  refine WL.z (v := .bool true) 112 ?_
                  refine WL.z (v := .bool true) 9 ?_
                  refine WL.nil (WQ.then (hK106 _ _ _ ?_))
                  refine WC.sub (l' := [(0, .slice (some ⟨bb, oo, none⟩) n cap), (2, vP b1 0), (3, vI (n : Int)), (4, vP b 0), (5, vS g s.l.length cp), (6, vI (k : Int)), (7, vP b19 0), (8, vI (x : Int)), (9, .bool true), (21, .slice (some ⟨bb, oo, none⟩) n cap), (22, vI (n : Int)), (23, vI (k : Int)), (24, .bool true), (59, .bool (opn (c k))), (73, .bool true), (84, .bool false)]) ⟨rfl, rfl, rfl, rfl, rfl, rfl, rfl, rfl, rfl, rfl, rfl, rfl, rfl, rfl, rfl, rfl, trivial⟩ ?_
                  refine WC.seq fun K115 hK115 => WC.seq fun K116 hK116 => WC.region ?_
                  refine WL.z (v := vP b19 0) 113 ?_
                  refine WL.y (v := vI (c k)) 114 (x_load rfl rfl Try.underlying3 rfl (HP.cell hH104 7 rfl rfl)) ?_
                  refine WL.y (v := .bool false) 115 (x_eql rfl rfl rfl (dF (by omega))) ?_
                  refine WL.nil (WQ.then (hK116 _ _ _ (WC.no rfl (WC.skip (WQ.then (hK115 _ _ _ (WC.seq fun K117 hK117 => ?_)))))))
                  refine WC.seq fun K118 hK118 => WC.region ?_
                  refine WL.z (v := .slice (some ⟨bb, oo, none⟩) n cap) 133 ?_
                  refine WL.z (v := vI (x : Int)) 134 ?_
                  refine WL.y (v := vP bb (oo + x * 3)) 135 (x_idx (x) (oo + x * 3) rfl rfl rfl Try.underlying42 sz75 (by omega) (by omega) (by omega)) ?_
                  refine WL.z (v := vP bb (oo + x * 3)) 136 ?_
                  refine WL.y (v := vI (c x)) 137 (x_load rfl rfl Try.underlying3 rfl ((HP.oldRange hH104 trivial (hrow x (by omega))) 0 _ rfl)) ?_
                  refine WL.y (v := .bool true) 138 (x_eql rfl rfl rfl (dT (by omega))) ?_
                  refine WL.z (v := .bool true) 139 ?_
                  refine WL.z (v := vP b 1) 140 ?_
                  refine WL.y (v := vS g1 n n) 141 (x_load rfl rfl Try.underlying33 rfl (HP.cell hH104 5 rfl rfl)) ?_
                  refine WL.z (v := vI (x : Int)) 142 ?_
                  refine WL.y (v := vP g1 x) 143 (x_idx (x) (x) rfl rfl rfl Try.underlying33 sz3 (by omega) (by omega) (by omega)) ?_
                  refine WL.y (v := vI ((upI s.e k (-1)) x)) 144 (x_load rfl rfl Try.underlying3 rfl (HP.cell hH104 2 rfl (irow_get (by omega) rfl))) ?_
                  by_cases he : (upI s.e k (-1)) x < 0
                  ·
                    refine WL.y (v := .bool true) 145 (x_lss rfl rfl rfl (dT (he))) ?_
                    refine WL.z (v := .bool true) 146 ?_
                    refine WL.nil (WQ.then (hK118 _ _ _ ?_))
                    refine WC.sub (l' := [(0, .slice (some ⟨bb, oo, none⟩) n cap), (2, vP b1 0), (3, vI (n : Int)), (4, vP b 0), (5, vS g s.l.length cp), (6, vI (k : Int)), (7, vP b19 0), (8, vI (x : Int)), (9, .bool true), (21, .slice (some ⟨bb, oo, none⟩) n cap), (22, vI (n : Int)), (23, vI (k : Int)), (24, .bool true), (59, .bool (opn (c k))), (73, .bool true), (84, .bool false), (115, .bool false), (146, .bool true)]) ⟨rfl, rfl, rfl, rfl, rfl, rfl, rfl, rfl, rfl, rfl, rfl, rfl, rfl, rfl, rfl, rfl, rfl, rfl, trivial⟩ ?_
                    refine WC.yes rfl (WC.seq fun K119 hK119 => WC.region ?_)
                    refine WL.z (v := vP b 5) 147 ?_
                    refine WL.store (H2 := [.cel b1 #[.slice none 0 0, .slice none 0 0, .slice none 0 0, .slice none 0 0, .int .i64 0, .bool false] 116, .cel g0 (irow n (Ec.lay k s).o) 3, .cel g1 (irow n (upI s.e k (-1))) 3, .cel g2 (irow n (upI s.d k (-1))) 3, .cel g3 (irow n (upI (upI s.t k (s.l.length : Int)) k ((s.l.length : Int) - 1))) 3, .cel b #[.slice (some ⟨g0, 0, none⟩) n n, .slice (some ⟨g1, 0, none⟩) n n, .slice (some ⟨g2, 0, none⟩) n n, .slice (some ⟨g3, 0, none⟩) n n, .int .i64 (s.m : Int), .bool false] 116, .own (.slice (some ⟨g, 0, none⟩) s.l.length cp) s.l.length (Ec.lI s.l) 3 1, .cel b19 #[vI (c k), vI (A k), vI (B k)] 75]) 5 hH104 rfl rfl rfl rfl rfl rfl sz4 rfl (Nat.le_of_ble_eq_true rfl) rfl rfl ?_
                    intro w120 hH121
                    refine WL.nil (WQ.then (hK119 _ _ _ (WC.seq fun K122 hK122 => WC.region ?_)))
                    refine WL.y (v := .agg #[vS g0 n n, vS g1 n n, vS g2 n n, vS g3 n n, vI (s.m : Int), .bool false]) 148 (x_loadS (cs := [.slice (some ⟨g0, 0, none⟩) n n, .slice (some ⟨g1, 0, none⟩) n n, .slice (some ⟨g2, 0, none⟩) n n, .slice (some ⟨g3, 0, none⟩) n n, .int .i64 (s.m : Int), .bool false]) rfl rfl Try.underlying116 rfl sz116 (HP.range hH121 5 rfl rfl)) ?_
                    refine WL.storeS (H2 := [.cel b1 #[vS g0 n n, vS g1 n n, vS g2 n n, vS g3 n n, vI (s.m : Int), .bool false] 116, .cel g0 (irow n (Ec.lay k s).o) 3, .cel g1 (irow n (upI s.e k (-1))) 3, .cel g2 (irow n (upI s.d k (-1))) 3, .cel g3 (irow n (upI (upI s.t k (s.l.length : Int)) k ((s.l.length : Int) - 1))) 3, .cel b #[.slice (some ⟨g0, 0, none⟩) n n, .slice (some ⟨g1, 0, none⟩) n n, .slice (some ⟨g2, 0, none⟩) n n, .slice (some ⟨g3, 0, none⟩) n n, .int .i64 (s.m : Int), .bool false] 116, .own (.slice (some ⟨g, 0, none⟩) s.l.length cp) s.l.length (Ec.lI s.l) 3 1, .cel b19 #[vI (c k), vI (A k), vI (B k)] 75]) 0 hH121 rfl rfl rfl rfl rfl rfl sz116 rfl (Nat.le_of_ble_eq_true rfl) rfl rfl ?_
                    intro w123 hH124
                    refine WL.nil (WQ.then (hK122 _ _ _ (WC.ret ?_)))
                    refine WQ.thenRet ?_
                    refine WQ.inRet ?_
                    refine WQ.inRet ?_
                    refine WQ.thenRet ?_
                    refine WQ.thenRet ?_
                    refine WQ.inRet ?_
                    refine WQ.thenRet ?_
                    refine WQ.retC 2 116 rfl rfl (HP.loadRow hH124 0 rfl Try.underlying116 rfl sz116) ?_
                    have hOK : okS c n = false := shp_bad hs (stp_end_try hA h35 hx h33 (show upI s.e k (-1) x < 0 by omega)) (by omega)
                    refine ⟨g0, g1, g2, g3, (s.m : Int), ⟨[], (Ec.lay k s).o, (upI s.e k (-1)), (upI s.d k (-1)), (upI (upI s.t k (s.l.length : Int)) k ((s.l.length : Int) - 1)), 0⟩, by rw [hOK], ?_, ?_⟩
                    · exact HP.drop (HP.drop (HP.drop (HP.drop hH124 7) 6) 5) 0
                    · intro hq; rw [hOK] at hq; cases hq
                  ·
                    refine WL.y (v := .bool false) 145 (x_lss rfl rfl rfl (dF (he))) ?_
                    refine WL.z (v := .bool false) 146 ?_
                    refine WL.nil (WQ.then (hK118 _ _ _ ?_))
                    refine WC.sub (l' := [(0, .slice (some ⟨bb, oo, none⟩) n cap), (2, vP b1 0), (3, vI (n : Int)), (4, vP b 0), (5, vS g s.l.length cp), (6, vI (k : Int)), (7, vP b19 0), (8, vI (x : Int)), (9, .bool true), (21, .slice (some ⟨bb, oo, none⟩) n cap), (22, vI (n : Int)), (23, vI (k : Int)), (24, .bool true), (59, .bool (opn (c k))), (73, .bool true), (84, .bool false), (115, .bool false), (146, .bool false)]) ⟨rfl, rfl, rfl, rfl, rfl, rfl, rfl, rfl, rfl, rfl, rfl, rfl, rfl, rfl, rfl, rfl, rfl, rfl, trivial⟩ ?_
                    refine WC.no rfl (WC.skip (WQ.then (hK117 _ _ _ (WC.seq fun K125 hK125 => WC.region ?_))))
                    refine WL.z (v := vP b 2) 149 ?_
                    refine WL.y (v := vS g2 n n) 150 (x_load rfl rfl Try.underlying33 rfl (HP.cell hH104 5 rfl rfl)) ?_
                    refine WL.z (v := vI (x : Int)) 151 ?_
                    refine WL.z (v := vI (k : Int)) 152 ?_
                    refine WL.y (v := vP g2 x) 153 (x_idx (x) (x) rfl rfl rfl Try.underlying33 sz3 (by omega) (by omega) (by omega)) ?_
                    refine WL.store (H2 := [.cel b1 #[.slice none 0 0, .slice none 0 0, .slice none 0 0, .slice none 0 0, .int .i64 0, .bool false] 116, .cel g0 (irow n (Ec.lay k s).o) 3, .cel g1 (irow n (upI s.e k (-1))) 3, .cel g2 (irow n (upI (upI s.d k (-1)) x (k : Int))) 3, .cel g3 (irow n (upI (upI s.t k (s.l.length : Int)) k ((s.l.length : Int) - 1))) 3, .cel b #[.slice (some ⟨g0, 0, none⟩) n n, .slice (some ⟨g1, 0, none⟩) n n, .slice (some ⟨g2, 0, none⟩) n n, .slice (some ⟨g3, 0, none⟩) n n, .int .i64 (s.m : Int), .bool true] 116, .own (.slice (some ⟨g, 0, none⟩) s.l.length cp) s.l.length (Ec.lI s.l) 3 1, .cel b19 #[vI (c k), vI (A k), vI (B k)] 75]) 3 hH104 rfl rfl rfl rfl rfl rfl sz3 rfl (by simp [size_irow]; omega) (irow_set _ _ _ _) rfl ?_
                    intro w126 hH127
                    refine WL.nil (WQ.then (hK125 _ _ _ (WC.region ?_)))
                    refine WL.z (v := vS g s.l.length cp) 154 ?_
                    refine WL.z (v := vS g s.l.length cp) 155 ?_
                    refine WL.z (v := vI (s.l.length : Int)) 156 ?_
                    refine WL.y (v := vI ((s.l.length - 1 : Nat) : Int)) 157 (x_sub (Z := ((s.l.length - 1 : Nat) : Int)) rfl rfl rfl (by omega) (by omega) (by omega)) ?_
                    refine WL.y (v := vS g (s.l.length - 1) cp) 158 (x_sliceH (s.l.length - 1) rfl rfl rfl Try.underlying33 rfl (by omega) sz3) ?_
                    have hH128 : HP Tr w _ [.cel b1 #[.slice none 0 0, .slice none 0 0, .slice none 0 0, .slice none 0 0, .int .i64 0, .bool false] 116, .cel g0 (irow n (Ec.lay k s).o) 3, .cel g1 (irow n (upI s.e k (-1))) 3, .cel g2 (irow n (upI (upI s.d k (-1)) x (k : Int))) 3, .cel g3 (irow n (upI (upI s.t k (s.l.length : Int)) k ((s.l.length : Int) - 1))) 3, .cel b #[.slice (some ⟨g0, 0, none⟩) n n, .slice (some ⟨g1, 0, none⟩) n n, .slice (some ⟨g2, 0, none⟩) n n, .slice (some ⟨g3, 0, none⟩) n n, .int .i64 (s.m : Int), .bool true] 116, .own (.slice (some ⟨g, 0, none⟩) (s.l.length - 1) cp) (s.l.length - 1) (Ec.lI s.l.dropLast) 3 1, .cel b19 #[vI (c k), vI (A k), vI (B k)] 75] := HP.repl hH127 6 rfl (own_pop (HP.get hH127 6 rfl) (by simp)) rfl
                    refine WL.z (v := vS g (s.l.length - 1) cp) 5 ?_
                    refine WL.nil (WQ.inNormal (WQ.inNormal (WQ.then (hK17 _ _ _ ?_))))
                    refine WC.sub (l' := [(0, .slice (some ⟨bb, oo, none⟩) n cap), (2, vP b1 0), (3, vI (n : Int)), (4, vP b 0), (5, vS g (s.l.length - 1) cp), (6, vI (k : Int)), (7, vP b19 0), (8, vI (x : Int)), (9, .bool true), (21, .slice (some ⟨bb, oo, none⟩) n cap), (22, vI (n : Int)), (23, vI (k : Int)), (24, .bool true), (59, .bool (opn (c k))), (73, .bool true), (84, .bool false), (115, .bool false), (146, .bool false)]) ⟨rfl, rfl, rfl, rfl, rfl, rfl, rfl, rfl, rfl, rfl, rfl, rfl, rfl, rfl, rfl, rfl, rfl, rfl, trivial⟩ ?_
                    refine WC.region ?_
                    refine WL.y (v := vI ((k + 1 : Nat) : Int)) 159 (x_add (Z := ((k + 1 : Nat) : Int)) rfl rfl rfl (by omega) (by omega) (by omega)) ?_
                    refine WL.z (v := vI ((k + 1 : Nat) : Int)) 23 ?_
                    refine WL.nil ?_
                    obtain ⟨s1, hs1⟩ : ∃ s1 : Sh, s1 = ⟨s.l.dropLast, (Ec.lay k s).o, (upI s.e k (-1)), (upI (upI s.d k (-1)) x (k : Int)), (upI (upI s.t k (s.l.length : Int)) k ((s.l.length : Int) - 1)), s.m⟩ := ⟨_, rfl⟩
                    have hsN : shp c (k + 1) = some s1 := by
                      rw [hs1]
                      exact shp_step hs (stp_end_ok hA h35 hx (show ¬ (c x = 33 ∧ upI s.e k (-1) x < 0) by omega))
                    have el : s1.l.length = s.l.length - 1 := by rw [hs1]; simp
                    have eI : Ec.lI s1.l = Ec.lI s.l.dropLast := by rw [hs1]
                    have hN := HP.eq (H' := [.cel b1 #[.slice none 0 0, .slice none 0 0, .slice none 0 0, .slice none 0 0, .int .i64 0, .bool false] 116, .cel g0 (irow n s1.o) 3, .cel g1 (irow n s1.e) 3, .cel g2 (irow n s1.d) 3, .cel g3 (irow n s1.t) 3, .cel b #[.slice (some ⟨g0, 0, none⟩) n n, .slice (some ⟨g1, 0, none⟩) n n, .slice (some ⟨g2, 0, none⟩) n n, .slice (some ⟨g3, 0, none⟩) n n, .int .i64 (s1.m : Int), .bool true] 116, .own (vS g (s.l.length - 1) cp) s1.l.length (Ec.lI s1.l) 3 1]) (HP.drop hH128 7) (by rw [el, eI]; subst hs1; rfl)
                    refine WQ.sub (l' := [(0, .slice (some ⟨bb, oo, none⟩) n cap), (2, vP b1 0), (3, vI (n : Int)), (4, vP b 0), (5, vS g (s.l.length - 1) cp), (21, .slice (some ⟨bb, oo, none⟩) n cap), (22, vI (n : Int)), (23, vI ((k + 1 : Nat) : Int))]) ⟨rfl, rfl, rfl, rfl, rfl, rfl, rfl, rfl, trivial⟩ ?_
                    refine WQ.then (hK12 _ _ _ (by omega) ⟨k + 1, s1, vS g (s.l.length - 1) cp, rfl, rfl, by omega, hsN, hN⟩)
                ·
                  refine WL.y (v := .bool false) 111 (x_eql rfl rfl rfl (dF (h33))) ?_
                  refine WL.z (v := .bool false) 112 ?_
                  refine WL.z (v := .bool false) 9 ?_
                  refine WL.nil (WQ.then (hK106 _ _ _ ?_))
                  refine WC.sub (l' := [(0, .slice (some ⟨bb, oo, none⟩) n cap), (2, vP b1 0), (3, vI (n : Int)), (4, vP b 0), (5, vS g s.l.length cp), (6, vI (k : Int)), (7, vP b19 0), (8, vI (x : Int)), (9, .bool false), (21, .slice (some ⟨bb, oo, none⟩) n cap), (22, vI (n : Int)), (23, vI (k : Int)), (24, .bool true), (59, .bool (opn (c k))), (73, .bool true), (84, .bool false)]) ⟨rfl, rfl, rfl, rfl, rfl, rfl, rfl, rfl, rfl, rfl, rfl, rfl, rfl, rfl, rfl, rfl, trivial⟩ ?_
                  refine WC.seq fun K129 hK129 => WC.seq fun K130 hK130 => WC.region ?_
                  refine WL.z (v := vP b19 0) 113 ?_
                  refine WL.y (v := vI (c k)) 114 (x_load rfl rfl Try.underlying3 rfl (HP.cell hH104 7 rfl rfl)) ?_
                  refine WL.y (v := .bool false) 115 (x_eql rfl rfl rfl (dF (by omega))) ?_
                  refine WL.nil (WQ.then (hK130 _ _ _ (WC.no rfl (WC.skip (WQ.then (hK129 _ _ _ (WC.seq fun K131 hK131 => ?_)))))))
                  refine WC.seq fun K132 hK132 => WC.region ?_
                  refine WL.z (v := .slice (some ⟨bb, oo, none⟩) n cap) 133 ?_
                  refine WL.z (v := vI (x : Int)) 134 ?_
                  refine WL.y (v := vP bb (oo + x * 3)) 135 (x_idx (x) (oo + x * 3) rfl rfl rfl Try.underlying42 sz75 (by omega) (by omega) (by omega)) ?_
                  refine WL.z (v := vP bb (oo + x * 3)) 136 ?_
                  refine WL.y (v := vI (c x)) 137 (x_load rfl rfl Try.underlying3 rfl ((HP.oldRange hH104 trivial (hrow x (by omega))) 0 _ rfl)) ?_
                  refine WL.y (v := .bool false) 138 (x_eql rfl rfl rfl (dF (by omega))) ?_
                  refine WL.z (v := .bool false) 139 ?_
                  refine WL.pass 140 rfl (by decide) rfl ?_
                  refine WL.pass 141 rfl (by decide) rfl ?_
                  refine WL.pass 142 rfl (by decide) rfl ?_
                  refine WL.pass 143 rfl (by decide) rfl ?_
                  refine WL.pass 144 rfl (by decide) rfl ?_
                  refine WL.pass 145 rfl (by decide) rfl ?_
                  refine WL.z (v := .bool false) 146 ?_
                  refine WL.nil (WQ.then (hK132 _ _ _ ?_))
                  refine WC.sub (l' := [(0, .slice (some ⟨bb, oo, none⟩) n cap), (2, vP b1 0), (3, vI (n : Int)), (4, vP b 0), (5, vS g s.l.length cp), (6, vI (k : Int)), (7, vP b19 0), (8, vI (x : Int)), (9, .bool false), (21, .slice (some ⟨bb, oo, none⟩) n cap), (22, vI (n : Int)), (23, vI (k : Int)), (24, .bool true), (59, .bool (opn (c k))), (73, .bool true), (84, .bool false), (115, .bool false), (146, .bool false)]) ⟨rfl, rfl, rfl, rfl, rfl, rfl, rfl, rfl, rfl, rfl, rfl, rfl, rfl, rfl, rfl, rfl, rfl, rfl, trivial⟩ ?_
                  refine WC.no rfl (WC.skip (WQ.then (hK131 _ _ _ (WC.seq fun K133 hK133 => WC.region ?_))))
                  refine WL.z (v := vP b 2) 149 ?_
                  refine WL.y (v := vS g2 n n) 150 (x_load rfl rfl Try.underlying33 rfl (HP.cell hH104 5 rfl rfl)) ?_
                  refine WL.z (v := vI (x : Int)) 151 ?_
                  refine WL.z (v := vI (k : Int)) 152 ?_
                  refine WL.y (v := vP g2 x) 153 (x_idx (x) (x) rfl rfl rfl Try.underlying33 sz3 (by omega) (by omega) (by omega)) ?_
                  refine WL.store (H2 := [.cel b1 #[.slice none 0 0, .slice none 0 0, .slice none 0 0, .slice none 0 0, .int .i64 0, .bool false] 116, .cel g0 (irow n (Ec.lay k s).o) 3, .cel g1 (irow n (upI s.e k (-1))) 3, .cel g2 (irow n (upI (upI s.d k (-1)) x (k : Int))) 3, .cel g3 (irow n (upI (upI s.t k (s.l.length : Int)) k ((s.l.length : Int) - 1))) 3, .cel b #[.slice (some ⟨g0, 0, none⟩) n n, .slice (some ⟨g1, 0, none⟩) n n, .slice (some ⟨g2, 0, none⟩) n n, .slice (some ⟨g3, 0, none⟩) n n, .int .i64 (s.m : Int), .bool true] 116, .own (.slice (some ⟨g, 0, none⟩) s.l.length cp) s.l.length (Ec.lI s.l) 3 1, .cel b19 #[vI (c k), vI (A k), vI (B k)] 75]) 3 hH104 rfl rfl rfl rfl rfl rfl sz3 rfl (by simp [size_irow]; omega) (irow_set _ _ _ _) rfl ?_
                  intro w134 hH135
                  refine WL.nil (WQ.then (hK133 _ _ _ (WC.region ?_)))
                  refine WL.z (v := vS g s.l.length cp) 154 ?_
                  refine WL.z (v := vS g s.l.length cp) 155 ?_
                  refine WL.z (v := vI (s.l.length : Int)) 156 ?_
                  refine WL.y (v := vI ((s.l.length - 1 : Nat) : Int)) 157 (x_sub (Z := ((s.l.length - 1 : Nat) : Int)) rfl rfl rfl (by omega) (by omega) (by omega)) ?_
                  refine WL.y (v := vS g (s.l.length - 1) cp) 158 (x_sliceH (s.l.length - 1) rfl rfl rfl Try.underlying33 rfl (by omega) sz3) ?_
                  have hH136 : HP Tr w _ [.cel b1 #[.slice none 0 0, .slice none 0 0, .slice none 0 0, .slice none 0 0, .int .i64 0, .bool false] 116, .cel g0 (irow n (Ec.lay k s).o) 3, .cel g1 (irow n (upI s.e k (-1))) 3, .cel g2 (irow n (upI (upI s.d k (-1)) x (k : Int))) 3, .cel g3 (irow n (upI (upI s.t k (s.l.length : Int)) k ((s.l.length : Int) - 1))) 3, .cel b #[.slice (some ⟨g0, 0, none⟩) n n, .slice (some ⟨g1, 0, none⟩) n n, .slice (some ⟨g2, 0, none⟩) n n, .slice (some ⟨g3, 0, none⟩) n n, .int .i64 (s.m : Int), .bool true] 116, .own (.slice (some ⟨g, 0, none⟩) (s.l.length - 1) cp) (s.l.length - 1) (Ec.lI s.l.dropLast) 3 1, .cel b19 #[vI (c k), vI (A k), vI (B k)] 75] := HP.repl hH135 6 rfl (own_pop (HP.get hH135 6 rfl) (by simp)) rfl
                  refine WL.z (v := vS g (s.l.length - 1) cp) 5 ?_
                  refine WL.nil (WQ.inNormal (WQ.inNormal (WQ.then (hK17 _ _ _ ?_))))
                  refine WC.sub (l' := [(0, .slice (some ⟨bb, oo, none⟩) n cap), (2, vP b1 0), (3, vI (n : Int)), (4, vP b 0), (5, vS g (s.l.length - 1) cp), (6, vI (k : Int)), (7, vP b19 0), (8, vI (x : Int)), (9, .bool false), (21, .slice (some ⟨bb, oo, none⟩) n cap), (22, vI (n : Int)), (23, vI (k : Int)), (24, .bool true), (59, .bool (opn (c k))), (73, .bool true), (84, .bool false), (115, .bool false), (146, .bool false)]) ⟨rfl, rfl, rfl, rfl, rfl, rfl, rfl, rfl, rfl, rfl, rfl, rfl, rfl, rfl, rfl, rfl, rfl, rfl, trivial⟩ ?_
                  refine WC.region ?_
                  refine WL.y (v := vI ((k + 1 : Nat) : Int)) 159 (x_add (Z := ((k + 1 : Nat) : Int)) rfl rfl rfl (by omega) (by omega) (by omega)) ?_
                  refine WL.z (v := vI ((k + 1 : Nat) : Int)) 23 ?_
                  refine WL.nil ?_
                  obtain ⟨s1, hs1⟩ : ∃ s1 : Sh, s1 = ⟨s.l.dropLast, (Ec.lay k s).o, (upI s.e k (-1)), (upI (upI s.d k (-1)) x (k : Int)), (upI (upI s.t k (s.l.length : Int)) k ((s.l.length : Int) - 1)), s.m⟩ := ⟨_, rfl⟩
                  have hsN : shp c (k + 1) = some s1 := by
                    rw [hs1]
                    exact shp_step hs (stp_end_ok hA h35 hx (show ¬ (c x = 33 ∧ upI s.e k (-1) x < 0) by omega))
                  have el : s1.l.length = s.l.length - 1 := by rw [hs1]; simp
                  have eI : Ec.lI s1.l = Ec.lI s.l.dropLast := by rw [hs1]
                  have hN := HP.eq (H' := [.cel b1 #[.slice none 0 0, .slice none 0 0, .slice none 0 0, .slice none 0 0, .int .i64 0, .bool false] 116, .cel g0 (irow n s1.o) 3, .cel g1 (irow n s1.e) 3, .cel g2 (irow n s1.d) 3, .cel g3 (irow n s1.t) 3, .cel b #[.slice (some ⟨g0, 0, none⟩) n n, .slice (some ⟨g1, 0, none⟩) n n, .slice (some ⟨g2, 0, none⟩) n n, .slice (some ⟨g3, 0, none⟩) n n, .int .i64 (s1.m : Int), .bool true] 116, .own (vS g (s.l.length - 1) cp) s1.l.length (Ec.lI s1.l) 3 1]) (HP.drop hH136 7) (by rw [el, eI]; subst hs1; rfl)
                  refine WQ.sub (l' := [(0, .slice (some ⟨bb, oo, none⟩) n cap), (2, vP b1 0), (3, vI (n : Int)), (4, vP b 0), (5, vS g (s.l.length - 1) cp), (21, .slice (some ⟨bb, oo, none⟩) n cap), (22, vI (n : Int)), (23, vI ((k + 1 : Nat) : Int))]) ⟨rfl, rfl, rfl, rfl, rfl, rfl, rfl, rfl, trivial⟩ ?_
                  refine WQ.then (hK12 _ _ _ (by omega) ⟨k + 1, s1, vS g (s.l.length - 1) cp, rfl, rfl, by omega, hsN, hN⟩)
          ·
            refine WL.y (v := .bool false) 80 (x_eql rfl rfl rfl (dF (h35))) ?_
            refine WL.z (v := .bool false) 81 ?_
            refine WL.z (v := .bool false) 73 ?_
            refine WL.nil (WQ.then (hK44 _ _ _ ?_))
            refine WC.sub (l' := [(0, .slice (some ⟨bb, oo, none⟩) n cap), (2, vP b1 0), (3, vI (n : Int)), (4, vP b 0), (5, .slice pv s.l.length cp), (6, vI (k : Int)), (7, vP b19 0), (21, .slice (some ⟨bb, oo, none⟩) n cap), (22, vI (n : Int)), (23, vI (k : Int)), (24, .bool true), (59, .bool (opn (c k))), (73, .bool false)]) ⟨rfl, rfl, rfl, rfl, rfl, rfl, rfl, rfl, rfl, rfl, rfl, rfl, rfl, trivial⟩ ?_
            refine WC.no rfl (WC.skip (WQ.inNormal (WQ.inNormal (WQ.then (hK17 _ _ _ (WC.region ?_))))))
            refine WL.y (v := vI ((k + 1 : Nat) : Int)) 159 (x_add (Z := ((k + 1 : Nat) : Int)) rfl rfl rfl (by omega) (by omega) (by omega)) ?_
            refine WL.z (v := vI ((k + 1 : Nat) : Int)) 23 ?_
            refine WL.nil ?_
            obtain ⟨s1, hs1⟩ : ∃ s1 : Sh, s1 = ⟨s.l, (Ec.lay k s).o, (upI s.e k (-1)), (upI s.d k (-1)), (upI s.t k (s.l.length : Int)), s.m⟩ := ⟨_, rfl⟩
            have hsN : shp c (k + 1) = some s1 := by
              rw [hs1]
              exact shp_step hs (stp_other hA h34 h35)
            have el : s1.l.length = s.l.length := by rw [hs1]
            have eI : Ec.lI s1.l = Ec.lI s.l := by rw [hs1]
            have hN := HP.eq (H' := [.cel b1 #[.slice none 0 0, .slice none 0 0, .slice none 0 0, .slice none 0 0, .int .i64 0, .bool false] 116, .cel g0 (irow n s1.o) 3, .cel g1 (irow n s1.e) 3, .cel g2 (irow n s1.d) 3, .cel g3 (irow n s1.t) 3, .cel b #[.slice (some ⟨g0, 0, none⟩) n n, .slice (some ⟨g1, 0, none⟩) n n, .slice (some ⟨g2, 0, none⟩) n n, .slice (some ⟨g3, 0, none⟩) n n, .int .i64 (s1.m : Int), .bool true] 116, .own (.slice pv s.l.length cp) s1.l.length (Ec.lI s1.l) 3 1]) (HP.drop hH32 7) (by rw [el, eI]; subst hs1; rfl)
            refine WQ.sub (l' := [(0, .slice (some ⟨bb, oo, none⟩) n cap), (2, vP b1 0), (3, vI (n : Int)), (4, vP b 0), (5, .slice pv s.l.length cp), (21, .slice (some ⟨bb, oo, none⟩) n cap), (22, vI (n : Int)), (23, vI ((k + 1 : Nat) : Int))]) ⟨rfl, rfl, rfl, rfl, rfl, rfl, rfl, rfl, trivial⟩ ?_
            refine WQ.then (hK12 _ _ _ (by omega) ⟨k + 1, s1, .slice pv s.l.length cp, rfl, rfl, by omega, hsN, hN⟩)
  ·
    refine WL.y (v := .bool false) 24 (x_lss rfl rfl rfl (dF (hlt))) ?_
    refine WL.nil (WQ.then (hK15 _ _ _ (WC.seq fun K137 hK137 => WC.no rfl (WC.exit (WQ.thenExit (WQ.thenExit ?_))))))
    refine WQ.inExit (WQ.then (hK10 _ _ _ (WC.seq fun K138 hK138 => ?_)))
    obtain rfl : n = k := by omega
    refine WC.region ?_
    refine WL.z (v := .slice pv s.l.length cp) 160 ?_
    refine WL.z (v := vI (s.l.length : Int)) 161 ?_
    by_cases hl : (s.l.length : Int) = 0
    ·
      refine WL.y (v := .bool true) 162 (x_eql rfl rfl rfl (dT (hl))) ?_
      refine WL.z (v := .bool true) 163 ?_
      refine WL.z (v := vP b 4) 164 ?_
      refine WL.y (v := vI (s.m : Int)) 165 (x_load rfl rfl Try.underlying3 rfl (HP.cell hH14 5 rfl rfl)) ?_
      by_cases hm : (s.m : Int) ≤ 6
      ·
        refine WL.y (v := .bool true) 166 (x_leq rfl rfl rfl (dT (hm))) ?_
        refine WL.z (v := .bool true) 167 ?_
        refine WL.z (v := vP b 5) 168 ?_
        refine WL.store (H2 := [.cel b1 #[.slice none 0 0, .slice none 0 0, .slice none 0 0, .slice none 0 0, .int .i64 0, .bool false] 116, .cel g0 (irow n s.o) 3, .cel g1 (irow n s.e) 3, .cel g2 (irow n s.d) 3, .cel g3 (irow n s.t) 3, .cel b #[.slice (some ⟨g0, 0, none⟩) n n, .slice (some ⟨g1, 0, none⟩) n n, .slice (some ⟨g2, 0, none⟩) n n, .slice (some ⟨g3, 0, none⟩) n n, .int .i64 (s.m : Int), .bool true] 116, .own (.slice pv s.l.length cp) s.l.length (Ec.lI s.l) 3 1]) 5 hH14 rfl rfl rfl rfl rfl rfl sz4 rfl (Nat.le_of_ble_eq_true rfl) rfl rfl ?_
        intro w139 hH140
        refine WL.nil (WQ.then (hK138 _ _ _ ?_))
        refine WC.sub (l' := [(0, .slice p n cap), (2, vP b1 0), (3, vI (n : Int)), (4, vP b 0), (5, .slice pv s.l.length cp), (21, .slice p n cap), (22, vI (n : Int)), (23, vI (n : Int)), (24, .bool false)]) ⟨rfl, rfl, rfl, rfl, rfl, rfl, rfl, rfl, rfl, trivial⟩ ?_
        refine WC.seq fun K141 hK141 => WC.region ?_
        refine WL.y (v := .agg #[vS g0 n n, vS g1 n n, vS g2 n n, vS g3 n n, vI (s.m : Int), .bool true]) 169 (x_loadS (cs := [.slice (some ⟨g0, 0, none⟩) n n, .slice (some ⟨g1, 0, none⟩) n n, .slice (some ⟨g2, 0, none⟩) n n, .slice (some ⟨g3, 0, none⟩) n n, .int .i64 (s.m : Int), .bool true]) rfl rfl Try.underlying116 rfl sz116 (HP.range hH140 5 rfl rfl)) ?_
        refine WL.storeS (H2 := [.cel b1 #[vS g0 n n, vS g1 n n, vS g2 n n, vS g3 n n, vI (s.m : Int), .bool true] 116, .cel g0 (irow n s.o) 3, .cel g1 (irow n s.e) 3, .cel g2 (irow n s.d) 3, .cel g3 (irow n s.t) 3, .cel b #[.slice (some ⟨g0, 0, none⟩) n n, .slice (some ⟨g1, 0, none⟩) n n, .slice (some ⟨g2, 0, none⟩) n n, .slice (some ⟨g3, 0, none⟩) n n, .int .i64 (s.m : Int), .bool true] 116, .own (.slice pv s.l.length cp) s.l.length (Ec.lI s.l) 3 1]) 0 hH140 rfl rfl rfl rfl rfl rfl sz116 rfl (Nat.le_of_ble_eq_true rfl) rfl rfl ?_
        intro w142 hH143
        refine WL.nil (WQ.then (hK141 _ _ _ (WC.ret ?_)))
        refine WQ.retC 2 116 rfl rfl (HP.loadRow hH143 0 rfl Try.underlying116 rfl sz116) ?_
        have hOK : okS c n = true := okS_yes hs (by omega) (by omega)
        refine ⟨g0, g1, g2, g3, (s.m : Int), s, by rw [hOK], ?_, ?_⟩
        · exact HP.drop (HP.drop (HP.drop hH143 6) 5) 0
        · exact fun _ => ⟨hs, rfl⟩
      ·
        refine WL.y (v := .bool false) 166 (x_leq rfl rfl rfl (dF (hm))) ?_
        refine WL.z (v := .bool false) 167 ?_
        refine WL.z (v := vP b 5) 168 ?_
        refine WL.store (H2 := [.cel b1 #[.slice none 0 0, .slice none 0 0, .slice none 0 0, .slice none 0 0, .int .i64 0, .bool false] 116, .cel g0 (irow n s.o) 3, .cel g1 (irow n s.e) 3, .cel g2 (irow n s.d) 3, .cel g3 (irow n s.t) 3, .cel b #[.slice (some ⟨g0, 0, none⟩) n n, .slice (some ⟨g1, 0, none⟩) n n, .slice (some ⟨g2, 0, none⟩) n n, .slice (some ⟨g3, 0, none⟩) n n, .int .i64 (s.m : Int), .bool false] 116, .own (.slice pv s.l.length cp) s.l.length (Ec.lI s.l) 3 1]) 5 hH14 rfl rfl rfl rfl rfl rfl sz4 rfl (Nat.le_of_ble_eq_true rfl) rfl rfl ?_
        intro w144 hH145
        refine WL.nil (WQ.then (hK138 _ _ _ ?_))
        refine WC.sub (l' := [(0, .slice p n cap), (2, vP b1 0), (3, vI (n : Int)), (4, vP b 0), (5, .slice pv s.l.length cp), (21, .slice p n cap), (22, vI (n : Int)), (23, vI (n : Int)), (24, .bool false)]) ⟨rfl, rfl, rfl, rfl, rfl, rfl, rfl, rfl, rfl, trivial⟩ ?_
        refine WC.seq fun K146 hK146 => WC.region ?_
        refine WL.y (v := .agg #[vS g0 n n, vS g1 n n, vS g2 n n, vS g3 n n, vI (s.m : Int), .bool false]) 169 (x_loadS (cs := [.slice (some ⟨g0, 0, none⟩) n n, .slice (some ⟨g1, 0, none⟩) n n, .slice (some ⟨g2, 0, none⟩) n n, .slice (some ⟨g3, 0, none⟩) n n, .int .i64 (s.m : Int), .bool false]) rfl rfl Try.underlying116 rfl sz116 (HP.range hH145 5 rfl rfl)) ?_
        refine WL.storeS (H2 := [.cel b1 #[vS g0 n n, vS g1 n n, vS g2 n n, vS g3 n n, vI (s.m : Int), .bool false] 116, .cel g0 (irow n s.o) 3, .cel g1 (irow n s.e) 3, .cel g2 (irow n s.d) 3, .cel g3 (irow n s.t) 3, .cel b #[.slice (some ⟨g0, 0, none⟩) n n, .slice (some ⟨g1, 0, none⟩) n n, .slice (some ⟨g2, 0, none⟩) n n, .slice (some ⟨g3, 0, none⟩) n n, .int .i64 (s.m : Int), .bool false] 116, .own (.slice pv s.l.length cp) s.l.length (Ec.lI s.l) 3 1]) 0 hH145 rfl rfl rfl rfl rfl rfl sz116 rfl (Nat.le_of_ble_eq_true rfl) rfl rfl ?_
        intro w147 hH148
        refine WL.nil (WQ.then (hK146 _ _ _ (WC.ret ?_)))
        refine WQ.retC 2 116 rfl rfl (HP.loadRow hH148 0 rfl Try.underlying116 rfl sz116) ?_
        have hOK : okS c n = false := okS_no hs (by omega)
        refine ⟨g0, g1, g2, g3, (s.m : Int), ⟨[], s.o, s.e, s.d, s.t, 0⟩, by rw [hOK], ?_, ?_⟩
        · exact HP.drop (HP.drop (HP.drop hH148 6) 5) 0
        · intro hq; rw [hOK] at hq; cases hq
    ·
      refine WL.y (v := .bool false) 162 (x_eql rfl rfl rfl (dF (hl))) ?_
      refine WL.z (v := .bool false) 163 ?_
      refine WL.pass 164 rfl (by decide) rfl ?_
      refine WL.pass 165 rfl (by decide) rfl ?_
      refine WL.pass 166 rfl (by decide) rfl ?_
      refine WL.z (v := .bool false) 167 ?_
      refine WL.z (v := vP b 5) 168 ?_
      refine WL.store (H2 := [.cel b1 #[.slice none 0 0, .slice none 0 0, .slice none 0 0, .slice none 0 0, .int .i64 0, .bool false] 116, .cel g0 (irow n s.o) 3, .cel g1 (irow n s.e) 3, .cel g2 (irow n s.d) 3, .cel g3 (irow n s.t) 3, .cel b #[.slice (some ⟨g0, 0, none⟩) n n, .slice (some ⟨g1, 0, none⟩) n n, .slice (some ⟨g2, 0, none⟩) n n, .slice (some ⟨g3, 0, none⟩) n n, .int .i64 (s.m : Int), .bool false] 116, .own (.slice pv s.l.length cp) s.l.length (Ec.lI s.l) 3 1]) 5 hH14 rfl rfl rfl rfl rfl rfl sz4 rfl (Nat.le_of_ble_eq_true rfl) rfl rfl ?_
      intro w149 hH150
      refine WL.nil (WQ.then (hK138 _ _ _ ?_))
      refine WC.sub (l' := [(0, .slice p n cap), (2, vP b1 0), (3, vI (n : Int)), (4, vP b 0), (5, .slice pv s.l.length cp), (21, .slice p n cap), (22, vI (n : Int)), (23, vI (n : Int)), (24, .bool false)]) ⟨rfl, rfl, rfl, rfl, rfl, rfl, rfl, rfl, rfl, trivial⟩ ?_
      refine WC.seq fun K151 hK151 => WC.region ?_
      refine WL.y (v := .agg #[vS g0 n n, vS g1 n n, vS g2 n n, vS g3 n n, vI (s.m : Int), .bool false]) 169 (x_loadS (cs := [.slice (some ⟨g0, 0, none⟩) n n, .slice (some ⟨g1, 0, none⟩) n n, .slice (some ⟨g2, 0, none⟩) n n, .slice (some ⟨g3, 0, none⟩) n n, .int .i64 (s.m : Int), .bool false]) rfl rfl Try.underlying116 rfl sz116 (HP.range hH150 5 rfl rfl)) ?_
      refine WL.storeS (H2 := [.cel b1 #[vS g0 n n, vS g1 n n, vS g2 n n, vS g3 n n, vI (s.m : Int), .bool false] 116, .cel g0 (irow n s.o) 3, .cel g1 (irow n s.e) 3, .cel g2 (irow n s.d) 3, .cel g3 (irow n s.t) 3, .cel b #[.slice (some ⟨g0, 0, none⟩) n n, .slice (some ⟨g1, 0, none⟩) n n, .slice (some ⟨g2, 0, none⟩) n n, .slice (some ⟨g3, 0, none⟩) n n, .int .i64 (s.m : Int), .bool false] 116, .own (.slice pv s.l.length cp) s.l.length (Ec.lI s.l) 3 1]) 0 hH150 rfl rfl rfl rfl rfl rfl sz116 rfl (Nat.le_of_ble_eq_true rfl) rfl rfl ?_
      intro w152 hH153
      refine WL.nil (WQ.then (hK151 _ _ _ (WC.ret ?_)))
      refine WQ.retC 2 116 rfl rfl (HP.loadRow hH153 0 rfl Try.underlying116 rfl sz116) ?_
      have hOK : okS c n = false := okS_no hs (by omega)
      refine ⟨g0, g1, g2, g3, (s.m : Int), ⟨[], s.o, s.e, s.d, s.t, 0⟩, by rw [hOK], ?_, ?_⟩
      · exact HP.drop (HP.drop (HP.drop hH153 6) 5) 0
      · intro hq; rw [hOK] at hq; cases hq
end Ec
end Go.Proofs.Ytmjnakhpekbenaa
namespace Go.Proofs.Ytmjnakhpekbenaa
open Go.RowKit Fw
namespace Ec
/-- are all instructions valid? -/
def allV (c A B : Nat → Int) (pl : Bool) (n : Nat) : Bool := (List.range n).all fun i => vld (c i) (A i) (B i) pl
theorem allV_spec {c A B : Nat → Int} {pl : Bool} {n : Nat} : allV c A B pl n = true ↔ ∀ i, i < n → vld (c i) (A i) (B i) pl = true := by
  unfold allV; rw [List.all_eq_true]; simp
theorem allV_iff {c A B : Nat → Int} {pl : Bool} {n : Nat} {r : Int} (h : r < 0 ↔ ∀ i, i < n → vld (c i) (A i) (B i) pl = true) : decide (0 ≤ r) = !allV c A B pl n := by
  rw [← allV_spec] at h
  cases hv : allV c A B pl n
  · rw [hv] at h
    exact decide_eq_true (by have := fun q => (h.1 q); by_cases hq : r < 0; exact absurd (this hq) Bool.false_ne_true; omega)
  · have := h.2 hv
    exact decide_eq_false (by omega)
/-- the error of a code -/
def chk (c A B : Nat → Int) (pl : Bool) (n : Nat) : Int := if 120 < n then 2 else if (!allV c A B pl n) = true then 1 else if (!okS c n) = true then 7 else 0
theorem chk_ok {c A B : Nat → Int} {pl : Bool} {n : Nat} (h : chk c A B pl n = 0) : n ≤ 120 ∧ allV c A B pl n = true ∧ okS c n = true := by
  unfold chk at h
  by_cases h1 : 120 < n
  · rw [if_pos h1] at h; omega
  · rw [if_neg h1] at h
    cases h2 : allV c A B pl n
    · rw [h2] at h; simp at h
    · cases h3 : okS c n
      · rw [h2, h3] at h; simp at h
      · exact ⟨by omega, rfl, rfl⟩
/-- the error of an index into a code -/
def idE (c A B : Nat → Int) (n : Nat) (at' : Int) : Int := if chk c A B false n = 0 then (if 0 ≤ at' ∧ at' < n then 0 else 1) else chk c A B false n
def IdxR (w : World) (c A B : Nat → Int) (n : Nat) (at' : Int) (e : Ending) (w' : World) : Prop :=
  (∃ er : Int, er ≠ 0 ∧ e = .returned (.tuple #[.agg #[.slice none 0 0, .slice none 0 0, .slice none 0 0, .slice none 0 0, .int .i64 0, .bool false], .int .i64 er]) ∧ idE c A B n at' = er ∧ Below w.heap.size w w') ∨
  (0 ≤ at' ∧ at' < n ∧ idE c A B n at' = 0 ∧ ∃ (g0 g1 g2 g3 : Nat) (s : Sh), e = .returned (.tuple #[.agg #[.slice (some ⟨g0, 0, none⟩) n n, .slice (some ⟨g1, 0, none⟩) n n, .slice (some ⟨g2, 0, none⟩) n n, .slice (some ⟨g3, 0, none⟩) n n, .int .i64 (s.m : Int), .bool true], .int .i64 0]) ∧
    shp c n = some s ∧ HP Tr w w' [.cel g0 (irow n s.o) 3, .cel g1 (irow n s.e) 3, .cel g2 (irow n s.d) 3, .cel g3 (irow n s.t) 3])
def shD (c : Nat → Int) (n : Nat) : Sh := (shp c n).getD ⟨[], fun _ => 0, fun _ => 0, fun _ => 0, fun _ => 0, 0⟩
/-- what Match returns -/
def mtc (c A B : Nat → Int) (n : Nat) (at' : Int) : Value :=
  if idE c A B n at' ≠ 0 then .tuple #[.int .i64 0, .int .i64 0, .int .i64 (idE c A B n at')]
  else if opn (c at'.toNat) = false then .tuple #[.int .i64 0, .int .i64 0, .int .i64 3]
  else .tuple #[.int .i64 ((shD c n).e at'.toNat), .int .i64 ((shD c n).d at'.toNat), .int .i64 0]
theorem mtc_bad {c A B : Nat → Int} {n : Nat} {at' er : Int} (h : er ≠ 0) (hE : idE c A B n at' = er) : mtc c A B n at' = .tuple #[.int .i64 0, .int .i64 0, .int .i64 er] := by
  unfold mtc; rw [if_pos (by rw [hE]; exact h), hE]
theorem mtc_none {c A B : Nat → Int} {n k : Nat} (hE : idE c A B n (k : Int) = 0) (hO : opn (c k) = false) : mtc c A B n (k : Int) = .tuple #[.int .i64 0, .int .i64 0, .int .i64 3] := by
  unfold mtc; rw [if_neg (by rw [hE]; simp), if_pos (by simpa using hO)]
theorem mtc_ok {c A B : Nat → Int} {n k : Nat} {s : Sh} (hE : idE c A B n (k : Int) = 0) (hO : opn (c k) = true) (hs : shp c n = some s) : mtc c A B n (k : Int) = .tuple #[.int .i64 (s.e k), .int .i64 (s.d k), .int .i64 0] := by
  unfold mtc; rw [if_neg (by rw [hE]; simp), if_neg (by simp [hO])]; unfold shD; rw [hs]; simp
set_option maxRecDepth 20000 in
set_option maxHeartbeats 4000000 in
theorem chk1_any (op a b : Int) (pl : Bool) (q : Nat) (w : World) (hq : w.cell? ⟨q, 0, none⟩ = some (.bool pl)) :
    Calls Try.prog 116 #[.agg #[vI op, vI a, vI b], vP q 0] w fun e w' => e = .returned (.bool (!vld op a b pl)) ∧ Below w.heap.size w w' := by
  refine calls_of Try.func116 rfl (m := 8) rfl [(0, .agg #[vI op, vI a, vI b]), (1, vP q 0)] (Fr_enter [.agg #[vI op, vI a, vI b], vP q 0] 8 (Nat.le_of_ble_eq_true rfl)) ?_
  have hH1 : HP Tr w w [] := HP.refl w
  refine WC.seq fun K2 hK2 => WC.region ?_
  refine WL.alloc (c := #[vI op, vI a, vI b]) (T := 75) hH1 2 rfl (by decide) rfl rfl (fun b3 => vP b3 0) (by kernel_rfl) (fun b3 w4 hw4 => ?_)
  have hH5 : HP Tr w w4 [.cel b3 #[vI op, vI a, vI b] 75] := hw4.2
  have nb3 := hw4.1
  clear hw4
  refine WL.z (v := .bool false) 3 ?_
  refine WL.nil (WQ.then (hK2 _ _ _ (WC.seq fun K6 hK6 => WC.region ?_)))
  refine WL.y (v := .agg #[vI op, vI a, vI b]) 4 (x_loadS (cs := [vI op, vI a, vI b]) rfl rfl Try.underlying75 rfl sz75 (HP.range hH5 0 rfl rfl)) ?_
  refine WL.y (v := .bool pl) 5 (x_load rfl rfl Try.underlying4 rfl (HP.old hH5 trivial hq)) ?_
  refine WL.call (f := 117) (args := #[.agg #[vI op, vI a, vI b], .bool pl]) 6 rfl (Nat.le_of_ble_eq_true rfl) rfl rfl (by kernel_rfl) ?_
  refine (Valid_any _ _ _ _ _).mono ?_
  rintro e w7 ⟨rfl, hb8⟩
  refine ⟨_, rfl, ?_⟩
  have hH9 : HP Tr w _ [.cel b3 #[vI op, vI a, vI b] 75] := HP.call hH5 hb8
  refine WL.z (v := .bool (!(vld op a b pl))) 7 ?_
  refine WL.z (v := .bool (!(vld op a b pl))) 3 ?_
  refine WL.nil (WQ.then (hK6 _ _ _ ?_))
  refine WC.sub (l' := [(0, .agg #[vI op, vI a, vI b]), (2, vP b3 0), (3, .bool (!(vld op a b pl)))]) ⟨rfl, rfl, rfl, trivial⟩ ?_
  refine WC.ret ?_
  refine WQ.ret1 3 rfl rfl ?_
  exact ⟨rfl, HP.below hH9⟩
set_option maxRecDepth 20000 in
set_option maxHeartbeats 4000000 in
theorem idx_any (p : Option Addr) (n cap : Nat) (c A B : Nat → Int) (pl : Bool) (q : Nat) (w : World) (hIn : InC w p n c A B) (hn : n ≤ 400) (hq : w.cell? ⟨q, 0, none⟩ = some (.bool pl)) :
    Calls Try.prog 118 #[.slice p n cap, .func (.func 116) #[] #[vP q 0]] w fun e w' => ∃ r : Int, e = .returned (.int .i64 r) ∧ (r < 0 ↔ ∀ i, i < n → vld (c i) (A i) (B i) pl = true) ∧ Below w.heap.size w w' := by
  refine calls_of Try.func118 rfl (m := 19) rfl [(0, .slice p n cap), (1, .func (.func 116) #[] #[vP q 0])] (Fr_enter [.slice p n cap, .func (.func 116) #[] #[vP q 0]] 19 (Nat.le_of_ble_eq_true rfl)) ?_
  have hH1 : HP Tr w w [] := HP.refl w
  refine WC.seq fun K2 hK2 => WC.region ?_
  refine WL.z (v := vI 0) 4 ?_
  refine WL.nil (WQ.then (hK2 _ _ _ (WC.seq fun K3 hK3 => WC.seq fun K4 hK4 => WC.region ?_)))
  refine WL.z (v := .slice p n cap) 6 ?_
  refine WL.z (v := vI (n : Int)) 7 ?_
  refine WL.z (v := vI 0) 8 ?_
  refine WL.nil (WQ.then (hK4 _ _ _ (WC.block ?_)))
  refine WC.loop (fun kk0 ll0 ww0 => ∃ (k : Nat), ll0 = [(0, .slice p n cap), (1, .func (.func 116) #[] #[vP q 0]), (7, vI (n : Int)), (8, vI (k : Int))] ∧ kk0 = n - k ∧ (k ≤ n) ∧ (∀ i, i < k → vld (c i) (A i) (B i) pl = true) ∧ HP Tr w ww0 []) (n) [(0, .slice p n cap), (1, .func (.func 116) #[] #[vP q 0]), (7, vI (n : Int)), (8, vI 0)] ⟨rfl, rfl, rfl, rfl, trivial⟩ ⟨0, rfl, rfl, Nat.zero_le n, fun i hi => absurd hi (Nat.not_lt_zero i), hH1⟩ ?_
  rintro kk l w6 ⟨k, rfl, hkk, hk, hv, hH7⟩ K5 hK5
  refine WC.seq fun K8 hK8 => WC.region ?_
  by_cases hlt : (k : Int) < (n : Int)
  ·
    refine WL.y (v := .bool true) 9 (x_lss rfl rfl rfl (dT (hlt))) ?_
    refine WL.nil (WQ.then (hK8 _ _ _ (WC.seq fun K9 hK9 => WC.yes rfl (WC.skip (WQ.then (hK9 _ _ _ ?_))))))
    refine WC.seq fun K10 hK10 => WC.block (WC.seq fun K11 hK11 => WC.region ?_)
    refine WL.z (v := vI (k : Int)) 10 ?_
    refine WL.z (v := vI (k : Int)) 5 ?_
    refine WL.nil (WQ.then (hK11 _ _ _ (WC.seq fun K12 hK12 => ?_)))
    have hlt' : k < n := by omega
    obtain ⟨bb, oo, rfl, hrow⟩ := hIn (by omega)
    refine WC.region ?_
    refine WL.z (v := .func (.func 116) #[] #[vP q 0]) 11 ?_
    refine WL.z (v := .slice (some ⟨bb, oo, none⟩) n cap) 12 ?_
    refine WL.z (v := vI (k : Int)) 13 ?_
    refine WL.y (v := vP bb (oo + k * 3)) 14 (x_idx (k) (oo + k * 3) rfl rfl rfl Try.underlying42 sz75 (by omega) (by omega) (by omega)) ?_
    refine WL.y (v := .agg #[vI (c k), vI (A k), vI (B k)]) 15 (x_loadS (cs := [vI (c k), vI (A k), vI (B k)]) rfl rfl Try.underlying75 rfl sz75 (HP.oldRange hH7 trivial (hrow k (by omega)))) ?_
    refine WL.call (f := 116) (args := #[.agg #[vI (c k), vI (A k), vI (B k)], vP q 0]) 16 rfl (Nat.le_of_ble_eq_true rfl) rfl rfl (by kernel_rfl) ?_
    refine (chk1_any _ _ _ pl q _ (HP.old hH7 trivial hq)).mono ?_
    rintro e w13 ⟨rfl, hb14⟩
    refine ⟨_, rfl, ?_⟩
    have hH15 : HP Tr w _ [] := HP.call hH7 hb14
    refine WL.nil (WQ.then (hK12 _ _ _ ?_))
    refine WC.sub (l' := [(0, .slice (some ⟨bb, oo, none⟩) n cap), (1, .func (.func 116) #[] #[vP q 0]), (5, vI (k : Int)), (7, vI (n : Int)), (8, vI (k : Int)), (9, .bool true), (16, .bool (!vld (c k) (A k) (B k) pl))]) ⟨rfl, rfl, rfl, rfl, rfl, rfl, rfl, trivial⟩ ?_
    rcases Bool.eq_false_or_eq_true (vld (c k) (A k) (B k) pl) with hA | hA
    ·
      refine WC.no (congrArg (fun b => some (Value.bool (!b))) hA) ?_
      refine WC.skip (WQ.inNormal (WQ.then (hK10 _ _ _ (WC.region ?_))))
      refine WL.y (v := vI ((k + 1 : Nat) : Int)) 18 (x_add (Z := ((k + 1 : Nat) : Int)) rfl rfl rfl (by omega) (by omega) (by omega)) ?_
      refine WL.z (v := vI ((k + 1 : Nat) : Int)) 8 ?_
      refine WL.nil ?_
      refine WQ.sub (l' := [(0, .slice (some ⟨bb, oo, none⟩) n cap), (1, .func (.func 116) #[] #[vP q 0]), (7, vI (n : Int)), (8, vI ((k + 1 : Nat) : Int))]) ⟨rfl, rfl, rfl, rfl, trivial⟩ ?_
      refine WQ.then (hK5 _ _ _ (by omega) ⟨k + 1, rfl, rfl, by omega, fun i hi => (Nat.lt_succ_iff_lt_or_eq.1 hi).elim (hv i) (fun e => e ▸ hA), hH15⟩)
    ·
      refine WC.yes (congrArg (fun b => some (Value.bool (!b))) hA) ?_
      refine WC.seq fun K16 hK16 => WC.region ?_
      refine WL.z (v := vI (k : Int)) 17 ?_
      refine WL.z (v := vI (k : Int)) 4 ?_
      refine WL.nil (WQ.then (hK16 _ _ _ (WC.ret ?_)))
      refine WQ.inRet ?_
      refine WQ.thenRet ?_
      refine WQ.thenRet ?_
      refine WQ.inRet ?_
      refine WQ.thenRet ?_
      refine WQ.ret1 4 rfl rfl ?_
      exact ⟨k, rfl, ⟨fun h => absurd h (by omega), fun h => absurd (h k hlt') (by rw [hA]; exact Bool.false_ne_true)⟩, HP.below hH15⟩
  ·
    refine WL.y (v := .bool false) 9 (x_lss rfl rfl rfl (dF (hlt))) ?_
    refine WL.nil (WQ.then (hK8 _ _ _ (WC.seq fun K17 hK17 => WC.no rfl (WC.exit (WQ.thenExit (WQ.thenExit ?_))))))
    refine WQ.inExit (WQ.then (hK3 _ _ _ (WC.seq fun K18 hK18 => WC.region ?_)))
    refine WL.z (v := vI (-1)) 4 ?_
    refine WL.nil (WQ.then (hK18 _ _ _ (WC.ret ?_)))
    refine WQ.ret1 4 rfl rfl ?_
    exact ⟨-1, rfl, ⟨fun _ i hi => hv i (by omega), fun _ => by omega⟩, HP.below hH7⟩
set_option maxRecDepth 20000 in
set_option maxHeartbeats 4000000 in
theorem con_any (p : Option Addr) (n cap : Nat) (c A B : Nat → Int) (pl : Bool) (q : Nat) (w : World) (hIn : InC w p n c A B) (hn : n ≤ 400) (hq : w.cell? ⟨q, 0, none⟩ = some (.bool pl)) :
    Calls Try.prog 107 #[.slice p n cap, .func (.func 116) #[] #[vP q 0]] w fun e w' => e = .returned (.bool (!allV c A B pl n)) ∧ Below w.heap.size w w' := by
  refine calls_of Try.func107 rfl (m := 9) rfl [(0, .slice p n cap), (1, .func (.func 116) #[] #[vP q 0])] (Fr_enter [.slice p n cap, .func (.func 116) #[] #[vP q 0]] 9 (Nat.le_of_ble_eq_true rfl)) ?_
  have hH1 : HP Tr w w [] := HP.refl w
  refine WC.seq fun K2 hK2 => WC.region ?_
  refine WL.z (v := .bool false) 4 ?_
  refine WL.nil (WQ.then (hK2 _ _ _ (WC.seq fun K3 hK3 => WC.region ?_)))
  refine WL.z (v := .slice p n cap) 5 ?_
  refine WL.z (v := .func (.func 116) #[] #[vP q 0]) 6 ?_
  refine WL.call (f := 118) (args := #[.slice p n cap, .func (.func 116) #[] #[vP q 0]]) 7 rfl (Nat.le_of_ble_eq_true rfl) rfl rfl (by kernel_rfl) ?_
  refine (idx_any _ _ _ c A B pl q _ (hIn.below (HP.below hH1)) hn (HP.old hH1 trivial hq)).mono ?_
  rintro e w4 ⟨r, rfl, hr, hb5⟩
  refine ⟨_, rfl, ?_⟩
  have hH6 : HP Tr w _ [] := HP.call hH1 hb5
  have hr2 := allV_iff hr
  refine WL.y (v := .bool (!allV c A B pl n)) 8 (x_geq rfl rfl rfl hr2) ?_
  refine WL.z (v := .bool (!allV c A B pl n)) 4 ?_
  refine WL.nil (WQ.then (hK3 _ _ _ (WC.ret ?_)))
  refine WQ.ret1 4 rfl rfl ?_
  exact ⟨rfl, HP.below hH6⟩
set_option maxRecDepth 20000 in
set_option maxHeartbeats 4000000 in
theorem Check_any (p : Option Addr) (n cap : Nat) (c A B : Nat → Int) (pl : Bool) (w : World) (hIn : InC w p n c A B) (hn : n ≤ 400) :
    Calls Try.prog 106 #[.slice p n cap, .bool pl] w fun e w' => e = .returned (.int .i64 (chk c A B pl n)) ∧ Below w.heap.size w w' := by
  refine calls_of Try.func106 rfl (m := 18) rfl [(0, .slice p n cap), (1, .bool pl)] (Fr_enter [.slice p n cap, .bool pl] 18 (Nat.le_of_ble_eq_true rfl)) ?_
  have hH1 : HP Tr w w [] := HP.refl w
  refine WC.seq fun K2 hK2 => WC.region ?_
  refine WL.alloc (c := #[.bool pl]) (T := 4) hH1 3 rfl (by decide) rfl rfl (fun b1 => vP b1 0) (by kernel_rfl) (fun b1 w3 hw3 => ?_)
  have hH4 : HP Tr w w3 [.cel b1 #[.bool pl] 4] := hw3.2
  have nb1 := hw3.1
  clear hw3
  refine WL.z (v := vI 0) 4 ?_
  refine WL.nil (WQ.then (hK2 _ _ _ (WC.seq fun K5 hK5 => WC.block (WC.seq fun K6 hK6 => WC.region ?_))))
  refine WL.z (v := .slice p n cap) 6 ?_
  refine WL.z (v := vI (n : Int)) 7 ?_
  by_cases hl : (120 : Int) < (n : Int)
  ·
    refine WL.y (v := .bool true) 8 (x_gtr rfl rfl rfl (dT (hl))) ?_
    refine WL.z (v := .bool true) 5 ?_
    refine WL.nil (WQ.then (hK6 _ _ _ (WC.yes rfl (WC.seq fun K7 hK7 => WC.region ?_))))
    refine WL.z (v := vI 2) 4 ?_
    refine WL.nil (WQ.then (hK7 _ _ _ (WC.ret ?_)))
    refine WQ.inRet ?_
    refine WQ.thenRet ?_
    refine WQ.ret1 4 rfl rfl ?_
    exact ⟨by rw [show chk c A B pl n = 2 by unfold chk; rw [if_pos (by omega)]], HP.below hH4⟩
  ·
    refine WL.y (v := .bool false) 8 (x_gtr rfl rfl rfl (dF (hl))) ?_
    refine WL.z (v := .bool false) 5 ?_
    refine WL.nil (WQ.then (hK6 _ _ _ (WC.no rfl (WC.seq fun K8 hK8 => WC.region ?_))))
    refine WL.z (v := .slice p n cap) 10 ?_
    refine WL.z (v := .func (.func 116) #[] #[vP b1 0]) 11 ?_
    refine WL.call (f := 107) (args := #[.slice p n cap, .func (.func 116) #[] #[vP b1 0]]) 12 rfl (Nat.le_of_ble_eq_true rfl) rfl rfl (by kernel_rfl) ?_
    refine (con_any _ _ _ c A B pl b1 _ (hIn.below (HP.below hH4)) hn (HP.cell hH4 0 rfl rfl)).mono ?_
    rintro e w9 ⟨rfl, hb10⟩
    refine ⟨_, rfl, ?_⟩
    have hH11 : HP Tr w _ [.cel b1 #[.bool pl] 4] := HP.call hH4 hb10
    refine WL.z (v := .bool (!allV c A B pl n)) 9 ?_
    refine WL.nil (WQ.then (hK8 _ _ _ ?_))
    refine WC.sub (l' := [(0, .slice p n cap), (1, .bool pl), (3, vP b1 0), (4, vI 0), (5, .bool false), (9, .bool (!allV c A B pl n))]) ⟨rfl, rfl, rfl, rfl, rfl, rfl, trivial⟩ ?_
    rcases Bool.eq_false_or_eq_true (allV c A B pl n) with hA | hA
    ·
      refine WC.no (congrArg (fun b => some (Value.bool (!b))) hA) ?_
      refine WC.seq fun K12 hK12 => WC.region ?_
      refine WL.z (v := .slice p n cap) 14 ?_
      refine WL.call (f := 109) (args := #[.slice p n cap]) 15 rfl (Nat.le_of_ble_eq_true rfl) rfl rfl (by kernel_rfl) ?_
      refine (shapeH_any _ _ _ c A B _ (hIn.below (HP.below hH11)) hn).mono ?_
      rintro e w13 ⟨g0, g1, g2, g3, m, s, rfl, hb14, hok⟩
      refine ⟨_, rfl, ?_⟩
      have hH15 : HP Tr w _ [.cel b1 #[.bool pl] 4, .cel g0 (irow n s.o) 3, .cel g1 (irow n s.e) 3, .cel g2 (irow n s.d) 3, .cel g3 (irow n s.t) 3] := HP.trans hH11 hb14
      refine WL.z (v := .bool (okS c n)) 16 ?_
      refine WL.z (v := .bool (!(okS c n))) 17 ?_
      refine WL.z (v := .bool (!(okS c n))) 13 ?_
      refine WL.nil (WQ.then (hK12 _ _ _ ?_))
      rcases Bool.eq_false_or_eq_true (okS c n) with hO | hO
      ·
        refine WC.no (congrArg (fun b => some (Value.bool (!b))) hO) ?_
        refine WC.skip (WQ.inNormal (WQ.then (hK5 _ _ _ (WC.seq fun K16 hK16 => WC.region ?_))))
        refine WL.z (v := vI 0) 4 ?_
        refine WL.nil (WQ.then (hK16 _ _ _ (WC.ret ?_)))
        refine WQ.ret1 4 rfl rfl ?_
        exact ⟨by rw [show chk c A B pl n = 0 by unfold chk; rw [if_neg (by omega), hA, hO]; rfl], HP.below hH15⟩
      ·
        refine WC.yes (congrArg (fun b => some (Value.bool (!b))) hO) ?_
        refine WC.seq fun K17 hK17 => WC.region ?_
        refine WL.z (v := vI 7) 4 ?_
        refine WL.nil (WQ.then (hK17 _ _ _ (WC.ret ?_)))
        refine WQ.inRet ?_
        refine WQ.thenRet ?_
        refine WQ.ret1 4 rfl rfl ?_
        exact ⟨by rw [show chk c A B pl n = 7 by unfold chk; rw [if_neg (by omega), hA, hO]; rfl], HP.below hH15⟩
    ·
      refine WC.yes (congrArg (fun b => some (Value.bool (!b))) hA) ?_
      refine WC.seq fun K18 hK18 => WC.region ?_
      refine WL.z (v := vI 1) 4 ?_
      refine WL.nil (WQ.then (hK18 _ _ _ (WC.ret ?_)))
      refine WQ.inRet ?_
      refine WQ.thenRet ?_
      refine WQ.ret1 4 rfl rfl ?_
      exact ⟨by rw [show chk c A B pl n = 1 by unfold chk; rw [if_neg (by omega), hA]; rfl], HP.below hH11⟩
set_option maxRecDepth 20000 in
set_option maxHeartbeats 4000000 in
theorem indexed_any (p : Option Addr) (n cap : Nat) (c A B : Nat → Int) (at' : Int) (w : World) (hIn : InC w p n c A B) (hn : n ≤ 400) (h1 : -9223372036854775808 ≤ at') (h2 : at' ≤ 9223372036854775807) :
    Calls Try.prog 91 #[.slice p n cap, vI at'] w (IdxR w c A B n at') := by
  refine calls_of Try.func91 rfl (m := 24) rfl [(0, .slice p n cap), (1, vI at')] (Fr_enter [.slice p n cap, vI at'] 24 (Nat.le_of_ble_eq_true rfl)) ?_
  have hH1 : HP Tr w w [] := HP.refl w
  refine WC.seq fun K2 hK2 => WC.region ?_
  refine WL.alloc (c := #[.slice none 0 0, .slice none 0 0, .slice none 0 0, .slice none 0 0, vI 0, .bool false]) (T := 116) hH1 4 rfl (by decide) rfl rfl (fun b1 => vP b1 0) (by kernel_rfl) (fun b1 w3 hw3 => ?_)
  have hH4 : HP Tr w w3 [.cel b1 #[.slice none 0 0, .slice none 0 0, .slice none 0 0, .slice none 0 0, vI 0, .bool false] 116] := hw3.2
  have nb1 := hw3.1
  clear hw3
  refine WL.z (v := vI 0) 5 ?_
  refine WL.nil (WQ.then (hK2 _ _ _ (WC.seq fun K5 hK5 => WC.seq fun K6 hK6 => WC.region ?_)))
  refine WL.z (v := .slice p n cap) 7 ?_
  refine WL.call (f := 106) (args := #[.slice p n cap, .bool false]) 8 rfl (Nat.le_of_ble_eq_true rfl) rfl rfl (by kernel_rfl) ?_
  refine (Check_any _ _ _ c A B false _ (hIn.below (HP.below hH4)) hn).mono ?_
  rintro e w7 ⟨rfl, hb8⟩
  refine ⟨_, rfl, ?_⟩
  have hH9 : HP Tr w _ [.cel b1 #[.slice none 0 0, .slice none 0 0, .slice none 0 0, .slice none 0 0, vI 0, .bool false] 116] := HP.call hH4 hb8
  refine WL.z (v := vI (chk c A B false n)) 6 ?_
  refine WL.nil (WQ.then (hK6 _ _ _ (WC.seq fun K10 hK10 => WC.region ?_)))
  refine WL.z (v := vI (chk c A B false n)) 9 ?_
  by_cases hc : chk c A B false n ≠ 0
  ·
    refine WL.y (v := .bool true) 10 (x_neq rfl rfl rfl (dT (hc))) ?_
    refine WL.nil (WQ.then (hK10 _ _ _ (WC.yes rfl (WC.seq fun K11 hK11 => WC.region ?_))))
    refine WL.z (v := .agg #[.slice none 0 0, .slice none 0 0, .slice none 0 0, .slice none 0 0, vI 0, .bool false]) 11 ?_
    refine WL.z (v := vI (chk c A B false n)) 12 ?_
    refine WL.storeS (H2 := [.cel b1 #[.slice none 0 0, .slice none 0 0, .slice none 0 0, .slice none 0 0, vI 0, .bool false] 116]) 0 hH9 rfl rfl rfl rfl rfl rfl sz116 rfl (Nat.le_of_ble_eq_true rfl) rfl rfl ?_
    intro w12 hH13
    refine WL.z (v := vI (chk c A B false n)) 5 ?_
    refine WL.nil (WQ.then (hK11 _ _ _ ?_))
    refine WC.sub (l' := [(0, .slice p n cap), (1, vI at'), (4, vP b1 0), (5, vI (chk c A B false n)), (6, vI (chk c A B false n)), (10, .bool true)]) ⟨rfl, rfl, rfl, rfl, rfl, rfl, trivial⟩ ?_
    refine WC.ret ?_
    refine WQ.thenRet ?_
    refine WQ.retC2 4 116 5 rfl rfl rfl (HP.loadRow hH13 0 rfl Try.underlying116 rfl sz116) ?_
    exact .inl ⟨chk c A B false n, by omega, rfl, by unfold idE; rw [if_neg hc], HP.below hH13⟩
  ·
    refine WL.y (v := .bool false) 10 (x_neq rfl rfl rfl (dF (hc))) ?_
    refine WL.nil (WQ.then (hK10 _ _ _ (WC.no rfl (WC.skip (WQ.then (hK5 _ _ _ (WC.seq fun K14 hK14 => ?_)))))))
    refine WC.seq fun K15 hK15 => WC.region ?_
    refine WL.z (v := vI at') 13 ?_
    by_cases hlo : at' < 0
    ·
      refine WL.y (v := .bool true) 14 (x_lss rfl rfl rfl (dT (hlo))) ?_
      refine WL.z (v := .bool true) 15 ?_
      refine WL.pass 16 rfl (by decide) rfl ?_
      refine WL.pass 17 rfl (by decide) rfl ?_
      refine WL.pass 18 rfl (by decide) rfl ?_
      refine WL.pass 19 rfl (by decide) rfl ?_
      refine WL.z (v := .bool true) 20 ?_
      refine WL.nil (WQ.then (hK15 _ _ _ ?_))
      refine WC.sub (l' := [(0, .slice p n cap), (1, vI at'), (4, vP b1 0), (5, vI 0), (6, vI (chk c A B false n)), (10, .bool false), (20, .bool true)]) ⟨rfl, rfl, rfl, rfl, rfl, rfl, rfl, trivial⟩ ?_
      refine WC.yes rfl (WC.seq fun K16 hK16 => WC.region ?_)
      refine WL.z (v := .agg #[.slice none 0 0, .slice none 0 0, .slice none 0 0, .slice none 0 0, vI 0, .bool false]) 21 ?_
      refine WL.storeS (H2 := [.cel b1 #[.slice none 0 0, .slice none 0 0, .slice none 0 0, .slice none 0 0, vI 0, .bool false] 116]) 0 hH9 rfl rfl rfl rfl rfl rfl sz116 rfl (Nat.le_of_ble_eq_true rfl) rfl rfl ?_
      intro w17 hH18
      refine WL.z (v := vI 1) 5 ?_
      refine WL.nil (WQ.then (hK16 _ _ _ (WC.ret ?_)))
      refine WQ.thenRet ?_
      refine WQ.retC2 4 116 5 rfl rfl rfl (HP.loadRow hH18 0 rfl Try.underlying116 rfl sz116) ?_
      exact .inl ⟨1, by omega, rfl, by unfold idE; rw [if_pos (by omega), if_neg (by omega)], HP.below hH18⟩
    ·
      refine WL.y (v := .bool false) 14 (x_lss rfl rfl rfl (dF (hlo))) ?_
      refine WL.z (v := .bool false) 15 ?_
      refine WL.z (v := vI at') 16 ?_
      refine WL.z (v := .slice p n cap) 17 ?_
      refine WL.z (v := vI (n : Int)) 18 ?_
      by_cases hhi : (n : Int) ≤ at'
      ·
        refine WL.y (v := .bool true) 19 (x_geq rfl rfl rfl (dT (hhi))) ?_
        refine WL.z (v := .bool true) 20 ?_
        refine WL.nil (WQ.then (hK15 _ _ _ ?_))
        refine WC.sub (l' := [(0, .slice p n cap), (1, vI at'), (4, vP b1 0), (5, vI 0), (6, vI (chk c A B false n)), (10, .bool false), (20, .bool true)]) ⟨rfl, rfl, rfl, rfl, rfl, rfl, rfl, trivial⟩ ?_
        refine WC.yes rfl (WC.seq fun K19 hK19 => WC.region ?_)
        refine WL.z (v := .agg #[.slice none 0 0, .slice none 0 0, .slice none 0 0, .slice none 0 0, vI 0, .bool false]) 21 ?_
        refine WL.storeS (H2 := [.cel b1 #[.slice none 0 0, .slice none 0 0, .slice none 0 0, .slice none 0 0, vI 0, .bool false] 116]) 0 hH9 rfl rfl rfl rfl rfl rfl sz116 rfl (Nat.le_of_ble_eq_true rfl) rfl rfl ?_
        intro w20 hH21
        refine WL.z (v := vI 1) 5 ?_
        refine WL.nil (WQ.then (hK19 _ _ _ (WC.ret ?_)))
        refine WQ.thenRet ?_
        refine WQ.retC2 4 116 5 rfl rfl rfl (HP.loadRow hH21 0 rfl Try.underlying116 rfl sz116) ?_
        exact .inl ⟨1, by omega, rfl, by unfold idE; rw [if_pos (by omega), if_neg (by omega)], HP.below hH21⟩
      ·
        refine WL.y (v := .bool false) 19 (x_geq rfl rfl rfl (dF (hhi))) ?_
        refine WL.z (v := .bool false) 20 ?_
        refine WL.nil (WQ.then (hK15 _ _ _ ?_))
        refine WC.sub (l' := [(0, .slice p n cap), (1, vI at'), (4, vP b1 0), (5, vI 0), (6, vI (chk c A B false n)), (10, .bool false), (20, .bool false)]) ⟨rfl, rfl, rfl, rfl, rfl, rfl, rfl, trivial⟩ ?_
        refine WC.no rfl (WC.skip (WQ.then (hK14 _ _ _ (WC.seq fun K22 hK22 => WC.region ?_))))
        refine WL.z (v := .slice p n cap) 22 ?_
        refine WL.call (f := 109) (args := #[.slice p n cap]) 23 rfl (Nat.le_of_ble_eq_true rfl) rfl rfl (by kernel_rfl) ?_
        refine (shapeH_any _ _ _ c A B _ (hIn.below (HP.below hH9)) hn).mono ?_
        rintro e w23 ⟨g0, g1, g2, g3, m, s, rfl, hb24, hok⟩
        refine ⟨_, rfl, ?_⟩
        have hH25 : HP Tr w _ [.cel b1 #[.slice none 0 0, .slice none 0 0, .slice none 0 0, .slice none 0 0, vI 0, .bool false] 116, .cel g0 (irow n s.o) 3, .cel g1 (irow n s.e) 3, .cel g2 (irow n s.d) 3, .cel g3 (irow n s.t) 3] := HP.trans hH9 hb24
        have hok0 := hok
        refine WL.storeS (H2 := [.cel b1 #[vS g0 n n, vS g1 n n, vS g2 n n, vS g3 n n, vI m, .bool (okS c n)] 116, .cel g0 (irow n s.o) 3, .cel g1 (irow n s.e) 3, .cel g2 (irow n s.d) 3, .cel g3 (irow n s.t) 3]) 0 hH25 rfl rfl rfl rfl rfl rfl sz116 rfl (Nat.le_of_ble_eq_true rfl) rfl rfl ?_
        intro w26 hH27
        refine WL.z (v := vI 0) 5 ?_
        refine WL.nil (WQ.then (hK22 _ _ _ (WC.ret ?_)))
        refine WQ.retC2 4 116 5 rfl rfl rfl (HP.loadRow hH27 0 rfl Try.underlying116 rfl sz116) ?_
        have hq3 := chk_ok (show chk c A B false n = 0 by omega)
        obtain ⟨hs, rfl⟩ := hok0 hq3.2.2
        rw [hq3.2.2]
        exact .inr ⟨by omega, by omega, by unfold idE; rw [if_pos (by omega), if_pos (by omega)], g0, g1, g2, g3, s, rfl, hs, HP.drop hH27 0⟩
set_option maxRecDepth 20000 in
set_option maxHeartbeats 4000000 in
theorem Match_any (p : Option Addr) (n cap : Nat) (c A B : Nat → Int) (at' : Int) (w : World) (hIn : InC w p n c A B) (hn : n ≤ 400) (h1 : -9223372036854775808 ≤ at') (h2 : at' ≤ 9223372036854775807) :
    Calls Try.prog 75 #[.slice p n cap, vI at'] w fun e w' => e = .returned (mtc c A B n at') ∧ Below w.heap.size w w' := by
  refine calls_of Try.func75 rfl (m := 37) rfl [(0, .slice p n cap), (1, vI at')] (Fr_enter [.slice p n cap, vI at'] 37 (Nat.le_of_ble_eq_true rfl)) ?_
  have hH1 : HP Tr w w [] := HP.refl w
  refine WC.seq fun K2 hK2 => WC.region ?_
  refine WL.z (v := vI 0) 4 ?_
  refine WL.z (v := vI 0) 5 ?_
  refine WL.z (v := vI 0) 6 ?_
  refine WL.nil (WQ.then (hK2 _ _ _ (WC.seq fun K3 hK3 => WC.region ?_)))
  refine WL.z (v := .slice p n cap) 10 ?_
  refine WL.z (v := vI at') 11 ?_
  refine WL.call (f := 91) (args := #[.slice p n cap, vI at']) 12 rfl (Nat.le_of_ble_eq_true rfl) rfl rfl (by kernel_rfl) ?_
  refine (indexed_any _ _ _ c A B at' _ (hIn.below (HP.below hH1)) hn h1 h2).mono ?_
  rintro e w1 (⟨er, her, rfl, hE, hb⟩ | ⟨hr0, hr1, hE, g0, g1, g2, g3, s, rfl, hs, hb⟩)
  ·
    refine ⟨_, rfl, ?_⟩
    have hH4 : HP Tr w _ [] := HP.call hH1 hb
    refine WL.z (v := .tuple #[.agg #[.slice none 0 0, .slice none 0 0, .slice none 0 0, .slice none 0 0, vI 0, .bool false], vI er]) 9 ?_
    refine WL.z (v := .agg #[.slice none 0 0, .slice none 0 0, .slice none 0 0, .slice none 0 0, vI 0, .bool false]) 13 ?_
    refine WL.z (v := vI er) 14 ?_
    refine WL.alloc (c := #[.slice none 0 0, .slice none 0 0, .slice none 0 0, .slice none 0 0, vI 0, .bool false]) (T := 116) hH4 7 rfl (by decide) rfl rfl (fun b5 => vP b5 0) (by kernel_rfl) (fun b5 w6 hw6 => ?_)
    have hH7 : HP Tr w w6 [.cel b5 #[.slice none 0 0, .slice none 0 0, .slice none 0 0, .slice none 0 0, vI 0, .bool false] 116] := hw6.2
    have nb5 := hw6.1
    clear hw6
    refine WL.storeS (H2 := [.cel b5 #[.slice none 0 0, .slice none 0 0, .slice none 0 0, .slice none 0 0, vI 0, .bool false] 116]) 0 hH7 rfl rfl rfl rfl rfl rfl sz116 rfl (Nat.le_of_ble_eq_true rfl) rfl rfl ?_
    intro w8 hH9
    refine WL.z (v := vI er) 8 ?_
    refine WL.nil (WQ.then (hK3 _ _ _ ?_))
    refine WC.sub (l' := [(0, .slice p n cap), (1, vI at'), (4, vI 0), (5, vI 0), (6, vI 0), (7, vP b5 0), (8, vI er)]) ⟨rfl, rfl, rfl, rfl, rfl, rfl, rfl, trivial⟩ ?_
    refine WC.seq fun K10 hK10 => WC.block (WC.seq fun K11 hK11 => WC.region ?_)
    refine WL.z (v := vI er) 16 ?_
    refine WL.y (v := .bool true) 17 (x_neq rfl rfl rfl (dT (her))) ?_
    refine WL.z (v := .bool true) 15 ?_
    refine WL.nil (WQ.then (hK11 _ _ _ (WC.yes rfl (WC.seq fun K12 hK12 => WC.region ?_))))
    refine WL.z (v := vI er) 18 ?_
    refine WL.z (v := vI 0) 4 ?_
    refine WL.z (v := vI 0) 5 ?_
    refine WL.z (v := vI er) 6 ?_
    refine WL.nil (WQ.then (hK12 _ _ _ ?_))
    refine WC.sub (l' := [(0, .slice p n cap), (1, vI at'), (4, vI 0), (5, vI 0), (6, vI er), (7, vP b5 0), (8, vI er), (15, .bool true)]) ⟨rfl, rfl, rfl, rfl, rfl, rfl, rfl, rfl, trivial⟩ ?_
    refine WC.ret ?_
    refine WQ.inRet ?_
    refine WQ.thenRet ?_
    refine WQ.ret3 4 5 6 rfl rfl rfl rfl ?_
    exact ⟨by rw [mtc_bad her hE], HP.below hH9⟩
  ·
    refine ⟨_, rfl, ?_⟩
    obtain ⟨k, rfl⟩ : ∃ k : Nat, at' = (k : Int) := ⟨at'.toNat, by omega⟩
    have hH13 : HP Tr w _ [.cel g0 (irow n s.o) 3, .cel g1 (irow n s.e) 3, .cel g2 (irow n s.d) 3, .cel g3 (irow n s.t) 3] := HP.trans hH1 hb
    refine WL.z (v := .tuple #[.agg #[vS g0 n n, vS g1 n n, vS g2 n n, vS g3 n n, vI (s.m : Int), .bool true], vI 0]) 9 ?_
    refine WL.z (v := .agg #[vS g0 n n, vS g1 n n, vS g2 n n, vS g3 n n, vI (s.m : Int), .bool true]) 13 ?_
    refine WL.z (v := vI 0) 14 ?_
    refine WL.alloc (c := #[.slice none 0 0, .slice none 0 0, .slice none 0 0, .slice none 0 0, vI 0, .bool false]) (T := 116) hH13 7 rfl (by decide) rfl rfl (fun b14 => vP b14 0) (by kernel_rfl) (fun b14 w15 hw15 => ?_)
    have hH16 : HP Tr w w15 [.cel g0 (irow n s.o) 3, .cel g1 (irow n s.e) 3, .cel g2 (irow n s.d) 3, .cel g3 (irow n s.t) 3, .cel b14 #[.slice none 0 0, .slice none 0 0, .slice none 0 0, .slice none 0 0, vI 0, .bool false] 116] := hw15.2
    have nb14 := hw15.1
    clear hw15
    refine WL.storeS (H2 := [.cel g0 (irow n s.o) 3, .cel g1 (irow n s.e) 3, .cel g2 (irow n s.d) 3, .cel g3 (irow n s.t) 3, .cel b14 #[vS g0 n n, vS g1 n n, vS g2 n n, vS g3 n n, vI (s.m : Int), .bool true] 116]) 4 hH16 rfl rfl rfl rfl rfl rfl sz116 rfl (Nat.le_of_ble_eq_true rfl) rfl rfl ?_
    intro w17 hH18
    refine WL.z (v := vI 0) 8 ?_
    refine WL.nil (WQ.then (hK3 _ _ _ ?_))
    refine WC.sub (l' := [(0, .slice p n cap), (1, vI (k : Int)), (4, vI 0), (5, vI 0), (6, vI 0), (7, vP b14 0), (8, vI 0)]) ⟨rfl, rfl, rfl, rfl, rfl, rfl, rfl, trivial⟩ ?_
    refine WC.seq fun K19 hK19 => WC.block (WC.seq fun K20 hK20 => WC.region ?_)
    refine WL.z (v := vI 0) 16 ?_
    refine WL.y (v := .bool false) 17 (x_neq rfl rfl rfl (by decide)) ?_
    refine WL.z (v := .bool false) 15 ?_
    refine WL.nil (WQ.then (hK20 _ _ _ (WC.no rfl (WC.seq fun K21 hK21 => ?_))))
    obtain ⟨bb, oo, rfl, hrow⟩ := hIn (by omega)
    refine WC.region ?_
    refine WL.z (v := .slice (some ⟨bb, oo, none⟩) n cap) 20 ?_
    refine WL.z (v := vI (k : Int)) 21 ?_
    refine WL.y (v := vP bb (oo + k * 3)) 22 (x_idx (k) (oo + k * 3) rfl rfl rfl Try.underlying42 sz75 (by omega) (by omega) (by omega)) ?_
    refine WL.z (v := vP bb (oo + k * 3)) 23 ?_
    refine WL.y (v := vI (c k)) 24 (x_load rfl rfl Try.underlying3 rfl ((HP.oldRange hH18 trivial (hrow k (by omega))) 0 _ rfl)) ?_
    refine WL.call (f := 74) (args := #[vI (c k)]) 25 rfl (Nat.le_of_ble_eq_true rfl) rfl rfl (by kernel_rfl) ?_
    refine (Opens_any _ _).mono ?_
    rintro e w22 ⟨rfl, rfl⟩
    refine ⟨_, rfl, ?_⟩
    refine WL.z (v := .bool (!(opn (c k)))) 26 ?_
    refine WL.z (v := .bool (!(opn (c k)))) 19 ?_
    refine WL.nil (WQ.then (hK21 _ _ _ ?_))
    refine WC.sub (l' := [(0, .slice (some ⟨bb, oo, none⟩) n cap), (1, vI (k : Int)), (4, vI 0), (5, vI 0), (6, vI 0), (7, vP b14 0), (8, vI 0), (15, .bool false), (19, .bool (!(opn (c k))))]) ⟨rfl, rfl, rfl, rfl, rfl, rfl, rfl, rfl, rfl, trivial⟩ ?_
    rcases Bool.eq_false_or_eq_true (opn (c k)) with hO | hO
    ·
      refine WC.no (congrArg (fun b => some (Value.bool (!b))) hO) ?_
      refine WC.skip (WQ.inNormal (WQ.then (hK19 _ _ _ (WC.seq fun K23 hK23 => ?_))))
      refine WC.still (by kernel_rfl) (by kernel_rfl) ?_
      have hH24 : HP Tr w _ [.cel g0 (irow n s.o) 3, .cel g1 (irow n s.e) 3, .cel g2 (irow n s.d) 3, .cel g3 (irow n s.t) 3, .cel b14 #[vS g0 n n, vS g1 n n, vS g2 n n, vS g3 n n, vI (s.m : Int), .bool true] 116] := HP.drew hH18
      refine WS.z (v := vP b14 1) 27 ?_
      refine WS.y (v := vS g1 n n) 28 (x_load rfl rfl Try.underlying33 rfl (HP.cell hH24 4 rfl rfl)) ?_
      refine WS.z (v := vI (k : Int)) 29 ?_
      refine WS.y (v := vP g1 k) 30 (x_idx (k) (k) rfl rfl rfl Try.underlying33 sz3 (by omega) (by omega) (by omega)) ?_
      refine WS.y (v := vI (s.e k)) 31 (x_load rfl rfl Try.underlying3 rfl (HP.cell hH24 1 rfl (irow_get (by omega) rfl))) ?_
      refine WS.z (v := vP b14 2) 32 ?_
      refine WS.y (v := vS g2 n n) 33 (x_load rfl rfl Try.underlying33 rfl (HP.cell hH24 4 rfl rfl)) ?_
      refine WS.z (v := vI (k : Int)) 34 ?_
      refine WS.y (v := vP g2 k) 35 (x_idx (k) (k) rfl rfl rfl Try.underlying33 sz3 (by omega) (by omega) (by omega)) ?_
      refine WS.y (v := vI (s.d k)) 36 (x_load rfl rfl Try.underlying3 rfl (HP.cell hH24 2 rfl (irow_get (by omega) rfl))) ?_
      refine WS.z (v := vI (s.e k)) 4 ?_
      refine WS.z (v := vI (s.d k)) 5 ?_
      refine WS.z (v := vI 0) 6 ?_
      refine WS.nilQ (WQ.then (hK23 _ _ _ ?_))
      refine WC.sub (l' := [(0, .slice (some ⟨bb, oo, none⟩) n cap), (1, vI (k : Int)), (4, vI (s.e k)), (5, vI (s.d k)), (6, vI 0), (7, vP b14 0), (8, vI 0), (15, .bool false), (19, .bool (!(opn (c k))))]) ⟨rfl, rfl, rfl, rfl, rfl, rfl, rfl, rfl, rfl, trivial⟩ ?_
      refine WC.ret ?_
      refine WQ.ret3 4 5 6 rfl rfl rfl rfl ?_
      exact ⟨by rw [mtc_ok hE hO hs], HP.below hH24⟩
    ·
      refine WC.yes (congrArg (fun b => some (Value.bool (!b))) hO) ?_
      refine WC.seq fun K25 hK25 => WC.region ?_
      refine WL.z (v := vI 0) 4 ?_
      refine WL.z (v := vI 0) 5 ?_
      refine WL.z (v := vI 3) 6 ?_
      refine WL.nil (WQ.then (hK25 _ _ _ (WC.ret ?_)))
      refine WQ.inRet ?_
      refine WQ.thenRet ?_
      refine WQ.ret3 4 5 6 rfl rfl rfl rfl ?_
      exact ⟨by rw [mtc_none hE hO], HP.below hH18⟩
end Ec
end Go.Proofs.Ytmjnakhpekbenaa
namespace Go.Proofs.Ytmjnakhpekbenaa
open Go.RowKit Fw
namespace Ec
theorem idE_in {c A B : Nat → Int} {n : Nat} {at' : Int} (h : chk c A B false n = 0) (h2 : 0 ≤ at' ∧ at' < n) : idE c A B n at' = 0 := by unfold idE; rw [if_pos h, if_pos h2]
end Ec
end Go.Proofs.Ytmjnakhpekbenaa
namespace Go.Proofs.Ytmjnakhpekbenaa
open Go.RowKit Go.ChangeShapes Go.WideShapes Fw
namespace Ec
def maF (c A B : Nat → Int) (n : Nat) (at' : Int) : Int := if idE c A B n at' ≠ 0 then idE c A B n at' else if opn (c at'.toNat) = false then 3 else 0
def maA (c A B : Nat → Int) (n : Nat) (at' : Int) : Int := if maF c A B n at' = 0 then (shD c n).e at'.toNat else 0
def maE (c A B : Nat → Int) (n : Nat) (at' : Int) : Int := if maF c A B n at' = 0 then (shD c n).d at'.toNat else 0
theorem mtc_eq (c A B : Nat → Int) (n : Nat) (at' : Int) : mtc c A B n at' = .tuple #[vI (maA c A B n at'), vI (maE c A B n at'), vI (maF c A B n at')] := by
  unfold mtc maA maE maF
  by_cases h1 : idE c A B n at' ≠ 0
  · simp [h1]
  · by_cases h2 : opn (c at'.toNat) = false
    · simp at h1; simp [h1, h2]
    · simp at h1 h2; simp [h1, h2]
abbrev MaV (c A B : Nat → Int) (n : Nat) (at' : Int) : Value := .tuple #[vI (maA c A B n at'), vI (maE c A B n at'), vI (maF c A B n at')]
theorem Match2_any (p : Option Addr) (n cap : Nat) (c A B : Nat → Int) (at' : Int) (w : World) (hIn : InC w p n c A B) (hn : n ≤ 400) (h1 : -9223372036854775808 ≤ at') (h2 : at' ≤ 9223372036854775807) :
    Calls Try.prog 75 #[.slice p n cap, vI at'] w fun e w' => e = .returned (MaV c A B n at') ∧ Below w.heap.size w w' := by
  have q := Match_any p n cap c A B at' w hIn hn h1 h2
  rw [mtc_eq] at q; exact q
end Ec
end Go.Proofs.Ytmjnakhpekbenaa
namespace Go.Proofs.Ytmjnakhpekbenaa
open Go.RowKit Fw
namespace Ec
def fld (c A B : Nat → Int) (q : Nat) : Int := if q % 3 = 0 then c (q / 3) else if q % 3 = 1 then A (q / 3) else B (q / 3)
def insL (c A B : Nat → Int) (n : Nat) : List Value := (List.range (n * 3)).map fun q => .int .i64 (fld c A B q)
theorem insL_len (c A B : Nat → Int) (n : Nat) : (insL c A B n).length = n * 3 := by simp [insL]
theorem insL_get {c A B : Nat → Int} {n q : Nat} (h : q < n * 3) : (insL c A B n)[q]? = some (.int .i64 (fld c A B q)) := by simp [insL, h]
theorem insL_congr {c A B c' A' B' : Nat → Int} {n : Nat} (h : ∀ i, i < n → c i = c' i ∧ A i = A' i ∧ B i = B' i) : insL c A B n = insL c' A' B' n := by
  unfold insL
  refine List.map_congr_left fun q hq => ?_
  have hq' := List.mem_range.1 hq
  obtain ⟨h1, h2, h3⟩ := h (q / 3) (by omega)
  unfold fld; rw [h1, h2, h3]
theorem hadd (bb o k : Nat) : (⟨bb, o, none⟩ : Addr).add k = ⟨bb, o + k, none⟩ := by unfold Addr.add; split <;> simp_all
/-- the cells of what came in -/
theorem InC.cells {w : World} {bb oo n : Nat} {c A B : Nat → Int} (hr : ∀ i, i < n → w.rangeAt bb (oo + i * 3) [.int .i64 (c i), .int .i64 (A i), .int .i64 (B i)]) : ∀ q u, (insL c A B n)[q]? = some u → w.cell? ((⟨bb, oo, none⟩ : Addr).add q) = some u := fun q u hu => by
  have hq : q < n * 3 := by have := (List.getElem?_eq_some_iff.1 hu).1; rwa [insL_len] at this
  rw [insL_get hq, Option.some.injEq] at hu
  rw [hadd]
  have h0 := hr (q / 3) (by omega)
  by_cases e0 : q % 3 = 0
  · have := h0 0 _ rfl
    rw [show oo + q / 3 * 3 + 0 = oo + q by omega] at this
    rw [this, ← hu]; unfold fld; rw [if_pos e0]
  · by_cases e1 : q % 3 = 1
    · have := h0 1 _ rfl
      rw [show oo + q / 3 * 3 + 1 = oo + q by omega] at this
      rw [this, ← hu]; unfold fld; rw [if_neg e0, if_pos e1]
    · have := h0 2 _ rfl
      rw [show oo + q / 3 * 3 + 2 = oo + q by omega] at this
      rw [this, ← hu]; unfold fld; rw [if_neg e0, if_neg e1]
theorem infoR : (Try.prog.info? 75).map (fun i => (i.zero, i.size, i.bytes)) = some (some (.agg #[.int .i64 0, .int .i64 0, .int .i64 0]), 3, 24) := by kernel_rfl
theorem infoR' : ∃ i, Try.prog.info? 75 = some i ∧ i.zero = some (.agg #[.int .i64 0, .int .i64 0, .int .i64 0]) ∧ i.size = 3 ∧ i.bytes = 24 := by
  obtain ⟨i, hi, h⟩ := Option.map_eq_some_iff.1 infoR
  simp only [Prod.mk.injEq] at h
  exact ⟨i, hi, h.1, h.2.1, h.2.2⟩
end Ec
end Go.Proofs.Ytmjnakhpekbenaa
namespace Go.Proofs.Ytmjnakhpekbenaa
open Go.RowKit Fw
namespace Ca
/-! A row of tables. -/
structure TbI where
  q : Option Addr
  t : List T2
  c : Nat
abbrev tbV (r : TbI) : Value := .slice r.q r.t.length r.c
def upA (A : Nat → TbI) (i : Nat) (r : TbI) : Nat → TbI := fun j => if j = i then r else A j
def aR (n : Nat) (A : Nat → TbI) : Array Value := (Array.range n).map fun i => tbV (A i)
theorem aR_size (n : Nat) (A : Nat → TbI) : (aR n A).size = n := by simp [aR]
theorem aR_get {n i : Nat} {A : Nat → TbI} (h : i < n) : (aR n A)[i]? = some (tbV (A i)) := by simp [aR, h]
theorem aR_set (n i : Nat) (A : Nat → TbI) (r : TbI) : (aR n A).setIfInBounds i (tbV r) = aR n (upA A i r) := by
  apply Array.ext
  · simp [aR]
  · intro j h1 h2
    rw [Array.getElem_setIfInBounds (by simpa using h1)]
    by_cases e : i = j
    · subst e; simp [aR, upA]
    · rw [if_neg e]; simp [aR, upA, Ne.symm e]
def tabs (A : Nat → TbI) : Nat → List T2 := fun i => (A i).t
theorem tabs_up (A : Nat → TbI) (i : Nat) (r : TbI) : tabs (upA A i r) = Fl.up (tabs A) i r.t := by
  funext j; unfold tabs upA Fl.up; split <;> rfl
structure TbOk (s y l m : Int) (w : World) (r : TbI) : Prop where
  inn : InT w r.q r.t
  ok : VT s y l m r.t
/-! The problem and its row of tables: what is in other blocks stays. -/
abbrev pE (pb : Nat) (cq : Option Addr) (n cap b6 b4 fj ga : Nat) : Ent := .cel pb #[.slice cq n cap, .func (.func 87) #[] #[vP b6 0, vP b4 0], .func (.func fj) #[] #[], .func (.func 88) #[] #[], .func (.func 89) #[] #[], vS ga n n] 112
abbrev aE (ga n : Nat) (A : Nat → TbI) : Ent := .cel ga (aR n A) 88
theorem aR_in {n i : Nat} {A : Nat → TbI} {v : Value} (h : (aR n A)[i]? = some v) : ∃ r, v = tbV r := by
  have hi : i < n := by
    have := (Array.getElem?_eq_some_iff.1 h).1
    simpa [aR] using this
  rw [aR_get hi] at h
  cases h; exact ⟨_, rfl⟩
theorem out_int {w : World} {pb n cap b6 b4 fj ga : Nat} {cq : Option Addr} {A : Nat → TbI} (hB : OwnB w [pE pb cq n cap b6 b4 fj ga, aE ga n A]) {b o : Nat} {x : Int} (hc : w.cell? ⟨b, o, none⟩ = some (vI x)) : Out [pE pb cq n cap b6 b4 fj ga, aE ga n A] b := fun e he hb => by
  rcases List.mem_cons.1 he with rfl | he
  · cases hb
    have h2 := hB.1 (pE pb cq n cap b6 b4 fj ga) (by simp)
    rw [cell_of_row w pb o _ 112 (0, 0) h2] at hc
    match o, hc with
    | 0, hc => simp at hc
    | 1, hc => simp at hc
    | 2, hc => simp at hc
    | 3, hc => simp at hc
    | 4, hc => simp at hc
    | 5, hc => simp at hc
    | o + 6, hc => simp at hc
  · obtain rfl := List.mem_singleton.1 he
    cases hb
    have h2 := hB.1 (aE ga n A) (by simp)
    rw [cell_of_row w ga o _ 88 (0, 0) h2] at hc
    obtain ⟨r, hr⟩ := aR_in hc
    cases hr
structure Env (s y l m : Int) (pb : Nat) (cq : Option Addr) (n cap b6 b4 fh fj ga : Nat) (c A B : Nat → Int) (w : World) (T : Nat → TbI) : Prop where
  own : OwnB w [pE pb cq n cap b6 b4 fj ga, aE ga n T]
  code : Ec.InC w cq n c A B
  geo : w.rangeAt b4 0 [vI s, vI y, vI l, vI m]
  how : w.cell? ⟨b6, 0, none⟩ = some (.func (.func fh) #[] #[])
  nb : b6 ≠ pb ∧ b6 ≠ ga
theorem keepT {s y l m : Int} {w w' : World} {B H : List Ent} {r : TbI} (h : TbOk s y l m w r) (hO : ∀ b o x, w.cell? ⟨b, o, none⟩ = some (vI x) → Out B b) (hp : HP (Out B) w w' H) : TbOk s y l m w' r := ⟨fun h0 => by
    obtain ⟨g, o, hq, hr⟩ := h.inn h0
    exact ⟨g, o, hq, fun i hi => HP.oldRange hp (hO g _ _ (hr i hi 0 _ rfl)) (hr i hi)⟩, h.ok⟩
theorem Env.keep {s y l m : Int} {pb n cap b6 b4 fh fj ga : Nat} {cq : Option Addr} {c A B : Nat → Int} {w w' : World} {T T' : Nat → TbI} {H : List Ent} (h : Env s y l m pb cq n cap b6 b4 fh fj ga c A B w T) (hp : HP (Out [pE pb cq n cap b6 b4 fj ga, aE ga n T]) w w' (pE pb cq n cap b6 b4 fj ga :: aE ga n T' :: H)) : Env s y l m pb cq n cap b6 b4 fh fj ga c A B w' T' :=
  ⟨HP.ownF (A := [pE pb cq n cap b6 b4 fj ga, aE ga n T']) (B := H) hp, fun h0 => by
    obtain ⟨g, o, hq, hr⟩ := h.code h0
    exact ⟨g, o, hq, fun i hi => HP.oldRange hp (out_int h.own (hr i hi 0 _ rfl)) (hr i hi)⟩, HP.oldRange hp (out_int h.own (h.geo 0 _ rfl)) h.geo,
    HP.old hp (fun e he hb => by
      rcases List.mem_cons.1 he with rfl | he
      · cases hb; exact h.nb.1 rfl
      · obtain rfl := List.mem_singleton.1 he; cases hb; exact h.nb.2 rfl) h.how, h.nb⟩
theorem Env.tab {s y l m : Int} {pb n cap b6 b4 fh fj ga : Nat} {cq : Option Addr} {c A B : Nat → Int} {w w' : World} {T : Nat → TbI} {H : List Ent} {r : TbI} (h : Env s y l m pb cq n cap b6 b4 fh fj ga c A B w T) (hr : TbOk s y l m w r) (hp : HP (Out [pE pb cq n cap b6 b4 fj ga, aE ga n T]) w w' H) : TbOk s y l m w' r := keepT hr (fun b o x hc => out_int h.own hc) hp
/-- what comes back: a table, and the row of tables changed -/
def TabR (s y l m : Int) (pb : Nat) (cq : Option Addr) (n cap b6 b4 fj ga : Nat) (T : Nat → TbI) (X : List T2 × (Nat → List T2)) (w : World) (e : Ending) (w' : World) : Prop :=
  ∃ r' T', e = .returned (tbV r') ∧ HP (Out [pE pb cq n cap b6 b4 fj ga, aE ga n T]) w w' [pE pb cq n cap b6 b4 fj ga, aE ga n T'] ∧ TbOk s y l m w' r' ∧ (∀ i, TbOk s y l m w' (T' i)) ∧ (r'.t, tabs T') = X
def cdOf (c : Nat → Int) (n : Nat) : Fl.Cd := ⟨c, (Ec.shD c n).e, (Ec.shD c n).d, (Ec.shD c n).o⟩
/-- the tables' sum of what ages lack -/
def muT (y : Int) (t : List T2) : Nat := (t.map fun p => (y - p.2).toNat).sum
theorem Opens_at {x : Int} {r : Bool} (h : Ec.opn x = r) (w : World) : Calls Try.prog 74 #[vI x] w fun e w' => e = .returned (.bool r) ∧ w = w' := h ▸ Ec.Opens_any x w
theorem Match_at {p : Option Addr} {n cap : Nat} {c A B : Nat → Int} {i : Nat} {x z : Int} (h1 : Ec.maA c A B n (i : Int) = x) (h2 : Ec.maE c A B n (i : Int) = z) (w : World) (hIn : Ec.InC w p n c A B) (hn : n ≤ 400) (hi : i < n) :
    Calls Try.prog 75 #[.slice p n cap, vI (i : Int)] w fun e w' => e = .returned (.tuple #[vI x, vI z, vI (Ec.maF c A B n (i : Int))]) ∧ Below w.heap.size w w' := by
  have := Ec.Match2_any p n cap c A B (i : Int) w hIn hn (by omega) (by omega)
  unfold Ec.MaV at this
  rw [h1, h2] at this; exact this
theorem TbOk.below {s y l m : Int} {w w' : World} {r : TbI} (h : TbOk s y l m w r) (hb : Below w.heap.size w w') : TbOk s y l m w' r := ⟨h.inn.below hb, h.ok⟩
/-- the descent's parts by themselves -/
def brkP (O : Fl.Ops (List T2)) (C : Fl.Cd) (i E : Nat) (f : List T2 → (Nat → List T2) → List T2 × (Nat → List T2)) (t : List T2) (ah : Nat → List T2) : List T2 × (Nat → List T2) :=
  if C.c i = 29 then (O.F E (O.J t (f t ah).1), Fl.up (f t ah).2 E (O.J t (f t ah).1))
  else if C.c i = 30 then (O.J t (Fl.iter O (Fl.last O f E) (O.mu t) t ah).1, (Fl.iter O (Fl.last O f E) (O.mu t) t ah).2)
  else Fl.last O f E t ah
def brkA (O : Fl.Ops (List T2)) (C : Fl.Cd) (i a E : Nat) (f g : List T2 → (Nat → List T2) → List T2 × (Nat → List T2)) (t : List T2) (ah : Nat → List T2) : List T2 × (Nat → List T2) :=
  (O.J (Fl.last O f a t ah).1 (Fl.last O g E (if C.c i = 29 then t else Fl.fold O (Fl.last O f a t ah).2 (i + 1) (a - (i + 1)) t) (Fl.last O f a t ah).2).1,
   (Fl.last O g E (if C.c i = 29 then t else Fl.fold O (Fl.last O f a t ah).2 (i + 1) (a - (i + 1)) t) (Fl.last O f a t ah).2).2)
theorem sol_plain (O : Fl.Ops (List T2)) (C : Fl.Cd) (i E : Nat) (b r : Fl.Tr) (t : List T2) (ah : Nat → List T2) :
    Fl.sol O C (.plain i E b r) t ah = Fl.sol O C r (brkP O C i E (Fl.sol O C b) (O.F i t) (Fl.up ah i t)).1 (brkP O C i E (Fl.sol O C b) (O.F i t) (Fl.up ah i t)).2 := by
  rw [Fl.sol]
  unfold brkP
  by_cases h1 : C.c i = 29
  · simp only [if_pos h1]
  · by_cases h2 : C.c i = 30
    · simp only [if_neg h1, if_pos h2]
    · simp only [if_neg h1, if_neg h2]
theorem sol_alt (O : Fl.Ops (List T2)) (C : Fl.Cd) (i a E : Nat) (b1 b2 r : Fl.Tr) (t : List T2) (ah : Nat → List T2) :
    Fl.sol O C (.alt i a E b1 b2 r) t ah = Fl.sol O C r (brkA O C i a E (Fl.sol O C b1) (Fl.sol O C b2) (O.F i t) (Fl.up ah i t)).1 (brkA O C i a E (Fl.sol O C b1) (Fl.sol O C b2) (O.F i t) (Fl.up ah i t)).2 := by
  rw [Fl.sol]; rfl
def BrAll (P : Nat → Nat → Fl.Tr → Prop) (Q : Nat → Nat → Nat → Fl.Tr → Fl.Tr → Prop) : Fl.Tr → Prop
  | .nil => True
  | .one _ r => BrAll P Q r
  | .plain i E b r => P i E b ∧ BrAll P Q r
  | .alt i a E b1 b2 r => Q i a E b1 b2 ∧ BrAll P Q r
theorem ma_of {c A B : Nat → Int} {n i : Nat} (hc : Ec.chk c A B false n = 0) (hi : i < n) (ho : Ec.opn (c i) = true) : Ec.maA c A B n (i : Int) = (Ec.shD c n).e i ∧ Ec.maE c A B n (i : Int) = (Ec.shD c n).d i := by
  have h1 : Ec.idE c A B n (i : Int) = 0 := Ec.idE_in hc ⟨by omega, by omega⟩
  have h2 : Ec.maF c A B n (i : Int) = 0 := by unfold Ec.maF; rw [h1, Int.toNat_natCast, ho]; simp
  unfold Ec.maA Ec.maE
  rw [if_pos h2, if_pos h2, Int.toNat_natCast]
  exact ⟨rfl, rfl⟩
theorem line_of {l : Int} {i : Nat} (hl : 1 ≤ l ∧ l ≤ 8) (hi : i ≤ 999) : 0 ≤ (i : Int) / l ∧ (i : Int) / l ≤ 999 := line_bd hl ⟨by omega, by omega⟩
theorem sz75 : (Try.prog.info? 75).map (·.size) = some 3 := by kernel_rfl
set_option maxRecDepth 20000 in
set_option maxHeartbeats 4000000 in
theorem do0_any (s y l m : Int) (i : Nat) (q : Option Addr) (t : List T2) (cp b6 b4 : Nat) (w : World) (h6 : w.cell? ⟨b6, 0, none⟩ = some (.func (.func 59) #[] #[])) (h4 : w.rangeAt b4 0 [vI s, vI y, vI l, vI m]) (hT : InT w q t) (hV : VT s y l m t) (hi : i ≤ 999) :
    Calls Try.prog 87 #[vI (i : Int), .slice q t.length cp, vP b6 0, vP b4 0] w (TcR s y ((i : Int) / l) 0 t w) := by
  have hl9 := hV.l1
  have hl8 := hV.l2
  have hx9 := line_of ⟨hl9, hl8⟩ hi
  refine calls_of Try.func87 rfl (m := 15) rfl [(0, vI (i : Int)), (1, .slice q t.length cp), (2, vP b6 0), (3, vP b4 0)] (Fr_enter [vI (i : Int), .slice q t.length cp, vP b6 0, vP b4 0] 15 (Nat.le_of_ble_eq_true rfl)) ?_
  have hH1 : HP Tr w w [] := HP.refl w
  refine WC.seq fun K2 hK2 => WC.region ?_
  refine WL.z (v := .slice none 0 0) 6 ?_
  refine WL.nil (WQ.then (hK2 _ _ _ (WC.seq fun K3 hK3 => ?_)))
  refine WC.confG (γ := Option Addr × Nat × Unit) [(0, vI (i : Int)), (1, .slice q t.length cp), (2, vP b6 0), (3, vP b4 0)] (fun gy => [.func (.func 59) #[] #[], .agg #[vI s, vI y, vI l, vI m], .slice q t.length cp, vI (i : Int), vP b4 2, vI l, vI ((i : Int) / l), .slice gy.1 ((tcH s y ((i : Int) / l) 0 t).length) gy.2.1, .slice gy.1 ((tcH s y ((i : Int) / l) 0 t).length) gy.2.1]) (fun gy D wz => HP Tr w wz ([] ++ ((bif D 7 then [rowT gy.1 (tcH s y ((i : Int) / l) 0 t).length gy.2.1 (tcH s y ((i : Int) / l) 0 t)] else []) ++ []))) (none, 0, ()) (by kernel_rfl) ⟨rfl, rfl, rfl, rfl, trivial⟩ (by kernel_rfl) (by kernel_rfl) (by kernel_rfl) (fun _ => rfl) (by kernel_rfl) (HP.drew hH1) ?_ ?_
  · refine AllOk.cons ?o0 (AllOk.cons ?o1 (AllOk.cons ?o2 (AllOk.cons ?o3 (AllOk.cons ?o4 (AllOk.cons ?o5 (AllOk.cons ?o6 (AllOk.cons ?o7 (AllOk.cons ?o8 (AllOk.nil _)))))))))
    case o0 =>
      intro gy D wz hDi hdep hclo hW
      exact .inl ⟨rfl, rfl, .inl ⟨gy, wz, fun _ _ => rfl, x_load rfl rfl Try.underlying81 rfl (HP.old hW trivial h6), hW⟩⟩
    case o1 =>
      intro gy D wz hDi hdep hclo hW
      exact .inl ⟨rfl, rfl, .inl ⟨gy, wz, fun _ _ => rfl, x_loadS (cs := [vI s, vI y, vI l, vI m]) rfl rfl Try.underlying23 rfl sz23 (HP.oldRange hW trivial h4), hW⟩⟩
    case o2 =>
      intro gy D wz hDi hdep hclo hW
      exact .inl ⟨rfl, rfl, .inl ⟨gy, wz, fun _ _ => rfl, by kernel_rfl, hW⟩⟩
    case o3 =>
      intro gy D wz hDi hdep hclo hW
      exact .inl ⟨rfl, rfl, .inl ⟨gy, wz, fun _ _ => rfl, by kernel_rfl, hW⟩⟩
    case o4 =>
      intro gy D wz hDi hdep hclo hW
      exact .inl ⟨rfl, rfl, .inl ⟨gy, wz, fun _ _ => rfl, by kernel_rfl, hW⟩⟩
    case o5 =>
      intro gy D wz hDi hdep hclo hW
      exact .inl ⟨rfl, rfl, .inl ⟨gy, wz, fun _ _ => rfl, x_load rfl rfl Try.underlying3 rfl ((HP.oldRange hW trivial h4) 2 _ rfl), hW⟩⟩
    case o6 =>
      intro gy D wz hDi hdep hclo hW
      exact .inl ⟨rfl, rfl, .inl ⟨gy, wz, fun _ _ => rfl, x_quo rfl rfl rfl (by omega) (tdiv_pos (by omega) (by omega)) (by have := hx9; omega) (by have := hx9; omega), hW⟩⟩
    case o7 =>
      intro gy D wz hDi hdep hclo hW
      have d8 : D 8 = false := by
        cases h : D 8 with
        | false => rfl
        | true => exact absurd (hclo 8 _ rfl h ⟨7, .data⟩ (by simp) rfl) (by rw [hDi]; exact Bool.false_ne_true)
      have hW2 := hW
      try simp only [hDi, cond_true, cond_false, List.append_nil, List.nil_append, List.cons_append] at hW2
      refine .inl ⟨rfl, rfl, .inr (.inr ⟨59, #[.agg #[vI s, vI y, vI l, vI m], .slice q t.length cp, vI ((i : Int) / l)], by kernel_rfl, (touch0_any q t cp s y l m ((i : Int) / l) _ (hT.below (HP.below hW2)) hV).mono ?_⟩)⟩
      rintro e w3 ⟨pv, cp9, rfl, hb9⟩
      have hA := HP.trans hW2 hb9
      refine ⟨⟨pv, cp9, ()⟩, fun j hj => ?_, rfl, ?_⟩
      · match j, hj with
        | 0, hj => rfl
        | 1, hj => rfl
        | 2, hj => rfl
        | 3, hj => rfl
        | 4, hj => rfl
        | 5, hj => rfl
        | 6, hj => rfl
        | 7, hj => rw [hDi] at hj; cases hj
        | 8, hj => exact absurd hj (by rw [d8]; exact Bool.false_ne_true)
        | j + 9, _ => rfl
      · show HP Tr w w3 ([] ++ ([rowT pv (tcH s y ((i : Int) / l) 0 t).length cp9 (tcH s y ((i : Int) / l) 0 t)] ++ []))
        try simp only [cond_true, cond_false, List.append_nil, List.nil_append, List.cons_append]
        exact hA
    case o8 =>
      intro gy D wz hDi hdep hclo hW
      exact .inl ⟨rfl, rfl, .inl ⟨gy, wz, fun _ _ => rfl, by kernel_rfl, hW⟩⟩
  rintro ⟨pv, cp9, gu⟩ D w4 hall hH5
  simp only [hall 7 (by kernel_rfl), cond_true, List.append_nil, List.nil_append, List.cons_append] at hH5
  clear hall
  refine WQ.sub (l' := [(0, vI (i : Int)), (1, .slice q t.length cp), (6, .slice pv ((tcH s y ((i : Int) / l) 0 t).length) cp9)]) ⟨rfl, rfl, rfl, trivial⟩ ?_
  refine WQ.then (hK3 _ _ _ (WC.ret ?_))
  refine WQ.ret1 6 rfl rfl ?_
  exact ⟨pv, cp9, rfl, hH5⟩
def ops0 (s y l : Int) : Fl.Ops (List T2) := ⟨jM, fun i t => tcH s y ((i : Int) / l) 0 t, muT y⟩
def BrP0 (s y l m : Int) (pb : Nat) (cq : Option Addr) (n cap b6 b4 ga : Nat) (c A B : Nat → Int) (i E : Nat) (Rb : Fl.Tr) : Prop := ∀ (w : World) (T : Nat → TbI) (r : TbI), Env s y l m pb cq n cap b6 b4 59 63 ga c A B w T → TbOk s y l m w r → (∀ i, TbOk s y l m w (T i)) → Calls Try.prog 119 #[vP pb 0, vI (i : Int), vI (-1), vI (E : Int), tbV r] w (TabR s y l m pb cq n cap b6 b4 63 ga T (brkP (ops0 s y l) (cdOf c n) i E (Fl.sol (ops0 s y l) (cdOf c n) Rb) r.t (tabs T)) w)
def BrA0 (s y l m : Int) (pb : Nat) (cq : Option Addr) (n cap b6 b4 ga : Nat) (c A B : Nat → Int) (i a E : Nat) (Ra Rb : Fl.Tr) : Prop := ∀ (w : World) (T : Nat → TbI) (r : TbI), Env s y l m pb cq n cap b6 b4 59 63 ga c A B w T → TbOk s y l m w r → (∀ i, TbOk s y l m w (T i)) → Calls Try.prog 119 #[vP pb 0, vI (i : Int), vI (a : Int), vI (E : Int), tbV r] w (TabR s y l m pb cq n cap b6 b4 63 ga T (brkA (ops0 s y l) (cdOf c n) i a E (Fl.sol (ops0 s y l) (cdOf c n) Ra) (Fl.sol (ops0 s y l) (cdOf c n) Rb) r.t (tabs T)) w)
set_option maxRecDepth 20000 in
set_option maxHeartbeats 4000000 in
theorem list0_any (s y l m : Int) (pb : Nat) (cq : Option Addr) (n cap b6 b4 ga : Nat) (c A B : Nat → Int) (hg0 : vG s y l m = true) (hc : Ec.chk c A B false n = 0) (R : Fl.Tr) (k j : Nat) (hIs0 : Fl.Is (cdOf c n) R k j) (hjn : j ≤ n) (hbr0 : BrAll (BrP0 s y l m pb cq n cap b6 b4 ga c A B) (BrA0 s y l m pb cq n cap b6 b4 ga c A B) R) (w : World) (T : Nat → TbI) (r : TbI) (hE : Env s y l m pb cq n cap b6 b4 59 63 ga c A B w T) (hr : TbOk s y l m w r) (hT : ∀ i, TbOk s y l m w (T i)) :
    Calls Try.prog 108 #[vP pb 0, vI (k : Int), vI (j : Int), .slice r.q r.t.length r.c] w (TabR s y l m pb cq n cap b6 b4 63 ga T (Fl.sol (ops0 s y l) (cdOf c n) R r.t (tabs T)) w) := by
  have hg := vG_iff.1 hg0
  have hn9 := (Ec.chk_ok hc).1
  have hkj := hIs0.le
  refine calls_of Try.func108 rfl (m := 68) rfl [(0, vP pb 0), (1, vI (k : Int)), (2, vI (j : Int)), (3, .slice r.q r.t.length r.c)] (Fr_enter [vP pb 0, vI (k : Int), vI (j : Int), .slice r.q r.t.length r.c] 68 (Nat.le_of_ble_eq_true rfl)) ?_
  refine WC.seq fun K1 hK1 => WC.region ?_
  refine WL.z (v := .slice none 0 0) 8 ?_
  refine WL.nil (WQ.then (hK1 _ _ _ (WC.seq fun K2 hK2 => WC.seq fun K3 hK3 => ?_)))
  have hM0 : HP (Out [pE pb cq n cap b6 b4 63 ga, aE ga n T]) w w [pE pb cq n cap b6 b4 63 ga, aE ga n T] := HP.startB hE.own
  refine WC.region ?_
  refine WL.z (v := vI (k : Int)) 13 ?_
  refine WL.z (v := vI (k : Int)) 9 ?_
  refine WL.nil (WQ.then (hK3 _ _ _ (WC.block ?_)))
  refine WC.loop (fun kk0 ll0 ww0 => ∃ (i : Nat) (R1 : Fl.Tr) (r1 : TbI) (T1 : Nat → TbI), ll0 = [(0, vP pb 0), (2, vI (j : Int)), (3, .slice r1.q r1.t.length r1.c), (9, vI (i : Int))] ∧ kk0 = j - i ∧ (i ≤ j) ∧ (Fl.Is (cdOf c n) R1 i j) ∧ (Fl.sol (ops0 s y l) (cdOf c n) R1 r1.t (tabs T1) = Fl.sol (ops0 s y l) (cdOf c n) R r.t (tabs T)) ∧ (BrAll (BrP0 s y l m pb cq n cap b6 b4 ga c A B) (BrA0 s y l m pb cq n cap b6 b4 ga c A B) R1) ∧ (TbOk s y l m ww0 r1) ∧ (∀ i, TbOk s y l m ww0 (T1 i)) ∧ (HP (Out [pE pb cq n cap b6 b4 63 ga, aE ga n T]) w ww0 [pE pb cq n cap b6 b4 63 ga, aE ga n T1]) ∧ HP Tr ww0 ww0 []) (j - k) [(0, vP pb 0), (2, vI (j : Int)), (3, .slice r.q r.t.length r.c), (9, vI (k : Int))] ⟨rfl, rfl, rfl, rfl, trivial⟩ ⟨k, R, r, T, rfl, rfl, hkj, hIs0, rfl, hbr0, hr, hT, hM0, HP.refl _⟩ ?_
  rintro kk l w5 ⟨i, R1, r1, T1, rfl, hkk, hi, hIs, hsol, hbr, hr1, hT1, hM, hH6⟩ K4 hK4
  have hE1 := hE.keep hM
  have hH7 : HP (Out [pE pb cq n cap b6 b4 63 ga, aE ga n T1]) w5 w5 [.cel pb #[.slice cq n cap, .func (.func 87) #[] #[vP b6 0, vP b4 0], .func (.func 63) #[] #[], .func (.func 88) #[] #[], .func (.func 89) #[] #[], vS ga n n] 112, .cel ga (aR n T1) 88] := HP.startB hE1.own
  refine WC.seq fun K8 hK8 => WC.seq fun K9 hK9 => WC.region ?_
  refine WL.z (v := vI (i : Int)) 14 ?_
  refine WL.z (v := vI (j : Int)) 15 ?_
  by_cases hlt : (i : Int) < (j : Int)
  ·
    refine WL.y (v := .bool true) 16 (x_lss rfl rfl rfl (dT (hlt))) ?_
    refine WL.nil (WQ.then (hK9 _ _ _ (WC.yes rfl (WC.skip (WQ.then (hK8 _ _ _ (WC.block ?_)))))))
    refine WC.seq fun K10 hK10 => ?_
    cases R1 with
    | nil => have e9 : i = j := hIs; omega
    | one i1 R2 =>
      obtain ⟨rfl, hno, hIs2⟩ := hIs
      have hopn : Ec.opn (c i1) = false := Ec.opn_no.2 (fun q => hno ⟨q.1, by have q9 : c i1 ≤ 33 := q.2; show c i1 ≤ 35; omega⟩)
      have hEj := hIs2.le
      refine WC.region ?_
      refine WL.z (v := vP pb 0) 17 ?_
      refine WL.z (v := vP pb 0) 18 ?_
      refine WL.z (v := vP pb 5) 19 ?_
      refine WL.y (v := vS ga n n) 20 (x_load rfl rfl Try.underlying110 rfl (HP.cell hH7 0 rfl rfl)) ?_
      refine WL.z (v := vI (i1 : Int)) 21 ?_
      refine WL.z (v := .slice r1.q r1.t.length r1.c) 22 ?_
      refine WL.y (v := vP ga i1) 23 (x_idx (i1) (i1) rfl rfl rfl Try.underlying110 sz88 (by omega) (by omega) (by omega)) ?_
      refine WL.store (c' := aR n (upA T1 i1 r1)) (H2 := _) 1 hH7 rfl rfl rfl rfl rfl rfl sz88 rfl (by rw [aR_size]; omega) (aR_set n i1 T1 r1) rfl ?_
      intro w8 hB8
      have hB8 : HP (Out [pE pb cq n cap b6 b4 63 ga, aE ga n T1]) w5 w8 [pE pb cq n cap b6 b4 63 ga, aE ga n (upA T1 i1 r1)] := hB8
      have hE2 := hE1.keep hB8
      have hr2 := hE1.tab hr1 hB8
      have hT2 : ∀ i9, TbOk s y l m w8 (upA T1 i1 r1 i9) := fun i9 => by unfold upA; split; exact hr2; exact hE1.tab (hT1 i9) hB8
      have hH11 : HP (Out [pE pb cq n cap b6 b4 63 ga, aE ga n (upA T1 i1 r1)]) w8 w8 [.cel pb #[.slice cq n cap, .func (.func 87) #[] #[vP b6 0, vP b4 0], .func (.func 63) #[] #[], .func (.func 88) #[] #[], .func (.func 89) #[] #[], vS ga n n] 112, .cel ga (aR n (upA T1 i1 r1)) 88] := HP.startB hE2.own
      refine WL.nil (WQ.then (hK10 _ _ _ ?_))
      refine WC.sub (l' := [(0, vP pb 0), (2, vI (j : Int)), (3, .slice r1.q r1.t.length r1.c), (9, vI (i1 : Int)), (16, .bool true)]) ⟨rfl, rfl, rfl, rfl, rfl, trivial⟩ ?_
      refine WC.seq fun K12 hK12 => WC.seq fun K13 hK13 => ?_
      obtain ⟨gc, oc, hqc, hrowc⟩ := hE2.code (by omega)
      have hgc9 := out_int hE2.own (hrowc i1 (by omega) 0 _ rfl)
      refine WC.region ?_
      refine WL.z (v := vP pb 0) 24 ?_
      refine WL.z (v := vP pb 0) 25 ?_
      refine WL.z (v := vP pb 0) 26 ?_
      refine WL.y (v := .slice cq n cap) 27 (x_load rfl rfl Try.underlying42 rfl (HP.cell hH11 0 rfl rfl)) ?_
      refine WL.z (v := vI (i1 : Int)) 28 ?_
      refine WL.y (v := vP gc (oc + i1 * 3)) 29 (x_idx (b := gc) (off := oc) i1 (oc + i1 * 3) rfl (by rw [← hqc]; rfl) rfl Try.underlying42 sz75 (by omega) (by omega) (by omega)) ?_
      refine WL.z (v := vP gc (oc + i1 * 3)) 30 ?_
      refine WL.y (v := vI (c i1)) 31 (x_load rfl rfl Try.underlying3 rfl ((HP.oldRange hH11 hgc9 (hrowc i1 (by omega))) 0 _ rfl)) ?_
      refine WL.call (f := 74) (args := #[vI (c i1)]) 32 rfl (Nat.le_of_ble_eq_true rfl) rfl rfl (by kernel_rfl) ?_
      refine (Opens_at hopn _).mono ?_
      rintro e w14 ⟨rfl, rfl⟩
      refine ⟨_, rfl, ?_⟩
      refine WL.z (v := .bool true) 33 ?_
      refine WL.nil (WQ.then (hK13 _ _ _ ?_))
      refine WC.sub (l' := [(0, vP pb 0), (2, vI (j : Int)), (3, .slice r1.q r1.t.length r1.c), (9, vI (i1 : Int)), (16, .bool true), (33, .bool true)]) ⟨rfl, rfl, rfl, rfl, rfl, rfl, trivial⟩ ?_
      refine WC.yes rfl (WC.seq fun K15 hK15 => WC.region ?_)
      refine WL.z (v := vP pb 0) 34 ?_
      refine WL.z (v := vP pb 0) 35 ?_
      refine WL.z (v := vP pb 1) 36 ?_
      refine WL.y (v := .func (.func 87) #[] #[vP b6 0, vP b4 0]) 37 (x_load rfl rfl Try.underlying107 rfl (HP.cell hH11 0 rfl rfl)) ?_
      refine WL.z (v := vI (i1 : Int)) 38 ?_
      refine WL.z (v := .slice r1.q r1.t.length r1.c) 39 ?_
      have hE4 := hE2.keep hH11
      refine WL.call (f := 87) (args := #[vI (i1 : Int), .slice r1.q r1.t.length r1.c, vP b6 0, vP b4 0]) 40 rfl (Nat.le_of_ble_eq_true rfl) rfl rfl (by kernel_rfl) ?_
      refine (do0_any s y l m i1 r1.q r1.t r1.c b6 b4 _ hE4.how hE4.geo (hE2.tab hr2 hH11).inn hr2.ok (by omega)).mono ?_
      rintro e w16 ⟨pv9, cp9, rfl, hb17⟩
      refine ⟨_, rfl, ?_⟩
      have hH18 : HP (Out [pE pb cq n cap b6 b4 63 ga, aE ga n (upA T1 i1 r1)]) w8 _ [.cel pb #[.slice cq n cap, .func (.func 87) #[] #[vP b6 0, vP b4 0], .func (.func 63) #[] #[], .func (.func 88) #[] #[], .func (.func 89) #[] #[], vS ga n n] 112, .cel ga (aR n (upA T1 i1 r1)) 88, rowT pv9 (tcH s y ((i1 : Int) / l) 0 r1.t).length cp9 (tcH s y ((i1 : Int) / l) 0 r1.t)] := HP.trans hH11 hb17
      have hr4 : TbOk s y l m _ (⟨pv9, (tcH s y ((i1 : Int) / l) 0 r1.t), cp9⟩ : TbI) := ⟨InT.own (HP.get hH18 2 rfl), VT_tc hr2.ok (line_of hg.2.2.1 (by omega))⟩
      refine WL.z (v := .slice pv9 ((tcH s y ((i1 : Int) / l) 0 r1.t).length) cp9) 3 ?_
      refine WL.nil (WQ.then (hK15 _ _ _ ?_))
      refine WC.sub (l' := [(0, vP pb 0), (2, vI (j : Int)), (3, .slice pv9 ((tcH s y ((i1 : Int) / l) 0 r1.t).length) cp9), (9, vI (i1 : Int)), (16, .bool true), (33, .bool true)]) ⟨rfl, rfl, rfl, rfl, rfl, rfl, trivial⟩ ?_
      refine WC.seq fun K19 hK19 => WC.region ?_
      refine WL.z (v := vI (i1 : Int)) 41 ?_
      refine WL.y (v := vI ((i1 + 1 : Nat) : Int)) 42 (x_add (Z := ((i1 + 1 : Nat) : Int)) rfl rfl rfl (by omega) (by omega) (by omega)) ?_
      refine WL.z (v := vI ((i1 + 1 : Nat) : Int)) 9 ?_
      refine WL.nil (WQ.then (hK19 _ _ _ (WC.exit (WQ.thenExit (WQ.inExit ?_)))))
      have hF9 : HP (Out [pE pb cq n cap b6 b4 63 ga, aE ga n (upA T1 i1 r1)]) w8 _ [pE pb cq n cap b6 b4 63 ga, aE ga n (upA T1 i1 r1)] := HP.drop hH18 2
      refine WQ.sub (l' := [(0, vP pb 0), (2, vI (j : Int)), (3, .slice pv9 ((tcH s y ((i1 : Int) / l) 0 r1.t).length) cp9), (9, vI ((i1 + 1 : Nat) : Int))]) ⟨rfl, rfl, rfl, rfl, trivial⟩ ?_
      refine WQ.then (hK4 _ _ _ (by omega) ⟨i1 + 1, R2, (⟨pv9, (tcH s y ((i1 : Int) / l) 0 r1.t), cp9⟩ : TbI), (upA T1 i1 r1), rfl, rfl, by omega, hIs2, by rw [tabs_up]; exact hsol, hbr, hr4, (fun i9 => hE2.tab (hT2 i9) hF9), HP.exch (A := []) hM (HP.exch (A := []) hB8 hF9), HP.refl _⟩)
    | plain i1 E Rb R2 =>
      obtain ⟨rfl, hop, he1, hd1, ho1, h35, hIb, hIs2⟩ := hIs
      have hopn : Ec.opn (c i1) = true := Ec.opn_iff.2 ⟨hop.1, by have q9 : c i1 ≤ 32 := hop.2; omega⟩
      have hEj := hIs2.le
      have hEb := hIb.le
      obtain ⟨hm1, hm2⟩ := ma_of hc (show i1 < n by omega) hopn
      have hm1 : Ec.maA c A B n (i1 : Int) = -1 := hm1.trans he1
      have hm2 : Ec.maE c A B n (i1 : Int) = (E : Int) := hm2.trans hd1
      refine WC.region ?_
      refine WL.z (v := vP pb 0) 17 ?_
      refine WL.z (v := vP pb 0) 18 ?_
      refine WL.z (v := vP pb 5) 19 ?_
      refine WL.y (v := vS ga n n) 20 (x_load rfl rfl Try.underlying110 rfl (HP.cell hH7 0 rfl rfl)) ?_
      refine WL.z (v := vI (i1 : Int)) 21 ?_
      refine WL.z (v := .slice r1.q r1.t.length r1.c) 22 ?_
      refine WL.y (v := vP ga i1) 23 (x_idx (i1) (i1) rfl rfl rfl Try.underlying110 sz88 (by omega) (by omega) (by omega)) ?_
      refine WL.store (c' := aR n (upA T1 i1 r1)) (H2 := _) 1 hH7 rfl rfl rfl rfl rfl rfl sz88 rfl (by rw [aR_size]; omega) (aR_set n i1 T1 r1) rfl ?_
      intro w8 hB8
      have hB8 : HP (Out [pE pb cq n cap b6 b4 63 ga, aE ga n T1]) w5 w8 [pE pb cq n cap b6 b4 63 ga, aE ga n (upA T1 i1 r1)] := hB8
      have hE2 := hE1.keep hB8
      have hr2 := hE1.tab hr1 hB8
      have hT2 : ∀ i9, TbOk s y l m w8 (upA T1 i1 r1 i9) := fun i9 => by unfold upA; split; exact hr2; exact hE1.tab (hT1 i9) hB8
      have hH20 : HP (Out [pE pb cq n cap b6 b4 63 ga, aE ga n (upA T1 i1 r1)]) w8 w8 [.cel pb #[.slice cq n cap, .func (.func 87) #[] #[vP b6 0, vP b4 0], .func (.func 63) #[] #[], .func (.func 88) #[] #[], .func (.func 89) #[] #[], vS ga n n] 112, .cel ga (aR n (upA T1 i1 r1)) 88] := HP.startB hE2.own
      refine WL.nil (WQ.then (hK10 _ _ _ ?_))
      refine WC.sub (l' := [(0, vP pb 0), (2, vI (j : Int)), (3, .slice r1.q r1.t.length r1.c), (9, vI (i1 : Int)), (16, .bool true)]) ⟨rfl, rfl, rfl, rfl, rfl, trivial⟩ ?_
      refine WC.seq fun K21 hK21 => WC.seq fun K22 hK22 => ?_
      obtain ⟨gc, oc, hqc, hrowc⟩ := hE2.code (by omega)
      have hgc9 := out_int hE2.own (hrowc i1 (by omega) 0 _ rfl)
      refine WC.region ?_
      refine WL.z (v := vP pb 0) 24 ?_
      refine WL.z (v := vP pb 0) 25 ?_
      refine WL.z (v := vP pb 0) 26 ?_
      refine WL.y (v := .slice cq n cap) 27 (x_load rfl rfl Try.underlying42 rfl (HP.cell hH20 0 rfl rfl)) ?_
      refine WL.z (v := vI (i1 : Int)) 28 ?_
      refine WL.y (v := vP gc (oc + i1 * 3)) 29 (x_idx (b := gc) (off := oc) i1 (oc + i1 * 3) rfl (by rw [← hqc]; rfl) rfl Try.underlying42 sz75 (by omega) (by omega) (by omega)) ?_
      refine WL.z (v := vP gc (oc + i1 * 3)) 30 ?_
      refine WL.y (v := vI (c i1)) 31 (x_load rfl rfl Try.underlying3 rfl ((HP.oldRange hH20 hgc9 (hrowc i1 (by omega))) 0 _ rfl)) ?_
      refine WL.call (f := 74) (args := #[vI (c i1)]) 32 rfl (Nat.le_of_ble_eq_true rfl) rfl rfl (by kernel_rfl) ?_
      refine (Opens_at hopn _).mono ?_
      rintro e w23 ⟨rfl, rfl⟩
      refine ⟨_, rfl, ?_⟩
      refine WL.z (v := .bool false) 33 ?_
      refine WL.nil (WQ.then (hK22 _ _ _ ?_))
      refine WC.sub (l' := [(0, vP pb 0), (2, vI (j : Int)), (3, .slice r1.q r1.t.length r1.c), (9, vI (i1 : Int)), (16, .bool true), (33, .bool false)]) ⟨rfl, rfl, rfl, rfl, rfl, rfl, trivial⟩ ?_
      refine WC.no rfl (WC.skip (WQ.then (hK21 _ _ _ (WC.seq fun K24 hK24 => WC.region ?_))))
      refine WL.z (v := vP pb 0) 44 ?_
      refine WL.z (v := vP pb 0) 45 ?_
      refine WL.z (v := vP pb 0) 46 ?_
      refine WL.y (v := .slice cq n cap) 47 (x_load rfl rfl Try.underlying42 rfl (HP.cell hH20 0 rfl rfl)) ?_
      refine WL.z (v := vI (i1 : Int)) 48 ?_
      refine WL.call (f := 75) (args := #[.slice cq n cap, vI (i1 : Int)]) 49 rfl (Nat.le_of_ble_eq_true rfl) rfl rfl (by kernel_rfl) ?_
      refine (Match_at hm1 hm2 _ (hE2.keep hH20).code (by omega) (by omega)).mono ?_
      rintro e w25 ⟨rfl, hb26⟩
      refine ⟨_, rfl, ?_⟩
      have hH27 : HP (Out [pE pb cq n cap b6 b4 63 ga, aE ga n (upA T1 i1 r1)]) w8 _ [.cel pb #[.slice cq n cap, .func (.func 87) #[] #[vP b6 0, vP b4 0], .func (.func 63) #[] #[], .func (.func 88) #[] #[], .func (.func 89) #[] #[], vS ga n n] 112, .cel ga (aR n (upA T1 i1 r1)) 88] := HP.call hH20 hb26
      refine WL.z (v := .tuple #[vI (-1), vI (E : Int), vI (Ec.maF c A B n (i1 : Int))]) 43 ?_
      refine WL.z (v := vI (-1)) 50 ?_
      refine WL.z (v := vI (E : Int)) 51 ?_
      refine WL.z (v := vI (Ec.maF c A B n (i1 : Int))) 52 ?_
      refine WL.z (v := vI (-1)) 10 ?_
      refine WL.z (v := vI (E : Int)) 11 ?_
      refine WL.z (v := vI (Ec.maF c A B n (i1 : Int))) 12 ?_
      refine WL.nil (WQ.then (hK24 _ _ _ ?_))
      refine WC.sub (l' := [(0, vP pb 0), (2, vI (j : Int)), (3, .slice r1.q r1.t.length r1.c), (9, vI (i1 : Int)), (10, vI (-1)), (11, vI (E : Int)), (16, .bool true), (33, .bool false)]) ⟨rfl, rfl, rfl, rfl, rfl, rfl, rfl, rfl, trivial⟩ ?_
      refine WC.seq fun K28 hK28 => WC.region ?_
      refine WL.z (v := vP pb 0) 53 ?_
      refine WL.z (v := vI (i1 : Int)) 54 ?_
      refine WL.z (v := vI (-1)) 55 ?_
      refine WL.z (v := vI (E : Int)) 56 ?_
      refine WL.z (v := vP pb 0) 57 ?_
      refine WL.z (v := vP pb 0) 58 ?_
      refine WL.z (v := vP pb 1) 59 ?_
      refine WL.y (v := .func (.func 87) #[] #[vP b6 0, vP b4 0]) 60 (x_load rfl rfl Try.underlying107 rfl (HP.cell hH27 0 rfl rfl)) ?_
      refine WL.z (v := vI (i1 : Int)) 61 ?_
      refine WL.z (v := .slice r1.q r1.t.length r1.c) 62 ?_
      have hE4 := hE2.keep hH27
      refine WL.call (f := 87) (args := #[vI (i1 : Int), .slice r1.q r1.t.length r1.c, vP b6 0, vP b4 0]) 63 rfl (Nat.le_of_ble_eq_true rfl) rfl rfl (by kernel_rfl) ?_
      refine (do0_any s y l m i1 r1.q r1.t r1.c b6 b4 _ hE4.how hE4.geo (hE2.tab hr2 hH27).inn hr2.ok (by omega)).mono ?_
      rintro e w29 ⟨pv9, cp9, rfl, hb30⟩
      refine ⟨_, rfl, ?_⟩
      have hH31 : HP (Out [pE pb cq n cap b6 b4 63 ga, aE ga n (upA T1 i1 r1)]) w8 _ [.cel pb #[.slice cq n cap, .func (.func 87) #[] #[vP b6 0, vP b4 0], .func (.func 63) #[] #[], .func (.func 88) #[] #[], .func (.func 89) #[] #[], vS ga n n] 112, .cel ga (aR n (upA T1 i1 r1)) 88, rowT pv9 (tcH s y ((i1 : Int) / l) 0 r1.t).length cp9 (tcH s y ((i1 : Int) / l) 0 r1.t)] := HP.trans hH27 hb30
      have hr4 : TbOk s y l m _ (⟨pv9, (tcH s y ((i1 : Int) / l) 0 r1.t), cp9⟩ : TbI) := ⟨InT.own (HP.get hH31 2 rfl), VT_tc hr2.ok (line_of hg.2.2.1 (by omega))⟩
      have hE5 := hE2.keep hH31
      have hT5 := fun i9 => hE2.tab (hT2 i9) hH31
      refine WL.call (f := 119) (args := #[vP pb 0, vI (i1 : Int), vI (-1), vI (E : Int), .slice pv9 ((tcH s y ((i1 : Int) / l) 0 r1.t).length) cp9]) 64 rfl (Nat.le_of_ble_eq_true rfl) rfl rfl (by kernel_rfl) ?_
      refine (hbr.1 _ _ (⟨pv9, (tcH s y ((i1 : Int) / l) 0 r1.t), cp9⟩ : TbI) hE5 hr4 hT5).mono ?_
      rintro e w9 ⟨r9, T9, rfl, hb9, hr9, hT9, hX9⟩
      refine ⟨_, rfl, ?_⟩
      have hH32 : HP (Out [pE pb cq n cap b6 b4 63 ga, aE ga n (upA T1 i1 r1)]) w8 _ [.cel pb #[.slice cq n cap, .func (.func 87) #[] #[vP b6 0, vP b4 0], .func (.func 63) #[] #[], .func (.func 88) #[] #[], .func (.func 89) #[] #[], vS ga n n] 112, .cel ga (aR n T9) 88, rowT pv9 (tcH s y ((i1 : Int) / l) 0 r1.t).length cp9 (tcH s y ((i1 : Int) / l) 0 r1.t)] := HP.exchF (A := [pE pb cq n cap b6 b4 63 ga, aE ga n (upA T1 i1 r1)]) (B := [rowT pv9 (tcH s y ((i1 : Int) / l) 0 r1.t).length cp9 (tcH s y ((i1 : Int) / l) 0 r1.t)]) hH31 hb9
      rw [tabs_up] at hX9
      refine WL.z (v := .slice r9.q r9.t.length r9.c) 3 ?_
      refine WL.nil (WQ.then (hK28 _ _ _ ?_))
      refine WC.sub (l' := [(0, vP pb 0), (2, vI (j : Int)), (3, .slice r9.q r9.t.length r9.c), (9, vI (i1 : Int)), (10, vI (-1)), (11, vI (E : Int)), (16, .bool true), (33, .bool false)]) ⟨rfl, rfl, rfl, rfl, rfl, rfl, rfl, rfl, trivial⟩ ?_
      refine WC.region ?_
      refine WL.z (v := vI (E : Int)) 65 ?_
      refine WL.y (v := vI ((E + 1 : Nat) : Int)) 66 (x_add (Z := ((E + 1 : Nat) : Int)) rfl rfl rfl (by omega) (by omega) (by omega)) ?_
      refine WL.z (v := vI ((E + 1 : Nat) : Int)) 9 ?_
      refine WL.nil (WQ.inNormal ?_)
      have hF9 : HP (Out [pE pb cq n cap b6 b4 63 ga, aE ga n (upA T1 i1 r1)]) w8 _ [pE pb cq n cap b6 b4 63 ga, aE ga n T9] := HP.drop hH32 2
      refine WQ.sub (l' := [(0, vP pb 0), (2, vI (j : Int)), (3, .slice r9.q r9.t.length r9.c), (9, vI ((E + 1 : Nat) : Int))]) ⟨rfl, rfl, rfl, rfl, trivial⟩ ?_
      refine WQ.then (hK4 _ _ _ (by omega) ⟨E + 1, R2, r9, T9, rfl, rfl, by omega, hIs2, ((congrArg (fun X : List T2 × (Nat → List T2) => Fl.sol (ops0 s y l) (cdOf c n) R2 X.1 X.2) hX9).trans ((sol_plain (ops0 s y l) (cdOf c n) i1 E Rb R2 r1.t (tabs T1)).symm.trans hsol)), hbr.2, hr9, hT9, HP.exch (A := []) hM (HP.exch (A := []) hB8 hF9), HP.refl _⟩)
    | alt i1 a1 E Ra Rb R2 =>
      obtain ⟨rfl, hop, he1, hd1, hoa, ho1, h34, h35, hIa, hIb, hIs2⟩ := hIs
      have hopn : Ec.opn (c i1) = true := Ec.opn_iff.2 (by rcases hop with q | q <;> (have q : c i1 = _ := q) <;> omega)
      have hEj := hIs2.le
      have hEb := hIb.le
      have hEa := hIa.le
      obtain ⟨hm1, hm2⟩ := ma_of hc (show i1 < n by omega) hopn
      have hm1 : Ec.maA c A B n (i1 : Int) = (a1 : Int) := hm1.trans he1
      have hm2 : Ec.maE c A B n (i1 : Int) = (E : Int) := hm2.trans hd1
      refine WC.region ?_
      refine WL.z (v := vP pb 0) 17 ?_
      refine WL.z (v := vP pb 0) 18 ?_
      refine WL.z (v := vP pb 5) 19 ?_
      refine WL.y (v := vS ga n n) 20 (x_load rfl rfl Try.underlying110 rfl (HP.cell hH7 0 rfl rfl)) ?_
      refine WL.z (v := vI (i1 : Int)) 21 ?_
      refine WL.z (v := .slice r1.q r1.t.length r1.c) 22 ?_
      refine WL.y (v := vP ga i1) 23 (x_idx (i1) (i1) rfl rfl rfl Try.underlying110 sz88 (by omega) (by omega) (by omega)) ?_
      refine WL.store (c' := aR n (upA T1 i1 r1)) (H2 := _) 1 hH7 rfl rfl rfl rfl rfl rfl sz88 rfl (by rw [aR_size]; omega) (aR_set n i1 T1 r1) rfl ?_
      intro w8 hB8
      have hB8 : HP (Out [pE pb cq n cap b6 b4 63 ga, aE ga n T1]) w5 w8 [pE pb cq n cap b6 b4 63 ga, aE ga n (upA T1 i1 r1)] := hB8
      have hE2 := hE1.keep hB8
      have hr2 := hE1.tab hr1 hB8
      have hT2 : ∀ i9, TbOk s y l m w8 (upA T1 i1 r1 i9) := fun i9 => by unfold upA; split; exact hr2; exact hE1.tab (hT1 i9) hB8
      have hH33 : HP (Out [pE pb cq n cap b6 b4 63 ga, aE ga n (upA T1 i1 r1)]) w8 w8 [.cel pb #[.slice cq n cap, .func (.func 87) #[] #[vP b6 0, vP b4 0], .func (.func 63) #[] #[], .func (.func 88) #[] #[], .func (.func 89) #[] #[], vS ga n n] 112, .cel ga (aR n (upA T1 i1 r1)) 88] := HP.startB hE2.own
      refine WL.nil (WQ.then (hK10 _ _ _ ?_))
      refine WC.sub (l' := [(0, vP pb 0), (2, vI (j : Int)), (3, .slice r1.q r1.t.length r1.c), (9, vI (i1 : Int)), (16, .bool true)]) ⟨rfl, rfl, rfl, rfl, rfl, trivial⟩ ?_
      refine WC.seq fun K34 hK34 => WC.seq fun K35 hK35 => ?_
      obtain ⟨gc, oc, hqc, hrowc⟩ := hE2.code (by omega)
      have hgc9 := out_int hE2.own (hrowc i1 (by omega) 0 _ rfl)
      refine WC.region ?_
      refine WL.z (v := vP pb 0) 24 ?_
      refine WL.z (v := vP pb 0) 25 ?_
      refine WL.z (v := vP pb 0) 26 ?_
      refine WL.y (v := .slice cq n cap) 27 (x_load rfl rfl Try.underlying42 rfl (HP.cell hH33 0 rfl rfl)) ?_
      refine WL.z (v := vI (i1 : Int)) 28 ?_
      refine WL.y (v := vP gc (oc + i1 * 3)) 29 (x_idx (b := gc) (off := oc) i1 (oc + i1 * 3) rfl (by rw [← hqc]; rfl) rfl Try.underlying42 sz75 (by omega) (by omega) (by omega)) ?_
      refine WL.z (v := vP gc (oc + i1 * 3)) 30 ?_
      refine WL.y (v := vI (c i1)) 31 (x_load rfl rfl Try.underlying3 rfl ((HP.oldRange hH33 hgc9 (hrowc i1 (by omega))) 0 _ rfl)) ?_
      refine WL.call (f := 74) (args := #[vI (c i1)]) 32 rfl (Nat.le_of_ble_eq_true rfl) rfl rfl (by kernel_rfl) ?_
      refine (Opens_at hopn _).mono ?_
      rintro e w36 ⟨rfl, rfl⟩
      refine ⟨_, rfl, ?_⟩
      refine WL.z (v := .bool false) 33 ?_
      refine WL.nil (WQ.then (hK35 _ _ _ ?_))
      refine WC.sub (l' := [(0, vP pb 0), (2, vI (j : Int)), (3, .slice r1.q r1.t.length r1.c), (9, vI (i1 : Int)), (16, .bool true), (33, .bool false)]) ⟨rfl, rfl, rfl, rfl, rfl, rfl, trivial⟩ ?_
      refine WC.no rfl (WC.skip (WQ.then (hK34 _ _ _ (WC.seq fun K37 hK37 => WC.region ?_))))
      refine WL.z (v := vP pb 0) 44 ?_
      refine WL.z (v := vP pb 0) 45 ?_
      refine WL.z (v := vP pb 0) 46 ?_
      refine WL.y (v := .slice cq n cap) 47 (x_load rfl rfl Try.underlying42 rfl (HP.cell hH33 0 rfl rfl)) ?_
      refine WL.z (v := vI (i1 : Int)) 48 ?_
      refine WL.call (f := 75) (args := #[.slice cq n cap, vI (i1 : Int)]) 49 rfl (Nat.le_of_ble_eq_true rfl) rfl rfl (by kernel_rfl) ?_
      refine (Match_at hm1 hm2 _ (hE2.keep hH33).code (by omega) (by omega)).mono ?_
      rintro e w38 ⟨rfl, hb39⟩
      refine ⟨_, rfl, ?_⟩
      have hH40 : HP (Out [pE pb cq n cap b6 b4 63 ga, aE ga n (upA T1 i1 r1)]) w8 _ [.cel pb #[.slice cq n cap, .func (.func 87) #[] #[vP b6 0, vP b4 0], .func (.func 63) #[] #[], .func (.func 88) #[] #[], .func (.func 89) #[] #[], vS ga n n] 112, .cel ga (aR n (upA T1 i1 r1)) 88] := HP.call hH33 hb39
      refine WL.z (v := .tuple #[vI (a1 : Int), vI (E : Int), vI (Ec.maF c A B n (i1 : Int))]) 43 ?_
      refine WL.z (v := vI (a1 : Int)) 50 ?_
      refine WL.z (v := vI (E : Int)) 51 ?_
      refine WL.z (v := vI (Ec.maF c A B n (i1 : Int))) 52 ?_
      refine WL.z (v := vI (a1 : Int)) 10 ?_
      refine WL.z (v := vI (E : Int)) 11 ?_
      refine WL.z (v := vI (Ec.maF c A B n (i1 : Int))) 12 ?_
      refine WL.nil (WQ.then (hK37 _ _ _ ?_))
      refine WC.sub (l' := [(0, vP pb 0), (2, vI (j : Int)), (3, .slice r1.q r1.t.length r1.c), (9, vI (i1 : Int)), (10, vI (a1 : Int)), (11, vI (E : Int)), (16, .bool true), (33, .bool false)]) ⟨rfl, rfl, rfl, rfl, rfl, rfl, rfl, rfl, trivial⟩ ?_
      refine WC.seq fun K41 hK41 => WC.region ?_
      refine WL.z (v := vP pb 0) 53 ?_
      refine WL.z (v := vI (i1 : Int)) 54 ?_
      refine WL.z (v := vI (a1 : Int)) 55 ?_
      refine WL.z (v := vI (E : Int)) 56 ?_
      refine WL.z (v := vP pb 0) 57 ?_
      refine WL.z (v := vP pb 0) 58 ?_
      refine WL.z (v := vP pb 1) 59 ?_
      refine WL.y (v := .func (.func 87) #[] #[vP b6 0, vP b4 0]) 60 (x_load rfl rfl Try.underlying107 rfl (HP.cell hH40 0 rfl rfl)) ?_
      refine WL.z (v := vI (i1 : Int)) 61 ?_
      refine WL.z (v := .slice r1.q r1.t.length r1.c) 62 ?_
      have hE4 := hE2.keep hH40
      refine WL.call (f := 87) (args := #[vI (i1 : Int), .slice r1.q r1.t.length r1.c, vP b6 0, vP b4 0]) 63 rfl (Nat.le_of_ble_eq_true rfl) rfl rfl (by kernel_rfl) ?_
      refine (do0_any s y l m i1 r1.q r1.t r1.c b6 b4 _ hE4.how hE4.geo (hE2.tab hr2 hH40).inn hr2.ok (by omega)).mono ?_
      rintro e w42 ⟨pv9, cp9, rfl, hb43⟩
      refine ⟨_, rfl, ?_⟩
      have hH44 : HP (Out [pE pb cq n cap b6 b4 63 ga, aE ga n (upA T1 i1 r1)]) w8 _ [.cel pb #[.slice cq n cap, .func (.func 87) #[] #[vP b6 0, vP b4 0], .func (.func 63) #[] #[], .func (.func 88) #[] #[], .func (.func 89) #[] #[], vS ga n n] 112, .cel ga (aR n (upA T1 i1 r1)) 88, rowT pv9 (tcH s y ((i1 : Int) / l) 0 r1.t).length cp9 (tcH s y ((i1 : Int) / l) 0 r1.t)] := HP.trans hH40 hb43
      have hr4 : TbOk s y l m _ (⟨pv9, (tcH s y ((i1 : Int) / l) 0 r1.t), cp9⟩ : TbI) := ⟨InT.own (HP.get hH44 2 rfl), VT_tc hr2.ok (line_of hg.2.2.1 (by omega))⟩
      have hE5 := hE2.keep hH44
      have hT5 := fun i9 => hE2.tab (hT2 i9) hH44
      refine WL.call (f := 119) (args := #[vP pb 0, vI (i1 : Int), vI (a1 : Int), vI (E : Int), .slice pv9 ((tcH s y ((i1 : Int) / l) 0 r1.t).length) cp9]) 64 rfl (Nat.le_of_ble_eq_true rfl) rfl rfl (by kernel_rfl) ?_
      refine (hbr.1 _ _ (⟨pv9, (tcH s y ((i1 : Int) / l) 0 r1.t), cp9⟩ : TbI) hE5 hr4 hT5).mono ?_
      rintro e w9 ⟨r9, T9, rfl, hb9, hr9, hT9, hX9⟩
      refine ⟨_, rfl, ?_⟩
      have hH45 : HP (Out [pE pb cq n cap b6 b4 63 ga, aE ga n (upA T1 i1 r1)]) w8 _ [.cel pb #[.slice cq n cap, .func (.func 87) #[] #[vP b6 0, vP b4 0], .func (.func 63) #[] #[], .func (.func 88) #[] #[], .func (.func 89) #[] #[], vS ga n n] 112, .cel ga (aR n T9) 88, rowT pv9 (tcH s y ((i1 : Int) / l) 0 r1.t).length cp9 (tcH s y ((i1 : Int) / l) 0 r1.t)] := HP.exchF (A := [pE pb cq n cap b6 b4 63 ga, aE ga n (upA T1 i1 r1)]) (B := [rowT pv9 (tcH s y ((i1 : Int) / l) 0 r1.t).length cp9 (tcH s y ((i1 : Int) / l) 0 r1.t)]) hH44 hb9
      rw [tabs_up] at hX9
      refine WL.z (v := .slice r9.q r9.t.length r9.c) 3 ?_
      refine WL.nil (WQ.then (hK41 _ _ _ ?_))
      refine WC.sub (l' := [(0, vP pb 0), (2, vI (j : Int)), (3, .slice r9.q r9.t.length r9.c), (9, vI (i1 : Int)), (10, vI (a1 : Int)), (11, vI (E : Int)), (16, .bool true), (33, .bool false)]) ⟨rfl, rfl, rfl, rfl, rfl, rfl, rfl, rfl, trivial⟩ ?_
      refine WC.region ?_
      refine WL.z (v := vI (E : Int)) 65 ?_
      refine WL.y (v := vI ((E + 1 : Nat) : Int)) 66 (x_add (Z := ((E + 1 : Nat) : Int)) rfl rfl rfl (by omega) (by omega) (by omega)) ?_
      refine WL.z (v := vI ((E + 1 : Nat) : Int)) 9 ?_
      refine WL.nil (WQ.inNormal ?_)
      have hF9 : HP (Out [pE pb cq n cap b6 b4 63 ga, aE ga n (upA T1 i1 r1)]) w8 _ [pE pb cq n cap b6 b4 63 ga, aE ga n T9] := HP.drop hH45 2
      refine WQ.sub (l' := [(0, vP pb 0), (2, vI (j : Int)), (3, .slice r9.q r9.t.length r9.c), (9, vI ((E + 1 : Nat) : Int))]) ⟨rfl, rfl, rfl, rfl, trivial⟩ ?_
      refine WQ.then (hK4 _ _ _ (by omega) ⟨E + 1, R2, r9, T9, rfl, rfl, by omega, hIs2, ((congrArg (fun X : List T2 × (Nat → List T2) => Fl.sol (ops0 s y l) (cdOf c n) R2 X.1 X.2) hX9).trans ((sol_alt (ops0 s y l) (cdOf c n) i1 a1 E Ra Rb R2 r1.t (tabs T1)).symm.trans hsol)), hbr.2, hr9, hT9, HP.exch (A := []) hM (HP.exch (A := []) hB8 hF9), HP.refl _⟩)
  ·
    refine WL.y (v := .bool false) 16 (x_lss rfl rfl rfl (dF (hlt))) ?_
    refine WL.nil (WQ.then (hK9 _ _ _ (WC.no rfl (WC.exit (WQ.thenExit (WQ.thenExit (WQ.inExit ?_)))))))
    refine WQ.then (hK2 _ _ _ (WC.seq fun K46 hK46 => WC.region ?_))
    refine WL.z (v := .slice r1.q r1.t.length r1.c) 67 ?_
    refine WL.z (v := .slice r1.q r1.t.length r1.c) 8 ?_
    refine WL.nil (WQ.then (hK46 _ _ _ (WC.ret ?_)))
    refine WQ.ret1 8 rfl rfl ?_
    cases R1 with
    | nil => exact ⟨r1, T1, rfl, hM, hr1, hT1, hsol⟩
    | one i1 R2 => have q9 := hIs.2.2.le; have q8 := hIs.1; omega
    | plain i1 E Rb R2 => have q9 := hIs.2.2.2.2.2.2.2.le; have q7 := hIs.2.2.2.2.2.2.1.le; have q8 := hIs.1; omega
    | alt i1 a1 E Ra Rb R2 => have q9 := hIs.2.2.2.2.2.2.2.2.2.2.le; have q7 := hIs.2.2.2.2.2.2.2.2.2.1.le; have q6 := hIs.2.2.2.2.2.2.2.2.1.le; have q8 := hIs.1; omega
end Ca
end Go.Proofs.Ytmjnakhpekbenaa
namespace Go.Proofs.Ytmjnakhpekbenaa
open Go.RowKit Fw
namespace Ca
def farO (x : Int) : Bool := decide (x = 25) || decide (x = 26)
def farB (c : Nat → Int) (n : Nat) : Bool := (List.range n).any fun i => farO (c i)
theorem farB_no {c : Nat → Int} {n : Nat} (h : ∀ i, i < n → farO (c i) = false) : farB c n = false := by
  unfold farB; rw [List.any_eq_false]; intro i hi; rw [h i (List.mem_range.1 hi)]; exact Bool.false_ne_true
theorem farB_yes {c : Nat → Int} {n i : Nat} (hi : i < n) (h : farO (c i) = true) : farB c n = true := by
  unfold farB; rw [List.any_eq_true]; exact ⟨i, List.mem_range.2 hi, h⟩
def okC (s y l m : Int) (c A B : Nat → Int) (n : Nat) : Bool := vG s y l m && (decide (Ec.chk c A B false n = 0) && !farB c n)
theorem okC_iff {s y l m : Int} {c A B : Nat → Int} {n : Nat} : okC s y l m c A B n = true ↔ vG s y l m = true ∧ Ec.chk c A B false n = 0 ∧ farB c n = false := by simp [okC]
theorem sz4 : (Try.prog.info? 4).map (·.size) = some 1 := by kernel_rfl
theorem sz110 : (Try.prog.info? 110).map (·.size) = some 1 := by kernel_rfl
set_option maxRecDepth 20000 in
set_option maxHeartbeats 4000000 in
theorem far1_any (op a b : Int) (w : World) :
    Calls Try.prog 105 #[.agg #[vI op, vI a, vI b]] w fun e w' => e = .returned (.bool (farO op)) ∧ Below w.heap.size w w' := by
  refine calls_of Try.func105 rfl (m := 11) rfl [(0, .agg #[vI op, vI a, vI b])] (Fr_enter [.agg #[vI op, vI a, vI b]] 11 (Nat.le_of_ble_eq_true rfl)) ?_
  have hH1 : HP Tr w w [] := HP.refl w
  refine WC.seq fun K2 hK2 => WC.region ?_
  refine WL.alloc (c := #[vI op, vI a, vI b]) (T := 75) hH1 1 rfl (by decide) rfl rfl (fun b1 => vP b1 0) (by kernel_rfl) (fun b1 w3 hw3 => ?_)
  have hH4 : HP Tr w w3 [.cel b1 #[vI op, vI a, vI b] 75] := hw3.2
  have nb1 := hw3.1
  clear hw3
  refine WL.z (v := .bool false) 2 ?_
  refine WL.nil (WQ.then (hK2 _ _ _ (WC.seq fun K5 hK5 => WC.region ?_)))
  refine WL.z (v := vP b1 0) 3 ?_
  refine WL.y (v := vI op) 4 (x_load rfl rfl Try.underlying3 rfl (HP.cell hH4 0 rfl rfl)) ?_
  by_cases h5 : op = 25
  ·
    refine WL.y (v := .bool true) 5 (x_eql rfl rfl rfl (dT (h5))) ?_
    refine WL.z (v := .bool true) 6 ?_
    refine WL.p 7 ?_
    refine WL.p 8 ?_
    refine WL.p 9 ?_
    refine WL.z (v := .bool true) 10 ?_
    refine WL.z (v := .bool true) 2 ?_
    refine WL.nil (WQ.then (hK5 _ _ _ ?_))
    refine WC.sub (l' := [(0, .agg #[vI op, vI a, vI b]), (1, vP b1 0), (2, .bool true)]) ⟨rfl, rfl, rfl, trivial⟩ ?_
    refine WC.ret ?_
    refine WQ.ret1 2 rfl rfl ?_
    exact ⟨by rw [show farO op = true by unfold farO; simp [h5]], HP.below hH4⟩
  ·
    refine WL.y (v := .bool false) 5 (x_eql rfl rfl rfl (dF (h5))) ?_
    refine WL.z (v := .bool false) 6 ?_
    refine WL.z (v := vP b1 0) 7 ?_
    refine WL.y (v := vI op) 8 (x_load rfl rfl Try.underlying3 rfl (HP.cell hH4 0 rfl rfl)) ?_
    by_cases h9 : op = 26
    ·
      refine WL.y (v := .bool true) 9 (x_eql rfl rfl rfl (dT (h9))) ?_
      refine WL.z (v := .bool true) 10 ?_
      refine WL.z (v := .bool true) 2 ?_
      refine WL.nil (WQ.then (hK5 _ _ _ ?_))
      refine WC.sub (l' := [(0, .agg #[vI op, vI a, vI b]), (1, vP b1 0), (2, .bool true)]) ⟨rfl, rfl, rfl, trivial⟩ ?_
      refine WC.ret ?_
      refine WQ.ret1 2 rfl rfl ?_
      exact ⟨by rw [show farO op = true by unfold farO; simp [h5, h9]], HP.below hH4⟩
    ·
      refine WL.y (v := .bool false) 9 (x_eql rfl rfl rfl (dF (h9))) ?_
      refine WL.z (v := .bool false) 10 ?_
      refine WL.z (v := .bool false) 2 ?_
      refine WL.nil (WQ.then (hK5 _ _ _ ?_))
      refine WC.sub (l' := [(0, .agg #[vI op, vI a, vI b]), (1, vP b1 0), (2, .bool false)]) ⟨rfl, rfl, rfl, trivial⟩ ?_
      refine WC.ret ?_
      refine WQ.ret1 2 rfl rfl ?_
      exact ⟨by rw [show farO op = false by unfold farO; simp [h5, h9]], HP.below hH4⟩
set_option maxRecDepth 20000 in
set_option maxHeartbeats 4000000 in
theorem farI_any (p : Option Addr) (n cap : Nat) (c A B : Nat → Int) (w : World) (hIn : Ec.InC w p n c A B) (hn : n ≤ 400) :
    Calls Try.prog 118 #[.slice p n cap, .func (.func 105) #[] #[]] w fun e w' => ∃ r : Int, e = .returned (.int .i64 r) ∧ (decide (0 ≤ r) = farB c n) ∧ Below w.heap.size w w' := by
  refine calls_of Try.func118 rfl (m := 19) rfl [(0, .slice p n cap), (1, .func (.func 105) #[] #[])] (Fr_enter [.slice p n cap, .func (.func 105) #[] #[]] 19 (Nat.le_of_ble_eq_true rfl)) ?_
  have hH1 : HP Tr w w [] := HP.refl w
  refine WC.seq fun K2 hK2 => WC.region ?_
  refine WL.z (v := vI 0) 4 ?_
  refine WL.nil (WQ.then (hK2 _ _ _ (WC.seq fun K3 hK3 => WC.seq fun K4 hK4 => WC.region ?_)))
  refine WL.z (v := .slice p n cap) 6 ?_
  refine WL.z (v := vI (n : Int)) 7 ?_
  refine WL.z (v := vI 0) 8 ?_
  refine WL.nil (WQ.then (hK4 _ _ _ (WC.block ?_)))
  refine WC.loop (fun kk0 ll0 ww0 => ∃ (i : Nat), ll0 = [(0, .slice p n cap), (1, .func (.func 105) #[] #[]), (7, vI (n : Int)), (8, vI (i : Int))] ∧ kk0 = n - i ∧ (i ≤ n) ∧ (∀ j, j < i → farO (c j) = false) ∧ HP Tr w ww0 []) (n) [(0, .slice p n cap), (1, .func (.func 105) #[] #[]), (7, vI (n : Int)), (8, vI 0)] ⟨rfl, rfl, rfl, rfl, trivial⟩ ⟨0, rfl, rfl, Nat.zero_le _, (fun j hj => by omega), hH1⟩ ?_
  rintro kk l w6 ⟨i, rfl, hkk, hi, hall, hH7⟩ K5 hK5
  refine WC.seq fun K8 hK8 => WC.region ?_
  by_cases hlt : (i : Int) < (n : Int)
  ·
    refine WL.y (v := .bool true) 9 (x_lss rfl rfl rfl (dT (hlt))) ?_
    refine WL.nil (WQ.then (hK8 _ _ _ (WC.seq fun K9 hK9 => WC.yes rfl (WC.skip (WQ.then (hK9 _ _ _ ?_))))))
    refine WC.seq fun K10 hK10 => WC.block (WC.seq fun K11 hK11 => WC.region ?_)
    refine WL.z (v := vI (i : Int)) 10 ?_
    refine WL.z (v := vI (i : Int)) 5 ?_
    refine WL.nil (WQ.then (hK11 _ _ _ (WC.seq fun K12 hK12 => ?_)))
    obtain ⟨bb, oo, rfl, hrow⟩ := hIn (by omega)
    refine WC.region ?_
    refine WL.z (v := .func (.func 105) #[] #[]) 11 ?_
    refine WL.z (v := .slice (some ⟨bb, oo, none⟩) n cap) 12 ?_
    refine WL.z (v := vI (i : Int)) 13 ?_
    refine WL.y (v := vP bb (oo + i * 3)) 14 (x_idx (i) (oo + i * 3) rfl rfl rfl Try.underlying42 sz75 (by omega) (by omega) (by omega)) ?_
    refine WL.y (v := .agg #[vI (c i), vI (A i), vI (B i)]) 15 (x_loadS (cs := [vI (c i), vI (A i), vI (B i)]) rfl rfl Try.underlying75 rfl sz75 (HP.oldRange hH7 trivial (hrow i (by omega)))) ?_
    refine WL.call (f := 105) (args := #[.agg #[vI (c i), vI (A i), vI (B i)]]) 16 rfl (Nat.le_of_ble_eq_true rfl) rfl rfl (by kernel_rfl) ?_
    refine (far1_any _ _ _ _).mono ?_
    rintro e w13 ⟨rfl, hb14⟩
    refine ⟨_, rfl, ?_⟩
    have hH15 : HP Tr w _ [] := HP.call hH7 hb14
    refine WL.nil (WQ.then (hK12 _ _ _ ?_))
    refine WC.sub (l' := [(0, .slice (some ⟨bb, oo, none⟩) n cap), (1, .func (.func 105) #[] #[]), (5, vI (i : Int)), (7, vI (n : Int)), (8, vI (i : Int)), (9, .bool true), (16, .bool (farO (c i)))]) ⟨rfl, rfl, rfl, rfl, rfl, rfl, rfl, trivial⟩ ?_
    rcases Bool.eq_false_or_eq_true (farO (c i)) with hA | hA
    ·
      refine WC.yes (congrArg (fun b => some (Value.bool b)) hA) ?_
      refine WC.seq fun K16 hK16 => WC.region ?_
      refine WL.z (v := vI (i : Int)) 17 ?_
      refine WL.z (v := vI (i : Int)) 4 ?_
      refine WL.nil (WQ.then (hK16 _ _ _ (WC.ret ?_)))
      refine WQ.inRet ?_
      refine WQ.thenRet ?_
      refine WQ.thenRet ?_
      refine WQ.inRet ?_
      refine WQ.thenRet ?_
      refine WQ.ret1 4 rfl rfl ?_
      exact ⟨(i : Int), rfl, by rw [farB_yes (show i < n by omega) hA]; simp, HP.below hH15⟩
    ·
      refine WC.no (congrArg (fun b => some (Value.bool b)) hA) ?_
      refine WC.skip (WQ.inNormal (WQ.then (hK10 _ _ _ (WC.region ?_))))
      refine WL.y (v := vI ((i + 1 : Nat) : Int)) 18 (x_add (Z := ((i + 1 : Nat) : Int)) rfl rfl rfl (by omega) (by omega) (by omega)) ?_
      refine WL.z (v := vI ((i + 1 : Nat) : Int)) 8 ?_
      refine WL.nil ?_
      refine WQ.sub (l' := [(0, .slice (some ⟨bb, oo, none⟩) n cap), (1, .func (.func 105) #[] #[]), (7, vI (n : Int)), (8, vI ((i + 1 : Nat) : Int))]) ⟨rfl, rfl, rfl, rfl, trivial⟩ ?_
      refine WQ.then (hK5 _ _ _ (by omega) ⟨i + 1, rfl, rfl, by omega, (fun j hj => by
                by_cases q : j = i
                · subst q; exact hA
                · exact hall j (by omega)), hH15⟩)
  ·
    refine WL.y (v := .bool false) 9 (x_lss rfl rfl rfl (dF (hlt))) ?_
    refine WL.nil (WQ.then (hK8 _ _ _ (WC.seq fun K17 hK17 => WC.no rfl (WC.exit (WQ.thenExit (WQ.thenExit ?_))))))
    refine WQ.inExit (WQ.then (hK3 _ _ _ (WC.seq fun K18 hK18 => WC.region ?_)))
    refine WL.z (v := vI (-1)) 4 ?_
    refine WL.nil (WQ.then (hK18 _ _ _ (WC.ret ?_)))
    refine WQ.ret1 4 rfl rfl ?_
    exact ⟨-1, rfl, by rw [farB_no (fun j hj => hall j (by omega))]; decide, HP.below hH7⟩
set_option maxRecDepth 20000 in
set_option maxHeartbeats 4000000 in
theorem farC_any (p : Option Addr) (n cap : Nat) (c A B : Nat → Int) (w : World) (hIn : Ec.InC w p n c A B) (hn : n ≤ 400) :
    Calls Try.prog 107 #[.slice p n cap, .func (.func 105) #[] #[]] w fun e w' => e = .returned (.bool (farB c n)) ∧ Below w.heap.size w w' := by
  refine calls_of Try.func107 rfl (m := 9) rfl [(0, .slice p n cap), (1, .func (.func 105) #[] #[])] (Fr_enter [.slice p n cap, .func (.func 105) #[] #[]] 9 (Nat.le_of_ble_eq_true rfl)) ?_
  have hH1 : HP Tr w w [] := HP.refl w
  refine WC.seq fun K2 hK2 => WC.region ?_
  refine WL.z (v := .bool false) 4 ?_
  refine WL.nil (WQ.then (hK2 _ _ _ (WC.seq fun K3 hK3 => WC.region ?_)))
  refine WL.z (v := .slice p n cap) 5 ?_
  refine WL.z (v := .func (.func 105) #[] #[]) 6 ?_
  refine WL.call (f := 118) (args := #[.slice p n cap, .func (.func 105) #[] #[]]) 7 rfl (Nat.le_of_ble_eq_true rfl) rfl rfl (by kernel_rfl) ?_
  refine (farI_any p n cap c A B _ (hIn.below (HP.below hH1)) hn).mono ?_
  rintro e w4 ⟨r, rfl, hr, hb5⟩
  refine ⟨_, rfl, ?_⟩
  have hH6 : HP Tr w _ [] := HP.call hH1 hb5
  refine WL.y (v := .bool (farB c n)) 8 (x_geq rfl rfl rfl hr) ?_
  refine WL.z (v := .bool (farB c n)) 4 ?_
  refine WL.nil (WQ.then (hK3 _ _ _ (WC.ret ?_)))
  refine WQ.ret1 4 rfl rfl ?_
  exact ⟨rfl, HP.below hH6⟩
theorem Valid_at {s y l m : Int} {r : Bool} (h : vG s y l m = r) (w : World) : Calls Try.prog 22 #[.agg #[vI s, vI y, vI l, vI m]] w fun e w' => e = .returned (.bool r) ∧ Below w.heap.size w w' := h ▸ Valid_any s y l m w
theorem farC_at {c A B : Nat → Int} {n : Nat} {r : Bool} (h : farB c n = r) (p : Option Addr) (cap : Nat) (w : World) (hIn : Ec.InC w p n c A B) (hn : n ≤ 400) : Calls Try.prog 107 #[.slice p n cap, .func (.func 105) #[] #[]] w fun e w' => e = .returned (.bool r) ∧ Below w.heap.size w w' := h ▸ farC_any p n cap c A B w hIn hn
set_option maxRecDepth 20000 in
set_option maxHeartbeats 4000000 in
theorem checked_any (s y l m : Int) (p : Option Addr) (n cap : Nat) (c A B : Nat → Int) (w : World) (hIn : Ec.InC w p n c A B) (hn : n ≤ 400) :
    Calls Try.prog 86 #[.agg #[vI s, vI y, vI l, vI m], .slice p n cap] w fun e w' => e = .returned (.bool (okC s y l m c A B n)) ∧ Below w.heap.size w w' := by
  refine calls_of Try.func86 rfl (m := 19) rfl [(0, .agg #[vI s, vI y, vI l, vI m]), (1, .slice p n cap)] (Fr_enter [.agg #[vI s, vI y, vI l, vI m], .slice p n cap] 19 (Nat.le_of_ble_eq_true rfl)) ?_
  have hH1 : HP Tr w w [] := HP.refl w
  refine WC.seq fun K2 hK2 => WC.region ?_
  refine WL.alloc (c := #[vI s, vI y, vI l, vI m]) (T := 23) hH1 2 rfl (by decide) rfl rfl (fun b2 => vP b2 0) (by kernel_rfl) (fun b2 w3 hw3 => ?_)
  have hH4 : HP Tr w w3 [.cel b2 #[vI s, vI y, vI l, vI m] 23] := hw3.2
  have nb2 := hw3.1
  clear hw3
  refine WL.z (v := .bool false) 4 ?_
  refine WL.nil (WQ.then (hK2 _ _ _ (WC.seq fun K5 hK5 => WC.region ?_)))
  refine WL.z (v := .func (.func 105) #[] #[]) 5 ?_
  refine WL.nil (WQ.then (hK5 _ _ _ (WC.seq fun K6 hK6 => WC.region ?_)))
  refine WL.y (v := .agg #[vI s, vI y, vI l, vI m]) 6 (x_loadS (cs := [vI s, vI y, vI l, vI m]) rfl rfl Try.underlying23 rfl sz23 (HP.range hH4 0 rfl rfl)) ?_
  rcases Bool.eq_false_or_eq_true (vG s y l m) with hg | hg
  ·
    refine WL.call (f := 22) (args := #[.agg #[vI s, vI y, vI l, vI m]]) 7 rfl (Nat.le_of_ble_eq_true rfl) rfl rfl (by kernel_rfl) ?_
    refine (Valid_at hg _).mono ?_
    rintro e w7 ⟨rfl, hb8⟩
    refine ⟨_, rfl, ?_⟩
    have hH9 : HP Tr w _ [.cel b2 #[vI s, vI y, vI l, vI m] 23] := HP.call hH4 hb8
    refine WL.z (v := .bool true) 8 ?_
    refine WL.z (v := .slice p n cap) 9 ?_
    refine WL.call (f := 106) (args := #[.slice p n cap, .bool false]) 10 rfl (Nat.le_of_ble_eq_true rfl) rfl rfl (by kernel_rfl) ?_
    refine (Ec.Check_any p n cap c A B false _ (hIn.below (HP.below hH9)) hn).mono ?_
    rintro e w10 ⟨rfl, hb11⟩
    refine ⟨_, rfl, ?_⟩
    have hH12 : HP Tr w _ [.cel b2 #[vI s, vI y, vI l, vI m] 23] := HP.call hH9 hb11
    by_cases hck : (Ec.chk c A B false n) = 0
    ·
      refine WL.y (v := .bool true) 11 (x_eql rfl rfl rfl (dT (hck))) ?_
      refine WL.z (v := .bool true) 12 ?_
      refine WL.z (v := .bool true) 13 ?_
      refine WL.z (v := .slice p n cap) 14 ?_
      refine WL.z (v := .func (.func 105) #[] #[]) 15 ?_
      rcases Bool.eq_false_or_eq_true (farB c n) with hf | hf
      ·
        refine WL.call (f := 107) (args := #[.slice p n cap, .func (.func 105) #[] #[]]) 16 rfl (Nat.le_of_ble_eq_true rfl) rfl rfl (by kernel_rfl) ?_
        refine (farC_at hf p cap _ (hIn.below (HP.below hH12)) hn).mono ?_
        rintro e w13 ⟨rfl, hb14⟩
        refine ⟨_, rfl, ?_⟩
        have hH15 : HP Tr w _ [.cel b2 #[vI s, vI y, vI l, vI m] 23] := HP.call hH12 hb14
        refine WL.z (v := .bool false) 17 ?_
        refine WL.z (v := .bool false) 18 ?_
        refine WL.z (v := .bool false) 4 ?_
        refine WL.nil (WQ.then (hK6 _ _ _ ?_))
        refine WC.sub (l' := [(0, .agg #[vI s, vI y, vI l, vI m]), (1, .slice p n cap), (2, vP b2 0), (4, .bool false), (5, .func (.func 105) #[] #[])]) ⟨rfl, rfl, rfl, rfl, rfl, trivial⟩ ?_
        refine WC.ret ?_
        refine WQ.ret1 4 rfl rfl ?_
        exact ⟨by rw [show okC s y l m c A B n = false by unfold okC; simp [hg, hck, hf]], HP.below hH15⟩
      ·
        refine WL.call (f := 107) (args := #[.slice p n cap, .func (.func 105) #[] #[]]) 16 rfl (Nat.le_of_ble_eq_true rfl) rfl rfl (by kernel_rfl) ?_
        refine (farC_at hf p cap _ (hIn.below (HP.below hH12)) hn).mono ?_
        rintro e w16 ⟨rfl, hb17⟩
        refine ⟨_, rfl, ?_⟩
        have hH18 : HP Tr w _ [.cel b2 #[vI s, vI y, vI l, vI m] 23] := HP.call hH12 hb17
        refine WL.z (v := .bool true) 17 ?_
        refine WL.z (v := .bool true) 18 ?_
        refine WL.z (v := .bool true) 4 ?_
        refine WL.nil (WQ.then (hK6 _ _ _ ?_))
        refine WC.sub (l' := [(0, .agg #[vI s, vI y, vI l, vI m]), (1, .slice p n cap), (2, vP b2 0), (4, .bool true), (5, .func (.func 105) #[] #[])]) ⟨rfl, rfl, rfl, rfl, rfl, trivial⟩ ?_
        refine WC.ret ?_
        refine WQ.ret1 4 rfl rfl ?_
        exact ⟨by rw [show okC s y l m c A B n = true by unfold okC; simp [hg, hck, hf]], HP.below hH18⟩
    ·
      refine WL.y (v := .bool false) 11 (x_eql rfl rfl rfl (dF (hck))) ?_
      refine WL.z (v := .bool false) 12 ?_
      refine WL.z (v := .bool false) 13 ?_
      refine WL.p 14 ?_
      refine WL.p 15 ?_
      refine WL.p 16 ?_
      refine WL.p 17 ?_
      refine WL.z (v := .bool false) 18 ?_
      refine WL.z (v := .bool false) 4 ?_
      refine WL.nil (WQ.then (hK6 _ _ _ ?_))
      refine WC.sub (l' := [(0, .agg #[vI s, vI y, vI l, vI m]), (1, .slice p n cap), (2, vP b2 0), (4, .bool false), (5, .func (.func 105) #[] #[])]) ⟨rfl, rfl, rfl, rfl, rfl, trivial⟩ ?_
      refine WC.ret ?_
      refine WQ.ret1 4 rfl rfl ?_
      exact ⟨by rw [show okC s y l m c A B n = false by unfold okC; simp [hg, hck]], HP.below hH12⟩
  ·
    refine WL.call (f := 22) (args := #[.agg #[vI s, vI y, vI l, vI m]]) 7 rfl (Nat.le_of_ble_eq_true rfl) rfl rfl (by kernel_rfl) ?_
    refine (Valid_at hg _).mono ?_
    rintro e w19 ⟨rfl, hb20⟩
    refine ⟨_, rfl, ?_⟩
    have hH21 : HP Tr w _ [.cel b2 #[vI s, vI y, vI l, vI m] 23] := HP.call hH4 hb20
    refine WL.z (v := .bool false) 8 ?_
    refine WL.p 9 ?_
    refine WL.p 10 ?_
    refine WL.p 11 ?_
    refine WL.z (v := .bool false) 12 ?_
    refine WL.z (v := .bool false) 13 ?_
    refine WL.p 14 ?_
    refine WL.p 15 ?_
    refine WL.p 16 ?_
    refine WL.p 17 ?_
    refine WL.z (v := .bool false) 18 ?_
    refine WL.z (v := .bool false) 4 ?_
    refine WL.nil (WQ.then (hK6 _ _ _ ?_))
    refine WC.sub (l' := [(0, .agg #[vI s, vI y, vI l, vI m]), (1, .slice p n cap), (2, vP b2 0), (4, .bool false), (5, .func (.func 105) #[] #[])]) ⟨rfl, rfl, rfl, rfl, rfl, trivial⟩ ?_
    refine WC.ret ?_
    refine WQ.ret1 4 rfl rfl ?_
    exact ⟨by rw [show okC s y l m c A B n = false by unfold okC; simp [hg]], HP.below hH21⟩
theorem checked_at {s y l m : Int} {c A B : Nat → Int} {n : Nat} {r : Bool} (h : okC s y l m c A B n = r) (p : Option Addr) (cap : Nat) (w : World) (hIn : Ec.InC w p n c A B) (hn : n ≤ 400) : Calls Try.prog 86 #[.agg #[vI s, vI y, vI l, vI m], .slice p n cap] w fun e w' => e = .returned (.bool r) ∧ Below w.heap.size w w' := h ▸ checked_any s y l m p n cap c A B w hIn hn
theorem ne_of {S : Nat → Prop} {w0 w : World} {H : List Ent} (h : HP S w0 w H) (i j : Nat) {e e' : Ent} {b b' : Nat} (hij : i < j) (h1 : H[i]? = some e) (h2 : H[j]? = some e') (h3 : e.blk = some b) (h4 : e'.blk = some b') : b ≠ b' := fun q => by
  obtain ⟨l1, g1⟩ := List.getElem?_eq_some_iff.1 h1
  obtain ⟨l2, g2⟩ := List.getElem?_eq_some_iff.1 h2
  have := List.pairwise_iff_getElem.1 h.apart i j l1 l2 hij
  rw [g1, g2] at this
  exact this b h3 (q ▸ h4)
theorem out1 {b g : Nat} {c : Array Value} {T : TypeId} (h : b ≠ g) : Out [.cel g c T] b := fun e he hb => by
  obtain rfl := List.mem_singleton.1 he
  exact h (Option.some.inj hb).symm
/-! A row of truth values. -/
def upB (f : Nat → Bool) (i : Nat) (v : Bool) : Nat → Bool := fun j => if j = i then v else f j
def brow (n : Nat) (f : Nat → Bool) : Array Value := (Array.range n).map fun i => .bool (f i)
theorem brow_get {n j : Nat} {f : Nat → Bool} {v : Bool} (hj : j < n) (hv : f j = v) : (brow n f)[j]? = some (.bool v) := by simp [brow, hj, hv]
theorem brow_set (n i : Nat) (f : Nat → Bool) (v : Bool) : (brow n f).setIfInBounds i (.bool v) = brow n (upB f i v) := by
  apply Array.ext
  · simp [brow]
  · intro j h1 h2
    rw [Array.getElem_setIfInBounds (by simpa using h1)]
    by_cases e : i = j
    · subst e; simp [brow, upB]
    · rw [if_neg e]; simp [brow, upB, Ne.symm e]
theorem brow_congr {n : Nat} {f g : Nat → Bool} (h : ∀ i, i < n → f i = g i) : brow n f = brow n g := by
  unfold brow
  apply Array.ext
  · simp
  · intro i h1 h2
    have hi : i < n := by simpa using h1
    simp [h i hi]
theorem infoB : ∃ i, Try.prog.info? 4 = some i ∧ i.zero = some (.bool false) ∧ i.size = 1 ∧ i.bytes = 1 := by
  obtain ⟨i, hi, h⟩ := Option.map_eq_some_iff.1 (show (Try.prog.info? 4).map (fun i => (i.zero, i.size, i.bytes)) = some (some (.bool false), 1, 1) by kernel_rfl)
  simp only [Prod.mk.injEq] at h
  exact ⟨i, hi, h.1, h.2.1, h.2.2⟩
theorem made_brow (n : Nat) : madeCells (Value.bool false).cells (n * 1) = brow n (fun _ => false) := by
  apply Array.ext
  · simp [madeCells, brow]
  · intro i h1 h2
    simp [madeCells, brow, Value.cells, Nat.mod_one]
theorem makeB (n : Nat) (hn : n ≤ 1000) (W : World) : (Instr.makeSlice 39 (.int .i64 (n : Int)) (.int .i64 (n : Int))).run Try.prog W = .ok (.slice (some ⟨W.heap.size, 0, none⟩) n n) (W.alloc (.cells (brow n (fun _ => false)) 4)) := by
  obtain ⟨i0, hi0, hz0, hz1, hz2⟩ := infoB
  have hr := run_make (P := Try.prog) W 39 4 i0 _ Try.underlying39 hi0 hz0 .i64 .i64 (n : Int) (n : Int) (by omega) (by omega) (by rw [hz2]; omega) (by omega)
  rw [hz1, made_brow] at hr
  simpa using hr
theorem out_bool {w : World} {g n : Nat} {f : Nat → Bool} (hB : OwnB w [.cel g (brow n f) 4]) {b o : Nat} {x : Int} (hc : w.cell? ⟨b, o, none⟩ = some (vI x)) : Out [.cel g (brow n f) 4] b := out1 fun e => by
  subst e
  have h2 := hB.1 (.cel b (brow n f) 4) (by simp)
  rw [cell_of_row w b o _ 4 (0, 0) h2] at hc
  have hi : o < n := by
    have := (Array.getElem?_eq_some_iff.1 hc).1
    simpa [brow] using this
  rw [brow_get hi rfl] at hc
  cases hc
def mkF (ah : Nat → List T2) (l : Int) (i : Nat) : Nat → Bool := fun j => decide (j < i) && (ageT (ah j) ((j : Int) / l)).isSome
theorem mkF_0 (ah : Nat → List T2) (l : Int) (j : Nat) : mkF ah l 0 j = false := by simp [mkF]
theorem mkF_step (ah : Nat → List T2) (l : Int) (i j : Nat) : upB (mkF ah l i) i (ageT (ah i) ((i : Int) / l)).isSome j = mkF ah l (i + 1) j := by
  unfold upB mkF
  by_cases e : j = i
  · subst e; rw [if_pos rfl, decide_eq_true (Nat.lt_succ_self j), Bool.true_and]
  · rw [if_neg e]
    by_cases q : j < i
    · rw [decide_eq_true q, decide_eq_true (show j < i + 1 by omega)]
    · rw [decide_eq_false q, decide_eq_false (show ¬ j < i + 1 by omega)]
theorem find2_any (p : Option Addr) (t : List T2) (cp : Nat) (w : World) (hT : InT w p t) (x : Int) (hn : t.length ≤ 281474976710656) (hs : sT t) :
    Calls Try.prog 83 #[.slice p t.length cp, vI x] w fun e w' => ∃ k : Nat, e = .returned (.tuple #[vI (k : Int), .bool (ageT t x).isSome]) ∧ Below w.heap.size w w' :=
  (find_any p t cp w hT x hn).mono fun e w' ⟨k, fb, h1, h2, h3, h4, h5, h6⟩ => ⟨k, by
    rw [h1, h5]
    by_cases q : k < t.length ∧ lnT t k = x
    · rw [decide_eq_true q, ← q.2, age_at hs q.1]; rfl
    · rw [decide_eq_false q, find_none hs h2 h3 h4 q]; rfl, h6⟩
theorem nil_ok {s y l m : Int} {w : World} (hg : vG s y l m = true) : TbOk s y l m w ⟨none, [], 0⟩ := ⟨fun h => absurd h (by simp), VT.nil hg⟩
abbrev pE0 (pb : Nat) (cq : Option Addr) (n cap b6 b4 fj : Nat) : Ent := .cel pb #[.slice cq n cap, .func (.func 87) #[] #[vP b6 0, vP b4 0], .func (.func fj) #[] #[], .func (.func 88) #[] #[], .func (.func 89) #[] #[], .slice none 0 0] 112
theorem out_int0 {w : World} {pb n cap b6 b4 fj : Nat} {cq : Option Addr} (hB : OwnB w [pE0 pb cq n cap b6 b4 fj]) {b o : Nat} {x : Int} (hc : w.cell? ⟨b, o, none⟩ = some (vI x)) : Out [pE0 pb cq n cap b6 b4 fj] b := fun e he hb => by
  obtain rfl := List.mem_singleton.1 he
  cases hb
  have h2 := hB.1 (pE0 pb cq n cap b6 b4 fj) (by simp)
  rw [cell_of_row w pb o _ 112 (0, 0) h2] at hc
  match o, hc with
  | 0, hc => simp at hc
  | 1, hc => simp at hc
  | 2, hc => simp at hc
  | 3, hc => simp at hc
  | 4, hc => simp at hc
  | 5, hc => simp at hc
  | o + 6, hc => simp at hc
def nilT : Nat → TbI := fun _ => ⟨none, [], 0⟩
theorem info88 : ∃ i, Try.prog.info? 88 = some i ∧ i.zero = some (.slice none 0 0) ∧ i.size = 1 ∧ i.bytes = 24 := by
  obtain ⟨i, hi, h⟩ := Option.map_eq_some_iff.1 (show (Try.prog.info? 88).map (fun i => (i.zero, i.size, i.bytes)) = some (some (.slice none 0 0), 1, 24) by kernel_rfl)
  simp only [Prod.mk.injEq] at h
  exact ⟨i, hi, h.1, h.2.1, h.2.2⟩
theorem made_aR (n : Nat) : madeCells (Value.slice none 0 0).cells (n * 1) = aR n nilT := by
  apply Array.ext
  · simp [madeCells, aR]
  · intro i h1 h2
    simp [madeCells, aR, nilT, Value.cells, Nat.mod_one]
theorem makeT (n : Nat) (hn : n ≤ 1000) (W : World) : (Instr.makeSlice 110 (.int .i64 (n : Int)) (.int .i64 (n : Int))).run Try.prog W = .ok (.slice (some ⟨W.heap.size, 0, none⟩) n n) (W.alloc (.cells (aR n nilT) 88)) := by
  obtain ⟨i0, hi0, hz0, hz1, hz2⟩ := info88
  have hr := run_make (P := Try.prog) W 110 88 i0 _ Try.underlying110 hi0 hz0 .i64 .i64 (n : Int) (n : Int) (by omega) (by omega) (by rw [hz2]; omega) (by omega)
  rw [hz1, made_aR] at hr
  simpa using hr
set_option maxRecDepth 20000 in
set_option maxHeartbeats 4000000 in
theorem solve0_any (s y l m : Int) (pb : Nat) (cq : Option Addr) (n cap b6 b4 : Nat) (c A B : Nat → Int) (hg0 : vG s y l m = true) (hc : Ec.chk c A B false n = 0) (R : Fl.Tr) (hIs0 : Fl.Is (cdOf c n) R 0 n) (hbr0 : ∀ ga, BrAll (BrP0 s y l m pb cq n cap b6 b4 ga c A B) (BrA0 s y l m pb cq n cap b6 b4 ga c A B) R) (w : World) (hB : OwnB w [pE0 pb cq n cap b6 b4 63]) (hcode : Ec.InC w cq n c A B) (geo : w.rangeAt b4 0 [vI s, vI y, vI l, vI m]) (how : w.cell? ⟨b6, 0, none⟩ = some (.func (.func 59) #[] #[])) (nb : b6 ≠ pb) :
    Calls Try.prog 90 #[vP pb 0, .slice none 0 0] w fun e w' => ∃ ga T' r', e = .returned (.tuple #[vS ga n n, tbV r']) ∧ HP (Out [pE0 pb cq n cap b6 b4 63]) w w' [pE pb cq n cap b6 b4 63 ga, aE ga n T'] ∧ (∀ i, TbOk s y l m w' (T' i)) ∧ (r'.t, tabs T') = Fl.sol (ops0 s y l) (cdOf c n) R [] (fun _ => []) := by
  have hn9 := (Ec.chk_ok hc).1
  refine calls_of Try.func90 rfl (m := 29) rfl [(0, vP pb 0), (1, .slice none 0 0)] (Fr_enter [vP pb 0, .slice none 0 0] 29 (Nat.le_of_ble_eq_true rfl)) ?_
  refine WC.seq fun K1 hK1 => WC.region ?_
  refine WL.z (v := .slice none 0 0) 4 ?_
  refine WL.z (v := .slice none 0 0) 5 ?_
  refine WL.nil (WQ.then (hK1 _ _ _ (WC.seq fun K2 hK2 => WC.region ?_)))
  refine WL.z (v := vP pb 0) 7 ?_
  refine WL.z (v := vP pb 0) 8 ?_
  refine WL.z (v := vP pb 0) 9 ?_
  refine WL.z (v := vP pb 0) 10 ?_
  refine WL.y (v := .slice cq n cap) 11 (x_load rfl rfl Try.underlying42 rfl (HP.cell (HP.startB hB) 0 rfl rfl)) ?_
  refine WL.z (v := vI (n : Int)) 12 ?_
  refine WL.alloc (c := aR n nilT) (T := 88) (HP.startB hB) 13 rfl (by decide) rfl rfl (fun ga => vS ga n n) (x_makeR rfl rfl rfl (makeT n (by omega) _)) (fun ga w9 hw9 => ?_)
  have hga := hw9.1
  have hH3 : HP (Out [pE0 pb cq n cap b6 b4 63]) w w9 [.cel pb #[.slice cq n cap, .func (.func 87) #[] #[vP b6 0, vP b4 0], .func (.func 63) #[] #[], .func (.func 88) #[] #[], .func (.func 89) #[] #[], .slice none 0 0] 112, .cel ga (aR n nilT) 88] := hw9.2
  refine WL.z (v := vP pb 0) 14 ?_
  refine WL.z (v := vP pb 5) 15 ?_
  refine WL.store (H2 := [.cel pb #[.slice cq n cap, .func (.func 87) #[] #[vP b6 0, vP b4 0], .func (.func 63) #[] #[], .func (.func 88) #[] #[], .func (.func 89) #[] #[], vS ga n n] 112, .cel ga (aR n nilT) 88]) 0 hH3 rfl rfl rfl rfl rfl rfl sz110 rfl (Nat.le_of_ble_eq_true rfl) rfl rfl ?_
  intro w4 hH5
  refine WL.nil (WQ.then (hK2 _ _ _ ?_))
  refine WC.sub (l' := [(0, vP pb 0), (1, .slice none 0 0), (4, .slice none 0 0), (5, .slice none 0 0)]) ⟨rfl, rfl, rfl, rfl, trivial⟩ ?_
  refine WC.seq fun K6 hK6 => WC.region ?_
  refine WL.z (v := vP pb 0) 16 ?_
  refine WL.z (v := vP pb 0) 17 ?_
  refine WL.z (v := vP pb 0) 18 ?_
  refine WL.z (v := vP pb 0) 19 ?_
  refine WL.y (v := .slice cq n cap) 20 (x_load rfl rfl Try.underlying42 rfl (HP.cell hH5 0 rfl rfl)) ?_
  refine WL.z (v := vI (n : Int)) 21 ?_
  refine WL.z (v := .slice none 0 0) 22 ?_
  have hI9 : Ec.InC _ cq n c A B := fun h0 => by
      obtain ⟨g9, o9, hq9, hr9⟩ := hcode h0
      exact ⟨g9, o9, hq9, fun i9 h9 => HP.oldRange hH5 (out_int0 hB (hr9 i9 h9 0 _ rfl)) (hr9 i9 h9)⟩
  have hb6l := World.block_lt_of_cell? w _ how
  have hE9 : Env s y l m pb cq n cap b6 b4 59 63 ga c A B _ nilT := ⟨HP.ownF (A := [pE pb cq n cap b6 b4 63 ga, aE ga n nilT]) (B := []) hH5, hI9, HP.oldRange hH5 (out_int0 hB (geo 0 _ rfl)) geo, HP.old hH5 (fun e he hb => by obtain rfl := List.mem_singleton.1 he; cases hb; exact nb rfl) how, nb, by simp only [] at hb6l; omega⟩
  refine WL.call (f := 108) (args := #[vP pb 0, vI 0, vI (n : Int), .slice none 0 0]) 23 rfl (Nat.le_of_ble_eq_true rfl) rfl rfl (by kernel_rfl) ?_
  refine (list0_any s y l m pb cq n cap b6 b4 ga c A B hg0 hc R 0 n hIs0 (Nat.le_refl _) (hbr0 ga) _ nilT ⟨none, [], 0⟩ hE9 (nil_ok hg0) (fun _ => nil_ok hg0)).mono ?_
  rintro e w9 ⟨r9, T9, rfl, hb9, hr9, hT9, hX9⟩
  refine ⟨_, rfl, ?_⟩
  have hH7 : HP (Out [pE0 pb cq n cap b6 b4 63]) w _ [.cel pb #[.slice cq n cap, .func (.func 87) #[] #[vP b6 0, vP b4 0], .func (.func 63) #[] #[], .func (.func 88) #[] #[], .func (.func 89) #[] #[], vS ga n n] 112, .cel ga (aR n T9) 88] := HP.exch (A := []) hH5 hb9
  refine WL.z (v := .slice r9.q r9.t.length r9.c) 6 ?_
  refine WL.nil (WQ.then (hK6 _ _ _ ?_))
  refine WC.sub (l' := [(0, vP pb 0), (1, .slice none 0 0), (4, .slice none 0 0), (5, .slice none 0 0), (6, .slice r9.q r9.t.length r9.c)]) ⟨rfl, rfl, rfl, rfl, rfl, trivial⟩ ?_
  refine WC.seq fun K8 hK8 => WC.region ?_
  refine WL.z (v := vP pb 0) 24 ?_
  refine WL.z (v := vP pb 0) 25 ?_
  refine WL.z (v := vP pb 5) 26 ?_
  refine WL.y (v := vS ga n n) 27 (x_load rfl rfl Try.underlying110 rfl (HP.cell hH7 0 rfl rfl)) ?_
  refine WL.z (v := .slice r9.q r9.t.length r9.c) 28 ?_
  refine WL.z (v := vS ga n n) 4 ?_
  refine WL.z (v := .slice r9.q r9.t.length r9.c) 5 ?_
  refine WL.nil (WQ.then (hK8 _ _ _ ?_))
  refine WC.sub (l' := [(0, vP pb 0), (1, .slice none 0 0), (4, vS ga n n), (5, .slice r9.q r9.t.length r9.c), (6, .slice r9.q r9.t.length r9.c)]) ⟨rfl, rfl, rfl, rfl, rfl, trivial⟩ ?_
  refine WC.ret ?_
  refine WQ.ret2 4 5 rfl rfl rfl ?_
  exact ⟨ga, T9, r9, rfl, hH7, hT9, hX9⟩
/-- what is marked -/
def mk0 (s y l : Int) (c : Nat → Int) (n : Nat) (R : Fl.Tr) (i : Nat) : Bool := (ageT ((Fl.sol (ops0 s y l) (cdOf c n) R [] (fun _ => [])).2 i) ((i : Int) / l)).isSome
def MarkR0 (s y l m : Int) (c A B : Nat → Int) (n : Nat) (R : Fl.Tr) (w : World) (e : Ending) (w' : World) : Prop :=
  (okC s y l m c A B n = false ∧ e = .returned (.tuple #[.slice none 0 0, vI 1]) ∧ Below w.heap.size w w') ∨
  (okC s y l m c A B n = true ∧ ∃ go, e = .returned (.tuple #[vS go n n, vI 0]) ∧ HP Tr w w' [.cel go (brow n (mk0 s y l c n R)) 4])
theorem mkF_end0 {s y l : Int} {c : Nat → Int} {n : Nat} {R : Fl.Tr} {T : Nat → TbI} (h : tabs T = (Fl.sol (ops0 s y l) (cdOf c n) R [] (fun _ => [])).2) {i : Nat} (hi : n ≤ i) : ∀ j, j < n → mkF (tabs T) l i j = mk0 s y l c n R j := fun j hj => by
  unfold mkF mk0; rw [decide_eq_true (show j < i by omega), Bool.true_and, h]
set_option maxRecDepth 20000 in
set_option maxHeartbeats 4000000 in
theorem marks0_any (s y l m : Int) (p : Option Addr) (n cap : Nat) (c A B : Nat → Int) (R : Fl.Tr) (hR : okC s y l m c A B n = true → Fl.Is (cdOf c n) R 0 n ∧ ∀ (pb : Nat) (cq : Option Addr) (cap b6 b4 ga : Nat), BrAll (BrP0 s y l m pb cq n cap b6 b4 ga c A B) (BrA0 s y l m pb cq n cap b6 b4 ga c A B) R) (w : World) (hIn : Ec.InC w p n c A B) (hn : n ≤ 400) :
    Calls Try.prog 70 #[.agg #[vI s, vI y, vI l, vI m], .slice p n cap, .func (.func 59) #[] #[], .func (.func 63) #[] #[]] w (MarkR0 s y l m c A B n R w) := by
  refine calls_of Try.func70 rfl (m := 54) rfl [(0, .agg #[vI s, vI y, vI l, vI m]), (1, .slice p n cap), (2, .func (.func 59) #[] #[]), (3, .func (.func 63) #[] #[])] (Fr_enter [.agg #[vI s, vI y, vI l, vI m], .slice p n cap, .func (.func 59) #[] #[], .func (.func 63) #[] #[]] 54 (Nat.le_of_ble_eq_true rfl)) ?_
  have hH1 : HP Tr w w [] := HP.refl w
  refine WC.seq fun K2 hK2 => WC.region ?_
  refine WL.alloc (c := #[vI s, vI y, vI l, vI m]) (T := 23) hH1 4 rfl (by decide) rfl rfl (fun b4 => vP b4 0) (by kernel_rfl) (fun b4 w3 hw3 => ?_)
  have hH4 : HP Tr w w3 [.cel b4 #[vI s, vI y, vI l, vI m] 23] := hw3.2
  have nb4 := hw3.1
  clear hw3
  refine WL.alloc (c := #[.func (.func 59) #[] #[]]) (T := 81) hH4 6 rfl (by decide) rfl rfl (fun b6 => vP b6 0) (by kernel_rfl) (fun b6 w5 hw5 => ?_)
  have hH6 : HP Tr w w5 [.cel b4 #[vI s, vI y, vI l, vI m] 23, .cel b6 #[.func (.func 59) #[] #[]] 81] := hw5.2
  have nb6 := hw5.1
  clear hw5
  refine WL.z (v := .slice none 0 0) 8 ?_
  refine WL.z (v := vI 0) 9 ?_
  refine WL.nil (WQ.then (hK2 _ _ _ (WC.seq fun K7 hK7 => WC.seq fun K8 hK8 => WC.region ?_)))
  refine WL.y (v := .agg #[vI s, vI y, vI l, vI m]) 15 (x_loadS (cs := [vI s, vI y, vI l, vI m]) rfl rfl Try.underlying23 rfl sz23 (HP.range hH6 0 rfl rfl)) ?_
  refine WL.z (v := .slice p n cap) 16 ?_
  rcases Bool.eq_false_or_eq_true (okC s y l m c A B n) with hok | hok
  ·
    obtain ⟨hg0, hc0, hf0⟩ := okC_iff.1 hok
    obtain ⟨hIs0, hbr0⟩ := hR hok
    have hg := vG_iff.1 hg0
    have hn9 := (Ec.chk_ok hc0).1
    refine WL.call (f := 86) (args := #[.agg #[vI s, vI y, vI l, vI m], .slice p n cap]) 17 rfl (Nat.le_of_ble_eq_true rfl) rfl rfl (by kernel_rfl) ?_
    refine (checked_at hok p cap _ (hIn.below (HP.below hH6)) hn).mono ?_
    rintro e w9 ⟨rfl, hb10⟩
    refine ⟨_, rfl, ?_⟩
    have hH11 : HP Tr w _ [.cel b4 #[vI s, vI y, vI l, vI m] 23, .cel b6 #[.func (.func 59) #[] #[]] 81] := HP.call hH6 hb10
    refine WL.z (v := .bool false) 18 ?_
    refine WL.nil (WQ.then (hK8 _ _ _ (WC.no rfl (WC.skip (WQ.then (hK7 _ _ _ (WC.seq fun K12 hK12 => ?_)))))))
    refine WC.region ?_
    refine WL.z (v := .slice p n cap) 19 ?_
    refine WL.z (v := .func (.func 87) #[] #[vP b6 0, vP b4 0]) 20 ?_
    refine WL.z (v := .func (.func 63) #[] #[]) 21 ?_
    refine WL.z (v := .agg #[.slice p n cap, .func (.func 87) #[] #[vP b6 0, vP b4 0], .func (.func 63) #[] #[], .func (.func 88) #[] #[], .func (.func 89) #[] #[], .slice none 0 0]) 22 ?_
    refine WL.alloc (c := #[.slice p n cap, .func (.func 87) #[] #[vP b6 0, vP b4 0], .func (.func 63) #[] #[], .func (.func 88) #[] #[], .func (.func 89) #[] #[], .slice none 0 0]) (T := 112) hH11 23 rfl (by decide) rfl rfl (fun b23 => vP b23 0) (by kernel_rfl) (fun b23 w13 hw13 => ?_)
    have hH14 : HP Tr w w13 [.cel b4 #[vI s, vI y, vI l, vI m] 23, .cel b6 #[.func (.func 59) #[] #[]] 81, .cel b23 #[.slice p n cap, .func (.func 87) #[] #[vP b6 0, vP b4 0], .func (.func 63) #[] #[], .func (.func 88) #[] #[], .func (.func 89) #[] #[], .slice none 0 0] 112] := hw13.2
    have nb23 := hw13.1
    clear hw13
    refine WL.z (v := vP b23 0) 10 ?_
    refine WL.nil (WQ.then (hK12 _ _ _ ?_))
    refine WC.sub (l' := [(0, .agg #[vI s, vI y, vI l, vI m]), (1, .slice p n cap), (2, .func (.func 59) #[] #[]), (3, .func (.func 63) #[] #[]), (4, vP b4 0), (6, vP b6 0), (8, .slice none 0 0), (9, vI 0), (10, vP b23 0), (18, .bool false)]) ⟨rfl, rfl, rfl, rfl, rfl, rfl, rfl, rfl, rfl, rfl, trivial⟩ ?_
    refine WC.seq fun K15 hK15 => WC.region ?_
    refine WL.z (v := vP b23 0) 25 ?_
    refine WL.call (f := 90) (args := #[vP b23 0, .slice none 0 0]) 26 rfl (Nat.le_of_ble_eq_true rfl) rfl rfl (by kernel_rfl) ?_
    refine (solve0_any s y l m b23 p n cap b6 b4 c A B hg0 hc0 R hIs0 (hbr0 b23 p cap b6 b4) _ (HP.ownB (A := [Go.Proofs.Ytmjnakhpekbenaa.Fw.Ent.cel b4 #[vI s, vI y, vI l, vI m] 23, Go.Proofs.Ytmjnakhpekbenaa.Fw.Ent.cel b6 #[.func (.func 59) #[] #[]] 81]) hH14) (hIn.below (HP.below hH14)) (HP.range hH14 0 rfl rfl) (HP.cell hH14 1 rfl rfl) (ne_of hH14 1 2 (by decide) rfl rfl rfl rfl)).mono ?_
    rintro e w9 ⟨ga, T9, r9, rfl, hb9, hT9, hX9⟩
    refine ⟨_, rfl, ?_⟩
    have hsT : tabs T9 = (Fl.sol (ops0 s y l) (cdOf c n) R [] (fun _ => [])).2 := congrArg Prod.snd hX9
    have hH16 : HP Tr w _ [.cel b4 #[vI s, vI y, vI l, vI m] 23, .cel b6 #[.func (.func 59) #[] #[]] 81, .cel b23 #[.slice p n cap, .func (.func 87) #[] #[vP b6 0, vP b4 0], .func (.func 63) #[] #[], .func (.func 88) #[] #[], .func (.func 89) #[] #[], vS ga n n] 112, .cel ga (aR n T9) 88] := HP.exch (A := [Go.Proofs.Ytmjnakhpekbenaa.Fw.Ent.cel b4 #[vI s, vI y, vI l, vI m] 23, Go.Proofs.Ytmjnakhpekbenaa.Fw.Ent.cel b6 #[.func (.func 59) #[] #[]] 81]) hH14 hb9
    refine WL.z (v := .tuple #[vS ga n n, .slice r9.q r9.t.length r9.c]) 24 ?_
    refine WL.z (v := vS ga n n) 27 ?_
    refine WL.z (v := .slice r9.q r9.t.length r9.c) 28 ?_
    refine WL.z (v := vS ga n n) 11 ?_
    refine WL.z (v := .slice r9.q r9.t.length r9.c) 12 ?_
    refine WL.nil (WQ.then (hK15 _ _ _ ?_))
    refine WC.sub (l' := [(0, .agg #[vI s, vI y, vI l, vI m]), (1, .slice p n cap), (2, .func (.func 59) #[] #[]), (3, .func (.func 63) #[] #[]), (4, vP b4 0), (6, vP b6 0), (8, .slice none 0 0), (9, vI 0), (10, vP b23 0), (11, vS ga n n), (18, .bool false)]) ⟨rfl, rfl, rfl, rfl, rfl, rfl, rfl, rfl, rfl, rfl, rfl, trivial⟩ ?_
    refine WC.seq fun K17 hK17 => ?_
    have hInvS := hH16
    refine WC.region ?_
    refine WL.z (v := .slice p n cap) 29 ?_
    refine WL.z (v := vI (n : Int)) 30 ?_
    have hT8 := hT9
    refine WL.alloc (c := brow n (fun _ => false)) (T := 4) (HP.refl (S := Tr) w9) 31 rfl (by decide) rfl rfl (fun go => vS go n n) (x_makeR rfl rfl rfl (makeB n (by omega) _)) (fun go w10 hw9 => ?_)
    have hH18 : HP Tr w9 w10 [.cel go (brow n (fun _ => false)) 4] := hw9.2
    refine WL.z (v := vS go n n) 13 ?_
    refine WL.nil (WQ.then (hK17 _ _ _ (WC.seq fun K19 hK19 => WC.seq fun K20 hK20 => ?_)))
    have hal9 := HP.below hH18
    have hH21 : HP Tr w _ [.cel b4 #[vI s, vI y, vI l, vI m] 23, .cel b6 #[.func (.func 59) #[] #[]] 81, .cel b23 #[.slice p n cap, .func (.func 87) #[] #[vP b6 0, vP b4 0], .func (.func 63) #[] #[], .func (.func 88) #[] #[], .func (.func 89) #[] #[], vS ga n n] 112, .cel ga (aR n T9) 88, .cel go (brow n (fun _ => false)) 4] := HP.trans hInvS hH18
    refine WC.region ?_
    refine WL.z (v := .slice p n cap) 32 ?_
    refine WL.z (v := vI (n : Int)) 33 ?_
    refine WL.z (v := vI 0) 34 ?_
    refine WL.nil (WQ.then (hK20 _ _ _ (WC.block ?_)))
    refine WC.loop (fun kk0 ll0 ww0 => ∃ (i : Nat), ll0 = [(4, vP b4 0), (11, vS ga n n), (13, vS go n n), (33, vI (n : Int)), (34, vI (i : Int))] ∧ kk0 = n - i ∧ (i ≤ n) ∧ (∀ i9, TbOk s y l m ww0 (T9 i9)) ∧ HP Tr w ww0 [.cel b4 #[vI s, vI y, vI l, vI m] 23, .cel b6 #[.func (.func 59) #[] #[]] 81, .cel b23 #[.slice p n cap, .func (.func 87) #[] #[vP b6 0, vP b4 0], .func (.func 63) #[] #[], .func (.func 88) #[] #[], .func (.func 89) #[] #[], vS ga n n] 112, .cel ga (aR n T9) 88, .cel go (brow n (mkF (tabs T9) l i)) 4]) (n) [(4, vP b4 0), (11, vS ga n n), (13, vS go n n), (33, vI (n : Int)), (34, vI 0)] ⟨rfl, rfl, rfl, rfl, rfl, trivial⟩ ⟨0, rfl, rfl, Nat.zero_le _, (fun i9 => (hT8 i9).below hal9), (by rw [show brow n (mkF (tabs T9) l 0) = brow n (fun _ => false) from brow_congr (fun j _ => mkF_0 (tabs T9) l j)]; exact hH21)⟩ ?_
    rintro kk l w23 ⟨i, rfl, hkk, hi, hTn, hH24⟩ K22 hK22
    have hInv := hH24
    have hB9 := HP.ownB (A := [Go.Proofs.Ytmjnakhpekbenaa.Fw.Ent.cel b4 #[vI s, vI y, vI l, vI m] 23, Go.Proofs.Ytmjnakhpekbenaa.Fw.Ent.cel b6 #[.func (.func 59) #[] #[]] 81, Go.Proofs.Ytmjnakhpekbenaa.Fw.Ent.cel b23 #[.slice p n cap, .func (.func 87) #[] #[vP b6 0, vP b4 0], .func (.func 63) #[] #[], .func (.func 88) #[] #[], .func (.func 89) #[] #[], vS ga n n] 112, Go.Proofs.Ytmjnakhpekbenaa.Fw.Ent.cel ga (aR n T9) 88]) hInv
    have hH25 : HP (Out [Go.Proofs.Ytmjnakhpekbenaa.Fw.Ent.cel go (brow n (mkF (tabs T9) l i)) 4]) w23 w23 [.cel go (brow n (mkF (tabs T9) l i)) 4] := HP.startB hB9
    refine WC.seq fun K26 hK26 => WC.region ?_
    by_cases hlt : (i : Int) < (n : Int)
    ·
      refine WL.y (v := .bool true) 35 (x_lss rfl rfl rfl (dT (hlt))) ?_
      refine WL.nil (WQ.then (hK26 _ _ _ (WC.seq fun K27 hK27 => WC.yes rfl (WC.skip (WQ.then (hK27 _ _ _ ?_))))))
      refine WC.seq fun K28 hK28 => WC.block (WC.seq fun K29 hK29 => WC.region ?_)
      refine WL.z (v := vI (i : Int)) 36 ?_
      refine WL.z (v := vI (i : Int)) 14 ?_
      refine WL.nil (WQ.then (hK29 _ _ _ ?_))
      have hx9 := line_of hg.2.2.1 (show i ≤ 999 by omega)
      refine WC.confG (γ := Nat × Unit) [(14, vI (i : Int)), (36, vI (i : Int)), (35, .bool true), (4, vP b4 0), (11, vS ga n n), (13, vS go n n), (33, vI (n : Int)), (34, vI (i : Int))] (fun gy => [vS go n n, vI (i : Int), vS ga n n, vI (i : Int), vP ga i, .slice ((T9 i).q) ((T9 i).t.length) ((T9 i).c), vI (i : Int), vP b4 2, vI l, vI ((i : Int) / l), .tuple #[vI (gy.1 : Int), .bool ((ageT (T9 i).t ((i : Int) / l)).isSome)], .tuple #[vI (gy.1 : Int), .bool ((ageT (T9 i).t ((i : Int) / l)).isSome)], vI (gy.1 : Int), .bool ((ageT (T9 i).t ((i : Int) / l)).isSome), vP go i, undef]) (fun gy D wz => HP (Out [Go.Proofs.Ytmjnakhpekbenaa.Fw.Ent.cel go (brow n (mkF (tabs T9) l i)) 4]) w23 wz [(bif D 15 then Ent.cel go (brow n (upB (mkF (tabs T9) l i) i ((ageT (T9 i).t ((i : Int) / l)).isSome))) 4 else Ent.cel go (brow n (mkF (tabs T9) l i)) 4)]) (0, ()) (by kernel_rfl) ⟨rfl, rfl, rfl, rfl, rfl, rfl, rfl, rfl, trivial⟩ (by kernel_rfl) (by kernel_rfl) (by kernel_rfl) (fun _ => rfl) (by kernel_rfl) (HP.drew hH25) ?_ ?_
      · refine AllOk.cons ?o0 (AllOk.cons ?o1 (AllOk.cons ?o2 (AllOk.cons ?o3 (AllOk.cons ?o4 (AllOk.cons ?o5 (AllOk.cons ?o6 (AllOk.cons ?o7 (AllOk.cons ?o8 (AllOk.cons ?o9 (AllOk.cons ?o10 (AllOk.cons ?o11 (AllOk.cons ?o12 (AllOk.cons ?o13 (AllOk.cons ?o14 (AllOk.cons ?o15 (AllOk.nil _))))))))))))))))
        case o0 =>
          intro gy D wz hDi hdep hclo hW
          exact .inl ⟨rfl, rfl, .inl ⟨gy, wz, fun _ _ => rfl, by kernel_rfl, hW⟩⟩
        case o1 =>
          intro gy D wz hDi hdep hclo hW
          exact .inl ⟨rfl, rfl, .inl ⟨gy, wz, fun _ _ => rfl, by kernel_rfl, hW⟩⟩
        case o2 =>
          intro gy D wz hDi hdep hclo hW
          exact .inl ⟨rfl, rfl, .inl ⟨gy, wz, fun _ _ => rfl, by kernel_rfl, hW⟩⟩
        case o3 =>
          intro gy D wz hDi hdep hclo hW
          exact .inl ⟨rfl, rfl, .inl ⟨gy, wz, fun _ _ => rfl, by kernel_rfl, hW⟩⟩
        case o4 =>
          intro gy D wz hDi hdep hclo hW
          exact .inl ⟨rfl, rfl, .inl ⟨gy, wz, fun _ _ => rfl, x_idx (b := ga) (off := 0) i i rfl rfl rfl Try.underlying110 sz88 (by omega) (by omega) (by omega), hW⟩⟩
        case o5 =>
          intro gy D wz hDi hdep hclo hW
          exact .inl ⟨rfl, rfl, .inl ⟨gy, wz, fun _ _ => rfl, x_load rfl rfl Try.underlying88 rfl (HP.old hW (out1 (ne_of hInv 3 4 (by decide) rfl rfl rfl rfl)) (HP.cell hInv 3 rfl (aR_get (by omega)))), hW⟩⟩
        case o6 =>
          intro gy D wz hDi hdep hclo hW
          exact .inl ⟨rfl, rfl, .inl ⟨gy, wz, fun _ _ => rfl, by kernel_rfl, hW⟩⟩
        case o7 =>
          intro gy D wz hDi hdep hclo hW
          exact .inl ⟨rfl, rfl, .inl ⟨gy, wz, fun _ _ => rfl, by kernel_rfl, hW⟩⟩
        case o8 =>
          intro gy D wz hDi hdep hclo hW
          exact .inl ⟨rfl, rfl, .inl ⟨gy, wz, fun _ _ => rfl, x_load rfl rfl Try.underlying3 rfl (HP.old hW (out1 (ne_of hInv 0 4 (by decide) rfl rfl rfl rfl)) (HP.cell (off := 2) hInv 0 rfl rfl)), hW⟩⟩
        case o9 =>
          intro gy D wz hDi hdep hclo hW
          exact .inl ⟨rfl, rfl, .inl ⟨gy, wz, fun _ _ => rfl, x_quo rfl rfl rfl (by omega) (tdiv_pos (by omega) (by omega)) (by have := hx9; omega) (by have := hx9; omega), hW⟩⟩
        case o10 =>
          intro gy D wz hDi hdep hclo hW
          have d15 : D 15 = false := by
            cases h : D 15 with
            | false => rfl
            | true => exact absurd (hclo 15 _ rfl h ⟨10, .chain⟩ (by simp) rfl) (by rw [hDi]; exact Bool.false_ne_true)
          have d11 : D 11 = false := by
            cases h : D 11 with
            | false => rfl
            | true => exact absurd (hclo 11 _ rfl h ⟨10, .data⟩ (by simp) rfl) (by rw [hDi]; exact Bool.false_ne_true)
          have d12 : D 12 = false := by
            cases h : D 12 with
            | false => rfl
            | true => exact absurd (hclo 12 _ rfl h ⟨11, .data⟩ (by simp) rfl) (by rw [d11]; exact Bool.false_ne_true)
          have hW2 := hW
          try simp only [d15, hDi, cond_true, cond_false, List.append_nil, List.nil_append, List.cons_append] at hW2
          refine .inl ⟨rfl, rfl, .inr (.inr ⟨83, #[.slice ((T9 i).q) ((T9 i).t.length) ((T9 i).c), vI ((i : Int) / l)], by kernel_rfl, (find2_any (T9 i).q (T9 i).t (T9 i).c _ (keepT (hTn i) (fun b o x hc => out_bool hB9 hc) hW2).inn ((i : Int) / l) (by have := (hTn i).ok.len; omega) (hTn i).ok.so).mono ?_⟩)⟩
          rintro e w3 ⟨k9, rfl, hb9⟩
          have hA := HP.call hW2 hb9
          refine ⟨⟨k9, ()⟩, fun j hj => ?_, rfl, ?_⟩
          · match j, hj with
            | 0, hj => rfl
            | 1, hj => rfl
            | 2, hj => rfl
            | 3, hj => rfl
            | 4, hj => rfl
            | 5, hj => rfl
            | 6, hj => rfl
            | 7, hj => rfl
            | 8, hj => rfl
            | 9, hj => rfl
            | 10, hj => rw [hDi] at hj; cases hj
            | 11, hj => exact absurd hj (by rw [d11]; exact Bool.false_ne_true)
            | 12, hj => exact absurd hj (by rw [d12]; exact Bool.false_ne_true)
            | 13, hj => rfl
            | 14, hj => rfl
            | 15, hj => rfl
            | j + 16, _ => rfl
          · show HP (Out [Go.Proofs.Ytmjnakhpekbenaa.Fw.Ent.cel go (brow n (mkF (tabs T9) l i)) 4]) w23 w3 [(bif D 15 then Ent.cel go (brow n (upB (mkF (tabs T9) l i) i ((ageT (T9 i).t ((i : Int) / l)).isSome))) 4 else Ent.cel go (brow n (mkF (tabs T9) l i)) 4)]
            try simp only [d15, cond_true, cond_false, List.append_nil, List.nil_append, List.cons_append]
            exact hA
        case o11 =>
          intro gy D wz hDi hdep hclo hW
          exact .inl ⟨rfl, rfl, .inl ⟨gy, wz, fun _ _ => rfl, by kernel_rfl, hW⟩⟩
        case o12 =>
          intro gy D wz hDi hdep hclo hW
          exact .inl ⟨rfl, rfl, .inl ⟨gy, wz, fun _ _ => rfl, by kernel_rfl, hW⟩⟩
        case o13 =>
          intro gy D wz hDi hdep hclo hW
          exact .inl ⟨rfl, rfl, .inl ⟨gy, wz, fun _ _ => rfl, by kernel_rfl, hW⟩⟩
        case o14 =>
          intro gy D wz hDi hdep hclo hW
          exact .inl ⟨rfl, rfl, .inl ⟨gy, wz, fun _ _ => rfl, x_idx (i) (i) rfl rfl rfl Try.underlying39 sz4 (by omega) (by omega) (by omega), hW⟩⟩
        case o15 =>
          intro gy D wz hDi hdep hclo hW
          have hW9 := hW
          simp only [hDi, cond_false] at hW9
          have h4 := HP.set (off := i) (v := .bool ((ageT (T9 i).t ((i : Int) / l)).isSome)) hW9 0 rfl
          rw [brow_set] at h4
          exact .inl ⟨rfl, rfl, .inr (.inl ⟨_, x_store rfl rfl rfl sz4 rfl (HP.cell hW9 0 rfl (brow_get (by omega) rfl)) (HP.free hW9 0 rfl), rfl, h4⟩)⟩
      rintro ⟨k9, gu⟩ D w30 hall hH31
      simp only [hall 15 (by kernel_rfl), cond_true, List.append_nil, List.nil_append, List.cons_append] at hH31
      clear hall
      refine WQ.sub (l' := [(4, vP b4 0), (11, vS ga n n), (13, vS go n n), (14, vI (i : Int)), (33, vI (n : Int)), (34, vI (i : Int)), (35, .bool true)]) ⟨rfl, rfl, rfl, rfl, rfl, rfl, rfl, trivial⟩ ?_
      refine WQ.inNormal (WQ.then (hK28 _ _ _ (WC.region ?_)))
      refine WL.y (v := vI ((i + 1 : Nat) : Int)) 52 (x_add (Z := ((i + 1 : Nat) : Int)) rfl rfl rfl (by omega) (by omega) (by omega)) ?_
      refine WL.z (v := vI ((i + 1 : Nat) : Int)) 34 ?_
      refine WL.nil ?_
      have hnb : brow n (upB (mkF (tabs T9) l i) i (ageT (T9 i).t ((i : Int) / l)).isSome) = brow n (mkF (tabs T9) l (i + 1)) := brow_congr (fun j hj => mkF_step (tabs T9) l i j)
      have hF9 := hH31
      rw [hnb] at hF9
      refine WQ.sub (l' := [(4, vP b4 0), (11, vS ga n n), (13, vS go n n), (33, vI (n : Int)), (34, vI ((i + 1 : Nat) : Int))]) ⟨rfl, rfl, rfl, rfl, rfl, trivial⟩ ?_
      refine WQ.then (hK22 _ _ _ (by omega) ⟨i + 1, rfl, rfl, by omega, (fun i9 => keepT (hTn i9) (fun b o x hc => out_bool hB9 hc) hF9), (HP.exch (A := [Go.Proofs.Ytmjnakhpekbenaa.Fw.Ent.cel b4 #[vI s, vI y, vI l, vI m] 23, Go.Proofs.Ytmjnakhpekbenaa.Fw.Ent.cel b6 #[.func (.func 59) #[] #[]] 81, Go.Proofs.Ytmjnakhpekbenaa.Fw.Ent.cel b23 #[.slice p n cap, .func (.func 87) #[] #[vP b6 0, vP b4 0], .func (.func 63) #[] #[], .func (.func 88) #[] #[], .func (.func 89) #[] #[], vS ga n n] 112, Go.Proofs.Ytmjnakhpekbenaa.Fw.Ent.cel ga (aR n T9) 88]) hInv hF9)⟩)
    ·
      refine WL.y (v := .bool false) 35 (x_lss rfl rfl rfl (dF (hlt))) ?_
      refine WL.nil (WQ.then (hK26 _ _ _ (WC.seq fun K32 hK32 => WC.no rfl (WC.exit (WQ.thenExit (WQ.thenExit ?_))))))
      refine WQ.inExit (WQ.then (hK19 _ _ _ (WC.seq fun K33 hK33 => WC.region ?_)))
      refine WL.z (v := vS go n n) 53 ?_
      refine WL.z (v := vS go n n) 8 ?_
      refine WL.z (v := vI 0) 9 ?_
      refine WL.nil (WQ.then (hK33 _ _ _ (WC.ret ?_)))
      refine WQ.ret2 8 9 rfl rfl rfl ?_
      exact .inr ⟨hok, go, rfl, by rw [brow_congr (mkF_end0 hsT (by omega))] at hInv; exact HP.drop (HP.drop (HP.drop (HP.drop hInv 3) 2) 1) 0⟩
  ·
    refine WL.call (f := 86) (args := #[.agg #[vI s, vI y, vI l, vI m], .slice p n cap]) 17 rfl (Nat.le_of_ble_eq_true rfl) rfl rfl (by kernel_rfl) ?_
    refine (checked_at hok p cap _ (hIn.below (HP.below hH6)) hn).mono ?_
    rintro e w34 ⟨rfl, hb35⟩
    refine ⟨_, rfl, ?_⟩
    have hH36 : HP Tr w _ [.cel b4 #[vI s, vI y, vI l, vI m] 23, .cel b6 #[.func (.func 59) #[] #[]] 81] := HP.call hH6 hb35
    refine WL.z (v := .bool true) 18 ?_
    refine WL.nil (WQ.then (hK8 _ _ _ (WC.yes rfl (WC.seq fun K37 hK37 => WC.region ?_))))
    refine WL.z (v := .slice none 0 0) 8 ?_
    refine WL.z (v := vI 1) 9 ?_
    refine WL.nil (WQ.then (hK37 _ _ _ (WC.ret ?_)))
    refine WQ.thenRet ?_
    refine WQ.ret2 8 9 rfl rfl rfl ?_
    exact .inl ⟨hok, rfl, HP.below hH36⟩
end Ca
end Go.Proofs.Ytmjnakhpekbenaa
