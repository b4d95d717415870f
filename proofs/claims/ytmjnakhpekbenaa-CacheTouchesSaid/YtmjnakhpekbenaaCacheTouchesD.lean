/- What the proof of CacheTouches stands on, part 4 of 5. -/
import Derived.BigQuiet
import Derived.BigRegion
import Derived.CallsIn
import Derived.ChangeAlike
import Derived.ChangeArms
import Derived.ChangeKeysEq
import Derived.ChangeSlices
import Derived.Deep.AppendLies
import Derived.Deep.CutRange
import Derived.Deep.DeepCutAuto
import Derived.Deep.Heap
import Derived.Deep.LoopGhost
import Derived.Deep.Matrix
import Derived.Deep.MidRow
import Derived.Deep.QuietTactic
import Derived.Deep.Slices
import Derived.Great.BuildSlice
import Derived.Great.Walk
import Derived.Ground.Names2Prog
import Derived.Ground.SlgnProg
import Derived.Ground.SlsfProg
import Derived.Handy
import Derived.KernelRfl
import Derived.Laws.AppendOwn
import Derived.Laws.AppendOwnNone
import Derived.Laws.CopyRow
import Derived.Laws.MakeOwn
import Derived.Laws.Rows
import Derived.Laws.StructEq
import Derived.Lib.QuietBelow
import Derived.Lib.SliceRun
import Derived.OpenShut
import Derived.Orders
import Derived.OrdersIn
import Derived.RangeFuncFrom
import Derived.RangeFuncLeaves
import Derived.RangeFuncWrites
import Derived.RegionTactic
import Derived.Shelf.SlSortCmp.HeapSortK
import Derived.Shelf.SlSortCmp.InsertionK
import Derived.Shelf.SlSortCmp.MedianK
import Derived.Shelf.SlSortCmp.NoneTotal
import Derived.Shelf.SlSortCmp.PartialInsertionK
import Derived.Shelf.SlSortCmp.PartitionEqualK
import Derived.Shelf.SlSortCmp.PartitionK
import Derived.Shelf.SlSortCmp.PdqK
import Derived.Shelf.SlSortCmp.PivotK
import Derived.Shelf.SlSortCmp.ReverseRangeK
import Derived.Shelf.SlSortCmp.SiftDownK
import Derived.Shelf.Slices.Cells
import Derived.Shelf.Slices.Clone
import Derived.Shelf.Slices.Delete
import Derived.Shelf.Slices.Empties
import Derived.Shelf.Slices.SearchI
import Derived.Shelf.Slices.Turned
import Derived.Shelf.SlicesE.Clone
import Derived.Shelf.SlicesE.Delete
import Derived.Shelf.SlicesQ.Reverse
import Derived.Shelf.Small.Bits
import Derived.Shelf.Small.Wraps
import Derived.Shelf.Strconv.Itoa0
import Derived.SizedLaws
import Derived.Sort.AssemblyPlain
import Derived.Still
import Derived.StillTail
import Derived.TacticsIn
import Derived.Test.YtmjnakhpekbenaaProg
import Derived.WalkKit
import Derived.WalkLawsBesides
import Derived.Test.YtmjnakhpekbenaaCacheTouchesC
set_option linter.unusedVariables false
set_option linter.unusedSimpArgs false
namespace Go.Proofs.Ytmjnakhpekbenaa
open Go.RowKit Fw
namespace Ec
/-- a list of instructions in memory -/
def InC (w : World) (p : Option Addr) (n : Nat) (c A B : Nat → Int) : Prop :=
  0 < n → ∃ bb oo, p = some ⟨bb, oo, none⟩ ∧ ∀ i, i < n → w.rangeAt bb (oo + i * 3) [.int .i64 (c i), .int .i64 (A i), .int .i64 (B i)]
theorem IRow.inC {w : World} {p : Option Addr} {n cap : Nat} {f : Nat → In} (h : IRow w p n cap f) : InC w p n (fun i => (f i).op) (fun i => (f i).a) (fun i => (f i).b) := by
  intro h0
  obtain ⟨a, rfl⟩ := h.som h0
  have hsp : a.spot = none := by
    have hc := h.c0 a 0 rfl h0
    rw [Nat.zero_mul, show a.add 0 = a by unfold Addr.add; simp] at hc
    unfold World.cell? at hc
    cases hsp : a.spot with
    | none => rfl
    | some q => rw [hsp] at hc; simp at hc; split at hc <;> simp at hc
  obtain ⟨bb, oo, sp⟩ := a
  simp only at hsp
  subst hsp
  have hadd : ∀ k, (⟨bb, oo, none⟩ : Addr).add k = ⟨bb, oo + k, none⟩ := fun k => by unfold Addr.add; split <;> simp_all
  refine ⟨bb, oo, rfl, fun i hi j v hv => ?_⟩
  have c0 := h.c0 _ i rfl hi
  have c1 := h.c1 _ i rfl hi
  have c2 := h.c2 _ i rfl hi
  simp only [hadd] at c0 c1 c2
  match j, hv with
  | 0, hv => simp at hv; subst hv; exact c0
  | 1, hv => simp at hv; subst hv; exact c1
  | 2, hv => simp at hv; subst hv; exact c2
  | j + 3, hv => simp at hv
theorem InC.below {w w' : World} {p : Option Addr} {n : Nat} {c A B : Nat → Int} (h : InC w p n c A B) (hb : Below w.heap.size w w') : InC w' p n c A B := fun h0 => by
  obtain ⟨bb, oo, hp, hr⟩ := h h0
  exact ⟨bb, oo, hp, fun i hi j v hv => by rw [hb.cell (World.block_lt_of_cell? w _ (hr i hi j v hv))]; exact hr i hi j v hv⟩
theorem own_form {w : World} {e k : Nat} {v : Value} {xs : List Value} (h : Ent.holds w (.own v k xs e 1)) : ∃ pv cp, v = .slice pv k cp ∧ cp ≤ 9223372036854775807 ∧ k ≤ cp ∧ (0 < k → ∃ g, pv = some ⟨g, 0, none⟩) := by
  have h2 : w.ownsRow 0 e 1 v k xs := h
  obtain ⟨hl, ⟨h0, h1⟩ | ⟨g, cap, cur, hv, hb, hg, hc, hm, hs, hx⟩⟩ := h2
  · subst h1; exact ⟨none, 0, h0, by omega, by omega, fun q => absurd q (by omega)⟩
  · exact ⟨some ⟨g, 0, none⟩, cap, hv, by unfold maxLen at hm; omega, hc, fun _ => ⟨g, rfl⟩⟩
end Ec
namespace Fw
open Ec
theorem HP.repl {S : Nat → Prop} {w0 w : World} {H : List Ent} (h : HP S w0 w H) (i : Nat) {e e' : Ent} (hi : H[i]? = some e) (hold : e'.holds w) (hb : e'.blk = e.blk) : HP S w0 w (H.set i e') :=
  h.change i hi rfl rfl rfl (Nat.le_refl _) (fun _ _ _ => rfl) hold (fun b q => .inl (by rw [← hb]; exact q))
end Fw
namespace Ec
theorem own_pop {w : World} {g k cap : Nat} {l : List Nat} (h : Ent.holds w (.own (.slice (some ⟨g, 0, none⟩) l.length cap) l.length (lI l) 3 1)) (hk : k = l.dropLast.length) : Ent.holds w (.own (.slice (some ⟨g, 0, none⟩) k cap) k (lI l.dropLast) 3 1) := by
  subst hk
  have h2 : w.ownsRow 0 3 1 (.slice (some ⟨g, 0, none⟩) l.length cap) l.length (lI l) := h
  obtain ⟨hl, ⟨h0, h1⟩ | ⟨g', cap', cur, hv, hb, hg, hc, hm, hs, hx⟩⟩ := h2
  · cases h0
  · cases hv
    refine ⟨by simp [lI], .inr ⟨g, cap, cur, rfl, hb, hg, by simp; omega, hm, hs, ?_⟩⟩
    have : (lI l).take (l.length - 1) = lI l.dropLast := by unfold lI; rw [List.dropLast_eq_take, List.map_take]
    rw [← this, ← hx, List.take_take, List.length_dropLast]
    congr 1; omega
theorem last_cell {l : List Nat} {x : Nat} (h : l.getLast? = some x) : (lI l)[l.length - 1]? = some (.int .i64 (x : Int)) := by
  unfold lI
  rw [List.getElem?_map, ← List.getLast?_eq_getElem?, h]; rfl
end Ec
namespace Fw
open Ec
theorem HP.addOwn {S : Nat → Prop} {w0 w : World} {H : List Ent} (h : HP S w0 w H) {v : Value} {k : Nat} {xs : List Value} {e s : Nat} (hb : v.ownBlock = none) (hown : w.ownsRow 0 e s v k xs) : HP S w0 w (H ++ [.own v k xs e s]) := by
  refine ⟨h.os, h.tape, h.output, h.size, h.keep, ?_, ?_, ?_⟩
  · intro x hx
    rcases List.mem_append.1 hx with hx | hx
    · exact h.hold x hx
    · simp at hx; subst hx; exact hown
  · intro x hx b hb'
    rcases List.mem_append.1 hx with hx | hx
    · exact h.fresh x hx b hb'
    · simp at hx; subst hx; simp only [Ent.blk, hb] at hb'; cases hb'
  · refine List.pairwise_append.2 ⟨h.apart, by simp, fun x hx y hy b hb1 hb2 => ?_⟩
    simp at hy; subst hy; simp only [Ent.blk, hb] at hb2; cases hb2
end Fw
namespace Ec
theorem last_of {l : List Nat} (h : 0 < l.length) : ∃ x, l.getLast? = some x := by
  cases hq : l.getLast? with
  | some x => exact ⟨x, rfl⟩
  | none => rw [List.getLast?_eq_none_iff] at hq; rw [hq] at h; cases h
theorem lay_o_top {k x : Nat} {s : Sh} (h : s.l.getLast? = some x) : (lay k s).o k = (x : Int) := by unfold lay upI top; simp [h]
theorem lay_o_some {k x : Nat} {s : Sh} (h : s.l.getLast? = some x) : upI (upI s.o k (-1)) k (x : Int) = (lay k s).o := by
  funext j; unfold lay upI top; simp only [h]; split <;> rfl
theorem lay_o_none {k : Nat} {s : Sh} (h : s.l.length = 0) : upI s.o k (-1) = (lay k s).o := by
  have : s.l = [] := List.length_eq_zero_iff.1 h
  funext j; unfold lay upI top; rw [this]; rfl
theorem stp_none_nil {c : Nat → Int} {k : Nat} {s : Sh} (hA : opn (c k) = false) (h : c k = 34 ∨ c k = 35) (hl : s.l.length = 0) : stp c k s = none := by
  have h0 : s.l = [] := List.length_eq_zero_iff.1 hl
  unfold stp
  simp only []
  rw [if_neg (by rw [hA]; exact Bool.false_ne_true), if_pos (by rcases h with h | h <;> rw [h] <;> rfl), h0]
  rfl
theorem stp_open {c : Nat → Int} {k : Nat} {s : Sh} (hA : opn (c k) = true) : stp c k s = some { lay k s with l := s.l ++ [k], m := max s.m (s.l.length + 1) } := by
  unfold stp; simp only []; rw [if_pos hA]
theorem stp_other {c : Nat → Int} {k : Nat} {s : Sh} (hA : opn (c k) = false) (h4 : ¬ c k = 34) (h5 : ¬ c k = 35) : stp c k s = some (lay k s) := by
  unfold stp; simp only []; rw [if_neg (by rw [hA]; exact Bool.false_ne_true), show (c k == 34) = false by simpa using h4, show (c k == 35) = false by simpa using h5]; rfl
theorem two_no {c : Nat → Int} {x : Nat} (h1 : ¬ c x = 29) (h2 : ¬ c x = 33) : two c x = false := by simp [two]; omega
theorem two_yes {c : Nat → Int} {x : Nat} (h1 : c x = 29 ∨ c x = 33) : two c x = true := by rcases h1 with h | h <;> simp [two, h]
theorem okS_yes {c : Nat → Int} {n : Nat} {s : Sh} (hs : shp c n = some s) (h1 : s.l.length = 0) (h2 : s.m ≤ 6) : okS c n = true := by
  unfold okS; rw [hs]; show (s.l.isEmpty && decide (s.m ≤ 6)) = true; rw [List.length_eq_zero_iff.1 h1]; simp [h2]
theorem okS_no {c : Nat → Int} {n : Nat} {s : Sh} (hs : shp c n = some s) (h : ¬ (s.l.length = 0 ∧ s.m ≤ 6)) : okS c n = false := by
  unfold okS; rw [hs]
  show (s.l.isEmpty && decide (s.m ≤ 6)) = false
  cases hl : s.l with
  | nil => simp [hl] at h ⊢; omega
  | cons x r => rfl
theorem makeI2 (n : Nat) (hn : n ≤ 400) (W : World) : (Instr.makeSlice 33 (.int .i64 (n : Int)) (.int .i64 (n : Int))).run Try.prog W = .ok (.slice (some ⟨W.heap.size, 0, none⟩) n n) (W.alloc (.cells (irow n (fun _ => 0)) 3)) := by
  have h := makeI n hn W
  unfold rowI at h
  rw [irow_made] at h
  exact h
theorem permIns (A B : List Ent) (e : Ent) : ((A ++ B) ++ [e]).Perm (A ++ ([e] ++ B)) := by
  rw [List.append_assoc]; exact List.Perm.append_left A (List.perm_append_comm)
/-- what shapeOf returns -/
def ResH (w : World) (c : Nat → Int) (n : Nat) (e : Ending) (w' : World) : Prop :=
  ∃ (g0 g1 g2 g3 : Nat) (m : Int) (s : Sh), e = .returned (.agg #[.slice (some ⟨g0, 0, none⟩) n n, .slice (some ⟨g1, 0, none⟩) n n, .slice (some ⟨g2, 0, none⟩) n n, .slice (some ⟨g3, 0, none⟩) n n, .int .i64 m, .bool (okS c n)]) ∧
    HP Tr w w' [.cel g0 (irow n s.o) 3, .cel g1 (irow n s.e) 3, .cel g2 (irow n s.d) 3, .cel g3 (irow n s.t) 3] ∧ (okS c n = true → shp c n = some s ∧ m = (s.m : Int))
theorem sz3 : (Try.prog.info? 3).map (·.size) = some 1 := by kernel_rfl
theorem sz4 : (Try.prog.info? 4).map (·.size) = some 1 := by kernel_rfl
theorem sz75 : (Try.prog.info? 75).map (·.size) = some 3 := by kernel_rfl
theorem sz116 : (Try.prog.info? 116).map (·.size) = some 6 := by kernel_rfl
set_option maxRecDepth 20000 in
set_option maxHeartbeats 4000000 in
theorem shapeH_any (p : Option Addr) (n cap : Nat) (c A B : Nat → Int) (w : World) (hIn : InC w p n c A B) (hn : n ≤ 400) :
    Calls Try.prog 109 #[.slice p n cap] w (ResH w c n) := by
  obtain ⟨i0, hi0, hz0, hz1, hz2⟩ := info_parts infoI
  refine calls_of Try.func109 rfl (m := 170) rfl [(0, .slice p n cap)] (Fr_enter [.slice p n cap] 170 (Nat.le_of_ble_eq_true rfl)) ?_
  have hH1 : HP Tr w w [] := HP.refl w
  refine WC.seq fun K2 hK2 => ?_
  refine WC.region ?_
  refine WL.alloc (c := #[.slice none 0 0, .slice none 0 0, .slice none 0 0, .slice none 0 0, vI 0, .bool false]) (T := 116) hH1 2 rfl (by decide) rfl rfl (fun b1 => vP b1 0) (by kernel_rfl) (fun b1 w4 hw4 => ?_)
  have hH5 : HP Tr w w4 [.cel b1 #[.slice none 0 0, .slice none 0 0, .slice none 0 0, .slice none 0 0, vI 0, .bool false] 116] := hw4.2
  have nb1 := hw4.1
  clear hw4
  refine WL.nil ?_
  refine WQ.then ?_
  refine hK2 _ _ _ ?_
  refine WC.seq fun K6 hK6 => ?_
  refine WC.region ?_
  refine WL.pure (v := .slice p n cap) 10 rfl (Nat.le_of_ble_eq_true rfl) rfl rfl (by kernel_rfl) ?_
  refine WL.pure (v := vI (n : Int)) 11 rfl (Nat.le_of_ble_eq_true rfl) rfl rfl (by kernel_rfl) ?_
  refine WL.pure (v := vI (n : Int)) 3 rfl (Nat.le_of_ble_eq_true rfl) rfl rfl (by kernel_rfl) ?_
  refine WL.nil ?_
  refine WQ.then ?_
  refine hK6 _ _ _ ?_
  refine WC.seq fun K7 hK7 => ?_
  refine WC.confG (γ := Nat → Nat) [(0, .slice p n cap), (2, vP b1 0), (3, vI (n : Int))] (fun g => [.int .i64 (n : Int), .slice (some ⟨g 1, 0, none⟩) n n, .int .i64 (n : Int), .slice (some ⟨g 3, 0, none⟩) n n, .int .i64 (n : Int), .slice (some ⟨g 5, 0, none⟩) n n, .int .i64 (n : Int), .slice (some ⟨g 7, 0, none⟩) n n, .agg #[.slice (some ⟨g 1, 0, none⟩) n n, .slice (some ⟨g 3, 0, none⟩) n n, .slice (some ⟨g 5, 0, none⟩) n n, .slice (some ⟨g 7, 0, none⟩) n n, .int .i64 0, .bool true], .pointer (some ⟨g 9, 0, none⟩), undef]) (fun g D w2 => HP Tr w w2 ([.cel b1 #[.slice none 0 0, .slice none 0 0, .slice none 0 0, .slice none 0 0, .int .i64 0, .bool false] 116] ++ ((bif D 1 then [Ent.cel (g 1) (irow n (fun _ => 0)) 3] else []) ++ ((bif D 3 then [Ent.cel (g 3) (irow n (fun _ => 0)) 3] else []) ++ ((bif D 5 then [Ent.cel (g 5) (irow n (fun _ => 0)) 3] else []) ++ ((bif D 7 then [Ent.cel (g 7) (irow n (fun _ => 0)) 3] else []) ++ (bif D 9 then [Ent.cel (g 9) (bif D 10 then #[.slice (some ⟨g 1, 0, none⟩) n n, .slice (some ⟨g 3, 0, none⟩) n n, .slice (some ⟨g 5, 0, none⟩) n n, .slice (some ⟨g 7, 0, none⟩) n n, .int .i64 0, .bool true] else #[.slice none 0 0, .slice none 0 0, .slice none 0 0, .slice none 0 0, .int .i64 0, .bool false]) 116] else []))))))) (fun _ => 0) (by kernel_rfl) ⟨rfl, rfl, rfl, trivial⟩ (by kernel_rfl) (by kernel_rfl) (by kernel_rfl) (fun _ => rfl) (by kernel_rfl) (HP.drew hH5) ?_ ?_
  · refine AllOk.cons ?o0 (AllOk.cons ?o1 (AllOk.cons ?o2 (AllOk.cons ?o3 (AllOk.cons ?o4 (AllOk.cons ?o5 (AllOk.cons ?o6 (AllOk.cons ?o7 (AllOk.cons ?o8 (AllOk.cons ?o9 (AllOk.cons ?o10 (AllOk.nil _)))))))))))
    case o0 =>
      intro g D w2 hDi hdep hclo hW
      exact .inl ⟨rfl, rfl, .inl ⟨g, w2, fun _ _ => rfl, by kernel_rfl, hW⟩⟩
    case o1 =>
      intro g D w2 hDi hdep hclo hW
      have h8 : D 8 = false := by
        cases h : D 8 with
        | false => rfl
        | true => exact absurd (hclo 8 _ rfl h ⟨1, .data⟩ (by simp) rfl) (by rw [hDi]; exact Bool.false_ne_true)
      have h10 : D 10 = false := by
        cases h : D 10 with
        | false => rfl
        | true => exact absurd (hclo 10 _ rfl h ⟨1, .phase⟩ (by simp) rfl) (by rw [hDi]; exact Bool.false_ne_true)
      refine .inl ⟨rfl, rfl, .inl ⟨fun j => if j = 1 then w2.heap.size else g j, _, fun j hj => ?_, x_makeR rfl rfl rfl (makeI2 n hn w2), ?_⟩⟩
      · match j, hj with
        | 0, _ => rfl
        | 1, hj => rw [hDi] at hj; cases hj
        | 2, _ => rfl
        | 3, _ => rfl
        | 4, _ => rfl
        | 5, _ => rfl
        | 6, _ => rfl
        | 7, _ => rfl
        | 8, hj => rw [h8] at hj; cases hj
        | 9, _ => rfl
        | 10, hj => rw [h10] at hj; cases hj
        | j + 11, _ => rfl
      · simp only [hDi, h10, cond_false] at hW
        have h4 := HP.alloc hW (irow n (fun _ => 0)) 3
        have h5 : HP Tr w (w2.alloc (.cells (irow n (fun _ => 0)) 3)) ([.cel b1 #[.slice none 0 0, .slice none 0 0, .slice none 0 0, .slice none 0 0, .int .i64 0, .bool false] 116] ++ ([Ent.cel w2.heap.size (irow n (fun _ => 0)) 3] ++ ((bif D 3 then [Ent.cel (g 3) (irow n (fun _ => 0)) 3] else []) ++ ((bif D 5 then [Ent.cel (g 5) (irow n (fun _ => 0)) 3] else []) ++ ((bif D 7 then [Ent.cel (g 7) (irow n (fun _ => 0)) 3] else []) ++ (bif D 9 then [Ent.cel (g 9) #[.slice none 0 0, .slice none 0 0, .slice none 0 0, .slice none 0 0, .int .i64 0, .bool false] 116] else [])))))) := HP.perm h4 (by
          have q := permIns ([.cel b1 #[.slice none 0 0, .slice none 0 0, .slice none 0 0, .slice none 0 0, .int .i64 0, .bool false] 116]) ((bif D 3 then [Ent.cel (g 3) (irow n (fun _ => 0)) 3] else []) ++ (bif D 5 then [Ent.cel (g 5) (irow n (fun _ => 0)) 3] else []) ++ (bif D 7 then [Ent.cel (g 7) (irow n (fun _ => 0)) 3] else []) ++ (bif D 9 then [Ent.cel (g 9) #[.slice none 0 0, .slice none 0 0, .slice none 0 0, .slice none 0 0, .int .i64 0, .bool false] 116] else [])) (Ent.cel w2.heap.size (irow n (fun _ => 0)) 3)
          simpa only [List.append_assoc, List.nil_append, List.append_nil, List.singleton_append, List.cons_append] using q)
        show HP Tr w _ ([.cel b1 #[.slice none 0 0, .slice none 0 0, .slice none 0 0, .slice none 0 0, .int .i64 0, .bool false] 116] ++ ([Ent.cel w2.heap.size (irow n (fun _ => 0)) 3] ++ ((bif D 3 then [Ent.cel (g 3) (irow n (fun _ => 0)) 3] else []) ++ ((bif D 5 then [Ent.cel (g 5) (irow n (fun _ => 0)) 3] else []) ++ ((bif D 7 then [Ent.cel (g 7) (irow n (fun _ => 0)) 3] else []) ++ (bif D 9 then [Ent.cel (g 9) (bif D 10 then #[.slice (some ⟨w2.heap.size, 0, none⟩) n n, .slice (some ⟨g 3, 0, none⟩) n n, .slice (some ⟨g 5, 0, none⟩) n n, .slice (some ⟨g 7, 0, none⟩) n n, .int .i64 0, .bool true] else #[.slice none 0 0, .slice none 0 0, .slice none 0 0, .slice none 0 0, .int .i64 0, .bool false]) 116] else []))))))
        rw [h10]
        exact h5
    case o2 =>
      intro g D w2 hDi hdep hclo hW
      exact .inl ⟨rfl, rfl, .inl ⟨g, w2, fun _ _ => rfl, by kernel_rfl, hW⟩⟩
    case o3 =>
      intro g D w2 hDi hdep hclo hW
      have h8 : D 8 = false := by
        cases h : D 8 with
        | false => rfl
        | true => exact absurd (hclo 8 _ rfl h ⟨3, .data⟩ (by simp) rfl) (by rw [hDi]; exact Bool.false_ne_true)
      have h10 : D 10 = false := by
        cases h : D 10 with
        | false => rfl
        | true => exact absurd (hclo 10 _ rfl h ⟨3, .phase⟩ (by simp) rfl) (by rw [hDi]; exact Bool.false_ne_true)
      refine .inl ⟨rfl, rfl, .inl ⟨fun j => if j = 3 then w2.heap.size else g j, _, fun j hj => ?_, x_makeR rfl rfl rfl (makeI2 n hn w2), ?_⟩⟩
      · match j, hj with
        | 0, _ => rfl
        | 1, _ => rfl
        | 2, _ => rfl
        | 3, hj => rw [hDi] at hj; cases hj
        | 4, _ => rfl
        | 5, _ => rfl
        | 6, _ => rfl
        | 7, _ => rfl
        | 8, hj => rw [h8] at hj; cases hj
        | 9, _ => rfl
        | 10, hj => rw [h10] at hj; cases hj
        | j + 11, _ => rfl
      · simp only [hDi, h10, cond_false] at hW
        have h4 := HP.alloc hW (irow n (fun _ => 0)) 3
        have h5 : HP Tr w (w2.alloc (.cells (irow n (fun _ => 0)) 3)) ([.cel b1 #[.slice none 0 0, .slice none 0 0, .slice none 0 0, .slice none 0 0, .int .i64 0, .bool false] 116] ++ ((bif D 1 then [Ent.cel (g 1) (irow n (fun _ => 0)) 3] else []) ++ ([Ent.cel w2.heap.size (irow n (fun _ => 0)) 3] ++ ((bif D 5 then [Ent.cel (g 5) (irow n (fun _ => 0)) 3] else []) ++ ((bif D 7 then [Ent.cel (g 7) (irow n (fun _ => 0)) 3] else []) ++ (bif D 9 then [Ent.cel (g 9) #[.slice none 0 0, .slice none 0 0, .slice none 0 0, .slice none 0 0, .int .i64 0, .bool false] 116] else [])))))) := HP.perm h4 (by
          have q := permIns ([.cel b1 #[.slice none 0 0, .slice none 0 0, .slice none 0 0, .slice none 0 0, .int .i64 0, .bool false] 116] ++ (bif D 1 then [Ent.cel (g 1) (irow n (fun _ => 0)) 3] else [])) ((bif D 5 then [Ent.cel (g 5) (irow n (fun _ => 0)) 3] else []) ++ (bif D 7 then [Ent.cel (g 7) (irow n (fun _ => 0)) 3] else []) ++ (bif D 9 then [Ent.cel (g 9) #[.slice none 0 0, .slice none 0 0, .slice none 0 0, .slice none 0 0, .int .i64 0, .bool false] 116] else [])) (Ent.cel w2.heap.size (irow n (fun _ => 0)) 3)
          simpa only [List.append_assoc, List.nil_append, List.append_nil, List.singleton_append, List.cons_append] using q)
        show HP Tr w _ ([.cel b1 #[.slice none 0 0, .slice none 0 0, .slice none 0 0, .slice none 0 0, .int .i64 0, .bool false] 116] ++ ((bif D 1 then [Ent.cel (g 1) (irow n (fun _ => 0)) 3] else []) ++ ([Ent.cel w2.heap.size (irow n (fun _ => 0)) 3] ++ ((bif D 5 then [Ent.cel (g 5) (irow n (fun _ => 0)) 3] else []) ++ ((bif D 7 then [Ent.cel (g 7) (irow n (fun _ => 0)) 3] else []) ++ (bif D 9 then [Ent.cel (g 9) (bif D 10 then #[.slice (some ⟨g 1, 0, none⟩) n n, .slice (some ⟨w2.heap.size, 0, none⟩) n n, .slice (some ⟨g 5, 0, none⟩) n n, .slice (some ⟨g 7, 0, none⟩) n n, .int .i64 0, .bool true] else #[.slice none 0 0, .slice none 0 0, .slice none 0 0, .slice none 0 0, .int .i64 0, .bool false]) 116] else []))))))
        rw [h10]
        exact h5
    case o4 =>
      intro g D w2 hDi hdep hclo hW
      exact .inl ⟨rfl, rfl, .inl ⟨g, w2, fun _ _ => rfl, by kernel_rfl, hW⟩⟩
    case o5 =>
      intro g D w2 hDi hdep hclo hW
      have h8 : D 8 = false := by
        cases h : D 8 with
        | false => rfl
        | true => exact absurd (hclo 8 _ rfl h ⟨5, .data⟩ (by simp) rfl) (by rw [hDi]; exact Bool.false_ne_true)
      have h10 : D 10 = false := by
        cases h : D 10 with
        | false => rfl
        | true => exact absurd (hclo 10 _ rfl h ⟨5, .phase⟩ (by simp) rfl) (by rw [hDi]; exact Bool.false_ne_true)
      refine .inl ⟨rfl, rfl, .inl ⟨fun j => if j = 5 then w2.heap.size else g j, _, fun j hj => ?_, x_makeR rfl rfl rfl (makeI2 n hn w2), ?_⟩⟩
      · match j, hj with
        | 0, _ => rfl
        | 1, _ => rfl
        | 2, _ => rfl
        | 3, _ => rfl
        | 4, _ => rfl
        | 5, hj => rw [hDi] at hj; cases hj
        | 6, _ => rfl
        | 7, _ => rfl
        | 8, hj => rw [h8] at hj; cases hj
        | 9, _ => rfl
        | 10, hj => rw [h10] at hj; cases hj
        | j + 11, _ => rfl
      · simp only [hDi, h10, cond_false] at hW
        have h4 := HP.alloc hW (irow n (fun _ => 0)) 3
        have h5 : HP Tr w (w2.alloc (.cells (irow n (fun _ => 0)) 3)) ([.cel b1 #[.slice none 0 0, .slice none 0 0, .slice none 0 0, .slice none 0 0, .int .i64 0, .bool false] 116] ++ ((bif D 1 then [Ent.cel (g 1) (irow n (fun _ => 0)) 3] else []) ++ ((bif D 3 then [Ent.cel (g 3) (irow n (fun _ => 0)) 3] else []) ++ ([Ent.cel w2.heap.size (irow n (fun _ => 0)) 3] ++ ((bif D 7 then [Ent.cel (g 7) (irow n (fun _ => 0)) 3] else []) ++ (bif D 9 then [Ent.cel (g 9) #[.slice none 0 0, .slice none 0 0, .slice none 0 0, .slice none 0 0, .int .i64 0, .bool false] 116] else [])))))) := HP.perm h4 (by
          have q := permIns ([.cel b1 #[.slice none 0 0, .slice none 0 0, .slice none 0 0, .slice none 0 0, .int .i64 0, .bool false] 116] ++ (bif D 1 then [Ent.cel (g 1) (irow n (fun _ => 0)) 3] else []) ++ (bif D 3 then [Ent.cel (g 3) (irow n (fun _ => 0)) 3] else [])) ((bif D 7 then [Ent.cel (g 7) (irow n (fun _ => 0)) 3] else []) ++ (bif D 9 then [Ent.cel (g 9) #[.slice none 0 0, .slice none 0 0, .slice none 0 0, .slice none 0 0, .int .i64 0, .bool false] 116] else [])) (Ent.cel w2.heap.size (irow n (fun _ => 0)) 3)
          simpa only [List.append_assoc, List.nil_append, List.append_nil, List.singleton_append, List.cons_append] using q)
        show HP Tr w _ ([.cel b1 #[.slice none 0 0, .slice none 0 0, .slice none 0 0, .slice none 0 0, .int .i64 0, .bool false] 116] ++ ((bif D 1 then [Ent.cel (g 1) (irow n (fun _ => 0)) 3] else []) ++ ((bif D 3 then [Ent.cel (g 3) (irow n (fun _ => 0)) 3] else []) ++ ([Ent.cel w2.heap.size (irow n (fun _ => 0)) 3] ++ ((bif D 7 then [Ent.cel (g 7) (irow n (fun _ => 0)) 3] else []) ++ (bif D 9 then [Ent.cel (g 9) (bif D 10 then #[.slice (some ⟨g 1, 0, none⟩) n n, .slice (some ⟨g 3, 0, none⟩) n n, .slice (some ⟨w2.heap.size, 0, none⟩) n n, .slice (some ⟨g 7, 0, none⟩) n n, .int .i64 0, .bool true] else #[.slice none 0 0, .slice none 0 0, .slice none 0 0, .slice none 0 0, .int .i64 0, .bool false]) 116] else []))))))
        rw [h10]
        exact h5
    case o6 =>
      intro g D w2 hDi hdep hclo hW
      exact .inl ⟨rfl, rfl, .inl ⟨g, w2, fun _ _ => rfl, by kernel_rfl, hW⟩⟩
    case o7 =>
      intro g D w2 hDi hdep hclo hW
      have h8 : D 8 = false := by
        cases h : D 8 with
        | false => rfl
        | true => exact absurd (hclo 8 _ rfl h ⟨7, .data⟩ (by simp) rfl) (by rw [hDi]; exact Bool.false_ne_true)
      have h10 : D 10 = false := by
        cases h : D 10 with
        | false => rfl
        | true => exact absurd (hclo 10 _ rfl h ⟨7, .phase⟩ (by simp) rfl) (by rw [hDi]; exact Bool.false_ne_true)
      refine .inl ⟨rfl, rfl, .inl ⟨fun j => if j = 7 then w2.heap.size else g j, _, fun j hj => ?_, x_makeR rfl rfl rfl (makeI2 n hn w2), ?_⟩⟩
      · match j, hj with
        | 0, _ => rfl
        | 1, _ => rfl
        | 2, _ => rfl
        | 3, _ => rfl
        | 4, _ => rfl
        | 5, _ => rfl
        | 6, _ => rfl
        | 7, hj => rw [hDi] at hj; cases hj
        | 8, hj => rw [h8] at hj; cases hj
        | 9, _ => rfl
        | 10, hj => rw [h10] at hj; cases hj
        | j + 11, _ => rfl
      · simp only [hDi, h10, cond_false] at hW
        have h4 := HP.alloc hW (irow n (fun _ => 0)) 3
        have h5 : HP Tr w (w2.alloc (.cells (irow n (fun _ => 0)) 3)) ([.cel b1 #[.slice none 0 0, .slice none 0 0, .slice none 0 0, .slice none 0 0, .int .i64 0, .bool false] 116] ++ ((bif D 1 then [Ent.cel (g 1) (irow n (fun _ => 0)) 3] else []) ++ ((bif D 3 then [Ent.cel (g 3) (irow n (fun _ => 0)) 3] else []) ++ ((bif D 5 then [Ent.cel (g 5) (irow n (fun _ => 0)) 3] else []) ++ ([Ent.cel w2.heap.size (irow n (fun _ => 0)) 3] ++ (bif D 9 then [Ent.cel (g 9) #[.slice none 0 0, .slice none 0 0, .slice none 0 0, .slice none 0 0, .int .i64 0, .bool false] 116] else [])))))) := HP.perm h4 (by
          have q := permIns ([.cel b1 #[.slice none 0 0, .slice none 0 0, .slice none 0 0, .slice none 0 0, .int .i64 0, .bool false] 116] ++ (bif D 1 then [Ent.cel (g 1) (irow n (fun _ => 0)) 3] else []) ++ (bif D 3 then [Ent.cel (g 3) (irow n (fun _ => 0)) 3] else []) ++ (bif D 5 then [Ent.cel (g 5) (irow n (fun _ => 0)) 3] else [])) ((bif D 9 then [Ent.cel (g 9) #[.slice none 0 0, .slice none 0 0, .slice none 0 0, .slice none 0 0, .int .i64 0, .bool false] 116] else [])) (Ent.cel w2.heap.size (irow n (fun _ => 0)) 3)
          simpa only [List.append_assoc, List.nil_append, List.append_nil, List.singleton_append, List.cons_append] using q)
        show HP Tr w _ ([.cel b1 #[.slice none 0 0, .slice none 0 0, .slice none 0 0, .slice none 0 0, .int .i64 0, .bool false] 116] ++ ((bif D 1 then [Ent.cel (g 1) (irow n (fun _ => 0)) 3] else []) ++ ((bif D 3 then [Ent.cel (g 3) (irow n (fun _ => 0)) 3] else []) ++ ((bif D 5 then [Ent.cel (g 5) (irow n (fun _ => 0)) 3] else []) ++ ([Ent.cel w2.heap.size (irow n (fun _ => 0)) 3] ++ (bif D 9 then [Ent.cel (g 9) (bif D 10 then #[.slice (some ⟨g 1, 0, none⟩) n n, .slice (some ⟨g 3, 0, none⟩) n n, .slice (some ⟨g 5, 0, none⟩) n n, .slice (some ⟨w2.heap.size, 0, none⟩) n n, .int .i64 0, .bool true] else #[.slice none 0 0, .slice none 0 0, .slice none 0 0, .slice none 0 0, .int .i64 0, .bool false]) 116] else []))))))
        rw [h10]
        exact h5
    case o8 =>
      intro g D w2 hDi hdep hclo hW
      exact .inl ⟨rfl, rfl, .inl ⟨g, w2, fun _ _ => rfl, by kernel_rfl, hW⟩⟩
    case o9 =>
      intro g D w2 hDi hdep hclo hW
      have h10 : D 10 = false := by
        cases h : D 10 with
        | false => rfl
        | true => exact absurd (hclo 10 _ rfl h ⟨9, .data⟩ (by simp) rfl) (by rw [hDi]; exact Bool.false_ne_true)
      refine .inl ⟨rfl, rfl, .inl ⟨fun j => if j = 9 then w2.heap.size else g j, w2.alloc (.cells #[.slice none 0 0, .slice none 0 0, .slice none 0 0, .slice none 0 0, .int .i64 0, .bool false] 116), fun j hj => ?_, by kernel_rfl, ?_⟩⟩
      · match j, hj with
        | 0, _ => rfl
        | 1, _ => rfl
        | 2, _ => rfl
        | 3, _ => rfl
        | 4, _ => rfl
        | 5, _ => rfl
        | 6, _ => rfl
        | 7, _ => rfl
        | 8, _ => rfl
        | 9, hj => rw [hDi] at hj; cases hj
        | 10, hj => rw [h10] at hj; cases hj
        | j + 11, _ => rfl
      · simp only [hDi, h10, cond_false] at hW
        have h4 := HP.alloc hW #[.slice none 0 0, .slice none 0 0, .slice none 0 0, .slice none 0 0, .int .i64 0, .bool false] 116
        have h5 : HP Tr w (w2.alloc (.cells #[.slice none 0 0, .slice none 0 0, .slice none 0 0, .slice none 0 0, .int .i64 0, .bool false] 116)) ([.cel b1 #[.slice none 0 0, .slice none 0 0, .slice none 0 0, .slice none 0 0, .int .i64 0, .bool false] 116] ++ ((bif D 1 then [Ent.cel (g 1) (irow n (fun _ => 0)) 3] else []) ++ ((bif D 3 then [Ent.cel (g 3) (irow n (fun _ => 0)) 3] else []) ++ ((bif D 5 then [Ent.cel (g 5) (irow n (fun _ => 0)) 3] else []) ++ ((bif D 7 then [Ent.cel (g 7) (irow n (fun _ => 0)) 3] else []) ++ [Ent.cel w2.heap.size #[.slice none 0 0, .slice none 0 0, .slice none 0 0, .slice none 0 0, .int .i64 0, .bool false] 116]))))) := HP.perm h4 (by
          have q := permIns ([.cel b1 #[.slice none 0 0, .slice none 0 0, .slice none 0 0, .slice none 0 0, .int .i64 0, .bool false] 116] ++ (bif D 1 then [Ent.cel (g 1) (irow n (fun _ => 0)) 3] else []) ++ (bif D 3 then [Ent.cel (g 3) (irow n (fun _ => 0)) 3] else []) ++ (bif D 5 then [Ent.cel (g 5) (irow n (fun _ => 0)) 3] else []) ++ (bif D 7 then [Ent.cel (g 7) (irow n (fun _ => 0)) 3] else [])) ([]) (Ent.cel w2.heap.size #[.slice none 0 0, .slice none 0 0, .slice none 0 0, .slice none 0 0, .int .i64 0, .bool false] 116)
          simpa only [List.append_assoc, List.nil_append, List.append_nil, List.singleton_append, List.cons_append] using q)
        have e10 : (bif D 10 then #[.slice (some ⟨g 1, 0, none⟩) n n, .slice (some ⟨g 3, 0, none⟩) n n, .slice (some ⟨g 5, 0, none⟩) n n, .slice (some ⟨g 7, 0, none⟩) n n, .int .i64 0, .bool true] else #[.slice none 0 0, .slice none 0 0, .slice none 0 0, .slice none 0 0, .int .i64 0, .bool false] : Array Value) = #[.slice none 0 0, .slice none 0 0, .slice none 0 0, .slice none 0 0, .int .i64 0, .bool false] := by rw [h10]; rfl
        show HP Tr w _ ([.cel b1 #[.slice none 0 0, .slice none 0 0, .slice none 0 0, .slice none 0 0, .int .i64 0, .bool false] 116] ++ ((bif D 1 then [Ent.cel (g 1) (irow n (fun _ => 0)) 3] else []) ++ ((bif D 3 then [Ent.cel (g 3) (irow n (fun _ => 0)) 3] else []) ++ ((bif D 5 then [Ent.cel (g 5) (irow n (fun _ => 0)) 3] else []) ++ ((bif D 7 then [Ent.cel (g 7) (irow n (fun _ => 0)) 3] else []) ++ [Ent.cel w2.heap.size (bif D 10 then #[.slice (some ⟨g 1, 0, none⟩) n n, .slice (some ⟨g 3, 0, none⟩) n n, .slice (some ⟨g 5, 0, none⟩) n n, .slice (some ⟨g 7, 0, none⟩) n n, .int .i64 0, .bool true] else #[.slice none 0 0, .slice none 0 0, .slice none 0 0, .slice none 0 0, .int .i64 0, .bool false]) 116])))))
        rw [e10]
        exact h5
    case o10 =>
      intro g D w2 hDi hdep hclo hW
      have d1 : D 1 = true := hdep ⟨1, .phase⟩ (by simp) rfl
      have d3 : D 3 = true := hdep ⟨3, .phase⟩ (by simp) rfl
      have d5 : D 5 = true := hdep ⟨5, .phase⟩ (by simp) rfl
      have d7 : D 7 = true := hdep ⟨7, .phase⟩ (by simp) rfl
      have d9 : D 9 = true := hdep ⟨9, .phase⟩ (by simp) rfl
      simp only [hDi, d1, d3, d5, d7, d9, cond_true, cond_false] at hW
      have h4 := HP.setCells (off := 0) 5 [.slice (some ⟨g 1, 0, none⟩) n n, .slice (some ⟨g 3, 0, none⟩) n n, .slice (some ⟨g 5, 0, none⟩) n n, .slice (some ⟨g 7, 0, none⟩) n n, .int .i64 0, .bool true] hW rfl
      refine .inl ⟨rfl, rfl, .inr (.inl ⟨_, x_storeS rfl rfl rfl sz116 rfl (fun j hj => ⟨by rw [HP.cell hW 5 (off := 0 + j) rfl (Array.getElem?_eq_getElem (by simpa using hj))]; rfl, HP.free hW 5 rfl⟩), rfl, ?_⟩)⟩
      show HP Tr w _ ([.cel b1 #[.slice none 0 0, .slice none 0 0, .slice none 0 0, .slice none 0 0, .int .i64 0, .bool false] 116] ++ ((bif D 1 then [Ent.cel (g 1) (irow n (fun _ => 0)) 3] else []) ++ ((bif D 3 then [Ent.cel (g 3) (irow n (fun _ => 0)) 3] else []) ++ ((bif D 5 then [Ent.cel (g 5) (irow n (fun _ => 0)) 3] else []) ++ ((bif D 7 then [Ent.cel (g 7) (irow n (fun _ => 0)) 3] else []) ++ (bif D 9 then [Ent.cel (g 9) #[.slice (some ⟨g 1, 0, none⟩) n n, .slice (some ⟨g 3, 0, none⟩) n n, .slice (some ⟨g 5, 0, none⟩) n n, .slice (some ⟨g 7, 0, none⟩) n n, .int .i64 0, .bool true] 116] else []))))))
      simp only [d1, d3, d5, d7, d9, cond_true]
      exact h4
  intro g D w2 hall hW
  simp only [hall 1 (by kernel_rfl), hall 3 (by kernel_rfl), hall 5 (by kernel_rfl), hall 7 (by kernel_rfl), hall 9 (by kernel_rfl), hall 10 (by kernel_rfl), cond_true] at hW
  clear hall
  obtain ⟨g0, g1, g2, g3, b, e0, e1, e2, e3, e4⟩ : ∃ g0 g1 g2 g3 b, g0 = g 1 ∧ g1 = g 3 ∧ g2 = g 5 ∧ g3 = g 7 ∧ b = g 9 := ⟨_, _, _, _, _, rfl, rfl, rfl, rfl, rfl⟩
  rw [← e0, ← e1, ← e2, ← e3, ← e4] at hW
  refine WQ.sub (l' := [(0, .slice p n cap), (2, vP b1 0), (3, vI (n : Int)), (4, vP b 0)]) ⟨rfl, rfl, rfl, by rw [e4]; rfl, trivial⟩ ?_
  clear e0 e1 e2 e3 e4
  have hH8 : HP Tr w _ [.cel b1 #[.slice none 0 0, .slice none 0 0, .slice none 0 0, .slice none 0 0, .int .i64 0, .bool false] 116, .cel g0 (irow n (fun _ => 0)) 3, .cel g1 (irow n (fun _ => 0)) 3, .cel g2 (irow n (fun _ => 0)) 3, .cel g3 (irow n (fun _ => 0)) 3, .cel b #[.slice (some ⟨g0, 0, none⟩) n n, .slice (some ⟨g1, 0, none⟩) n n, .slice (some ⟨g2, 0, none⟩) n n, .slice (some ⟨g3, 0, none⟩) n n, .int .i64 0, .bool true] 116] := hW
  refine WQ.then ?_
  refine hK7 _ _ _ ?_
  refine WC.seq fun K9 hK9 => ?_
  refine WC.region ?_
  refine WL.pure (v := .slice none 0 0) 5 rfl (Nat.le_of_ble_eq_true rfl) rfl rfl (by kernel_rfl) ?_
  refine WL.nil ?_
  refine WQ.then ?_
  refine hK9 _ _ _ ?_
  refine WC.seq fun K10 hK10 => ?_
  refine WC.seq fun K11 hK11 => ?_
  refine WC.region ?_
  refine WL.pure (v := .slice p n cap) 21 rfl (Nat.le_of_ble_eq_true rfl) rfl rfl (by kernel_rfl) ?_
  refine WL.pure (v := vI (n : Int)) 22 rfl (Nat.le_of_ble_eq_true rfl) rfl rfl (by kernel_rfl) ?_
  refine WL.pure (v := vI 0) 23 rfl (Nat.le_of_ble_eq_true rfl) rfl rfl (by kernel_rfl) ?_
  refine WL.nil ?_
  refine WQ.then ?_
  refine hK11 _ _ _ ?_
  refine WC.block ?_
  have hO := HP.addOwn hH8 (v := .slice none 0 0) (k := 0) (xs := []) (e := 3) (s := 1) rfl (World.ownsRow_nil _ _ _ _)
  refine WC.loop (fun kk0 ll0 ww0 => ∃ (k : Nat) (s : Sh) (v : Value), ll0 = [(0, .slice p n cap), (2, vP b1 0), (3, vI (n : Int)), (4, vP b 0), (5, v), (21, .slice p n cap), (22, vI (n : Int)), (23, vI (k : Int))] ∧ kk0 = n - k ∧ (k ≤ n) ∧ (shp c k = some s) ∧ HP Tr w ww0 [.cel b1 #[.slice none 0 0, .slice none 0 0, .slice none 0 0, .slice none 0 0, .int .i64 0, .bool false] 116, .cel g0 (irow n s.o) 3, .cel g1 (irow n s.e) 3, .cel g2 (irow n s.d) 3, .cel g3 (irow n s.t) 3, .cel b #[.slice (some ⟨g0, 0, none⟩) n n, .slice (some ⟨g1, 0, none⟩) n n, .slice (some ⟨g2, 0, none⟩) n n, .slice (some ⟨g3, 0, none⟩) n n, .int .i64 (s.m : Int), .bool true] 116, .own v s.l.length (Ec.lI s.l) 3 1]) (n) [(0, .slice p n cap), (2, vP b1 0), (3, vI (n : Int)), (4, vP b 0), (5, .slice none 0 0), (21, .slice p n cap), (22, vI (n : Int)), (23, vI 0)] ⟨rfl, rfl, rfl, rfl, rfl, rfl, rfl, rfl, trivial⟩ ⟨0, Ec.s0, .slice none 0 0, rfl, rfl, Nat.zero_le n, rfl, hO⟩ ?_
  rintro kk l w13 ⟨k, s, v, rfl, hkk, hk, hs, hH14⟩ K12 hK12
  obtain ⟨pv, cp, rfl, hcp, hlc, hpv⟩ := own_form (HP.get hH14 6 rfl)
  refine WC.seq fun K15 hK15 => ?_
  refine WC.region ?_
  by_cases hlt : (k : Int) < (n : Int)
  ·
    refine WL.pure (v := .bool true) 24 rfl (Nat.le_of_ble_eq_true rfl) rfl rfl (x_lss rfl rfl rfl (dT (hlt))) ?_
    refine WL.nil ?_
    refine WQ.then ?_
    refine hK15 _ _ _ ?_
    refine WC.seq fun K16 hK16 => ?_
    refine WC.yes rfl ?_
    refine WC.skip ?_
    refine WQ.then ?_
    refine hK16 _ _ _ ?_
    refine WC.seq fun K17 hK17 => ?_
    refine WC.block ?_
    refine WC.seq fun K18 hK18 => ?_
    obtain ⟨bb, oo, rfl, hrow⟩ := hIn (by omega)
    refine WC.region ?_
    refine WL.pure (v := vI (k : Int)) 25 rfl (Nat.le_of_ble_eq_true rfl) rfl rfl (by kernel_rfl) ?_
    refine WL.pure (v := vP bb (oo + k * 3)) 26 rfl (Nat.le_of_ble_eq_true rfl) rfl rfl (x_idx (k) (oo + k * 3) rfl rfl rfl Try.underlying42 sz75 (by omega) (by omega) (by omega)) ?_
    refine WL.pure (v := .agg #[vI (c k), vI (A k), vI (B k)]) 27 rfl (Nat.le_of_ble_eq_true rfl) rfl rfl (x_loadS (cs := [.int .i64 (c k), .int .i64 (A k), .int .i64 (B k)]) rfl rfl Try.underlying75 rfl sz75 (HP.oldRange hH14 trivial (hrow k (by omega)))) ?_
    refine WL.alloc (c := #[vI 0, vI 0, vI 0]) (T := 75) hH14 7 rfl (by decide) rfl rfl (fun b19 => vP b19 0) (by kernel_rfl) (fun b19 w20 hw20 => ?_)
    have hH21 : HP Tr w w20 [.cel b1 #[.slice none 0 0, .slice none 0 0, .slice none 0 0, .slice none 0 0, .int .i64 0, .bool false] 116, .cel g0 (irow n s.o) 3, .cel g1 (irow n s.e) 3, .cel g2 (irow n s.d) 3, .cel g3 (irow n s.t) 3, .cel b #[.slice (some ⟨g0, 0, none⟩) n n, .slice (some ⟨g1, 0, none⟩) n n, .slice (some ⟨g2, 0, none⟩) n n, .slice (some ⟨g3, 0, none⟩) n n, .int .i64 (s.m : Int), .bool true] 116, .own (.slice pv s.l.length cp) s.l.length (Ec.lI s.l) 3 1, .cel b19 #[vI 0, vI 0, vI 0] 75] := hw20.2
    have nb19 := hw20.1
    clear hw20
    refine WL.pure (v := vI (k : Int)) 6 rfl (Nat.le_of_ble_eq_true rfl) rfl rfl (by kernel_rfl) ?_
    refine WL.storeS (H2 := [.cel b1 #[.slice none 0 0, .slice none 0 0, .slice none 0 0, .slice none 0 0, .int .i64 0, .bool false] 116, .cel g0 (irow n s.o) 3, .cel g1 (irow n s.e) 3, .cel g2 (irow n s.d) 3, .cel g3 (irow n s.t) 3, .cel b #[.slice (some ⟨g0, 0, none⟩) n n, .slice (some ⟨g1, 0, none⟩) n n, .slice (some ⟨g2, 0, none⟩) n n, .slice (some ⟨g3, 0, none⟩) n n, .int .i64 (s.m : Int), .bool true] 116, .own (.slice pv s.l.length cp) s.l.length (Ec.lI s.l) 3 1, .cel b19 #[vI (c k), vI (A k), vI (B k)] 75]) 7 hH21 rfl rfl rfl rfl rfl rfl sz75 rfl (Nat.le_of_ble_eq_true rfl) rfl rfl ?_
    intro w22 hH23
    refine WL.nil ?_
    refine WQ.then ?_
    refine hK18 _ _ _ ?_
    refine WC.seq fun K24 hK24 => ?_
    refine WC.confG (γ := Unit) [(6, vI (k : Int)), (7, vP b19 0), (27, .agg #[vI (c k), vI (A k), vI (B k)]), (26, vP bb (oo + k * 3)), (25, vI (k : Int)), (24, .bool true), (0, .slice (some ⟨bb, oo, none⟩) n cap), (2, vP b1 0), (3, vI (n : Int)), (4, vP b 0), (5, .slice pv s.l.length cp), (21, .slice (some ⟨bb, oo, none⟩) n cap), (22, vI (n : Int)), (23, vI (k : Int))] (fun _ => [vP b 0, vS g0 n n, vI (k : Int), vP b 1, vS g1 n n, vI (k : Int), vP b 2, vS g2 n n, vI (k : Int), vP b 3, vS g3 n n, vI (k : Int), .slice pv s.l.length cp, vI (s.l.length : Int), vP g0 k, undef, vP g1 k, undef, vP g2 k, undef, vP g3 k, undef]) (fun _ D wz => HP Tr w wz [.cel b1 #[.slice none 0 0, .slice none 0 0, .slice none 0 0, .slice none 0 0, .int .i64 0, .bool false] 116, (bif D 15 then Ent.cel g0 (irow n (upI s.o k (-1))) 3 else Ent.cel g0 (irow n s.o) 3), (bif D 17 then Ent.cel g1 (irow n (upI s.e k (-1))) 3 else Ent.cel g1 (irow n s.e) 3), (bif D 19 then Ent.cel g2 (irow n (upI s.d k (-1))) 3 else Ent.cel g2 (irow n s.d) 3), (bif D 21 then Ent.cel g3 (irow n (upI s.t k (s.l.length : Int))) 3 else Ent.cel g3 (irow n s.t) 3), .cel b #[.slice (some ⟨g0, 0, none⟩) n n, .slice (some ⟨g1, 0, none⟩) n n, .slice (some ⟨g2, 0, none⟩) n n, .slice (some ⟨g3, 0, none⟩) n n, .int .i64 (s.m : Int), .bool true] 116, .own (.slice pv s.l.length cp) s.l.length (Ec.lI s.l) 3 1, .cel b19 #[vI (c k), vI (A k), vI (B k)] 75]) () (by kernel_rfl) ⟨rfl, rfl, rfl, rfl, rfl, rfl, rfl, rfl, rfl, rfl, rfl, rfl, rfl, rfl, trivial⟩ (by kernel_rfl) (by kernel_rfl) (by kernel_rfl) (fun _ => rfl) (by kernel_rfl) (HP.drew hH23) ?_ ?_
    · refine AllOk.cons ?o0 (AllOk.cons ?o1 (AllOk.cons ?o2 (AllOk.cons ?o3 (AllOk.cons ?o4 (AllOk.cons ?o5 (AllOk.cons ?o6 (AllOk.cons ?o7 (AllOk.cons ?o8 (AllOk.cons ?o9 (AllOk.cons ?o10 (AllOk.cons ?o11 (AllOk.cons ?o12 (AllOk.cons ?o13 (AllOk.cons ?o14 (AllOk.cons ?o15 (AllOk.cons ?o16 (AllOk.cons ?o17 (AllOk.cons ?o18 (AllOk.cons ?o19 (AllOk.cons ?o20 (AllOk.cons ?o21 (AllOk.nil _))))))))))))))))))))))
      case o0 =>
        intro g D wz hDi hdep hclo hW
        exact .inl ⟨rfl, rfl, .inl ⟨g, wz, fun _ _ => rfl, by kernel_rfl, hW⟩⟩
      case o1 =>
        intro g D wz hDi hdep hclo hW
        exact .inl ⟨rfl, rfl, .inl ⟨g, wz, fun _ _ => rfl, x_load rfl rfl Try.underlying33 rfl (HP.cell hW 5 rfl rfl), hW⟩⟩
      case o2 =>
        intro g D wz hDi hdep hclo hW
        exact .inl ⟨rfl, rfl, .inl ⟨g, wz, fun _ _ => rfl, by kernel_rfl, hW⟩⟩
      case o3 =>
        intro g D wz hDi hdep hclo hW
        exact .inl ⟨rfl, rfl, .inl ⟨g, wz, fun _ _ => rfl, by kernel_rfl, hW⟩⟩
      case o4 =>
        intro g D wz hDi hdep hclo hW
        exact .inl ⟨rfl, rfl, .inl ⟨g, wz, fun _ _ => rfl, x_load rfl rfl Try.underlying33 rfl (HP.cell hW 5 rfl rfl), hW⟩⟩
      case o5 =>
        intro g D wz hDi hdep hclo hW
        exact .inl ⟨rfl, rfl, .inl ⟨g, wz, fun _ _ => rfl, by kernel_rfl, hW⟩⟩
      case o6 =>
        intro g D wz hDi hdep hclo hW
        exact .inl ⟨rfl, rfl, .inl ⟨g, wz, fun _ _ => rfl, by kernel_rfl, hW⟩⟩
      case o7 =>
        intro g D wz hDi hdep hclo hW
        exact .inl ⟨rfl, rfl, .inl ⟨g, wz, fun _ _ => rfl, x_load rfl rfl Try.underlying33 rfl (HP.cell hW 5 rfl rfl), hW⟩⟩
      case o8 =>
        intro g D wz hDi hdep hclo hW
        exact .inl ⟨rfl, rfl, .inl ⟨g, wz, fun _ _ => rfl, by kernel_rfl, hW⟩⟩
      case o9 =>
        intro g D wz hDi hdep hclo hW
        exact .inl ⟨rfl, rfl, .inl ⟨g, wz, fun _ _ => rfl, by kernel_rfl, hW⟩⟩
      case o10 =>
        intro g D wz hDi hdep hclo hW
        exact .inl ⟨rfl, rfl, .inl ⟨g, wz, fun _ _ => rfl, x_load rfl rfl Try.underlying33 rfl (HP.cell hW 5 rfl rfl), hW⟩⟩
      case o11 =>
        intro g D wz hDi hdep hclo hW
        exact .inl ⟨rfl, rfl, .inl ⟨g, wz, fun _ _ => rfl, by kernel_rfl, hW⟩⟩
      case o12 =>
        intro g D wz hDi hdep hclo hW
        exact .inl ⟨rfl, rfl, .inl ⟨g, wz, fun _ _ => rfl, by kernel_rfl, hW⟩⟩
      case o13 =>
        intro g D wz hDi hdep hclo hW
        exact .inl ⟨rfl, rfl, .inl ⟨g, wz, fun _ _ => rfl, by kernel_rfl, hW⟩⟩
      case o14 =>
        intro g D wz hDi hdep hclo hW
        exact .inl ⟨rfl, rfl, .inl ⟨g, wz, fun _ _ => rfl, x_idx (k) (k) rfl rfl rfl Try.underlying33 sz3 (by omega) (by omega) (by omega), hW⟩⟩
      case o15 =>
        intro g D wz hDi hdep hclo hW
        simp only [hDi, cond_false] at hW
        have h3 : HP Tr w (wz.setCell ⟨g0, k, none⟩ (vI (-1))) [.cel b1 #[.slice none 0 0, .slice none 0 0, .slice none 0 0, .slice none 0 0, .int .i64 0, .bool false] 116, .cel g0 (irow n (upI s.o k (-1))) 3, (bif D 17 then Ent.cel g1 (irow n (upI s.e k (-1))) 3 else Ent.cel g1 (irow n s.e) 3), (bif D 19 then Ent.cel g2 (irow n (upI s.d k (-1))) 3 else Ent.cel g2 (irow n s.d) 3), (bif D 21 then Ent.cel g3 (irow n (upI s.t k (s.l.length : Int))) 3 else Ent.cel g3 (irow n s.t) 3), .cel b #[.slice (some ⟨g0, 0, none⟩) n n, .slice (some ⟨g1, 0, none⟩) n n, .slice (some ⟨g2, 0, none⟩) n n, .slice (some ⟨g3, 0, none⟩) n n, .int .i64 (s.m : Int), .bool true] 116, .own (.slice pv s.l.length cp) s.l.length (Ec.lI s.l) 3 1, .cel b19 #[vI (c k), vI (A k), vI (B k)] 75] := by have h4 := HP.set (off := k) (v := vI (-1)) hW 1 rfl; rw [irow_set] at h4; exact h4
        exact .inl ⟨rfl, rfl, .inr (.inl ⟨_, x_store rfl rfl rfl sz3 rfl (HP.cell hW 1 rfl (irow_get (by omega) rfl)) (HP.free hW 1 rfl), rfl, h3⟩)⟩
      case o16 =>
        intro g D wz hDi hdep hclo hW
        exact .inl ⟨rfl, rfl, .inl ⟨g, wz, fun _ _ => rfl, x_idx (k) (k) rfl rfl rfl Try.underlying33 sz3 (by omega) (by omega) (by omega), hW⟩⟩
      case o17 =>
        intro g D wz hDi hdep hclo hW
        simp only [hDi, cond_false] at hW
        have h3 : HP Tr w (wz.setCell ⟨g1, k, none⟩ (vI (-1))) [.cel b1 #[.slice none 0 0, .slice none 0 0, .slice none 0 0, .slice none 0 0, .int .i64 0, .bool false] 116, (bif D 15 then Ent.cel g0 (irow n (upI s.o k (-1))) 3 else Ent.cel g0 (irow n s.o) 3), .cel g1 (irow n (upI s.e k (-1))) 3, (bif D 19 then Ent.cel g2 (irow n (upI s.d k (-1))) 3 else Ent.cel g2 (irow n s.d) 3), (bif D 21 then Ent.cel g3 (irow n (upI s.t k (s.l.length : Int))) 3 else Ent.cel g3 (irow n s.t) 3), .cel b #[.slice (some ⟨g0, 0, none⟩) n n, .slice (some ⟨g1, 0, none⟩) n n, .slice (some ⟨g2, 0, none⟩) n n, .slice (some ⟨g3, 0, none⟩) n n, .int .i64 (s.m : Int), .bool true] 116, .own (.slice pv s.l.length cp) s.l.length (Ec.lI s.l) 3 1, .cel b19 #[vI (c k), vI (A k), vI (B k)] 75] := by have h4 := HP.set (off := k) (v := vI (-1)) hW 2 rfl; rw [irow_set] at h4; exact h4
        exact .inl ⟨rfl, rfl, .inr (.inl ⟨_, x_store rfl rfl rfl sz3 rfl (HP.cell hW 2 rfl (irow_get (by omega) rfl)) (HP.free hW 2 rfl), rfl, h3⟩)⟩
      case o18 =>
        intro g D wz hDi hdep hclo hW
        exact .inl ⟨rfl, rfl, .inl ⟨g, wz, fun _ _ => rfl, x_idx (k) (k) rfl rfl rfl Try.underlying33 sz3 (by omega) (by omega) (by omega), hW⟩⟩
      case o19 =>
        intro g D wz hDi hdep hclo hW
        simp only [hDi, cond_false] at hW
        have h3 : HP Tr w (wz.setCell ⟨g2, k, none⟩ (vI (-1))) [.cel b1 #[.slice none 0 0, .slice none 0 0, .slice none 0 0, .slice none 0 0, .int .i64 0, .bool false] 116, (bif D 15 then Ent.cel g0 (irow n (upI s.o k (-1))) 3 else Ent.cel g0 (irow n s.o) 3), (bif D 17 then Ent.cel g1 (irow n (upI s.e k (-1))) 3 else Ent.cel g1 (irow n s.e) 3), .cel g2 (irow n (upI s.d k (-1))) 3, (bif D 21 then Ent.cel g3 (irow n (upI s.t k (s.l.length : Int))) 3 else Ent.cel g3 (irow n s.t) 3), .cel b #[.slice (some ⟨g0, 0, none⟩) n n, .slice (some ⟨g1, 0, none⟩) n n, .slice (some ⟨g2, 0, none⟩) n n, .slice (some ⟨g3, 0, none⟩) n n, .int .i64 (s.m : Int), .bool true] 116, .own (.slice pv s.l.length cp) s.l.length (Ec.lI s.l) 3 1, .cel b19 #[vI (c k), vI (A k), vI (B k)] 75] := by have h4 := HP.set (off := k) (v := vI (-1)) hW 3 rfl; rw [irow_set] at h4; exact h4
        exact .inl ⟨rfl, rfl, .inr (.inl ⟨_, x_store rfl rfl rfl sz3 rfl (HP.cell hW 3 rfl (irow_get (by omega) rfl)) (HP.free hW 3 rfl), rfl, h3⟩)⟩
      case o20 =>
        intro g D wz hDi hdep hclo hW
        exact .inl ⟨rfl, rfl, .inl ⟨g, wz, fun _ _ => rfl, x_idx (k) (k) rfl rfl rfl Try.underlying33 sz3 (by omega) (by omega) (by omega), hW⟩⟩
      case o21 =>
        intro g D wz hDi hdep hclo hW
        simp only [hDi, cond_false] at hW
        have h3 : HP Tr w (wz.setCell ⟨g3, k, none⟩ (vI (s.l.length : Int))) [.cel b1 #[.slice none 0 0, .slice none 0 0, .slice none 0 0, .slice none 0 0, .int .i64 0, .bool false] 116, (bif D 15 then Ent.cel g0 (irow n (upI s.o k (-1))) 3 else Ent.cel g0 (irow n s.o) 3), (bif D 17 then Ent.cel g1 (irow n (upI s.e k (-1))) 3 else Ent.cel g1 (irow n s.e) 3), (bif D 19 then Ent.cel g2 (irow n (upI s.d k (-1))) 3 else Ent.cel g2 (irow n s.d) 3), .cel g3 (irow n (upI s.t k (s.l.length : Int))) 3, .cel b #[.slice (some ⟨g0, 0, none⟩) n n, .slice (some ⟨g1, 0, none⟩) n n, .slice (some ⟨g2, 0, none⟩) n n, .slice (some ⟨g3, 0, none⟩) n n, .int .i64 (s.m : Int), .bool true] 116, .own (.slice pv s.l.length cp) s.l.length (Ec.lI s.l) 3 1, .cel b19 #[vI (c k), vI (A k), vI (B k)] 75] := by have h4 := HP.set (off := k) (v := vI (s.l.length : Int)) hW 4 rfl; rw [irow_set] at h4; exact h4
        exact .inl ⟨rfl, rfl, .inr (.inl ⟨_, x_store rfl rfl rfl sz3 rfl (HP.cell hW 4 rfl (irow_get (by omega) rfl)) (HP.free hW 4 rfl), rfl, h3⟩)⟩
    intro g D w25 hall hH26
    simp only [hall 15 (by kernel_rfl), hall 17 (by kernel_rfl), hall 19 (by kernel_rfl), hall 21 (by kernel_rfl), cond_true] at hH26
    clear hall
    refine WQ.sub (l' := [(0, .slice (some ⟨bb, oo, none⟩) n cap), (2, vP b1 0), (3, vI (n : Int)), (4, vP b 0), (5, .slice pv s.l.length cp), (6, vI (k : Int)), (7, vP b19 0), (21, .slice (some ⟨bb, oo, none⟩) n cap), (22, vI (n : Int)), (23, vI (k : Int)), (24, .bool true)]) ⟨rfl, rfl, rfl, rfl, rfl, rfl, rfl, rfl, rfl, rfl, rfl, trivial⟩ ?_
    refine WQ.then ?_
    refine hK24 _ _ _ ?_
    refine WC.cut (fun l w2 => l = [(0, .slice (some ⟨bb, oo, none⟩) n cap), (2, vP b1 0), (3, vI (n : Int)), (4, vP b 0), (5, .slice pv s.l.length cp), (6, vI (k : Int)), (7, vP b19 0), (21, .slice (some ⟨bb, oo, none⟩) n cap), (22, vI (n : Int)), (23, vI (k : Int)), (24, .bool true)] ∧ HP Tr w w2 [.cel b1 #[.slice none 0 0, .slice none 0 0, .slice none 0 0, .slice none 0 0, .int .i64 0, .bool false] 116, .cel g0 (irow n (Ec.lay k s).o) 3, .cel g1 (irow n (upI s.e k (-1))) 3, .cel g2 (irow n (upI s.d k (-1))) 3, .cel g3 (irow n (upI s.t k (s.l.length : Int))) 3, .cel b #[.slice (some ⟨g0, 0, none⟩) n n, .slice (some ⟨g1, 0, none⟩) n n, .slice (some ⟨g2, 0, none⟩) n n, .slice (some ⟨g3, 0, none⟩) n n, .int .i64 (s.m : Int), .bool true] 116, .own (.slice pv s.l.length cp) s.l.length (Ec.lI s.l) 3 1, .cel b19 #[vI (c k), vI (A k), vI (B k)] 75]) ?_ ?_
    ·
      refine WC.seq fun K27 hK27 => ?_
      refine WC.region ?_
      refine WL.pure (v := .slice pv s.l.length cp) 46 rfl (Nat.le_of_ble_eq_true rfl) rfl rfl (by kernel_rfl) ?_
      refine WL.pure (v := vI (s.l.length : Int)) 47 rfl (Nat.le_of_ble_eq_true rfl) rfl rfl (by kernel_rfl) ?_
      by_cases h0 : (0 : Int) < (s.l.length : Int)
      ·
        refine WL.pure (v := .bool true) 48 rfl (Nat.le_of_ble_eq_true rfl) rfl rfl (x_gtr rfl rfl rfl (dT (h0))) ?_
        refine WL.nil ?_
        refine WQ.then ?_
        refine hK27 _ _ _ ?_
        refine WC.yes rfl ?_
        obtain ⟨g, rfl⟩ := hpv (by omega)
        obtain ⟨x, hx⟩ := last_of (l := s.l) (by omega)
        have hxk := (shp_lt k s hs).1 x (List.mem_of_getLast? hx)
        refine WC.stillTail 10 (by kernel_rfl) (by kernel_rfl) ?_
        have hH28 : HP Tr w _ [.cel b1 #[.slice none 0 0, .slice none 0 0, .slice none 0 0, .slice none 0 0, .int .i64 0, .bool false] 116, .cel g0 (irow n (upI s.o k (-1))) 3, .cel g1 (irow n (upI s.e k (-1))) 3, .cel g2 (irow n (upI s.d k (-1))) 3, .cel g3 (irow n (upI s.t k (s.l.length : Int))) 3, .cel b #[.slice (some ⟨g0, 0, none⟩) n n, .slice (some ⟨g1, 0, none⟩) n n, .slice (some ⟨g2, 0, none⟩) n n, .slice (some ⟨g3, 0, none⟩) n n, .int .i64 (s.m : Int), .bool true] 116, .own (.slice (some ⟨g, 0, none⟩) s.l.length cp) s.l.length (Ec.lI s.l) 3 1, .cel b19 #[vI (c k), vI (A k), vI (B k)] 75] := HP.drew hH26
        refine WS.val (v := vP b 0) 49 rfl (Nat.le_of_ble_eq_true rfl) rfl rfl (by kernel_rfl) ?_
        refine WS.val (v := vS g0 n n) 50 rfl (Nat.le_of_ble_eq_true rfl) rfl rfl (x_load rfl rfl Try.underlying33 rfl (HP.cell hH28 5 rfl rfl)) ?_
        refine WS.val (v := vI (k : Int)) 51 rfl (Nat.le_of_ble_eq_true rfl) rfl rfl (by kernel_rfl) ?_
        refine WS.val (v := vS g s.l.length cp) 52 rfl (Nat.le_of_ble_eq_true rfl) rfl rfl (by kernel_rfl) ?_
        refine WS.val (v := vS g s.l.length cp) 53 rfl (Nat.le_of_ble_eq_true rfl) rfl rfl (by kernel_rfl) ?_
        refine WS.val (v := vI (s.l.length : Int)) 54 rfl (Nat.le_of_ble_eq_true rfl) rfl rfl (by kernel_rfl) ?_
        refine WS.val (v := vI ((s.l.length - 1 : Nat) : Int)) 55 rfl (Nat.le_of_ble_eq_true rfl) rfl rfl (x_sub (Z := ((s.l.length - 1 : Nat) : Int)) rfl rfl rfl (by omega) (by omega) (by omega)) ?_
        refine WS.val (v := vP g (s.l.length - 1)) 56 rfl (Nat.le_of_ble_eq_true rfl) rfl rfl (x_idx (s.l.length - 1) (s.l.length - 1) rfl rfl rfl Try.underlying33 sz3 (by omega) (by omega) (by omega)) ?_
        refine WS.val (v := vI (x : Int)) 57 rfl (Nat.le_of_ble_eq_true rfl) rfl rfl (x_load rfl rfl Try.underlying3 rfl (HP.ownCell hH28 6 rfl (last_cell hx))) ?_
        refine WS.val (v := vP g0 k) 58 rfl (Nat.le_of_ble_eq_true rfl) rfl rfl (x_idx (k) (k) rfl rfl rfl Try.underlying33 sz3 (by omega) (by omega) (by omega)) ?_
        refine WS.nilL ?_
        refine WL.store (H2 := [.cel b1 #[.slice none 0 0, .slice none 0 0, .slice none 0 0, .slice none 0 0, .int .i64 0, .bool false] 116, .cel g0 (irow n (upI (upI s.o k (-1)) k (x : Int))) 3, .cel g1 (irow n (upI s.e k (-1))) 3, .cel g2 (irow n (upI s.d k (-1))) 3, .cel g3 (irow n (upI s.t k (s.l.length : Int))) 3, .cel b #[.slice (some ⟨g0, 0, none⟩) n n, .slice (some ⟨g1, 0, none⟩) n n, .slice (some ⟨g2, 0, none⟩) n n, .slice (some ⟨g3, 0, none⟩) n n, .int .i64 (s.m : Int), .bool true] 116, .own (.slice (some ⟨g, 0, none⟩) s.l.length cp) s.l.length (Ec.lI s.l) 3 1, .cel b19 #[vI (c k), vI (A k), vI (B k)] 75]) 1 hH28 rfl rfl rfl rfl rfl rfl sz3 rfl (by simp [size_irow]; omega) (irow_set _ _ _ _) rfl ?_
        intro w29 hH30
        refine WL.nil ?_
        refine WQ.sub (l' := [(0, .slice (some ⟨bb, oo, none⟩) n cap), (2, vP b1 0), (3, vI (n : Int)), (4, vP b 0), (5, vS g s.l.length cp), (6, vI (k : Int)), (7, vP b19 0), (21, .slice (some ⟨bb, oo, none⟩) n cap), (22, vI (n : Int)), (23, vI (k : Int)), (24, .bool true)]) ⟨rfl, rfl, rfl, rfl, rfl, rfl, rfl, rfl, rfl, rfl, rfl, trivial⟩ ?_
        refine WQ.cut ⟨rfl, ?_⟩
        rw [← lay_o_some hx]
        exact hH30
      ·
        refine WL.pure (v := .bool false) 48 rfl (Nat.le_of_ble_eq_true rfl) rfl rfl (x_gtr rfl rfl rfl (dF (h0))) ?_
        refine WL.nil ?_
        refine WQ.then ?_
        refine hK27 _ _ _ ?_
        refine WC.no rfl ?_
        refine WC.skip ?_
        refine WQ.sub (l' := [(0, .slice (some ⟨bb, oo, none⟩) n cap), (2, vP b1 0), (3, vI (n : Int)), (4, vP b 0), (5, .slice pv s.l.length cp), (6, vI (k : Int)), (7, vP b19 0), (21, .slice (some ⟨bb, oo, none⟩) n cap), (22, vI (n : Int)), (23, vI (k : Int)), (24, .bool true)]) ⟨rfl, rfl, rfl, rfl, rfl, rfl, rfl, rfl, rfl, rfl, rfl, trivial⟩ ?_
        refine WQ.cut ⟨rfl, ?_⟩
        rw [← lay_o_none (k := k) (s := s) (by omega)]
        exact hH26
    ·
      rintro l w31 ⟨rfl, hH32⟩
      refine WC.block ?_
      refine WC.seq fun K33 hK33 => ?_
      refine WC.region ?_
      refine WL.pure (v := vP b19 0) 60 rfl (Nat.le_of_ble_eq_true rfl) rfl rfl (by kernel_rfl) ?_
      refine WL.pure (v := vI (c k)) 61 rfl (Nat.le_of_ble_eq_true rfl) rfl rfl (x_load rfl rfl Try.underlying3 rfl (HP.cell hH32 7 rfl rfl)) ?_
      refine WL.call (f := 74) (args := #[vI (c k)]) 62 rfl (Nat.le_of_ble_eq_true rfl) rfl rfl (by kernel_rfl) ?_
      refine (Opens_any _ _).mono ?_
      rintro e w34 ⟨rfl, rfl⟩
      refine ⟨_, rfl, ?_⟩
      refine WL.pure (v := .bool (opn (c k))) 59 rfl (Nat.le_of_ble_eq_true rfl) rfl rfl (by kernel_rfl) ?_
      refine WL.nil ?_
      refine WQ.then ?_
      refine hK33 _ _ _ ?_
      rcases Bool.eq_false_or_eq_true (opn (c k)) with hA | hA
      ·
        refine WC.yes (congrArg (fun b => some (Value.bool b)) hA) ?_
        refine WC.seq fun K35 hK35 => ?_
        refine WC.region ?_
        refine WL.pure (v := .slice pv s.l.length cp) 63 rfl (Nat.le_of_ble_eq_true rfl) rfl rfl (by kernel_rfl) ?_
        refine WL.pure (v := vI (k : Int)) 64 rfl (Nat.le_of_ble_eq_true rfl) rfl rfl (by kernel_rfl) ?_
        refine WL.alloc (c := #[vI (k : Int)]) (T := 3) hH32 65 rfl (by decide) rfl rfl (fun b36 => vS b36 1 1) (by kernel_rfl) (fun b36 w37 hw37 => ?_)
        have hH38 : HP Tr w w37 [.cel b1 #[.slice none 0 0, .slice none 0 0, .slice none 0 0, .slice none 0 0, .int .i64 0, .bool false] 116, .cel g0 (irow n (Ec.lay k s).o) 3, .cel g1 (irow n (upI s.e k (-1))) 3, .cel g2 (irow n (upI s.d k (-1))) 3, .cel g3 (irow n (upI s.t k (s.l.length : Int))) 3, .cel b #[.slice (some ⟨g0, 0, none⟩) n n, .slice (some ⟨g1, 0, none⟩) n n, .slice (some ⟨g2, 0, none⟩) n n, .slice (some ⟨g3, 0, none⟩) n n, .int .i64 (s.m : Int), .bool true] 116, .own (.slice pv s.l.length cp) s.l.length (Ec.lI s.l) 3 1, .cel b19 #[vI (c k), vI (A k), vI (B k)] 75, .cel b36 #[vI (k : Int)] 3] := hw37.2
        have nb36 := hw37.1
        clear hw37
        refine WL.append (news := [vI (k : Int)]) 6 8 hH38 66 rfl (by decide) rfl rfl rfl rfl Try.underlying33 hi0 hz0 hz1 hz2 rfl (by decide) rfl rfl rfl rfl (by simp [Value.oneCell']) (by have := (shp_lt k s hs).2.1; unfold maxLen; omega) (by have := (shp_lt k s hs).2.1; omega) ?_
        rintro v2 w40 - hH39
        obtain ⟨pv2, cp2, rfl, hcp2, hlc2, hpv2⟩ := own_form (HP.get hH39 6 rfl)
        have hH41 : HP Tr w _ [.cel b1 #[.slice none 0 0, .slice none 0 0, .slice none 0 0, .slice none 0 0, .int .i64 0, .bool false] 116, .cel g0 (irow n (Ec.lay k s).o) 3, .cel g1 (irow n (upI s.e k (-1))) 3, .cel g2 (irow n (upI s.d k (-1))) 3, .cel g3 (irow n (upI s.t k (s.l.length : Int))) 3, .cel b #[.slice (some ⟨g0, 0, none⟩) n n, .slice (some ⟨g1, 0, none⟩) n n, .slice (some ⟨g2, 0, none⟩) n n, .slice (some ⟨g3, 0, none⟩) n n, .int .i64 (s.m : Int), .bool true] 116, .own (.slice pv2 (s.l.length + 1) cp2) (s.l.length + 1) (Ec.lI s.l ++ [.int .i64 (k : Int)]) 3 1, .cel b19 #[vI (c k), vI (A k), vI (B k)] 75, .cel b36 #[vI (k : Int)] 3] := hH39
        refine WL.pure (v := .slice pv2 (s.l.length + 1) cp2) 5 rfl (Nat.le_of_ble_eq_true rfl) rfl rfl (by kernel_rfl) ?_
        refine WL.nil ?_
        refine WQ.then ?_
        refine hK35 _ _ _ ?_
        refine WC.sub (l' := [(0, .slice (some ⟨bb, oo, none⟩) n cap), (2, vP b1 0), (3, vI (n : Int)), (4, vP b 0), (5, .slice pv2 (s.l.length + 1) cp2), (6, vI (k : Int)), (7, vP b19 0), (21, .slice (some ⟨bb, oo, none⟩) n cap), (22, vI (n : Int)), (23, vI (k : Int)), (24, .bool true), (59, .bool (opn (c k)))]) ⟨rfl, rfl, rfl, rfl, rfl, rfl, rfl, rfl, rfl, rfl, rfl, rfl, trivial⟩ ?_
        refine WC.region ?_
        refine WL.pure (v := vP b 4) 67 rfl (Nat.le_of_ble_eq_true rfl) rfl rfl (by kernel_rfl) ?_
        refine WL.pure (v := vI (s.m : Int)) 68 rfl (Nat.le_of_ble_eq_true rfl) rfl rfl (x_load rfl rfl Try.underlying3 rfl (HP.cell hH41 5 rfl rfl)) ?_
        refine WL.pure (v := .slice pv2 (s.l.length + 1) cp2) 69 rfl (Nat.le_of_ble_eq_true rfl) rfl rfl (by kernel_rfl) ?_
        refine WL.pure (v := vI ((s.l.length + 1 : Nat) : Int)) 70 rfl (Nat.le_of_ble_eq_true rfl) rfl rfl (by kernel_rfl) ?_
        refine WL.pure (v := vI ((max s.m (s.l.length + 1) : Nat) : Int)) 71 rfl (Nat.le_of_ble_eq_true rfl) rfl rfl (x_max (Z := ((max s.m (s.l.length + 1) : Nat) : Int)) (t := 0) rfl rfl rfl (by split <;> omega)) ?_
        refine WL.pure (v := vP b 4) 72 rfl (Nat.le_of_ble_eq_true rfl) rfl rfl (by kernel_rfl) ?_
        refine WL.store (H2 := [.cel b1 #[.slice none 0 0, .slice none 0 0, .slice none 0 0, .slice none 0 0, .int .i64 0, .bool false] 116, .cel g0 (irow n (Ec.lay k s).o) 3, .cel g1 (irow n (upI s.e k (-1))) 3, .cel g2 (irow n (upI s.d k (-1))) 3, .cel g3 (irow n (upI s.t k (s.l.length : Int))) 3, .cel b #[.slice (some ⟨g0, 0, none⟩) n n, .slice (some ⟨g1, 0, none⟩) n n, .slice (some ⟨g2, 0, none⟩) n n, .slice (some ⟨g3, 0, none⟩) n n, vI ((max s.m (s.l.length + 1) : Nat) : Int), .bool true] 116, .own (.slice pv2 (s.l.length + 1) cp2) (s.l.length + 1) (Ec.lI s.l ++ [.int .i64 (k : Int)]) 3 1, .cel b19 #[vI (c k), vI (A k), vI (B k)] 75, .cel b36 #[vI (k : Int)] 3]) 5 hH41 rfl rfl rfl rfl rfl rfl sz3 rfl (Nat.le_of_ble_eq_true rfl) rfl rfl ?_
        intro w42 hH43
        refine WL.nil ?_
        refine WQ.inNormal ?_
        refine WQ.inNormal ?_
        refine WQ.then ?_
        refine hK17 _ _ _ ?_
        refine WC.sub (l' := [(0, .slice (some ⟨bb, oo, none⟩) n cap), (2, vP b1 0), (3, vI (n : Int)), (4, vP b 0), (5, .slice pv2 (s.l.length + 1) cp2), (6, vI (k : Int)), (7, vP b19 0), (21, .slice (some ⟨bb, oo, none⟩) n cap), (22, vI (n : Int)), (23, vI (k : Int)), (24, .bool true), (59, .bool (opn (c k)))]) ⟨rfl, rfl, rfl, rfl, rfl, rfl, rfl, rfl, rfl, rfl, rfl, rfl, trivial⟩ ?_
        refine WC.region ?_
        refine WL.pure (v := vI ((k + 1 : Nat) : Int)) 159 rfl (Nat.le_of_ble_eq_true rfl) rfl rfl (x_add (Z := ((k + 1 : Nat) : Int)) rfl rfl rfl (by omega) (by omega) (by omega)) ?_
        refine WL.pure (v := vI ((k + 1 : Nat) : Int)) 23 rfl (Nat.le_of_ble_eq_true rfl) rfl rfl (by kernel_rfl) ?_
        refine WL.nil ?_
        obtain ⟨s1, hs1⟩ : ∃ s1 : Sh, s1 = ⟨s.l ++ [k], (Ec.lay k s).o, (upI s.e k (-1)), (upI s.d k (-1)), (upI s.t k (s.l.length : Int)), max s.m (s.l.length + 1)⟩ := ⟨_, rfl⟩
        have hsN : shp c (k + 1) = some s1 := by
          rw [hs1]
          exact shp_step hs (stp_open hA)
        have el : s1.l.length = s.l.length + 1 := by rw [hs1]; simp
        have eI : Ec.lI s1.l = Ec.lI s.l ++ [.int .i64 (k : Int)] := by rw [hs1]; simp [lI]
        have hN := HP.eq (H' := [.cel b1 #[.slice none 0 0, .slice none 0 0, .slice none 0 0, .slice none 0 0, .int .i64 0, .bool false] 116, .cel g0 (irow n s1.o) 3, .cel g1 (irow n s1.e) 3, .cel g2 (irow n s1.d) 3, .cel g3 (irow n s1.t) 3, .cel b #[.slice (some ⟨g0, 0, none⟩) n n, .slice (some ⟨g1, 0, none⟩) n n, .slice (some ⟨g2, 0, none⟩) n n, .slice (some ⟨g3, 0, none⟩) n n, .int .i64 (s1.m : Int), .bool true] 116, .own (.slice pv2 (s.l.length + 1) cp2) s1.l.length (Ec.lI s1.l) 3 1]) (HP.drop (HP.drop hH43 8) 7) (by rw [el, eI]; subst hs1; rfl)
        refine WQ.sub (l' := [(0, .slice (some ⟨bb, oo, none⟩) n cap), (2, vP b1 0), (3, vI (n : Int)), (4, vP b 0), (5, .slice pv2 (s.l.length + 1) cp2), (21, .slice (some ⟨bb, oo, none⟩) n cap), (22, vI (n : Int)), (23, vI ((k + 1 : Nat) : Int))]) ⟨rfl, rfl, rfl, rfl, rfl, rfl, rfl, rfl, trivial⟩ ?_
        refine WQ.then (hK12 _ _ _ (by omega) ⟨k + 1, s1, .slice pv2 (s.l.length + 1) cp2, rfl, rfl, by omega, hsN, hN⟩)
      ·
        refine WC.no (congrArg (fun b => some (Value.bool b)) hA) ?_
        refine WC.seq fun K44 hK44 => ?_
        refine WC.region ?_
        refine WL.pure (v := vP b19 0) 74 rfl (Nat.le_of_ble_eq_true rfl) rfl rfl (by kernel_rfl) ?_
        refine WL.pure (v := vI (c k)) 75 rfl (Nat.le_of_ble_eq_true rfl) rfl rfl (x_load rfl rfl Try.underlying3 rfl (HP.cell hH32 7 rfl rfl)) ?_
        by_cases h34 : c k = 34
        ·
          refine WL.pure (v := .bool true) 76 rfl (Nat.le_of_ble_eq_true rfl) rfl rfl (x_eql rfl rfl rfl (dT (h34))) ?_
          refine WL.pure (v := .bool true) 77 rfl (Nat.le_of_ble_eq_true rfl) rfl rfl (by kernel_rfl) ?_
          refine WL.pass 78 rfl (by decide) rfl ?_
          refine WL.pass 79 rfl (by decide) rfl ?_
          refine WL.pass 80 rfl (by decide) rfl ?_
          refine WL.pure (v := .bool true) 81 rfl (Nat.le_of_ble_eq_true rfl) rfl rfl (by kernel_rfl) ?_
          refine WL.pure (v := .bool true) 73 rfl (Nat.le_of_ble_eq_true rfl) rfl rfl (by kernel_rfl) ?_
          refine WL.nil ?_
          refine WQ.then ?_
          refine hK44 _ _ _ ?_
          refine WC.sub (l' := [(0, .slice (some ⟨bb, oo, none⟩) n cap), (2, vP b1 0), (3, vI (n : Int)), (4, vP b 0), (5, .slice pv s.l.length cp), (6, vI (k : Int)), (7, vP b19 0), (21, .slice (some ⟨bb, oo, none⟩) n cap), (22, vI (n : Int)), (23, vI (k : Int)), (24, .bool true), (59, .bool (opn (c k))), (73, .bool true)]) ⟨rfl, rfl, rfl, rfl, rfl, rfl, rfl, rfl, rfl, rfl, rfl, rfl, rfl, trivial⟩ ?_
          refine WC.yes rfl ?_
          refine WC.seq fun K45 hK45 => ?_
          refine WC.seq fun K46 hK46 => ?_
          refine WC.region ?_
          refine WL.pure (v := .slice pv s.l.length cp) 82 rfl (Nat.le_of_ble_eq_true rfl) rfl rfl (by kernel_rfl) ?_
          refine WL.pure (v := vI (s.l.length : Int)) 83 rfl (Nat.le_of_ble_eq_true rfl) rfl rfl (by kernel_rfl) ?_
          by_cases h0b : (s.l.length : Int) = 0
          ·
            refine WL.pure (v := .bool true) 84 rfl (Nat.le_of_ble_eq_true rfl) rfl rfl (x_eql rfl rfl rfl (dT (h0b))) ?_
            refine WL.nil ?_
            refine WQ.then ?_
            refine hK46 _ _ _ ?_
            refine WC.yes rfl ?_
            refine WC.seq fun K47 hK47 => ?_
            refine WC.region ?_
            refine WL.pure (v := vP b 5) 85 rfl (Nat.le_of_ble_eq_true rfl) rfl rfl (by kernel_rfl) ?_
            refine WL.store (H2 := [.cel b1 #[.slice none 0 0, .slice none 0 0, .slice none 0 0, .slice none 0 0, .int .i64 0, .bool false] 116, .cel g0 (irow n (Ec.lay k s).o) 3, .cel g1 (irow n (upI s.e k (-1))) 3, .cel g2 (irow n (upI s.d k (-1))) 3, .cel g3 (irow n (upI s.t k (s.l.length : Int))) 3, .cel b #[.slice (some ⟨g0, 0, none⟩) n n, .slice (some ⟨g1, 0, none⟩) n n, .slice (some ⟨g2, 0, none⟩) n n, .slice (some ⟨g3, 0, none⟩) n n, .int .i64 (s.m : Int), .bool false] 116, .own (.slice pv s.l.length cp) s.l.length (Ec.lI s.l) 3 1, .cel b19 #[vI (c k), vI (A k), vI (B k)] 75]) 5 hH32 rfl rfl rfl rfl rfl rfl sz4 rfl (Nat.le_of_ble_eq_true rfl) rfl rfl ?_
            intro w48 hH49
            refine WL.nil ?_
            refine WQ.then ?_
            refine hK47 _ _ _ ?_
            refine WC.seq fun K50 hK50 => ?_
            refine WC.region ?_
            refine WL.pure (v := .agg #[vS g0 n n, vS g1 n n, vS g2 n n, vS g3 n n, vI (s.m : Int), .bool false]) 86 rfl (Nat.le_of_ble_eq_true rfl) rfl rfl (x_loadS (cs := [.slice (some ⟨g0, 0, none⟩) n n, .slice (some ⟨g1, 0, none⟩) n n, .slice (some ⟨g2, 0, none⟩) n n, .slice (some ⟨g3, 0, none⟩) n n, .int .i64 (s.m : Int), .bool false]) rfl rfl Try.underlying116 rfl sz116 (HP.range hH49 5 rfl rfl)) ?_
            refine WL.storeS (H2 := [.cel b1 #[vS g0 n n, vS g1 n n, vS g2 n n, vS g3 n n, vI (s.m : Int), .bool false] 116, .cel g0 (irow n (Ec.lay k s).o) 3, .cel g1 (irow n (upI s.e k (-1))) 3, .cel g2 (irow n (upI s.d k (-1))) 3, .cel g3 (irow n (upI s.t k (s.l.length : Int))) 3, .cel b #[.slice (some ⟨g0, 0, none⟩) n n, .slice (some ⟨g1, 0, none⟩) n n, .slice (some ⟨g2, 0, none⟩) n n, .slice (some ⟨g3, 0, none⟩) n n, .int .i64 (s.m : Int), .bool false] 116, .own (.slice pv s.l.length cp) s.l.length (Ec.lI s.l) 3 1, .cel b19 #[vI (c k), vI (A k), vI (B k)] 75]) 0 hH49 rfl rfl rfl rfl rfl rfl sz116 rfl (Nat.le_of_ble_eq_true rfl) rfl rfl ?_
            intro w51 hH52
            refine WL.nil ?_
            refine WQ.then ?_
            refine hK50 _ _ _ ?_
            refine WC.ret ?_
            refine WQ.thenRet ?_
            refine WQ.inRet ?_
            refine WQ.inRet ?_
            refine WQ.thenRet ?_
            refine WQ.thenRet ?_
            refine WQ.inRet ?_
            refine WQ.thenRet ?_
            refine WQ.retC 2 116 rfl rfl (HP.loadRow hH52 0 rfl Try.underlying116 rfl sz116) ?_
            have hOK : okS c n = false := shp_bad hs (stp_none_nil hA (by omega) (by omega)) (by omega)
            refine ⟨g0, g1, g2, g3, (s.m : Int), ⟨[], (Ec.lay k s).o, (upI s.e k (-1)), (upI s.d k (-1)), (upI s.t k (s.l.length : Int)), 0⟩, by rw [hOK], ?_, ?_⟩
            · exact HP.drop (HP.drop (HP.drop (HP.drop hH52 7) 6) 5) 0
            · intro hq; rw [hOK] at hq; cases hq
          ·
            refine WL.pure (v := .bool false) 84 rfl (Nat.le_of_ble_eq_true rfl) rfl rfl (x_eql rfl rfl rfl (dF (h0b))) ?_
            refine WL.nil ?_
            refine WQ.then ?_
            refine hK46 _ _ _ ?_
            refine WC.no rfl ?_
            refine WC.skip ?_
            refine WQ.then ?_
            refine hK45 _ _ _ ?_
            refine WC.seq fun K53 hK53 => ?_
            obtain ⟨g, rfl⟩ := hpv (by omega)
            obtain ⟨x, hx⟩ := last_of (l := s.l) (by omega)
            have hxk := (shp_lt k s hs).1 x (List.mem_of_getLast? hx)
            refine WC.region ?_
            refine WL.pure (v := vP b 3) 87 rfl (Nat.le_of_ble_eq_true rfl) rfl rfl (by kernel_rfl) ?_
            refine WL.pure (v := vS g3 n n) 88 rfl (Nat.le_of_ble_eq_true rfl) rfl rfl (x_load rfl rfl Try.underlying33 rfl (HP.cell hH32 5 rfl rfl)) ?_
            refine WL.pure (v := vI (k : Int)) 89 rfl (Nat.le_of_ble_eq_true rfl) rfl rfl (by kernel_rfl) ?_
            refine WL.pure (v := vS g s.l.length cp) 90 rfl (Nat.le_of_ble_eq_true rfl) rfl rfl (by kernel_rfl) ?_
            refine WL.pure (v := vI (s.l.length : Int)) 91 rfl (Nat.le_of_ble_eq_true rfl) rfl rfl (by kernel_rfl) ?_
            refine WL.pure (v := vI ((s.l.length : Int) - 1)) 92 rfl (Nat.le_of_ble_eq_true rfl) rfl rfl (x_sub (Z := (s.l.length : Int) - 1) rfl rfl rfl (by omega) (by omega) (by omega)) ?_
            refine WL.pure (v := vP g3 k) 93 rfl (Nat.le_of_ble_eq_true rfl) rfl rfl (x_idx (k) (k) rfl rfl rfl Try.underlying33 sz3 (by omega) (by omega) (by omega)) ?_
            refine WL.store (H2 := [.cel b1 #[.slice none 0 0, .slice none 0 0, .slice none 0 0, .slice none 0 0, .int .i64 0, .bool false] 116, .cel g0 (irow n (Ec.lay k s).o) 3, .cel g1 (irow n (upI s.e k (-1))) 3, .cel g2 (irow n (upI s.d k (-1))) 3, .cel g3 (irow n (upI (upI s.t k (s.l.length : Int)) k ((s.l.length : Int) - 1))) 3, .cel b #[.slice (some ⟨g0, 0, none⟩) n n, .slice (some ⟨g1, 0, none⟩) n n, .slice (some ⟨g2, 0, none⟩) n n, .slice (some ⟨g3, 0, none⟩) n n, .int .i64 (s.m : Int), .bool true] 116, .own (.slice (some ⟨g, 0, none⟩) s.l.length cp) s.l.length (Ec.lI s.l) 3 1, .cel b19 #[vI (c k), vI (A k), vI (B k)] 75]) 4 hH32 rfl rfl rfl rfl rfl rfl sz3 rfl (by simp [size_irow]; omega) (irow_set _ _ _ _) rfl ?_
            intro w54 hH55
            refine WL.nil ?_
            refine WQ.then ?_
            refine hK53 _ _ _ ?_
            refine WC.sub (l' := [(0, .slice (some ⟨bb, oo, none⟩) n cap), (2, vP b1 0), (3, vI (n : Int)), (4, vP b 0), (5, vS g s.l.length cp), (6, vI (k : Int)), (7, vP b19 0), (21, .slice (some ⟨bb, oo, none⟩) n cap), (22, vI (n : Int)), (23, vI (k : Int)), (24, .bool true), (59, .bool (opn (c k))), (73, .bool true), (84, .bool false)]) ⟨rfl, rfl, rfl, rfl, rfl, rfl, rfl, rfl, rfl, rfl, rfl, rfl, rfl, rfl, trivial⟩ ?_
            refine WC.seq fun K56 hK56 => ?_
            refine WC.region ?_
            refine WL.pure (v := vP b 0) 94 rfl (Nat.le_of_ble_eq_true rfl) rfl rfl (by kernel_rfl) ?_
            refine WL.pure (v := vS g0 n n) 95 rfl (Nat.le_of_ble_eq_true rfl) rfl rfl (x_load rfl rfl Try.underlying33 rfl (HP.cell hH55 5 rfl rfl)) ?_
            refine WL.pure (v := vI (k : Int)) 96 rfl (Nat.le_of_ble_eq_true rfl) rfl rfl (by kernel_rfl) ?_
            refine WL.pure (v := vP g0 k) 97 rfl (Nat.le_of_ble_eq_true rfl) rfl rfl (x_idx (k) (k) rfl rfl rfl Try.underlying33 sz3 (by omega) (by omega) (by omega)) ?_
            refine WL.pure (v := vI (x : Int)) 98 rfl (Nat.le_of_ble_eq_true rfl) rfl rfl (x_load rfl rfl Try.underlying3 rfl (HP.cell hH55 1 rfl (irow_get (by omega) (lay_o_top hx)))) ?_
            refine WL.pure (v := vI (x : Int)) 8 rfl (Nat.le_of_ble_eq_true rfl) rfl rfl (by kernel_rfl) ?_
            refine WL.nil ?_
            refine WQ.then ?_
            refine hK56 _ _ _ ?_
            refine WC.seq fun K57 hK57 => ?_
            refine WC.region ?_
            refine WL.pure (v := .slice (some ⟨bb, oo, none⟩) n cap) 99 rfl (Nat.le_of_ble_eq_true rfl) rfl rfl (by kernel_rfl) ?_
            refine WL.pure (v := vI (x : Int)) 100 rfl (Nat.le_of_ble_eq_true rfl) rfl rfl (by kernel_rfl) ?_
            refine WL.pure (v := vP bb (oo + x * 3)) 101 rfl (Nat.le_of_ble_eq_true rfl) rfl rfl (x_idx (x) (oo + x * 3) rfl rfl rfl Try.underlying42 sz75 (by omega) (by omega) (by omega)) ?_
            refine WL.pure (v := vP bb (oo + x * 3)) 102 rfl (Nat.le_of_ble_eq_true rfl) rfl rfl (by kernel_rfl) ?_
            refine WL.pure (v := vI (c x)) 103 rfl (Nat.le_of_ble_eq_true rfl) rfl rfl (x_load rfl rfl Try.underlying3 rfl ((HP.oldRange hH55 trivial (hrow x (by omega))) 0 _ rfl)) ?_
            by_cases h29 : c x = 29
            ·
              refine WL.pure (v := .bool true) 104 rfl (Nat.le_of_ble_eq_true rfl) rfl rfl (x_eql rfl rfl rfl (dT (h29))) ?_
              refine WL.pure (v := .bool true) 105 rfl (Nat.le_of_ble_eq_true rfl) rfl rfl (by kernel_rfl) ?_
              refine WL.pass 106 rfl (by decide) rfl ?_
              refine WL.pass 107 rfl (by decide) rfl ?_
              refine WL.pass 108 rfl (by decide) rfl ?_
              refine WL.pass 109 rfl (by decide) rfl ?_
              refine WL.pass 110 rfl (by decide) rfl ?_
              refine WL.pass 111 rfl (by decide) rfl ?_
              refine WL.pure (v := .bool true) 112 rfl (Nat.le_of_ble_eq_true rfl) rfl rfl (by kernel_rfl) ?_
              refine WL.pure (v := .bool true) 9 rfl (Nat.le_of_ble_eq_true rfl) rfl rfl (by kernel_rfl) ?_
              refine WL.nil ?_
              refine WQ.then ?_
              refine hK57 _ _ _ ?_
              refine WC.sub (l' := [(0, .slice (some ⟨bb, oo, none⟩) n cap), (2, vP b1 0), (3, vI (n : Int)), (4, vP b 0), (5, vS g s.l.length cp), (6, vI (k : Int)), (7, vP b19 0), (8, vI (x : Int)), (9, .bool true), (21, .slice (some ⟨bb, oo, none⟩) n cap), (22, vI (n : Int)), (23, vI (k : Int)), (24, .bool true), (59, .bool (opn (c k))), (73, .bool true), (84, .bool false)]) ⟨rfl, rfl, rfl, rfl, rfl, rfl, rfl, rfl, rfl, rfl, rfl, rfl, rfl, rfl, rfl, rfl, trivial⟩ ?_
              refine WC.seq fun K58 hK58 => ?_
              refine WC.seq fun K59 hK59 => ?_
              refine WC.region ?_
              refine WL.pure (v := vP b19 0) 113 rfl (Nat.le_of_ble_eq_true rfl) rfl rfl (by kernel_rfl) ?_
              refine WL.pure (v := vI (c k)) 114 rfl (Nat.le_of_ble_eq_true rfl) rfl rfl (x_load rfl rfl Try.underlying3 rfl (HP.cell hH55 7 rfl rfl)) ?_
              refine WL.pure (v := .bool true) 115 rfl (Nat.le_of_ble_eq_true rfl) rfl rfl (x_eql rfl rfl rfl (dT (by omega))) ?_
              refine WL.nil ?_
              refine WQ.then ?_
              refine hK59 _ _ _ ?_
              refine WC.yes rfl ?_
              refine WC.seq fun K60 hK60 => ?_
              refine WC.seq fun K61 hK61 => ?_
              refine WC.region ?_
              refine WL.pure (v := .bool true) 116 rfl (Nat.le_of_ble_eq_true rfl) rfl rfl (by kernel_rfl) ?_
              refine WL.pure (v := .bool false) 117 rfl (Nat.le_of_ble_eq_true rfl) rfl rfl (by kernel_rfl) ?_
              refine WL.pure (v := .bool false) 118 rfl (Nat.le_of_ble_eq_true rfl) rfl rfl (by kernel_rfl) ?_
              refine WL.pure (v := vP b 1) 119 rfl (Nat.le_of_ble_eq_true rfl) rfl rfl (by kernel_rfl) ?_
              refine WL.pure (v := vS g1 n n) 120 rfl (Nat.le_of_ble_eq_true rfl) rfl rfl (x_load rfl rfl Try.underlying33 rfl (HP.cell hH55 5 rfl rfl)) ?_
              refine WL.pure (v := vI (x : Int)) 121 rfl (Nat.le_of_ble_eq_true rfl) rfl rfl (by kernel_rfl) ?_
              refine WL.pure (v := vP g1 x) 122 rfl (Nat.le_of_ble_eq_true rfl) rfl rfl (x_idx (x) (x) rfl rfl rfl Try.underlying33 sz3 (by omega) (by omega) (by omega)) ?_
              refine WL.pure (v := vI ((upI s.e k (-1)) x)) 123 rfl (Nat.le_of_ble_eq_true rfl) rfl rfl (x_load rfl rfl Try.underlying3 rfl (HP.cell hH55 2 rfl (irow_get (by omega) rfl))) ?_
              by_cases he : (0 : Int) ≤ (upI s.e k (-1)) x
              ·
                refine WL.pure (v := .bool true) 124 rfl (Nat.le_of_ble_eq_true rfl) rfl rfl (x_geq rfl rfl rfl (dT (he))) ?_
                refine WL.pure (v := .bool true) 125 rfl (Nat.le_of_ble_eq_true rfl) rfl rfl (by kernel_rfl) ?_
                refine WL.nil ?_
                refine WQ.then ?_
                refine hK61 _ _ _ ?_
                refine WC.sub (l' := [(0, .slice (some ⟨bb, oo, none⟩) n cap), (2, vP b1 0), (3, vI (n : Int)), (4, vP b 0), (5, vS g s.l.length cp), (6, vI (k : Int)), (7, vP b19 0), (8, vI (x : Int)), (9, .bool true), (21, .slice (some ⟨bb, oo, none⟩) n cap), (22, vI (n : Int)), (23, vI (k : Int)), (24, .bool true), (59, .bool (opn (c k))), (73, .bool true), (84, .bool false), (115, .bool true), (125, .bool true)]) ⟨rfl, rfl, rfl, rfl, rfl, rfl, rfl, rfl, rfl, rfl, rfl, rfl, rfl, rfl, rfl, rfl, rfl, rfl, trivial⟩ ?_
                refine WC.yes rfl ?_
                refine WC.seq fun K62 hK62 => ?_
                refine WC.region ?_
                refine WL.pure (v := vP b 5) 126 rfl (Nat.le_of_ble_eq_true rfl) rfl rfl (by kernel_rfl) ?_
                refine WL.store (H2 := [.cel b1 #[.slice none 0 0, .slice none 0 0, .slice none 0 0, .slice none 0 0, .int .i64 0, .bool false] 116, .cel g0 (irow n (Ec.lay k s).o) 3, .cel g1 (irow n (upI s.e k (-1))) 3, .cel g2 (irow n (upI s.d k (-1))) 3, .cel g3 (irow n (upI (upI s.t k (s.l.length : Int)) k ((s.l.length : Int) - 1))) 3, .cel b #[.slice (some ⟨g0, 0, none⟩) n n, .slice (some ⟨g1, 0, none⟩) n n, .slice (some ⟨g2, 0, none⟩) n n, .slice (some ⟨g3, 0, none⟩) n n, .int .i64 (s.m : Int), .bool false] 116, .own (.slice (some ⟨g, 0, none⟩) s.l.length cp) s.l.length (Ec.lI s.l) 3 1, .cel b19 #[vI (c k), vI (A k), vI (B k)] 75]) 5 hH55 rfl rfl rfl rfl rfl rfl sz4 rfl (Nat.le_of_ble_eq_true rfl) rfl rfl ?_
                intro w63 hH64
                refine WL.nil ?_
                refine WQ.then ?_
                refine hK62 _ _ _ ?_
                refine WC.seq fun K65 hK65 => ?_
                refine WC.region ?_
                refine WL.pure (v := .agg #[vS g0 n n, vS g1 n n, vS g2 n n, vS g3 n n, vI (s.m : Int), .bool false]) 127 rfl (Nat.le_of_ble_eq_true rfl) rfl rfl (x_loadS (cs := [.slice (some ⟨g0, 0, none⟩) n n, .slice (some ⟨g1, 0, none⟩) n n, .slice (some ⟨g2, 0, none⟩) n n, .slice (some ⟨g3, 0, none⟩) n n, .int .i64 (s.m : Int), .bool false]) rfl rfl Try.underlying116 rfl sz116 (HP.range hH64 5 rfl rfl)) ?_
                refine WL.storeS (H2 := [.cel b1 #[vS g0 n n, vS g1 n n, vS g2 n n, vS g3 n n, vI (s.m : Int), .bool false] 116, .cel g0 (irow n (Ec.lay k s).o) 3, .cel g1 (irow n (upI s.e k (-1))) 3, .cel g2 (irow n (upI s.d k (-1))) 3, .cel g3 (irow n (upI (upI s.t k (s.l.length : Int)) k ((s.l.length : Int) - 1))) 3, .cel b #[.slice (some ⟨g0, 0, none⟩) n n, .slice (some ⟨g1, 0, none⟩) n n, .slice (some ⟨g2, 0, none⟩) n n, .slice (some ⟨g3, 0, none⟩) n n, .int .i64 (s.m : Int), .bool false] 116, .own (.slice (some ⟨g, 0, none⟩) s.l.length cp) s.l.length (Ec.lI s.l) 3 1, .cel b19 #[vI (c k), vI (A k), vI (B k)] 75]) 0 hH64 rfl rfl rfl rfl rfl rfl sz116 rfl (Nat.le_of_ble_eq_true rfl) rfl rfl ?_
                intro w66 hH67
                refine WL.nil ?_
                refine WQ.then ?_
                refine hK65 _ _ _ ?_
                refine WC.ret ?_
                refine WQ.thenRet ?_
                refine WQ.thenRet ?_
                refine WQ.inRet ?_
                refine WQ.inRet ?_
                refine WQ.thenRet ?_
                refine WQ.thenRet ?_
                refine WQ.inRet ?_
                refine WQ.thenRet ?_
                refine WQ.retC 2 116 rfl rfl (HP.loadRow hH67 0 rfl Try.underlying116 rfl sz116) ?_
                have hOK : okS c n = false := shp_bad hs (stp_else_has hA h34 hx (show ¬ upI s.e k (-1) x < 0 by omega)) (by omega)
                refine ⟨g0, g1, g2, g3, (s.m : Int), ⟨[], (Ec.lay k s).o, (upI s.e k (-1)), (upI s.d k (-1)), (upI (upI s.t k (s.l.length : Int)) k ((s.l.length : Int) - 1)), 0⟩, by rw [hOK], ?_, ?_⟩
                · exact HP.drop (HP.drop (HP.drop (HP.drop hH67 7) 6) 5) 0
                · intro hq; rw [hOK] at hq; cases hq
              ·
                refine WL.pure (v := .bool false) 124 rfl (Nat.le_of_ble_eq_true rfl) rfl rfl (x_geq rfl rfl rfl (dF (he))) ?_
                refine WL.pure (v := .bool false) 125 rfl (Nat.le_of_ble_eq_true rfl) rfl rfl (by kernel_rfl) ?_
                refine WL.nil ?_
                refine WQ.then ?_
                refine hK61 _ _ _ ?_
                refine WC.sub (l' := [(0, .slice (some ⟨bb, oo, none⟩) n cap), (2, vP b1 0), (3, vI (n : Int)), (4, vP b 0), (5, vS g s.l.length cp), (6, vI (k : Int)), (7, vP b19 0), (8, vI (x : Int)), (9, .bool true), (21, .slice (some ⟨bb, oo, none⟩) n cap), (22, vI (n : Int)), (23, vI (k : Int)), (24, .bool true), (59, .bool (opn (c k))), (73, .bool true), (84, .bool false), (115, .bool true), (125, .bool false)]) ⟨rfl, rfl, rfl, rfl, rfl, rfl, rfl, rfl, rfl, rfl, rfl, rfl, rfl, rfl, rfl, rfl, rfl, rfl, trivial⟩ ?_
                refine WC.no rfl ?_
                refine WC.skip ?_
                refine WQ.then ?_
                refine hK60 _ _ _ ?_
                refine WC.seq fun K68 hK68 => ?_
                refine WC.region ?_
                refine WL.pure (v := vP b 1) 128 rfl (Nat.le_of_ble_eq_true rfl) rfl rfl (by kernel_rfl) ?_
                refine WL.pure (v := vS g1 n n) 129 rfl (Nat.le_of_ble_eq_true rfl) rfl rfl (x_load rfl rfl Try.underlying33 rfl (HP.cell hH55 5 rfl rfl)) ?_
                refine WL.pure (v := vI (x : Int)) 130 rfl (Nat.le_of_ble_eq_true rfl) rfl rfl (by kernel_rfl) ?_
                refine WL.pure (v := vI (k : Int)) 131 rfl (Nat.le_of_ble_eq_true rfl) rfl rfl (by kernel_rfl) ?_
                refine WL.pure (v := vP g1 x) 132 rfl (Nat.le_of_ble_eq_true rfl) rfl rfl (x_idx (x) (x) rfl rfl rfl Try.underlying33 sz3 (by omega) (by omega) (by omega)) ?_
                refine WL.store (H2 := [.cel b1 #[.slice none 0 0, .slice none 0 0, .slice none 0 0, .slice none 0 0, .int .i64 0, .bool false] 116, .cel g0 (irow n (Ec.lay k s).o) 3, .cel g1 (irow n (upI (upI s.e k (-1)) x (k : Int))) 3, .cel g2 (irow n (upI s.d k (-1))) 3, .cel g3 (irow n (upI (upI s.t k (s.l.length : Int)) k ((s.l.length : Int) - 1))) 3, .cel b #[.slice (some ⟨g0, 0, none⟩) n n, .slice (some ⟨g1, 0, none⟩) n n, .slice (some ⟨g2, 0, none⟩) n n, .slice (some ⟨g3, 0, none⟩) n n, .int .i64 (s.m : Int), .bool true] 116, .own (.slice (some ⟨g, 0, none⟩) s.l.length cp) s.l.length (Ec.lI s.l) 3 1, .cel b19 #[vI (c k), vI (A k), vI (B k)] 75]) 2 hH55 rfl rfl rfl rfl rfl rfl sz3 rfl (by simp [size_irow]; omega) (irow_set _ _ _ _) rfl ?_
                intro w69 hH70
                refine WL.nil ?_
                refine WQ.then ?_
                refine hK68 _ _ _ ?_
                refine WC.exit ?_
                refine WQ.thenExit ?_
                refine WQ.inOther (by decide) ?_
                refine WQ.inExit ?_
                refine WQ.then ?_
                refine hK17 _ _ _ ?_
                refine WC.region ?_
                refine WL.pure (v := vI ((k + 1 : Nat) : Int)) 159 rfl (Nat.le_of_ble_eq_true rfl) rfl rfl (x_add (Z := ((k + 1 : Nat) : Int)) rfl rfl rfl (by omega) (by omega) (by omega)) ?_
                refine WL.pure (v := vI ((k + 1 : Nat) : Int)) 23 rfl (Nat.le_of_ble_eq_true rfl) rfl rfl (by kernel_rfl) ?_
                refine WL.nil ?_
                obtain ⟨s1, hs1⟩ : ∃ s1 : Sh, s1 = ⟨s.l, (Ec.lay k s).o, (upI (upI s.e k (-1)) x (k : Int)), (upI s.d k (-1)), (upI (upI s.t k (s.l.length : Int)) k ((s.l.length : Int) - 1)), s.m⟩ := ⟨_, rfl⟩
                have hsN : shp c (k + 1) = some s1 := by
                  rw [hs1]
                  exact shp_step hs (stp_else_ok hA h34 hx (two_yes (by omega)) (show upI s.e k (-1) x < 0 by omega))
                have el : s1.l.length = s.l.length := by rw [hs1]
                have eI : Ec.lI s1.l = Ec.lI s.l := by rw [hs1]
                have hN := HP.eq (H' := [.cel b1 #[.slice none 0 0, .slice none 0 0, .slice none 0 0, .slice none 0 0, .int .i64 0, .bool false] 116, .cel g0 (irow n s1.o) 3, .cel g1 (irow n s1.e) 3, .cel g2 (irow n s1.d) 3, .cel g3 (irow n s1.t) 3, .cel b #[.slice (some ⟨g0, 0, none⟩) n n, .slice (some ⟨g1, 0, none⟩) n n, .slice (some ⟨g2, 0, none⟩) n n, .slice (some ⟨g3, 0, none⟩) n n, .int .i64 (s1.m : Int), .bool true] 116, .own (vS g s.l.length cp) s1.l.length (Ec.lI s1.l) 3 1]) (HP.drop hH70 7) (by rw [el, eI]; subst hs1; rfl)
                refine WQ.sub (l' := [(0, .slice (some ⟨bb, oo, none⟩) n cap), (2, vP b1 0), (3, vI (n : Int)), (4, vP b 0), (5, vS g s.l.length cp), (21, .slice (some ⟨bb, oo, none⟩) n cap), (22, vI (n : Int)), (23, vI ((k + 1 : Nat) : Int))]) ⟨rfl, rfl, rfl, rfl, rfl, rfl, rfl, rfl, trivial⟩ ?_
                refine WQ.then (hK12 _ _ _ (by omega) ⟨k + 1, s1, vS g s.l.length cp, rfl, rfl, by omega, hsN, hN⟩)
            ·
              refine WL.pure (v := .bool false) 104 rfl (Nat.le_of_ble_eq_true rfl) rfl rfl (x_eql rfl rfl rfl (dF (h29))) ?_
              refine WL.pure (v := .bool false) 105 rfl (Nat.le_of_ble_eq_true rfl) rfl rfl (by kernel_rfl) ?_
              refine WL.pure (v := .slice (some ⟨bb, oo, none⟩) n cap) 106 rfl (Nat.le_of_ble_eq_true rfl) rfl rfl (by kernel_rfl) ?_
              refine WL.pure (v := vI (x : Int)) 107 rfl (Nat.le_of_ble_eq_true rfl) rfl rfl (by kernel_rfl) ?_
              refine WL.pure (v := vP bb (oo + x * 3)) 108 rfl (Nat.le_of_ble_eq_true rfl) rfl rfl (x_idx (x) (oo + x * 3) rfl rfl rfl Try.underlying42 sz75 (by omega) (by omega) (by omega)) ?_
              refine WL.pure (v := vP bb (oo + x * 3)) 109 rfl (Nat.le_of_ble_eq_true rfl) rfl rfl (by kernel_rfl) ?_
              refine WL.pure (v := vI (c x)) 110 rfl (Nat.le_of_ble_eq_true rfl) rfl rfl (x_load rfl rfl Try.underlying3 rfl ((HP.oldRange hH55 trivial (hrow x (by omega))) 0 _ rfl)) ?_
              by_cases h33 : c x = 33
              ·
                refine WL.pure (v := .bool true) 111 rfl (Nat.le_of_ble_eq_true rfl) rfl rfl (x_eql rfl rfl rfl (dT (h33))) ?_
                refine WL.pure (v := .bool true) 112 rfl (Nat.le_of_ble_eq_true rfl) rfl rfl (by kernel_rfl) ?_
                refine WL.pure (v := .bool true) 9 rfl (Nat.le_of_ble_eq_true rfl) rfl rfl (by kernel_rfl) ?_
                refine WL.nil ?_
                refine WQ.then ?_
                refine hK57 _ _ _ ?_
                refine WC.sub (l' := [(0, .slice (some ⟨bb, oo, none⟩) n cap), (2, vP b1 0), (3, vI (n : Int)), (4, vP b 0), (5, vS g s.l.length cp), (6, vI (k : Int)), (7, vP b19 0), (8, vI (x : Int)), (9, .bool true), (21, .slice (some ⟨bb, oo, none⟩) n cap), (22, vI (n : Int)), (23, vI (k : Int)), (24, .bool true), (59, .bool (opn (c k))), (73, .bool true), (84, .bool false)]) ⟨rfl, rfl, rfl, rfl, rfl, rfl, rfl, rfl, rfl, rfl, rfl, rfl, rfl, rfl, rfl, rfl, trivial⟩ ?_
                refine WC.seq fun K71 hK71 => ?_
                refine WC.seq fun K72 hK72 => ?_
                refine WC.region ?_
                refine WL.pure (v := vP b19 0) 113 rfl (Nat.le_of_ble_eq_true rfl) rfl rfl (by kernel_rfl) ?_
                refine WL.pure (v := vI (c k)) 114 rfl (Nat.le_of_ble_eq_true rfl) rfl rfl (x_load rfl rfl Try.underlying3 rfl (HP.cell hH55 7 rfl rfl)) ?_
                refine WL.pure (v := .bool true) 115 rfl (Nat.le_of_ble_eq_true rfl) rfl rfl (x_eql rfl rfl rfl (dT (by omega))) ?_
                refine WL.nil ?_
                refine WQ.then ?_
                refine hK72 _ _ _ ?_
                refine WC.yes rfl ?_
                refine WC.seq fun K73 hK73 => ?_
                refine WC.seq fun K74 hK74 => ?_
                refine WC.region ?_
                refine WL.pure (v := .bool true) 116 rfl (Nat.le_of_ble_eq_true rfl) rfl rfl (by kernel_rfl) ?_
                refine WL.pure (v := .bool false) 117 rfl (Nat.le_of_ble_eq_true rfl) rfl rfl (by kernel_rfl) ?_
                refine WL.pure (v := .bool false) 118 rfl (Nat.le_of_ble_eq_true rfl) rfl rfl (by kernel_rfl) ?_
                refine WL.pure (v := vP b 1) 119 rfl (Nat.le_of_ble_eq_true rfl) rfl rfl (by kernel_rfl) ?_
                refine WL.pure (v := vS g1 n n) 120 rfl (Nat.le_of_ble_eq_true rfl) rfl rfl (x_load rfl rfl Try.underlying33 rfl (HP.cell hH55 5 rfl rfl)) ?_
                refine WL.pure (v := vI (x : Int)) 121 rfl (Nat.le_of_ble_eq_true rfl) rfl rfl (by kernel_rfl) ?_
                refine WL.pure (v := vP g1 x) 122 rfl (Nat.le_of_ble_eq_true rfl) rfl rfl (x_idx (x) (x) rfl rfl rfl Try.underlying33 sz3 (by omega) (by omega) (by omega)) ?_
                refine WL.pure (v := vI ((upI s.e k (-1)) x)) 123 rfl (Nat.le_of_ble_eq_true rfl) rfl rfl (x_load rfl rfl Try.underlying3 rfl (HP.cell hH55 2 rfl (irow_get (by omega) rfl))) ?_
                by_cases he : (0 : Int) ≤ (upI s.e k (-1)) x
                ·
                  refine WL.pure (v := .bool true) 124 rfl (Nat.le_of_ble_eq_true rfl) rfl rfl (x_geq rfl rfl rfl (dT (he))) ?_
                  refine WL.pure (v := .bool true) 125 rfl (Nat.le_of_ble_eq_true rfl) rfl rfl (by kernel_rfl) ?_
                  refine WL.nil ?_
                  refine WQ.then ?_
                  refine hK74 _ _ _ ?_
                  refine WC.sub (l' := [(0, .slice (some ⟨bb, oo, none⟩) n cap), (2, vP b1 0), (3, vI (n : Int)), (4, vP b 0), (5, vS g s.l.length cp), (6, vI (k : Int)), (7, vP b19 0), (8, vI (x : Int)), (9, .bool true), (21, .slice (some ⟨bb, oo, none⟩) n cap), (22, vI (n : Int)), (23, vI (k : Int)), (24, .bool true), (59, .bool (opn (c k))), (73, .bool true), (84, .bool false), (115, .bool true), (125, .bool true)]) ⟨rfl, rfl, rfl, rfl, rfl, rfl, rfl, rfl, rfl, rfl, rfl, rfl, rfl, rfl, rfl, rfl, rfl, rfl, trivial⟩ ?_
                  refine WC.yes rfl ?_
                  refine WC.seq fun K75 hK75 => ?_
                  refine WC.region ?_
                  refine WL.pure (v := vP b 5) 126 rfl (Nat.le_of_ble_eq_true rfl) rfl rfl (by kernel_rfl) ?_
                  refine WL.store (H2 := [.cel b1 #[.slice none 0 0, .slice none 0 0, .slice none 0 0, .slice none 0 0, .int .i64 0, .bool false] 116, .cel g0 (irow n (Ec.lay k s).o) 3, .cel g1 (irow n (upI s.e k (-1))) 3, .cel g2 (irow n (upI s.d k (-1))) 3, .cel g3 (irow n (upI (upI s.t k (s.l.length : Int)) k ((s.l.length : Int) - 1))) 3, .cel b #[.slice (some ⟨g0, 0, none⟩) n n, .slice (some ⟨g1, 0, none⟩) n n, .slice (some ⟨g2, 0, none⟩) n n, .slice (some ⟨g3, 0, none⟩) n n, .int .i64 (s.m : Int), .bool false] 116, .own (.slice (some ⟨g, 0, none⟩) s.l.length cp) s.l.length (Ec.lI s.l) 3 1, .cel b19 #[vI (c k), vI (A k), vI (B k)] 75]) 5 hH55 rfl rfl rfl rfl rfl rfl sz4 rfl (Nat.le_of_ble_eq_true rfl) rfl rfl ?_
                  intro w76 hH77
                  refine WL.nil ?_
                  refine WQ.then ?_
                  refine hK75 _ _ _ ?_
                  refine WC.seq fun K78 hK78 => ?_
                  refine WC.region ?_
                  refine WL.pure (v := .agg #[vS g0 n n, vS g1 n n, vS g2 n n, vS g3 n n, vI (s.m : Int), .bool false]) 127 rfl (Nat.le_of_ble_eq_true rfl) rfl rfl (x_loadS (cs := [.slice (some ⟨g0, 0, none⟩) n n, .slice (some ⟨g1, 0, none⟩) n n, .slice (some ⟨g2, 0, none⟩) n n, .slice (some ⟨g3, 0, none⟩) n n, .int .i64 (s.m : Int), .bool false]) rfl rfl Try.underlying116 rfl sz116 (HP.range hH77 5 rfl rfl)) ?_
                  refine WL.storeS (H2 := [.cel b1 #[vS g0 n n, vS g1 n n, vS g2 n n, vS g3 n n, vI (s.m : Int), .bool false] 116, .cel g0 (irow n (Ec.lay k s).o) 3, .cel g1 (irow n (upI s.e k (-1))) 3, .cel g2 (irow n (upI s.d k (-1))) 3, .cel g3 (irow n (upI (upI s.t k (s.l.length : Int)) k ((s.l.length : Int) - 1))) 3, .cel b #[.slice (some ⟨g0, 0, none⟩) n n, .slice (some ⟨g1, 0, none⟩) n n, .slice (some ⟨g2, 0, none⟩) n n, .slice (some ⟨g3, 0, none⟩) n n, .int .i64 (s.m : Int), .bool false] 116, .own (.slice (some ⟨g, 0, none⟩) s.l.length cp) s.l.length (Ec.lI s.l) 3 1, .cel b19 #[vI (c k), vI (A k), vI (B k)] 75]) 0 hH77 rfl rfl rfl rfl rfl rfl sz116 rfl (Nat.le_of_ble_eq_true rfl) rfl rfl ?_
                  intro w79 hH80
                  refine WL.nil ?_
                  refine WQ.then ?_
                  refine hK78 _ _ _ ?_
                  refine WC.ret ?_
                  refine WQ.thenRet ?_
                  refine WQ.thenRet ?_
                  refine WQ.inRet ?_
                  refine WQ.inRet ?_
                  refine WQ.thenRet ?_
                  refine WQ.thenRet ?_
                  refine WQ.inRet ?_
                  refine WQ.thenRet ?_
                  refine WQ.retC 2 116 rfl rfl (HP.loadRow hH80 0 rfl Try.underlying116 rfl sz116) ?_
                  have hOK : okS c n = false := shp_bad hs (stp_else_has hA h34 hx (show ¬ upI s.e k (-1) x < 0 by omega)) (by omega)
                  refine ⟨g0, g1, g2, g3, (s.m : Int), ⟨[], (Ec.lay k s).o, (upI s.e k (-1)), (upI s.d k (-1)), (upI (upI s.t k (s.l.length : Int)) k ((s.l.length : Int) - 1)), 0⟩, by rw [hOK], ?_, ?_⟩
                  · exact HP.drop (HP.drop (HP.drop (HP.drop hH80 7) 6) 5) 0
                  · intro hq; rw [hOK] at hq; cases hq
                ·
                  refine WL.pure (v := .bool false) 124 rfl (Nat.le_of_ble_eq_true rfl) rfl rfl (x_geq rfl rfl rfl (dF (he))) ?_
                  refine WL.pure (v := .bool false) 125 rfl (Nat.le_of_ble_eq_true rfl) rfl rfl (by kernel_rfl) ?_
                  refine WL.nil ?_
                  refine WQ.then ?_
                  refine hK74 _ _ _ ?_
                  refine WC.sub (l' := [(0, .slice (some ⟨bb, oo, none⟩) n cap), (2, vP b1 0), (3, vI (n : Int)), (4, vP b 0), (5, vS g s.l.length cp), (6, vI (k : Int)), (7, vP b19 0), (8, vI (x : Int)), (9, .bool true), (21, .slice (some ⟨bb, oo, none⟩) n cap), (22, vI (n : Int)), (23, vI (k : Int)), (24, .bool true), (59, .bool (opn (c k))), (73, .bool true), (84, .bool false), (115, .bool true), (125, .bool false)]) ⟨rfl, rfl, rfl, rfl, rfl, rfl, rfl, rfl, rfl, rfl, rfl, rfl, rfl, rfl, rfl, rfl, rfl, rfl, trivial⟩ ?_
                  refine WC.no rfl ?_
                  refine WC.skip ?_
                  refine WQ.then ?_
                  refine hK73 _ _ _ ?_
                  refine WC.seq fun K81 hK81 => ?_
                  refine WC.region ?_
                  refine WL.pure (v := vP b 1) 128 rfl (Nat.le_of_ble_eq_true rfl) rfl rfl (by kernel_rfl) ?_
                  refine WL.pure (v := vS g1 n n) 129 rfl (Nat.le_of_ble_eq_true rfl) rfl rfl (x_load rfl rfl Try.underlying33 rfl (HP.cell hH55 5 rfl rfl)) ?_
                  refine WL.pure (v := vI (x : Int)) 130 rfl (Nat.le_of_ble_eq_true rfl) rfl rfl (by kernel_rfl) ?_
                  refine WL.pure (v := vI (k : Int)) 131 rfl (Nat.le_of_ble_eq_true rfl) rfl rfl (by kernel_rfl) ?_
                  refine WL.pure (v := vP g1 x) 132 rfl (Nat.le_of_ble_eq_true rfl) rfl rfl (x_idx (x) (x) rfl rfl rfl Try.underlying33 sz3 (by omega) (by omega) (by omega)) ?_
                  refine WL.store (H2 := [.cel b1 #[.slice none 0 0, .slice none 0 0, .slice none 0 0, .slice none 0 0, .int .i64 0, .bool false] 116, .cel g0 (irow n (Ec.lay k s).o) 3, .cel g1 (irow n (upI (upI s.e k (-1)) x (k : Int))) 3, .cel g2 (irow n (upI s.d k (-1))) 3, .cel g3 (irow n (upI (upI s.t k (s.l.length : Int)) k ((s.l.length : Int) - 1))) 3, .cel b #[.slice (some ⟨g0, 0, none⟩) n n, .slice (some ⟨g1, 0, none⟩) n n, .slice (some ⟨g2, 0, none⟩) n n, .slice (some ⟨g3, 0, none⟩) n n, .int .i64 (s.m : Int), .bool true] 116, .own (.slice (some ⟨g, 0, none⟩) s.l.length cp) s.l.length (Ec.lI s.l) 3 1, .cel b19 #[vI (c k), vI (A k), vI (B k)] 75]) 2 hH55 rfl rfl rfl rfl rfl rfl sz3 rfl (by simp [size_irow]; omega) (irow_set _ _ _ _) rfl ?_
                  intro w82 hH83
                  refine WL.nil ?_
                  refine WQ.then ?_
                  refine hK81 _ _ _ ?_
                  refine WC.exit ?_
                  refine WQ.thenExit ?_
                  refine WQ.inOther (by decide) ?_
                  refine WQ.inExit ?_
                  refine WQ.then ?_
                  refine hK17 _ _ _ ?_
                  refine WC.region ?_
                  refine WL.pure (v := vI ((k + 1 : Nat) : Int)) 159 rfl (Nat.le_of_ble_eq_true rfl) rfl rfl (x_add (Z := ((k + 1 : Nat) : Int)) rfl rfl rfl (by omega) (by omega) (by omega)) ?_
                  refine WL.pure (v := vI ((k + 1 : Nat) : Int)) 23 rfl (Nat.le_of_ble_eq_true rfl) rfl rfl (by kernel_rfl) ?_
                  refine WL.nil ?_
                  obtain ⟨s1, hs1⟩ : ∃ s1 : Sh, s1 = ⟨s.l, (Ec.lay k s).o, (upI (upI s.e k (-1)) x (k : Int)), (upI s.d k (-1)), (upI (upI s.t k (s.l.length : Int)) k ((s.l.length : Int) - 1)), s.m⟩ := ⟨_, rfl⟩
                  have hsN : shp c (k + 1) = some s1 := by
                    rw [hs1]
                    exact shp_step hs (stp_else_ok hA h34 hx (two_yes (by omega)) (show upI s.e k (-1) x < 0 by omega))
                  have el : s1.l.length = s.l.length := by rw [hs1]
                  have eI : Ec.lI s1.l = Ec.lI s.l := by rw [hs1]
                  have hN := HP.eq (H' := [.cel b1 #[.slice none 0 0, .slice none 0 0, .slice none 0 0, .slice none 0 0, .int .i64 0, .bool false] 116, .cel g0 (irow n s1.o) 3, .cel g1 (irow n s1.e) 3, .cel g2 (irow n s1.d) 3, .cel g3 (irow n s1.t) 3, .cel b #[.slice (some ⟨g0, 0, none⟩) n n, .slice (some ⟨g1, 0, none⟩) n n, .slice (some ⟨g2, 0, none⟩) n n, .slice (some ⟨g3, 0, none⟩) n n, .int .i64 (s1.m : Int), .bool true] 116, .own (vS g s.l.length cp) s1.l.length (Ec.lI s1.l) 3 1]) (HP.drop hH83 7) (by rw [el, eI]; subst hs1; rfl)
                  refine WQ.sub (l' := [(0, .slice (some ⟨bb, oo, none⟩) n cap), (2, vP b1 0), (3, vI (n : Int)), (4, vP b 0), (5, vS g s.l.length cp), (21, .slice (some ⟨bb, oo, none⟩) n cap), (22, vI (n : Int)), (23, vI ((k + 1 : Nat) : Int))]) ⟨rfl, rfl, rfl, rfl, rfl, rfl, rfl, rfl, trivial⟩ ?_
                  refine WQ.then (hK12 _ _ _ (by omega) ⟨k + 1, s1, vS g s.l.length cp, rfl, rfl, by omega, hsN, hN⟩)
              ·
                refine WL.pure (v := .bool false) 111 rfl (Nat.le_of_ble_eq_true rfl) rfl rfl (x_eql rfl rfl rfl (dF (h33))) ?_
                refine WL.pure (v := .bool false) 112 rfl (Nat.le_of_ble_eq_true rfl) rfl rfl (by kernel_rfl) ?_
                refine WL.pure (v := .bool false) 9 rfl (Nat.le_of_ble_eq_true rfl) rfl rfl (by kernel_rfl) ?_
                refine WL.nil ?_
                refine WQ.then ?_
                refine hK57 _ _ _ ?_
                refine WC.sub (l' := [(0, .slice (some ⟨bb, oo, none⟩) n cap), (2, vP b1 0), (3, vI (n : Int)), (4, vP b 0), (5, vS g s.l.length cp), (6, vI (k : Int)), (7, vP b19 0), (8, vI (x : Int)), (9, .bool false), (21, .slice (some ⟨bb, oo, none⟩) n cap), (22, vI (n : Int)), (23, vI (k : Int)), (24, .bool true), (59, .bool (opn (c k))), (73, .bool true), (84, .bool false)]) ⟨rfl, rfl, rfl, rfl, rfl, rfl, rfl, rfl, rfl, rfl, rfl, rfl, rfl, rfl, rfl, rfl, trivial⟩ ?_
                refine WC.seq fun K84 hK84 => ?_
                refine WC.seq fun K85 hK85 => ?_
                refine WC.region ?_
                refine WL.pure (v := vP b19 0) 113 rfl (Nat.le_of_ble_eq_true rfl) rfl rfl (by kernel_rfl) ?_
                refine WL.pure (v := vI (c k)) 114 rfl (Nat.le_of_ble_eq_true rfl) rfl rfl (x_load rfl rfl Try.underlying3 rfl (HP.cell hH55 7 rfl rfl)) ?_
                refine WL.pure (v := .bool true) 115 rfl (Nat.le_of_ble_eq_true rfl) rfl rfl (x_eql rfl rfl rfl (dT (by omega))) ?_
                refine WL.nil ?_
                refine WQ.then ?_
                refine hK85 _ _ _ ?_
                refine WC.yes rfl ?_
                refine WC.seq fun K86 hK86 => ?_
                refine WC.seq fun K87 hK87 => ?_
                refine WC.region ?_
                refine WL.pure (v := .bool false) 116 rfl (Nat.le_of_ble_eq_true rfl) rfl rfl (by kernel_rfl) ?_
                refine WL.pure (v := .bool true) 117 rfl (Nat.le_of_ble_eq_true rfl) rfl rfl (by kernel_rfl) ?_
                refine WL.pure (v := .bool true) 118 rfl (Nat.le_of_ble_eq_true rfl) rfl rfl (by kernel_rfl) ?_
                refine WL.pass 119 rfl (by decide) rfl ?_
                refine WL.pass 120 rfl (by decide) rfl ?_
                refine WL.pass 121 rfl (by decide) rfl ?_
                refine WL.pass 122 rfl (by decide) rfl ?_
                refine WL.pass 123 rfl (by decide) rfl ?_
                refine WL.pass 124 rfl (by decide) rfl ?_
                refine WL.pure (v := .bool true) 125 rfl (Nat.le_of_ble_eq_true rfl) rfl rfl (by kernel_rfl) ?_
                refine WL.nil ?_
                refine WQ.then ?_
                refine hK87 _ _ _ ?_
                refine WC.sub (l' := [(0, .slice (some ⟨bb, oo, none⟩) n cap), (2, vP b1 0), (3, vI (n : Int)), (4, vP b 0), (5, vS g s.l.length cp), (6, vI (k : Int)), (7, vP b19 0), (8, vI (x : Int)), (9, .bool false), (21, .slice (some ⟨bb, oo, none⟩) n cap), (22, vI (n : Int)), (23, vI (k : Int)), (24, .bool true), (59, .bool (opn (c k))), (73, .bool true), (84, .bool false), (115, .bool true), (125, .bool true)]) ⟨rfl, rfl, rfl, rfl, rfl, rfl, rfl, rfl, rfl, rfl, rfl, rfl, rfl, rfl, rfl, rfl, rfl, rfl, trivial⟩ ?_
                refine WC.yes rfl ?_
                refine WC.seq fun K88 hK88 => ?_
                refine WC.region ?_
                refine WL.pure (v := vP b 5) 126 rfl (Nat.le_of_ble_eq_true rfl) rfl rfl (by kernel_rfl) ?_
                refine WL.store (H2 := [.cel b1 #[.slice none 0 0, .slice none 0 0, .slice none 0 0, .slice none 0 0, .int .i64 0, .bool false] 116, .cel g0 (irow n (Ec.lay k s).o) 3, .cel g1 (irow n (upI s.e k (-1))) 3, .cel g2 (irow n (upI s.d k (-1))) 3, .cel g3 (irow n (upI (upI s.t k (s.l.length : Int)) k ((s.l.length : Int) - 1))) 3, .cel b #[.slice (some ⟨g0, 0, none⟩) n n, .slice (some ⟨g1, 0, none⟩) n n, .slice (some ⟨g2, 0, none⟩) n n, .slice (some ⟨g3, 0, none⟩) n n, .int .i64 (s.m : Int), .bool false] 116, .own (.slice (some ⟨g, 0, none⟩) s.l.length cp) s.l.length (Ec.lI s.l) 3 1, .cel b19 #[vI (c k), vI (A k), vI (B k)] 75]) 5 hH55 rfl rfl rfl rfl rfl rfl sz4 rfl (Nat.le_of_ble_eq_true rfl) rfl rfl ?_
                intro w89 hH90
                refine WL.nil ?_
                refine WQ.then ?_
                refine hK88 _ _ _ ?_
                refine WC.seq fun K91 hK91 => ?_
                refine WC.region ?_
                refine WL.pure (v := .agg #[vS g0 n n, vS g1 n n, vS g2 n n, vS g3 n n, vI (s.m : Int), .bool false]) 127 rfl (Nat.le_of_ble_eq_true rfl) rfl rfl (x_loadS (cs := [.slice (some ⟨g0, 0, none⟩) n n, .slice (some ⟨g1, 0, none⟩) n n, .slice (some ⟨g2, 0, none⟩) n n, .slice (some ⟨g3, 0, none⟩) n n, .int .i64 (s.m : Int), .bool false]) rfl rfl Try.underlying116 rfl sz116 (HP.range hH90 5 rfl rfl)) ?_
                refine WL.storeS (H2 := [.cel b1 #[vS g0 n n, vS g1 n n, vS g2 n n, vS g3 n n, vI (s.m : Int), .bool false] 116, .cel g0 (irow n (Ec.lay k s).o) 3, .cel g1 (irow n (upI s.e k (-1))) 3, .cel g2 (irow n (upI s.d k (-1))) 3, .cel g3 (irow n (upI (upI s.t k (s.l.length : Int)) k ((s.l.length : Int) - 1))) 3, .cel b #[.slice (some ⟨g0, 0, none⟩) n n, .slice (some ⟨g1, 0, none⟩) n n, .slice (some ⟨g2, 0, none⟩) n n, .slice (some ⟨g3, 0, none⟩) n n, .int .i64 (s.m : Int), .bool false] 116, .own (.slice (some ⟨g, 0, none⟩) s.l.length cp) s.l.length (Ec.lI s.l) 3 1, .cel b19 #[vI (c k), vI (A k), vI (B k)] 75]) 0 hH90 rfl rfl rfl rfl rfl rfl sz116 rfl (Nat.le_of_ble_eq_true rfl) rfl rfl ?_
                intro w92 hH93
                refine WL.nil ?_
                refine WQ.then ?_
                refine hK91 _ _ _ ?_
                refine WC.ret ?_
                refine WQ.thenRet ?_
                refine WQ.thenRet ?_
                refine WQ.inRet ?_
                refine WQ.inRet ?_
                refine WQ.thenRet ?_
                refine WQ.thenRet ?_
                refine WQ.inRet ?_
                refine WQ.thenRet ?_
                refine WQ.retC 2 116 rfl rfl (HP.loadRow hH93 0 rfl Try.underlying116 rfl sz116) ?_
                have hOK : okS c n = false := shp_bad hs (stp_else_two hA h34 hx (two_no h29 h33)) (by omega)
                refine ⟨g0, g1, g2, g3, (s.m : Int), ⟨[], (Ec.lay k s).o, (upI s.e k (-1)), (upI s.d k (-1)), (upI (upI s.t k (s.l.length : Int)) k ((s.l.length : Int) - 1)), 0⟩, by rw [hOK], ?_, ?_⟩
                · exact HP.drop (HP.drop (HP.drop (HP.drop hH93 7) 6) 5) 0
                · intro hq; rw [hOK] at hq; cases hq
        ·
          refine WL.pure (v := .bool false) 76 rfl (Nat.le_of_ble_eq_true rfl) rfl rfl (x_eql rfl rfl rfl (dF (h34))) ?_
          refine WL.pure (v := .bool false) 77 rfl (Nat.le_of_ble_eq_true rfl) rfl rfl (by kernel_rfl) ?_
          refine WL.pure (v := vP b19 0) 78 rfl (Nat.le_of_ble_eq_true rfl) rfl rfl (by kernel_rfl) ?_
          refine WL.pure (v := vI (c k)) 79 rfl (Nat.le_of_ble_eq_true rfl) rfl rfl (x_load rfl rfl Try.underlying3 rfl (HP.cell hH32 7 rfl rfl)) ?_
          by_cases h35 : c k = 35
          ·
            refine WL.pure (v := .bool true) 80 rfl (Nat.le_of_ble_eq_true rfl) rfl rfl (x_eql rfl rfl rfl (dT (h35))) ?_
            refine WL.pure (v := .bool true) 81 rfl (Nat.le_of_ble_eq_true rfl) rfl rfl (by kernel_rfl) ?_
            refine WL.pure (v := .bool true) 73 rfl (Nat.le_of_ble_eq_true rfl) rfl rfl (by kernel_rfl) ?_
            refine WL.nil ?_
            refine WQ.then ?_
            refine hK44 _ _ _ ?_
            refine WC.sub (l' := [(0, .slice (some ⟨bb, oo, none⟩) n cap), (2, vP b1 0), (3, vI (n : Int)), (4, vP b 0), (5, .slice pv s.l.length cp), (6, vI (k : Int)), (7, vP b19 0), (21, .slice (some ⟨bb, oo, none⟩) n cap), (22, vI (n : Int)), (23, vI (k : Int)), (24, .bool true), (59, .bool (opn (c k))), (73, .bool true)]) ⟨rfl, rfl, rfl, rfl, rfl, rfl, rfl, rfl, rfl, rfl, rfl, rfl, rfl, trivial⟩ ?_
            refine WC.yes rfl ?_
            refine WC.seq fun K94 hK94 => ?_
            refine WC.seq fun K95 hK95 => ?_
            refine WC.region ?_
            refine WL.pure (v := .slice pv s.l.length cp) 82 rfl (Nat.le_of_ble_eq_true rfl) rfl rfl (by kernel_rfl) ?_
            refine WL.pure (v := vI (s.l.length : Int)) 83 rfl (Nat.le_of_ble_eq_true rfl) rfl rfl (by kernel_rfl) ?_
            by_cases h0b : (s.l.length : Int) = 0
            ·
              refine WL.pure (v := .bool true) 84 rfl (Nat.le_of_ble_eq_true rfl) rfl rfl (x_eql rfl rfl rfl (dT (h0b))) ?_
              refine WL.nil ?_
              refine WQ.then ?_
              refine hK95 _ _ _ ?_
              refine WC.yes rfl ?_
              refine WC.seq fun K96 hK96 => ?_
              refine WC.region ?_
              refine WL.pure (v := vP b 5) 85 rfl (Nat.le_of_ble_eq_true rfl) rfl rfl (by kernel_rfl) ?_
              refine WL.store (H2 := [.cel b1 #[.slice none 0 0, .slice none 0 0, .slice none 0 0, .slice none 0 0, .int .i64 0, .bool false] 116, .cel g0 (irow n (Ec.lay k s).o) 3, .cel g1 (irow n (upI s.e k (-1))) 3, .cel g2 (irow n (upI s.d k (-1))) 3, .cel g3 (irow n (upI s.t k (s.l.length : Int))) 3, .cel b #[.slice (some ⟨g0, 0, none⟩) n n, .slice (some ⟨g1, 0, none⟩) n n, .slice (some ⟨g2, 0, none⟩) n n, .slice (some ⟨g3, 0, none⟩) n n, .int .i64 (s.m : Int), .bool false] 116, .own (.slice pv s.l.length cp) s.l.length (Ec.lI s.l) 3 1, .cel b19 #[vI (c k), vI (A k), vI (B k)] 75]) 5 hH32 rfl rfl rfl rfl rfl rfl sz4 rfl (Nat.le_of_ble_eq_true rfl) rfl rfl ?_
              intro w97 hH98
              refine WL.nil ?_
              refine WQ.then ?_
              refine hK96 _ _ _ ?_
              refine WC.seq fun K99 hK99 => ?_
              refine WC.region ?_
              refine WL.pure (v := .agg #[vS g0 n n, vS g1 n n, vS g2 n n, vS g3 n n, vI (s.m : Int), .bool false]) 86 rfl (Nat.le_of_ble_eq_true rfl) rfl rfl (x_loadS (cs := [.slice (some ⟨g0, 0, none⟩) n n, .slice (some ⟨g1, 0, none⟩) n n, .slice (some ⟨g2, 0, none⟩) n n, .slice (some ⟨g3, 0, none⟩) n n, .int .i64 (s.m : Int), .bool false]) rfl rfl Try.underlying116 rfl sz116 (HP.range hH98 5 rfl rfl)) ?_
              refine WL.storeS (H2 := [.cel b1 #[vS g0 n n, vS g1 n n, vS g2 n n, vS g3 n n, vI (s.m : Int), .bool false] 116, .cel g0 (irow n (Ec.lay k s).o) 3, .cel g1 (irow n (upI s.e k (-1))) 3, .cel g2 (irow n (upI s.d k (-1))) 3, .cel g3 (irow n (upI s.t k (s.l.length : Int))) 3, .cel b #[.slice (some ⟨g0, 0, none⟩) n n, .slice (some ⟨g1, 0, none⟩) n n, .slice (some ⟨g2, 0, none⟩) n n, .slice (some ⟨g3, 0, none⟩) n n, .int .i64 (s.m : Int), .bool false] 116, .own (.slice pv s.l.length cp) s.l.length (Ec.lI s.l) 3 1, .cel b19 #[vI (c k), vI (A k), vI (B k)] 75]) 0 hH98 rfl rfl rfl rfl rfl rfl sz116 rfl (Nat.le_of_ble_eq_true rfl) rfl rfl ?_
              intro w100 hH101
              refine WL.nil ?_
              refine WQ.then ?_
              refine hK99 _ _ _ ?_
              refine WC.ret ?_
              refine WQ.thenRet ?_
              refine WQ.inRet ?_
              refine WQ.inRet ?_
              refine WQ.thenRet ?_
              refine WQ.thenRet ?_
              refine WQ.inRet ?_
              refine WQ.thenRet ?_
              refine WQ.retC 2 116 rfl rfl (HP.loadRow hH101 0 rfl Try.underlying116 rfl sz116) ?_
              have hOK : okS c n = false := shp_bad hs (stp_none_nil hA (by omega) (by omega)) (by omega)
              refine ⟨g0, g1, g2, g3, (s.m : Int), ⟨[], (Ec.lay k s).o, (upI s.e k (-1)), (upI s.d k (-1)), (upI s.t k (s.l.length : Int)), 0⟩, by rw [hOK], ?_, ?_⟩
              · exact HP.drop (HP.drop (HP.drop (HP.drop hH101 7) 6) 5) 0
              · intro hq; rw [hOK] at hq; cases hq
            ·
              refine WL.pure (v := .bool false) 84 rfl (Nat.le_of_ble_eq_true rfl) rfl rfl (x_eql rfl rfl rfl (dF (h0b))) ?_
              refine WL.nil ?_
              refine WQ.then ?_
              refine hK95 _ _ _ ?_
              refine WC.no rfl ?_
              refine WC.skip ?_
              refine WQ.then ?_
              refine hK94 _ _ _ ?_
              refine WC.seq fun K102 hK102 => ?_
              obtain ⟨g, rfl⟩ := hpv (by omega)
              obtain ⟨x, hx⟩ := last_of (l := s.l) (by omega)
              have hxk := (shp_lt k s hs).1 x (List.mem_of_getLast? hx)
              refine WC.region ?_
              refine WL.pure (v := vP b 3) 87 rfl (Nat.le_of_ble_eq_true rfl) rfl rfl (by kernel_rfl) ?_
              refine WL.pure (v := vS g3 n n) 88 rfl (Nat.le_of_ble_eq_true rfl) rfl rfl (x_load rfl rfl Try.underlying33 rfl (HP.cell hH32 5 rfl rfl)) ?_
              refine WL.pure (v := vI (k : Int)) 89 rfl (Nat.le_of_ble_eq_true rfl) rfl rfl (by kernel_rfl) ?_
              refine WL.pure (v := vS g s.l.length cp) 90 rfl (Nat.le_of_ble_eq_true rfl) rfl rfl (by kernel_rfl) ?_
              refine WL.pure (v := vI (s.l.length : Int)) 91 rfl (Nat.le_of_ble_eq_true rfl) rfl rfl (by kernel_rfl) ?_
              refine WL.pure (v := vI ((s.l.length : Int) - 1)) 92 rfl (Nat.le_of_ble_eq_true rfl) rfl rfl (x_sub (Z := (s.l.length : Int) - 1) rfl rfl rfl (by omega) (by omega) (by omega)) ?_
              refine WL.pure (v := vP g3 k) 93 rfl (Nat.le_of_ble_eq_true rfl) rfl rfl (x_idx (k) (k) rfl rfl rfl Try.underlying33 sz3 (by omega) (by omega) (by omega)) ?_
              refine WL.store (H2 := [.cel b1 #[.slice none 0 0, .slice none 0 0, .slice none 0 0, .slice none 0 0, .int .i64 0, .bool false] 116, .cel g0 (irow n (Ec.lay k s).o) 3, .cel g1 (irow n (upI s.e k (-1))) 3, .cel g2 (irow n (upI s.d k (-1))) 3, .cel g3 (irow n (upI (upI s.t k (s.l.length : Int)) k ((s.l.length : Int) - 1))) 3, .cel b #[.slice (some ⟨g0, 0, none⟩) n n, .slice (some ⟨g1, 0, none⟩) n n, .slice (some ⟨g2, 0, none⟩) n n, .slice (some ⟨g3, 0, none⟩) n n, .int .i64 (s.m : Int), .bool true] 116, .own (.slice (some ⟨g, 0, none⟩) s.l.length cp) s.l.length (Ec.lI s.l) 3 1, .cel b19 #[vI (c k), vI (A k), vI (B k)] 75]) 4 hH32 rfl rfl rfl rfl rfl rfl sz3 rfl (by simp [size_irow]; omega) (irow_set _ _ _ _) rfl ?_
              intro w103 hH104
              refine WL.nil ?_
              refine WQ.then ?_
              refine hK102 _ _ _ ?_
              refine WC.sub (l' := [(0, .slice (some ⟨bb, oo, none⟩) n cap), (2, vP b1 0), (3, vI (n : Int)), (4, vP b 0), (5, vS g s.l.length cp), (6, vI (k : Int)), (7, vP b19 0), (21, .slice (some ⟨bb, oo, none⟩) n cap), (22, vI (n : Int)), (23, vI (k : Int)), (24, .bool true), (59, .bool (opn (c k))), (73, .bool true), (84, .bool false)]) ⟨rfl, rfl, rfl, rfl, rfl, rfl, rfl, rfl, rfl, rfl, rfl, rfl, rfl, rfl, trivial⟩ ?_
              refine WC.seq fun K105 hK105 => ?_
              refine WC.region ?_
              refine WL.pure (v := vP b 0) 94 rfl (Nat.le_of_ble_eq_true rfl) rfl rfl (by kernel_rfl) ?_
              refine WL.pure (v := vS g0 n n) 95 rfl (Nat.le_of_ble_eq_true rfl) rfl rfl (x_load rfl rfl Try.underlying33 rfl (HP.cell hH104 5 rfl rfl)) ?_
              refine WL.pure (v := vI (k : Int)) 96 rfl (Nat.le_of_ble_eq_true rfl) rfl rfl (by kernel_rfl) ?_
              refine WL.pure (v := vP g0 k) 97 rfl (Nat.le_of_ble_eq_true rfl) rfl rfl (x_idx (k) (k) rfl rfl rfl Try.underlying33 sz3 (by omega) (by omega) (by omega)) ?_
              refine WL.pure (v := vI (x : Int)) 98 rfl (Nat.le_of_ble_eq_true rfl) rfl rfl (x_load rfl rfl Try.underlying3 rfl (HP.cell hH104 1 rfl (irow_get (by omega) (lay_o_top hx)))) ?_
              refine WL.pure (v := vI (x : Int)) 8 rfl (Nat.le_of_ble_eq_true rfl) rfl rfl (by kernel_rfl) ?_
              refine WL.nil ?_
              refine WQ.then ?_
              refine hK105 _ _ _ ?_
              refine WC.seq fun K106 hK106 => ?_
              refine WC.region ?_
              refine WL.pure (v := .slice (some ⟨bb, oo, none⟩) n cap) 99 rfl (Nat.le_of_ble_eq_true rfl) rfl rfl (by kernel_rfl) ?_
              refine WL.pure (v := vI (x : Int)) 100 rfl (Nat.le_of_ble_eq_true rfl) rfl rfl (by kernel_rfl) ?_
              refine WL.pure (v := vP bb (oo + x * 3)) 101 rfl (Nat.le_of_ble_eq_true rfl) rfl rfl (x_idx (x) (oo + x * 3) rfl rfl rfl Try.underlying42 sz75 (by omega) (by omega) (by omega)) ?_
              refine WL.pure (v := vP bb (oo + x * 3)) 102 rfl (Nat.le_of_ble_eq_true rfl) rfl rfl (by kernel_rfl) ?_
              refine WL.pure (v := vI (c x)) 103 rfl (Nat.le_of_ble_eq_true rfl) rfl rfl (x_load rfl rfl Try.underlying3 rfl ((HP.oldRange hH104 trivial (hrow x (by omega))) 0 _ rfl)) ?_
              by_cases h29 : c x = 29
              ·
                refine WL.pure (v := .bool true) 104 rfl (Nat.le_of_ble_eq_true rfl) rfl rfl (x_eql rfl rfl rfl (dT (h29))) ?_
                refine WL.pure (v := .bool true) 105 rfl (Nat.le_of_ble_eq_true rfl) rfl rfl (by kernel_rfl) ?_
                refine WL.pass 106 rfl (by decide) rfl ?_
                refine WL.pass 107 rfl (by decide) rfl ?_
                refine WL.pass 108 rfl (by decide) rfl ?_
                refine WL.pass 109 rfl (by decide) rfl ?_
                refine WL.pass 110 rfl (by decide) rfl ?_
                refine WL.pass 111 rfl (by decide) rfl ?_
                refine WL.pure (v := .bool true) 112 rfl (Nat.le_of_ble_eq_true rfl) rfl rfl (by kernel_rfl) ?_
                refine WL.pure (v := .bool true) 9 rfl (Nat.le_of_ble_eq_true rfl) rfl rfl (by kernel_rfl) ?_
                refine WL.nil ?_
                refine WQ.then ?_
                refine hK106 _ _ _ ?_
                refine WC.sub (l' := [(0, .slice (some ⟨bb, oo, none⟩) n cap), (2, vP b1 0), (3, vI (n : Int)), (4, vP b 0), (5, vS g s.l.length cp), (6, vI (k : Int)), (7, vP b19 0), (8, vI (x : Int)), (9, .bool true), (21, .slice (some ⟨bb, oo, none⟩) n cap), (22, vI (n : Int)), (23, vI (k : Int)), (24, .bool true), (59, .bool (opn (c k))), (73, .bool true), (84, .bool false)]) ⟨rfl, rfl, rfl, rfl, rfl, rfl, rfl, rfl, rfl, rfl, rfl, rfl, rfl, rfl, rfl, rfl, trivial⟩ ?_
                refine WC.seq fun K107 hK107 => ?_
                refine WC.seq fun K108 hK108 => ?_
                refine WC.region ?_
                refine WL.pure (v := vP b19 0) 113 rfl (Nat.le_of_ble_eq_true rfl) rfl rfl (by kernel_rfl) ?_
                refine WL.pure (v := vI (c k)) 114 rfl (Nat.le_of_ble_eq_true rfl) rfl rfl (x_load rfl rfl Try.underlying3 rfl (HP.cell hH104 7 rfl rfl)) ?_
                refine WL.pure (v := .bool false) 115 rfl (Nat.le_of_ble_eq_true rfl) rfl rfl (x_eql rfl rfl rfl (dF (by omega))) ?_
                refine WL.nil ?_
                refine WQ.then ?_
                refine hK108 _ _ _ ?_
                refine WC.no rfl ?_
                refine WC.skip ?_
                refine WQ.then ?_
                refine hK107 _ _ _ ?_
                refine WC.seq fun K109 hK109 => ?_
                refine WC.seq fun K110 hK110 => ?_
                refine WC.region ?_
                refine WL.pure (v := .slice (some ⟨bb, oo, none⟩) n cap) 133 rfl (Nat.le_of_ble_eq_true rfl) rfl rfl (by kernel_rfl) ?_
                refine WL.pure (v := vI (x : Int)) 134 rfl (Nat.le_of_ble_eq_true rfl) rfl rfl (by kernel_rfl) ?_
                refine WL.pure (v := vP bb (oo + x * 3)) 135 rfl (Nat.le_of_ble_eq_true rfl) rfl rfl (x_idx (x) (oo + x * 3) rfl rfl rfl Try.underlying42 sz75 (by omega) (by omega) (by omega)) ?_
                refine WL.pure (v := vP bb (oo + x * 3)) 136 rfl (Nat.le_of_ble_eq_true rfl) rfl rfl (by kernel_rfl) ?_
                refine WL.pure (v := vI (c x)) 137 rfl (Nat.le_of_ble_eq_true rfl) rfl rfl (x_load rfl rfl Try.underlying3 rfl ((HP.oldRange hH104 trivial (hrow x (by omega))) 0 _ rfl)) ?_
                refine WL.pure (v := .bool false) 138 rfl (Nat.le_of_ble_eq_true rfl) rfl rfl (x_eql rfl rfl rfl (dF (by omega))) ?_
                refine WL.pure (v := .bool false) 139 rfl (Nat.le_of_ble_eq_true rfl) rfl rfl (by kernel_rfl) ?_
                refine WL.pass 140 rfl (by decide) rfl ?_
                refine WL.pass 141 rfl (by decide) rfl ?_
                refine WL.pass 142 rfl (by decide) rfl ?_
                refine WL.pass 143 rfl (by decide) rfl ?_
                refine WL.pass 144 rfl (by decide) rfl ?_
                refine WL.pass 145 rfl (by decide) rfl ?_
                refine WL.pure (v := .bool false) 146 rfl (Nat.le_of_ble_eq_true rfl) rfl rfl (by kernel_rfl) ?_
                refine WL.nil ?_
                refine WQ.then ?_
                refine hK110 _ _ _ ?_
                refine WC.sub (l' := [(0, .slice (some ⟨bb, oo, none⟩) n cap), (2, vP b1 0), (3, vI (n : Int)), (4, vP b 0), (5, vS g s.l.length cp), (6, vI (k : Int)), (7, vP b19 0), (8, vI (x : Int)), (9, .bool true), (21, .slice (some ⟨bb, oo, none⟩) n cap), (22, vI (n : Int)), (23, vI (k : Int)), (24, .bool true), (59, .bool (opn (c k))), (73, .bool true), (84, .bool false), (115, .bool false), (146, .bool false)]) ⟨rfl, rfl, rfl, rfl, rfl, rfl, rfl, rfl, rfl, rfl, rfl, rfl, rfl, rfl, rfl, rfl, rfl, rfl, trivial⟩ ?_
                refine WC.no rfl ?_
                refine WC.skip ?_
                refine WQ.then ?_
                refine hK109 _ _ _ ?_
                refine WC.seq fun K111 hK111 => ?_
                refine WC.region ?_
                refine WL.pure (v := vP b 2) 149 rfl (Nat.le_of_ble_eq_true rfl) rfl rfl (by kernel_rfl) ?_
                refine WL.pure (v := vS g2 n n) 150 rfl (Nat.le_of_ble_eq_true rfl) rfl rfl (x_load rfl rfl Try.underlying33 rfl (HP.cell hH104 5 rfl rfl)) ?_
                refine WL.pure (v := vI (x : Int)) 151 rfl (Nat.le_of_ble_eq_true rfl) rfl rfl (by kernel_rfl) ?_
                refine WL.pure (v := vI (k : Int)) 152 rfl (Nat.le_of_ble_eq_true rfl) rfl rfl (by kernel_rfl) ?_
                refine WL.pure (v := vP g2 x) 153 rfl (Nat.le_of_ble_eq_true rfl) rfl rfl (x_idx (x) (x) rfl rfl rfl Try.underlying33 sz3 (by omega) (by omega) (by omega)) ?_
                refine WL.store (H2 := [.cel b1 #[.slice none 0 0, .slice none 0 0, .slice none 0 0, .slice none 0 0, .int .i64 0, .bool false] 116, .cel g0 (irow n (Ec.lay k s).o) 3, .cel g1 (irow n (upI s.e k (-1))) 3, .cel g2 (irow n (upI (upI s.d k (-1)) x (k : Int))) 3, .cel g3 (irow n (upI (upI s.t k (s.l.length : Int)) k ((s.l.length : Int) - 1))) 3, .cel b #[.slice (some ⟨g0, 0, none⟩) n n, .slice (some ⟨g1, 0, none⟩) n n, .slice (some ⟨g2, 0, none⟩) n n, .slice (some ⟨g3, 0, none⟩) n n, .int .i64 (s.m : Int), .bool true] 116, .own (.slice (some ⟨g, 0, none⟩) s.l.length cp) s.l.length (Ec.lI s.l) 3 1, .cel b19 #[vI (c k), vI (A k), vI (B k)] 75]) 3 hH104 rfl rfl rfl rfl rfl rfl sz3 rfl (by simp [size_irow]; omega) (irow_set _ _ _ _) rfl ?_
                intro w112 hH113
                refine WL.nil ?_
                refine WQ.then ?_
                refine hK111 _ _ _ ?_
                refine WC.region ?_
                refine WL.pure (v := vS g s.l.length cp) 154 rfl (Nat.le_of_ble_eq_true rfl) rfl rfl (by kernel_rfl) ?_
                refine WL.pure (v := vS g s.l.length cp) 155 rfl (Nat.le_of_ble_eq_true rfl) rfl rfl (by kernel_rfl) ?_
                refine WL.pure (v := vI (s.l.length : Int)) 156 rfl (Nat.le_of_ble_eq_true rfl) rfl rfl (by kernel_rfl) ?_
                refine WL.pure (v := vI ((s.l.length - 1 : Nat) : Int)) 157 rfl (Nat.le_of_ble_eq_true rfl) rfl rfl (x_sub (Z := ((s.l.length - 1 : Nat) : Int)) rfl rfl rfl (by omega) (by omega) (by omega)) ?_
                refine WL.pure (v := vS g (s.l.length - 1) cp) 158 rfl (Nat.le_of_ble_eq_true rfl) rfl rfl (x_sliceH (s.l.length - 1) rfl rfl rfl Try.underlying33 rfl (by omega) sz3) ?_
                have hH114 : HP Tr w _ [.cel b1 #[.slice none 0 0, .slice none 0 0, .slice none 0 0, .slice none 0 0, .int .i64 0, .bool false] 116, .cel g0 (irow n (Ec.lay k s).o) 3, .cel g1 (irow n (upI s.e k (-1))) 3, .cel g2 (irow n (upI (upI s.d k (-1)) x (k : Int))) 3, .cel g3 (irow n (upI (upI s.t k (s.l.length : Int)) k ((s.l.length : Int) - 1))) 3, .cel b #[.slice (some ⟨g0, 0, none⟩) n n, .slice (some ⟨g1, 0, none⟩) n n, .slice (some ⟨g2, 0, none⟩) n n, .slice (some ⟨g3, 0, none⟩) n n, .int .i64 (s.m : Int), .bool true] 116, .own (.slice (some ⟨g, 0, none⟩) (s.l.length - 1) cp) (s.l.length - 1) (Ec.lI s.l.dropLast) 3 1, .cel b19 #[vI (c k), vI (A k), vI (B k)] 75] := HP.repl hH113 6 rfl (own_pop (HP.get hH113 6 rfl) (by simp)) rfl
                refine WL.pure (v := vS g (s.l.length - 1) cp) 5 rfl (Nat.le_of_ble_eq_true rfl) rfl rfl (by kernel_rfl) ?_
                refine WL.nil ?_
                refine WQ.inNormal ?_
                refine WQ.inNormal ?_
                refine WQ.then ?_
                refine hK17 _ _ _ ?_
                refine WC.sub (l' := [(0, .slice (some ⟨bb, oo, none⟩) n cap), (2, vP b1 0), (3, vI (n : Int)), (4, vP b 0), (5, vS g (s.l.length - 1) cp), (6, vI (k : Int)), (7, vP b19 0), (8, vI (x : Int)), (9, .bool true), (21, .slice (some ⟨bb, oo, none⟩) n cap), (22, vI (n : Int)), (23, vI (k : Int)), (24, .bool true), (59, .bool (opn (c k))), (73, .bool true), (84, .bool false), (115, .bool false), (146, .bool false)]) ⟨rfl, rfl, rfl, rfl, rfl, rfl, rfl, rfl, rfl, rfl, rfl, rfl, rfl, rfl, rfl, rfl, rfl, rfl, trivial⟩ ?_
                refine WC.region ?_
                refine WL.pure (v := vI ((k + 1 : Nat) : Int)) 159 rfl (Nat.le_of_ble_eq_true rfl) rfl rfl (x_add (Z := ((k + 1 : Nat) : Int)) rfl rfl rfl (by omega) (by omega) (by omega)) ?_
                refine WL.pure (v := vI ((k + 1 : Nat) : Int)) 23 rfl (Nat.le_of_ble_eq_true rfl) rfl rfl (by kernel_rfl) ?_
                refine WL.nil ?_
                obtain ⟨s1, hs1⟩ : ∃ s1 : Sh, s1 = ⟨s.l.dropLast, (Ec.lay k s).o, (upI s.e k (-1)), (upI (upI s.d k (-1)) x (k : Int)), (upI (upI s.t k (s.l.length : Int)) k ((s.l.length : Int) - 1)), s.m⟩ := ⟨_, rfl⟩
                have hsN : shp c (k + 1) = some s1 := by
                  rw [hs1]
                  exact shp_step hs (stp_end_ok hA h35 hx (show ¬ (c x = 33 ∧ upI s.e k (-1) x < 0) by omega))
                have el : s1.l.length = s.l.length - 1 := by rw [hs1]; simp
                have eI : Ec.lI s1.l = Ec.lI s.l.dropLast := by rw [hs1]
                have hN := HP.eq (H' := [.cel b1 #[.slice none 0 0, .slice none 0 0, .slice none 0 0, .slice none 0 0, .int .i64 0, .bool false] 116, .cel g0 (irow n s1.o) 3, .cel g1 (irow n s1.e) 3, .cel g2 (irow n s1.d) 3, .cel g3 (irow n s1.t) 3, .cel b #[.slice (some ⟨g0, 0, none⟩) n n, .slice (some ⟨g1, 0, none⟩) n n, .slice (some ⟨g2, 0, none⟩) n n, .slice (some ⟨g3, 0, none⟩) n n, .int .i64 (s1.m : Int), .bool true] 116, .own (vS g (s.l.length - 1) cp) s1.l.length (Ec.lI s1.l) 3 1]) (HP.drop hH114 7) (by rw [el, eI]; subst hs1; rfl)
                refine WQ.sub (l' := [(0, .slice (some ⟨bb, oo, none⟩) n cap), (2, vP b1 0), (3, vI (n : Int)), (4, vP b 0), (5, vS g (s.l.length - 1) cp), (21, .slice (some ⟨bb, oo, none⟩) n cap), (22, vI (n : Int)), (23, vI ((k + 1 : Nat) : Int))]) ⟨rfl, rfl, rfl, rfl, rfl, rfl, rfl, rfl, trivial⟩ ?_
                refine WQ.then (hK12 _ _ _ (by omega) ⟨k + 1, s1, vS g (s.l.length - 1) cp, rfl, rfl, by omega, hsN, hN⟩)
              ·
                refine WL.pure (v := .bool false) 104 rfl (Nat.le_of_ble_eq_true rfl) rfl rfl (x_eql rfl rfl rfl (dF (h29))) ?_
                refine WL.pure (v := .bool false) 105 rfl (Nat.le_of_ble_eq_true rfl) rfl rfl (by kernel_rfl) ?_
                refine WL.pure (v := .slice (some ⟨bb, oo, none⟩) n cap) 106 rfl (Nat.le_of_ble_eq_true rfl) rfl rfl (by kernel_rfl) ?_
                refine WL.pure (v := vI (x : Int)) 107 rfl (Nat.le_of_ble_eq_true rfl) rfl rfl (by kernel_rfl) ?_
                refine WL.pure (v := vP bb (oo + x * 3)) 108 rfl (Nat.le_of_ble_eq_true rfl) rfl rfl (x_idx (x) (oo + x * 3) rfl rfl rfl Try.underlying42 sz75 (by omega) (by omega) (by omega)) ?_
                refine WL.pure (v := vP bb (oo + x * 3)) 109 rfl (Nat.le_of_ble_eq_true rfl) rfl rfl (by kernel_rfl) ?_
                refine WL.pure (v := vI (c x)) 110 rfl (Nat.le_of_ble_eq_true rfl) rfl rfl (x_load rfl rfl Try.underlying3 rfl ((HP.oldRange hH104 trivial (hrow x (by omega))) 0 _ rfl)) ?_
                by_cases h33 : c x = 33
                ·
                  refine WL.pure (v := .bool true) 111 rfl (Nat.le_of_ble_eq_true rfl) rfl rfl (x_eql rfl rfl rfl (dT (h33))) ?_
                  refine WL.pure (v := .bool true) 112 rfl (Nat.le_of_ble_eq_true rfl) rfl rfl (by kernel_rfl) ?_
                  refine WL.pure (v := .bool true) 9 rfl (Nat.le_of_ble_eq_true rfl) rfl rfl (by kernel_rfl) ?_
                  refine WL.nil ?_
                  refine WQ.then ?_
                  refine hK106 _ _ _ ?_
                  refine WC.sub (l' := [(0, .slice (some ⟨bb, oo, none⟩) n cap), (2, vP b1 0), (3, vI (n : Int)), (4, vP b 0), (5, vS g s.l.length cp), (6, vI (k : Int)), (7, vP b19 0), (8, vI (x : Int)), (9, .bool true), (21, .slice (some ⟨bb, oo, none⟩) n cap), (22, vI (n : Int)), (23, vI (k : Int)), (24, .bool true), (59, .bool (opn (c k))), (73, .bool true), (84, .bool false)]) ⟨rfl, rfl, rfl, rfl, rfl, rfl, rfl, rfl, rfl, rfl, rfl, rfl, rfl, rfl, rfl, rfl, trivial⟩ ?_
                  refine WC.seq fun K115 hK115 => ?_
                  refine WC.seq fun K116 hK116 => ?_
                  refine WC.region ?_
                  refine WL.pure (v := vP b19 0) 113 rfl (Nat.le_of_ble_eq_true rfl) rfl rfl (by kernel_rfl) ?_
                  refine WL.pure (v := vI (c k)) 114 rfl (Nat.le_of_ble_eq_true rfl) rfl rfl (x_load rfl rfl Try.underlying3 rfl (HP.cell hH104 7 rfl rfl)) ?_
                  refine WL.pure (v := .bool false) 115 rfl (Nat.le_of_ble_eq_true rfl) rfl rfl (x_eql rfl rfl rfl (dF (by omega))) ?_
                  refine WL.nil ?_
                  refine WQ.then ?_
                  refine hK116 _ _ _ ?_
                  refine WC.no rfl ?_
                  refine WC.skip ?_
                  refine WQ.then ?_
                  refine hK115 _ _ _ ?_
                  refine WC.seq fun K117 hK117 => ?_
                  refine WC.seq fun K118 hK118 => ?_
                  refine WC.region ?_
                  refine WL.pure (v := .slice (some ⟨bb, oo, none⟩) n cap) 133 rfl (Nat.le_of_ble_eq_true rfl) rfl rfl (by kernel_rfl) ?_
                  refine WL.pure (v := vI (x : Int)) 134 rfl (Nat.le_of_ble_eq_true rfl) rfl rfl (by kernel_rfl) ?_
                  refine WL.pure (v := vP bb (oo + x * 3)) 135 rfl (Nat.le_of_ble_eq_true rfl) rfl rfl (x_idx (x) (oo + x * 3) rfl rfl rfl Try.underlying42 sz75 (by omega) (by omega) (by omega)) ?_
                  refine WL.pure (v := vP bb (oo + x * 3)) 136 rfl (Nat.le_of_ble_eq_true rfl) rfl rfl (by kernel_rfl) ?_
                  refine WL.pure (v := vI (c x)) 137 rfl (Nat.le_of_ble_eq_true rfl) rfl rfl (x_load rfl rfl Try.underlying3 rfl ((HP.oldRange hH104 trivial (hrow x (by omega))) 0 _ rfl)) ?_
                  refine WL.pure (v := .bool true) 138 rfl (Nat.le_of_ble_eq_true rfl) rfl rfl (x_eql rfl rfl rfl (dT (by omega))) ?_
                  refine WL.pure (v := .bool true) 139 rfl (Nat.le_of_ble_eq_true rfl) rfl rfl (by kernel_rfl) ?_
                  refine WL.pure (v := vP b 1) 140 rfl (Nat.le_of_ble_eq_true rfl) rfl rfl (by kernel_rfl) ?_
                  refine WL.pure (v := vS g1 n n) 141 rfl (Nat.le_of_ble_eq_true rfl) rfl rfl (x_load rfl rfl Try.underlying33 rfl (HP.cell hH104 5 rfl rfl)) ?_
                  refine WL.pure (v := vI (x : Int)) 142 rfl (Nat.le_of_ble_eq_true rfl) rfl rfl (by kernel_rfl) ?_
                  refine WL.pure (v := vP g1 x) 143 rfl (Nat.le_of_ble_eq_true rfl) rfl rfl (x_idx (x) (x) rfl rfl rfl Try.underlying33 sz3 (by omega) (by omega) (by omega)) ?_
                  refine WL.pure (v := vI ((upI s.e k (-1)) x)) 144 rfl (Nat.le_of_ble_eq_true rfl) rfl rfl (x_load rfl rfl Try.underlying3 rfl (HP.cell hH104 2 rfl (irow_get (by omega) rfl))) ?_
                  by_cases he : (upI s.e k (-1)) x < 0
                  ·
                    refine WL.pure (v := .bool true) 145 rfl (Nat.le_of_ble_eq_true rfl) rfl rfl (x_lss rfl rfl rfl (dT (he))) ?_
                    refine WL.pure (v := .bool true) 146 rfl (Nat.le_of_ble_eq_true rfl) rfl rfl (by kernel_rfl) ?_
                    refine WL.nil ?_
                    refine WQ.then ?_
                    refine hK118 _ _ _ ?_
                    refine WC.sub (l' := [(0, .slice (some ⟨bb, oo, none⟩) n cap), (2, vP b1 0), (3, vI (n : Int)), (4, vP b 0), (5, vS g s.l.length cp), (6, vI (k : Int)), (7, vP b19 0), (8, vI (x : Int)), (9, .bool true), (21, .slice (some ⟨bb, oo, none⟩) n cap), (22, vI (n : Int)), (23, vI (k : Int)), (24, .bool true), (59, .bool (opn (c k))), (73, .bool true), (84, .bool false), (115, .bool false), (146, .bool true)]) ⟨rfl, rfl, rfl, rfl, rfl, rfl, rfl, rfl, rfl, rfl, rfl, rfl, rfl, rfl, rfl, rfl, rfl, rfl, trivial⟩ ?_
                    refine WC.yes rfl ?_
                    refine WC.seq fun K119 hK119 => ?_
                    refine WC.region ?_
                    refine WL.pure (v := vP b 5) 147 rfl (Nat.le_of_ble_eq_true rfl) rfl rfl (by kernel_rfl) ?_
                    refine WL.store (H2 := [.cel b1 #[.slice none 0 0, .slice none 0 0, .slice none 0 0, .slice none 0 0, .int .i64 0, .bool false] 116, .cel g0 (irow n (Ec.lay k s).o) 3, .cel g1 (irow n (upI s.e k (-1))) 3, .cel g2 (irow n (upI s.d k (-1))) 3, .cel g3 (irow n (upI (upI s.t k (s.l.length : Int)) k ((s.l.length : Int) - 1))) 3, .cel b #[.slice (some ⟨g0, 0, none⟩) n n, .slice (some ⟨g1, 0, none⟩) n n, .slice (some ⟨g2, 0, none⟩) n n, .slice (some ⟨g3, 0, none⟩) n n, .int .i64 (s.m : Int), .bool false] 116, .own (.slice (some ⟨g, 0, none⟩) s.l.length cp) s.l.length (Ec.lI s.l) 3 1, .cel b19 #[vI (c k), vI (A k), vI (B k)] 75]) 5 hH104 rfl rfl rfl rfl rfl rfl sz4 rfl (Nat.le_of_ble_eq_true rfl) rfl rfl ?_
                    intro w120 hH121
                    refine WL.nil ?_
                    refine WQ.then ?_
                    refine hK119 _ _ _ ?_
                    refine WC.seq fun K122 hK122 => ?_
                    refine WC.region ?_
                    refine WL.pure (v := .agg #[vS g0 n n, vS g1 n n, vS g2 n n, vS g3 n n, vI (s.m : Int), .bool false]) 148 rfl (Nat.le_of_ble_eq_true rfl) rfl rfl (x_loadS (cs := [.slice (some ⟨g0, 0, none⟩) n n, .slice (some ⟨g1, 0, none⟩) n n, .slice (some ⟨g2, 0, none⟩) n n, .slice (some ⟨g3, 0, none⟩) n n, .int .i64 (s.m : Int), .bool false]) rfl rfl Try.underlying116 rfl sz116 (HP.range hH121 5 rfl rfl)) ?_
                    refine WL.storeS (H2 := [.cel b1 #[vS g0 n n, vS g1 n n, vS g2 n n, vS g3 n n, vI (s.m : Int), .bool false] 116, .cel g0 (irow n (Ec.lay k s).o) 3, .cel g1 (irow n (upI s.e k (-1))) 3, .cel g2 (irow n (upI s.d k (-1))) 3, .cel g3 (irow n (upI (upI s.t k (s.l.length : Int)) k ((s.l.length : Int) - 1))) 3, .cel b #[.slice (some ⟨g0, 0, none⟩) n n, .slice (some ⟨g1, 0, none⟩) n n, .slice (some ⟨g2, 0, none⟩) n n, .slice (some ⟨g3, 0, none⟩) n n, .int .i64 (s.m : Int), .bool false] 116, .own (.slice (some ⟨g, 0, none⟩) s.l.length cp) s.l.length (Ec.lI s.l) 3 1, .cel b19 #[vI (c k), vI (A k), vI (B k)] 75]) 0 hH121 rfl rfl rfl rfl rfl rfl sz116 rfl (Nat.le_of_ble_eq_true rfl) rfl rfl ?_
                    intro w123 hH124
                    refine WL.nil ?_
                    refine WQ.then ?_
                    refine hK122 _ _ _ ?_
                    refine WC.ret ?_
                    refine WQ.thenRet ?_
                    refine WQ.inRet ?_
                    refine WQ.inRet ?_
                    refine WQ.thenRet ?_
                    refine WQ.thenRet ?_
                    refine WQ.inRet ?_
                    refine WQ.thenRet ?_
                    refine WQ.retC 2 116 rfl rfl (HP.loadRow hH124 0 rfl Try.underlying116 rfl sz116) ?_
                    have hOK : okS c n = false := shp_bad hs (stp_end_try hA h35 hx h33 (show upI s.e k (-1) x < 0 by omega)) (by omega)
                    refine ⟨g0, g1, g2, g3, (s.m : Int), ⟨[], (Ec.lay k s).o, (upI s.e k (-1)), (upI s.d k (-1)), (upI (upI s.t k (s.l.length : Int)) k ((s.l.length : Int) - 1)), 0⟩, by rw [hOK], ?_, ?_⟩
                    · exact HP.drop (HP.drop (HP.drop (HP.drop hH124 7) 6) 5) 0
                    · intro hq; rw [hOK] at hq; cases hq
                  ·
                    refine WL.pure (v := .bool false) 145 rfl (Nat.le_of_ble_eq_true rfl) rfl rfl (x_lss rfl rfl rfl (dF (he))) ?_
                    refine WL.pure (v := .bool false) 146 rfl (Nat.le_of_ble_eq_true rfl) rfl rfl (by kernel_rfl) ?_
                    refine WL.nil ?_
                    refine WQ.then ?_
                    refine hK118 _ _ _ ?_
                    refine WC.sub (l' := [(0, .slice (some ⟨bb, oo, none⟩) n cap), (2, vP b1 0), (3, vI (n : Int)), (4, vP b 0), (5, vS g s.l.length cp), (6, vI (k : Int)), (7, vP b19 0), (8, vI (x : Int)), (9, .bool true), (21, .slice (some ⟨bb, oo, none⟩) n cap), (22, vI (n : Int)), (23, vI (k : Int)), (24, .bool true), (59, .bool (opn (c k))), (73, .bool true), (84, .bool false), (115, .bool false), (146, .bool false)]) ⟨rfl, rfl, rfl, rfl, rfl, rfl, rfl, rfl, rfl, rfl, rfl, rfl, rfl, rfl, rfl, rfl, rfl, rfl, trivial⟩ ?_
                    refine WC.no rfl ?_
                    refine WC.skip ?_
                    refine WQ.then ?_
                    refine hK117 _ _ _ ?_
                    refine WC.seq fun K125 hK125 => ?_
                    refine WC.region ?_
                    refine WL.pure (v := vP b 2) 149 rfl (Nat.le_of_ble_eq_true rfl) rfl rfl (by kernel_rfl) ?_
                    refine WL.pure (v := vS g2 n n) 150 rfl (Nat.le_of_ble_eq_true rfl) rfl rfl (x_load rfl rfl Try.underlying33 rfl (HP.cell hH104 5 rfl rfl)) ?_
                    refine WL.pure (v := vI (x : Int)) 151 rfl (Nat.le_of_ble_eq_true rfl) rfl rfl (by kernel_rfl) ?_
                    refine WL.pure (v := vI (k : Int)) 152 rfl (Nat.le_of_ble_eq_true rfl) rfl rfl (by kernel_rfl) ?_
                    refine WL.pure (v := vP g2 x) 153 rfl (Nat.le_of_ble_eq_true rfl) rfl rfl (x_idx (x) (x) rfl rfl rfl Try.underlying33 sz3 (by omega) (by omega) (by omega)) ?_
                    refine WL.store (H2 := [.cel b1 #[.slice none 0 0, .slice none 0 0, .slice none 0 0, .slice none 0 0, .int .i64 0, .bool false] 116, .cel g0 (irow n (Ec.lay k s).o) 3, .cel g1 (irow n (upI s.e k (-1))) 3, .cel g2 (irow n (upI (upI s.d k (-1)) x (k : Int))) 3, .cel g3 (irow n (upI (upI s.t k (s.l.length : Int)) k ((s.l.length : Int) - 1))) 3, .cel b #[.slice (some ⟨g0, 0, none⟩) n n, .slice (some ⟨g1, 0, none⟩) n n, .slice (some ⟨g2, 0, none⟩) n n, .slice (some ⟨g3, 0, none⟩) n n, .int .i64 (s.m : Int), .bool true] 116, .own (.slice (some ⟨g, 0, none⟩) s.l.length cp) s.l.length (Ec.lI s.l) 3 1, .cel b19 #[vI (c k), vI (A k), vI (B k)] 75]) 3 hH104 rfl rfl rfl rfl rfl rfl sz3 rfl (by simp [size_irow]; omega) (irow_set _ _ _ _) rfl ?_
                    intro w126 hH127
                    refine WL.nil ?_
                    refine WQ.then ?_
                    refine hK125 _ _ _ ?_
                    refine WC.region ?_
                    refine WL.pure (v := vS g s.l.length cp) 154 rfl (Nat.le_of_ble_eq_true rfl) rfl rfl (by kernel_rfl) ?_
                    refine WL.pure (v := vS g s.l.length cp) 155 rfl (Nat.le_of_ble_eq_true rfl) rfl rfl (by kernel_rfl) ?_
                    refine WL.pure (v := vI (s.l.length : Int)) 156 rfl (Nat.le_of_ble_eq_true rfl) rfl rfl (by kernel_rfl) ?_
                    refine WL.pure (v := vI ((s.l.length - 1 : Nat) : Int)) 157 rfl (Nat.le_of_ble_eq_true rfl) rfl rfl (x_sub (Z := ((s.l.length - 1 : Nat) : Int)) rfl rfl rfl (by omega) (by omega) (by omega)) ?_
                    refine WL.pure (v := vS g (s.l.length - 1) cp) 158 rfl (Nat.le_of_ble_eq_true rfl) rfl rfl (x_sliceH (s.l.length - 1) rfl rfl rfl Try.underlying33 rfl (by omega) sz3) ?_
                    have hH128 : HP Tr w _ [.cel b1 #[.slice none 0 0, .slice none 0 0, .slice none 0 0, .slice none 0 0, .int .i64 0, .bool false] 116, .cel g0 (irow n (Ec.lay k s).o) 3, .cel g1 (irow n (upI s.e k (-1))) 3, .cel g2 (irow n (upI (upI s.d k (-1)) x (k : Int))) 3, .cel g3 (irow n (upI (upI s.t k (s.l.length : Int)) k ((s.l.length : Int) - 1))) 3, .cel b #[.slice (some ⟨g0, 0, none⟩) n n, .slice (some ⟨g1, 0, none⟩) n n, .slice (some ⟨g2, 0, none⟩) n n, .slice (some ⟨g3, 0, none⟩) n n, .int .i64 (s.m : Int), .bool true] 116, .own (.slice (some ⟨g, 0, none⟩) (s.l.length - 1) cp) (s.l.length - 1) (Ec.lI s.l.dropLast) 3 1, .cel b19 #[vI (c k), vI (A k), vI (B k)] 75] := HP.repl hH127 6 rfl (own_pop (HP.get hH127 6 rfl) (by simp)) rfl
                    refine WL.pure (v := vS g (s.l.length - 1) cp) 5 rfl (Nat.le_of_ble_eq_true rfl) rfl rfl (by kernel_rfl) ?_
                    refine WL.nil ?_
                    refine WQ.inNormal ?_
                    refine WQ.inNormal ?_
                    refine WQ.then ?_
                    refine hK17 _ _ _ ?_
                    refine WC.sub (l' := [(0, .slice (some ⟨bb, oo, none⟩) n cap), (2, vP b1 0), (3, vI (n : Int)), (4, vP b 0), (5, vS g (s.l.length - 1) cp), (6, vI (k : Int)), (7, vP b19 0), (8, vI (x : Int)), (9, .bool true), (21, .slice (some ⟨bb, oo, none⟩) n cap), (22, vI (n : Int)), (23, vI (k : Int)), (24, .bool true), (59, .bool (opn (c k))), (73, .bool true), (84, .bool false), (115, .bool false), (146, .bool false)]) ⟨rfl, rfl, rfl, rfl, rfl, rfl, rfl, rfl, rfl, rfl, rfl, rfl, rfl, rfl, rfl, rfl, rfl, rfl, trivial⟩ ?_
                    refine WC.region ?_
                    refine WL.pure (v := vI ((k + 1 : Nat) : Int)) 159 rfl (Nat.le_of_ble_eq_true rfl) rfl rfl (x_add (Z := ((k + 1 : Nat) : Int)) rfl rfl rfl (by omega) (by omega) (by omega)) ?_
                    refine WL.pure (v := vI ((k + 1 : Nat) : Int)) 23 rfl (Nat.le_of_ble_eq_true rfl) rfl rfl (by kernel_rfl) ?_
                    refine WL.nil ?_
                    obtain ⟨s1, hs1⟩ : ∃ s1 : Sh, s1 = ⟨s.l.dropLast, (Ec.lay k s).o, (upI s.e k (-1)), (upI (upI s.d k (-1)) x (k : Int)), (upI (upI s.t k (s.l.length : Int)) k ((s.l.length : Int) - 1)), s.m⟩ := ⟨_, rfl⟩
                    have hsN : shp c (k + 1) = some s1 := by
                      rw [hs1]
                      exact shp_step hs (stp_end_ok hA h35 hx (show ¬ (c x = 33 ∧ upI s.e k (-1) x < 0) by omega))
                    have el : s1.l.length = s.l.length - 1 := by rw [hs1]; simp
                    have eI : Ec.lI s1.l = Ec.lI s.l.dropLast := by rw [hs1]
                    have hN := HP.eq (H' := [.cel b1 #[.slice none 0 0, .slice none 0 0, .slice none 0 0, .slice none 0 0, .int .i64 0, .bool false] 116, .cel g0 (irow n s1.o) 3, .cel g1 (irow n s1.e) 3, .cel g2 (irow n s1.d) 3, .cel g3 (irow n s1.t) 3, .cel b #[.slice (some ⟨g0, 0, none⟩) n n, .slice (some ⟨g1, 0, none⟩) n n, .slice (some ⟨g2, 0, none⟩) n n, .slice (some ⟨g3, 0, none⟩) n n, .int .i64 (s1.m : Int), .bool true] 116, .own (vS g (s.l.length - 1) cp) s1.l.length (Ec.lI s1.l) 3 1]) (HP.drop hH128 7) (by rw [el, eI]; subst hs1; rfl)
                    refine WQ.sub (l' := [(0, .slice (some ⟨bb, oo, none⟩) n cap), (2, vP b1 0), (3, vI (n : Int)), (4, vP b 0), (5, vS g (s.l.length - 1) cp), (21, .slice (some ⟨bb, oo, none⟩) n cap), (22, vI (n : Int)), (23, vI ((k + 1 : Nat) : Int))]) ⟨rfl, rfl, rfl, rfl, rfl, rfl, rfl, rfl, trivial⟩ ?_
                    refine WQ.then (hK12 _ _ _ (by omega) ⟨k + 1, s1, vS g (s.l.length - 1) cp, rfl, rfl, by omega, hsN, hN⟩)
                ·
                  refine WL.pure (v := .bool false) 111 rfl (Nat.le_of_ble_eq_true rfl) rfl rfl (x_eql rfl rfl rfl (dF (h33))) ?_
                  refine WL.pure (v := .bool false) 112 rfl (Nat.le_of_ble_eq_true rfl) rfl rfl (by kernel_rfl) ?_
                  refine WL.pure (v := .bool false) 9 rfl (Nat.le_of_ble_eq_true rfl) rfl rfl (by kernel_rfl) ?_
                  refine WL.nil ?_
                  refine WQ.then ?_
                  refine hK106 _ _ _ ?_
                  refine WC.sub (l' := [(0, .slice (some ⟨bb, oo, none⟩) n cap), (2, vP b1 0), (3, vI (n : Int)), (4, vP b 0), (5, vS g s.l.length cp), (6, vI (k : Int)), (7, vP b19 0), (8, vI (x : Int)), (9, .bool false), (21, .slice (some ⟨bb, oo, none⟩) n cap), (22, vI (n : Int)), (23, vI (k : Int)), (24, .bool true), (59, .bool (opn (c k))), (73, .bool true), (84, .bool false)]) ⟨rfl, rfl, rfl, rfl, rfl, rfl, rfl, rfl, rfl, rfl, rfl, rfl, rfl, rfl, rfl, rfl, trivial⟩ ?_
                  refine WC.seq fun K129 hK129 => ?_
                  refine WC.seq fun K130 hK130 => ?_
                  refine WC.region ?_
                  refine WL.pure (v := vP b19 0) 113 rfl (Nat.le_of_ble_eq_true rfl) rfl rfl (by kernel_rfl) ?_
                  refine WL.pure (v := vI (c k)) 114 rfl (Nat.le_of_ble_eq_true rfl) rfl rfl (x_load rfl rfl Try.underlying3 rfl (HP.cell hH104 7 rfl rfl)) ?_
                  refine WL.pure (v := .bool false) 115 rfl (Nat.le_of_ble_eq_true rfl) rfl rfl (x_eql rfl rfl rfl (dF (by omega))) ?_
                  refine WL.nil ?_
                  refine WQ.then ?_
                  refine hK130 _ _ _ ?_
                  refine WC.no rfl ?_
                  refine WC.skip ?_
                  refine WQ.then ?_
                  refine hK129 _ _ _ ?_
                  refine WC.seq fun K131 hK131 => ?_
                  refine WC.seq fun K132 hK132 => ?_
                  refine WC.region ?_
                  refine WL.pure (v := .slice (some ⟨bb, oo, none⟩) n cap) 133 rfl (Nat.le_of_ble_eq_true rfl) rfl rfl (by kernel_rfl) ?_
                  refine WL.pure (v := vI (x : Int)) 134 rfl (Nat.le_of_ble_eq_true rfl) rfl rfl (by kernel_rfl) ?_
                  refine WL.pure (v := vP bb (oo + x * 3)) 135 rfl (Nat.le_of_ble_eq_true rfl) rfl rfl (x_idx (x) (oo + x * 3) rfl rfl rfl Try.underlying42 sz75 (by omega) (by omega) (by omega)) ?_
                  refine WL.pure (v := vP bb (oo + x * 3)) 136 rfl (Nat.le_of_ble_eq_true rfl) rfl rfl (by kernel_rfl) ?_
                  refine WL.pure (v := vI (c x)) 137 rfl (Nat.le_of_ble_eq_true rfl) rfl rfl (x_load rfl rfl Try.underlying3 rfl ((HP.oldRange hH104 trivial (hrow x (by omega))) 0 _ rfl)) ?_
                  refine WL.pure (v := .bool false) 138 rfl (Nat.le_of_ble_eq_true rfl) rfl rfl (x_eql rfl rfl rfl (dF (by omega))) ?_
                  refine WL.pure (v := .bool false) 139 rfl (Nat.le_of_ble_eq_true rfl) rfl rfl (by kernel_rfl) ?_
                  refine WL.pass 140 rfl (by decide) rfl ?_
                  refine WL.pass 141 rfl (by decide) rfl ?_
                  refine WL.pass 142 rfl (by decide) rfl ?_
                  refine WL.pass 143 rfl (by decide) rfl ?_
                  refine WL.pass 144 rfl (by decide) rfl ?_
                  refine WL.pass 145 rfl (by decide) rfl ?_
                  refine WL.pure (v := .bool false) 146 rfl (Nat.le_of_ble_eq_true rfl) rfl rfl (by kernel_rfl) ?_
                  refine WL.nil ?_
                  refine WQ.then ?_
                  refine hK132 _ _ _ ?_
                  refine WC.sub (l' := [(0, .slice (some ⟨bb, oo, none⟩) n cap), (2, vP b1 0), (3, vI (n : Int)), (4, vP b 0), (5, vS g s.l.length cp), (6, vI (k : Int)), (7, vP b19 0), (8, vI (x : Int)), (9, .bool false), (21, .slice (some ⟨bb, oo, none⟩) n cap), (22, vI (n : Int)), (23, vI (k : Int)), (24, .bool true), (59, .bool (opn (c k))), (73, .bool true), (84, .bool false), (115, .bool false), (146, .bool false)]) ⟨rfl, rfl, rfl, rfl, rfl, rfl, rfl, rfl, rfl, rfl, rfl, rfl, rfl, rfl, rfl, rfl, rfl, rfl, trivial⟩ ?_
                  refine WC.no rfl ?_
                  refine WC.skip ?_
                  refine WQ.then ?_
                  refine hK131 _ _ _ ?_
                  refine WC.seq fun K133 hK133 => ?_
                  refine WC.region ?_
                  refine WL.pure (v := vP b 2) 149 rfl (Nat.le_of_ble_eq_true rfl) rfl rfl (by kernel_rfl) ?_
                  refine WL.pure (v := vS g2 n n) 150 rfl (Nat.le_of_ble_eq_true rfl) rfl rfl (x_load rfl rfl Try.underlying33 rfl (HP.cell hH104 5 rfl rfl)) ?_
                  refine WL.pure (v := vI (x : Int)) 151 rfl (Nat.le_of_ble_eq_true rfl) rfl rfl (by kernel_rfl) ?_
                  refine WL.pure (v := vI (k : Int)) 152 rfl (Nat.le_of_ble_eq_true rfl) rfl rfl (by kernel_rfl) ?_
                  refine WL.pure (v := vP g2 x) 153 rfl (Nat.le_of_ble_eq_true rfl) rfl rfl (x_idx (x) (x) rfl rfl rfl Try.underlying33 sz3 (by omega) (by omega) (by omega)) ?_
                  refine WL.store (H2 := [.cel b1 #[.slice none 0 0, .slice none 0 0, .slice none 0 0, .slice none 0 0, .int .i64 0, .bool false] 116, .cel g0 (irow n (Ec.lay k s).o) 3, .cel g1 (irow n (upI s.e k (-1))) 3, .cel g2 (irow n (upI (upI s.d k (-1)) x (k : Int))) 3, .cel g3 (irow n (upI (upI s.t k (s.l.length : Int)) k ((s.l.length : Int) - 1))) 3, .cel b #[.slice (some ⟨g0, 0, none⟩) n n, .slice (some ⟨g1, 0, none⟩) n n, .slice (some ⟨g2, 0, none⟩) n n, .slice (some ⟨g3, 0, none⟩) n n, .int .i64 (s.m : Int), .bool true] 116, .own (.slice (some ⟨g, 0, none⟩) s.l.length cp) s.l.length (Ec.lI s.l) 3 1, .cel b19 #[vI (c k), vI (A k), vI (B k)] 75]) 3 hH104 rfl rfl rfl rfl rfl rfl sz3 rfl (by simp [size_irow]; omega) (irow_set _ _ _ _) rfl ?_
                  intro w134 hH135
                  refine WL.nil ?_
                  refine WQ.then ?_
                  refine hK133 _ _ _ ?_
                  refine WC.region ?_
                  refine WL.pure (v := vS g s.l.length cp) 154 rfl (Nat.le_of_ble_eq_true rfl) rfl rfl (by kernel_rfl) ?_
                  refine WL.pure (v := vS g s.l.length cp) 155 rfl (Nat.le_of_ble_eq_true rfl) rfl rfl (by kernel_rfl) ?_
                  refine WL.pure (v := vI (s.l.length : Int)) 156 rfl (Nat.le_of_ble_eq_true rfl) rfl rfl (by kernel_rfl) ?_
                  refine WL.pure (v := vI ((s.l.length - 1 : Nat) : Int)) 157 rfl (Nat.le_of_ble_eq_true rfl) rfl rfl (x_sub (Z := ((s.l.length - 1 : Nat) : Int)) rfl rfl rfl (by omega) (by omega) (by omega)) ?_
                  refine WL.pure (v := vS g (s.l.length - 1) cp) 158 rfl (Nat.le_of_ble_eq_true rfl) rfl rfl (x_sliceH (s.l.length - 1) rfl rfl rfl Try.underlying33 rfl (by omega) sz3) ?_
                  have hH136 : HP Tr w _ [.cel b1 #[.slice none 0 0, .slice none 0 0, .slice none 0 0, .slice none 0 0, .int .i64 0, .bool false] 116, .cel g0 (irow n (Ec.lay k s).o) 3, .cel g1 (irow n (upI s.e k (-1))) 3, .cel g2 (irow n (upI (upI s.d k (-1)) x (k : Int))) 3, .cel g3 (irow n (upI (upI s.t k (s.l.length : Int)) k ((s.l.length : Int) - 1))) 3, .cel b #[.slice (some ⟨g0, 0, none⟩) n n, .slice (some ⟨g1, 0, none⟩) n n, .slice (some ⟨g2, 0, none⟩) n n, .slice (some ⟨g3, 0, none⟩) n n, .int .i64 (s.m : Int), .bool true] 116, .own (.slice (some ⟨g, 0, none⟩) (s.l.length - 1) cp) (s.l.length - 1) (Ec.lI s.l.dropLast) 3 1, .cel b19 #[vI (c k), vI (A k), vI (B k)] 75] := HP.repl hH135 6 rfl (own_pop (HP.get hH135 6 rfl) (by simp)) rfl
                  refine WL.pure (v := vS g (s.l.length - 1) cp) 5 rfl (Nat.le_of_ble_eq_true rfl) rfl rfl (by kernel_rfl) ?_
                  refine WL.nil ?_
                  refine WQ.inNormal ?_
                  refine WQ.inNormal ?_
                  refine WQ.then ?_
                  refine hK17 _ _ _ ?_
                  refine WC.sub (l' := [(0, .slice (some ⟨bb, oo, none⟩) n cap), (2, vP b1 0), (3, vI (n : Int)), (4, vP b 0), (5, vS g (s.l.length - 1) cp), (6, vI (k : Int)), (7, vP b19 0), (8, vI (x : Int)), (9, .bool false), (21, .slice (some ⟨bb, oo, none⟩) n cap), (22, vI (n : Int)), (23, vI (k : Int)), (24, .bool true), (59, .bool (opn (c k))), (73, .bool true), (84, .bool false), (115, .bool false), (146, .bool false)]) ⟨rfl, rfl, rfl, rfl, rfl, rfl, rfl, rfl, rfl, rfl, rfl, rfl, rfl, rfl, rfl, rfl, rfl, rfl, trivial⟩ ?_
                  refine WC.region ?_
                  refine WL.pure (v := vI ((k + 1 : Nat) : Int)) 159 rfl (Nat.le_of_ble_eq_true rfl) rfl rfl (x_add (Z := ((k + 1 : Nat) : Int)) rfl rfl rfl (by omega) (by omega) (by omega)) ?_
                  refine WL.pure (v := vI ((k + 1 : Nat) : Int)) 23 rfl (Nat.le_of_ble_eq_true rfl) rfl rfl (by kernel_rfl) ?_
                  refine WL.nil ?_
                  obtain ⟨s1, hs1⟩ : ∃ s1 : Sh, s1 = ⟨s.l.dropLast, (Ec.lay k s).o, (upI s.e k (-1)), (upI (upI s.d k (-1)) x (k : Int)), (upI (upI s.t k (s.l.length : Int)) k ((s.l.length : Int) - 1)), s.m⟩ := ⟨_, rfl⟩
                  have hsN : shp c (k + 1) = some s1 := by
                    rw [hs1]
                    exact shp_step hs (stp_end_ok hA h35 hx (show ¬ (c x = 33 ∧ upI s.e k (-1) x < 0) by omega))
                  have el : s1.l.length = s.l.length - 1 := by rw [hs1]; simp
                  have eI : Ec.lI s1.l = Ec.lI s.l.dropLast := by rw [hs1]
                  have hN := HP.eq (H' := [.cel b1 #[.slice none 0 0, .slice none 0 0, .slice none 0 0, .slice none 0 0, .int .i64 0, .bool false] 116, .cel g0 (irow n s1.o) 3, .cel g1 (irow n s1.e) 3, .cel g2 (irow n s1.d) 3, .cel g3 (irow n s1.t) 3, .cel b #[.slice (some ⟨g0, 0, none⟩) n n, .slice (some ⟨g1, 0, none⟩) n n, .slice (some ⟨g2, 0, none⟩) n n, .slice (some ⟨g3, 0, none⟩) n n, .int .i64 (s1.m : Int), .bool true] 116, .own (vS g (s.l.length - 1) cp) s1.l.length (Ec.lI s1.l) 3 1]) (HP.drop hH136 7) (by rw [el, eI]; subst hs1; rfl)
                  refine WQ.sub (l' := [(0, .slice (some ⟨bb, oo, none⟩) n cap), (2, vP b1 0), (3, vI (n : Int)), (4, vP b 0), (5, vS g (s.l.length - 1) cp), (21, .slice (some ⟨bb, oo, none⟩) n cap), (22, vI (n : Int)), (23, vI ((k + 1 : Nat) : Int))]) ⟨rfl, rfl, rfl, rfl, rfl, rfl, rfl, rfl, trivial⟩ ?_
                  refine WQ.then (hK12 _ _ _ (by omega) ⟨k + 1, s1, vS g (s.l.length - 1) cp, rfl, rfl, by omega, hsN, hN⟩)
          ·
            refine WL.pure (v := .bool false) 80 rfl (Nat.le_of_ble_eq_true rfl) rfl rfl (x_eql rfl rfl rfl (dF (h35))) ?_
            refine WL.pure (v := .bool false) 81 rfl (Nat.le_of_ble_eq_true rfl) rfl rfl (by kernel_rfl) ?_
            refine WL.pure (v := .bool false) 73 rfl (Nat.le_of_ble_eq_true rfl) rfl rfl (by kernel_rfl) ?_
            refine WL.nil ?_
            refine WQ.then ?_
            refine hK44 _ _ _ ?_
            refine WC.sub (l' := [(0, .slice (some ⟨bb, oo, none⟩) n cap), (2, vP b1 0), (3, vI (n : Int)), (4, vP b 0), (5, .slice pv s.l.length cp), (6, vI (k : Int)), (7, vP b19 0), (21, .slice (some ⟨bb, oo, none⟩) n cap), (22, vI (n : Int)), (23, vI (k : Int)), (24, .bool true), (59, .bool (opn (c k))), (73, .bool false)]) ⟨rfl, rfl, rfl, rfl, rfl, rfl, rfl, rfl, rfl, rfl, rfl, rfl, rfl, trivial⟩ ?_
            refine WC.no rfl ?_
            refine WC.skip ?_
            refine WQ.inNormal ?_
            refine WQ.inNormal ?_
            refine WQ.then ?_
            refine hK17 _ _ _ ?_
            refine WC.region ?_
            refine WL.pure (v := vI ((k + 1 : Nat) : Int)) 159 rfl (Nat.le_of_ble_eq_true rfl) rfl rfl (x_add (Z := ((k + 1 : Nat) : Int)) rfl rfl rfl (by omega) (by omega) (by omega)) ?_
            refine WL.pure (v := vI ((k + 1 : Nat) : Int)) 23 rfl (Nat.le_of_ble_eq_true rfl) rfl rfl (by kernel_rfl) ?_
            refine WL.nil ?_
            obtain ⟨s1, hs1⟩ : ∃ s1 : Sh, s1 = ⟨s.l, (Ec.lay k s).o, (upI s.e k (-1)), (upI s.d k (-1)), (upI s.t k (s.l.length : Int)), s.m⟩ := ⟨_, rfl⟩
            have hsN : shp c (k + 1) = some s1 := by
              rw [hs1]
              exact shp_step hs (stp_other hA h34 h35)
            have el : s1.l.length = s.l.length := by rw [hs1]
            have eI : Ec.lI s1.l = Ec.lI s.l := by rw [hs1]
            have hN := HP.eq (H' := [.cel b1 #[.slice none 0 0, .slice none 0 0, .slice none 0 0, .slice none 0 0, .int .i64 0, .bool false] 116, .cel g0 (irow n s1.o) 3, .cel g1 (irow n s1.e) 3, .cel g2 (irow n s1.d) 3, .cel g3 (irow n s1.t) 3, .cel b #[.slice (some ⟨g0, 0, none⟩) n n, .slice (some ⟨g1, 0, none⟩) n n, .slice (some ⟨g2, 0, none⟩) n n, .slice (some ⟨g3, 0, none⟩) n n, .int .i64 (s1.m : Int), .bool true] 116, .own (.slice pv s.l.length cp) s1.l.length (Ec.lI s1.l) 3 1]) (HP.drop hH32 7) (by rw [el, eI]; subst hs1; rfl)
            refine WQ.sub (l' := [(0, .slice (some ⟨bb, oo, none⟩) n cap), (2, vP b1 0), (3, vI (n : Int)), (4, vP b 0), (5, .slice pv s.l.length cp), (21, .slice (some ⟨bb, oo, none⟩) n cap), (22, vI (n : Int)), (23, vI ((k + 1 : Nat) : Int))]) ⟨rfl, rfl, rfl, rfl, rfl, rfl, rfl, rfl, trivial⟩ ?_
            refine WQ.then (hK12 _ _ _ (by omega) ⟨k + 1, s1, .slice pv s.l.length cp, rfl, rfl, by omega, hsN, hN⟩)
  ·
    refine WL.pure (v := .bool false) 24 rfl (Nat.le_of_ble_eq_true rfl) rfl rfl (x_lss rfl rfl rfl (dF (hlt))) ?_
    refine WL.nil ?_
    refine WQ.then ?_
    refine hK15 _ _ _ ?_
    refine WC.seq fun K137 hK137 => ?_
    refine WC.no rfl ?_
    refine WC.exit ?_
    refine WQ.thenExit ?_
    refine WQ.thenExit ?_
    refine WQ.inExit ?_
    refine WQ.then ?_
    refine hK10 _ _ _ ?_
    refine WC.seq fun K138 hK138 => ?_
    obtain rfl : n = k := by omega
    refine WC.region ?_
    refine WL.pure (v := .slice pv s.l.length cp) 160 rfl (Nat.le_of_ble_eq_true rfl) rfl rfl (by kernel_rfl) ?_
    refine WL.pure (v := vI (s.l.length : Int)) 161 rfl (Nat.le_of_ble_eq_true rfl) rfl rfl (by kernel_rfl) ?_
    by_cases hl : (s.l.length : Int) = 0
    ·
      refine WL.pure (v := .bool true) 162 rfl (Nat.le_of_ble_eq_true rfl) rfl rfl (x_eql rfl rfl rfl (dT (hl))) ?_
      refine WL.pure (v := .bool true) 163 rfl (Nat.le_of_ble_eq_true rfl) rfl rfl (by kernel_rfl) ?_
      refine WL.pure (v := vP b 4) 164 rfl (Nat.le_of_ble_eq_true rfl) rfl rfl (by kernel_rfl) ?_
      refine WL.pure (v := vI (s.m : Int)) 165 rfl (Nat.le_of_ble_eq_true rfl) rfl rfl (x_load rfl rfl Try.underlying3 rfl (HP.cell hH14 5 rfl rfl)) ?_
      by_cases hm : (s.m : Int) ≤ 6
      ·
        refine WL.pure (v := .bool true) 166 rfl (Nat.le_of_ble_eq_true rfl) rfl rfl (x_leq rfl rfl rfl (dT (hm))) ?_
        refine WL.pure (v := .bool true) 167 rfl (Nat.le_of_ble_eq_true rfl) rfl rfl (by kernel_rfl) ?_
        refine WL.pure (v := vP b 5) 168 rfl (Nat.le_of_ble_eq_true rfl) rfl rfl (by kernel_rfl) ?_
        refine WL.store (H2 := [.cel b1 #[.slice none 0 0, .slice none 0 0, .slice none 0 0, .slice none 0 0, .int .i64 0, .bool false] 116, .cel g0 (irow n s.o) 3, .cel g1 (irow n s.e) 3, .cel g2 (irow n s.d) 3, .cel g3 (irow n s.t) 3, .cel b #[.slice (some ⟨g0, 0, none⟩) n n, .slice (some ⟨g1, 0, none⟩) n n, .slice (some ⟨g2, 0, none⟩) n n, .slice (some ⟨g3, 0, none⟩) n n, .int .i64 (s.m : Int), .bool true] 116, .own (.slice pv s.l.length cp) s.l.length (Ec.lI s.l) 3 1]) 5 hH14 rfl rfl rfl rfl rfl rfl sz4 rfl (Nat.le_of_ble_eq_true rfl) rfl rfl ?_
        intro w139 hH140
        refine WL.nil ?_
        refine WQ.then ?_
        refine hK138 _ _ _ ?_
        refine WC.sub (l' := [(0, .slice p n cap), (2, vP b1 0), (3, vI (n : Int)), (4, vP b 0), (5, .slice pv s.l.length cp), (21, .slice p n cap), (22, vI (n : Int)), (23, vI (n : Int)), (24, .bool false)]) ⟨rfl, rfl, rfl, rfl, rfl, rfl, rfl, rfl, rfl, trivial⟩ ?_
        refine WC.seq fun K141 hK141 => ?_
        refine WC.region ?_
        refine WL.pure (v := .agg #[vS g0 n n, vS g1 n n, vS g2 n n, vS g3 n n, vI (s.m : Int), .bool true]) 169 rfl (Nat.le_of_ble_eq_true rfl) rfl rfl (x_loadS (cs := [.slice (some ⟨g0, 0, none⟩) n n, .slice (some ⟨g1, 0, none⟩) n n, .slice (some ⟨g2, 0, none⟩) n n, .slice (some ⟨g3, 0, none⟩) n n, .int .i64 (s.m : Int), .bool true]) rfl rfl Try.underlying116 rfl sz116 (HP.range hH140 5 rfl rfl)) ?_
        refine WL.storeS (H2 := [.cel b1 #[vS g0 n n, vS g1 n n, vS g2 n n, vS g3 n n, vI (s.m : Int), .bool true] 116, .cel g0 (irow n s.o) 3, .cel g1 (irow n s.e) 3, .cel g2 (irow n s.d) 3, .cel g3 (irow n s.t) 3, .cel b #[.slice (some ⟨g0, 0, none⟩) n n, .slice (some ⟨g1, 0, none⟩) n n, .slice (some ⟨g2, 0, none⟩) n n, .slice (some ⟨g3, 0, none⟩) n n, .int .i64 (s.m : Int), .bool true] 116, .own (.slice pv s.l.length cp) s.l.length (Ec.lI s.l) 3 1]) 0 hH140 rfl rfl rfl rfl rfl rfl sz116 rfl (Nat.le_of_ble_eq_true rfl) rfl rfl ?_
        intro w142 hH143
        refine WL.nil ?_
        refine WQ.then ?_
        refine hK141 _ _ _ ?_
        refine WC.ret ?_
        refine WQ.retC 2 116 rfl rfl (HP.loadRow hH143 0 rfl Try.underlying116 rfl sz116) ?_
        have hOK : okS c n = true := okS_yes hs (by omega) (by omega)
        refine ⟨g0, g1, g2, g3, (s.m : Int), s, by rw [hOK], ?_, ?_⟩
        · exact HP.drop (HP.drop (HP.drop hH143 6) 5) 0
        · exact fun _ => ⟨hs, rfl⟩
      ·
        refine WL.pure (v := .bool false) 166 rfl (Nat.le_of_ble_eq_true rfl) rfl rfl (x_leq rfl rfl rfl (dF (hm))) ?_
        refine WL.pure (v := .bool false) 167 rfl (Nat.le_of_ble_eq_true rfl) rfl rfl (by kernel_rfl) ?_
        refine WL.pure (v := vP b 5) 168 rfl (Nat.le_of_ble_eq_true rfl) rfl rfl (by kernel_rfl) ?_
        refine WL.store (H2 := [.cel b1 #[.slice none 0 0, .slice none 0 0, .slice none 0 0, .slice none 0 0, .int .i64 0, .bool false] 116, .cel g0 (irow n s.o) 3, .cel g1 (irow n s.e) 3, .cel g2 (irow n s.d) 3, .cel g3 (irow n s.t) 3, .cel b #[.slice (some ⟨g0, 0, none⟩) n n, .slice (some ⟨g1, 0, none⟩) n n, .slice (some ⟨g2, 0, none⟩) n n, .slice (some ⟨g3, 0, none⟩) n n, .int .i64 (s.m : Int), .bool false] 116, .own (.slice pv s.l.length cp) s.l.length (Ec.lI s.l) 3 1]) 5 hH14 rfl rfl rfl rfl rfl rfl sz4 rfl (Nat.le_of_ble_eq_true rfl) rfl rfl ?_
        intro w144 hH145
        refine WL.nil ?_
        refine WQ.then ?_
        refine hK138 _ _ _ ?_
        refine WC.sub (l' := [(0, .slice p n cap), (2, vP b1 0), (3, vI (n : Int)), (4, vP b 0), (5, .slice pv s.l.length cp), (21, .slice p n cap), (22, vI (n : Int)), (23, vI (n : Int)), (24, .bool false)]) ⟨rfl, rfl, rfl, rfl, rfl, rfl, rfl, rfl, rfl, trivial⟩ ?_
        refine WC.seq fun K146 hK146 => ?_
        refine WC.region ?_
        refine WL.pure (v := .agg #[vS g0 n n, vS g1 n n, vS g2 n n, vS g3 n n, vI (s.m : Int), .bool false]) 169 rfl (Nat.le_of_ble_eq_true rfl) rfl rfl (x_loadS (cs := [.slice (some ⟨g0, 0, none⟩) n n, .slice (some ⟨g1, 0, none⟩) n n, .slice (some ⟨g2, 0, none⟩) n n, .slice (some ⟨g3, 0, none⟩) n n, .int .i64 (s.m : Int), .bool false]) rfl rfl Try.underlying116 rfl sz116 (HP.range hH145 5 rfl rfl)) ?_
        refine WL.storeS (H2 := [.cel b1 #[vS g0 n n, vS g1 n n, vS g2 n n, vS g3 n n, vI (s.m : Int), .bool false] 116, .cel g0 (irow n s.o) 3, .cel g1 (irow n s.e) 3, .cel g2 (irow n s.d) 3, .cel g3 (irow n s.t) 3, .cel b #[.slice (some ⟨g0, 0, none⟩) n n, .slice (some ⟨g1, 0, none⟩) n n, .slice (some ⟨g2, 0, none⟩) n n, .slice (some ⟨g3, 0, none⟩) n n, .int .i64 (s.m : Int), .bool false] 116, .own (.slice pv s.l.length cp) s.l.length (Ec.lI s.l) 3 1]) 0 hH145 rfl rfl rfl rfl rfl rfl sz116 rfl (Nat.le_of_ble_eq_true rfl) rfl rfl ?_
        intro w147 hH148
        refine WL.nil ?_
        refine WQ.then ?_
        refine hK146 _ _ _ ?_
        refine WC.ret ?_
        refine WQ.retC 2 116 rfl rfl (HP.loadRow hH148 0 rfl Try.underlying116 rfl sz116) ?_
        have hOK : okS c n = false := okS_no hs (by omega)
        refine ⟨g0, g1, g2, g3, (s.m : Int), ⟨[], s.o, s.e, s.d, s.t, 0⟩, by rw [hOK], ?_, ?_⟩
        · exact HP.drop (HP.drop (HP.drop hH148 6) 5) 0
        · intro hq; rw [hOK] at hq; cases hq
    ·
      refine WL.pure (v := .bool false) 162 rfl (Nat.le_of_ble_eq_true rfl) rfl rfl (x_eql rfl rfl rfl (dF (hl))) ?_
      refine WL.pure (v := .bool false) 163 rfl (Nat.le_of_ble_eq_true rfl) rfl rfl (by kernel_rfl) ?_
      refine WL.pass 164 rfl (by decide) rfl ?_
      refine WL.pass 165 rfl (by decide) rfl ?_
      refine WL.pass 166 rfl (by decide) rfl ?_
      refine WL.pure (v := .bool false) 167 rfl (Nat.le_of_ble_eq_true rfl) rfl rfl (by kernel_rfl) ?_
      refine WL.pure (v := vP b 5) 168 rfl (Nat.le_of_ble_eq_true rfl) rfl rfl (by kernel_rfl) ?_
      refine WL.store (H2 := [.cel b1 #[.slice none 0 0, .slice none 0 0, .slice none 0 0, .slice none 0 0, .int .i64 0, .bool false] 116, .cel g0 (irow n s.o) 3, .cel g1 (irow n s.e) 3, .cel g2 (irow n s.d) 3, .cel g3 (irow n s.t) 3, .cel b #[.slice (some ⟨g0, 0, none⟩) n n, .slice (some ⟨g1, 0, none⟩) n n, .slice (some ⟨g2, 0, none⟩) n n, .slice (some ⟨g3, 0, none⟩) n n, .int .i64 (s.m : Int), .bool false] 116, .own (.slice pv s.l.length cp) s.l.length (Ec.lI s.l) 3 1]) 5 hH14 rfl rfl rfl rfl rfl rfl sz4 rfl (Nat.le_of_ble_eq_true rfl) rfl rfl ?_
      intro w149 hH150
      refine WL.nil ?_
      refine WQ.then ?_
      refine hK138 _ _ _ ?_
      refine WC.sub (l' := [(0, .slice p n cap), (2, vP b1 0), (3, vI (n : Int)), (4, vP b 0), (5, .slice pv s.l.length cp), (21, .slice p n cap), (22, vI (n : Int)), (23, vI (n : Int)), (24, .bool false)]) ⟨rfl, rfl, rfl, rfl, rfl, rfl, rfl, rfl, rfl, trivial⟩ ?_
      refine WC.seq fun K151 hK151 => ?_
      refine WC.region ?_
      refine WL.pure (v := .agg #[vS g0 n n, vS g1 n n, vS g2 n n, vS g3 n n, vI (s.m : Int), .bool false]) 169 rfl (Nat.le_of_ble_eq_true rfl) rfl rfl (x_loadS (cs := [.slice (some ⟨g0, 0, none⟩) n n, .slice (some ⟨g1, 0, none⟩) n n, .slice (some ⟨g2, 0, none⟩) n n, .slice (some ⟨g3, 0, none⟩) n n, .int .i64 (s.m : Int), .bool false]) rfl rfl Try.underlying116 rfl sz116 (HP.range hH150 5 rfl rfl)) ?_
      refine WL.storeS (H2 := [.cel b1 #[vS g0 n n, vS g1 n n, vS g2 n n, vS g3 n n, vI (s.m : Int), .bool false] 116, .cel g0 (irow n s.o) 3, .cel g1 (irow n s.e) 3, .cel g2 (irow n s.d) 3, .cel g3 (irow n s.t) 3, .cel b #[.slice (some ⟨g0, 0, none⟩) n n, .slice (some ⟨g1, 0, none⟩) n n, .slice (some ⟨g2, 0, none⟩) n n, .slice (some ⟨g3, 0, none⟩) n n, .int .i64 (s.m : Int), .bool false] 116, .own (.slice pv s.l.length cp) s.l.length (Ec.lI s.l) 3 1]) 0 hH150 rfl rfl rfl rfl rfl rfl sz116 rfl (Nat.le_of_ble_eq_true rfl) rfl rfl ?_
      intro w152 hH153
      refine WL.nil ?_
      refine WQ.then ?_
      refine hK151 _ _ _ ?_
      refine WC.ret ?_
      refine WQ.retC 2 116 rfl rfl (HP.loadRow hH153 0 rfl Try.underlying116 rfl sz116) ?_
      have hOK : okS c n = false := okS_no hs (by omega)
      refine ⟨g0, g1, g2, g3, (s.m : Int), ⟨[], s.o, s.e, s.d, s.t, 0⟩, by rw [hOK], ?_, ?_⟩
      · exact HP.drop (HP.drop (HP.drop hH153 6) 5) 0
      · intro hq; rw [hOK] at hq; cases hq
end Ec
end Go.Proofs.Ytmjnakhpekbenaa
namespace Go.Proofs.Ytmjnakhpekbenaa
open Go.RowKit Fw
namespace Ec
/-- are all instructions valid? -/
def allV (c A B : Nat → Int) (pl : Bool) (n : Nat) : Bool := (List.range n).all fun i => vld (c i) (A i) (B i) pl
theorem allV_spec {c A B : Nat → Int} {pl : Bool} {n : Nat} : allV c A B pl n = true ↔ ∀ i, i < n → vld (c i) (A i) (B i) pl = true := by
  unfold allV; rw [List.all_eq_true]; simp
theorem allV_iff {c A B : Nat → Int} {pl : Bool} {n : Nat} {r : Int} (h : r < 0 ↔ ∀ i, i < n → vld (c i) (A i) (B i) pl = true) : decide (0 ≤ r) = !allV c A B pl n := by
  rw [← allV_spec] at h
  cases hv : allV c A B pl n
  · rw [hv] at h
    exact decide_eq_true (by have := fun q => (h.1 q); by_cases hq : r < 0; exact absurd (this hq) Bool.false_ne_true; omega)
  · have := h.2 hv
    exact decide_eq_false (by omega)
/-- the error of a code -/
def chk (c A B : Nat → Int) (pl : Bool) (n : Nat) : Int := if 120 < n then 2 else if (!allV c A B pl n) = true then 1 else if (!okS c n) = true then 7 else 0
theorem chk_ok {c A B : Nat → Int} {pl : Bool} {n : Nat} (h : chk c A B pl n = 0) : n ≤ 120 ∧ allV c A B pl n = true ∧ okS c n = true := by
  unfold chk at h
  by_cases h1 : 120 < n
  · rw [if_pos h1] at h; omega
  · rw [if_neg h1] at h
    cases h2 : allV c A B pl n
    · rw [h2] at h; simp at h
    · cases h3 : okS c n
      · rw [h2, h3] at h; simp at h
      · exact ⟨by omega, rfl, rfl⟩
/-- the error of an index into a code -/
def idE (c A B : Nat → Int) (n : Nat) (at' : Int) : Int := if chk c A B false n = 0 then (if 0 ≤ at' ∧ at' < n then 0 else 1) else chk c A B false n
def IdxR (w : World) (c A B : Nat → Int) (n : Nat) (at' : Int) (e : Ending) (w' : World) : Prop :=
  (∃ er : Int, er ≠ 0 ∧ e = .returned (.tuple #[.agg #[.slice none 0 0, .slice none 0 0, .slice none 0 0, .slice none 0 0, .int .i64 0, .bool false], .int .i64 er]) ∧ idE c A B n at' = er ∧ Below w.heap.size w w') ∨
  (0 ≤ at' ∧ at' < n ∧ idE c A B n at' = 0 ∧ ∃ (g0 g1 g2 g3 : Nat) (s : Sh), e = .returned (.tuple #[.agg #[.slice (some ⟨g0, 0, none⟩) n n, .slice (some ⟨g1, 0, none⟩) n n, .slice (some ⟨g2, 0, none⟩) n n, .slice (some ⟨g3, 0, none⟩) n n, .int .i64 (s.m : Int), .bool true], .int .i64 0]) ∧
    shp c n = some s ∧ HP Tr w w' [.cel g0 (irow n s.o) 3, .cel g1 (irow n s.e) 3, .cel g2 (irow n s.d) 3, .cel g3 (irow n s.t) 3])
def shD (c : Nat → Int) (n : Nat) : Sh := (shp c n).getD ⟨[], fun _ => 0, fun _ => 0, fun _ => 0, fun _ => 0, 0⟩
/-- what Match returns -/
def mtc (c A B : Nat → Int) (n : Nat) (at' : Int) : Value :=
  if idE c A B n at' ≠ 0 then .tuple #[.int .i64 0, .int .i64 0, .int .i64 (idE c A B n at')]
  else if opn (c at'.toNat) = false then .tuple #[.int .i64 0, .int .i64 0, .int .i64 3]
  else .tuple #[.int .i64 ((shD c n).e at'.toNat), .int .i64 ((shD c n).d at'.toNat), .int .i64 0]
theorem mtc_bad {c A B : Nat → Int} {n : Nat} {at' er : Int} (h : er ≠ 0) (hE : idE c A B n at' = er) : mtc c A B n at' = .tuple #[.int .i64 0, .int .i64 0, .int .i64 er] := by
  unfold mtc; rw [if_pos (by rw [hE]; exact h), hE]
theorem mtc_none {c A B : Nat → Int} {n k : Nat} (hE : idE c A B n (k : Int) = 0) (hO : opn (c k) = false) : mtc c A B n (k : Int) = .tuple #[.int .i64 0, .int .i64 0, .int .i64 3] := by
  unfold mtc; rw [if_neg (by rw [hE]; simp), if_pos (by simpa using hO)]
theorem mtc_ok {c A B : Nat → Int} {n k : Nat} {s : Sh} (hE : idE c A B n (k : Int) = 0) (hO : opn (c k) = true) (hs : shp c n = some s) : mtc c A B n (k : Int) = .tuple #[.int .i64 (s.e k), .int .i64 (s.d k), .int .i64 0] := by
  unfold mtc; rw [if_neg (by rw [hE]; simp), if_neg (by simp [hO])]; unfold shD; rw [hs]; simp
set_option maxRecDepth 20000 in
set_option maxHeartbeats 4000000 in
theorem chk1_any (op a b : Int) (pl : Bool) (q : Nat) (w : World) (hq : w.cell? ⟨q, 0, none⟩ = some (.bool pl)) :
    Calls Try.prog 116 #[.agg #[vI op, vI a, vI b], vP q 0] w fun e w' => e = .returned (.bool (!vld op a b pl)) ∧ Below w.heap.size w w' := by
  refine calls_of Try.func116 rfl (m := 8) rfl [(0, .agg #[vI op, vI a, vI b]), (1, vP q 0)] (Fr_enter [.agg #[vI op, vI a, vI b], vP q 0] 8 (Nat.le_of_ble_eq_true rfl)) ?_
  have hH1 : HP Tr w w [] := HP.refl w
  refine WC.seq fun K2 hK2 => ?_
  refine WC.region ?_
  refine WL.alloc (c := #[vI op, vI a, vI b]) (T := 75) hH1 2 rfl (by decide) rfl rfl (fun b3 => vP b3 0) (by kernel_rfl) (fun b3 w4 hw4 => ?_)
  have hH5 : HP Tr w w4 [.cel b3 #[vI op, vI a, vI b] 75] := hw4.2
  have nb3 := hw4.1
  clear hw4
  refine WL.pure (v := .bool false) 3 rfl (Nat.le_of_ble_eq_true rfl) rfl rfl (by kernel_rfl) ?_
  refine WL.nil ?_
  refine WQ.then ?_
  refine hK2 _ _ _ ?_
  refine WC.seq fun K6 hK6 => ?_
  refine WC.region ?_
  refine WL.pure (v := .agg #[vI op, vI a, vI b]) 4 rfl (Nat.le_of_ble_eq_true rfl) rfl rfl (x_loadS (cs := [vI op, vI a, vI b]) rfl rfl Try.underlying75 rfl sz75 (HP.range hH5 0 rfl rfl)) ?_
  refine WL.pure (v := .bool pl) 5 rfl (Nat.le_of_ble_eq_true rfl) rfl rfl (x_load rfl rfl Try.underlying4 rfl (HP.old hH5 trivial hq)) ?_
  refine WL.call (f := 117) (args := #[.agg #[vI op, vI a, vI b], .bool pl]) 6 rfl (Nat.le_of_ble_eq_true rfl) rfl rfl (by kernel_rfl) ?_
  refine (Valid_any _ _ _ _ _).mono ?_
  rintro e w7 ⟨rfl, hb8⟩
  refine ⟨_, rfl, ?_⟩
  have hH9 : HP Tr w _ [.cel b3 #[vI op, vI a, vI b] 75] := HP.call hH5 hb8
  refine WL.pure (v := .bool (!(vld op a b pl))) 7 rfl (Nat.le_of_ble_eq_true rfl) rfl rfl (by kernel_rfl) ?_
  refine WL.pure (v := .bool (!(vld op a b pl))) 3 rfl (Nat.le_of_ble_eq_true rfl) rfl rfl (by kernel_rfl) ?_
  refine WL.nil ?_
  refine WQ.then ?_
  refine hK6 _ _ _ ?_
  refine WC.sub (l' := [(0, .agg #[vI op, vI a, vI b]), (2, vP b3 0), (3, .bool (!(vld op a b pl)))]) ⟨rfl, rfl, rfl, trivial⟩ ?_
  refine WC.ret ?_
  refine WQ.ret1 3 rfl rfl ?_
  exact ⟨rfl, HP.below hH9⟩
set_option maxRecDepth 20000 in
set_option maxHeartbeats 4000000 in
theorem idx_any (p : Option Addr) (n cap : Nat) (c A B : Nat → Int) (pl : Bool) (q : Nat) (w : World) (hIn : InC w p n c A B) (hn : n ≤ 400) (hq : w.cell? ⟨q, 0, none⟩ = some (.bool pl)) :
    Calls Try.prog 118 #[.slice p n cap, .func (.func 116) #[] #[vP q 0]] w fun e w' => ∃ r : Int, e = .returned (.int .i64 r) ∧ (r < 0 ↔ ∀ i, i < n → vld (c i) (A i) (B i) pl = true) ∧ Below w.heap.size w w' := by
  refine calls_of Try.func118 rfl (m := 19) rfl [(0, .slice p n cap), (1, .func (.func 116) #[] #[vP q 0])] (Fr_enter [.slice p n cap, .func (.func 116) #[] #[vP q 0]] 19 (Nat.le_of_ble_eq_true rfl)) ?_
  have hH1 : HP Tr w w [] := HP.refl w
  refine WC.seq fun K2 hK2 => ?_
  refine WC.region ?_
  refine WL.pure (v := vI 0) 4 rfl (Nat.le_of_ble_eq_true rfl) rfl rfl (by kernel_rfl) ?_
  refine WL.nil ?_
  refine WQ.then ?_
  refine hK2 _ _ _ ?_
  refine WC.seq fun K3 hK3 => ?_
  refine WC.seq fun K4 hK4 => ?_
  refine WC.region ?_
  refine WL.pure (v := .slice p n cap) 6 rfl (Nat.le_of_ble_eq_true rfl) rfl rfl (by kernel_rfl) ?_
  refine WL.pure (v := vI (n : Int)) 7 rfl (Nat.le_of_ble_eq_true rfl) rfl rfl (by kernel_rfl) ?_
  refine WL.pure (v := vI 0) 8 rfl (Nat.le_of_ble_eq_true rfl) rfl rfl (by kernel_rfl) ?_
  refine WL.nil ?_
  refine WQ.then ?_
  refine hK4 _ _ _ ?_
  refine WC.block ?_
  refine WC.loop (fun kk0 ll0 ww0 => ∃ (k : Nat), ll0 = [(0, .slice p n cap), (1, .func (.func 116) #[] #[vP q 0]), (7, vI (n : Int)), (8, vI (k : Int))] ∧ kk0 = n - k ∧ (k ≤ n) ∧ (∀ i, i < k → vld (c i) (A i) (B i) pl = true) ∧ HP Tr w ww0 []) (n) [(0, .slice p n cap), (1, .func (.func 116) #[] #[vP q 0]), (7, vI (n : Int)), (8, vI 0)] ⟨rfl, rfl, rfl, rfl, trivial⟩ ⟨0, rfl, rfl, Nat.zero_le n, fun i hi => absurd hi (Nat.not_lt_zero i), hH1⟩ ?_
  rintro kk l w6 ⟨k, rfl, hkk, hk, hv, hH7⟩ K5 hK5
  refine WC.seq fun K8 hK8 => ?_
  refine WC.region ?_
  by_cases hlt : (k : Int) < (n : Int)
  ·
    refine WL.pure (v := .bool true) 9 rfl (Nat.le_of_ble_eq_true rfl) rfl rfl (x_lss rfl rfl rfl (dT (hlt))) ?_
    refine WL.nil ?_
    refine WQ.then ?_
    refine hK8 _ _ _ ?_
    refine WC.seq fun K9 hK9 => ?_
    refine WC.yes rfl ?_
    refine WC.skip ?_
    refine WQ.then ?_
    refine hK9 _ _ _ ?_
    refine WC.seq fun K10 hK10 => ?_
    refine WC.block ?_
    refine WC.seq fun K11 hK11 => ?_
    refine WC.region ?_
    refine WL.pure (v := vI (k : Int)) 10 rfl (Nat.le_of_ble_eq_true rfl) rfl rfl (by kernel_rfl) ?_
    refine WL.pure (v := vI (k : Int)) 5 rfl (Nat.le_of_ble_eq_true rfl) rfl rfl (by kernel_rfl) ?_
    refine WL.nil ?_
    refine WQ.then ?_
    refine hK11 _ _ _ ?_
    refine WC.seq fun K12 hK12 => ?_
    have hlt' : k < n := by omega
    obtain ⟨bb, oo, rfl, hrow⟩ := hIn (by omega)
    refine WC.region ?_
    refine WL.pure (v := .func (.func 116) #[] #[vP q 0]) 11 rfl (Nat.le_of_ble_eq_true rfl) rfl rfl (by kernel_rfl) ?_
    refine WL.pure (v := .slice (some ⟨bb, oo, none⟩) n cap) 12 rfl (Nat.le_of_ble_eq_true rfl) rfl rfl (by kernel_rfl) ?_
    refine WL.pure (v := vI (k : Int)) 13 rfl (Nat.le_of_ble_eq_true rfl) rfl rfl (by kernel_rfl) ?_
    refine WL.pure (v := vP bb (oo + k * 3)) 14 rfl (Nat.le_of_ble_eq_true rfl) rfl rfl (x_idx (k) (oo + k * 3) rfl rfl rfl Try.underlying42 sz75 (by omega) (by omega) (by omega)) ?_
    refine WL.pure (v := .agg #[vI (c k), vI (A k), vI (B k)]) 15 rfl (Nat.le_of_ble_eq_true rfl) rfl rfl (x_loadS (cs := [vI (c k), vI (A k), vI (B k)]) rfl rfl Try.underlying75 rfl sz75 (HP.oldRange hH7 trivial (hrow k (by omega)))) ?_
    refine WL.call (f := 116) (args := #[.agg #[vI (c k), vI (A k), vI (B k)], vP q 0]) 16 rfl (Nat.le_of_ble_eq_true rfl) rfl rfl (by kernel_rfl) ?_
    refine (chk1_any _ _ _ pl q _ (HP.old hH7 trivial hq)).mono ?_
    rintro e w13 ⟨rfl, hb14⟩
    refine ⟨_, rfl, ?_⟩
    have hH15 : HP Tr w _ [] := HP.call hH7 hb14
    refine WL.nil ?_
    refine WQ.then ?_
    refine hK12 _ _ _ ?_
    refine WC.sub (l' := [(0, .slice (some ⟨bb, oo, none⟩) n cap), (1, .func (.func 116) #[] #[vP q 0]), (5, vI (k : Int)), (7, vI (n : Int)), (8, vI (k : Int)), (9, .bool true), (16, .bool (!vld (c k) (A k) (B k) pl))]) ⟨rfl, rfl, rfl, rfl, rfl, rfl, rfl, trivial⟩ ?_
    rcases Bool.eq_false_or_eq_true (vld (c k) (A k) (B k) pl) with hA | hA
    ·
      refine WC.no (congrArg (fun b => some (Value.bool (!b))) hA) ?_
      refine WC.skip ?_
      refine WQ.inNormal ?_
      refine WQ.then ?_
      refine hK10 _ _ _ ?_
      refine WC.region ?_
      refine WL.pure (v := vI ((k + 1 : Nat) : Int)) 18 rfl (Nat.le_of_ble_eq_true rfl) rfl rfl (x_add (Z := ((k + 1 : Nat) : Int)) rfl rfl rfl (by omega) (by omega) (by omega)) ?_
      refine WL.pure (v := vI ((k + 1 : Nat) : Int)) 8 rfl (Nat.le_of_ble_eq_true rfl) rfl rfl (by kernel_rfl) ?_
      refine WL.nil ?_
      refine WQ.sub (l' := [(0, .slice (some ⟨bb, oo, none⟩) n cap), (1, .func (.func 116) #[] #[vP q 0]), (7, vI (n : Int)), (8, vI ((k + 1 : Nat) : Int))]) ⟨rfl, rfl, rfl, rfl, trivial⟩ ?_
      refine WQ.then (hK5 _ _ _ (by omega) ⟨k + 1, rfl, rfl, by omega, fun i hi => (Nat.lt_succ_iff_lt_or_eq.1 hi).elim (hv i) (fun e => e ▸ hA), hH15⟩)
    ·
      refine WC.yes (congrArg (fun b => some (Value.bool (!b))) hA) ?_
      refine WC.seq fun K16 hK16 => ?_
      refine WC.region ?_
      refine WL.pure (v := vI (k : Int)) 17 rfl (Nat.le_of_ble_eq_true rfl) rfl rfl (by kernel_rfl) ?_
      refine WL.pure (v := vI (k : Int)) 4 rfl (Nat.le_of_ble_eq_true rfl) rfl rfl (by kernel_rfl) ?_
      refine WL.nil ?_
      refine WQ.then ?_
      refine hK16 _ _ _ ?_
      refine WC.ret ?_
      refine WQ.inRet ?_
      refine WQ.thenRet ?_
      refine WQ.thenRet ?_
      refine WQ.inRet ?_
      refine WQ.thenRet ?_
      refine WQ.ret1 4 rfl rfl ?_
      exact ⟨k, rfl, ⟨fun h => absurd h (by omega), fun h => absurd (h k hlt') (by rw [hA]; exact Bool.false_ne_true)⟩, HP.below hH15⟩
  ·
    refine WL.pure (v := .bool false) 9 rfl (Nat.le_of_ble_eq_true rfl) rfl rfl (x_lss rfl rfl rfl (dF (hlt))) ?_
    refine WL.nil ?_
    refine WQ.then ?_
    refine hK8 _ _ _ ?_
    refine WC.seq fun K17 hK17 => ?_
    refine WC.no rfl ?_
    refine WC.exit ?_
    refine WQ.thenExit ?_
    refine WQ.thenExit ?_
    refine WQ.inExit ?_
    refine WQ.then ?_
    refine hK3 _ _ _ ?_
    refine WC.seq fun K18 hK18 => ?_
    refine WC.region ?_
    refine WL.pure (v := vI (-1)) 4 rfl (Nat.le_of_ble_eq_true rfl) rfl rfl (by kernel_rfl) ?_
    refine WL.nil ?_
    refine WQ.then ?_
    refine hK18 _ _ _ ?_
    refine WC.ret ?_
    refine WQ.ret1 4 rfl rfl ?_
    exact ⟨-1, rfl, ⟨fun _ i hi => hv i (by omega), fun _ => by omega⟩, HP.below hH7⟩
set_option maxRecDepth 20000 in
set_option maxHeartbeats 4000000 in
theorem con_any (p : Option Addr) (n cap : Nat) (c A B : Nat → Int) (pl : Bool) (q : Nat) (w : World) (hIn : InC w p n c A B) (hn : n ≤ 400) (hq : w.cell? ⟨q, 0, none⟩ = some (.bool pl)) :
    Calls Try.prog 107 #[.slice p n cap, .func (.func 116) #[] #[vP q 0]] w fun e w' => e = .returned (.bool (!allV c A B pl n)) ∧ Below w.heap.size w w' := by
  refine calls_of Try.func107 rfl (m := 9) rfl [(0, .slice p n cap), (1, .func (.func 116) #[] #[vP q 0])] (Fr_enter [.slice p n cap, .func (.func 116) #[] #[vP q 0]] 9 (Nat.le_of_ble_eq_true rfl)) ?_
  have hH1 : HP Tr w w [] := HP.refl w
  refine WC.seq fun K2 hK2 => ?_
  refine WC.region ?_
  refine WL.pure (v := .bool false) 4 rfl (Nat.le_of_ble_eq_true rfl) rfl rfl (by kernel_rfl) ?_
  refine WL.nil ?_
  refine WQ.then ?_
  refine hK2 _ _ _ ?_
  refine WC.seq fun K3 hK3 => ?_
  refine WC.region ?_
  refine WL.pure (v := .slice p n cap) 5 rfl (Nat.le_of_ble_eq_true rfl) rfl rfl (by kernel_rfl) ?_
  refine WL.pure (v := .func (.func 116) #[] #[vP q 0]) 6 rfl (Nat.le_of_ble_eq_true rfl) rfl rfl (by kernel_rfl) ?_
  refine WL.call (f := 118) (args := #[.slice p n cap, .func (.func 116) #[] #[vP q 0]]) 7 rfl (Nat.le_of_ble_eq_true rfl) rfl rfl (by kernel_rfl) ?_
  refine (idx_any _ _ _ c A B pl q _ (hIn.below (HP.below hH1)) hn (HP.old hH1 trivial hq)).mono ?_
  rintro e w4 ⟨r, rfl, hr, hb5⟩
  refine ⟨_, rfl, ?_⟩
  have hH6 : HP Tr w _ [] := HP.call hH1 hb5
  have hr2 := allV_iff hr
  refine WL.pure (v := .bool (!allV c A B pl n)) 8 rfl (Nat.le_of_ble_eq_true rfl) rfl rfl (x_geq rfl rfl rfl hr2) ?_
  refine WL.pure (v := .bool (!allV c A B pl n)) 4 rfl (Nat.le_of_ble_eq_true rfl) rfl rfl (by kernel_rfl) ?_
  refine WL.nil ?_
  refine WQ.then ?_
  refine hK3 _ _ _ ?_
  refine WC.ret ?_
  refine WQ.ret1 4 rfl rfl ?_
  exact ⟨rfl, HP.below hH6⟩
set_option maxRecDepth 20000 in
set_option maxHeartbeats 4000000 in
theorem Check_any (p : Option Addr) (n cap : Nat) (c A B : Nat → Int) (pl : Bool) (w : World) (hIn : InC w p n c A B) (hn : n ≤ 400) :
    Calls Try.prog 106 #[.slice p n cap, .bool pl] w fun e w' => e = .returned (.int .i64 (chk c A B pl n)) ∧ Below w.heap.size w w' := by
  refine calls_of Try.func106 rfl (m := 18) rfl [(0, .slice p n cap), (1, .bool pl)] (Fr_enter [.slice p n cap, .bool pl] 18 (Nat.le_of_ble_eq_true rfl)) ?_
  have hH1 : HP Tr w w [] := HP.refl w
  refine WC.seq fun K2 hK2 => ?_
  refine WC.region ?_
  refine WL.alloc (c := #[.bool pl]) (T := 4) hH1 3 rfl (by decide) rfl rfl (fun b1 => vP b1 0) (by kernel_rfl) (fun b1 w3 hw3 => ?_)
  have hH4 : HP Tr w w3 [.cel b1 #[.bool pl] 4] := hw3.2
  have nb1 := hw3.1
  clear hw3
  refine WL.pure (v := vI 0) 4 rfl (Nat.le_of_ble_eq_true rfl) rfl rfl (by kernel_rfl) ?_
  refine WL.nil ?_
  refine WQ.then ?_
  refine hK2 _ _ _ ?_
  refine WC.seq fun K5 hK5 => ?_
  refine WC.block ?_
  refine WC.seq fun K6 hK6 => ?_
  refine WC.region ?_
  refine WL.pure (v := .slice p n cap) 6 rfl (Nat.le_of_ble_eq_true rfl) rfl rfl (by kernel_rfl) ?_
  refine WL.pure (v := vI (n : Int)) 7 rfl (Nat.le_of_ble_eq_true rfl) rfl rfl (by kernel_rfl) ?_
  by_cases hl : (120 : Int) < (n : Int)
  ·
    refine WL.pure (v := .bool true) 8 rfl (Nat.le_of_ble_eq_true rfl) rfl rfl (x_gtr rfl rfl rfl (dT (hl))) ?_
    refine WL.pure (v := .bool true) 5 rfl (Nat.le_of_ble_eq_true rfl) rfl rfl (by kernel_rfl) ?_
    refine WL.nil ?_
    refine WQ.then ?_
    refine hK6 _ _ _ ?_
    refine WC.yes rfl ?_
    refine WC.seq fun K7 hK7 => ?_
    refine WC.region ?_
    refine WL.pure (v := vI 2) 4 rfl (Nat.le_of_ble_eq_true rfl) rfl rfl (by kernel_rfl) ?_
    refine WL.nil ?_
    refine WQ.then ?_
    refine hK7 _ _ _ ?_
    refine WC.ret ?_
    refine WQ.inRet ?_
    refine WQ.thenRet ?_
    refine WQ.ret1 4 rfl rfl ?_
    exact ⟨by rw [show chk c A B pl n = 2 by unfold chk; rw [if_pos (by omega)]], HP.below hH4⟩
  ·
    refine WL.pure (v := .bool false) 8 rfl (Nat.le_of_ble_eq_true rfl) rfl rfl (x_gtr rfl rfl rfl (dF (hl))) ?_
    refine WL.pure (v := .bool false) 5 rfl (Nat.le_of_ble_eq_true rfl) rfl rfl (by kernel_rfl) ?_
    refine WL.nil ?_
    refine WQ.then ?_
    refine hK6 _ _ _ ?_
    refine WC.no rfl ?_
    refine WC.seq fun K8 hK8 => ?_
    refine WC.region ?_
    refine WL.pure (v := .slice p n cap) 10 rfl (Nat.le_of_ble_eq_true rfl) rfl rfl (by kernel_rfl) ?_
    refine WL.pure (v := .func (.func 116) #[] #[vP b1 0]) 11 rfl (Nat.le_of_ble_eq_true rfl) rfl rfl (by kernel_rfl) ?_
    refine WL.call (f := 107) (args := #[.slice p n cap, .func (.func 116) #[] #[vP b1 0]]) 12 rfl (Nat.le_of_ble_eq_true rfl) rfl rfl (by kernel_rfl) ?_
    refine (con_any _ _ _ c A B pl b1 _ (hIn.below (HP.below hH4)) hn (HP.cell hH4 0 rfl rfl)).mono ?_
    rintro e w9 ⟨rfl, hb10⟩
    refine ⟨_, rfl, ?_⟩
    have hH11 : HP Tr w _ [.cel b1 #[.bool pl] 4] := HP.call hH4 hb10
    refine WL.pure (v := .bool (!allV c A B pl n)) 9 rfl (Nat.le_of_ble_eq_true rfl) rfl rfl (by kernel_rfl) ?_
    refine WL.nil ?_
    refine WQ.then ?_
    refine hK8 _ _ _ ?_
    refine WC.sub (l' := [(0, .slice p n cap), (1, .bool pl), (3, vP b1 0), (4, vI 0), (5, .bool false), (9, .bool (!allV c A B pl n))]) ⟨rfl, rfl, rfl, rfl, rfl, rfl, trivial⟩ ?_
    rcases Bool.eq_false_or_eq_true (allV c A B pl n) with hA | hA
    ·
      refine WC.no (congrArg (fun b => some (Value.bool (!b))) hA) ?_
      refine WC.seq fun K12 hK12 => ?_
      refine WC.region ?_
      refine WL.pure (v := .slice p n cap) 14 rfl (Nat.le_of_ble_eq_true rfl) rfl rfl (by kernel_rfl) ?_
      refine WL.call (f := 109) (args := #[.slice p n cap]) 15 rfl (Nat.le_of_ble_eq_true rfl) rfl rfl (by kernel_rfl) ?_
      refine (shapeH_any _ _ _ c A B _ (hIn.below (HP.below hH11)) hn).mono ?_
      rintro e w13 ⟨g0, g1, g2, g3, m, s, rfl, hb14, hok⟩
      refine ⟨_, rfl, ?_⟩
      have hH15 : HP Tr w _ [.cel b1 #[.bool pl] 4, .cel g0 (irow n s.o) 3, .cel g1 (irow n s.e) 3, .cel g2 (irow n s.d) 3, .cel g3 (irow n s.t) 3] := HP.trans hH11 hb14
      refine WL.pure (v := .bool (okS c n)) 16 rfl (Nat.le_of_ble_eq_true rfl) rfl rfl (by kernel_rfl) ?_
      refine WL.pure (v := .bool (!(okS c n))) 17 rfl (Nat.le_of_ble_eq_true rfl) rfl rfl (by kernel_rfl) ?_
      refine WL.pure (v := .bool (!(okS c n))) 13 rfl (Nat.le_of_ble_eq_true rfl) rfl rfl (by kernel_rfl) ?_
      refine WL.nil ?_
      refine WQ.then ?_
      refine hK12 _ _ _ ?_
      rcases Bool.eq_false_or_eq_true (okS c n) with hO | hO
      ·
        refine WC.no (congrArg (fun b => some (Value.bool (!b))) hO) ?_
        refine WC.skip ?_
        refine WQ.inNormal ?_
        refine WQ.then ?_
        refine hK5 _ _ _ ?_
        refine WC.seq fun K16 hK16 => ?_
        refine WC.region ?_
        refine WL.pure (v := vI 0) 4 rfl (Nat.le_of_ble_eq_true rfl) rfl rfl (by kernel_rfl) ?_
        refine WL.nil ?_
        refine WQ.then ?_
        refine hK16 _ _ _ ?_
        refine WC.ret ?_
        refine WQ.ret1 4 rfl rfl ?_
        exact ⟨by rw [show chk c A B pl n = 0 by unfold chk; rw [if_neg (by omega), hA, hO]; rfl], HP.below hH15⟩
      ·
        refine WC.yes (congrArg (fun b => some (Value.bool (!b))) hO) ?_
        refine WC.seq fun K17 hK17 => ?_
        refine WC.region ?_
        refine WL.pure (v := vI 7) 4 rfl (Nat.le_of_ble_eq_true rfl) rfl rfl (by kernel_rfl) ?_
        refine WL.nil ?_
        refine WQ.then ?_
        refine hK17 _ _ _ ?_
        refine WC.ret ?_
        refine WQ.inRet ?_
        refine WQ.thenRet ?_
        refine WQ.ret1 4 rfl rfl ?_
        exact ⟨by rw [show chk c A B pl n = 7 by unfold chk; rw [if_neg (by omega), hA, hO]; rfl], HP.below hH15⟩
    ·
      refine WC.yes (congrArg (fun b => some (Value.bool (!b))) hA) ?_
      refine WC.seq fun K18 hK18 => ?_
      refine WC.region ?_
      refine WL.pure (v := vI 1) 4 rfl (Nat.le_of_ble_eq_true rfl) rfl rfl (by kernel_rfl) ?_
      refine WL.nil ?_
      refine WQ.then ?_
      refine hK18 _ _ _ ?_
      refine WC.ret ?_
      refine WQ.inRet ?_
      refine WQ.thenRet ?_
      refine WQ.ret1 4 rfl rfl ?_
      exact ⟨by rw [show chk c A B pl n = 1 by unfold chk; rw [if_neg (by omega), hA]; rfl], HP.below hH11⟩
set_option maxRecDepth 20000 in
set_option maxHeartbeats 4000000 in
theorem indexed_any (p : Option Addr) (n cap : Nat) (c A B : Nat → Int) (at' : Int) (w : World) (hIn : InC w p n c A B) (hn : n ≤ 400) (h1 : -9223372036854775808 ≤ at') (h2 : at' ≤ 9223372036854775807) :
    Calls Try.prog 91 #[.slice p n cap, vI at'] w (IdxR w c A B n at') := by
  refine calls_of Try.func91 rfl (m := 24) rfl [(0, .slice p n cap), (1, vI at')] (Fr_enter [.slice p n cap, vI at'] 24 (Nat.le_of_ble_eq_true rfl)) ?_
  have hH1 : HP Tr w w [] := HP.refl w
  refine WC.seq fun K2 hK2 => ?_
  refine WC.region ?_
  refine WL.alloc (c := #[.slice none 0 0, .slice none 0 0, .slice none 0 0, .slice none 0 0, vI 0, .bool false]) (T := 116) hH1 4 rfl (by decide) rfl rfl (fun b1 => vP b1 0) (by kernel_rfl) (fun b1 w3 hw3 => ?_)
  have hH4 : HP Tr w w3 [.cel b1 #[.slice none 0 0, .slice none 0 0, .slice none 0 0, .slice none 0 0, vI 0, .bool false] 116] := hw3.2
  have nb1 := hw3.1
  clear hw3
  refine WL.pure (v := vI 0) 5 rfl (Nat.le_of_ble_eq_true rfl) rfl rfl (by kernel_rfl) ?_
  refine WL.nil ?_
  refine WQ.then ?_
  refine hK2 _ _ _ ?_
  refine WC.seq fun K5 hK5 => ?_
  refine WC.seq fun K6 hK6 => ?_
  refine WC.region ?_
  refine WL.pure (v := .slice p n cap) 7 rfl (Nat.le_of_ble_eq_true rfl) rfl rfl (by kernel_rfl) ?_
  refine WL.call (f := 106) (args := #[.slice p n cap, .bool false]) 8 rfl (Nat.le_of_ble_eq_true rfl) rfl rfl (by kernel_rfl) ?_
  refine (Check_any _ _ _ c A B false _ (hIn.below (HP.below hH4)) hn).mono ?_
  rintro e w7 ⟨rfl, hb8⟩
  refine ⟨_, rfl, ?_⟩
  have hH9 : HP Tr w _ [.cel b1 #[.slice none 0 0, .slice none 0 0, .slice none 0 0, .slice none 0 0, vI 0, .bool false] 116] := HP.call hH4 hb8
  refine WL.pure (v := vI (chk c A B false n)) 6 rfl (Nat.le_of_ble_eq_true rfl) rfl rfl (by kernel_rfl) ?_
  refine WL.nil ?_
  refine WQ.then ?_
  refine hK6 _ _ _ ?_
  refine WC.seq fun K10 hK10 => ?_
  refine WC.region ?_
  refine WL.pure (v := vI (chk c A B false n)) 9 rfl (Nat.le_of_ble_eq_true rfl) rfl rfl (by kernel_rfl) ?_
  by_cases hc : chk c A B false n ≠ 0
  ·
    refine WL.pure (v := .bool true) 10 rfl (Nat.le_of_ble_eq_true rfl) rfl rfl (x_neq rfl rfl rfl (dT (hc))) ?_
    refine WL.nil ?_
    refine WQ.then ?_
    refine hK10 _ _ _ ?_
    refine WC.yes rfl ?_
    refine WC.seq fun K11 hK11 => ?_
    refine WC.region ?_
    refine WL.pure (v := .agg #[.slice none 0 0, .slice none 0 0, .slice none 0 0, .slice none 0 0, vI 0, .bool false]) 11 rfl (Nat.le_of_ble_eq_true rfl) rfl rfl (by kernel_rfl) ?_
    refine WL.pure (v := vI (chk c A B false n)) 12 rfl (Nat.le_of_ble_eq_true rfl) rfl rfl (by kernel_rfl) ?_
    refine WL.storeS (H2 := [.cel b1 #[.slice none 0 0, .slice none 0 0, .slice none 0 0, .slice none 0 0, vI 0, .bool false] 116]) 0 hH9 rfl rfl rfl rfl rfl rfl sz116 rfl (Nat.le_of_ble_eq_true rfl) rfl rfl ?_
    intro w12 hH13
    refine WL.pure (v := vI (chk c A B false n)) 5 rfl (Nat.le_of_ble_eq_true rfl) rfl rfl (by kernel_rfl) ?_
    refine WL.nil ?_
    refine WQ.then ?_
    refine hK11 _ _ _ ?_
    refine WC.sub (l' := [(0, .slice p n cap), (1, vI at'), (4, vP b1 0), (5, vI (chk c A B false n)), (6, vI (chk c A B false n)), (10, .bool true)]) ⟨rfl, rfl, rfl, rfl, rfl, rfl, trivial⟩ ?_
    refine WC.ret ?_
    refine WQ.thenRet ?_
    refine WQ.retC2 4 116 5 rfl rfl rfl (HP.loadRow hH13 0 rfl Try.underlying116 rfl sz116) ?_
    exact .inl ⟨chk c A B false n, by omega, rfl, by unfold idE; rw [if_neg hc], HP.below hH13⟩
  ·
    refine WL.pure (v := .bool false) 10 rfl (Nat.le_of_ble_eq_true rfl) rfl rfl (x_neq rfl rfl rfl (dF (hc))) ?_
    refine WL.nil ?_
    refine WQ.then ?_
    refine hK10 _ _ _ ?_
    refine WC.no rfl ?_
    refine WC.skip ?_
    refine WQ.then ?_
    refine hK5 _ _ _ ?_
    refine WC.seq fun K14 hK14 => ?_
    refine WC.seq fun K15 hK15 => ?_
    refine WC.region ?_
    refine WL.pure (v := vI at') 13 rfl (Nat.le_of_ble_eq_true rfl) rfl rfl (by kernel_rfl) ?_
    by_cases hlo : at' < 0
    ·
      refine WL.pure (v := .bool true) 14 rfl (Nat.le_of_ble_eq_true rfl) rfl rfl (x_lss rfl rfl rfl (dT (hlo))) ?_
      refine WL.pure (v := .bool true) 15 rfl (Nat.le_of_ble_eq_true rfl) rfl rfl (by kernel_rfl) ?_
      refine WL.pass 16 rfl (by decide) rfl ?_
      refine WL.pass 17 rfl (by decide) rfl ?_
      refine WL.pass 18 rfl (by decide) rfl ?_
      refine WL.pass 19 rfl (by decide) rfl ?_
      refine WL.pure (v := .bool true) 20 rfl (Nat.le_of_ble_eq_true rfl) rfl rfl (by kernel_rfl) ?_
      refine WL.nil ?_
      refine WQ.then ?_
      refine hK15 _ _ _ ?_
      refine WC.sub (l' := [(0, .slice p n cap), (1, vI at'), (4, vP b1 0), (5, vI 0), (6, vI (chk c A B false n)), (10, .bool false), (20, .bool true)]) ⟨rfl, rfl, rfl, rfl, rfl, rfl, rfl, trivial⟩ ?_
      refine WC.yes rfl ?_
      refine WC.seq fun K16 hK16 => ?_
      refine WC.region ?_
      refine WL.pure (v := .agg #[.slice none 0 0, .slice none 0 0, .slice none 0 0, .slice none 0 0, vI 0, .bool false]) 21 rfl (Nat.le_of_ble_eq_true rfl) rfl rfl (by kernel_rfl) ?_
      refine WL.storeS (H2 := [.cel b1 #[.slice none 0 0, .slice none 0 0, .slice none 0 0, .slice none 0 0, vI 0, .bool false] 116]) 0 hH9 rfl rfl rfl rfl rfl rfl sz116 rfl (Nat.le_of_ble_eq_true rfl) rfl rfl ?_
      intro w17 hH18
      refine WL.pure (v := vI 1) 5 rfl (Nat.le_of_ble_eq_true rfl) rfl rfl (by kernel_rfl) ?_
      refine WL.nil ?_
      refine WQ.then ?_
      refine hK16 _ _ _ ?_
      refine WC.ret ?_
      refine WQ.thenRet ?_
      refine WQ.retC2 4 116 5 rfl rfl rfl (HP.loadRow hH18 0 rfl Try.underlying116 rfl sz116) ?_
      exact .inl ⟨1, by omega, rfl, by unfold idE; rw [if_pos (by omega), if_neg (by omega)], HP.below hH18⟩
    ·
      refine WL.pure (v := .bool false) 14 rfl (Nat.le_of_ble_eq_true rfl) rfl rfl (x_lss rfl rfl rfl (dF (hlo))) ?_
      refine WL.pure (v := .bool false) 15 rfl (Nat.le_of_ble_eq_true rfl) rfl rfl (by kernel_rfl) ?_
      refine WL.pure (v := vI at') 16 rfl (Nat.le_of_ble_eq_true rfl) rfl rfl (by kernel_rfl) ?_
      refine WL.pure (v := .slice p n cap) 17 rfl (Nat.le_of_ble_eq_true rfl) rfl rfl (by kernel_rfl) ?_
      refine WL.pure (v := vI (n : Int)) 18 rfl (Nat.le_of_ble_eq_true rfl) rfl rfl (by kernel_rfl) ?_
      by_cases hhi : (n : Int) ≤ at'
      ·
        refine WL.pure (v := .bool true) 19 rfl (Nat.le_of_ble_eq_true rfl) rfl rfl (x_geq rfl rfl rfl (dT (hhi))) ?_
        refine WL.pure (v := .bool true) 20 rfl (Nat.le_of_ble_eq_true rfl) rfl rfl (by kernel_rfl) ?_
        refine WL.nil ?_
        refine WQ.then ?_
        refine hK15 _ _ _ ?_
        refine WC.sub (l' := [(0, .slice p n cap), (1, vI at'), (4, vP b1 0), (5, vI 0), (6, vI (chk c A B false n)), (10, .bool false), (20, .bool true)]) ⟨rfl, rfl, rfl, rfl, rfl, rfl, rfl, trivial⟩ ?_
        refine WC.yes rfl ?_
        refine WC.seq fun K19 hK19 => ?_
        refine WC.region ?_
        refine WL.pure (v := .agg #[.slice none 0 0, .slice none 0 0, .slice none 0 0, .slice none 0 0, vI 0, .bool false]) 21 rfl (Nat.le_of_ble_eq_true rfl) rfl rfl (by kernel_rfl) ?_
        refine WL.storeS (H2 := [.cel b1 #[.slice none 0 0, .slice none 0 0, .slice none 0 0, .slice none 0 0, vI 0, .bool false] 116]) 0 hH9 rfl rfl rfl rfl rfl rfl sz116 rfl (Nat.le_of_ble_eq_true rfl) rfl rfl ?_
        intro w20 hH21
        refine WL.pure (v := vI 1) 5 rfl (Nat.le_of_ble_eq_true rfl) rfl rfl (by kernel_rfl) ?_
        refine WL.nil ?_
        refine WQ.then ?_
        refine hK19 _ _ _ ?_
        refine WC.ret ?_
        refine WQ.thenRet ?_
        refine WQ.retC2 4 116 5 rfl rfl rfl (HP.loadRow hH21 0 rfl Try.underlying116 rfl sz116) ?_
        exact .inl ⟨1, by omega, rfl, by unfold idE; rw [if_pos (by omega), if_neg (by omega)], HP.below hH21⟩
      ·
        refine WL.pure (v := .bool false) 19 rfl (Nat.le_of_ble_eq_true rfl) rfl rfl (x_geq rfl rfl rfl (dF (hhi))) ?_
        refine WL.pure (v := .bool false) 20 rfl (Nat.le_of_ble_eq_true rfl) rfl rfl (by kernel_rfl) ?_
        refine WL.nil ?_
        refine WQ.then ?_
        refine hK15 _ _ _ ?_
        refine WC.sub (l' := [(0, .slice p n cap), (1, vI at'), (4, vP b1 0), (5, vI 0), (6, vI (chk c A B false n)), (10, .bool false), (20, .bool false)]) ⟨rfl, rfl, rfl, rfl, rfl, rfl, rfl, trivial⟩ ?_
        refine WC.no rfl ?_
        refine WC.skip ?_
        refine WQ.then ?_
        refine hK14 _ _ _ ?_
        refine WC.seq fun K22 hK22 => ?_
        refine WC.region ?_
        refine WL.pure (v := .slice p n cap) 22 rfl (Nat.le_of_ble_eq_true rfl) rfl rfl (by kernel_rfl) ?_
        refine WL.call (f := 109) (args := #[.slice p n cap]) 23 rfl (Nat.le_of_ble_eq_true rfl) rfl rfl (by kernel_rfl) ?_
        refine (shapeH_any _ _ _ c A B _ (hIn.below (HP.below hH9)) hn).mono ?_
        rintro e w23 ⟨g0, g1, g2, g3, m, s, rfl, hb24, hok⟩
        refine ⟨_, rfl, ?_⟩
        have hH25 : HP Tr w _ [.cel b1 #[.slice none 0 0, .slice none 0 0, .slice none 0 0, .slice none 0 0, vI 0, .bool false] 116, .cel g0 (irow n s.o) 3, .cel g1 (irow n s.e) 3, .cel g2 (irow n s.d) 3, .cel g3 (irow n s.t) 3] := HP.trans hH9 hb24
        have hok0 := hok
        refine WL.storeS (H2 := [.cel b1 #[vS g0 n n, vS g1 n n, vS g2 n n, vS g3 n n, vI m, .bool (okS c n)] 116, .cel g0 (irow n s.o) 3, .cel g1 (irow n s.e) 3, .cel g2 (irow n s.d) 3, .cel g3 (irow n s.t) 3]) 0 hH25 rfl rfl rfl rfl rfl rfl sz116 rfl (Nat.le_of_ble_eq_true rfl) rfl rfl ?_
        intro w26 hH27
        refine WL.pure (v := vI 0) 5 rfl (Nat.le_of_ble_eq_true rfl) rfl rfl (by kernel_rfl) ?_
        refine WL.nil ?_
        refine WQ.then ?_
        refine hK22 _ _ _ ?_
        refine WC.ret ?_
        refine WQ.retC2 4 116 5 rfl rfl rfl (HP.loadRow hH27 0 rfl Try.underlying116 rfl sz116) ?_
        have hq3 := chk_ok (show chk c A B false n = 0 by omega)
        obtain ⟨hs, rfl⟩ := hok0 hq3.2.2
        rw [hq3.2.2]
        exact .inr ⟨by omega, by omega, by unfold idE; rw [if_pos (by omega), if_pos (by omega)], g0, g1, g2, g3, s, rfl, hs, HP.drop hH27 0⟩
set_option maxRecDepth 20000 in
set_option maxHeartbeats 4000000 in
theorem Match_any (p : Option Addr) (n cap : Nat) (c A B : Nat → Int) (at' : Int) (w : World) (hIn : InC w p n c A B) (hn : n ≤ 400) (h1 : -9223372036854775808 ≤ at') (h2 : at' ≤ 9223372036854775807) :
    Calls Try.prog 75 #[.slice p n cap, vI at'] w fun e w' => e = .returned (mtc c A B n at') ∧ Below w.heap.size w w' := by
  refine calls_of Try.func75 rfl (m := 37) rfl [(0, .slice p n cap), (1, vI at')] (Fr_enter [.slice p n cap, vI at'] 37 (Nat.le_of_ble_eq_true rfl)) ?_
  have hH1 : HP Tr w w [] := HP.refl w
  refine WC.seq fun K2 hK2 => ?_
  refine WC.region ?_
  refine WL.pure (v := vI 0) 4 rfl (Nat.le_of_ble_eq_true rfl) rfl rfl (by kernel_rfl) ?_
  refine WL.pure (v := vI 0) 5 rfl (Nat.le_of_ble_eq_true rfl) rfl rfl (by kernel_rfl) ?_
  refine WL.pure (v := vI 0) 6 rfl (Nat.le_of_ble_eq_true rfl) rfl rfl (by kernel_rfl) ?_
  refine WL.nil ?_
  refine WQ.then ?_
  refine hK2 _ _ _ ?_
  refine WC.seq fun K3 hK3 => ?_
  refine WC.region ?_
  refine WL.pure (v := .slice p n cap) 10 rfl (Nat.le_of_ble_eq_true rfl) rfl rfl (by kernel_rfl) ?_
  refine WL.pure (v := vI at') 11 rfl (Nat.le_of_ble_eq_true rfl) rfl rfl (by kernel_rfl) ?_
  refine WL.call (f := 91) (args := #[.slice p n cap, vI at']) 12 rfl (Nat.le_of_ble_eq_true rfl) rfl rfl (by kernel_rfl) ?_
  refine (indexed_any _ _ _ c A B at' _ (hIn.below (HP.below hH1)) hn h1 h2).mono ?_
  rintro e w1 (⟨er, her, rfl, hE, hb⟩ | ⟨hr0, hr1, hE, g0, g1, g2, g3, s, rfl, hs, hb⟩)
  ·
    refine ⟨_, rfl, ?_⟩
    have hH4 : HP Tr w _ [] := HP.call hH1 hb
    refine WL.pure (v := .tuple #[.agg #[.slice none 0 0, .slice none 0 0, .slice none 0 0, .slice none 0 0, vI 0, .bool false], vI er]) 9 rfl (Nat.le_of_ble_eq_true rfl) rfl rfl (by kernel_rfl) ?_
    refine WL.pure (v := .agg #[.slice none 0 0, .slice none 0 0, .slice none 0 0, .slice none 0 0, vI 0, .bool false]) 13 rfl (Nat.le_of_ble_eq_true rfl) rfl rfl (by kernel_rfl) ?_
    refine WL.pure (v := vI er) 14 rfl (Nat.le_of_ble_eq_true rfl) rfl rfl (by kernel_rfl) ?_
    refine WL.alloc (c := #[.slice none 0 0, .slice none 0 0, .slice none 0 0, .slice none 0 0, vI 0, .bool false]) (T := 116) hH4 7 rfl (by decide) rfl rfl (fun b5 => vP b5 0) (by kernel_rfl) (fun b5 w6 hw6 => ?_)
    have hH7 : HP Tr w w6 [.cel b5 #[.slice none 0 0, .slice none 0 0, .slice none 0 0, .slice none 0 0, vI 0, .bool false] 116] := hw6.2
    have nb5 := hw6.1
    clear hw6
    refine WL.storeS (H2 := [.cel b5 #[.slice none 0 0, .slice none 0 0, .slice none 0 0, .slice none 0 0, vI 0, .bool false] 116]) 0 hH7 rfl rfl rfl rfl rfl rfl sz116 rfl (Nat.le_of_ble_eq_true rfl) rfl rfl ?_
    intro w8 hH9
    refine WL.pure (v := vI er) 8 rfl (Nat.le_of_ble_eq_true rfl) rfl rfl (by kernel_rfl) ?_
    refine WL.nil ?_
    refine WQ.then ?_
    refine hK3 _ _ _ ?_
    refine WC.sub (l' := [(0, .slice p n cap), (1, vI at'), (4, vI 0), (5, vI 0), (6, vI 0), (7, vP b5 0), (8, vI er)]) ⟨rfl, rfl, rfl, rfl, rfl, rfl, rfl, trivial⟩ ?_
    refine WC.seq fun K10 hK10 => ?_
    refine WC.block ?_
    refine WC.seq fun K11 hK11 => ?_
    refine WC.region ?_
    refine WL.pure (v := vI er) 16 rfl (Nat.le_of_ble_eq_true rfl) rfl rfl (by kernel_rfl) ?_
    refine WL.pure (v := .bool true) 17 rfl (Nat.le_of_ble_eq_true rfl) rfl rfl (x_neq rfl rfl rfl (dT (her))) ?_
    refine WL.pure (v := .bool true) 15 rfl (Nat.le_of_ble_eq_true rfl) rfl rfl (by kernel_rfl) ?_
    refine WL.nil ?_
    refine WQ.then ?_
    refine hK11 _ _ _ ?_
    refine WC.yes rfl ?_
    refine WC.seq fun K12 hK12 => ?_
    refine WC.region ?_
    refine WL.pure (v := vI er) 18 rfl (Nat.le_of_ble_eq_true rfl) rfl rfl (by kernel_rfl) ?_
    refine WL.pure (v := vI 0) 4 rfl (Nat.le_of_ble_eq_true rfl) rfl rfl (by kernel_rfl) ?_
    refine WL.pure (v := vI 0) 5 rfl (Nat.le_of_ble_eq_true rfl) rfl rfl (by kernel_rfl) ?_
    refine WL.pure (v := vI er) 6 rfl (Nat.le_of_ble_eq_true rfl) rfl rfl (by kernel_rfl) ?_
    refine WL.nil ?_
    refine WQ.then ?_
    refine hK12 _ _ _ ?_
    refine WC.sub (l' := [(0, .slice p n cap), (1, vI at'), (4, vI 0), (5, vI 0), (6, vI er), (7, vP b5 0), (8, vI er), (15, .bool true)]) ⟨rfl, rfl, rfl, rfl, rfl, rfl, rfl, rfl, trivial⟩ ?_
    refine WC.ret ?_
    refine WQ.inRet ?_
    refine WQ.thenRet ?_
    refine WQ.ret3 4 5 6 rfl rfl rfl rfl ?_
    exact ⟨by rw [mtc_bad her hE], HP.below hH9⟩
  ·
    refine ⟨_, rfl, ?_⟩
    obtain ⟨k, rfl⟩ : ∃ k : Nat, at' = (k : Int) := ⟨at'.toNat, by omega⟩
    have hH13 : HP Tr w _ [.cel g0 (irow n s.o) 3, .cel g1 (irow n s.e) 3, .cel g2 (irow n s.d) 3, .cel g3 (irow n s.t) 3] := HP.trans hH1 hb
    refine WL.pure (v := .tuple #[.agg #[vS g0 n n, vS g1 n n, vS g2 n n, vS g3 n n, vI (s.m : Int), .bool true], vI 0]) 9 rfl (Nat.le_of_ble_eq_true rfl) rfl rfl (by kernel_rfl) ?_
    refine WL.pure (v := .agg #[vS g0 n n, vS g1 n n, vS g2 n n, vS g3 n n, vI (s.m : Int), .bool true]) 13 rfl (Nat.le_of_ble_eq_true rfl) rfl rfl (by kernel_rfl) ?_
    refine WL.pure (v := vI 0) 14 rfl (Nat.le_of_ble_eq_true rfl) rfl rfl (by kernel_rfl) ?_
    refine WL.alloc (c := #[.slice none 0 0, .slice none 0 0, .slice none 0 0, .slice none 0 0, vI 0, .bool false]) (T := 116) hH13 7 rfl (by decide) rfl rfl (fun b14 => vP b14 0) (by kernel_rfl) (fun b14 w15 hw15 => ?_)
    have hH16 : HP Tr w w15 [.cel g0 (irow n s.o) 3, .cel g1 (irow n s.e) 3, .cel g2 (irow n s.d) 3, .cel g3 (irow n s.t) 3, .cel b14 #[.slice none 0 0, .slice none 0 0, .slice none 0 0, .slice none 0 0, vI 0, .bool false] 116] := hw15.2
    have nb14 := hw15.1
    clear hw15
    refine WL.storeS (H2 := [.cel g0 (irow n s.o) 3, .cel g1 (irow n s.e) 3, .cel g2 (irow n s.d) 3, .cel g3 (irow n s.t) 3, .cel b14 #[vS g0 n n, vS g1 n n, vS g2 n n, vS g3 n n, vI (s.m : Int), .bool true] 116]) 4 hH16 rfl rfl rfl rfl rfl rfl sz116 rfl (Nat.le_of_ble_eq_true rfl) rfl rfl ?_
    intro w17 hH18
    refine WL.pure (v := vI 0) 8 rfl (Nat.le_of_ble_eq_true rfl) rfl rfl (by kernel_rfl) ?_
    refine WL.nil ?_
    refine WQ.then ?_
    refine hK3 _ _ _ ?_
    refine WC.sub (l' := [(0, .slice p n cap), (1, vI (k : Int)), (4, vI 0), (5, vI 0), (6, vI 0), (7, vP b14 0), (8, vI 0)]) ⟨rfl, rfl, rfl, rfl, rfl, rfl, rfl, trivial⟩ ?_
    refine WC.seq fun K19 hK19 => ?_
    refine WC.block ?_
    refine WC.seq fun K20 hK20 => ?_
    refine WC.region ?_
    refine WL.pure (v := vI 0) 16 rfl (Nat.le_of_ble_eq_true rfl) rfl rfl (by kernel_rfl) ?_
    refine WL.pure (v := .bool false) 17 rfl (Nat.le_of_ble_eq_true rfl) rfl rfl (x_neq rfl rfl rfl (by decide)) ?_
    refine WL.pure (v := .bool false) 15 rfl (Nat.le_of_ble_eq_true rfl) rfl rfl (by kernel_rfl) ?_
    refine WL.nil ?_
    refine WQ.then ?_
    refine hK20 _ _ _ ?_
    refine WC.no rfl ?_
    refine WC.seq fun K21 hK21 => ?_
    obtain ⟨bb, oo, rfl, hrow⟩ := hIn (by omega)
    refine WC.region ?_
    refine WL.pure (v := .slice (some ⟨bb, oo, none⟩) n cap) 20 rfl (Nat.le_of_ble_eq_true rfl) rfl rfl (by kernel_rfl) ?_
    refine WL.pure (v := vI (k : Int)) 21 rfl (Nat.le_of_ble_eq_true rfl) rfl rfl (by kernel_rfl) ?_
    refine WL.pure (v := vP bb (oo + k * 3)) 22 rfl (Nat.le_of_ble_eq_true rfl) rfl rfl (x_idx (k) (oo + k * 3) rfl rfl rfl Try.underlying42 sz75 (by omega) (by omega) (by omega)) ?_
    refine WL.pure (v := vP bb (oo + k * 3)) 23 rfl (Nat.le_of_ble_eq_true rfl) rfl rfl (by kernel_rfl) ?_
    refine WL.pure (v := vI (c k)) 24 rfl (Nat.le_of_ble_eq_true rfl) rfl rfl (x_load rfl rfl Try.underlying3 rfl ((HP.oldRange hH18 trivial (hrow k (by omega))) 0 _ rfl)) ?_
    refine WL.call (f := 74) (args := #[vI (c k)]) 25 rfl (Nat.le_of_ble_eq_true rfl) rfl rfl (by kernel_rfl) ?_
    refine (Opens_any _ _).mono ?_
    rintro e w22 ⟨rfl, rfl⟩
    refine ⟨_, rfl, ?_⟩
    refine WL.pure (v := .bool (!(opn (c k)))) 26 rfl (Nat.le_of_ble_eq_true rfl) rfl rfl (by kernel_rfl) ?_
    refine WL.pure (v := .bool (!(opn (c k)))) 19 rfl (Nat.le_of_ble_eq_true rfl) rfl rfl (by kernel_rfl) ?_
    refine WL.nil ?_
    refine WQ.then ?_
    refine hK21 _ _ _ ?_
    refine WC.sub (l' := [(0, .slice (some ⟨bb, oo, none⟩) n cap), (1, vI (k : Int)), (4, vI 0), (5, vI 0), (6, vI 0), (7, vP b14 0), (8, vI 0), (15, .bool false), (19, .bool (!(opn (c k))))]) ⟨rfl, rfl, rfl, rfl, rfl, rfl, rfl, rfl, rfl, trivial⟩ ?_
    rcases Bool.eq_false_or_eq_true (opn (c k)) with hO | hO
    ·
      refine WC.no (congrArg (fun b => some (Value.bool (!b))) hO) ?_
      refine WC.skip ?_
      refine WQ.inNormal ?_
      refine WQ.then ?_
      refine hK19 _ _ _ ?_
      refine WC.seq fun K23 hK23 => ?_
      refine WC.still (by kernel_rfl) (by kernel_rfl) ?_
      have hH24 : HP Tr w _ [.cel g0 (irow n s.o) 3, .cel g1 (irow n s.e) 3, .cel g2 (irow n s.d) 3, .cel g3 (irow n s.t) 3, .cel b14 #[vS g0 n n, vS g1 n n, vS g2 n n, vS g3 n n, vI (s.m : Int), .bool true] 116] := HP.drew hH18
      refine WS.val (v := vP b14 1) 27 rfl (Nat.le_of_ble_eq_true rfl) rfl rfl (by kernel_rfl) ?_
      refine WS.val (v := vS g1 n n) 28 rfl (Nat.le_of_ble_eq_true rfl) rfl rfl (x_load rfl rfl Try.underlying33 rfl (HP.cell hH24 4 rfl rfl)) ?_
      refine WS.val (v := vI (k : Int)) 29 rfl (Nat.le_of_ble_eq_true rfl) rfl rfl (by kernel_rfl) ?_
      refine WS.val (v := vP g1 k) 30 rfl (Nat.le_of_ble_eq_true rfl) rfl rfl (x_idx (k) (k) rfl rfl rfl Try.underlying33 sz3 (by omega) (by omega) (by omega)) ?_
      refine WS.val (v := vI (s.e k)) 31 rfl (Nat.le_of_ble_eq_true rfl) rfl rfl (x_load rfl rfl Try.underlying3 rfl (HP.cell hH24 1 rfl (irow_get (by omega) rfl))) ?_
      refine WS.val (v := vP b14 2) 32 rfl (Nat.le_of_ble_eq_true rfl) rfl rfl (by kernel_rfl) ?_
      refine WS.val (v := vS g2 n n) 33 rfl (Nat.le_of_ble_eq_true rfl) rfl rfl (x_load rfl rfl Try.underlying33 rfl (HP.cell hH24 4 rfl rfl)) ?_
      refine WS.val (v := vI (k : Int)) 34 rfl (Nat.le_of_ble_eq_true rfl) rfl rfl (by kernel_rfl) ?_
      refine WS.val (v := vP g2 k) 35 rfl (Nat.le_of_ble_eq_true rfl) rfl rfl (x_idx (k) (k) rfl rfl rfl Try.underlying33 sz3 (by omega) (by omega) (by omega)) ?_
      refine WS.val (v := vI (s.d k)) 36 rfl (Nat.le_of_ble_eq_true rfl) rfl rfl (x_load rfl rfl Try.underlying3 rfl (HP.cell hH24 2 rfl (irow_get (by omega) rfl))) ?_
      refine WS.val (v := vI (s.e k)) 4 rfl (Nat.le_of_ble_eq_true rfl) rfl rfl (by kernel_rfl) ?_
      refine WS.val (v := vI (s.d k)) 5 rfl (Nat.le_of_ble_eq_true rfl) rfl rfl (by kernel_rfl) ?_
      refine WS.val (v := vI 0) 6 rfl (Nat.le_of_ble_eq_true rfl) rfl rfl (by kernel_rfl) ?_
      refine WS.nilQ ?_
      refine WQ.then ?_
      refine hK23 _ _ _ ?_
      refine WC.sub (l' := [(0, .slice (some ⟨bb, oo, none⟩) n cap), (1, vI (k : Int)), (4, vI (s.e k)), (5, vI (s.d k)), (6, vI 0), (7, vP b14 0), (8, vI 0), (15, .bool false), (19, .bool (!(opn (c k))))]) ⟨rfl, rfl, rfl, rfl, rfl, rfl, rfl, rfl, rfl, trivial⟩ ?_
      refine WC.ret ?_
      refine WQ.ret3 4 5 6 rfl rfl rfl rfl ?_
      exact ⟨by rw [mtc_ok hE hO hs], HP.below hH24⟩
    ·
      refine WC.yes (congrArg (fun b => some (Value.bool (!b))) hO) ?_
      refine WC.seq fun K25 hK25 => ?_
      refine WC.region ?_
      refine WL.pure (v := vI 0) 4 rfl (Nat.le_of_ble_eq_true rfl) rfl rfl (by kernel_rfl) ?_
      refine WL.pure (v := vI 0) 5 rfl (Nat.le_of_ble_eq_true rfl) rfl rfl (by kernel_rfl) ?_
      refine WL.pure (v := vI 3) 6 rfl (Nat.le_of_ble_eq_true rfl) rfl rfl (by kernel_rfl) ?_
      refine WL.nil ?_
      refine WQ.then ?_
      refine hK25 _ _ _ ?_
      refine WC.ret ?_
      refine WQ.inRet ?_
      refine WQ.thenRet ?_
      refine WQ.ret3 4 5 6 rfl rfl rfl rfl ?_
      exact ⟨by rw [mtc_none hE hO], HP.below hH18⟩
end Ec
end Go.Proofs.Ytmjnakhpekbenaa
namespace Go.Proofs.Ytmjnakhpekbenaa
open Go.RowKit Fw
namespace Ec
/-- what parts does at an index -/
def ParC (p : Option Addr) (n cap : Nat) (c A B : Nat → Int) (at' : Nat) : Prop := ∀ w, InC w p n c A B → Calls Try.prog 79 #[.slice p n cap, vI (at' : Int)] w fun e w' =>
  ∃ (nx : Nat) (d : Int), e = .returned (.tuple #[.int .i64 (nx : Int), .int .i64 d]) ∧ PR c n at' nx d ∧ Below w.heap.size w w'
/-- what bracket does at an opening -/
def BraC (p : Option Addr) (n cap : Nat) (c A B : Nat → Int) (k : Nat) : Prop := ∀ w, InC w p n c A B → Calls Try.prog 80 #[.slice p n cap, vI (k : Int)] w fun e w' =>
  ∃ (a : Int) (en : Nat) (d : Int), e = .returned (.tuple #[.int .i64 a, .int .i64 (en : Int), .int .i64 d]) ∧ BR c n k a en d ∧ Below w.heap.size w w'
theorem PR_bad {c : Nat → Int} {n k nx : Nat} {d : Int} (h : PR c n k nx d) (hd : d < 0) : Fail c n k := by
  rcases h with ⟨_, _, h⟩ | ⟨h, _⟩
  · exact h
  · omega
theorem PR_ok {c : Nat → Int} {n k nx : Nat} {d : Int} (h : PR c n k nx d) (hd : ¬ d < 0) : ∃ d2 : Nat, d = (d2 : Int) ∧ d2 + k ≤ nx ∧ nx ≤ n ∧ (nx < n → c nx = 34 ∨ c nx = 35) ∧ ParS c k nx d2 := by
  rcases h with ⟨h, _, _⟩ | ⟨h, h1, h2, h3, h4⟩
  · omega
  · exact ⟨d.toNat, by omega, by omega, h2, h3, h4⟩
theorem BR_bad {c : Nat → Int} {n k e : Nat} {a d : Int} (h : BR c n k a e d) (hd : d < 0) : Fail c n k := by
  rcases h with ⟨_, _, _, h⟩ | ⟨h, _⟩
  · exact h
  · omega
theorem BR_ok {c : Nat → Int} {n k e : Nat} {a d : Int} (h : BR c n k a e d) (hd : ¬ d < 0) : ∃ d2 : Nat, d = (d2 : Int) ∧ d2 + k < e ∧ e < n ∧ BraS c k a e d2 := by
  rcases h with ⟨_, _, h, _⟩ | ⟨h, h1, h2, h3⟩
  · omega
  · exact ⟨d.toNat, by omega, by omega, h2, h3⟩
theorem nend {c : Nat → Int} {k n nx d : Nat} (h : ParS c k nx d) (e : nx = n) : ParS c k n d := e ▸ h
set_option maxRecDepth 20000 in
set_option maxHeartbeats 4000000 in
theorem bra_any (p : Option Addr) (n cap : Nat) (c A B : Nat → Int) (k : Nat) (hn : n ≤ 400) (hk : k < n) (hO : opn (c k) = true) (hp : ∀ at', k < at' → at' ≤ n → ParC p n cap c A B at') (w : World) (hIn : InC w p n c A B) :
    Calls Try.prog 80 #[.slice p n cap, vI (k : Int)] w fun e w' => ∃ (a : Int) (en : Nat) (d : Int), e = .returned (.tuple #[.int .i64 a, .int .i64 (en : Int), .int .i64 d]) ∧ BR c n k a en d ∧ Below w.heap.size w w' := by
  refine calls_of Try.func80 rfl (m := 84) rfl [(0, .slice p n cap), (1, vI (k : Int))] (Fr_enter [.slice p n cap, vI (k : Int)] 84 (Nat.le_of_ble_eq_true rfl)) ?_
  have hH1 : HP Tr w w [] := HP.refl w
  refine WC.seq fun K2 hK2 => ?_
  refine WC.region ?_
  refine WL.pure (v := vI 0) 4 rfl (Nat.le_of_ble_eq_true rfl) rfl rfl (by kernel_rfl) ?_
  refine WL.pure (v := vI 0) 5 rfl (Nat.le_of_ble_eq_true rfl) rfl rfl (by kernel_rfl) ?_
  refine WL.pure (v := vI 0) 6 rfl (Nat.le_of_ble_eq_true rfl) rfl rfl (by kernel_rfl) ?_
  refine WL.nil ?_
  refine WQ.then ?_
  refine hK2 _ _ _ ?_
  refine WC.seq fun K3 hK3 => ?_
  refine WC.region ?_
  refine WL.pure (v := vI (-1)) 7 rfl (Nat.le_of_ble_eq_true rfl) rfl rfl (by kernel_rfl) ?_
  refine WL.nil ?_
  refine WQ.then ?_
  refine hK3 _ _ _ ?_
  refine WC.seq fun K4 hK4 => ?_
  refine WC.region ?_
  refine WL.pure (v := .slice p n cap) 13 rfl (Nat.le_of_ble_eq_true rfl) rfl rfl (by kernel_rfl) ?_
  refine WL.pure (v := vI (k : Int)) 14 rfl (Nat.le_of_ble_eq_true rfl) rfl rfl (by kernel_rfl) ?_
  refine WL.pure (v := vI ((k + 1 : Nat) : Int)) 15 rfl (Nat.le_of_ble_eq_true rfl) rfl rfl (x_add (Z := ((k + 1 : Nat) : Int)) rfl rfl rfl (by omega) (by omega) (by omega)) ?_
  refine WL.call (f := 79) (args := #[.slice p n cap, vI ((k + 1 : Nat) : Int)]) 16 rfl (Nat.le_of_ble_eq_true rfl) rfl rfl (by kernel_rfl) ?_
  refine (hp (k + 1) (by omega) (by omega) _ (hIn.below (HP.below hH1))).mono ?_
  rintro e w5 ⟨nx1, e1, rfl, hP1, hb6⟩
  refine ⟨_, rfl, ?_⟩
  have hH7 : HP Tr w _ [] := HP.call hH1 hb6
  refine WL.pure (v := .tuple #[vI (nx1 : Int), vI e1]) 12 rfl (Nat.le_of_ble_eq_true rfl) rfl rfl (by kernel_rfl) ?_
  refine WL.pure (v := vI (nx1 : Int)) 17 rfl (Nat.le_of_ble_eq_true rfl) rfl rfl (by kernel_rfl) ?_
  refine WL.pure (v := vI e1) 18 rfl (Nat.le_of_ble_eq_true rfl) rfl rfl (by kernel_rfl) ?_
  refine WL.pure (v := vI (nx1 : Int)) 8 rfl (Nat.le_of_ble_eq_true rfl) rfl rfl (by kernel_rfl) ?_
  refine WL.pure (v := vI e1) 9 rfl (Nat.le_of_ble_eq_true rfl) rfl rfl (by kernel_rfl) ?_
  refine WL.nil ?_
  refine WQ.then ?_
  refine hK4 _ _ _ ?_
  refine WC.sub (l' := [(0, .slice p n cap), (1, vI (k : Int)), (4, vI 0), (5, vI 0), (6, vI 0), (7, vI (-1)), (8, vI (nx1 : Int)), (9, vI e1)]) ⟨rfl, rfl, rfl, rfl, rfl, rfl, rfl, rfl, trivial⟩ ?_
  refine WC.seq fun K8 hK8 => ?_
  refine WC.seq fun K9 hK9 => ?_
  refine WC.region ?_
  refine WL.pure (v := vI e1) 19 rfl (Nat.le_of_ble_eq_true rfl) rfl rfl (by kernel_rfl) ?_
  by_cases hd1 : e1 < 0
  ·
    refine WL.pure (v := .bool true) 20 rfl (Nat.le_of_ble_eq_true rfl) rfl rfl (x_lss rfl rfl rfl (dT (hd1))) ?_
    refine WL.pure (v := .bool true) 21 rfl (Nat.le_of_ble_eq_true rfl) rfl rfl (by kernel_rfl) ?_
    refine WL.pass 22 rfl (Nat.le_of_ble_eq_true rfl) rfl ?_
    refine WL.pass 23 rfl (Nat.le_of_ble_eq_true rfl) rfl ?_
    refine WL.pass 24 rfl (Nat.le_of_ble_eq_true rfl) rfl ?_
    refine WL.pass 25 rfl (Nat.le_of_ble_eq_true rfl) rfl ?_
    refine WL.pure (v := .bool true) 26 rfl (Nat.le_of_ble_eq_true rfl) rfl rfl (by kernel_rfl) ?_
    refine WL.nil ?_
    refine WQ.then ?_
    refine hK9 _ _ _ ?_
    refine WC.sub (l' := [(0, .slice p n cap), (1, vI (k : Int)), (4, vI 0), (5, vI 0), (6, vI 0), (7, vI (-1)), (8, vI (nx1 : Int)), (9, vI e1), (26, .bool true)]) ⟨rfl, rfl, rfl, rfl, rfl, rfl, rfl, rfl, rfl, trivial⟩ ?_
    refine WC.yes rfl ?_
    refine WC.seq fun K10 hK10 => ?_
    refine WC.region ?_
    refine WL.pure (v := vI 0) 4 rfl (Nat.le_of_ble_eq_true rfl) rfl rfl (by kernel_rfl) ?_
    refine WL.pure (v := vI 0) 5 rfl (Nat.le_of_ble_eq_true rfl) rfl rfl (by kernel_rfl) ?_
    refine WL.pure (v := vI (-1)) 6 rfl (Nat.le_of_ble_eq_true rfl) rfl rfl (by kernel_rfl) ?_
    refine WL.nil ?_
    refine WQ.then ?_
    refine hK10 _ _ _ ?_
    refine WC.ret ?_
    refine WQ.thenRet ?_
    refine WQ.ret3 4 5 6 rfl rfl rfl rfl ?_
    exact ⟨0, 0, -1, rfl, .inl ⟨rfl, rfl, rfl, Fail_open hO (PR_bad hP1 hd1)⟩, HP.below hH7⟩
  ·
    obtain ⟨d1, rfl, hx1, hn1, ht1, hS1⟩ := PR_ok hP1 hd1
    refine WL.pure (v := .bool false) 20 rfl (Nat.le_of_ble_eq_true rfl) rfl rfl (x_lss rfl rfl rfl (dF (hd1))) ?_
    refine WL.pure (v := .bool false) 21 rfl (Nat.le_of_ble_eq_true rfl) rfl rfl (by kernel_rfl) ?_
    refine WL.pure (v := vI (nx1 : Int)) 22 rfl (Nat.le_of_ble_eq_true rfl) rfl rfl (by kernel_rfl) ?_
    refine WL.pure (v := .slice p n cap) 23 rfl (Nat.le_of_ble_eq_true rfl) rfl rfl (by kernel_rfl) ?_
    refine WL.pure (v := vI (n : Int)) 24 rfl (Nat.le_of_ble_eq_true rfl) rfl rfl (by kernel_rfl) ?_
    by_cases hnx : (n : Int) ≤ (nx1 : Int)
    ·
      refine WL.pure (v := .bool true) 25 rfl (Nat.le_of_ble_eq_true rfl) rfl rfl (x_geq rfl rfl rfl (dT (hnx))) ?_
      refine WL.pure (v := .bool true) 26 rfl (Nat.le_of_ble_eq_true rfl) rfl rfl (by kernel_rfl) ?_
      refine WL.nil ?_
      refine WQ.then ?_
      refine hK9 _ _ _ ?_
      refine WC.sub (l' := [(0, .slice p n cap), (1, vI (k : Int)), (4, vI 0), (5, vI 0), (6, vI 0), (7, vI (-1)), (8, vI (nx1 : Int)), (9, vI (d1 : Int)), (26, .bool true)]) ⟨rfl, rfl, rfl, rfl, rfl, rfl, rfl, rfl, rfl, trivial⟩ ?_
      refine WC.yes rfl ?_
      refine WC.seq fun K11 hK11 => ?_
      refine WC.region ?_
      refine WL.pure (v := vI 0) 4 rfl (Nat.le_of_ble_eq_true rfl) rfl rfl (by kernel_rfl) ?_
      refine WL.pure (v := vI 0) 5 rfl (Nat.le_of_ble_eq_true rfl) rfl rfl (by kernel_rfl) ?_
      refine WL.pure (v := vI (-1)) 6 rfl (Nat.le_of_ble_eq_true rfl) rfl rfl (by kernel_rfl) ?_
      refine WL.nil ?_
      refine WQ.then ?_
      refine hK11 _ _ _ ?_
      refine WC.ret ?_
      refine WQ.thenRet ?_
      refine WQ.ret3 4 5 6 rfl rfl rfl rfl ?_
      exact ⟨0, 0, -1, rfl, .inl ⟨rfl, rfl, rfl, Fail_end hO (d := d1) (nend hS1 (by omega))⟩, HP.below hH7⟩
    ·
      refine WL.pure (v := .bool false) 25 rfl (Nat.le_of_ble_eq_true rfl) rfl rfl (x_geq rfl rfl rfl (dF (hnx))) ?_
      refine WL.pure (v := .bool false) 26 rfl (Nat.le_of_ble_eq_true rfl) rfl rfl (by kernel_rfl) ?_
      refine WL.nil ?_
      refine WQ.then ?_
      refine hK9 _ _ _ ?_
      refine WC.sub (l' := [(0, .slice p n cap), (1, vI (k : Int)), (4, vI 0), (5, vI 0), (6, vI 0), (7, vI (-1)), (8, vI (nx1 : Int)), (9, vI (d1 : Int)), (26, .bool false)]) ⟨rfl, rfl, rfl, rfl, rfl, rfl, rfl, rfl, rfl, trivial⟩ ?_
      refine WC.no rfl ?_
      refine WC.skip ?_
      refine WQ.then ?_
      refine hK8 _ _ _ ?_
      refine WC.seq fun K12 hK12 => ?_
      refine WC.seq fun K13 hK13 => ?_
      obtain ⟨bb, oo, rfl, hrow⟩ := hIn (by omega)
      refine WC.region ?_
      refine WL.pure (v := .slice (some ⟨bb, oo, none⟩) n cap) 27 rfl (Nat.le_of_ble_eq_true rfl) rfl rfl (by kernel_rfl) ?_
      refine WL.pure (v := vI (nx1 : Int)) 28 rfl (Nat.le_of_ble_eq_true rfl) rfl rfl (by kernel_rfl) ?_
      refine WL.pure (v := vP bb (oo + nx1 * 3)) 29 rfl (Nat.le_of_ble_eq_true rfl) rfl rfl (x_idx (nx1) (oo + nx1 * 3) rfl rfl rfl Try.underlying42 sz75 (by omega) (by omega) (by omega)) ?_
      refine WL.pure (v := vP bb (oo + nx1 * 3)) 30 rfl (Nat.le_of_ble_eq_true rfl) rfl rfl (by kernel_rfl) ?_
      refine WL.pure (v := vI (c nx1)) 31 rfl (Nat.le_of_ble_eq_true rfl) rfl rfl (x_load rfl rfl Try.underlying3 rfl ((HP.oldRange hH7 trivial (hrow nx1 (by omega))) 0 _ rfl)) ?_
      by_cases h34 : c nx1 = 34
      ·
        refine WL.pure (v := .bool true) 32 rfl (Nat.le_of_ble_eq_true rfl) rfl rfl (x_eql rfl rfl rfl (dT (h34))) ?_
        refine WL.nil ?_
        refine WQ.then ?_
        refine hK13 _ _ _ ?_
        refine WC.yes rfl ?_
        refine WC.seq fun K14 hK14 => ?_
        refine WC.seq fun K15 hK15 => ?_
        refine WC.region ?_
        refine WL.pure (v := .slice (some ⟨bb, oo, none⟩) n cap) 33 rfl (Nat.le_of_ble_eq_true rfl) rfl rfl (by kernel_rfl) ?_
        refine WL.pure (v := vI (k : Int)) 34 rfl (Nat.le_of_ble_eq_true rfl) rfl rfl (by kernel_rfl) ?_
        refine WL.pure (v := vP bb (oo + k * 3)) 35 rfl (Nat.le_of_ble_eq_true rfl) rfl rfl (x_idx (k) (oo + k * 3) rfl rfl rfl Try.underlying42 sz75 (by omega) (by omega) (by omega)) ?_
        refine WL.pure (v := vP bb (oo + k * 3)) 36 rfl (Nat.le_of_ble_eq_true rfl) rfl rfl (by kernel_rfl) ?_
        refine WL.pure (v := vI (c k)) 37 rfl (Nat.le_of_ble_eq_true rfl) rfl rfl (x_load rfl rfl Try.underlying3 rfl ((HP.oldRange hH7 trivial (hrow k (by omega))) 0 _ rfl)) ?_
        by_cases h29 : c k ≠ 29
        ·
          refine WL.pure (v := .bool true) 38 rfl (Nat.le_of_ble_eq_true rfl) rfl rfl (x_neq rfl rfl rfl (dT (h29))) ?_
          refine WL.pure (v := .bool true) 39 rfl (Nat.le_of_ble_eq_true rfl) rfl rfl (by kernel_rfl) ?_
          refine WL.pure (v := .slice (some ⟨bb, oo, none⟩) n cap) 40 rfl (Nat.le_of_ble_eq_true rfl) rfl rfl (by kernel_rfl) ?_
          refine WL.pure (v := vI (k : Int)) 41 rfl (Nat.le_of_ble_eq_true rfl) rfl rfl (by kernel_rfl) ?_
          refine WL.pure (v := vP bb (oo + k * 3)) 42 rfl (Nat.le_of_ble_eq_true rfl) rfl rfl (x_idx (k) (oo + k * 3) rfl rfl rfl Try.underlying42 sz75 (by omega) (by omega) (by omega)) ?_
          refine WL.pure (v := vP bb (oo + k * 3)) 43 rfl (Nat.le_of_ble_eq_true rfl) rfl rfl (by kernel_rfl) ?_
          refine WL.pure (v := vI (c k)) 44 rfl (Nat.le_of_ble_eq_true rfl) rfl rfl (x_load rfl rfl Try.underlying3 rfl ((HP.oldRange hH7 trivial (hrow k (by omega))) 0 _ rfl)) ?_
          by_cases h33 : c k ≠ 33
          ·
            refine WL.pure (v := .bool true) 45 rfl (Nat.le_of_ble_eq_true rfl) rfl rfl (x_neq rfl rfl rfl (dT (h33))) ?_
            refine WL.pure (v := .bool true) 46 rfl (Nat.le_of_ble_eq_true rfl) rfl rfl (by kernel_rfl) ?_
            refine WL.nil ?_
            refine WQ.then ?_
            refine hK15 _ _ _ ?_
            refine WC.sub (l' := [(0, .slice (some ⟨bb, oo, none⟩) n cap), (1, vI (k : Int)), (4, vI 0), (5, vI 0), (6, vI 0), (7, vI (-1)), (8, vI (nx1 : Int)), (9, vI (d1 : Int)), (26, .bool false), (32, .bool true), (46, .bool true)]) ⟨rfl, rfl, rfl, rfl, rfl, rfl, rfl, rfl, rfl, rfl, rfl, trivial⟩ ?_
            refine WC.yes rfl ?_
            refine WC.seq fun K16 hK16 => ?_
            refine WC.region ?_
            refine WL.pure (v := vI 0) 4 rfl (Nat.le_of_ble_eq_true rfl) rfl rfl (by kernel_rfl) ?_
            refine WL.pure (v := vI 0) 5 rfl (Nat.le_of_ble_eq_true rfl) rfl rfl (by kernel_rfl) ?_
            refine WL.pure (v := vI (-1)) 6 rfl (Nat.le_of_ble_eq_true rfl) rfl rfl (by kernel_rfl) ?_
            refine WL.nil ?_
            refine WQ.then ?_
            refine hK16 _ _ _ ?_
            refine WC.ret ?_
            refine WQ.thenRet ?_
            refine WQ.thenRet ?_
            refine WQ.ret3 4 5 6 rfl rfl rfl rfl ?_
            exact ⟨0, 0, -1, rfl, .inl ⟨rfl, rfl, rfl, Fail_two hO hS1 h34 (by omega) (two_no h29 h33)⟩, HP.below hH7⟩
          ·
            refine WL.pure (v := .bool false) 45 rfl (Nat.le_of_ble_eq_true rfl) rfl rfl (x_neq rfl rfl rfl (dF (h33))) ?_
            refine WL.pure (v := .bool false) 46 rfl (Nat.le_of_ble_eq_true rfl) rfl rfl (by kernel_rfl) ?_
            refine WL.nil ?_
            refine WQ.then ?_
            refine hK15 _ _ _ ?_
            refine WC.sub (l' := [(0, .slice (some ⟨bb, oo, none⟩) n cap), (1, vI (k : Int)), (4, vI 0), (5, vI 0), (6, vI 0), (7, vI (-1)), (8, vI (nx1 : Int)), (9, vI (d1 : Int)), (26, .bool false), (32, .bool true), (46, .bool false)]) ⟨rfl, rfl, rfl, rfl, rfl, rfl, rfl, rfl, rfl, rfl, rfl, trivial⟩ ?_
            refine WC.no rfl ?_
            refine WC.skip ?_
            refine WQ.then ?_
            refine hK14 _ _ _ ?_
            refine WC.seq fun K17 hK17 => ?_
            refine WC.region ?_
            refine WL.pure (v := vI (nx1 : Int)) 47 rfl (Nat.le_of_ble_eq_true rfl) rfl rfl (by kernel_rfl) ?_
            refine WL.pure (v := vI (nx1 : Int)) 7 rfl (Nat.le_of_ble_eq_true rfl) rfl rfl (by kernel_rfl) ?_
            refine WL.nil ?_
            refine WQ.then ?_
            refine hK17 _ _ _ ?_
            refine WC.seq fun K18 hK18 => ?_
            refine WC.region ?_
            refine WL.pure (v := .slice (some ⟨bb, oo, none⟩) n cap) 49 rfl (Nat.le_of_ble_eq_true rfl) rfl rfl (by kernel_rfl) ?_
            refine WL.pure (v := vI (nx1 : Int)) 50 rfl (Nat.le_of_ble_eq_true rfl) rfl rfl (by kernel_rfl) ?_
            refine WL.pure (v := vI ((nx1 + 1 : Nat) : Int)) 51 rfl (Nat.le_of_ble_eq_true rfl) rfl rfl (x_add (Z := ((nx1 + 1 : Nat) : Int)) rfl rfl rfl (by omega) (by omega) (by omega)) ?_
            refine WL.call (f := 79) (args := #[.slice (some ⟨bb, oo, none⟩) n cap, vI ((nx1 + 1 : Nat) : Int)]) 52 rfl (Nat.le_of_ble_eq_true rfl) rfl rfl (by kernel_rfl) ?_
            refine (hp (nx1 + 1) (by omega) (by omega) _ (hIn.below (HP.below hH7))).mono ?_
            rintro e w19 ⟨nx2, e2, rfl, hP2, hb20⟩
            refine ⟨_, rfl, ?_⟩
            have hH21 : HP Tr w _ [] := HP.call hH7 hb20
            refine WL.pure (v := .tuple #[vI (nx2 : Int), vI e2]) 48 rfl (Nat.le_of_ble_eq_true rfl) rfl rfl (by kernel_rfl) ?_
            refine WL.pure (v := vI (nx2 : Int)) 53 rfl (Nat.le_of_ble_eq_true rfl) rfl rfl (by kernel_rfl) ?_
            refine WL.pure (v := vI e2) 54 rfl (Nat.le_of_ble_eq_true rfl) rfl rfl (by kernel_rfl) ?_
            refine WL.pure (v := vI (nx2 : Int)) 10 rfl (Nat.le_of_ble_eq_true rfl) rfl rfl (by kernel_rfl) ?_
            refine WL.pure (v := vI e2) 11 rfl (Nat.le_of_ble_eq_true rfl) rfl rfl (by kernel_rfl) ?_
            refine WL.nil ?_
            refine WQ.then ?_
            refine hK18 _ _ _ ?_
            refine WC.sub (l' := [(0, .slice (some ⟨bb, oo, none⟩) n cap), (1, vI (k : Int)), (4, vI 0), (5, vI 0), (6, vI 0), (7, vI (nx1 : Int)), (8, vI (nx1 : Int)), (9, vI (d1 : Int)), (10, vI (nx2 : Int)), (11, vI e2), (26, .bool false), (32, .bool true), (46, .bool false)]) ⟨rfl, rfl, rfl, rfl, rfl, rfl, rfl, rfl, rfl, rfl, rfl, rfl, rfl, trivial⟩ ?_
            refine WC.seq fun K22 hK22 => ?_
            refine WC.seq fun K23 hK23 => ?_
            refine WC.region ?_
            refine WL.pure (v := vI e2) 55 rfl (Nat.le_of_ble_eq_true rfl) rfl rfl (by kernel_rfl) ?_
            by_cases hd2 : e2 < 0
            ·
              refine WL.pure (v := .bool true) 56 rfl (Nat.le_of_ble_eq_true rfl) rfl rfl (x_lss rfl rfl rfl (dT (hd2))) ?_
              refine WL.pure (v := .bool true) 57 rfl (Nat.le_of_ble_eq_true rfl) rfl rfl (by kernel_rfl) ?_
              refine WL.pass 58 rfl (Nat.le_of_ble_eq_true rfl) rfl ?_
              refine WL.pass 59 rfl (Nat.le_of_ble_eq_true rfl) rfl ?_
              refine WL.pass 60 rfl (Nat.le_of_ble_eq_true rfl) rfl ?_
              refine WL.pass 61 rfl (Nat.le_of_ble_eq_true rfl) rfl ?_
              refine WL.pure (v := .bool true) 62 rfl (Nat.le_of_ble_eq_true rfl) rfl rfl (by kernel_rfl) ?_
              refine WL.pure (v := .bool true) 63 rfl (Nat.le_of_ble_eq_true rfl) rfl rfl (by kernel_rfl) ?_
              refine WL.pass 64 rfl (Nat.le_of_ble_eq_true rfl) rfl ?_
              refine WL.pass 65 rfl (Nat.le_of_ble_eq_true rfl) rfl ?_
              refine WL.pass 66 rfl (Nat.le_of_ble_eq_true rfl) rfl ?_
              refine WL.pass 67 rfl (Nat.le_of_ble_eq_true rfl) rfl ?_
              refine WL.pass 68 rfl (Nat.le_of_ble_eq_true rfl) rfl ?_
              refine WL.pass 69 rfl (Nat.le_of_ble_eq_true rfl) rfl ?_
              refine WL.pure (v := .bool true) 70 rfl (Nat.le_of_ble_eq_true rfl) rfl rfl (by kernel_rfl) ?_
              refine WL.nil ?_
              refine WQ.then ?_
              refine hK23 _ _ _ ?_
              refine WC.sub (l' := [(0, .slice (some ⟨bb, oo, none⟩) n cap), (1, vI (k : Int)), (4, vI 0), (5, vI 0), (6, vI 0), (7, vI (nx1 : Int)), (8, vI (nx1 : Int)), (9, vI (d1 : Int)), (10, vI (nx2 : Int)), (11, vI e2), (26, .bool false), (32, .bool true), (46, .bool false), (70, .bool true)]) ⟨rfl, rfl, rfl, rfl, rfl, rfl, rfl, rfl, rfl, rfl, rfl, rfl, rfl, rfl, trivial⟩ ?_
              refine WC.yes rfl ?_
              refine WC.seq fun K24 hK24 => ?_
              refine WC.region ?_
              refine WL.pure (v := vI 0) 4 rfl (Nat.le_of_ble_eq_true rfl) rfl rfl (by kernel_rfl) ?_
              refine WL.pure (v := vI 0) 5 rfl (Nat.le_of_ble_eq_true rfl) rfl rfl (by kernel_rfl) ?_
              refine WL.pure (v := vI (-1)) 6 rfl (Nat.le_of_ble_eq_true rfl) rfl rfl (by kernel_rfl) ?_
              refine WL.nil ?_
              refine WQ.then ?_
              refine hK24 _ _ _ ?_
              refine WC.ret ?_
              refine WQ.thenRet ?_
              refine WQ.thenRet ?_
              refine WQ.ret3 4 5 6 rfl rfl rfl rfl ?_
              exact ⟨0, 0, -1, rfl, .inl ⟨rfl, rfl, rfl, Fail_alt (two_yes (by omega)) hS1 (by omega) h34 (PR_bad hP2 hd2)⟩, HP.below hH21⟩
            ·
              obtain ⟨d2, rfl, hx2, hn2, ht2, hS2⟩ := PR_ok hP2 hd2
              refine WL.pure (v := .bool false) 56 rfl (Nat.le_of_ble_eq_true rfl) rfl rfl (x_lss rfl rfl rfl (dF (hd2))) ?_
              refine WL.pure (v := .bool false) 57 rfl (Nat.le_of_ble_eq_true rfl) rfl rfl (by kernel_rfl) ?_
              refine WL.pure (v := vI (nx2 : Int)) 58 rfl (Nat.le_of_ble_eq_true rfl) rfl rfl (by kernel_rfl) ?_
              refine WL.pure (v := .slice (some ⟨bb, oo, none⟩) n cap) 59 rfl (Nat.le_of_ble_eq_true rfl) rfl rfl (by kernel_rfl) ?_
              refine WL.pure (v := vI (n : Int)) 60 rfl (Nat.le_of_ble_eq_true rfl) rfl rfl (by kernel_rfl) ?_
              by_cases hnx2 : (n : Int) ≤ (nx2 : Int)
              ·
                refine WL.pure (v := .bool true) 61 rfl (Nat.le_of_ble_eq_true rfl) rfl rfl (x_geq rfl rfl rfl (dT (hnx2))) ?_
                refine WL.pure (v := .bool true) 62 rfl (Nat.le_of_ble_eq_true rfl) rfl rfl (by kernel_rfl) ?_
                refine WL.pure (v := .bool true) 63 rfl (Nat.le_of_ble_eq_true rfl) rfl rfl (by kernel_rfl) ?_
                refine WL.pass 64 rfl (Nat.le_of_ble_eq_true rfl) rfl ?_
                refine WL.pass 65 rfl (Nat.le_of_ble_eq_true rfl) rfl ?_
                refine WL.pass 66 rfl (Nat.le_of_ble_eq_true rfl) rfl ?_
                refine WL.pass 67 rfl (Nat.le_of_ble_eq_true rfl) rfl ?_
                refine WL.pass 68 rfl (Nat.le_of_ble_eq_true rfl) rfl ?_
                refine WL.pass 69 rfl (Nat.le_of_ble_eq_true rfl) rfl ?_
                refine WL.pure (v := .bool true) 70 rfl (Nat.le_of_ble_eq_true rfl) rfl rfl (by kernel_rfl) ?_
                refine WL.nil ?_
                refine WQ.then ?_
                refine hK23 _ _ _ ?_
                refine WC.sub (l' := [(0, .slice (some ⟨bb, oo, none⟩) n cap), (1, vI (k : Int)), (4, vI 0), (5, vI 0), (6, vI 0), (7, vI (nx1 : Int)), (8, vI (nx1 : Int)), (9, vI (d1 : Int)), (10, vI (nx2 : Int)), (11, vI (d2 : Int)), (26, .bool false), (32, .bool true), (46, .bool false), (70, .bool true)]) ⟨rfl, rfl, rfl, rfl, rfl, rfl, rfl, rfl, rfl, rfl, rfl, rfl, rfl, rfl, trivial⟩ ?_
                refine WC.yes rfl ?_
                refine WC.seq fun K25 hK25 => ?_
                refine WC.region ?_
                refine WL.pure (v := vI 0) 4 rfl (Nat.le_of_ble_eq_true rfl) rfl rfl (by kernel_rfl) ?_
                refine WL.pure (v := vI 0) 5 rfl (Nat.le_of_ble_eq_true rfl) rfl rfl (by kernel_rfl) ?_
                refine WL.pure (v := vI (-1)) 6 rfl (Nat.le_of_ble_eq_true rfl) rfl rfl (by kernel_rfl) ?_
                refine WL.nil ?_
                refine WQ.then ?_
                refine hK25 _ _ _ ?_
                refine WC.ret ?_
                refine WQ.thenRet ?_
                refine WQ.thenRet ?_
                refine WQ.ret3 4 5 6 rfl rfl rfl rfl ?_
                exact ⟨0, 0, -1, rfl, .inl ⟨rfl, rfl, rfl, Fail_alt_end (d2 := d2) (two_yes (by omega)) hS1 (by omega) h34 (nend hS2 (by omega))⟩, HP.below hH21⟩
              ·
                refine WL.pure (v := .bool false) 61 rfl (Nat.le_of_ble_eq_true rfl) rfl rfl (x_geq rfl rfl rfl (dF (hnx2))) ?_
                refine WL.pure (v := .bool false) 62 rfl (Nat.le_of_ble_eq_true rfl) rfl rfl (by kernel_rfl) ?_
                refine WL.pure (v := .bool false) 63 rfl (Nat.le_of_ble_eq_true rfl) rfl rfl (by kernel_rfl) ?_
                refine WL.pure (v := .slice (some ⟨bb, oo, none⟩) n cap) 64 rfl (Nat.le_of_ble_eq_true rfl) rfl rfl (by kernel_rfl) ?_
                refine WL.pure (v := vI (nx2 : Int)) 65 rfl (Nat.le_of_ble_eq_true rfl) rfl rfl (by kernel_rfl) ?_
                refine WL.pure (v := vP bb (oo + nx2 * 3)) 66 rfl (Nat.le_of_ble_eq_true rfl) rfl rfl (x_idx (nx2) (oo + nx2 * 3) rfl rfl rfl Try.underlying42 sz75 (by omega) (by omega) (by omega)) ?_
                refine WL.pure (v := vP bb (oo + nx2 * 3)) 67 rfl (Nat.le_of_ble_eq_true rfl) rfl rfl (by kernel_rfl) ?_
                refine WL.pure (v := vI (c nx2)) 68 rfl (Nat.le_of_ble_eq_true rfl) rfl rfl (x_load rfl rfl Try.underlying3 rfl ((HP.oldRange hH21 trivial (hrow nx2 (by omega))) 0 _ rfl)) ?_
                by_cases h35 : c nx2 ≠ 35
                ·
                  refine WL.pure (v := .bool true) 69 rfl (Nat.le_of_ble_eq_true rfl) rfl rfl (x_neq rfl rfl rfl (dT (h35))) ?_
                  refine WL.pure (v := .bool true) 70 rfl (Nat.le_of_ble_eq_true rfl) rfl rfl (by kernel_rfl) ?_
                  refine WL.nil ?_
                  refine WQ.then ?_
                  refine hK23 _ _ _ ?_
                  refine WC.sub (l' := [(0, .slice (some ⟨bb, oo, none⟩) n cap), (1, vI (k : Int)), (4, vI 0), (5, vI 0), (6, vI 0), (7, vI (nx1 : Int)), (8, vI (nx1 : Int)), (9, vI (d1 : Int)), (10, vI (nx2 : Int)), (11, vI (d2 : Int)), (26, .bool false), (32, .bool true), (46, .bool false), (70, .bool true)]) ⟨rfl, rfl, rfl, rfl, rfl, rfl, rfl, rfl, rfl, rfl, rfl, rfl, rfl, rfl, trivial⟩ ?_
                  refine WC.yes rfl ?_
                  refine WC.seq fun K26 hK26 => ?_
                  refine WC.region ?_
                  refine WL.pure (v := vI 0) 4 rfl (Nat.le_of_ble_eq_true rfl) rfl rfl (by kernel_rfl) ?_
                  refine WL.pure (v := vI 0) 5 rfl (Nat.le_of_ble_eq_true rfl) rfl rfl (by kernel_rfl) ?_
                  refine WL.pure (v := vI (-1)) 6 rfl (Nat.le_of_ble_eq_true rfl) rfl rfl (by kernel_rfl) ?_
                  refine WL.nil ?_
                  refine WQ.then ?_
                  refine hK26 _ _ _ ?_
                  refine WC.ret ?_
                  refine WQ.thenRet ?_
                  refine WQ.thenRet ?_
                  refine WQ.ret3 4 5 6 rfl rfl rfl rfl ?_
                  exact ⟨0, 0, -1, rfl, .inl ⟨rfl, rfl, rfl, Fail_alt_else (two_yes (by omega)) hS1 (by omega) h34 hS2 (by omega) (by have := ht2 (by omega); omega) (by omega)⟩, HP.below hH21⟩
                ·
                  refine WL.pure (v := .bool false) 69 rfl (Nat.le_of_ble_eq_true rfl) rfl rfl (x_neq rfl rfl rfl (dF (h35))) ?_
                  refine WL.pure (v := .bool false) 70 rfl (Nat.le_of_ble_eq_true rfl) rfl rfl (by kernel_rfl) ?_
                  refine WL.nil ?_
                  refine WQ.then ?_
                  refine hK23 _ _ _ ?_
                  refine WC.sub (l' := [(0, .slice (some ⟨bb, oo, none⟩) n cap), (1, vI (k : Int)), (4, vI 0), (5, vI 0), (6, vI 0), (7, vI (nx1 : Int)), (8, vI (nx1 : Int)), (9, vI (d1 : Int)), (10, vI (nx2 : Int)), (11, vI (d2 : Int)), (26, .bool false), (32, .bool true), (46, .bool false), (70, .bool false)]) ⟨rfl, rfl, rfl, rfl, rfl, rfl, rfl, rfl, rfl, rfl, rfl, rfl, rfl, rfl, trivial⟩ ?_
                  refine WC.no rfl ?_
                  refine WC.skip ?_
                  refine WQ.then ?_
                  refine hK22 _ _ _ ?_
                  refine WC.seq fun K27 hK27 => ?_
                  refine WC.region ?_
                  refine WL.pure (v := vI (nx2 : Int)) 71 rfl (Nat.le_of_ble_eq_true rfl) rfl rfl (by kernel_rfl) ?_
                  refine WL.pure (v := vI (nx2 : Int)) 8 rfl (Nat.le_of_ble_eq_true rfl) rfl rfl (by kernel_rfl) ?_
                  refine WL.nil ?_
                  refine WQ.then ?_
                  refine hK27 _ _ _ ?_
                  refine WC.region ?_
                  refine WL.pure (v := vI (d1 : Int)) 72 rfl (Nat.le_of_ble_eq_true rfl) rfl rfl (by kernel_rfl) ?_
                  refine WL.pure (v := vI (d2 : Int)) 73 rfl (Nat.le_of_ble_eq_true rfl) rfl rfl (by kernel_rfl) ?_
                  refine WL.pure (v := vI ((max d1 d2 : Nat) : Int)) 74 rfl (Nat.le_of_ble_eq_true rfl) rfl rfl (x_max (Z := ((max d1 d2 : Nat) : Int)) (t := 0) rfl rfl rfl (by split <;> omega)) ?_
                  refine WL.pure (v := vI ((max d1 d2 : Nat) : Int)) 9 rfl (Nat.le_of_ble_eq_true rfl) rfl rfl (by kernel_rfl) ?_
                  refine WL.nil ?_
                  refine WQ.then ?_
                  refine hK12 _ _ _ ?_
                  refine WC.sub (l' := [(0, .slice (some ⟨bb, oo, none⟩) n cap), (1, vI (k : Int)), (4, vI 0), (5, vI 0), (6, vI 0), (7, vI (nx1 : Int)), (8, vI (nx2 : Int)), (9, vI ((max d1 d2 : Nat) : Int)), (10, vI (nx2 : Int)), (11, vI (d2 : Int)), (26, .bool false), (32, .bool true), (46, .bool false), (70, .bool false)]) ⟨rfl, rfl, rfl, rfl, rfl, rfl, rfl, rfl, rfl, rfl, rfl, rfl, rfl, rfl, trivial⟩ ?_
                  refine WC.seq fun K28 hK28 => ?_
                  refine WC.region ?_
                  refine WL.pure (v := vI (nx1 : Int)) 81 rfl (Nat.le_of_ble_eq_true rfl) rfl rfl (by kernel_rfl) ?_
                  refine WL.pure (v := vI (nx2 : Int)) 82 rfl (Nat.le_of_ble_eq_true rfl) rfl rfl (by kernel_rfl) ?_
                  refine WL.pure (v := vI ((max d1 d2 : Nat) : Int)) 83 rfl (Nat.le_of_ble_eq_true rfl) rfl rfl (by kernel_rfl) ?_
                  refine WL.pure (v := vI (nx1 : Int)) 4 rfl (Nat.le_of_ble_eq_true rfl) rfl rfl (by kernel_rfl) ?_
                  refine WL.pure (v := vI (nx2 : Int)) 5 rfl (Nat.le_of_ble_eq_true rfl) rfl rfl (by kernel_rfl) ?_
                  refine WL.pure (v := vI ((max d1 d2 : Nat) : Int)) 6 rfl (Nat.le_of_ble_eq_true rfl) rfl rfl (by kernel_rfl) ?_
                  refine WL.nil ?_
                  refine WQ.then ?_
                  refine hK28 _ _ _ ?_
                  refine WC.sub (l' := [(0, .slice (some ⟨bb, oo, none⟩) n cap), (1, vI (k : Int)), (4, vI (nx1 : Int)), (5, vI (nx2 : Int)), (6, vI ((max d1 d2 : Nat) : Int)), (7, vI (nx1 : Int)), (8, vI (nx2 : Int)), (9, vI ((max d1 d2 : Nat) : Int)), (10, vI (nx2 : Int)), (11, vI (d2 : Int)), (26, .bool false), (32, .bool true), (46, .bool false), (70, .bool false)]) ⟨rfl, rfl, rfl, rfl, rfl, rfl, rfl, rfl, rfl, rfl, rfl, rfl, rfl, rfl, trivial⟩ ?_
                  refine WC.ret ?_
                  refine WQ.ret3 4 5 6 rfl rfl rfl rfl ?_
                  exact ⟨(nx1 : Int), nx2, ((max d1 d2 : Nat) : Int), rfl, .inr ⟨by omega, by omega, by omega, by simpa using BraS_alt (two_yes (by omega)) hS1 (by omega) h34 hS2 (by omega) (by omega)⟩, HP.below hH21⟩
        ·
          refine WL.pure (v := .bool false) 38 rfl (Nat.le_of_ble_eq_true rfl) rfl rfl (x_neq rfl rfl rfl (dF (h29))) ?_
          refine WL.pure (v := .bool false) 39 rfl (Nat.le_of_ble_eq_true rfl) rfl rfl (by kernel_rfl) ?_
          refine WL.pass 40 rfl (Nat.le_of_ble_eq_true rfl) rfl ?_
          refine WL.pass 41 rfl (Nat.le_of_ble_eq_true rfl) rfl ?_
          refine WL.pass 42 rfl (Nat.le_of_ble_eq_true rfl) rfl ?_
          refine WL.pass 43 rfl (Nat.le_of_ble_eq_true rfl) rfl ?_
          refine WL.pass 44 rfl (Nat.le_of_ble_eq_true rfl) rfl ?_
          refine WL.pass 45 rfl (Nat.le_of_ble_eq_true rfl) rfl ?_
          refine WL.pure (v := .bool false) 46 rfl (Nat.le_of_ble_eq_true rfl) rfl rfl (by kernel_rfl) ?_
          refine WL.nil ?_
          refine WQ.then ?_
          refine hK15 _ _ _ ?_
          refine WC.sub (l' := [(0, .slice (some ⟨bb, oo, none⟩) n cap), (1, vI (k : Int)), (4, vI 0), (5, vI 0), (6, vI 0), (7, vI (-1)), (8, vI (nx1 : Int)), (9, vI (d1 : Int)), (26, .bool false), (32, .bool true), (46, .bool false)]) ⟨rfl, rfl, rfl, rfl, rfl, rfl, rfl, rfl, rfl, rfl, rfl, trivial⟩ ?_
          refine WC.no rfl ?_
          refine WC.skip ?_
          refine WQ.then ?_
          refine hK14 _ _ _ ?_
          refine WC.seq fun K29 hK29 => ?_
          refine WC.region ?_
          refine WL.pure (v := vI (nx1 : Int)) 47 rfl (Nat.le_of_ble_eq_true rfl) rfl rfl (by kernel_rfl) ?_
          refine WL.pure (v := vI (nx1 : Int)) 7 rfl (Nat.le_of_ble_eq_true rfl) rfl rfl (by kernel_rfl) ?_
          refine WL.nil ?_
          refine WQ.then ?_
          refine hK29 _ _ _ ?_
          refine WC.seq fun K30 hK30 => ?_
          refine WC.region ?_
          refine WL.pure (v := .slice (some ⟨bb, oo, none⟩) n cap) 49 rfl (Nat.le_of_ble_eq_true rfl) rfl rfl (by kernel_rfl) ?_
          refine WL.pure (v := vI (nx1 : Int)) 50 rfl (Nat.le_of_ble_eq_true rfl) rfl rfl (by kernel_rfl) ?_
          refine WL.pure (v := vI ((nx1 + 1 : Nat) : Int)) 51 rfl (Nat.le_of_ble_eq_true rfl) rfl rfl (x_add (Z := ((nx1 + 1 : Nat) : Int)) rfl rfl rfl (by omega) (by omega) (by omega)) ?_
          refine WL.call (f := 79) (args := #[.slice (some ⟨bb, oo, none⟩) n cap, vI ((nx1 + 1 : Nat) : Int)]) 52 rfl (Nat.le_of_ble_eq_true rfl) rfl rfl (by kernel_rfl) ?_
          refine (hp (nx1 + 1) (by omega) (by omega) _ (hIn.below (HP.below hH7))).mono ?_
          rintro e w31 ⟨nx2, e2, rfl, hP2, hb32⟩
          refine ⟨_, rfl, ?_⟩
          have hH33 : HP Tr w _ [] := HP.call hH7 hb32
          refine WL.pure (v := .tuple #[vI (nx2 : Int), vI e2]) 48 rfl (Nat.le_of_ble_eq_true rfl) rfl rfl (by kernel_rfl) ?_
          refine WL.pure (v := vI (nx2 : Int)) 53 rfl (Nat.le_of_ble_eq_true rfl) rfl rfl (by kernel_rfl) ?_
          refine WL.pure (v := vI e2) 54 rfl (Nat.le_of_ble_eq_true rfl) rfl rfl (by kernel_rfl) ?_
          refine WL.pure (v := vI (nx2 : Int)) 10 rfl (Nat.le_of_ble_eq_true rfl) rfl rfl (by kernel_rfl) ?_
          refine WL.pure (v := vI e2) 11 rfl (Nat.le_of_ble_eq_true rfl) rfl rfl (by kernel_rfl) ?_
          refine WL.nil ?_
          refine WQ.then ?_
          refine hK30 _ _ _ ?_
          refine WC.sub (l' := [(0, .slice (some ⟨bb, oo, none⟩) n cap), (1, vI (k : Int)), (4, vI 0), (5, vI 0), (6, vI 0), (7, vI (nx1 : Int)), (8, vI (nx1 : Int)), (9, vI (d1 : Int)), (10, vI (nx2 : Int)), (11, vI e2), (26, .bool false), (32, .bool true), (46, .bool false)]) ⟨rfl, rfl, rfl, rfl, rfl, rfl, rfl, rfl, rfl, rfl, rfl, rfl, rfl, trivial⟩ ?_
          refine WC.seq fun K34 hK34 => ?_
          refine WC.seq fun K35 hK35 => ?_
          refine WC.region ?_
          refine WL.pure (v := vI e2) 55 rfl (Nat.le_of_ble_eq_true rfl) rfl rfl (by kernel_rfl) ?_
          by_cases hd2 : e2 < 0
          ·
            refine WL.pure (v := .bool true) 56 rfl (Nat.le_of_ble_eq_true rfl) rfl rfl (x_lss rfl rfl rfl (dT (hd2))) ?_
            refine WL.pure (v := .bool true) 57 rfl (Nat.le_of_ble_eq_true rfl) rfl rfl (by kernel_rfl) ?_
            refine WL.pass 58 rfl (Nat.le_of_ble_eq_true rfl) rfl ?_
            refine WL.pass 59 rfl (Nat.le_of_ble_eq_true rfl) rfl ?_
            refine WL.pass 60 rfl (Nat.le_of_ble_eq_true rfl) rfl ?_
            refine WL.pass 61 rfl (Nat.le_of_ble_eq_true rfl) rfl ?_
            refine WL.pure (v := .bool true) 62 rfl (Nat.le_of_ble_eq_true rfl) rfl rfl (by kernel_rfl) ?_
            refine WL.pure (v := .bool true) 63 rfl (Nat.le_of_ble_eq_true rfl) rfl rfl (by kernel_rfl) ?_
            refine WL.pass 64 rfl (Nat.le_of_ble_eq_true rfl) rfl ?_
            refine WL.pass 65 rfl (Nat.le_of_ble_eq_true rfl) rfl ?_
            refine WL.pass 66 rfl (Nat.le_of_ble_eq_true rfl) rfl ?_
            refine WL.pass 67 rfl (Nat.le_of_ble_eq_true rfl) rfl ?_
            refine WL.pass 68 rfl (Nat.le_of_ble_eq_true rfl) rfl ?_
            refine WL.pass 69 rfl (Nat.le_of_ble_eq_true rfl) rfl ?_
            refine WL.pure (v := .bool true) 70 rfl (Nat.le_of_ble_eq_true rfl) rfl rfl (by kernel_rfl) ?_
            refine WL.nil ?_
            refine WQ.then ?_
            refine hK35 _ _ _ ?_
            refine WC.sub (l' := [(0, .slice (some ⟨bb, oo, none⟩) n cap), (1, vI (k : Int)), (4, vI 0), (5, vI 0), (6, vI 0), (7, vI (nx1 : Int)), (8, vI (nx1 : Int)), (9, vI (d1 : Int)), (10, vI (nx2 : Int)), (11, vI e2), (26, .bool false), (32, .bool true), (46, .bool false), (70, .bool true)]) ⟨rfl, rfl, rfl, rfl, rfl, rfl, rfl, rfl, rfl, rfl, rfl, rfl, rfl, rfl, trivial⟩ ?_
            refine WC.yes rfl ?_
            refine WC.seq fun K36 hK36 => ?_
            refine WC.region ?_
            refine WL.pure (v := vI 0) 4 rfl (Nat.le_of_ble_eq_true rfl) rfl rfl (by kernel_rfl) ?_
            refine WL.pure (v := vI 0) 5 rfl (Nat.le_of_ble_eq_true rfl) rfl rfl (by kernel_rfl) ?_
            refine WL.pure (v := vI (-1)) 6 rfl (Nat.le_of_ble_eq_true rfl) rfl rfl (by kernel_rfl) ?_
            refine WL.nil ?_
            refine WQ.then ?_
            refine hK36 _ _ _ ?_
            refine WC.ret ?_
            refine WQ.thenRet ?_
            refine WQ.thenRet ?_
            refine WQ.ret3 4 5 6 rfl rfl rfl rfl ?_
            exact ⟨0, 0, -1, rfl, .inl ⟨rfl, rfl, rfl, Fail_alt (two_yes (by omega)) hS1 (by omega) h34 (PR_bad hP2 hd2)⟩, HP.below hH33⟩
          ·
            obtain ⟨d2, rfl, hx2, hn2, ht2, hS2⟩ := PR_ok hP2 hd2
            refine WL.pure (v := .bool false) 56 rfl (Nat.le_of_ble_eq_true rfl) rfl rfl (x_lss rfl rfl rfl (dF (hd2))) ?_
            refine WL.pure (v := .bool false) 57 rfl (Nat.le_of_ble_eq_true rfl) rfl rfl (by kernel_rfl) ?_
            refine WL.pure (v := vI (nx2 : Int)) 58 rfl (Nat.le_of_ble_eq_true rfl) rfl rfl (by kernel_rfl) ?_
            refine WL.pure (v := .slice (some ⟨bb, oo, none⟩) n cap) 59 rfl (Nat.le_of_ble_eq_true rfl) rfl rfl (by kernel_rfl) ?_
            refine WL.pure (v := vI (n : Int)) 60 rfl (Nat.le_of_ble_eq_true rfl) rfl rfl (by kernel_rfl) ?_
            by_cases hnx2 : (n : Int) ≤ (nx2 : Int)
            ·
              refine WL.pure (v := .bool true) 61 rfl (Nat.le_of_ble_eq_true rfl) rfl rfl (x_geq rfl rfl rfl (dT (hnx2))) ?_
              refine WL.pure (v := .bool true) 62 rfl (Nat.le_of_ble_eq_true rfl) rfl rfl (by kernel_rfl) ?_
              refine WL.pure (v := .bool true) 63 rfl (Nat.le_of_ble_eq_true rfl) rfl rfl (by kernel_rfl) ?_
              refine WL.pass 64 rfl (Nat.le_of_ble_eq_true rfl) rfl ?_
              refine WL.pass 65 rfl (Nat.le_of_ble_eq_true rfl) rfl ?_
              refine WL.pass 66 rfl (Nat.le_of_ble_eq_true rfl) rfl ?_
              refine WL.pass 67 rfl (Nat.le_of_ble_eq_true rfl) rfl ?_
              refine WL.pass 68 rfl (Nat.le_of_ble_eq_true rfl) rfl ?_
              refine WL.pass 69 rfl (Nat.le_of_ble_eq_true rfl) rfl ?_
              refine WL.pure (v := .bool true) 70 rfl (Nat.le_of_ble_eq_true rfl) rfl rfl (by kernel_rfl) ?_
              refine WL.nil ?_
              refine WQ.then ?_
              refine hK35 _ _ _ ?_
              refine WC.sub (l' := [(0, .slice (some ⟨bb, oo, none⟩) n cap), (1, vI (k : Int)), (4, vI 0), (5, vI 0), (6, vI 0), (7, vI (nx1 : Int)), (8, vI (nx1 : Int)), (9, vI (d1 : Int)), (10, vI (nx2 : Int)), (11, vI (d2 : Int)), (26, .bool false), (32, .bool true), (46, .bool false), (70, .bool true)]) ⟨rfl, rfl, rfl, rfl, rfl, rfl, rfl, rfl, rfl, rfl, rfl, rfl, rfl, rfl, trivial⟩ ?_
              refine WC.yes rfl ?_
              refine WC.seq fun K37 hK37 => ?_
              refine WC.region ?_
              refine WL.pure (v := vI 0) 4 rfl (Nat.le_of_ble_eq_true rfl) rfl rfl (by kernel_rfl) ?_
              refine WL.pure (v := vI 0) 5 rfl (Nat.le_of_ble_eq_true rfl) rfl rfl (by kernel_rfl) ?_
              refine WL.pure (v := vI (-1)) 6 rfl (Nat.le_of_ble_eq_true rfl) rfl rfl (by kernel_rfl) ?_
              refine WL.nil ?_
              refine WQ.then ?_
              refine hK37 _ _ _ ?_
              refine WC.ret ?_
              refine WQ.thenRet ?_
              refine WQ.thenRet ?_
              refine WQ.ret3 4 5 6 rfl rfl rfl rfl ?_
              exact ⟨0, 0, -1, rfl, .inl ⟨rfl, rfl, rfl, Fail_alt_end (d2 := d2) (two_yes (by omega)) hS1 (by omega) h34 (nend hS2 (by omega))⟩, HP.below hH33⟩
            ·
              refine WL.pure (v := .bool false) 61 rfl (Nat.le_of_ble_eq_true rfl) rfl rfl (x_geq rfl rfl rfl (dF (hnx2))) ?_
              refine WL.pure (v := .bool false) 62 rfl (Nat.le_of_ble_eq_true rfl) rfl rfl (by kernel_rfl) ?_
              refine WL.pure (v := .bool false) 63 rfl (Nat.le_of_ble_eq_true rfl) rfl rfl (by kernel_rfl) ?_
              refine WL.pure (v := .slice (some ⟨bb, oo, none⟩) n cap) 64 rfl (Nat.le_of_ble_eq_true rfl) rfl rfl (by kernel_rfl) ?_
              refine WL.pure (v := vI (nx2 : Int)) 65 rfl (Nat.le_of_ble_eq_true rfl) rfl rfl (by kernel_rfl) ?_
              refine WL.pure (v := vP bb (oo + nx2 * 3)) 66 rfl (Nat.le_of_ble_eq_true rfl) rfl rfl (x_idx (nx2) (oo + nx2 * 3) rfl rfl rfl Try.underlying42 sz75 (by omega) (by omega) (by omega)) ?_
              refine WL.pure (v := vP bb (oo + nx2 * 3)) 67 rfl (Nat.le_of_ble_eq_true rfl) rfl rfl (by kernel_rfl) ?_
              refine WL.pure (v := vI (c nx2)) 68 rfl (Nat.le_of_ble_eq_true rfl) rfl rfl (x_load rfl rfl Try.underlying3 rfl ((HP.oldRange hH33 trivial (hrow nx2 (by omega))) 0 _ rfl)) ?_
              by_cases h35 : c nx2 ≠ 35
              ·
                refine WL.pure (v := .bool true) 69 rfl (Nat.le_of_ble_eq_true rfl) rfl rfl (x_neq rfl rfl rfl (dT (h35))) ?_
                refine WL.pure (v := .bool true) 70 rfl (Nat.le_of_ble_eq_true rfl) rfl rfl (by kernel_rfl) ?_
                refine WL.nil ?_
                refine WQ.then ?_
                refine hK35 _ _ _ ?_
                refine WC.sub (l' := [(0, .slice (some ⟨bb, oo, none⟩) n cap), (1, vI (k : Int)), (4, vI 0), (5, vI 0), (6, vI 0), (7, vI (nx1 : Int)), (8, vI (nx1 : Int)), (9, vI (d1 : Int)), (10, vI (nx2 : Int)), (11, vI (d2 : Int)), (26, .bool false), (32, .bool true), (46, .bool false), (70, .bool true)]) ⟨rfl, rfl, rfl, rfl, rfl, rfl, rfl, rfl, rfl, rfl, rfl, rfl, rfl, rfl, trivial⟩ ?_
                refine WC.yes rfl ?_
                refine WC.seq fun K38 hK38 => ?_
                refine WC.region ?_
                refine WL.pure (v := vI 0) 4 rfl (Nat.le_of_ble_eq_true rfl) rfl rfl (by kernel_rfl) ?_
                refine WL.pure (v := vI 0) 5 rfl (Nat.le_of_ble_eq_true rfl) rfl rfl (by kernel_rfl) ?_
                refine WL.pure (v := vI (-1)) 6 rfl (Nat.le_of_ble_eq_true rfl) rfl rfl (by kernel_rfl) ?_
                refine WL.nil ?_
                refine WQ.then ?_
                refine hK38 _ _ _ ?_
                refine WC.ret ?_
                refine WQ.thenRet ?_
                refine WQ.thenRet ?_
                refine WQ.ret3 4 5 6 rfl rfl rfl rfl ?_
                exact ⟨0, 0, -1, rfl, .inl ⟨rfl, rfl, rfl, Fail_alt_else (two_yes (by omega)) hS1 (by omega) h34 hS2 (by omega) (by have := ht2 (by omega); omega) (by omega)⟩, HP.below hH33⟩
              ·
                refine WL.pure (v := .bool false) 69 rfl (Nat.le_of_ble_eq_true rfl) rfl rfl (x_neq rfl rfl rfl (dF (h35))) ?_
                refine WL.pure (v := .bool false) 70 rfl (Nat.le_of_ble_eq_true rfl) rfl rfl (by kernel_rfl) ?_
                refine WL.nil ?_
                refine WQ.then ?_
                refine hK35 _ _ _ ?_
                refine WC.sub (l' := [(0, .slice (some ⟨bb, oo, none⟩) n cap), (1, vI (k : Int)), (4, vI 0), (5, vI 0), (6, vI 0), (7, vI (nx1 : Int)), (8, vI (nx1 : Int)), (9, vI (d1 : Int)), (10, vI (nx2 : Int)), (11, vI (d2 : Int)), (26, .bool false), (32, .bool true), (46, .bool false), (70, .bool false)]) ⟨rfl, rfl, rfl, rfl, rfl, rfl, rfl, rfl, rfl, rfl, rfl, rfl, rfl, rfl, trivial⟩ ?_
                refine WC.no rfl ?_
                refine WC.skip ?_
                refine WQ.then ?_
                refine hK34 _ _ _ ?_
                refine WC.seq fun K39 hK39 => ?_
                refine WC.region ?_
                refine WL.pure (v := vI (nx2 : Int)) 71 rfl (Nat.le_of_ble_eq_true rfl) rfl rfl (by kernel_rfl) ?_
                refine WL.pure (v := vI (nx2 : Int)) 8 rfl (Nat.le_of_ble_eq_true rfl) rfl rfl (by kernel_rfl) ?_
                refine WL.nil ?_
                refine WQ.then ?_
                refine hK39 _ _ _ ?_
                refine WC.region ?_
                refine WL.pure (v := vI (d1 : Int)) 72 rfl (Nat.le_of_ble_eq_true rfl) rfl rfl (by kernel_rfl) ?_
                refine WL.pure (v := vI (d2 : Int)) 73 rfl (Nat.le_of_ble_eq_true rfl) rfl rfl (by kernel_rfl) ?_
                refine WL.pure (v := vI ((max d1 d2 : Nat) : Int)) 74 rfl (Nat.le_of_ble_eq_true rfl) rfl rfl (x_max (Z := ((max d1 d2 : Nat) : Int)) (t := 0) rfl rfl rfl (by split <;> omega)) ?_
                refine WL.pure (v := vI ((max d1 d2 : Nat) : Int)) 9 rfl (Nat.le_of_ble_eq_true rfl) rfl rfl (by kernel_rfl) ?_
                refine WL.nil ?_
                refine WQ.then ?_
                refine hK12 _ _ _ ?_
                refine WC.sub (l' := [(0, .slice (some ⟨bb, oo, none⟩) n cap), (1, vI (k : Int)), (4, vI 0), (5, vI 0), (6, vI 0), (7, vI (nx1 : Int)), (8, vI (nx2 : Int)), (9, vI ((max d1 d2 : Nat) : Int)), (10, vI (nx2 : Int)), (11, vI (d2 : Int)), (26, .bool false), (32, .bool true), (46, .bool false), (70, .bool false)]) ⟨rfl, rfl, rfl, rfl, rfl, rfl, rfl, rfl, rfl, rfl, rfl, rfl, rfl, rfl, trivial⟩ ?_
                refine WC.seq fun K40 hK40 => ?_
                refine WC.region ?_
                refine WL.pure (v := vI (nx1 : Int)) 81 rfl (Nat.le_of_ble_eq_true rfl) rfl rfl (by kernel_rfl) ?_
                refine WL.pure (v := vI (nx2 : Int)) 82 rfl (Nat.le_of_ble_eq_true rfl) rfl rfl (by kernel_rfl) ?_
                refine WL.pure (v := vI ((max d1 d2 : Nat) : Int)) 83 rfl (Nat.le_of_ble_eq_true rfl) rfl rfl (by kernel_rfl) ?_
                refine WL.pure (v := vI (nx1 : Int)) 4 rfl (Nat.le_of_ble_eq_true rfl) rfl rfl (by kernel_rfl) ?_
                refine WL.pure (v := vI (nx2 : Int)) 5 rfl (Nat.le_of_ble_eq_true rfl) rfl rfl (by kernel_rfl) ?_
                refine WL.pure (v := vI ((max d1 d2 : Nat) : Int)) 6 rfl (Nat.le_of_ble_eq_true rfl) rfl rfl (by kernel_rfl) ?_
                refine WL.nil ?_
                refine WQ.then ?_
                refine hK40 _ _ _ ?_
                refine WC.sub (l' := [(0, .slice (some ⟨bb, oo, none⟩) n cap), (1, vI (k : Int)), (4, vI (nx1 : Int)), (5, vI (nx2 : Int)), (6, vI ((max d1 d2 : Nat) : Int)), (7, vI (nx1 : Int)), (8, vI (nx2 : Int)), (9, vI ((max d1 d2 : Nat) : Int)), (10, vI (nx2 : Int)), (11, vI (d2 : Int)), (26, .bool false), (32, .bool true), (46, .bool false), (70, .bool false)]) ⟨rfl, rfl, rfl, rfl, rfl, rfl, rfl, rfl, rfl, rfl, rfl, rfl, rfl, rfl, trivial⟩ ?_
                refine WC.ret ?_
                refine WQ.ret3 4 5 6 rfl rfl rfl rfl ?_
                exact ⟨(nx1 : Int), nx2, ((max d1 d2 : Nat) : Int), rfl, .inr ⟨by omega, by omega, by omega, by simpa using BraS_alt (two_yes (by omega)) hS1 (by omega) h34 hS2 (by omega) (by omega)⟩, HP.below hH33⟩
      ·
        refine WL.pure (v := .bool false) 32 rfl (Nat.le_of_ble_eq_true rfl) rfl rfl (x_eql rfl rfl rfl (dF (h34))) ?_
        refine WL.nil ?_
        refine WQ.then ?_
        refine hK13 _ _ _ ?_
        refine WC.no rfl ?_
        refine WC.seq fun K41 hK41 => ?_
        refine WC.region ?_
        refine WL.pure (v := .slice (some ⟨bb, oo, none⟩) n cap) 75 rfl (Nat.le_of_ble_eq_true rfl) rfl rfl (by kernel_rfl) ?_
        refine WL.pure (v := vI (k : Int)) 76 rfl (Nat.le_of_ble_eq_true rfl) rfl rfl (by kernel_rfl) ?_
        refine WL.pure (v := vP bb (oo + k * 3)) 77 rfl (Nat.le_of_ble_eq_true rfl) rfl rfl (x_idx (k) (oo + k * 3) rfl rfl rfl Try.underlying42 sz75 (by omega) (by omega) (by omega)) ?_
        refine WL.pure (v := vP bb (oo + k * 3)) 78 rfl (Nat.le_of_ble_eq_true rfl) rfl rfl (by kernel_rfl) ?_
        refine WL.pure (v := vI (c k)) 79 rfl (Nat.le_of_ble_eq_true rfl) rfl rfl (x_load rfl rfl Try.underlying3 rfl ((HP.oldRange hH7 trivial (hrow k (by omega))) 0 _ rfl)) ?_
        by_cases h33 : c k = 33
        ·
          refine WL.pure (v := .bool true) 80 rfl (Nat.le_of_ble_eq_true rfl) rfl rfl (x_eql rfl rfl rfl (dT (h33))) ?_
          refine WL.nil ?_
          refine WQ.then ?_
          refine hK41 _ _ _ ?_
          refine WC.sub (l' := [(0, .slice (some ⟨bb, oo, none⟩) n cap), (1, vI (k : Int)), (4, vI 0), (5, vI 0), (6, vI 0), (7, vI (-1)), (8, vI (nx1 : Int)), (9, vI (d1 : Int)), (26, .bool false), (32, .bool false), (80, .bool true)]) ⟨rfl, rfl, rfl, rfl, rfl, rfl, rfl, rfl, rfl, rfl, rfl, trivial⟩ ?_
          refine WC.yes rfl ?_
          refine WC.seq fun K42 hK42 => ?_
          refine WC.region ?_
          refine WL.pure (v := vI 0) 4 rfl (Nat.le_of_ble_eq_true rfl) rfl rfl (by kernel_rfl) ?_
          refine WL.pure (v := vI 0) 5 rfl (Nat.le_of_ble_eq_true rfl) rfl rfl (by kernel_rfl) ?_
          refine WL.pure (v := vI (-1)) 6 rfl (Nat.le_of_ble_eq_true rfl) rfl rfl (by kernel_rfl) ?_
          refine WL.nil ?_
          refine WQ.then ?_
          refine hK42 _ _ _ ?_
          refine WC.ret ?_
          refine WQ.thenRet ?_
          refine WQ.ret3 4 5 6 rfl rfl rfl rfl ?_
          exact ⟨0, 0, -1, rfl, .inl ⟨rfl, rfl, rfl, Fail_try hO hS1 (by omega) (by have := ht1 (by omega); omega) (by omega) h33⟩, HP.below hH7⟩
        ·
          refine WL.pure (v := .bool false) 80 rfl (Nat.le_of_ble_eq_true rfl) rfl rfl (x_eql rfl rfl rfl (dF (h33))) ?_
          refine WL.nil ?_
          refine WQ.then ?_
          refine hK41 _ _ _ ?_
          refine WC.sub (l' := [(0, .slice (some ⟨bb, oo, none⟩) n cap), (1, vI (k : Int)), (4, vI 0), (5, vI 0), (6, vI 0), (7, vI (-1)), (8, vI (nx1 : Int)), (9, vI (d1 : Int)), (26, .bool false), (32, .bool false), (80, .bool false)]) ⟨rfl, rfl, rfl, rfl, rfl, rfl, rfl, rfl, rfl, rfl, rfl, trivial⟩ ?_
          refine WC.no rfl ?_
          refine WC.skip ?_
          refine WQ.then ?_
          refine hK12 _ _ _ ?_
          refine WC.seq fun K43 hK43 => ?_
          refine WC.region ?_
          refine WL.pure (v := vI (-1)) 81 rfl (Nat.le_of_ble_eq_true rfl) rfl rfl (by kernel_rfl) ?_
          refine WL.pure (v := vI (nx1 : Int)) 82 rfl (Nat.le_of_ble_eq_true rfl) rfl rfl (by kernel_rfl) ?_
          refine WL.pure (v := vI (d1 : Int)) 83 rfl (Nat.le_of_ble_eq_true rfl) rfl rfl (by kernel_rfl) ?_
          refine WL.pure (v := vI (-1)) 4 rfl (Nat.le_of_ble_eq_true rfl) rfl rfl (by kernel_rfl) ?_
          refine WL.pure (v := vI (nx1 : Int)) 5 rfl (Nat.le_of_ble_eq_true rfl) rfl rfl (by kernel_rfl) ?_
          refine WL.pure (v := vI (d1 : Int)) 6 rfl (Nat.le_of_ble_eq_true rfl) rfl rfl (by kernel_rfl) ?_
          refine WL.nil ?_
          refine WQ.then ?_
          refine hK43 _ _ _ ?_
          refine WC.sub (l' := [(0, .slice (some ⟨bb, oo, none⟩) n cap), (1, vI (k : Int)), (4, vI (-1)), (5, vI (nx1 : Int)), (6, vI (d1 : Int)), (7, vI (-1)), (8, vI (nx1 : Int)), (9, vI (d1 : Int)), (26, .bool false), (32, .bool false), (80, .bool false)]) ⟨rfl, rfl, rfl, rfl, rfl, rfl, rfl, rfl, rfl, rfl, rfl, trivial⟩ ?_
          refine WC.ret ?_
          refine WQ.ret3 4 5 6 rfl rfl rfl rfl ?_
          exact ⟨-1, nx1, (d1 : Int), rfl, .inr ⟨by omega, by omega, by omega, by simpa using BraS_plain hO hS1 (by omega) (by have := ht1 (by omega); omega) (by omega)⟩, HP.below hH7⟩
set_option maxRecDepth 20000 in
set_option maxHeartbeats 4000000 in
theorem par_any (p : Option Addr) (n cap : Nat) (c A B : Nat → Int) (at' : Nat) (hn : n ≤ 400) (hat : at' ≤ n) (hb : ∀ k, at' ≤ k → k < n → opn (c k) = true → BraC p n cap c A B k) (w : World) (hIn : InC w p n c A B) :
    Calls Try.prog 79 #[.slice p n cap, vI (at' : Int)] w fun e w' => ∃ (nx : Nat) (d : Int), e = .returned (.tuple #[.int .i64 (nx : Int), .int .i64 d]) ∧ PR c n at' nx d ∧ Below w.heap.size w w' := by
  refine calls_of Try.func79 rfl (m := 56) rfl [(0, .slice p n cap), (1, vI (at' : Int))] (Fr_enter [.slice p n cap, vI (at' : Int)] 56 (Nat.le_of_ble_eq_true rfl)) ?_
  have hH1 : HP Tr w w [] := HP.refl w
  refine WC.seq fun K2 hK2 => ?_
  refine WC.region ?_
  refine WL.pure (v := vI 0) 4 rfl (Nat.le_of_ble_eq_true rfl) rfl rfl (by kernel_rfl) ?_
  refine WL.pure (v := vI 0) 5 rfl (Nat.le_of_ble_eq_true rfl) rfl rfl (by kernel_rfl) ?_
  refine WL.nil ?_
  refine WQ.then ?_
  refine hK2 _ _ _ ?_
  refine WC.seq fun K3 hK3 => ?_
  refine WC.region ?_
  refine WL.pure (v := vI 0) 6 rfl (Nat.le_of_ble_eq_true rfl) rfl rfl (by kernel_rfl) ?_
  refine WL.nil ?_
  refine WQ.then ?_
  refine hK3 _ _ _ ?_
  refine WC.seq fun K4 hK4 => ?_
  refine WC.block ?_
  refine WC.loop (fun kk0 ll0 ww0 => ∃ (j : Nat) (d : Nat), ll0 = [(0, .slice p n cap), (1, vI (j : Int)), (6, vI (d : Int))] ∧ kk0 = n - j ∧ (at' ≤ j) ∧ (j ≤ n) ∧ (d + at' ≤ j) ∧ (ParS c at' j d) ∧ HP Tr w ww0 []) (n - at') [(0, .slice p n cap), (1, vI (at' : Int)), (6, vI (0 : Int))] ⟨rfl, rfl, rfl, trivial⟩ ⟨at', 0, rfl, rfl, Nat.le_refl _, hat, by omega, ParS_nil _ _, hH1⟩ ?_
  rintro kk l w6 ⟨j, d, rfl, hkk, hj1, hj2, hjd, hP, hH7⟩ K5 hK5
  refine WC.seq fun K8 hK8 => ?_
  refine WC.seq fun K9 hK9 => ?_
  refine WC.region ?_
  refine WL.pure (v := vI (j : Int)) 10 rfl (Nat.le_of_ble_eq_true rfl) rfl rfl (by kernel_rfl) ?_
  refine WL.pure (v := .slice p n cap) 11 rfl (Nat.le_of_ble_eq_true rfl) rfl rfl (by kernel_rfl) ?_
  refine WL.pure (v := vI (n : Int)) 12 rfl (Nat.le_of_ble_eq_true rfl) rfl rfl (by kernel_rfl) ?_
  by_cases hlt : (j : Int) < (n : Int)
  ·
    obtain ⟨bb, oo, rfl, hrow⟩ := hIn (by omega)
    refine WL.pure (v := .bool true) 13 rfl (Nat.le_of_ble_eq_true rfl) rfl rfl (x_lss rfl rfl rfl (dT (hlt))) ?_
    refine WL.pure (v := .bool true) 14 rfl (Nat.le_of_ble_eq_true rfl) rfl rfl (by kernel_rfl) ?_
    refine WL.pure (v := .slice (some ⟨bb, oo, none⟩) n cap) 15 rfl (Nat.le_of_ble_eq_true rfl) rfl rfl (by kernel_rfl) ?_
    refine WL.pure (v := vI (j : Int)) 16 rfl (Nat.le_of_ble_eq_true rfl) rfl rfl (by kernel_rfl) ?_
    refine WL.pure (v := vP bb (oo + j * 3)) 17 rfl (Nat.le_of_ble_eq_true rfl) rfl rfl (x_idx (j) (oo + j * 3) rfl rfl rfl Try.underlying42 sz75 (by omega) (by omega) (by omega)) ?_
    refine WL.pure (v := vP bb (oo + j * 3)) 18 rfl (Nat.le_of_ble_eq_true rfl) rfl rfl (by kernel_rfl) ?_
    refine WL.pure (v := vI (c j)) 19 rfl (Nat.le_of_ble_eq_true rfl) rfl rfl (x_load rfl rfl Try.underlying3 rfl ((HP.oldRange hH7 trivial (hrow j (by omega))) 0 _ rfl)) ?_
    by_cases h34 : c j ≠ 34
    ·
      refine WL.pure (v := .bool true) 20 rfl (Nat.le_of_ble_eq_true rfl) rfl rfl (x_neq rfl rfl rfl (dT (h34))) ?_
      refine WL.pure (v := .bool true) 21 rfl (Nat.le_of_ble_eq_true rfl) rfl rfl (by kernel_rfl) ?_
      refine WL.pure (v := .bool true) 22 rfl (Nat.le_of_ble_eq_true rfl) rfl rfl (by kernel_rfl) ?_
      refine WL.pure (v := .slice (some ⟨bb, oo, none⟩) n cap) 23 rfl (Nat.le_of_ble_eq_true rfl) rfl rfl (by kernel_rfl) ?_
      refine WL.pure (v := vI (j : Int)) 24 rfl (Nat.le_of_ble_eq_true rfl) rfl rfl (by kernel_rfl) ?_
      refine WL.pure (v := vP bb (oo + j * 3)) 25 rfl (Nat.le_of_ble_eq_true rfl) rfl rfl (x_idx (j) (oo + j * 3) rfl rfl rfl Try.underlying42 sz75 (by omega) (by omega) (by omega)) ?_
      refine WL.pure (v := vP bb (oo + j * 3)) 26 rfl (Nat.le_of_ble_eq_true rfl) rfl rfl (by kernel_rfl) ?_
      refine WL.pure (v := vI (c j)) 27 rfl (Nat.le_of_ble_eq_true rfl) rfl rfl (x_load rfl rfl Try.underlying3 rfl ((HP.oldRange hH7 trivial (hrow j (by omega))) 0 _ rfl)) ?_
      by_cases h35 : c j ≠ 35
      ·
        refine WL.pure (v := .bool true) 28 rfl (Nat.le_of_ble_eq_true rfl) rfl rfl (x_neq rfl rfl rfl (dT (h35))) ?_
        refine WL.pure (v := .bool true) 29 rfl (Nat.le_of_ble_eq_true rfl) rfl rfl (by kernel_rfl) ?_
        refine WL.nil ?_
        refine WQ.then ?_
        refine hK9 _ _ _ ?_
        refine WC.sub (l' := [(0, .slice (some ⟨bb, oo, none⟩) n cap), (1, vI (j : Int)), (6, vI (d : Int)), (29, .bool true)]) ⟨rfl, rfl, rfl, rfl, trivial⟩ ?_
        refine WC.yes rfl ?_
        refine WC.skip ?_
        refine WQ.then ?_
        refine hK8 _ _ _ ?_
        refine WC.block ?_
        refine WC.seq fun K10 hK10 => ?_
        refine WC.seq fun K11 hK11 => ?_
        refine WC.region ?_
        refine WL.pure (v := .slice (some ⟨bb, oo, none⟩) n cap) 30 rfl (Nat.le_of_ble_eq_true rfl) rfl rfl (by kernel_rfl) ?_
        refine WL.pure (v := vI (j : Int)) 31 rfl (Nat.le_of_ble_eq_true rfl) rfl rfl (by kernel_rfl) ?_
        refine WL.pure (v := vP bb (oo + j * 3)) 32 rfl (Nat.le_of_ble_eq_true rfl) rfl rfl (x_idx (j) (oo + j * 3) rfl rfl rfl Try.underlying42 sz75 (by omega) (by omega) (by omega)) ?_
        refine WL.pure (v := vP bb (oo + j * 3)) 33 rfl (Nat.le_of_ble_eq_true rfl) rfl rfl (by kernel_rfl) ?_
        refine WL.pure (v := vI (c j)) 34 rfl (Nat.le_of_ble_eq_true rfl) rfl rfl (x_load rfl rfl Try.underlying3 rfl ((HP.oldRange hH7 trivial (hrow j (by omega))) 0 _ rfl)) ?_
        refine WL.call (f := 77) (args := #[vI (c j)]) 35 rfl (Nat.le_of_ble_eq_true rfl) rfl rfl (by kernel_rfl) ?_
        refine (rOpens_any _ _).mono ?_
        rintro e w12 ⟨rfl, rfl⟩
        refine ⟨_, rfl, ?_⟩
        refine WL.pure (v := .bool (!(opn (c j)))) 36 rfl (Nat.le_of_ble_eq_true rfl) rfl rfl (by kernel_rfl) ?_
        refine WL.nil ?_
        refine WQ.then ?_
        refine hK11 _ _ _ ?_
        refine WC.sub (l' := [(0, .slice (some ⟨bb, oo, none⟩) n cap), (1, vI (j : Int)), (6, vI (d : Int)), (29, .bool true), (36, .bool (!(opn (c j))))]) ⟨rfl, rfl, rfl, rfl, rfl, trivial⟩ ?_
        rcases Bool.eq_false_or_eq_true (opn (c j)) with hO | hO
        ·
          refine WC.no (congrArg (fun b => some (Value.bool (!b))) hO) ?_
          refine WC.skip ?_
          refine WQ.then ?_
          refine hK10 _ _ _ ?_
          refine WC.seq fun K13 hK13 => ?_
          refine WC.region ?_
          refine WL.pure (v := .slice (some ⟨bb, oo, none⟩) n cap) 40 rfl (Nat.le_of_ble_eq_true rfl) rfl rfl (by kernel_rfl) ?_
          refine WL.pure (v := vI (j : Int)) 41 rfl (Nat.le_of_ble_eq_true rfl) rfl rfl (by kernel_rfl) ?_
          refine WL.call (f := 80) (args := #[.slice (some ⟨bb, oo, none⟩) n cap, vI (j : Int)]) 42 rfl (Nat.le_of_ble_eq_true rfl) rfl rfl (by kernel_rfl) ?_
          refine (hb j (by omega) (by omega) hO _ (hIn.below (HP.below hH7))).mono ?_
          rintro e w14 ⟨a1, e1, x1, rfl, hBR, hb15⟩
          refine ⟨_, rfl, ?_⟩
          have hH16 : HP Tr w _ [] := HP.call hH7 hb15
          refine WL.pure (v := .tuple #[vI a1, vI (e1 : Int), vI x1]) 39 rfl (Nat.le_of_ble_eq_true rfl) rfl rfl (by kernel_rfl) ?_
          refine WL.pure (v := vI a1) 43 rfl (Nat.le_of_ble_eq_true rfl) rfl rfl (by kernel_rfl) ?_
          refine WL.pure (v := vI (e1 : Int)) 44 rfl (Nat.le_of_ble_eq_true rfl) rfl rfl (by kernel_rfl) ?_
          refine WL.pure (v := vI x1) 45 rfl (Nat.le_of_ble_eq_true rfl) rfl rfl (by kernel_rfl) ?_
          refine WL.pure (v := vI a1) 7 rfl (Nat.le_of_ble_eq_true rfl) rfl rfl (by kernel_rfl) ?_
          refine WL.pure (v := vI (e1 : Int)) 8 rfl (Nat.le_of_ble_eq_true rfl) rfl rfl (by kernel_rfl) ?_
          refine WL.pure (v := vI x1) 9 rfl (Nat.le_of_ble_eq_true rfl) rfl rfl (by kernel_rfl) ?_
          refine WL.nil ?_
          refine WQ.then ?_
          refine hK13 _ _ _ ?_
          refine WC.sub (l' := [(0, .slice (some ⟨bb, oo, none⟩) n cap), (1, vI (j : Int)), (6, vI (d : Int)), (8, vI (e1 : Int)), (9, vI x1), (29, .bool true), (36, .bool (!(opn (c j))))]) ⟨rfl, rfl, rfl, rfl, rfl, rfl, rfl, trivial⟩ ?_
          refine WC.seq fun K17 hK17 => ?_
          refine WC.seq fun K18 hK18 => ?_
          refine WC.region ?_
          refine WL.pure (v := vI x1) 46 rfl (Nat.le_of_ble_eq_true rfl) rfl rfl (by kernel_rfl) ?_
          by_cases hd : x1 < 0
          ·
            refine WL.pure (v := .bool true) 47 rfl (Nat.le_of_ble_eq_true rfl) rfl rfl (x_lss rfl rfl rfl (dT (hd))) ?_
            refine WL.nil ?_
            refine WQ.then ?_
            refine hK18 _ _ _ ?_
            refine WC.yes rfl ?_
            refine WC.seq fun K19 hK19 => ?_
            refine WC.region ?_
            refine WL.pure (v := vI 0) 4 rfl (Nat.le_of_ble_eq_true rfl) rfl rfl (by kernel_rfl) ?_
            refine WL.pure (v := vI (-1)) 5 rfl (Nat.le_of_ble_eq_true rfl) rfl rfl (by kernel_rfl) ?_
            refine WL.nil ?_
            refine WQ.then ?_
            refine hK19 _ _ _ ?_
            refine WC.ret ?_
            refine WQ.thenRet ?_
            refine WQ.inRet ?_
            refine WQ.thenRet ?_
            refine WQ.inRet ?_
            refine WQ.thenRet ?_
            refine WQ.ret2 4 5 rfl rfl rfl ?_
            exact ⟨0, -1, rfl, .inl ⟨rfl, rfl, Fail_par hP (BR_bad hBR hd)⟩, HP.below hH16⟩
          ·
            obtain ⟨d2, rfl, h1, h2, hBS⟩ := BR_ok hBR hd
            refine WL.pure (v := .bool false) 47 rfl (Nat.le_of_ble_eq_true rfl) rfl rfl (x_lss rfl rfl rfl (dF (hd))) ?_
            refine WL.nil ?_
            refine WQ.then ?_
            refine hK18 _ _ _ ?_
            refine WC.no rfl ?_
            refine WC.skip ?_
            refine WQ.then ?_
            refine hK17 _ _ _ ?_
            refine WC.seq fun K20 hK20 => ?_
            refine WC.region ?_
            refine WL.pure (v := vI (d : Int)) 48 rfl (Nat.le_of_ble_eq_true rfl) rfl rfl (by kernel_rfl) ?_
            refine WL.pure (v := vI (d2 : Int)) 49 rfl (Nat.le_of_ble_eq_true rfl) rfl rfl (by kernel_rfl) ?_
            refine WL.pure (v := vI ((d2 + 1 : Nat) : Int)) 50 rfl (Nat.le_of_ble_eq_true rfl) rfl rfl (x_add (Z := ((d2 + 1 : Nat) : Int)) rfl rfl rfl (by omega) (by omega) (by omega)) ?_
            refine WL.pure (v := vI ((max d (d2 + 1) : Nat) : Int)) 51 rfl (Nat.le_of_ble_eq_true rfl) rfl rfl (x_max (Z := ((max d (d2 + 1) : Nat) : Int)) (t := 0) rfl rfl rfl (by split <;> omega)) ?_
            refine WL.pure (v := vI ((max d (d2 + 1) : Nat) : Int)) 6 rfl (Nat.le_of_ble_eq_true rfl) rfl rfl (by kernel_rfl) ?_
            refine WL.nil ?_
            refine WQ.then ?_
            refine hK20 _ _ _ ?_
            refine WC.sub (l' := [(0, .slice (some ⟨bb, oo, none⟩) n cap), (1, vI (j : Int)), (6, vI ((max d (d2 + 1) : Nat) : Int)), (8, vI (e1 : Int)), (9, vI (d2 : Int)), (29, .bool true), (36, .bool (!(opn (c j)))), (47, .bool false)]) ⟨rfl, rfl, rfl, rfl, rfl, rfl, rfl, rfl, trivial⟩ ?_
            refine WC.region ?_
            refine WL.pure (v := vI (e1 : Int)) 52 rfl (Nat.le_of_ble_eq_true rfl) rfl rfl (by kernel_rfl) ?_
            refine WL.pure (v := vI ((e1 + 1 : Nat) : Int)) 53 rfl (Nat.le_of_ble_eq_true rfl) rfl rfl (x_add (Z := ((e1 + 1 : Nat) : Int)) rfl rfl rfl (by omega) (by omega) (by omega)) ?_
            refine WL.pure (v := vI ((e1 + 1 : Nat) : Int)) 1 rfl (Nat.le_of_ble_eq_true rfl) rfl rfl (by kernel_rfl) ?_
            refine WL.nil ?_
            refine WQ.inNormal ?_
            refine WQ.sub (l' := [(0, .slice (some ⟨bb, oo, none⟩) n cap), (1, vI ((e1 + 1 : Nat) : Int)), (6, vI ((max d (d2 + 1) : Nat) : Int))]) ⟨rfl, rfl, rfl, trivial⟩ ?_
            refine WQ.then (hK5 _ _ _ (by omega) ⟨e1 + 1, max d (d2 + 1), rfl, rfl, by omega, by omega, by omega, ParS_bra hP (by omega) hBS, hH16⟩)
        ·
          refine WC.yes (congrArg (fun b => some (Value.bool (!b))) hO) ?_
          refine WC.seq fun K21 hK21 => ?_
          refine WC.region ?_
          refine WL.pure (v := vI (j : Int)) 37 rfl (Nat.le_of_ble_eq_true rfl) rfl rfl (by kernel_rfl) ?_
          refine WL.pure (v := vI ((j + 1 : Nat) : Int)) 38 rfl (Nat.le_of_ble_eq_true rfl) rfl rfl (x_add (Z := ((j + 1 : Nat) : Int)) rfl rfl rfl (by omega) (by omega) (by omega)) ?_
          refine WL.pure (v := vI ((j + 1 : Nat) : Int)) 1 rfl (Nat.le_of_ble_eq_true rfl) rfl rfl (by kernel_rfl) ?_
          refine WL.nil ?_
          refine WQ.then ?_
          refine hK21 _ _ _ ?_
          refine WC.exit ?_
          refine WQ.thenExit ?_
          refine WQ.inExit ?_
          refine WQ.sub (l' := [(0, .slice (some ⟨bb, oo, none⟩) n cap), (1, vI ((j + 1 : Nat) : Int)), (6, vI (d : Int))]) ⟨rfl, rfl, rfl, trivial⟩ ?_
          refine WQ.then (hK5 _ _ _ (by omega) ⟨j + 1, d, rfl, rfl, by omega, by omega, by omega, ParS_other hP (by omega) hO h34 h35, hH7⟩)
      ·
        refine WL.pure (v := .bool false) 28 rfl (Nat.le_of_ble_eq_true rfl) rfl rfl (x_neq rfl rfl rfl (dF (h35))) ?_
        refine WL.pure (v := .bool false) 29 rfl (Nat.le_of_ble_eq_true rfl) rfl rfl (by kernel_rfl) ?_
        refine WL.nil ?_
        refine WQ.then ?_
        refine hK9 _ _ _ ?_
        refine WC.sub (l' := [(0, .slice (some ⟨bb, oo, none⟩) n cap), (1, vI (j : Int)), (6, vI (d : Int)), (29, .bool false)]) ⟨rfl, rfl, rfl, rfl, trivial⟩ ?_
        refine WC.no rfl ?_
        refine WC.exit ?_
        refine WQ.thenExit ?_
        refine WQ.thenExit ?_
        refine WQ.inExit ?_
        refine WQ.then ?_
        refine hK4 _ _ _ ?_
        refine WC.seq fun K22 hK22 => ?_
        refine WC.region ?_
        refine WL.pure (v := vI (j : Int)) 54 rfl (Nat.le_of_ble_eq_true rfl) rfl rfl (by kernel_rfl) ?_
        refine WL.pure (v := vI (d : Int)) 55 rfl (Nat.le_of_ble_eq_true rfl) rfl rfl (by kernel_rfl) ?_
        refine WL.pure (v := vI (j : Int)) 4 rfl (Nat.le_of_ble_eq_true rfl) rfl rfl (by kernel_rfl) ?_
        refine WL.pure (v := vI (d : Int)) 5 rfl (Nat.le_of_ble_eq_true rfl) rfl rfl (by kernel_rfl) ?_
        refine WL.nil ?_
        refine WQ.then ?_
        refine hK22 _ _ _ ?_
        refine WC.ret ?_
        refine WQ.ret2 4 5 rfl rfl rfl ?_
        exact ⟨j, (d : Int), rfl, .inr ⟨by omega, by omega, by omega, fun hq => by omega, by simpa using hP⟩, HP.below hH7⟩
    ·
      refine WL.pure (v := .bool false) 20 rfl (Nat.le_of_ble_eq_true rfl) rfl rfl (x_neq rfl rfl rfl (dF (h34))) ?_
      refine WL.pure (v := .bool false) 21 rfl (Nat.le_of_ble_eq_true rfl) rfl rfl (by kernel_rfl) ?_
      refine WL.pure (v := .bool false) 22 rfl (Nat.le_of_ble_eq_true rfl) rfl rfl (by kernel_rfl) ?_
      refine WL.pass 23 rfl (Nat.le_of_ble_eq_true rfl) rfl ?_
      refine WL.pass 24 rfl (Nat.le_of_ble_eq_true rfl) rfl ?_
      refine WL.pass 25 rfl (Nat.le_of_ble_eq_true rfl) rfl ?_
      refine WL.pass 26 rfl (Nat.le_of_ble_eq_true rfl) rfl ?_
      refine WL.pass 27 rfl (Nat.le_of_ble_eq_true rfl) rfl ?_
      refine WL.pass 28 rfl (Nat.le_of_ble_eq_true rfl) rfl ?_
      refine WL.pure (v := .bool false) 29 rfl (Nat.le_of_ble_eq_true rfl) rfl rfl (by kernel_rfl) ?_
      refine WL.nil ?_
      refine WQ.then ?_
      refine hK9 _ _ _ ?_
      refine WC.sub (l' := [(0, .slice (some ⟨bb, oo, none⟩) n cap), (1, vI (j : Int)), (6, vI (d : Int)), (29, .bool false)]) ⟨rfl, rfl, rfl, rfl, trivial⟩ ?_
      refine WC.no rfl ?_
      refine WC.exit ?_
      refine WQ.thenExit ?_
      refine WQ.thenExit ?_
      refine WQ.inExit ?_
      refine WQ.then ?_
      refine hK4 _ _ _ ?_
      refine WC.seq fun K23 hK23 => ?_
      refine WC.region ?_
      refine WL.pure (v := vI (j : Int)) 54 rfl (Nat.le_of_ble_eq_true rfl) rfl rfl (by kernel_rfl) ?_
      refine WL.pure (v := vI (d : Int)) 55 rfl (Nat.le_of_ble_eq_true rfl) rfl rfl (by kernel_rfl) ?_
      refine WL.pure (v := vI (j : Int)) 4 rfl (Nat.le_of_ble_eq_true rfl) rfl rfl (by kernel_rfl) ?_
      refine WL.pure (v := vI (d : Int)) 5 rfl (Nat.le_of_ble_eq_true rfl) rfl rfl (by kernel_rfl) ?_
      refine WL.nil ?_
      refine WQ.then ?_
      refine hK23 _ _ _ ?_
      refine WC.ret ?_
      refine WQ.ret2 4 5 rfl rfl rfl ?_
      exact ⟨j, (d : Int), rfl, .inr ⟨by omega, by omega, by omega, fun hq => by omega, by simpa using hP⟩, HP.below hH7⟩
  ·
    refine WL.pure (v := .bool false) 13 rfl (Nat.le_of_ble_eq_true rfl) rfl rfl (x_lss rfl rfl rfl (dF (hlt))) ?_
    refine WL.pure (v := .bool false) 14 rfl (Nat.le_of_ble_eq_true rfl) rfl rfl (by kernel_rfl) ?_
    refine WL.pass 15 rfl (Nat.le_of_ble_eq_true rfl) rfl ?_
    refine WL.pass 16 rfl (Nat.le_of_ble_eq_true rfl) rfl ?_
    refine WL.pass 17 rfl (Nat.le_of_ble_eq_true rfl) rfl ?_
    refine WL.pass 18 rfl (Nat.le_of_ble_eq_true rfl) rfl ?_
    refine WL.pass 19 rfl (Nat.le_of_ble_eq_true rfl) rfl ?_
    refine WL.pass 20 rfl (Nat.le_of_ble_eq_true rfl) rfl ?_
    refine WL.pure (v := .bool false) 21 rfl (Nat.le_of_ble_eq_true rfl) rfl rfl (by kernel_rfl) ?_
    refine WL.pure (v := .bool false) 22 rfl (Nat.le_of_ble_eq_true rfl) rfl rfl (by kernel_rfl) ?_
    refine WL.pass 23 rfl (Nat.le_of_ble_eq_true rfl) rfl ?_
    refine WL.pass 24 rfl (Nat.le_of_ble_eq_true rfl) rfl ?_
    refine WL.pass 25 rfl (Nat.le_of_ble_eq_true rfl) rfl ?_
    refine WL.pass 26 rfl (Nat.le_of_ble_eq_true rfl) rfl ?_
    refine WL.pass 27 rfl (Nat.le_of_ble_eq_true rfl) rfl ?_
    refine WL.pass 28 rfl (Nat.le_of_ble_eq_true rfl) rfl ?_
    refine WL.pure (v := .bool false) 29 rfl (Nat.le_of_ble_eq_true rfl) rfl rfl (by kernel_rfl) ?_
    refine WL.nil ?_
    refine WQ.then ?_
    refine hK9 _ _ _ ?_
    refine WC.sub (l' := [(0, .slice p n cap), (1, vI (j : Int)), (6, vI (d : Int)), (29, .bool false)]) ⟨rfl, rfl, rfl, rfl, trivial⟩ ?_
    refine WC.no rfl ?_
    refine WC.exit ?_
    refine WQ.thenExit ?_
    refine WQ.thenExit ?_
    refine WQ.inExit ?_
    refine WQ.then ?_
    refine hK4 _ _ _ ?_
    refine WC.seq fun K24 hK24 => ?_
    refine WC.region ?_
    refine WL.pure (v := vI (j : Int)) 54 rfl (Nat.le_of_ble_eq_true rfl) rfl rfl (by kernel_rfl) ?_
    refine WL.pure (v := vI (d : Int)) 55 rfl (Nat.le_of_ble_eq_true rfl) rfl rfl (by kernel_rfl) ?_
    refine WL.pure (v := vI (j : Int)) 4 rfl (Nat.le_of_ble_eq_true rfl) rfl rfl (by kernel_rfl) ?_
    refine WL.pure (v := vI (d : Int)) 5 rfl (Nat.le_of_ble_eq_true rfl) rfl rfl (by kernel_rfl) ?_
    refine WL.nil ?_
    refine WQ.then ?_
    refine hK24 _ _ _ ?_
    refine WC.ret ?_
    refine WQ.ret2 4 5 rfl rfl rfl ?_
    exact ⟨j, (d : Int), rfl, .inr ⟨by omega, by omega, by omega, fun hq => by omega, by simpa using hP⟩, HP.below hH7⟩
/-- both, at every index -/
theorem both (p : Option Addr) (n cap : Nat) (c A B : Nat → Int) (hn : n ≤ 400) : ∀ (f at' : Nat), n - at' ≤ f → at' ≤ n → ParC p n cap c A B at'
  | 0, at', hf, hat => par_any p n cap c A B at' hn hat (fun k h1 h2 _ => absurd h1 (by omega))
  | f + 1, at', hf, hat => par_any p n cap c A B at' hn hat (fun k h1 h2 hO => bra_any p n cap c A B k hn h2 hO (fun a ha1 ha2 => both p n cap c A B hn f a (by omega) ha2))
end Ec
end Go.Proofs.Ytmjnakhpekbenaa
