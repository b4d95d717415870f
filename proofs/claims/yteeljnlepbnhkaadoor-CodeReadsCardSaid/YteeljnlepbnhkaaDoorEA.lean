/- The operations of the program: table, known. -/
import Derived.Test.YteeljnlepbnhkaaDoorProg
import Derived.WalkKit
import Derived.WalkLawsBesides
import Derived.Handy
import Derived.Deep.QuietTactic
import Derived.BigQuiet
import Derived.KernelRfl
import Derived.Lib.QuietBelow
import Derived.Deep.MidRow
import Derived.Great.BuildSlice
import Derived.Great.Walk
import Derived.Laws.Rows
set_option linter.unusedVariables false
set_option linter.unusedSimpArgs false
namespace Go.Proofs.YteeljnlepbnhkaaDoor
open Go.RowKit Go.Sort Go.Great
namespace Ec

structure Hid (p : Prop) : Prop where
  out : p
theorem hide {p : Prop} (h : p) : Hid p := ⟨h⟩
theorem ret_i {k : IntKind} {a b : Int} (h : a = b) : Ending.returned (.int k a) = .returned (.int k b) := by rw [h]
theorem ret2_i {k k2 : IntKind} {a b c d : Int} (h : a = b) (h2 : c = d) : Ending.returned (.tuple #[.int k a, .int k2 c]) = .returned (.tuple #[.int k b, .int k2 d]) := by rw [h, h2]
def tbl : Array Value := #[.string ⟨#[110, 111, 112]⟩, .int .i64 0, .int .i64 0, .int .i64 1, .string ⟨#[112, 117, 115, 104]⟩, .int .i64 1, .int .i64 0, .int .i64 1, .string ⟨#[108, 111, 97, 100]⟩, .int .i64 2, .int .i64 0, .int .i64 1, .string ⟨#[115, 116, 111, 114, 101]⟩, .int .i64 2, .int .i64 0, .int .i64 1, .string ⟨#[100, 114, 111, 112]⟩, .int .i64 0, .int .i64 0, .int .i64 1, .string ⟨#[100, 117, 112]⟩, .int .i64 0, .int .i64 0, .int .i64 1, .string ⟨#[97, 100, 100]⟩, .int .i64 0, .int .i64 0, .int .i64 1, .string ⟨#[115, 117, 98]⟩, .int .i64 0, .int .i64 0, .int .i64 1, .string ⟨#[109, 117, 108]⟩, .int .i64 0, .int .i64 0, .int .i64 3, .string ⟨#[100, 105, 118]⟩, .int .i64 0, .int .i64 0, .int .i64 8, .string ⟨#[108, 101, 115, 115]⟩, .int .i64 0, .int .i64 0, .int .i64 1, .string ⟨#[115, 97, 109, 101]⟩, .int .i64 0, .int .i64 0, .int .i64 1, .string ⟨#[110, 117, 108, 108]⟩, .int .i64 3, .int .i64 4, .int .i64 1, .string ⟨#[105, 115, 110, 117, 108, 108]⟩, .int .i64 0, .int .i64 0, .int .i64 1, .string ⟨#[110, 101, 119]⟩, .int .i64 4, .int .i64 0, .int .i64 12, .string ⟨#[110, 101, 119, 105, 110, 116, 115]⟩, .int .i64 5, .int .i64 0, .int .i64 4, .string ⟨#[110, 101, 119, 114, 101, 102, 115]⟩, .int .i64 5, .int .i64 4, .int .i64 4, .string ⟨#[103, 101, 116]⟩, .int .i64 6, .int .i64 0, .int .i64 2, .string ⟨#[112, 117, 116]⟩, .int .i64 6, .int .i64 0, .int .i64 3, .string ⟨#[101, 108, 101, 109]⟩, .int .i64 0, .int .i64 0, .int .i64 3, .string ⟨#[115, 101, 116, 101, 108, 101, 109]⟩, .int .i64 0, .int .i64 0, .int .i64 4, .string ⟨#[108, 101, 110]⟩, .int .i64 0, .int .i64 0, .int .i64 2, .string ⟨#[115, 116, 97, 116, 105, 99]⟩, .int .i64 7, .int .i64 0, .int .i64 2, .string ⟨#[115, 101, 116, 115, 116, 97, 116, 105, 99]⟩, .int .i64 7, .int .i64 0, .int .i64 3, .string ⟨#[99, 97, 115, 116]⟩, .int .i64 4, .int .i64 0, .int .i64 2, .string ⟨#[99, 97, 108, 108]⟩, .int .i64 8, .int .i64 0, .int .i64 4, .string ⟨#[115, 101, 110, 100]⟩, .int .i64 9, .int .i64 0, .int .i64 6, .string ⟨#[101, 109, 105, 116]⟩, .int .i64 10, .int .i64 0, .int .i64 2, .string ⟨#[116, 104, 114, 111, 119]⟩, .int .i64 11, .int .i64 0, .int .i64 3, .string ⟨#[105, 102]⟩, .int .i64 0, .int .i64 0, .int .i64 1, .string ⟨#[108, 111, 111, 112]⟩, .int .i64 12, .int .i64 2, .int .i64 2, .string ⟨#[108, 111, 99, 107]⟩, .int .i64 13, .int .i64 0, .int .i64 2, .string ⟨#[115, 99, 111, 112, 101]⟩, .int .i64 14, .int .i64 0, .int .i64 4, .string ⟨#[116, 114, 121]⟩, .int .i64 0, .int .i64 0, .int .i64 2, .string ⟨#[101, 108, 115, 101]⟩, .int .i64 0, .int .i64 0, .int .i64 1, .string ⟨#[101, 110, 100]⟩, .int .i64 0, .int .i64 0, .int .i64 1]
theorem tbl_size : tbl.size = 144 := by rfl
theorem tbl_one : tbl.all (·.oneCell') = true := by kernel_rfl
set_option maxRecDepth 100000 in
theorem zeroT : ∃ z : Array Value, z.size = 144 ∧ ∀ w : World, (zeroValue 76).run Tryd.prog w = .ok (.agg z) w := ⟨#[.string ByteArray.empty, .int .i64 0, .int .i64 0, .int .i64 0, .string ByteArray.empty, .int .i64 0, .int .i64 0, .int .i64 0, .string ByteArray.empty, .int .i64 0, .int .i64 0, .int .i64 0, .string ByteArray.empty, .int .i64 0, .int .i64 0, .int .i64 0, .string ByteArray.empty, .int .i64 0, .int .i64 0, .int .i64 0, .string ByteArray.empty, .int .i64 0, .int .i64 0, .int .i64 0, .string ByteArray.empty, .int .i64 0, .int .i64 0, .int .i64 0, .string ByteArray.empty, .int .i64 0, .int .i64 0, .int .i64 0, .string ByteArray.empty, .int .i64 0, .int .i64 0, .int .i64 0, .string ByteArray.empty, .int .i64 0, .int .i64 0, .int .i64 0, .string ByteArray.empty, .int .i64 0, .int .i64 0, .int .i64 0, .string ByteArray.empty, .int .i64 0, .int .i64 0, .int .i64 0, .string ByteArray.empty, .int .i64 0, .int .i64 0, .int .i64 0, .string ByteArray.empty, .int .i64 0, .int .i64 0, .int .i64 0, .string ByteArray.empty, .int .i64 0, .int .i64 0, .int .i64 0, .string ByteArray.empty, .int .i64 0, .int .i64 0, .int .i64 0, .string ByteArray.empty, .int .i64 0, .int .i64 0, .int .i64 0, .string ByteArray.empty, .int .i64 0, .int .i64 0, .int .i64 0, .string ByteArray.empty, .int .i64 0, .int .i64 0, .int .i64 0, .string ByteArray.empty, .int .i64 0, .int .i64 0, .int .i64 0, .string ByteArray.empty, .int .i64 0, .int .i64 0, .int .i64 0, .string ByteArray.empty, .int .i64 0, .int .i64 0, .int .i64 0, .string ByteArray.empty, .int .i64 0, .int .i64 0, .int .i64 0, .string ByteArray.empty, .int .i64 0, .int .i64 0, .int .i64 0, .string ByteArray.empty, .int .i64 0, .int .i64 0, .int .i64 0, .string ByteArray.empty, .int .i64 0, .int .i64 0, .int .i64 0, .string ByteArray.empty, .int .i64 0, .int .i64 0, .int .i64 0, .string ByteArray.empty, .int .i64 0, .int .i64 0, .int .i64 0, .string ByteArray.empty, .int .i64 0, .int .i64 0, .int .i64 0, .string ByteArray.empty, .int .i64 0, .int .i64 0, .int .i64 0, .string ByteArray.empty, .int .i64 0, .int .i64 0, .int .i64 0, .string ByteArray.empty, .int .i64 0, .int .i64 0, .int .i64 0, .string ByteArray.empty, .int .i64 0, .int .i64 0, .int .i64 0, .string ByteArray.empty, .int .i64 0, .int .i64 0, .int .i64 0, .string ByteArray.empty, .int .i64 0, .int .i64 0, .int .i64 0, .string ByteArray.empty, .int .i64 0, .int .i64 0, .int .i64 0], by rfl, fun w => by kernel_rfl⟩
theorem size73 : (Tryd.prog.info? 76).map (·.size) = some 144 := by kernel_rfl
theorem there_alloc (w : World) (z : Array Value) (n : Nat) (h : z.size = n) (T : TypeId) : (w.alloc (.cells z T)).there w.heap.size 0 n := fun j hj => by
  subst h
  simp [go_sem, hj]
theorem setRow_alloc (w : World) (z cs : Array Value) (T : TypeId) : (w.alloc (.cells z T)).setRow w.heap.size cs = w.alloc (.cells cs T) := by
  unfold World.setRow World.alloc
  congr 1
  apply Array.ext
  · simp
  · intro i h1 h2
    simp only [Array.getElem_modify]
    split
    · rename_i hk
      subst hk
      simp
    · simp only [Array.getElem_push]
      split
      · rfl
      · simp at h1; omega
section
attribute [local irreducible] wpList Code.wp tbl
set_option maxRecDepth 100000 in
set_option maxHeartbeats 4000000 in
theorem table_any (w : World) : Calls Tryd.prog 36 #[] w fun e w' => e = .returned (.agg tbl) ∧ Below w.heap.size w w' := by
  obtain ⟨z, hz1, hz⟩ := zeroT
  go_enter Tryd.func36, Tryd.ntmps36
  apply wp_seq_k
  intro K0 hK0
  apply wp_region_lit
  refine wpList_allocTo rfl (some 0) rfl (.pointer (some ⟨w.heap.size, 0, none⟩)) (.cells z 76) (by simp [execOp, Instr.alloc, hz, go_sem]) ?_
  apply wpList_nil
  refine hK0 _ _ ?_
  clear hK0 K0
  apply wp_seq_k
  intro K0 hK0
  apply wp_region_lit
  refine wpList_buildTo rfl 48 _ rfl (some 1) rfl #[.string ⟨#[110, 111, 112]⟩, .int .i64 0, .int .i64 0, .int .i64 1] (by as_aux_lemma => kernel_rfl) ?_
  refine wpList_buildTo rfl 48 _ rfl (some 2) rfl #[.string ⟨#[112, 117, 115, 104]⟩, .int .i64 1, .int .i64 0, .int .i64 1] (by as_aux_lemma => kernel_rfl) ?_
  refine wpList_buildTo rfl 48 _ rfl (some 3) rfl #[.string ⟨#[108, 111, 97, 100]⟩, .int .i64 2, .int .i64 0, .int .i64 1] (by as_aux_lemma => kernel_rfl) ?_
  refine wpList_buildTo rfl 48 _ rfl (some 4) rfl #[.string ⟨#[115, 116, 111, 114, 101]⟩, .int .i64 2, .int .i64 0, .int .i64 1] (by as_aux_lemma => kernel_rfl) ?_
  refine wpList_buildTo rfl 48 _ rfl (some 5) rfl #[.string ⟨#[100, 114, 111, 112]⟩, .int .i64 0, .int .i64 0, .int .i64 1] (by as_aux_lemma => kernel_rfl) ?_
  refine wpList_buildTo rfl 48 _ rfl (some 6) rfl #[.string ⟨#[100, 117, 112]⟩, .int .i64 0, .int .i64 0, .int .i64 1] (by as_aux_lemma => kernel_rfl) ?_
  refine wpList_buildTo rfl 48 _ rfl (some 7) rfl #[.string ⟨#[97, 100, 100]⟩, .int .i64 0, .int .i64 0, .int .i64 1] (by as_aux_lemma => kernel_rfl) ?_
  refine wpList_buildTo rfl 48 _ rfl (some 8) rfl #[.string ⟨#[115, 117, 98]⟩, .int .i64 0, .int .i64 0, .int .i64 1] (by as_aux_lemma => kernel_rfl) ?_
  refine wpList_buildTo rfl 48 _ rfl (some 9) rfl #[.string ⟨#[109, 117, 108]⟩, .int .i64 0, .int .i64 0, .int .i64 3] (by as_aux_lemma => kernel_rfl) ?_
  refine wpList_buildTo rfl 48 _ rfl (some 10) rfl #[.string ⟨#[100, 105, 118]⟩, .int .i64 0, .int .i64 0, .int .i64 8] (by as_aux_lemma => kernel_rfl) ?_
  refine wpList_buildTo rfl 48 _ rfl (some 11) rfl #[.string ⟨#[108, 101, 115, 115]⟩, .int .i64 0, .int .i64 0, .int .i64 1] (by as_aux_lemma => kernel_rfl) ?_
  refine wpList_buildTo rfl 48 _ rfl (some 12) rfl #[.string ⟨#[115, 97, 109, 101]⟩, .int .i64 0, .int .i64 0, .int .i64 1] (by as_aux_lemma => kernel_rfl) ?_
  refine wpList_buildTo rfl 48 _ rfl (some 13) rfl #[.string ⟨#[110, 117, 108, 108]⟩, .int .i64 3, .int .i64 4, .int .i64 1] (by as_aux_lemma => kernel_rfl) ?_
  refine wpList_buildTo rfl 48 _ rfl (some 14) rfl #[.string ⟨#[105, 115, 110, 117, 108, 108]⟩, .int .i64 0, .int .i64 0, .int .i64 1] (by as_aux_lemma => kernel_rfl) ?_
  refine wpList_buildTo rfl 48 _ rfl (some 15) rfl #[.string ⟨#[110, 101, 119]⟩, .int .i64 4, .int .i64 0, .int .i64 12] (by as_aux_lemma => kernel_rfl) ?_
  refine wpList_buildTo rfl 48 _ rfl (some 16) rfl #[.string ⟨#[110, 101, 119, 105, 110, 116, 115]⟩, .int .i64 5, .int .i64 0, .int .i64 4] (by as_aux_lemma => kernel_rfl) ?_
  refine wpList_buildTo rfl 48 _ rfl (some 17) rfl #[.string ⟨#[110, 101, 119, 114, 101, 102, 115]⟩, .int .i64 5, .int .i64 4, .int .i64 4] (by as_aux_lemma => kernel_rfl) ?_
  refine wpList_buildTo rfl 48 _ rfl (some 18) rfl #[.string ⟨#[103, 101, 116]⟩, .int .i64 6, .int .i64 0, .int .i64 2] (by as_aux_lemma => kernel_rfl) ?_
  refine wpList_buildTo rfl 48 _ rfl (some 19) rfl #[.string ⟨#[112, 117, 116]⟩, .int .i64 6, .int .i64 0, .int .i64 3] (by as_aux_lemma => kernel_rfl) ?_
  refine wpList_buildTo rfl 48 _ rfl (some 20) rfl #[.string ⟨#[101, 108, 101, 109]⟩, .int .i64 0, .int .i64 0, .int .i64 3] (by as_aux_lemma => kernel_rfl) ?_
  refine wpList_buildTo rfl 48 _ rfl (some 21) rfl #[.string ⟨#[115, 101, 116, 101, 108, 101, 109]⟩, .int .i64 0, .int .i64 0, .int .i64 4] (by as_aux_lemma => kernel_rfl) ?_
  refine wpList_buildTo rfl 48 _ rfl (some 22) rfl #[.string ⟨#[108, 101, 110]⟩, .int .i64 0, .int .i64 0, .int .i64 2] (by as_aux_lemma => kernel_rfl) ?_
  refine wpList_buildTo rfl 48 _ rfl (some 23) rfl #[.string ⟨#[115, 116, 97, 116, 105, 99]⟩, .int .i64 7, .int .i64 0, .int .i64 2] (by as_aux_lemma => kernel_rfl) ?_
  refine wpList_buildTo rfl 48 _ rfl (some 24) rfl #[.string ⟨#[115, 101, 116, 115, 116, 97, 116, 105, 99]⟩, .int .i64 7, .int .i64 0, .int .i64 3] (by as_aux_lemma => kernel_rfl) ?_
  refine wpList_buildTo rfl 48 _ rfl (some 25) rfl #[.string ⟨#[99, 97, 115, 116]⟩, .int .i64 4, .int .i64 0, .int .i64 2] (by as_aux_lemma => kernel_rfl) ?_
  refine wpList_buildTo rfl 48 _ rfl (some 26) rfl #[.string ⟨#[99, 97, 108, 108]⟩, .int .i64 8, .int .i64 0, .int .i64 4] (by as_aux_lemma => kernel_rfl) ?_
  refine wpList_buildTo rfl 48 _ rfl (some 27) rfl #[.string ⟨#[115, 101, 110, 100]⟩, .int .i64 9, .int .i64 0, .int .i64 6] (by as_aux_lemma => kernel_rfl) ?_
  refine wpList_buildTo rfl 48 _ rfl (some 28) rfl #[.string ⟨#[101, 109, 105, 116]⟩, .int .i64 10, .int .i64 0, .int .i64 2] (by as_aux_lemma => kernel_rfl) ?_
  refine wpList_buildTo rfl 48 _ rfl (some 29) rfl #[.string ⟨#[116, 104, 114, 111, 119]⟩, .int .i64 11, .int .i64 0, .int .i64 3] (by as_aux_lemma => kernel_rfl) ?_
  refine wpList_buildTo rfl 48 _ rfl (some 30) rfl #[.string ⟨#[105, 102]⟩, .int .i64 0, .int .i64 0, .int .i64 1] (by as_aux_lemma => kernel_rfl) ?_
  refine wpList_buildTo rfl 48 _ rfl (some 31) rfl #[.string ⟨#[108, 111, 111, 112]⟩, .int .i64 12, .int .i64 2, .int .i64 2] (by as_aux_lemma => kernel_rfl) ?_
  refine wpList_buildTo rfl 48 _ rfl (some 32) rfl #[.string ⟨#[108, 111, 99, 107]⟩, .int .i64 13, .int .i64 0, .int .i64 2] (by as_aux_lemma => kernel_rfl) ?_
  refine wpList_buildTo rfl 48 _ rfl (some 33) rfl #[.string ⟨#[115, 99, 111, 112, 101]⟩, .int .i64 14, .int .i64 0, .int .i64 4] (by as_aux_lemma => kernel_rfl) ?_
  refine wpList_buildTo rfl 48 _ rfl (some 34) rfl #[.string ⟨#[116, 114, 121]⟩, .int .i64 0, .int .i64 0, .int .i64 2] (by as_aux_lemma => kernel_rfl) ?_
  refine wpList_buildTo rfl 48 _ rfl (some 35) rfl #[.string ⟨#[101, 108, 115, 101]⟩, .int .i64 0, .int .i64 0, .int .i64 1] (by as_aux_lemma => kernel_rfl) ?_
  refine wpList_buildTo rfl 48 _ rfl (some 36) rfl #[.string ⟨#[101, 110, 100]⟩, .int .i64 0, .int .i64 0, .int .i64 1] (by as_aux_lemma => kernel_rfl) ?_
  refine wpList_buildTo rfl 76 _ rfl (some 37) rfl tbl (by as_aux_lemma => kernel_rfl) ?_
  refine wpList_store_row rfl 76 _ _ rfl w.heap.size tbl (by as_aux_lemma => kernel_rfl) (by as_aux_lemma => kernel_rfl) 76 z (heap_alloc_new w _) (by rw [tbl_size]; exact size73) (by rw [hz1, tbl_size]) tbl_one ?_
  apply wpList_nil
  refine hK0 _ _ ?_
  clear hK0 K0
  rw [setRow_alloc]
  refine wp_ret ?_
  exact bodyPost_ret (v := .agg tbl) (results_cell_row rfl _ _ w.heap.size 76 tbl (0, 0) _ (by as_aux_lemma => kernel_rfl) (heap_alloc_new w _) Tryd.underlying76 rfl (by rw [tbl_size]; exact size73)) rfl ⟨rfl, (Below.refl _ _).alloc (Nat.le_refl _) _⟩
end
/-- an operation: its name, the ranges of its operands, its cost -/
structure Sp where
  n : ByteArray
  a : Int
  b : Int
  c : Int
def sps : Array Sp := #[⟨⟨#[110, 111, 112]⟩, 0, 0, 1⟩, ⟨⟨#[112, 117, 115, 104]⟩, 1, 0, 1⟩, ⟨⟨#[108, 111, 97, 100]⟩, 2, 0, 1⟩, ⟨⟨#[115, 116, 111, 114, 101]⟩, 2, 0, 1⟩, ⟨⟨#[100, 114, 111, 112]⟩, 0, 0, 1⟩, ⟨⟨#[100, 117, 112]⟩, 0, 0, 1⟩, ⟨⟨#[97, 100, 100]⟩, 0, 0, 1⟩, ⟨⟨#[115, 117, 98]⟩, 0, 0, 1⟩, ⟨⟨#[109, 117, 108]⟩, 0, 0, 3⟩, ⟨⟨#[100, 105, 118]⟩, 0, 0, 8⟩, ⟨⟨#[108, 101, 115, 115]⟩, 0, 0, 1⟩, ⟨⟨#[115, 97, 109, 101]⟩, 0, 0, 1⟩, ⟨⟨#[110, 117, 108, 108]⟩, 3, 4, 1⟩, ⟨⟨#[105, 115, 110, 117, 108, 108]⟩, 0, 0, 1⟩, ⟨⟨#[110, 101, 119]⟩, 4, 0, 12⟩, ⟨⟨#[110, 101, 119, 105, 110, 116, 115]⟩, 5, 0, 4⟩, ⟨⟨#[110, 101, 119, 114, 101, 102, 115]⟩, 5, 4, 4⟩, ⟨⟨#[103, 101, 116]⟩, 6, 0, 2⟩, ⟨⟨#[112, 117, 116]⟩, 6, 0, 3⟩, ⟨⟨#[101, 108, 101, 109]⟩, 0, 0, 3⟩, ⟨⟨#[115, 101, 116, 101, 108, 101, 109]⟩, 0, 0, 4⟩, ⟨⟨#[108, 101, 110]⟩, 0, 0, 2⟩, ⟨⟨#[115, 116, 97, 116, 105, 99]⟩, 7, 0, 2⟩, ⟨⟨#[115, 101, 116, 115, 116, 97, 116, 105, 99]⟩, 7, 0, 3⟩, ⟨⟨#[99, 97, 115, 116]⟩, 4, 0, 2⟩, ⟨⟨#[99, 97, 108, 108]⟩, 8, 0, 4⟩, ⟨⟨#[115, 101, 110, 100]⟩, 9, 0, 6⟩, ⟨⟨#[101, 109, 105, 116]⟩, 10, 0, 2⟩, ⟨⟨#[116, 104, 114, 111, 119]⟩, 11, 0, 3⟩, ⟨⟨#[105, 102]⟩, 0, 0, 1⟩, ⟨⟨#[108, 111, 111, 112]⟩, 12, 2, 2⟩, ⟨⟨#[108, 111, 99, 107]⟩, 13, 0, 2⟩, ⟨⟨#[115, 99, 111, 112, 101]⟩, 14, 0, 4⟩, ⟨⟨#[116, 114, 121]⟩, 0, 0, 2⟩, ⟨⟨#[101, 108, 115, 101]⟩, 0, 0, 1⟩, ⟨⟨#[101, 110, 100]⟩, 0, 0, 1⟩]
def sp (k : Nat) : Sp := sps[k]?.getD ⟨⟨#[]⟩, 0, 0, 0⟩
set_option maxRecDepth 100000 in
theorem tbl_at : ∀ k, k < 36 → tbl[k * 4]? = some (.string (sp k).n) ∧ tbl[k * 4 + 1]? = some (.int .i64 (sp k).a) ∧ tbl[k * 4 + 2]? = some (.int .i64 (sp k).b) ∧ tbl[k * 4 + 3]? = some (.int .i64 (sp k).c)
  | 0, _ => ⟨by rfl, by rfl, by rfl, by rfl⟩
  | 1, _ => ⟨by rfl, by rfl, by rfl, by rfl⟩
  | 2, _ => ⟨by rfl, by rfl, by rfl, by rfl⟩
  | 3, _ => ⟨by rfl, by rfl, by rfl, by rfl⟩
  | 4, _ => ⟨by rfl, by rfl, by rfl, by rfl⟩
  | 5, _ => ⟨by rfl, by rfl, by rfl, by rfl⟩
  | 6, _ => ⟨by rfl, by rfl, by rfl, by rfl⟩
  | 7, _ => ⟨by rfl, by rfl, by rfl, by rfl⟩
  | 8, _ => ⟨by rfl, by rfl, by rfl, by rfl⟩
  | 9, _ => ⟨by rfl, by rfl, by rfl, by rfl⟩
  | 10, _ => ⟨by rfl, by rfl, by rfl, by rfl⟩
  | 11, _ => ⟨by rfl, by rfl, by rfl, by rfl⟩
  | 12, _ => ⟨by rfl, by rfl, by rfl, by rfl⟩
  | 13, _ => ⟨by rfl, by rfl, by rfl, by rfl⟩
  | 14, _ => ⟨by rfl, by rfl, by rfl, by rfl⟩
  | 15, _ => ⟨by rfl, by rfl, by rfl, by rfl⟩
  | 16, _ => ⟨by rfl, by rfl, by rfl, by rfl⟩
  | 17, _ => ⟨by rfl, by rfl, by rfl, by rfl⟩
  | 18, _ => ⟨by rfl, by rfl, by rfl, by rfl⟩
  | 19, _ => ⟨by rfl, by rfl, by rfl, by rfl⟩
  | 20, _ => ⟨by rfl, by rfl, by rfl, by rfl⟩
  | 21, _ => ⟨by rfl, by rfl, by rfl, by rfl⟩
  | 22, _ => ⟨by rfl, by rfl, by rfl, by rfl⟩
  | 23, _ => ⟨by rfl, by rfl, by rfl, by rfl⟩
  | 24, _ => ⟨by rfl, by rfl, by rfl, by rfl⟩
  | 25, _ => ⟨by rfl, by rfl, by rfl, by rfl⟩
  | 26, _ => ⟨by rfl, by rfl, by rfl, by rfl⟩
  | 27, _ => ⟨by rfl, by rfl, by rfl, by rfl⟩
  | 28, _ => ⟨by rfl, by rfl, by rfl, by rfl⟩
  | 29, _ => ⟨by rfl, by rfl, by rfl, by rfl⟩
  | 30, _ => ⟨by rfl, by rfl, by rfl, by rfl⟩
  | 31, _ => ⟨by rfl, by rfl, by rfl, by rfl⟩
  | 32, _ => ⟨by rfl, by rfl, by rfl, by rfl⟩
  | 33, _ => ⟨by rfl, by rfl, by rfl, by rfl⟩
  | 34, _ => ⟨by rfl, by rfl, by rfl, by rfl⟩
  | 35, _ => ⟨by rfl, by rfl, by rfl, by rfl⟩
  | n + 36, h => absurd h (by omega)
set_option maxRecDepth 100000 in
set_option maxHeartbeats 4000000 in
theorem known_ok (k : Nat) (hk : k < 36) (w : World) :
    Calls Tryd.prog 15 #[.int .i64 (k : Int)] w fun e w' => e = .returned (.tuple #[.agg #[.string (sp k).n, .int .i64 (sp k).a, .int .i64 (sp k).b, .int .i64 (sp k).c], .bool true]) ∧ Below w.heap.size w w' := by
  obtain ⟨z, hz1, hz⟩ := zeroT
  have Hz := hide hz1
  clear hz1
  obtain ⟨t0, t1, t2, t3⟩ := tbl_at k hk
  have k1 : ¬ ((k : Int) < 0) := by omega
  have k2 : (k : Int) < 36 := by omega
  have k3 : ¬ (36 ≤ (k : Int)) := by omega
  go_enter Tryd.func15, Tryd.ntmps15
  go_wp2_with fail
  refine (table_any _).mono ?_
  rintro e w1 ⟨rfl, hb⟩
  have hz1 : w.heap.size + 1 ≤ w1.heap.size := by have := hb.size; simpa using this
  have c0 : w1.cell? ⟨w.heap.size, 0, none⟩ = some (.string ⟨#[]⟩) := by rw [hb.cell (by simp)]; simp
  have c1 : w1.cell? ⟨w.heap.size, 1, none⟩ = some (.int .i64 0) := by rw [hb.cell (by simp)]; simp
  have c2 : w1.cell? ⟨w.heap.size, 2, none⟩ = some (.int .i64 0) := by rw [hb.cell (by simp)]; simp
  have c3 : w1.cell? ⟨w.heap.size, 3, none⟩ = some (.int .i64 0) := by rw [hb.cell (by simp)]; simp
  have f0 : ∀ j, w1.frozen? ⟨w.heap.size, j, none⟩ = false := fun j => by rw [hb.frozen (by simp)]; simp
  have g0 := f0 0
  have g1 := f0 1
  have g2 := f0 2
  have g3 := f0 3
  have hlt : w.heap.size < w1.heap.size := by omega
  have hne : ¬ (w.heap.size = w1.heap.size) := by omega
  have hne2 : ¬ (w1.heap.size = w.heap.size) := by omega
  clear f0
  have hb1 : Below w.heap.size w w1 := Below.trans (by go_grown) (hb.mono (by simp))
  clear hb
  go_wp2_with (refine wpList_store_row rfl 76 _ _ rfl w1.heap.size tbl (by rfl) (by rfl) 76 z (heap_alloc_new w1 _) (by rw [tbl_size]; exact size73) (by rw [Hz.out, tbl_size]) tbl_one ?_; rw [setRow_alloc])
  trace_state
  refine bodyPost_ret (v := .tuple #[.agg #[.string (sp k).n, .int .i64 (sp k).a, .int .i64 (sp k).b, .int .i64 (sp k).c], .bool true]) (by simp [results, Tryd.results15, go_sem, c0, c1, c2, c3, hlt, hne, hne2]) rfl ⟨rfl, by go_grown⟩
end Ec
end Go.Proofs.YteeljnlepbnhkaaDoor
