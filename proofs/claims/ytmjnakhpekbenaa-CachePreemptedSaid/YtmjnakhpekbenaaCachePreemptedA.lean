/- What the proof of CachePreempted stands on, part 1 of 5. -/
import Derived.BigQuiet
import Derived.BigRegion
import Derived.ChangeAlike
import Derived.Deep.AppendLies
import Derived.Deep.CutRange
import Derived.Deep.DeepCutAuto
import Derived.Deep.Heap
import Derived.Deep.LoopGhost
import Derived.Deep.MidRow
import Derived.Deep.QuietTactic
import Derived.Great.BuildSlice
import Derived.Great.Walk
import Derived.Handy
import Derived.KernelRfl
import Derived.Laws.AppendOwn
import Derived.Laws.MakeOwn
import Derived.Laws.Rows
import Derived.Lib.QuietBelow
import Derived.Orders
import Derived.RegionTactic
import Derived.Still
import Derived.StillTail
import Derived.Test.YtmjnakhpekbenaaProg
import Derived.WalkKit
import Derived.WalkLawsBesides
set_option linter.unusedVariables false
set_option linter.unusedSimpArgs false
namespace Go.Proofs.Ytmjnakhpekbenaa
open Go.RowKit Go.Sort Go.Great
namespace Ec
structure Hid (p : Prop) : Prop where
  out : p
theorem hide {p : Prop} (h : p) : Hid p := ⟨h⟩
theorem ret_i {k : IntKind} {a b : Int} (h : a = b) : Ending.returned (.int k a) = .returned (.int k b) := by rw [h]
def tbl : Array Value := #[.string ⟨#[110, 111, 112]⟩, .int .i64 0, .int .i64 0, .int .i64 1, .string ⟨#[112, 117, 115, 104]⟩, .int .i64 1, .int .i64 0, .int .i64 1, .string ⟨#[108, 111, 97, 100]⟩, .int .i64 2, .int .i64 0, .int .i64 1, .string ⟨#[115, 116, 111, 114, 101]⟩, .int .i64 2, .int .i64 0, .int .i64 1, .string ⟨#[100, 114, 111, 112]⟩, .int .i64 0, .int .i64 0, .int .i64 1, .string ⟨#[100, 117, 112]⟩, .int .i64 0, .int .i64 0, .int .i64 1, .string ⟨#[97, 100, 100]⟩, .int .i64 0, .int .i64 0, .int .i64 1, .string ⟨#[115, 117, 98]⟩, .int .i64 0, .int .i64 0, .int .i64 1, .string ⟨#[109, 117, 108]⟩, .int .i64 0, .int .i64 0, .int .i64 3, .string ⟨#[100, 105, 118]⟩, .int .i64 0, .int .i64 0, .int .i64 8, .string ⟨#[108, 101, 115, 115]⟩, .int .i64 0, .int .i64 0, .int .i64 1, .string ⟨#[115, 97, 109, 101]⟩, .int .i64 0, .int .i64 0, .int .i64 1, .string ⟨#[110, 117, 108, 108]⟩, .int .i64 3, .int .i64 4, .int .i64 1, .string ⟨#[105, 115, 110, 117, 108, 108]⟩, .int .i64 0, .int .i64 0, .int .i64 1, .string ⟨#[110, 101, 119]⟩, .int .i64 4, .int .i64 0, .int .i64 12, .string ⟨#[110, 101, 119, 105, 110, 116, 115]⟩, .int .i64 5, .int .i64 0, .int .i64 4, .string ⟨#[110, 101, 119, 114, 101, 102, 115]⟩, .int .i64 5, .int .i64 4, .int .i64 4, .string ⟨#[103, 101, 116]⟩, .int .i64 6, .int .i64 0, .int .i64 2, .string ⟨#[112, 117, 116]⟩, .int .i64 6, .int .i64 0, .int .i64 3, .string ⟨#[101, 108, 101, 109]⟩, .int .i64 0, .int .i64 0, .int .i64 3, .string ⟨#[115, 101, 116, 101, 108, 101, 109]⟩, .int .i64 0, .int .i64 0, .int .i64 4, .string ⟨#[108, 101, 110]⟩, .int .i64 0, .int .i64 0, .int .i64 2, .string ⟨#[115, 116, 97, 116, 105, 99]⟩, .int .i64 7, .int .i64 0, .int .i64 2, .string ⟨#[115, 101, 116, 115, 116, 97, 116, 105, 99]⟩, .int .i64 7, .int .i64 0, .int .i64 3, .string ⟨#[99, 97, 115, 116]⟩, .int .i64 4, .int .i64 0, .int .i64 2, .string ⟨#[99, 97, 108, 108]⟩, .int .i64 8, .int .i64 0, .int .i64 4, .string ⟨#[115, 101, 110, 100]⟩, .int .i64 9, .int .i64 0, .int .i64 6, .string ⟨#[101, 109, 105, 116]⟩, .int .i64 10, .int .i64 0, .int .i64 2, .string ⟨#[116, 104, 114, 111, 119]⟩, .int .i64 11, .int .i64 0, .int .i64 3, .string ⟨#[105, 102]⟩, .int .i64 0, .int .i64 0, .int .i64 1, .string ⟨#[108, 111, 111, 112]⟩, .int .i64 12, .int .i64 2, .int .i64 2, .string ⟨#[108, 111, 99, 107]⟩, .int .i64 13, .int .i64 0, .int .i64 2, .string ⟨#[115, 99, 111, 112, 101]⟩, .int .i64 14, .int .i64 0, .int .i64 4, .string ⟨#[116, 114, 121]⟩, .int .i64 0, .int .i64 0, .int .i64 2, .string ⟨#[101, 108, 115, 101]⟩, .int .i64 0, .int .i64 0, .int .i64 1, .string ⟨#[101, 110, 100]⟩, .int .i64 0, .int .i64 0, .int .i64 1]
theorem tbl_size : tbl.size = 144 := by rfl
theorem tbl_one : tbl.all (·.oneCell') = true := by kernel_rfl
set_option maxRecDepth 100000 in
theorem zeroT : ∃ z : Array Value, z.size = 144 ∧ ∀ w : World, (zeroValue 165).run Try.prog w = .ok (.agg z) w := ⟨#[.string ByteArray.empty, .int .i64 0, .int .i64 0, .int .i64 0, .string ByteArray.empty, .int .i64 0, .int .i64 0, .int .i64 0, .string ByteArray.empty, .int .i64 0, .int .i64 0, .int .i64 0, .string ByteArray.empty, .int .i64 0, .int .i64 0, .int .i64 0, .string ByteArray.empty, .int .i64 0, .int .i64 0, .int .i64 0, .string ByteArray.empty, .int .i64 0, .int .i64 0, .int .i64 0, .string ByteArray.empty, .int .i64 0, .int .i64 0, .int .i64 0, .string ByteArray.empty, .int .i64 0, .int .i64 0, .int .i64 0, .string ByteArray.empty, .int .i64 0, .int .i64 0, .int .i64 0, .string ByteArray.empty, .int .i64 0, .int .i64 0, .int .i64 0, .string ByteArray.empty, .int .i64 0, .int .i64 0, .int .i64 0, .string ByteArray.empty, .int .i64 0, .int .i64 0, .int .i64 0, .string ByteArray.empty, .int .i64 0, .int .i64 0, .int .i64 0, .string ByteArray.empty, .int .i64 0, .int .i64 0, .int .i64 0, .string ByteArray.empty, .int .i64 0, .int .i64 0, .int .i64 0, .string ByteArray.empty, .int .i64 0, .int .i64 0, .int .i64 0, .string ByteArray.empty, .int .i64 0, .int .i64 0, .int .i64 0, .string ByteArray.empty, .int .i64 0, .int .i64 0, .int .i64 0, .string ByteArray.empty, .int .i64 0, .int .i64 0, .int .i64 0, .string ByteArray.empty, .int .i64 0, .int .i64 0, .int .i64 0, .string ByteArray.empty, .int .i64 0, .int .i64 0, .int .i64 0, .string ByteArray.empty, .int .i64 0, .int .i64 0, .int .i64 0, .string ByteArray.empty, .int .i64 0, .int .i64 0, .int .i64 0, .string ByteArray.empty, .int .i64 0, .int .i64 0, .int .i64 0, .string ByteArray.empty, .int .i64 0, .int .i64 0, .int .i64 0, .string ByteArray.empty, .int .i64 0, .int .i64 0, .int .i64 0, .string ByteArray.empty, .int .i64 0, .int .i64 0, .int .i64 0, .string ByteArray.empty, .int .i64 0, .int .i64 0, .int .i64 0, .string ByteArray.empty, .int .i64 0, .int .i64 0, .int .i64 0, .string ByteArray.empty, .int .i64 0, .int .i64 0, .int .i64 0, .string ByteArray.empty, .int .i64 0, .int .i64 0, .int .i64 0, .string ByteArray.empty, .int .i64 0, .int .i64 0, .int .i64 0, .string ByteArray.empty, .int .i64 0, .int .i64 0, .int .i64 0, .string ByteArray.empty, .int .i64 0, .int .i64 0, .int .i64 0, .string ByteArray.empty, .int .i64 0, .int .i64 0, .int .i64 0, .string ByteArray.empty, .int .i64 0, .int .i64 0, .int .i64 0], by rfl, fun w => by kernel_rfl⟩
theorem size73 : (Try.prog.info? 165).map (·.size) = some 144 := by kernel_rfl
theorem setRow_alloc (w : World) (z cs : Array Value) (T : TypeId) : (w.alloc (.cells z T)).setRow w.heap.size cs = w.alloc (.cells cs T) := by
  unfold World.setRow World.alloc
  congr 1
  apply Array.ext
  · simp
  · intro i h1 h2
    simp only [Array.getElem_modify]
    split
    · rename_i hk
      subst hk
      simp
    · simp only [Array.getElem_push]
      split
      · rfl
      · simp at h1; omega
section
attribute [local irreducible] wpList Code.wp tbl
set_option maxRecDepth 100000 in
set_option maxHeartbeats 4000000 in
theorem table_any (w : World) : Calls Try.prog 139 #[] w fun e w' => e = .returned (.agg tbl) ∧ Below w.heap.size w w' := by
  obtain ⟨z, hz1, hz⟩ := zeroT
  go_enter Try.func139, Try.ntmps139
  apply wp_seq_k
  intro K0 hK0
  apply wp_region_lit
  refine wpList_allocTo rfl (some 0) rfl (.pointer (some ⟨w.heap.size, 0, none⟩)) (.cells z 165) (by simp [execOp, Instr.alloc, hz, go_sem]) ?_
  apply wpList_nil
  refine hK0 _ _ ?_
  clear hK0 K0
  apply wp_seq_k
  intro K0 hK0
  apply wp_region_lit
  refine wpList_buildTo rfl 155 _ rfl (some 1) rfl #[.string ⟨#[110, 111, 112]⟩, .int .i64 0, .int .i64 0, .int .i64 1] (by as_aux_lemma => kernel_rfl) ?_
  refine wpList_buildTo rfl 155 _ rfl (some 2) rfl #[.string ⟨#[112, 117, 115, 104]⟩, .int .i64 1, .int .i64 0, .int .i64 1] (by as_aux_lemma => kernel_rfl) ?_
  refine wpList_buildTo rfl 155 _ rfl (some 3) rfl #[.string ⟨#[108, 111, 97, 100]⟩, .int .i64 2, .int .i64 0, .int .i64 1] (by as_aux_lemma => kernel_rfl) ?_
  refine wpList_buildTo rfl 155 _ rfl (some 4) rfl #[.string ⟨#[115, 116, 111, 114, 101]⟩, .int .i64 2, .int .i64 0, .int .i64 1] (by as_aux_lemma => kernel_rfl) ?_
  refine wpList_buildTo rfl 155 _ rfl (some 5) rfl #[.string ⟨#[100, 114, 111, 112]⟩, .int .i64 0, .int .i64 0, .int .i64 1] (by as_aux_lemma => kernel_rfl) ?_
  refine wpList_buildTo rfl 155 _ rfl (some 6) rfl #[.string ⟨#[100, 117, 112]⟩, .int .i64 0, .int .i64 0, .int .i64 1] (by as_aux_lemma => kernel_rfl) ?_
  refine wpList_buildTo rfl 155 _ rfl (some 7) rfl #[.string ⟨#[97, 100, 100]⟩, .int .i64 0, .int .i64 0, .int .i64 1] (by as_aux_lemma => kernel_rfl) ?_
  refine wpList_buildTo rfl 155 _ rfl (some 8) rfl #[.string ⟨#[115, 117, 98]⟩, .int .i64 0, .int .i64 0, .int .i64 1] (by as_aux_lemma => kernel_rfl) ?_
  refine wpList_buildTo rfl 155 _ rfl (some 9) rfl #[.string ⟨#[109, 117, 108]⟩, .int .i64 0, .int .i64 0, .int .i64 3] (by as_aux_lemma => kernel_rfl) ?_
  refine wpList_buildTo rfl 155 _ rfl (some 10) rfl #[.string ⟨#[100, 105, 118]⟩, .int .i64 0, .int .i64 0, .int .i64 8] (by as_aux_lemma => kernel_rfl) ?_
  refine wpList_buildTo rfl 155 _ rfl (some 11) rfl #[.string ⟨#[108, 101, 115, 115]⟩, .int .i64 0, .int .i64 0, .int .i64 1] (by as_aux_lemma => kernel_rfl) ?_
  refine wpList_buildTo rfl 155 _ rfl (some 12) rfl #[.string ⟨#[115, 97, 109, 101]⟩, .int .i64 0, .int .i64 0, .int .i64 1] (by as_aux_lemma => kernel_rfl) ?_
  refine wpList_buildTo rfl 155 _ rfl (some 13) rfl #[.string ⟨#[110, 117, 108, 108]⟩, .int .i64 3, .int .i64 4, .int .i64 1] (by as_aux_lemma => kernel_rfl) ?_
  refine wpList_buildTo rfl 155 _ rfl (some 14) rfl #[.string ⟨#[105, 115, 110, 117, 108, 108]⟩, .int .i64 0, .int .i64 0, .int .i64 1] (by as_aux_lemma => kernel_rfl) ?_
  refine wpList_buildTo rfl 155 _ rfl (some 15) rfl #[.string ⟨#[110, 101, 119]⟩, .int .i64 4, .int .i64 0, .int .i64 12] (by as_aux_lemma => kernel_rfl) ?_
  refine wpList_buildTo rfl 155 _ rfl (some 16) rfl #[.string ⟨#[110, 101, 119, 105, 110, 116, 115]⟩, .int .i64 5, .int .i64 0, .int .i64 4] (by as_aux_lemma => kernel_rfl) ?_
  refine wpList_buildTo rfl 155 _ rfl (some 17) rfl #[.string ⟨#[110, 101, 119, 114, 101, 102, 115]⟩, .int .i64 5, .int .i64 4, .int .i64 4] (by as_aux_lemma => kernel_rfl) ?_
  refine wpList_buildTo rfl 155 _ rfl (some 18) rfl #[.string ⟨#[103, 101, 116]⟩, .int .i64 6, .int .i64 0, .int .i64 2] (by as_aux_lemma => kernel_rfl) ?_
  refine wpList_buildTo rfl 155 _ rfl (some 19) rfl #[.string ⟨#[112, 117, 116]⟩, .int .i64 6, .int .i64 0, .int .i64 3] (by as_aux_lemma => kernel_rfl) ?_
  refine wpList_buildTo rfl 155 _ rfl (some 20) rfl #[.string ⟨#[101, 108, 101, 109]⟩, .int .i64 0, .int .i64 0, .int .i64 3] (by as_aux_lemma => kernel_rfl) ?_
  refine wpList_buildTo rfl 155 _ rfl (some 21) rfl #[.string ⟨#[115, 101, 116, 101, 108, 101, 109]⟩, .int .i64 0, .int .i64 0, .int .i64 4] (by as_aux_lemma => kernel_rfl) ?_
  refine wpList_buildTo rfl 155 _ rfl (some 22) rfl #[.string ⟨#[108, 101, 110]⟩, .int .i64 0, .int .i64 0, .int .i64 2] (by as_aux_lemma => kernel_rfl) ?_
  refine wpList_buildTo rfl 155 _ rfl (some 23) rfl #[.string ⟨#[115, 116, 97, 116, 105, 99]⟩, .int .i64 7, .int .i64 0, .int .i64 2] (by as_aux_lemma => kernel_rfl) ?_
  refine wpList_buildTo rfl 155 _ rfl (some 24) rfl #[.string ⟨#[115, 101, 116, 115, 116, 97, 116, 105, 99]⟩, .int .i64 7, .int .i64 0, .int .i64 3] (by as_aux_lemma => kernel_rfl) ?_
  refine wpList_buildTo rfl 155 _ rfl (some 25) rfl #[.string ⟨#[99, 97, 115, 116]⟩, .int .i64 4, .int .i64 0, .int .i64 2] (by as_aux_lemma => kernel_rfl) ?_
  refine wpList_buildTo rfl 155 _ rfl (some 26) rfl #[.string ⟨#[99, 97, 108, 108]⟩, .int .i64 8, .int .i64 0, .int .i64 4] (by as_aux_lemma => kernel_rfl) ?_
  refine wpList_buildTo rfl 155 _ rfl (some 27) rfl #[.string ⟨#[115, 101, 110, 100]⟩, .int .i64 9, .int .i64 0, .int .i64 6] (by as_aux_lemma => kernel_rfl) ?_
  refine wpList_buildTo rfl 155 _ rfl (some 28) rfl #[.string ⟨#[101, 109, 105, 116]⟩, .int .i64 10, .int .i64 0, .int .i64 2] (by as_aux_lemma => kernel_rfl) ?_
  refine wpList_buildTo rfl 155 _ rfl (some 29) rfl #[.string ⟨#[116, 104, 114, 111, 119]⟩, .int .i64 11, .int .i64 0, .int .i64 3] (by as_aux_lemma => kernel_rfl) ?_
  refine wpList_buildTo rfl 155 _ rfl (some 30) rfl #[.string ⟨#[105, 102]⟩, .int .i64 0, .int .i64 0, .int .i64 1] (by as_aux_lemma => kernel_rfl) ?_
  refine wpList_buildTo rfl 155 _ rfl (some 31) rfl #[.string ⟨#[108, 111, 111, 112]⟩, .int .i64 12, .int .i64 2, .int .i64 2] (by as_aux_lemma => kernel_rfl) ?_
  refine wpList_buildTo rfl 155 _ rfl (some 32) rfl #[.string ⟨#[108, 111, 99, 107]⟩, .int .i64 13, .int .i64 0, .int .i64 2] (by as_aux_lemma => kernel_rfl) ?_
  refine wpList_buildTo rfl 155 _ rfl (some 33) rfl #[.string ⟨#[115, 99, 111, 112, 101]⟩, .int .i64 14, .int .i64 0, .int .i64 4] (by as_aux_lemma => kernel_rfl) ?_
  refine wpList_buildTo rfl 155 _ rfl (some 34) rfl #[.string ⟨#[116, 114, 121]⟩, .int .i64 0, .int .i64 0, .int .i64 2] (by as_aux_lemma => kernel_rfl) ?_
  refine wpList_buildTo rfl 155 _ rfl (some 35) rfl #[.string ⟨#[101, 108, 115, 101]⟩, .int .i64 0, .int .i64 0, .int .i64 1] (by as_aux_lemma => kernel_rfl) ?_
  refine wpList_buildTo rfl 155 _ rfl (some 36) rfl #[.string ⟨#[101, 110, 100]⟩, .int .i64 0, .int .i64 0, .int .i64 1] (by as_aux_lemma => kernel_rfl) ?_
  refine wpList_buildTo rfl 165 _ rfl (some 37) rfl tbl (by as_aux_lemma => kernel_rfl) ?_
  refine wpList_store_row rfl 165 _ _ rfl w.heap.size tbl (by as_aux_lemma => kernel_rfl) (by as_aux_lemma => kernel_rfl) 165 z (heap_alloc_new w _) (by rw [tbl_size]; exact size73) (by rw [hz1, tbl_size]) tbl_one ?_
  apply wpList_nil
  refine hK0 _ _ ?_
  clear hK0 K0
  rw [setRow_alloc]
  refine wp_ret ?_
  exact bodyPost_ret (v := .agg tbl) (results_cell_row rfl _ _ w.heap.size 165 tbl (0, 0) _ (by as_aux_lemma => kernel_rfl) (heap_alloc_new w _) Try.underlying165 rfl (by rw [tbl_size]; exact size73)) rfl ⟨rfl, (Below.refl _ _).alloc (Nat.le_refl _) _⟩
end
structure Sp where
  n : ByteArray
  a : Int
  b : Int
  c : Int
def sps : Array Sp := #[⟨⟨#[110, 111, 112]⟩, 0, 0, 1⟩, ⟨⟨#[112, 117, 115, 104]⟩, 1, 0, 1⟩, ⟨⟨#[108, 111, 97, 100]⟩, 2, 0, 1⟩, ⟨⟨#[115, 116, 111, 114, 101]⟩, 2, 0, 1⟩, ⟨⟨#[100, 114, 111, 112]⟩, 0, 0, 1⟩, ⟨⟨#[100, 117, 112]⟩, 0, 0, 1⟩, ⟨⟨#[97, 100, 100]⟩, 0, 0, 1⟩, ⟨⟨#[115, 117, 98]⟩, 0, 0, 1⟩, ⟨⟨#[109, 117, 108]⟩, 0, 0, 3⟩, ⟨⟨#[100, 105, 118]⟩, 0, 0, 8⟩, ⟨⟨#[108, 101, 115, 115]⟩, 0, 0, 1⟩, ⟨⟨#[115, 97, 109, 101]⟩, 0, 0, 1⟩, ⟨⟨#[110, 117, 108, 108]⟩, 3, 4, 1⟩, ⟨⟨#[105, 115, 110, 117, 108, 108]⟩, 0, 0, 1⟩, ⟨⟨#[110, 101, 119]⟩, 4, 0, 12⟩, ⟨⟨#[110, 101, 119, 105, 110, 116, 115]⟩, 5, 0, 4⟩, ⟨⟨#[110, 101, 119, 114, 101, 102, 115]⟩, 5, 4, 4⟩, ⟨⟨#[103, 101, 116]⟩, 6, 0, 2⟩, ⟨⟨#[112, 117, 116]⟩, 6, 0, 3⟩, ⟨⟨#[101, 108, 101, 109]⟩, 0, 0, 3⟩, ⟨⟨#[115, 101, 116, 101, 108, 101, 109]⟩, 0, 0, 4⟩, ⟨⟨#[108, 101, 110]⟩, 0, 0, 2⟩, ⟨⟨#[115, 116, 97, 116, 105, 99]⟩, 7, 0, 2⟩, ⟨⟨#[115, 101, 116, 115, 116, 97, 116, 105, 99]⟩, 7, 0, 3⟩, ⟨⟨#[99, 97, 115, 116]⟩, 4, 0, 2⟩, ⟨⟨#[99, 97, 108, 108]⟩, 8, 0, 4⟩, ⟨⟨#[115, 101, 110, 100]⟩, 9, 0, 6⟩, ⟨⟨#[101, 109, 105, 116]⟩, 10, 0, 2⟩, ⟨⟨#[116, 104, 114, 111, 119]⟩, 11, 0, 3⟩, ⟨⟨#[105, 102]⟩, 0, 0, 1⟩, ⟨⟨#[108, 111, 111, 112]⟩, 12, 2, 2⟩, ⟨⟨#[108, 111, 99, 107]⟩, 13, 0, 2⟩, ⟨⟨#[115, 99, 111, 112, 101]⟩, 14, 0, 4⟩, ⟨⟨#[116, 114, 121]⟩, 0, 0, 2⟩, ⟨⟨#[101, 108, 115, 101]⟩, 0, 0, 1⟩, ⟨⟨#[101, 110, 100]⟩, 0, 0, 1⟩]
def sp (k : Nat) : Sp := sps[k]?.getD ⟨⟨#[]⟩, 0, 0, 0⟩
set_option maxRecDepth 100000 in
theorem tbl_at : ∀ k, k < 36 → tbl[k * 4]? = some (.string (sp k).n) ∧ tbl[k * 4 + 1]? = some (.int .i64 (sp k).a) ∧ tbl[k * 4 + 2]? = some (.int .i64 (sp k).b) ∧ tbl[k * 4 + 3]? = some (.int .i64 (sp k).c)
  | 0, _ => ⟨by rfl, by rfl, by rfl, by rfl⟩
  | 1, _ => ⟨by rfl, by rfl, by rfl, by rfl⟩
  | 2, _ => ⟨by rfl, by rfl, by rfl, by rfl⟩
  | 3, _ => ⟨by rfl, by rfl, by rfl, by rfl⟩
  | 4, _ => ⟨by rfl, by rfl, by rfl, by rfl⟩
  | 5, _ => ⟨by rfl, by rfl, by rfl, by rfl⟩
  | 6, _ => ⟨by rfl, by rfl, by rfl, by rfl⟩
  | 7, _ => ⟨by rfl, by rfl, by rfl, by rfl⟩
  | 8, _ => ⟨by rfl, by rfl, by rfl, by rfl⟩
  | 9, _ => ⟨by rfl, by rfl, by rfl, by rfl⟩
  | 10, _ => ⟨by rfl, by rfl, by rfl, by rfl⟩
  | 11, _ => ⟨by rfl, by rfl, by rfl, by rfl⟩
  | 12, _ => ⟨by rfl, by rfl, by rfl, by rfl⟩
  | 13, _ => ⟨by rfl, by rfl, by rfl, by rfl⟩
  | 14, _ => ⟨by rfl, by rfl, by rfl, by rfl⟩
  | 15, _ => ⟨by rfl, by rfl, by rfl, by rfl⟩
  | 16, _ => ⟨by rfl, by rfl, by rfl, by rfl⟩
  | 17, _ => ⟨by rfl, by rfl, by rfl, by rfl⟩
  | 18, _ => ⟨by rfl, by rfl, by rfl, by rfl⟩
  | 19, _ => ⟨by rfl, by rfl, by rfl, by rfl⟩
  | 20, _ => ⟨by rfl, by rfl, by rfl, by rfl⟩
  | 21, _ => ⟨by rfl, by rfl, by rfl, by rfl⟩
  | 22, _ => ⟨by rfl, by rfl, by rfl, by rfl⟩
  | 23, _ => ⟨by rfl, by rfl, by rfl, by rfl⟩
  | 24, _ => ⟨by rfl, by rfl, by rfl, by rfl⟩
  | 25, _ => ⟨by rfl, by rfl, by rfl, by rfl⟩
  | 26, _ => ⟨by rfl, by rfl, by rfl, by rfl⟩
  | 27, _ => ⟨by rfl, by rfl, by rfl, by rfl⟩
  | 28, _ => ⟨by rfl, by rfl, by rfl, by rfl⟩
  | 29, _ => ⟨by rfl, by rfl, by rfl, by rfl⟩
  | 30, _ => ⟨by rfl, by rfl, by rfl, by rfl⟩
  | 31, _ => ⟨by rfl, by rfl, by rfl, by rfl⟩
  | 32, _ => ⟨by rfl, by rfl, by rfl, by rfl⟩
  | 33, _ => ⟨by rfl, by rfl, by rfl, by rfl⟩
  | 34, _ => ⟨by rfl, by rfl, by rfl, by rfl⟩
  | 35, _ => ⟨by rfl, by rfl, by rfl, by rfl⟩
  | n + 36, h => absurd h (by omega)
set_option maxRecDepth 100000 in
set_option maxHeartbeats 4000000 in
theorem known_ok (k : Nat) (hk : k < 36) (w : World) :
    Calls Try.prog 131 #[.int .i64 (k : Int)] w fun e w' => e = .returned (.tuple #[.agg #[.string (sp k).n, .int .i64 (sp k).a, .int .i64 (sp k).b, .int .i64 (sp k).c], .bool true]) ∧ Below w.heap.size w w' := by
  obtain ⟨z, hz1, hz⟩ := zeroT
  have Hz := hide hz1
  clear hz1
  obtain ⟨t0, t1, t2, t3⟩ := tbl_at k hk
  have k1 : ¬ ((k : Int) < 0) := by omega
  have k2 : (k : Int) < 36 := by omega
  have k3 : ¬ (36 ≤ (k : Int)) := by omega
  go_enter Try.func131, Try.ntmps131
  go_wp2_with fail
  refine (table_any _).mono ?_
  rintro e w1 ⟨rfl, hb⟩
  have hz1 : w.heap.size + 1 ≤ w1.heap.size := by have := hb.size; simpa using this
  have c0 : w1.cell? ⟨w.heap.size, 0, none⟩ = some (.string ⟨#[]⟩) := by rw [hb.cell (by simp)]; simp
  have c1 : w1.cell? ⟨w.heap.size, 1, none⟩ = some (.int .i64 0) := by rw [hb.cell (by simp)]; simp
  have c2 : w1.cell? ⟨w.heap.size, 2, none⟩ = some (.int .i64 0) := by rw [hb.cell (by simp)]; simp
  have c3 : w1.cell? ⟨w.heap.size, 3, none⟩ = some (.int .i64 0) := by rw [hb.cell (by simp)]; simp
  have f0 : ∀ j, w1.frozen? ⟨w.heap.size, j, none⟩ = false := fun j => by rw [hb.frozen (by simp)]; simp
  have g0 := f0 0
  have g1 := f0 1
  have g2 := f0 2
  have g3 := f0 3
  have hlt : w.heap.size < w1.heap.size := by omega
  have hne : ¬ (w.heap.size = w1.heap.size) := by omega
  have hne2 : ¬ (w1.heap.size = w.heap.size) := by omega
  clear f0
  have hb1 : Below w.heap.size w w1 := Below.trans (by go_grown) (hb.mono (by simp))
  clear hb
  go_wp2_with (refine wpList_store_row rfl 165 _ _ rfl w1.heap.size tbl (by rfl) (by rfl) 165 z (heap_alloc_new w1 _) (by rw [tbl_size]; exact size73) (by rw [Hz.out, tbl_size]) tbl_one ?_; rw [setRow_alloc])
  trace_state
  refine bodyPost_ret (v := .tuple #[.agg #[.string (sp k).n, .int .i64 (sp k).a, .int .i64 (sp k).b, .int .i64 (sp k).c], .bool true]) (by simp [results, Try.results131, go_sem, c0, c1, c2, c3, hlt, hne, hne2]) rfl ⟨rfl, by go_grown⟩
end Ec
end Go.Proofs.Ytmjnakhpekbenaa
namespace Go.Proofs.Ytmjnakhpekbenaa
open Go.RowKit Go.Sort
namespace Ec
set_option maxRecDepth 100000 in
set_option maxHeartbeats 4000000 in
theorem known_bad (op : Int) (hk : op < 0 ∨ (0 ≤ op ∧ 36 ≤ op)) (w : World) :
    Calls Try.prog 131 #[.int .i64 op] w fun e w' => e = .returned (.tuple #[.agg #[.string ⟨#[]⟩, .int .i64 0, .int .i64 0, .int .i64 0], .bool false]) ∧ Below w.heap.size w w' := by
  obtain ⟨z, hz1, hz⟩ := zeroT
  have Hz := hide hz1
  clear hz1
  rcases hk with hk | ⟨hk, hk2⟩
  all_goals
    go_enter Try.func131, Try.ntmps131
    go_wp2_with fail
    refine (table_any _).mono ?_
    rintro e w1 ⟨rfl, hb⟩
    have hz1 : w.heap.size + 1 ≤ w1.heap.size := by have := hb.size; simpa using this
    have c0 : w1.cell? ⟨w.heap.size, 0, none⟩ = some (.string ⟨#[]⟩) := by rw [hb.cell (by simp)]; simp
    have c1 : w1.cell? ⟨w.heap.size, 1, none⟩ = some (.int .i64 0) := by rw [hb.cell (by simp)]; simp
    have c2 : w1.cell? ⟨w.heap.size, 2, none⟩ = some (.int .i64 0) := by rw [hb.cell (by simp)]; simp
    have c3 : w1.cell? ⟨w.heap.size, 3, none⟩ = some (.int .i64 0) := by rw [hb.cell (by simp)]; simp
    have f0 : ∀ j, w1.frozen? ⟨w.heap.size, j, none⟩ = false := fun j => by rw [hb.frozen (by simp)]; simp
    have g0 := f0 0
    have g1 := f0 1
    have g2 := f0 2
    have g3 := f0 3
    have hlt : w.heap.size < w1.heap.size := by omega
    have hne : ¬ (w.heap.size = w1.heap.size) := by omega
    have hne2 : ¬ (w1.heap.size = w.heap.size) := by omega
    clear f0
    have hb1 : Below w.heap.size w w1 := Below.trans (by go_grown) (hb.mono (by simp))
    clear hb
    go_wp2_with (refine wpList_store_row rfl 165 _ _ rfl w1.heap.size tbl (by rfl) (by rfl) 165 z (heap_alloc_new w1 _) (by rw [tbl_size]; exact size73) (by rw [Hz.out, tbl_size]) tbl_one ?_; rw [setRow_alloc])
    refine bodyPost_ret (v := .tuple #[.agg #[.string ⟨#[]⟩, .int .i64 0, .int .i64 0, .int .i64 0], .bool false]) (by simp [results, Try.results131, go_sem, c0, c1, c2, c3, hlt, hne, hne2]) rfl ⟨rfl, by go_grown⟩
def mosts (r : Int) : Int := if r = 2 then 9 else if r = 3 then 4 else if r = 4 then 9 else if r = 5 then 48 else if r = 6 then 6 else if r = 7 then 9 else if r = 8 then 15 else if r = 9 then 15 else if r = 10 then 3 else if r = 11 then 9 else if r = 12 then 50 else if r = 13 then 5 else if r = 14 then 24 else 0
def rng (n r : Int) (p : Bool) : Bool :=
  if r = 1 then decide (-2147483648 ≤ n) && decide (n ≤ 2147483647)
  else if r = 3 then decide (2 ≤ n) && decide (n ≤ 4)
  else if r = 14 then decide (1 ≤ n) && decide (n ≤ 24)
  else if p && (decide (r = 4) || decide (r = 6) || decide (r = 7) || decide (r = 8) || decide (r = 9)) then decide (0 ≤ n) && decide (n < 60)
  else decide (0 ≤ n) && decide (n ≤ mosts r)
theorem ix_0 (w : World) : (Instr.index 170 (.agg #[.int .i64 0, .int .i64 0, .int .i64 9, .int .i64 4, .int .i64 9, .int .i64 48, .int .i64 6, .int .i64 9, .int .i64 15, .int .i64 15, .int .i64 3, .int .i64 9, .int .i64 50, .int .i64 5, .int .i64 24]) (.int .i64 0)).run Try.prog w = .ok (.int .i64 0) w := by kernel_rfl
theorem most_0 (w : World) : Calls Try.prog 140 #[.int .i64 0] w fun e w' => e = .returned (.int .i64 0) ∧ w = w' := by
  have hx := ix_0
  go_enter Try.func140, Try.ntmps140
  go_wp2_with fail
  go_ret
  exact ⟨rfl, rfl⟩
theorem pools_0 (w : World) : Calls Try.prog 141 #[.int .i64 0] w fun e w' => e = .returned (.bool false) ∧ w = w' := by
  go_enter Try.func141, Try.ntmps141
  go_wp2_with fail
  go_ret
  exact ⟨rfl, rfl⟩
theorem ix_2 (w : World) : (Instr.index 170 (.agg #[.int .i64 0, .int .i64 0, .int .i64 9, .int .i64 4, .int .i64 9, .int .i64 48, .int .i64 6, .int .i64 9, .int .i64 15, .int .i64 15, .int .i64 3, .int .i64 9, .int .i64 50, .int .i64 5, .int .i64 24]) (.int .i64 2)).run Try.prog w = .ok (.int .i64 9) w := by kernel_rfl
theorem most_2 (w : World) : Calls Try.prog 140 #[.int .i64 2] w fun e w' => e = .returned (.int .i64 9) ∧ w = w' := by
  have hx := ix_2
  go_enter Try.func140, Try.ntmps140
  go_wp2_with fail
  go_ret
  exact ⟨rfl, rfl⟩
theorem pools_2 (w : World) : Calls Try.prog 141 #[.int .i64 2] w fun e w' => e = .returned (.bool false) ∧ w = w' := by
  go_enter Try.func141, Try.ntmps141
  go_wp2_with fail
  go_ret
  exact ⟨rfl, rfl⟩
theorem ix_4 (w : World) : (Instr.index 170 (.agg #[.int .i64 0, .int .i64 0, .int .i64 9, .int .i64 4, .int .i64 9, .int .i64 48, .int .i64 6, .int .i64 9, .int .i64 15, .int .i64 15, .int .i64 3, .int .i64 9, .int .i64 50, .int .i64 5, .int .i64 24]) (.int .i64 4)).run Try.prog w = .ok (.int .i64 9) w := by kernel_rfl
theorem most_4 (w : World) : Calls Try.prog 140 #[.int .i64 4] w fun e w' => e = .returned (.int .i64 9) ∧ w = w' := by
  have hx := ix_4
  go_enter Try.func140, Try.ntmps140
  go_wp2_with fail
  go_ret
  exact ⟨rfl, rfl⟩
theorem pools_4 (w : World) : Calls Try.prog 141 #[.int .i64 4] w fun e w' => e = .returned (.bool true) ∧ w = w' := by
  go_enter Try.func141, Try.ntmps141
  go_wp2_with fail
  go_ret
  exact ⟨rfl, rfl⟩
theorem ix_5 (w : World) : (Instr.index 170 (.agg #[.int .i64 0, .int .i64 0, .int .i64 9, .int .i64 4, .int .i64 9, .int .i64 48, .int .i64 6, .int .i64 9, .int .i64 15, .int .i64 15, .int .i64 3, .int .i64 9, .int .i64 50, .int .i64 5, .int .i64 24]) (.int .i64 5)).run Try.prog w = .ok (.int .i64 48) w := by kernel_rfl
theorem most_5 (w : World) : Calls Try.prog 140 #[.int .i64 5] w fun e w' => e = .returned (.int .i64 48) ∧ w = w' := by
  have hx := ix_5
  go_enter Try.func140, Try.ntmps140
  go_wp2_with fail
  go_ret
  exact ⟨rfl, rfl⟩
theorem pools_5 (w : World) : Calls Try.prog 141 #[.int .i64 5] w fun e w' => e = .returned (.bool false) ∧ w = w' := by
  go_enter Try.func141, Try.ntmps141
  go_wp2_with fail
  go_ret
  exact ⟨rfl, rfl⟩
theorem ix_6 (w : World) : (Instr.index 170 (.agg #[.int .i64 0, .int .i64 0, .int .i64 9, .int .i64 4, .int .i64 9, .int .i64 48, .int .i64 6, .int .i64 9, .int .i64 15, .int .i64 15, .int .i64 3, .int .i64 9, .int .i64 50, .int .i64 5, .int .i64 24]) (.int .i64 6)).run Try.prog w = .ok (.int .i64 6) w := by kernel_rfl
theorem most_6 (w : World) : Calls Try.prog 140 #[.int .i64 6] w fun e w' => e = .returned (.int .i64 6) ∧ w = w' := by
  have hx := ix_6
  go_enter Try.func140, Try.ntmps140
  go_wp2_with fail
  go_ret
  exact ⟨rfl, rfl⟩
theorem pools_6 (w : World) : Calls Try.prog 141 #[.int .i64 6] w fun e w' => e = .returned (.bool true) ∧ w = w' := by
  go_enter Try.func141, Try.ntmps141
  go_wp2_with fail
  go_ret
  exact ⟨rfl, rfl⟩
theorem ix_7 (w : World) : (Instr.index 170 (.agg #[.int .i64 0, .int .i64 0, .int .i64 9, .int .i64 4, .int .i64 9, .int .i64 48, .int .i64 6, .int .i64 9, .int .i64 15, .int .i64 15, .int .i64 3, .int .i64 9, .int .i64 50, .int .i64 5, .int .i64 24]) (.int .i64 7)).run Try.prog w = .ok (.int .i64 9) w := by kernel_rfl
theorem most_7 (w : World) : Calls Try.prog 140 #[.int .i64 7] w fun e w' => e = .returned (.int .i64 9) ∧ w = w' := by
  have hx := ix_7
  go_enter Try.func140, Try.ntmps140
  go_wp2_with fail
  go_ret
  exact ⟨rfl, rfl⟩
theorem pools_7 (w : World) : Calls Try.prog 141 #[.int .i64 7] w fun e w' => e = .returned (.bool true) ∧ w = w' := by
  go_enter Try.func141, Try.ntmps141
  go_wp2_with fail
  go_ret
  exact ⟨rfl, rfl⟩
theorem ix_8 (w : World) : (Instr.index 170 (.agg #[.int .i64 0, .int .i64 0, .int .i64 9, .int .i64 4, .int .i64 9, .int .i64 48, .int .i64 6, .int .i64 9, .int .i64 15, .int .i64 15, .int .i64 3, .int .i64 9, .int .i64 50, .int .i64 5, .int .i64 24]) (.int .i64 8)).run Try.prog w = .ok (.int .i64 15) w := by kernel_rfl
theorem most_8 (w : World) : Calls Try.prog 140 #[.int .i64 8] w fun e w' => e = .returned (.int .i64 15) ∧ w = w' := by
  have hx := ix_8
  go_enter Try.func140, Try.ntmps140
  go_wp2_with fail
  go_ret
  exact ⟨rfl, rfl⟩
theorem pools_8 (w : World) : Calls Try.prog 141 #[.int .i64 8] w fun e w' => e = .returned (.bool true) ∧ w = w' := by
  go_enter Try.func141, Try.ntmps141
  go_wp2_with fail
  go_ret
  exact ⟨rfl, rfl⟩
theorem ix_9 (w : World) : (Instr.index 170 (.agg #[.int .i64 0, .int .i64 0, .int .i64 9, .int .i64 4, .int .i64 9, .int .i64 48, .int .i64 6, .int .i64 9, .int .i64 15, .int .i64 15, .int .i64 3, .int .i64 9, .int .i64 50, .int .i64 5, .int .i64 24]) (.int .i64 9)).run Try.prog w = .ok (.int .i64 15) w := by kernel_rfl
theorem most_9 (w : World) : Calls Try.prog 140 #[.int .i64 9] w fun e w' => e = .returned (.int .i64 15) ∧ w = w' := by
  have hx := ix_9
  go_enter Try.func140, Try.ntmps140
  go_wp2_with fail
  go_ret
  exact ⟨rfl, rfl⟩
theorem pools_9 (w : World) : Calls Try.prog 141 #[.int .i64 9] w fun e w' => e = .returned (.bool true) ∧ w = w' := by
  go_enter Try.func141, Try.ntmps141
  go_wp2_with fail
  go_ret
  exact ⟨rfl, rfl⟩
theorem ix_10 (w : World) : (Instr.index 170 (.agg #[.int .i64 0, .int .i64 0, .int .i64 9, .int .i64 4, .int .i64 9, .int .i64 48, .int .i64 6, .int .i64 9, .int .i64 15, .int .i64 15, .int .i64 3, .int .i64 9, .int .i64 50, .int .i64 5, .int .i64 24]) (.int .i64 10)).run Try.prog w = .ok (.int .i64 3) w := by kernel_rfl
theorem most_10 (w : World) : Calls Try.prog 140 #[.int .i64 10] w fun e w' => e = .returned (.int .i64 3) ∧ w = w' := by
  have hx := ix_10
  go_enter Try.func140, Try.ntmps140
  go_wp2_with fail
  go_ret
  exact ⟨rfl, rfl⟩
theorem pools_10 (w : World) : Calls Try.prog 141 #[.int .i64 10] w fun e w' => e = .returned (.bool false) ∧ w = w' := by
  go_enter Try.func141, Try.ntmps141
  go_wp2_with fail
  go_ret
  exact ⟨rfl, rfl⟩
theorem ix_11 (w : World) : (Instr.index 170 (.agg #[.int .i64 0, .int .i64 0, .int .i64 9, .int .i64 4, .int .i64 9, .int .i64 48, .int .i64 6, .int .i64 9, .int .i64 15, .int .i64 15, .int .i64 3, .int .i64 9, .int .i64 50, .int .i64 5, .int .i64 24]) (.int .i64 11)).run Try.prog w = .ok (.int .i64 9) w := by kernel_rfl
theorem most_11 (w : World) : Calls Try.prog 140 #[.int .i64 11] w fun e w' => e = .returned (.int .i64 9) ∧ w = w' := by
  have hx := ix_11
  go_enter Try.func140, Try.ntmps140
  go_wp2_with fail
  go_ret
  exact ⟨rfl, rfl⟩
theorem pools_11 (w : World) : Calls Try.prog 141 #[.int .i64 11] w fun e w' => e = .returned (.bool false) ∧ w = w' := by
  go_enter Try.func141, Try.ntmps141
  go_wp2_with fail
  go_ret
  exact ⟨rfl, rfl⟩
theorem ix_12 (w : World) : (Instr.index 170 (.agg #[.int .i64 0, .int .i64 0, .int .i64 9, .int .i64 4, .int .i64 9, .int .i64 48, .int .i64 6, .int .i64 9, .int .i64 15, .int .i64 15, .int .i64 3, .int .i64 9, .int .i64 50, .int .i64 5, .int .i64 24]) (.int .i64 12)).run Try.prog w = .ok (.int .i64 50) w := by kernel_rfl
theorem most_12 (w : World) : Calls Try.prog 140 #[.int .i64 12] w fun e w' => e = .returned (.int .i64 50) ∧ w = w' := by
  have hx := ix_12
  go_enter Try.func140, Try.ntmps140
  go_wp2_with fail
  go_ret
  exact ⟨rfl, rfl⟩
theorem pools_12 (w : World) : Calls Try.prog 141 #[.int .i64 12] w fun e w' => e = .returned (.bool false) ∧ w = w' := by
  go_enter Try.func141, Try.ntmps141
  go_wp2_with fail
  go_ret
  exact ⟨rfl, rfl⟩
theorem ix_13 (w : World) : (Instr.index 170 (.agg #[.int .i64 0, .int .i64 0, .int .i64 9, .int .i64 4, .int .i64 9, .int .i64 48, .int .i64 6, .int .i64 9, .int .i64 15, .int .i64 15, .int .i64 3, .int .i64 9, .int .i64 50, .int .i64 5, .int .i64 24]) (.int .i64 13)).run Try.prog w = .ok (.int .i64 5) w := by kernel_rfl
theorem most_13 (w : World) : Calls Try.prog 140 #[.int .i64 13] w fun e w' => e = .returned (.int .i64 5) ∧ w = w' := by
  have hx := ix_13
  go_enter Try.func140, Try.ntmps140
  go_wp2_with fail
  go_ret
  exact ⟨rfl, rfl⟩
theorem pools_13 (w : World) : Calls Try.prog 141 #[.int .i64 13] w fun e w' => e = .returned (.bool false) ∧ w = w' := by
  go_enter Try.func141, Try.ntmps141
  go_wp2_with fail
  go_ret
  exact ⟨rfl, rfl⟩
theorem ix_14 (w : World) : (Instr.index 170 (.agg #[.int .i64 0, .int .i64 0, .int .i64 9, .int .i64 4, .int .i64 9, .int .i64 48, .int .i64 6, .int .i64 9, .int .i64 15, .int .i64 15, .int .i64 3, .int .i64 9, .int .i64 50, .int .i64 5, .int .i64 24]) (.int .i64 14)).run Try.prog w = .ok (.int .i64 24) w := by kernel_rfl
theorem most_14 (w : World) : Calls Try.prog 140 #[.int .i64 14] w fun e w' => e = .returned (.int .i64 24) ∧ w = w' := by
  have hx := ix_14
  go_enter Try.func140, Try.ntmps140
  go_wp2_with fail
  go_ret
  exact ⟨rfl, rfl⟩
theorem in_0_false (n : Int) (w : World) : Calls Try.prog 132 #[.int .i64 n, .int .i64 0, .bool false] w fun e w' => e = .returned (.bool (rng n 0 false)) ∧ w = w' := by
  by_cases h : 0 ≤ n
  all_goals
    go_enter Try.func132, Try.ntmps132
    go_wp2_with (first | (go_at_call 140; refine (most_0 _).mono ?_; rintro e ws ⟨rfl, rfl⟩) | (go_at_call 141; refine (pools_0 _).mono ?_; rintro e ws ⟨rfl, rfl⟩))
    go_ret
    exact ⟨by simp [rng, mosts, h] <;> omega, rfl⟩
theorem in_0_true (n : Int) (w : World) : Calls Try.prog 132 #[.int .i64 n, .int .i64 0, .bool true] w fun e w' => e = .returned (.bool (rng n 0 true)) ∧ w = w' := by
  by_cases h : 0 ≤ n
  all_goals
    go_enter Try.func132, Try.ntmps132
    go_wp2_with (first | (go_at_call 140; refine (most_0 _).mono ?_; rintro e ws ⟨rfl, rfl⟩) | (go_at_call 141; refine (pools_0 _).mono ?_; rintro e ws ⟨rfl, rfl⟩))
    go_ret
    exact ⟨by simp [rng, mosts, h] <;> omega, rfl⟩
theorem in_1_false (n : Int) (w : World) : Calls Try.prog 132 #[.int .i64 n, .int .i64 1, .bool false] w fun e w' => e = .returned (.bool (rng n 1 false)) ∧ w = w' := by
  by_cases h : -2147483648 ≤ n
  all_goals
    go_enter Try.func132, Try.ntmps132
    go_wp2_with (first | (go_at_call 140; refine (most_1 _).mono ?_; rintro e ws ⟨rfl, rfl⟩) | (go_at_call 141; refine (pools_1 _).mono ?_; rintro e ws ⟨rfl, rfl⟩))
    go_ret
    exact ⟨by simp [rng, mosts, h] <;> omega, rfl⟩
theorem in_1_true (n : Int) (w : World) : Calls Try.prog 132 #[.int .i64 n, .int .i64 1, .bool true] w fun e w' => e = .returned (.bool (rng n 1 true)) ∧ w = w' := by
  by_cases h : -2147483648 ≤ n
  all_goals
    go_enter Try.func132, Try.ntmps132
    go_wp2_with (first | (go_at_call 140; refine (most_1 _).mono ?_; rintro e ws ⟨rfl, rfl⟩) | (go_at_call 141; refine (pools_1 _).mono ?_; rintro e ws ⟨rfl, rfl⟩))
    go_ret
    exact ⟨by simp [rng, mosts, h] <;> omega, rfl⟩
theorem in_2_false (n : Int) (w : World) : Calls Try.prog 132 #[.int .i64 n, .int .i64 2, .bool false] w fun e w' => e = .returned (.bool (rng n 2 false)) ∧ w = w' := by
  by_cases h : 0 ≤ n
  all_goals
    go_enter Try.func132, Try.ntmps132
    go_wp2_with (first | (go_at_call 140; refine (most_2 _).mono ?_; rintro e ws ⟨rfl, rfl⟩) | (go_at_call 141; refine (pools_2 _).mono ?_; rintro e ws ⟨rfl, rfl⟩))
    go_ret
    exact ⟨by simp [rng, mosts, h] <;> omega, rfl⟩
theorem in_2_true (n : Int) (w : World) : Calls Try.prog 132 #[.int .i64 n, .int .i64 2, .bool true] w fun e w' => e = .returned (.bool (rng n 2 true)) ∧ w = w' := by
  by_cases h : 0 ≤ n
  all_goals
    go_enter Try.func132, Try.ntmps132
    go_wp2_with (first | (go_at_call 140; refine (most_2 _).mono ?_; rintro e ws ⟨rfl, rfl⟩) | (go_at_call 141; refine (pools_2 _).mono ?_; rintro e ws ⟨rfl, rfl⟩))
    go_ret
    exact ⟨by simp [rng, mosts, h] <;> omega, rfl⟩
theorem in_3_false (n : Int) (w : World) : Calls Try.prog 132 #[.int .i64 n, .int .i64 3, .bool false] w fun e w' => e = .returned (.bool (rng n 3 false)) ∧ w = w' := by
  by_cases h : 2 ≤ n
  all_goals
    go_enter Try.func132, Try.ntmps132
    go_wp2_with (first | (go_at_call 140; refine (most_3 _).mono ?_; rintro e ws ⟨rfl, rfl⟩) | (go_at_call 141; refine (pools_3 _).mono ?_; rintro e ws ⟨rfl, rfl⟩))
    go_ret
    exact ⟨by simp [rng, mosts, h] <;> omega, rfl⟩
theorem in_3_true (n : Int) (w : World) : Calls Try.prog 132 #[.int .i64 n, .int .i64 3, .bool true] w fun e w' => e = .returned (.bool (rng n 3 true)) ∧ w = w' := by
  by_cases h : 2 ≤ n
  all_goals
    go_enter Try.func132, Try.ntmps132
    go_wp2_with (first | (go_at_call 140; refine (most_3 _).mono ?_; rintro e ws ⟨rfl, rfl⟩) | (go_at_call 141; refine (pools_3 _).mono ?_; rintro e ws ⟨rfl, rfl⟩))
    go_ret
    exact ⟨by simp [rng, mosts, h] <;> omega, rfl⟩
theorem in_4_false (n : Int) (w : World) : Calls Try.prog 132 #[.int .i64 n, .int .i64 4, .bool false] w fun e w' => e = .returned (.bool (rng n 4 false)) ∧ w = w' := by
  by_cases h : 0 ≤ n
  all_goals
    go_enter Try.func132, Try.ntmps132
    go_wp2_with (first | (go_at_call 140; refine (most_4 _).mono ?_; rintro e ws ⟨rfl, rfl⟩) | (go_at_call 141; refine (pools_4 _).mono ?_; rintro e ws ⟨rfl, rfl⟩))
    go_ret
    exact ⟨by simp [rng, mosts, h] <;> omega, rfl⟩
theorem in_4_true (n : Int) (w : World) : Calls Try.prog 132 #[.int .i64 n, .int .i64 4, .bool true] w fun e w' => e = .returned (.bool (rng n 4 true)) ∧ w = w' := by
  by_cases h : 0 ≤ n
  all_goals
    go_enter Try.func132, Try.ntmps132
    go_wp2_with (first | (go_at_call 140; refine (most_4 _).mono ?_; rintro e ws ⟨rfl, rfl⟩) | (go_at_call 141; refine (pools_4 _).mono ?_; rintro e ws ⟨rfl, rfl⟩))
    go_ret
    exact ⟨by simp [rng, mosts, h] <;> omega, rfl⟩
theorem in_5_false (n : Int) (w : World) : Calls Try.prog 132 #[.int .i64 n, .int .i64 5, .bool false] w fun e w' => e = .returned (.bool (rng n 5 false)) ∧ w = w' := by
  by_cases h : 0 ≤ n
  all_goals
    go_enter Try.func132, Try.ntmps132
    go_wp2_with (first | (go_at_call 140; refine (most_5 _).mono ?_; rintro e ws ⟨rfl, rfl⟩) | (go_at_call 141; refine (pools_5 _).mono ?_; rintro e ws ⟨rfl, rfl⟩))
    go_ret
    exact ⟨by simp [rng, mosts, h] <;> omega, rfl⟩
theorem in_5_true (n : Int) (w : World) : Calls Try.prog 132 #[.int .i64 n, .int .i64 5, .bool true] w fun e w' => e = .returned (.bool (rng n 5 true)) ∧ w = w' := by
  by_cases h : 0 ≤ n
  all_goals
    go_enter Try.func132, Try.ntmps132
    go_wp2_with (first | (go_at_call 140; refine (most_5 _).mono ?_; rintro e ws ⟨rfl, rfl⟩) | (go_at_call 141; refine (pools_5 _).mono ?_; rintro e ws ⟨rfl, rfl⟩))
    go_ret
    exact ⟨by simp [rng, mosts, h] <;> omega, rfl⟩
theorem in_6_false (n : Int) (w : World) : Calls Try.prog 132 #[.int .i64 n, .int .i64 6, .bool false] w fun e w' => e = .returned (.bool (rng n 6 false)) ∧ w = w' := by
  by_cases h : 0 ≤ n
  all_goals
    go_enter Try.func132, Try.ntmps132
    go_wp2_with (first | (go_at_call 140; refine (most_6 _).mono ?_; rintro e ws ⟨rfl, rfl⟩) | (go_at_call 141; refine (pools_6 _).mono ?_; rintro e ws ⟨rfl, rfl⟩))
    go_ret
    exact ⟨by simp [rng, mosts, h] <;> omega, rfl⟩
theorem in_6_true (n : Int) (w : World) : Calls Try.prog 132 #[.int .i64 n, .int .i64 6, .bool true] w fun e w' => e = .returned (.bool (rng n 6 true)) ∧ w = w' := by
  by_cases h : 0 ≤ n
  all_goals
    go_enter Try.func132, Try.ntmps132
    go_wp2_with (first | (go_at_call 140; refine (most_6 _).mono ?_; rintro e ws ⟨rfl, rfl⟩) | (go_at_call 141; refine (pools_6 _).mono ?_; rintro e ws ⟨rfl, rfl⟩))
    go_ret
    exact ⟨by simp [rng, mosts, h] <;> omega, rfl⟩
theorem in_7_false (n : Int) (w : World) : Calls Try.prog 132 #[.int .i64 n, .int .i64 7, .bool false] w fun e w' => e = .returned (.bool (rng n 7 false)) ∧ w = w' := by
  by_cases h : 0 ≤ n
  all_goals
    go_enter Try.func132, Try.ntmps132
    go_wp2_with (first | (go_at_call 140; refine (most_7 _).mono ?_; rintro e ws ⟨rfl, rfl⟩) | (go_at_call 141; refine (pools_7 _).mono ?_; rintro e ws ⟨rfl, rfl⟩))
    go_ret
    exact ⟨by simp [rng, mosts, h] <;> omega, rfl⟩
theorem in_7_true (n : Int) (w : World) : Calls Try.prog 132 #[.int .i64 n, .int .i64 7, .bool true] w fun e w' => e = .returned (.bool (rng n 7 true)) ∧ w = w' := by
  by_cases h : 0 ≤ n
  all_goals
    go_enter Try.func132, Try.ntmps132
    go_wp2_with (first | (go_at_call 140; refine (most_7 _).mono ?_; rintro e ws ⟨rfl, rfl⟩) | (go_at_call 141; refine (pools_7 _).mono ?_; rintro e ws ⟨rfl, rfl⟩))
    go_ret
    exact ⟨by simp [rng, mosts, h] <;> omega, rfl⟩
theorem in_8_false (n : Int) (w : World) : Calls Try.prog 132 #[.int .i64 n, .int .i64 8, .bool false] w fun e w' => e = .returned (.bool (rng n 8 false)) ∧ w = w' := by
  by_cases h : 0 ≤ n
  all_goals
    go_enter Try.func132, Try.ntmps132
    go_wp2_with (first | (go_at_call 140; refine (most_8 _).mono ?_; rintro e ws ⟨rfl, rfl⟩) | (go_at_call 141; refine (pools_8 _).mono ?_; rintro e ws ⟨rfl, rfl⟩))
    go_ret
    exact ⟨by simp [rng, mosts, h] <;> omega, rfl⟩
theorem in_8_true (n : Int) (w : World) : Calls Try.prog 132 #[.int .i64 n, .int .i64 8, .bool true] w fun e w' => e = .returned (.bool (rng n 8 true)) ∧ w = w' := by
  by_cases h : 0 ≤ n
  all_goals
    go_enter Try.func132, Try.ntmps132
    go_wp2_with (first | (go_at_call 140; refine (most_8 _).mono ?_; rintro e ws ⟨rfl, rfl⟩) | (go_at_call 141; refine (pools_8 _).mono ?_; rintro e ws ⟨rfl, rfl⟩))
    go_ret
    exact ⟨by simp [rng, mosts, h] <;> omega, rfl⟩
theorem in_9_false (n : Int) (w : World) : Calls Try.prog 132 #[.int .i64 n, .int .i64 9, .bool false] w fun e w' => e = .returned (.bool (rng n 9 false)) ∧ w = w' := by
  by_cases h : 0 ≤ n
  all_goals
    go_enter Try.func132, Try.ntmps132
    go_wp2_with (first | (go_at_call 140; refine (most_9 _).mono ?_; rintro e ws ⟨rfl, rfl⟩) | (go_at_call 141; refine (pools_9 _).mono ?_; rintro e ws ⟨rfl, rfl⟩))
    go_ret
    exact ⟨by simp [rng, mosts, h] <;> omega, rfl⟩
theorem in_9_true (n : Int) (w : World) : Calls Try.prog 132 #[.int .i64 n, .int .i64 9, .bool true] w fun e w' => e = .returned (.bool (rng n 9 true)) ∧ w = w' := by
  by_cases h : 0 ≤ n
  all_goals
    go_enter Try.func132, Try.ntmps132
    go_wp2_with (first | (go_at_call 140; refine (most_9 _).mono ?_; rintro e ws ⟨rfl, rfl⟩) | (go_at_call 141; refine (pools_9 _).mono ?_; rintro e ws ⟨rfl, rfl⟩))
    go_ret
    exact ⟨by simp [rng, mosts, h] <;> omega, rfl⟩
theorem in_10_false (n : Int) (w : World) : Calls Try.prog 132 #[.int .i64 n, .int .i64 10, .bool false] w fun e w' => e = .returned (.bool (rng n 10 false)) ∧ w = w' := by
  by_cases h : 0 ≤ n
  all_goals
    go_enter Try.func132, Try.ntmps132
    go_wp2_with (first | (go_at_call 140; refine (most_10 _).mono ?_; rintro e ws ⟨rfl, rfl⟩) | (go_at_call 141; refine (pools_10 _).mono ?_; rintro e ws ⟨rfl, rfl⟩))
    go_ret
    exact ⟨by simp [rng, mosts, h] <;> omega, rfl⟩
theorem in_10_true (n : Int) (w : World) : Calls Try.prog 132 #[.int .i64 n, .int .i64 10, .bool true] w fun e w' => e = .returned (.bool (rng n 10 true)) ∧ w = w' := by
  by_cases h : 0 ≤ n
  all_goals
    go_enter Try.func132, Try.ntmps132
    go_wp2_with (first | (go_at_call 140; refine (most_10 _).mono ?_; rintro e ws ⟨rfl, rfl⟩) | (go_at_call 141; refine (pools_10 _).mono ?_; rintro e ws ⟨rfl, rfl⟩))
    go_ret
    exact ⟨by simp [rng, mosts, h] <;> omega, rfl⟩
theorem in_11_false (n : Int) (w : World) : Calls Try.prog 132 #[.int .i64 n, .int .i64 11, .bool false] w fun e w' => e = .returned (.bool (rng n 11 false)) ∧ w = w' := by
  by_cases h : 0 ≤ n
  all_goals
    go_enter Try.func132, Try.ntmps132
    go_wp2_with (first | (go_at_call 140; refine (most_11 _).mono ?_; rintro e ws ⟨rfl, rfl⟩) | (go_at_call 141; refine (pools_11 _).mono ?_; rintro e ws ⟨rfl, rfl⟩))
    go_ret
    exact ⟨by simp [rng, mosts, h] <;> omega, rfl⟩
theorem in_11_true (n : Int) (w : World) : Calls Try.prog 132 #[.int .i64 n, .int .i64 11, .bool true] w fun e w' => e = .returned (.bool (rng n 11 true)) ∧ w = w' := by
  by_cases h : 0 ≤ n
  all_goals
    go_enter Try.func132, Try.ntmps132
    go_wp2_with (first | (go_at_call 140; refine (most_11 _).mono ?_; rintro e ws ⟨rfl, rfl⟩) | (go_at_call 141; refine (pools_11 _).mono ?_; rintro e ws ⟨rfl, rfl⟩))
    go_ret
    exact ⟨by simp [rng, mosts, h] <;> omega, rfl⟩
theorem in_12_false (n : Int) (w : World) : Calls Try.prog 132 #[.int .i64 n, .int .i64 12, .bool false] w fun e w' => e = .returned (.bool (rng n 12 false)) ∧ w = w' := by
  by_cases h : 0 ≤ n
  all_goals
    go_enter Try.func132, Try.ntmps132
    go_wp2_with (first | (go_at_call 140; refine (most_12 _).mono ?_; rintro e ws ⟨rfl, rfl⟩) | (go_at_call 141; refine (pools_12 _).mono ?_; rintro e ws ⟨rfl, rfl⟩))
    go_ret
    exact ⟨by simp [rng, mosts, h] <;> omega, rfl⟩
theorem in_12_true (n : Int) (w : World) : Calls Try.prog 132 #[.int .i64 n, .int .i64 12, .bool true] w fun e w' => e = .returned (.bool (rng n 12 true)) ∧ w = w' := by
  by_cases h : 0 ≤ n
  all_goals
    go_enter Try.func132, Try.ntmps132
    go_wp2_with (first | (go_at_call 140; refine (most_12 _).mono ?_; rintro e ws ⟨rfl, rfl⟩) | (go_at_call 141; refine (pools_12 _).mono ?_; rintro e ws ⟨rfl, rfl⟩))
    go_ret
    exact ⟨by simp [rng, mosts, h] <;> omega, rfl⟩
theorem in_13_false (n : Int) (w : World) : Calls Try.prog 132 #[.int .i64 n, .int .i64 13, .bool false] w fun e w' => e = .returned (.bool (rng n 13 false)) ∧ w = w' := by
  by_cases h : 0 ≤ n
  all_goals
    go_enter Try.func132, Try.ntmps132
    go_wp2_with (first | (go_at_call 140; refine (most_13 _).mono ?_; rintro e ws ⟨rfl, rfl⟩) | (go_at_call 141; refine (pools_13 _).mono ?_; rintro e ws ⟨rfl, rfl⟩))
    go_ret
    exact ⟨by simp [rng, mosts, h] <;> omega, rfl⟩
theorem in_13_true (n : Int) (w : World) : Calls Try.prog 132 #[.int .i64 n, .int .i64 13, .bool true] w fun e w' => e = .returned (.bool (rng n 13 true)) ∧ w = w' := by
  by_cases h : 0 ≤ n
  all_goals
    go_enter Try.func132, Try.ntmps132
    go_wp2_with (first | (go_at_call 140; refine (most_13 _).mono ?_; rintro e ws ⟨rfl, rfl⟩) | (go_at_call 141; refine (pools_13 _).mono ?_; rintro e ws ⟨rfl, rfl⟩))
    go_ret
    exact ⟨by simp [rng, mosts, h] <;> omega, rfl⟩
theorem in_14_false (n : Int) (w : World) : Calls Try.prog 132 #[.int .i64 n, .int .i64 14, .bool false] w fun e w' => e = .returned (.bool (rng n 14 false)) ∧ w = w' := by
  by_cases h : 1 ≤ n
  all_goals
    go_enter Try.func132, Try.ntmps132
    go_wp2_with (first | (go_at_call 140; refine (most_14 _).mono ?_; rintro e ws ⟨rfl, rfl⟩) | (go_at_call 141; refine (pools_14 _).mono ?_; rintro e ws ⟨rfl, rfl⟩))
    go_ret
    exact ⟨by simp [rng, mosts, h] <;> omega, rfl⟩
theorem in_14_true (n : Int) (w : World) : Calls Try.prog 132 #[.int .i64 n, .int .i64 14, .bool true] w fun e w' => e = .returned (.bool (rng n 14 true)) ∧ w = w' := by
  by_cases h : 1 ≤ n
  all_goals
    go_enter Try.func132, Try.ntmps132
    go_wp2_with (first | (go_at_call 140; refine (most_14 _).mono ?_; rintro e ws ⟨rfl, rfl⟩) | (go_at_call 141; refine (pools_14 _).mono ?_; rintro e ws ⟨rfl, rfl⟩))
    go_ret
    exact ⟨by simp [rng, mosts, h] <;> omega, rfl⟩
theorem in_any (n r : Int) (p : Bool) (h0 : 0 ≤ r) (h1 : r ≤ 14) (w : World) : Calls Try.prog 132 #[.int .i64 n, .int .i64 r, .bool p] w fun e w' => e = .returned (.bool (rng n r p)) ∧ w = w' := by
  have hc : r = 0 ∨ r = 1 ∨ r = 2 ∨ r = 3 ∨ r = 4 ∨ r = 5 ∨ r = 6 ∨ r = 7 ∨ r = 8 ∨ r = 9 ∨ r = 10 ∨ r = 11 ∨ r = 12 ∨ r = 13 ∨ r = 14 := by omega
  rcases hc with rfl | rfl | rfl | rfl | rfl | rfl | rfl | rfl | rfl | rfl | rfl | rfl | rfl | rfl | rfl
  · cases p
    · exact in_0_false n w
    · exact in_0_true n w
  · cases p
    · exact in_1_false n w
    · exact in_1_true n w
  · cases p
    · exact in_2_false n w
    · exact in_2_true n w
  · cases p
    · exact in_3_false n w
    · exact in_3_true n w
  · cases p
    · exact in_4_false n w
    · exact in_4_true n w
  · cases p
    · exact in_5_false n w
    · exact in_5_true n w
  · cases p
    · exact in_6_false n w
    · exact in_6_true n w
  · cases p
    · exact in_7_false n w
    · exact in_7_true n w
  · cases p
    · exact in_8_false n w
    · exact in_8_true n w
  · cases p
    · exact in_9_false n w
    · exact in_9_true n w
  · cases p
    · exact in_10_false n w
    · exact in_10_true n w
  · cases p
    · exact in_11_false n w
    · exact in_11_true n w
  · cases p
    · exact in_12_false n w
    · exact in_12_true n w
  · cases p
    · exact in_13_false n w
    · exact in_13_true n w
  · cases p
    · exact in_14_false n w
    · exact in_14_true n w
end Ec
end Go.Proofs.Ytmjnakhpekbenaa
namespace Go.Proofs.Ytmjnakhpekbenaa
open Go.RowKit Go.Sort
namespace Ec
theorem ret_b {a b : Bool} (h : a = b) : Ending.returned (.bool a) = .returned (.bool b) := by rw [h]
theorem sp_bd : ∀ k, k < 36 → 0 ≤ (sp k).a ∧ (sp k).a ≤ 14 ∧ 0 ≤ (sp k).b ∧ (sp k).b ≤ 14 ∧ 0 ≤ (sp k).c ∧ (sp k).c ≤ 12 := by decide
def vld (op a b : Int) (p : Bool) : Bool := decide (0 ≤ op) && decide (op < 36) && (rng a (sp op.toNat).a p && (rng b (sp op.toNat).b p && (!(op == 12) || (!(a == 3) || b == 0))))
theorem vld_bad {op a b : Int} {p : Bool} (h : op < 0 ∨ 36 ≤ op) : vld op a b p = false := by
  unfold vld
  rcases h with h | h
  · rw [decide_eq_false (by omega)]; rfl
  · rw [decide_eq_false (p := op < 36) (by omega)]; simp
theorem vld_nat (k : Nat) (hk : k < 36) (a b : Int) (p : Bool) : vld (k : Int) a b p = (rng a (sp k).a p && (rng b (sp k).b p && (!((k : Int) == 12) || (!(a == 3) || b == 0)))) := by
  unfold vld
  rw [decide_eq_true (by omega), decide_eq_true (by omega), Int.toNat_natCast]; rfl
theorem Valid_any (op a b : Int) (p : Bool) (w : World) :
    Calls Try.prog 117 #[.agg #[.int .i64 op, .int .i64 a, .int .i64 b], .bool p] w fun e w' => e = .returned (.bool (vld op a b p)) ∧ Below w.heap.size w w' := by
  by_cases hop : 0 ≤ op ∧ op < 36
  · obtain ⟨k, rfl⟩ : ∃ k : Nat, op = (k : Int) := ⟨op.toNat, by omega⟩
    have hk : k < 36 := by omega
    obtain ⟨s1, s2, s3, s4, s5, s6⟩ := sp_bd k hk
    have HV := hide (vld_nat k hk a b p)
    have start : ∀ w' : World, True := fun _ => trivial
    clear start hop
    go_enter Try.func117, Try.ntmps117
    go_wp2_with fail
    refine (known_ok k hk _).mono ?_
    rintro e w1 ⟨rfl, hb⟩
    have hz1 : w.heap.size + 1 ≤ w1.heap.size := by have := hb.size; simpa using this
    have c0 : w1.cell? ⟨w.heap.size, 0, none⟩ = some (.int .i64 (k : Int)) := by rw [hb.cell (by simp)]; simp
    have c1 : w1.cell? ⟨w.heap.size, 1, none⟩ = some (.int .i64 a) := by rw [hb.cell (by simp)]; simp
    have c2 : w1.cell? ⟨w.heap.size, 2, none⟩ = some (.int .i64 b) := by rw [hb.cell (by simp)]; simp
    have hlt : w.heap.size < w1.heap.size := by omega
    have hb1 : Below w.heap.size w w1 := Below.trans (by go_grown) (hb.mono (by simp))
    clear hb hz1
    go_wp2_with fail
    refine (in_any a _ p s1 s2 _).mono ?_
    rintro e ws ⟨rfl, rfl⟩
    cases r1 : rng a (sp k).a p
    case false =>
      have HV2 := hide (show vld (k : Int) a b p = false by rw [HV.out, r1]; rfl)
      go_wp2_with fail
      go_ret
      exact ⟨ret_b (by rw [HV2.out]), by go_grown⟩
    case true =>
      go_wp2_with fail
      refine (in_any b _ p s3 s4 _).mono ?_
      rintro e ws ⟨rfl, rfl⟩
      cases r2 : rng b (sp k).b p
      case false =>
        have HV2 := hide (show vld (k : Int) a b p = false by rw [HV.out, r1, r2]; rfl)
        go_wp2_with fail
        go_ret
        exact ⟨ret_b (by rw [HV2.out]), by go_grown⟩
      case true =>
        have HV2 := hide (show vld (k : Int) a b p = (!((k : Int) == 12) || (!(a == 3) || b == 0)) by rw [HV.out, r1, r2]; rfl)
        by_cases k12 : k = 12
        · subst k12
          by_cases a3 : a = 3
          · subst a3
            go_wp2_with fail
            go_ret
            exact ⟨ret_b (by rw [HV2.out]; rfl), by go_grown⟩
          · have a4 : (a == 3) = false := by simpa using a3
            have a5 : (a != 3) = true := by simpa using a3
            have HV3 := hide (show vld ((12 : Nat) : Int) a b p = true by rw [HV2.out, a4]; simp)
            go_wp2_with fail
            go_ret
            exact ⟨ret_b (by rw [HV3.out]), by go_grown⟩
        · have e12 : ((k : Int) == 12) = false := by simp; omega
          go_wp2_with fail
          go_ret
          exact ⟨by rw [HV2.out, e12]; rfl, by go_grown⟩
  · have HV := hide (vld_bad (op := op) (a := a) (b := b) (p := p) (by omega))
    have Hop2 : Hid (op < 0 ∨ (0 ≤ op ∧ 36 ≤ op)) := ⟨by omega⟩
    clear hop
    go_enter Try.func117, Try.ntmps117
    go_wp2_with fail
    refine (known_bad op Hop2.out _).mono ?_
    rintro e w1 ⟨rfl, hb⟩
    have hz1 : w.heap.size + 1 ≤ w1.heap.size := by have := hb.size; simpa using this
    have hb1 : Below w.heap.size w w1 := Below.trans (by go_grown) (hb.mono (by simp))
    clear hb
    go_wp2_with fail
    go_ret
    exact ⟨ret_b (by rw [HV.out]), by go_grown⟩
def opn (op : Int) : Bool := decide (29 ≤ op) && decide (op ≤ 33)
theorem Opens_any (op : Int) (w : World) : Calls Try.prog 74 #[.int .i64 op] w fun e w' => e = .returned (.bool (opn op)) ∧ w = w' := by
  have hc : (op < 29) ∨ op = 29 ∨ op = 30 ∨ op = 31 ∨ op = 32 ∨ op = 33 ∨ 33 < op := by omega
  rcases hc with hc | rfl | rfl | rfl | rfl | rfl | hc
  case inr.inr.inr.inr.inr.inr =>
    have e1 : (op == 29) = false := by simp; omega
    have e2 : (op == 30) = false := by simp; omega
    have e3 : (op == 31) = false := by simp; omega
    have e4 : (op == 32) = false := by simp; omega
    have e5 : (op == 33) = false := by simp; omega
    go_enter Try.func74, Try.ntmps74
    go_wp2_with fail
    go_ret
    exact ⟨ret_b (by simp [opn] <;> omega), rfl⟩
  case inl =>
    have e1 : (op == 29) = false := by simp; omega
    have e2 : (op == 30) = false := by simp; omega
    have e3 : (op == 31) = false := by simp; omega
    have e4 : (op == 32) = false := by simp; omega
    have e5 : (op == 33) = false := by simp; omega
    go_enter Try.func74, Try.ntmps74
    go_wp2_with fail
    go_ret
    exact ⟨ret_b (by simp [opn] <;> omega), rfl⟩
  all_goals
    go_enter Try.func74, Try.ntmps74
    go_wp2_with fail
    go_ret
    exact ⟨rfl, rfl⟩
end Ec
end Go.Proofs.Ytmjnakhpekbenaa
namespace Go.Proofs.Ytmjnakhpekbenaa
open Go.RowKit Go.Sort
namespace Ec
theorem drewN_below {B : Nat} {a w : World} (h : Below B a w) (n : Nat) : Below B a (w.drewN n) := ⟨h.os, h.tape, h.output, h.size, h.block⟩
theorem rin_any (n lo hi : Int) (w : World) : Calls Try.prog 94 #[.int .i64 n, .int .i64 lo, .int .i64 hi] w fun e w' => e = .returned (.bool (decide (lo ≤ n) && decide (n ≤ hi))) ∧ w = w' := by
  by_cases h : lo ≤ n
  all_goals
    go_enter Try.func94, Try.ntmps94
    go_wp2_with fail
    go_ret
    exact ⟨ret_b (by simp [h] <;> omega), rfl⟩
def rmo (n : Int) (p : Bool) : Int := if p then 59 else n - 1
theorem rmost_any (n : Int) (p : Bool) (h0 : 0 ≤ n) (h1 : n ≤ 100) (w : World) : Calls Try.prog 95 #[.int .i64 n, .bool p] w fun e w' => e = .returned (.int .i64 (rmo n p)) ∧ w = w' := by
  cases p
  all_goals
    go_enter Try.func95, Try.ntmps95
    go_wp2_with fail
    go_ret
    exact ⟨ret_i (by simp [rmo]), rfl⟩
theorem rmost_10 (p : Bool) (w : World) : Calls Try.prog 95 #[.int .i64 10, .bool p] w fun e w' => e = .returned (.int .i64 (rmo 10 p)) ∧ w = w' := rmost_any 10 p (by omega) (by omega) w
theorem rmost_7 (p : Bool) (w : World) : Calls Try.prog 95 #[.int .i64 7, .bool p] w fun e w' => e = .returned (.int .i64 (rmo 7 p)) ∧ w = w' := rmost_any 7 p (by omega) (by omega) w
theorem rmost_16 (p : Bool) (w : World) : Calls Try.prog 95 #[.int .i64 16, .bool p] w fun e w' => e = .returned (.int .i64 (rmo 16 p)) ∧ w = w' := rmost_any 16 p (by omega) (by omega) w
theorem rOpens_any (op : Int) (w : World) : Calls Try.prog 77 #[.int .i64 op] w fun e w' => e = .returned (.bool (opn op)) ∧ w = w' := by
  by_cases h : 29 ≤ op
  all_goals
    go_enter Try.func77, Try.ntmps77
    go_wp2_with fail
    go_ret
    exact ⟨ret_b (by simp [opn, h] <;> omega), rfl⟩
theorem rOperands_0 (w : World) : Calls Try.prog 93 #[.int .i64 0] w fun e w' => e = .returned (.tuple #[.int .i64 0, .int .i64 0]) ∧ w = w' := by
  go_enter Try.func93, Try.ntmps93
  go_wp2_with fail
  go_ret2
  exact ⟨rfl, rfl⟩
theorem rOperands_1 (w : World) : Calls Try.prog 93 #[.int .i64 1] w fun e w' => e = .returned (.tuple #[.int .i64 1, .int .i64 0]) ∧ w = w' := by
  go_enter Try.func93, Try.ntmps93
  go_wp2_with fail
  go_ret2
  exact ⟨rfl, rfl⟩
theorem rOperands_2 (w : World) : Calls Try.prog 93 #[.int .i64 2] w fun e w' => e = .returned (.tuple #[.int .i64 1, .int .i64 0]) ∧ w = w' := by
  go_enter Try.func93, Try.ntmps93
  go_wp2_with fail
  go_ret2
  exact ⟨rfl, rfl⟩
theorem rOperands_3 (w : World) : Calls Try.prog 93 #[.int .i64 3] w fun e w' => e = .returned (.tuple #[.int .i64 1, .int .i64 0]) ∧ w = w' := by
  go_enter Try.func93, Try.ntmps93
  go_wp2_with fail
  go_ret2
  exact ⟨rfl, rfl⟩
theorem rOperands_4 (w : World) : Calls Try.prog 93 #[.int .i64 4] w fun e w' => e = .returned (.tuple #[.int .i64 0, .int .i64 0]) ∧ w = w' := by
  go_enter Try.func93, Try.ntmps93
  go_wp2_with fail
  go_ret2
  exact ⟨rfl, rfl⟩
theorem rOperands_5 (w : World) : Calls Try.prog 93 #[.int .i64 5] w fun e w' => e = .returned (.tuple #[.int .i64 0, .int .i64 0]) ∧ w = w' := by
  go_enter Try.func93, Try.ntmps93
  go_wp2_with fail
  go_ret2
  exact ⟨rfl, rfl⟩
theorem rOperands_6 (w : World) : Calls Try.prog 93 #[.int .i64 6] w fun e w' => e = .returned (.tuple #[.int .i64 0, .int .i64 0]) ∧ w = w' := by
  go_enter Try.func93, Try.ntmps93
  go_wp2_with fail
  go_ret2
  exact ⟨rfl, rfl⟩
theorem rOperands_7 (w : World) : Calls Try.prog 93 #[.int .i64 7] w fun e w' => e = .returned (.tuple #[.int .i64 0, .int .i64 0]) ∧ w = w' := by
  go_enter Try.func93, Try.ntmps93
  go_wp2_with fail
  go_ret2
  exact ⟨rfl, rfl⟩
theorem rOperands_8 (w : World) : Calls Try.prog 93 #[.int .i64 8] w fun e w' => e = .returned (.tuple #[.int .i64 0, .int .i64 0]) ∧ w = w' := by
  go_enter Try.func93, Try.ntmps93
  go_wp2_with fail
  go_ret2
  exact ⟨rfl, rfl⟩
theorem rOperands_9 (w : World) : Calls Try.prog 93 #[.int .i64 9] w fun e w' => e = .returned (.tuple #[.int .i64 0, .int .i64 0]) ∧ w = w' := by
  go_enter Try.func93, Try.ntmps93
  go_wp2_with fail
  go_ret2
  exact ⟨rfl, rfl⟩
theorem rOperands_10 (w : World) : Calls Try.prog 93 #[.int .i64 10] w fun e w' => e = .returned (.tuple #[.int .i64 0, .int .i64 0]) ∧ w = w' := by
  go_enter Try.func93, Try.ntmps93
  go_wp2_with fail
  go_ret2
  exact ⟨rfl, rfl⟩
theorem rOperands_11 (w : World) : Calls Try.prog 93 #[.int .i64 11] w fun e w' => e = .returned (.tuple #[.int .i64 0, .int .i64 0]) ∧ w = w' := by
  go_enter Try.func93, Try.ntmps93
  go_wp2_with fail
  go_ret2
  exact ⟨rfl, rfl⟩
theorem rOperands_12 (w : World) : Calls Try.prog 93 #[.int .i64 12] w fun e w' => e = .returned (.tuple #[.int .i64 2, .int .i64 0]) ∧ w = w' := by
  go_enter Try.func93, Try.ntmps93
  go_wp2_with fail
  go_ret2
  exact ⟨rfl, rfl⟩
theorem rOperands_13 (w : World) : Calls Try.prog 93 #[.int .i64 13] w fun e w' => e = .returned (.tuple #[.int .i64 0, .int .i64 0]) ∧ w = w' := by
  go_enter Try.func93, Try.ntmps93
  go_wp2_with fail
  go_ret2
  exact ⟨rfl, rfl⟩
theorem rOperands_14 (w : World) : Calls Try.prog 93 #[.int .i64 14] w fun e w' => e = .returned (.tuple #[.int .i64 1, .int .i64 0]) ∧ w = w' := by
  go_enter Try.func93, Try.ntmps93
  go_wp2_with fail
  go_ret2
  exact ⟨rfl, rfl⟩
theorem rOperands_15 (w : World) : Calls Try.prog 93 #[.int .i64 15] w fun e w' => e = .returned (.tuple #[.int .i64 1, .int .i64 0]) ∧ w = w' := by
  go_enter Try.func93, Try.ntmps93
  go_wp2_with fail
  go_ret2
  exact ⟨rfl, rfl⟩
theorem rOperands_16 (w : World) : Calls Try.prog 93 #[.int .i64 16] w fun e w' => e = .returned (.tuple #[.int .i64 2, .int .i64 0]) ∧ w = w' := by
  go_enter Try.func93, Try.ntmps93
  go_wp2_with fail
  go_ret2
  exact ⟨rfl, rfl⟩
theorem rOperands_17 (w : World) : Calls Try.prog 93 #[.int .i64 17] w fun e w' => e = .returned (.tuple #[.int .i64 1, .int .i64 0]) ∧ w = w' := by
  go_enter Try.func93, Try.ntmps93
  go_wp2_with fail
  go_ret2
  exact ⟨rfl, rfl⟩
theorem rOperands_18 (w : World) : Calls Try.prog 93 #[.int .i64 18] w fun e w' => e = .returned (.tuple #[.int .i64 1, .int .i64 0]) ∧ w = w' := by
  go_enter Try.func93, Try.ntmps93
  go_wp2_with fail
  go_ret2
  exact ⟨rfl, rfl⟩
theorem rOperands_19 (w : World) : Calls Try.prog 93 #[.int .i64 19] w fun e w' => e = .returned (.tuple #[.int .i64 0, .int .i64 0]) ∧ w = w' := by
  go_enter Try.func93, Try.ntmps93
  go_wp2_with fail
  go_ret2
  exact ⟨rfl, rfl⟩
theorem rOperands_20 (w : World) : Calls Try.prog 93 #[.int .i64 20] w fun e w' => e = .returned (.tuple #[.int .i64 0, .int .i64 0]) ∧ w = w' := by
  go_enter Try.func93, Try.ntmps93
  go_wp2_with fail
  go_ret2
  exact ⟨rfl, rfl⟩
theorem rOperands_21 (w : World) : Calls Try.prog 93 #[.int .i64 21] w fun e w' => e = .returned (.tuple #[.int .i64 0, .int .i64 0]) ∧ w = w' := by
  go_enter Try.func93, Try.ntmps93
  go_wp2_with fail
  go_ret2
  exact ⟨rfl, rfl⟩
theorem rOperands_22 (w : World) : Calls Try.prog 93 #[.int .i64 22] w fun e w' => e = .returned (.tuple #[.int .i64 1, .int .i64 0]) ∧ w = w' := by
  go_enter Try.func93, Try.ntmps93
  go_wp2_with fail
  go_ret2
  exact ⟨rfl, rfl⟩
theorem rOperands_23 (w : World) : Calls Try.prog 93 #[.int .i64 23] w fun e w' => e = .returned (.tuple #[.int .i64 1, .int .i64 0]) ∧ w = w' := by
  go_enter Try.func93, Try.ntmps93
  go_wp2_with fail
  go_ret2
  exact ⟨rfl, rfl⟩
theorem rOperands_24 (w : World) : Calls Try.prog 93 #[.int .i64 24] w fun e w' => e = .returned (.tuple #[.int .i64 1, .int .i64 0]) ∧ w = w' := by
  go_enter Try.func93, Try.ntmps93
  go_wp2_with fail
  go_ret2
  exact ⟨rfl, rfl⟩
theorem rOperands_25 (w : World) : Calls Try.prog 93 #[.int .i64 25] w fun e w' => e = .returned (.tuple #[.int .i64 1, .int .i64 0]) ∧ w = w' := by
  go_enter Try.func93, Try.ntmps93
  go_wp2_with fail
  go_ret2
  exact ⟨rfl, rfl⟩
theorem rOperands_26 (w : World) : Calls Try.prog 93 #[.int .i64 26] w fun e w' => e = .returned (.tuple #[.int .i64 1, .int .i64 0]) ∧ w = w' := by
  go_enter Try.func93, Try.ntmps93
  go_wp2_with fail
  go_ret2
  exact ⟨rfl, rfl⟩
theorem rOperands_27 (w : World) : Calls Try.prog 93 #[.int .i64 27] w fun e w' => e = .returned (.tuple #[.int .i64 1, .int .i64 0]) ∧ w = w' := by
  go_enter Try.func93, Try.ntmps93
  go_wp2_with fail
  go_ret2
  exact ⟨rfl, rfl⟩
theorem rOperands_28 (w : World) : Calls Try.prog 93 #[.int .i64 28] w fun e w' => e = .returned (.tuple #[.int .i64 1, .int .i64 0]) ∧ w = w' := by
  go_enter Try.func93, Try.ntmps93
  go_wp2_with fail
  go_ret2
  exact ⟨rfl, rfl⟩
theorem rOperands_29 (w : World) : Calls Try.prog 93 #[.int .i64 29] w fun e w' => e = .returned (.tuple #[.int .i64 0, .int .i64 0]) ∧ w = w' := by
  go_enter Try.func93, Try.ntmps93
  go_wp2_with fail
  go_ret2
  exact ⟨rfl, rfl⟩
theorem rOperands_30 (w : World) : Calls Try.prog 93 #[.int .i64 30] w fun e w' => e = .returned (.tuple #[.int .i64 2, .int .i64 0]) ∧ w = w' := by
  go_enter Try.func93, Try.ntmps93
  go_wp2_with fail
  go_ret2
  exact ⟨rfl, rfl⟩
theorem rOperands_31 (w : World) : Calls Try.prog 93 #[.int .i64 31] w fun e w' => e = .returned (.tuple #[.int .i64 1, .int .i64 0]) ∧ w = w' := by
  go_enter Try.func93, Try.ntmps93
  go_wp2_with fail
  go_ret2
  exact ⟨rfl, rfl⟩
theorem rOperands_32 (w : World) : Calls Try.prog 93 #[.int .i64 32] w fun e w' => e = .returned (.tuple #[.int .i64 1, .int .i64 0]) ∧ w = w' := by
  go_enter Try.func93, Try.ntmps93
  go_wp2_with fail
  go_ret2
  exact ⟨rfl, rfl⟩
theorem rOperands_33 (w : World) : Calls Try.prog 93 #[.int .i64 33] w fun e w' => e = .returned (.tuple #[.int .i64 0, .int .i64 0]) ∧ w = w' := by
  go_enter Try.func93, Try.ntmps93
  go_wp2_with fail
  go_ret2
  exact ⟨rfl, rfl⟩
theorem rOperands_34 (w : World) : Calls Try.prog 93 #[.int .i64 34] w fun e w' => e = .returned (.tuple #[.int .i64 0, .int .i64 0]) ∧ w = w' := by
  go_enter Try.func93, Try.ntmps93
  go_wp2_with fail
  go_ret2
  exact ⟨rfl, rfl⟩
theorem rOperands_35 (w : World) : Calls Try.prog 93 #[.int .i64 35] w fun e w' => e = .returned (.tuple #[.int .i64 0, .int .i64 0]) ∧ w = w' := by
  go_enter Try.func93, Try.ntmps93
  go_wp2_with fail
  go_ret2
  exact ⟨rfl, rfl⟩
theorem rOperands_bad (op : Int) (hk : op < 0 ∨ (¬ op < 0 ∧ 35 < op)) (w : World) : Calls Try.prog 93 #[.int .i64 op] w fun e w' => e = .returned (.tuple #[.int .i64 0, .int .i64 3]) ∧ w = w' := by
  have e0 : (op == 0) = false := by simp; omega
  have e1 : (op == 1) = false := by simp; omega
  have e2 : (op == 2) = false := by simp; omega
  have e3 : (op == 3) = false := by simp; omega
  have e4 : (op == 4) = false := by simp; omega
  have e5 : (op == 5) = false := by simp; omega
  have e6 : (op == 6) = false := by simp; omega
  have e7 : (op == 7) = false := by simp; omega
  have e8 : (op == 8) = false := by simp; omega
  have e9 : (op == 9) = false := by simp; omega
  have e10 : (op == 10) = false := by simp; omega
  have e11 : (op == 11) = false := by simp; omega
  have e12 : (op == 12) = false := by simp; omega
  have e13 : (op == 13) = false := by simp; omega
  have e14 : (op == 14) = false := by simp; omega
  have e15 : (op == 15) = false := by simp; omega
  have e16 : (op == 16) = false := by simp; omega
  have e17 : (op == 17) = false := by simp; omega
  have e18 : (op == 18) = false := by simp; omega
  have e19 : (op == 19) = false := by simp; omega
  have e20 : (op == 20) = false := by simp; omega
  have e21 : (op == 21) = false := by simp; omega
  have e22 : (op == 22) = false := by simp; omega
  have e23 : (op == 23) = false := by simp; omega
  have e24 : (op == 24) = false := by simp; omega
  have e25 : (op == 25) = false := by simp; omega
  have e26 : (op == 26) = false := by simp; omega
  have e27 : (op == 27) = false := by simp; omega
  have e28 : (op == 28) = false := by simp; omega
  have e29 : (op == 29) = false := by simp; omega
  have e30 : (op == 30) = false := by simp; omega
  have e31 : (op == 31) = false := by simp; omega
  have e32 : (op == 32) = false := by simp; omega
  have e33 : (op == 33) = false := by simp; omega
  have e34 : (op == 34) = false := by simp; omega
  have e35 : (op == 35) = false := by simp; omega
  rcases hk with hk | ⟨hk, hk2⟩
  all_goals
    go_enter Try.func93, Try.ntmps93
    go_wp2_with fail
    go_ret2
    exact ⟨rfl, rfl⟩
end Ec
end Go.Proofs.Ytmjnakhpekbenaa
namespace Go.Proofs.Ytmjnakhpekbenaa
open Go.RowKit Go.Sort
namespace Ec
structure Sh where
  l : List Nat
  o : Nat → Int
  e : Nat → Int
  d : Nat → Int
  t : Nat → Int
  m : Nat
def upI (f : Nat → Int) (i : Nat) (v : Int) : Nat → Int := fun j => if j = i then v else f j
def top (l : List Nat) : Int := match l.getLast? with | some x => (x : Int) | none => -1
def lay (k : Nat) (s : Sh) : Sh := ⟨s.l, upI s.o k (top s.l), upI s.e k (-1), upI s.d k (-1), upI s.t k (s.l.length : Int), s.m⟩
def two (c : Nat → Int) (x : Nat) : Bool := c x == 29 || c x == 33
def stp (c : Nat → Int) (k : Nat) (s : Sh) : Option Sh :=
  let r := lay k s
  if opn (c k) then some { r with l := s.l ++ [k], m := max s.m (s.l.length + 1) }
  else if c k == 34 || c k == 35 then
    match s.l.getLast? with
    | none => none
    | some x =>
      if c k == 34 then (if two c x && decide (r.e x < 0) then some { r with e := upI r.e x (k : Int), t := upI r.t k ((s.l.length : Int) - 1) } else none)
      else if c x == 33 && decide (r.e x < 0) then none
      else some { r with l := s.l.dropLast, d := upI r.d x (k : Int), t := upI r.t k ((s.l.length : Int) - 1) }
  else some r
def shp (c : Nat → Int) : Nat → Option Sh
  | 0 => some ⟨[], fun _ => 0, fun _ => 0, fun _ => 0, fun _ => 0, 0⟩
  | k + 1 => (shp c k).bind (stp c k)
def okS (c : Nat → Int) (n : Nat) : Bool := match shp c n with | some s => s.l.isEmpty && decide (s.m ≤ 6) | none => false
theorem shp_none {c : Nat → Int} {k : Nat} : ∀ j, shp c k = none → shp c (k + j) = none
  | 0, h => h
  | j + 1, h => by show (shp c (k + j)).bind _ = none; rw [shp_none j h]; rfl
theorem shp_bad {c : Nat → Int} {k n : Nat} {s : Sh} (h : shp c k = some s) (hs : stp c k s = none) (hk : k < n) : okS c n = false := by
  have h1 : shp c (k + 1) = none := by show (shp c k).bind _ = none; rw [h]; exact hs
  have h2 := shp_none (n - (k + 1)) h1
  rw [show k + 1 + (n - (k + 1)) = n by omega] at h2
  unfold okS; rw [h2]
theorem shp_step {c : Nat → Int} {k : Nat} {s s' : Sh} (h : shp c k = some s) (hs : stp c k s = some s') : shp c (k + 1) = some s' := by
  show (shp c k).bind _ = some s'; rw [h]; exact hs
theorem shp_lt {c : Nat → Int} : ∀ (k : Nat) (s : Sh), shp c k = some s → (∀ x, x ∈ s.l → x < k) ∧ s.l.length ≤ k ∧ s.m ≤ k
  | 0, s, h => by
    simp only [shp, Option.some.injEq] at h; subst h
    exact ⟨fun x hx => (by simp at hx), Nat.le_refl 0, Nat.le_refl 0⟩
  | k + 1, s', h => by
    have h' : (shp c k).bind (stp c k) = some s' := h
    cases hs : shp c k with
    | none => rw [hs] at h'; cases h'
    | some s =>
      rw [hs] at h'
      have ih := shp_lt k s hs
      have h2 : stp c k s = some s' := h'
      unfold stp lay at h2
      simp only [] at h2
      split at h2
      · simp only [Option.some.injEq] at h2; subst h2
        refine ⟨fun x hx => ?_, by simp; omega, by show max s.m (s.l.length + 1) ≤ k + 1; omega⟩
        have hx' : x ∈ s.l ++ [k] := hx
        rcases List.mem_append.1 hx' with q | q
        · have := ih.1 x q; omega
        · simp at q; omega
      · split at h2
        · split at h2
          · cases h2
          · split at h2
            · split at h2
              · simp only [Option.some.injEq] at h2; subst h2
                exact ⟨fun x hx => by have := ih.1 x hx; omega, by show s.l.length ≤ k + 1; omega, by show s.m ≤ k + 1; omega⟩
              · cases h2
            · split at h2
              · cases h2
              · simp only [Option.some.injEq] at h2; subst h2
                refine ⟨fun x hx => ?_, ?_, by show s.m ≤ k + 1; omega⟩
                · have hx' : x ∈ s.l.dropLast := hx
                  have := ih.1 x (List.dropLast_subset _ hx'); omega
                · show s.l.dropLast.length ≤ k + 1
                  simp; omega
        · simp only [Option.some.injEq] at h2; subst h2
          exact ⟨fun x hx => by have := ih.1 x hx; omega, by show s.l.length ≤ k + 1; omega, by show s.m ≤ k + 1; omega⟩
structure In where
  op : Int
  a : Int
  b : Int
abbrev rowI (n : Nat) : Obj := .cells (madeCells #[.int .i64 0] (n * 1)) 3
theorem infoI : (Try.prog.info? 3).map (fun i => (i.zero, i.size, i.bytes)) = some (some (.int .i64 0), 1, 8) := by kernel_rfl
theorem makeI (n : Nat) (hn : n ≤ 400) (W : World) : (Instr.makeSlice 33 (.int .i64 (n : Int)) (.int .i64 (n : Int))).run Try.prog W = .ok (.slice (some ⟨W.heap.size, 0, none⟩) n n) (W.alloc (rowI n)) := by
  obtain ⟨i, hi, hzz⟩ := Option.map_eq_some_iff.1 infoI
  simp only [Prod.mk.injEq] at hzz
  obtain ⟨hz, hs, hb⟩ := hzz
  have hr := run_make (P := Try.prog) W 33 3 i _ Try.underlying33 hi hz .i64 .i64 (n : Int) (n : Int) (by omega) (by omega) (by rw [hb]; omega) (by omega)
  rw [hs, Int.toNat_natCast] at hr
  exact hr
theorem stp_else_ok {c : Nat → Int} {k x : Nat} {s : Sh} (hA : opn (c k) = false) (h34 : c k = 34) (hl : s.l.getLast? = some x) (h2 : two c x = true) (hn : (lay k s).e x < 0) :
    stp c k s = some { lay k s with e := upI (lay k s).e x (k : Int), t := upI (lay k s).t k ((s.l.length : Int) - 1) } := by
  unfold stp
  simp only []
  rw [if_neg (by rw [hA]; exact Bool.false_ne_true), if_pos (by rw [h34]; rfl), hl]
  simp only []
  rw [if_pos (by rw [h34]; rfl), if_pos (by rw [h2, decide_eq_true hn]; rfl)]
theorem stp_else_two {c : Nat → Int} {k x : Nat} {s : Sh} (hA : opn (c k) = false) (h34 : c k = 34) (hl : s.l.getLast? = some x) (h2 : two c x = false) : stp c k s = none := by
  unfold stp
  simp only []
  rw [if_neg (by rw [hA]; exact Bool.false_ne_true), if_pos (by rw [h34]; rfl), hl]
  simp only []
  rw [if_pos (by rw [h34]; rfl), if_neg (by rw [h2]; exact Bool.false_ne_true)]
theorem stp_else_has {c : Nat → Int} {k x : Nat} {s : Sh} (hA : opn (c k) = false) (h34 : c k = 34) (hl : s.l.getLast? = some x) (hn : ¬ (lay k s).e x < 0) : stp c k s = none := by
  unfold stp
  simp only []
  rw [if_neg (by rw [hA]; exact Bool.false_ne_true), if_pos (by rw [h34]; rfl), hl]
  simp only []
  rw [if_pos (by rw [h34]; rfl), if_neg (by rw [decide_eq_false hn, Bool.and_false]; exact Bool.false_ne_true)]
theorem stp_end_try {c : Nat → Int} {k x : Nat} {s : Sh} (hA : opn (c k) = false) (h35 : c k = 35) (hl : s.l.getLast? = some x) (h2 : c x = 33) (hn : (lay k s).e x < 0) : stp c k s = none := by
  unfold stp
  simp only []
  rw [if_neg (by rw [hA]; exact Bool.false_ne_true), if_pos (by rw [h35]; rfl), hl]
  simp only []
  rw [if_neg (by rw [h35]; decide), if_pos (by rw [h2, decide_eq_true hn]; rfl)]
theorem stp_end_ok {c : Nat → Int} {k x : Nat} {s : Sh} (hA : opn (c k) = false) (h35 : c k = 35) (hl : s.l.getLast? = some x) (h2 : ¬ (c x = 33 ∧ (lay k s).e x < 0)) :
    stp c k s = some { lay k s with l := s.l.dropLast, d := upI (lay k s).d x (k : Int), t := upI (lay k s).t k ((s.l.length : Int) - 1) } := by
  unfold stp
  simp only []
  rw [if_neg (by rw [hA]; exact Bool.false_ne_true), if_pos (by rw [h35]; rfl), hl]
  simp only []
  rw [if_neg (by rw [h35]; decide), if_neg (by simpa using h2)]
end Ec
end Go.Proofs.Ytmjnakhpekbenaa
namespace Go.Proofs.Ytmjnakhpekbenaa
namespace Ec
theorem opn_iff {x : Int} : opn x = true ↔ 29 ≤ x ∧ x ≤ 33 := by unfold opn; simp
theorem opn_no {x : Int} : opn x = false ↔ ¬ (29 ≤ x ∧ x ≤ 33) := by
  cases h : opn x
  · exact ⟨fun _ q => absurd (opn_iff.2 q) (by rw [h]; exact Bool.false_ne_true), fun _ => rfl⟩
  · exact ⟨fun q => absurd q (fun q => (by cases q)), fun q => absurd (opn_iff.1 h) q⟩
theorem two_iff {c : Nat → Int} {x : Nat} : two c x = true ↔ c x = 29 ∨ c x = 33 := by unfold two; simp
theorem last_split {l : List Nat} {x : Nat} (h : l.getLast? = some x) : l = l.dropLast ++ [x] := by
  rcases List.eq_nil_or_concat l with rfl | ⟨r, y, rfl⟩
  · cases h
  · simp at h; subst h; simp
theorem last_app {r : List Nat} {x : Nat} : (r ++ [x]).getLast? = some x := by simp
theorem top_app {r : List Nat} {x : Nat} : top (r ++ [x]) = (x : Int) := by unfold top; rw [last_app]
theorem upI_same (f : Nat → Int) (i : Nat) (v : Int) : upI f i v i = v := by simp [upI]
theorem upI_ne {f : Nat → Int} {i j : Nat} {v : Int} (h : j ≠ i) : upI f i v j = f j := by simp [upI, h]
theorem stp_inv {c : Nat → Int} {k : Nat} {s s' : Sh} (h : stp c k s = some s') :
    (opn (c k) = true ∧ s' = ⟨s.l ++ [k], upI s.o k (top s.l), upI s.e k (-1), upI s.d k (-1), upI s.t k (s.l.length : Int), max s.m (s.l.length + 1)⟩) ∨
    (opn (c k) = false ∧ c k ≠ 34 ∧ c k ≠ 35 ∧ s' = lay k s) ∨
    (c k = 34 ∧ ∃ r x, s.l = r ++ [x] ∧ two c x = true ∧ upI s.e k (-1) x < 0 ∧ s' = ⟨s.l, upI s.o k (top s.l), upI (upI s.e k (-1)) x (k : Int), upI s.d k (-1), upI (upI s.t k (s.l.length : Int)) k ((s.l.length : Int) - 1), s.m⟩) ∨
    (c k = 35 ∧ ∃ r x, s.l = r ++ [x] ∧ ¬ (c x = 33 ∧ upI s.e k (-1) x < 0) ∧ s' = ⟨r, upI s.o k (top s.l), upI s.e k (-1), upI (upI s.d k (-1)) x (k : Int), upI (upI s.t k (s.l.length : Int)) k ((s.l.length : Int) - 1), s.m⟩) := by
  unfold stp lay at h
  simp only [] at h
  split at h
  · next ho => exact .inl ⟨ho, (Option.some.inj h).symm⟩
  · next ho =>
    have ho' : opn (c k) = false := by simpa using ho
    split at h
    · next h45 =>
      split at h
      · cases h
      · next x hx =>
        have hl := last_split hx
        split at h
        · next h34 =>
          split at h
          · next hq =>
            simp only [Bool.and_eq_true, decide_eq_true_eq] at hq
            exact .inr (.inr (.inl ⟨by simpa using h34, _, x, hl, hq.1, hq.2, (Option.some.inj h).symm⟩))
          · cases h
        · next h34 =>
          split at h
          · cases h
          · next hq =>
            simp only [Bool.and_eq_true, decide_eq_true_eq, beq_iff_eq] at hq
            refine .inr (.inr (.inr ⟨?_, _, x, hl, hq, (Option.some.inj h).symm⟩))
            simp at h45 h34; omega
    · next h45 =>
      simp at h45
      exact .inr (.inl ⟨ho', h45.1, h45.2, (Option.some.inj h).symm⟩)
theorem shp_succ {c : Nat → Int} {k : Nat} {s' : Sh} (h : shp c (k + 1) = some s') : ∃ s, shp c k = some s ∧ stp c k s = some s' := by
  have h' : (shp c k).bind (stp c k) = some s' := h
  cases hs : shp c k with
  | none => rw [hs] at h'; cases h'
  | some s => rw [hs] at h'; exact ⟨s, rfl, h'⟩
theorem shp_back {c : Nat → Int} {k n : Nat} {s' : Sh} (h : shp c n = some s') (hk : k ≤ n) : ∃ s, shp c k = some s := by
  cases hs : shp c k with
  | some s => exact ⟨s, rfl⟩
  | none =>
    have := shp_none (n - k) hs
    rw [show k + (n - k) = n by omega, h] at this; cases this
def Eok (c : Nat → Int) (k x : Nat) (v : Int) : Prop := v = -1 ∨ ((x : Int) < v ∧ v < k ∧ c v.toNat = 34)
def Dok (c : Nat → Int) (k x : Nat) (l : List Nat) (v : Int) : Prop := (v = -1 ∧ (x ∈ l ∨ opn (c x) = false)) ∨ ((x : Int) < v ∧ v < k ∧ c v.toNat = 35 ∧ x ∉ l ∧ opn (c x) = true)
theorem Eok.up {c : Nat → Int} {k x : Nat} {v : Int} (h : Eok c k x v) : Eok c (k + 1) x v := h.imp id fun q => ⟨q.1, by have := q.2.1; omega, q.2.2⟩
theorem Dok.up {c : Nat → Int} {k x : Nat} {l l' : List Nat} {v : Int} (h : Dok c k x l v) (h1 : x ∈ l ↔ x ∈ l') : Dok c (k + 1) x l' v :=
  h.imp (fun q => ⟨q.1, q.2.imp h1.1 id⟩) fun q => ⟨q.1, by have := q.2.1; omega, q.2.2.1, fun r => q.2.2.2.1 (h1.2 r), q.2.2.2.2⟩
structure Inv (c : Nat → Int) (k : Nat) (s : Sh) : Prop where
  lt : ∀ x, x ∈ s.l → x < k
  op : ∀ x, x ∈ s.l → opn (c x) = true
  inc : s.l.Pairwise (· < ·)
  le : s.l.length ≤ s.m
  e : ∀ x, x < k → Eok c k x (s.e x)
  d : ∀ x, x < k → Dok c k x s.l (s.d x)
theorem inv_of {c : Nat → Int} : ∀ (k : Nat) (s : Sh), shp c k = some s → Inv c k s
  | 0, s, h => by
    simp only [shp, Option.some.injEq] at h; subst h
    exact ⟨fun x hx => by simp at hx, fun x hx => by simp at hx, List.Pairwise.nil, Nat.le_refl 0, fun x hx => by omega, fun x hx => by omega⟩
  | k + 1, s', h => by
    obtain ⟨s, hs, hst⟩ := shp_succ h
    have I := inv_of k s hs
    have hk : k ∉ s.l := fun q => by have := I.lt k q; omega
    have he : ∀ y, y < k + 1 → Eok c (k + 1) y (upI s.e k (-1) y) := fun y hy => by
      by_cases e : y = k
      · subst e; rw [upI_same]; exact .inl rfl
      · rw [upI_ne e]; exact (I.e y (by omega)).up
    rcases stp_inv hst with ⟨ho, rfl⟩ | ⟨ho, h4, h5, rfl⟩ | ⟨h4, r, x, hl, h2, hx, rfl⟩ | ⟨h5, r, x, hl, h2, rfl⟩
    · refine ⟨?_, ?_, ?_, ?_, he, ?_⟩
      · intro x hx
        rcases List.mem_append.1 hx with q | q
        · have := I.lt x q; omega
        · simp at q; omega
      · intro x hx
        rcases List.mem_append.1 hx with q | q
        · exact I.op x q
        · simp at q; subst q; exact ho
      · exact List.pairwise_append.2 ⟨I.inc, by simp, fun a ha b hb => by simp at hb; subst hb; exact I.lt a ha⟩
      · have := I.le; show (s.l ++ [k]).length ≤ max s.m (s.l.length + 1); simp; omega
      · intro x hx
        show Dok c (k + 1) x (s.l ++ [k]) (upI s.d k (-1) x)
        by_cases e : x = k
        · subst e; rw [upI_same]; exact .inl ⟨rfl, .inl (by simp)⟩
        · rw [upI_ne e]; exact (I.d x (by omega)).up (by simp [e])
    · refine ⟨fun x hx => by have := I.lt x hx; omega, I.op, I.inc, I.le, he, ?_⟩
      intro x hx
      show Dok c (k + 1) x s.l (upI s.d k (-1) x)
      by_cases e : x = k
      · subst e; rw [upI_same]; exact .inl ⟨rfl, .inr ho⟩
      · rw [upI_ne e]; exact (I.d x (by omega)).up Iff.rfl
    · have hxk := I.lt x (by rw [hl]; simp)
      refine ⟨fun y hy => by have := I.lt y hy; omega, I.op, I.inc, I.le, ?_, ?_⟩
      · intro y hy
        show Eok c (k + 1) y (upI (upI s.e k (-1)) x (k : Int) y)
        by_cases e1 : y = x
        · subst e1; rw [upI_same]; exact .inr ⟨by omega, by omega, by simpa using h4⟩
        · rw [upI_ne e1]; exact he y hy
      · intro y hy
        show Dok c (k + 1) y s.l (upI s.d k (-1) y)
        by_cases e : y = k
        · subst e; rw [upI_same]; exact .inl ⟨rfl, .inr (opn_no.2 (by omega))⟩
        · rw [upI_ne e]; exact (I.d y (by omega)).up Iff.rfl
    · have hxk := I.lt x (by rw [hl]; simp)
      have hinc := I.inc
      rw [hl] at hinc
      have hxr : x ∉ r := fun q => by have := (List.pairwise_append.1 hinc).2.2 x q x (by simp); omega
      refine ⟨fun y hy => by have := I.lt y (by rw [hl]; exact List.mem_append_left _ hy); omega, fun y hy => I.op y (by rw [hl]; exact List.mem_append_left _ hy), (List.pairwise_append.1 hinc).1, by have := I.le; rw [hl] at this; simp at this; show r.length ≤ s.m; omega, he, ?_⟩
      intro y hy
      show Dok c (k + 1) y r (upI (upI s.d k (-1)) x (k : Int) y)
      by_cases e1 : y = x
      · subst e1; rw [upI_same]; exact .inr ⟨by omega, by omega, by simpa using h5, hxr, I.op y (by rw [hl]; simp)⟩
      · rw [upI_ne e1]
        by_cases e : y = k
        · subst e; rw [upI_same]; exact .inl ⟨rfl, .inr (opn_no.2 (by omega))⟩
        · rw [upI_ne e]; exact (I.d y (by omega)).up (by rw [hl]; simp [e1])
structure Frz (c : Nat → Int) (k j : Nat) (s s' : Sh) : Prop where
  o : ∀ x, x < k → s'.o x = s.o x ∧ s'.t x = s.t x
  out : ∀ x, x < k → x ∉ s.l → x ∉ s'.l ∧ s'.e x = s.e x ∧ s'.d x = s.d x
  ins : ∀ x, x ∈ s.l → (x ∈ s'.l ∧ s'.d x = s.d x) ∨ (x ∉ s'.l ∧ (k : Int) ≤ s'.d x)
  e : ∀ x, x < k → s'.e x = s.e x ∨ (s.e x < 0 ∧ (k : Int) ≤ s'.e x)
  m : s.m ≤ s'.m
theorem frz_step {c : Nat → Int} {k : Nat} {s s' : Sh} (I : Inv c k s) (h : stp c k s = some s') : Frz c k (k + 1) s s' := by
  rcases stp_inv h with ⟨ho, rfl⟩ | ⟨ho, h4, h5, rfl⟩ | ⟨h4, r, x, hl, h2, hx, rfl⟩ | ⟨h5, r, x, hl, h2, rfl⟩
  · refine ⟨fun x hx => ⟨upI_ne (by omega), upI_ne (by omega)⟩, fun x hx hn => ⟨?_, upI_ne (by omega), upI_ne (by omega)⟩, fun x hx => .inl ⟨List.mem_append_left _ hx, upI_ne (by have := I.lt x hx; omega)⟩, fun x hx => .inl (upI_ne (by omega)), Nat.le_max_left _ _⟩
    show x ∉ s.l ++ [k]
    simp [hn]; omega
  · exact ⟨fun x hx => ⟨upI_ne (by omega), upI_ne (by omega)⟩, fun x hx hn => ⟨hn, upI_ne (by omega), upI_ne (by omega)⟩, fun x hx => .inl ⟨hx, upI_ne (by have := I.lt x hx; omega)⟩, fun x hx => .inl (upI_ne (by omega)), Nat.le_refl _⟩
  · have hxl : x ∈ s.l := by rw [hl]; simp
    have hxk := I.lt x hxl
    refine ⟨fun y hy => ⟨upI_ne (by omega), ?_⟩, fun y hy hn => ⟨hn, ?_, upI_ne (by omega)⟩, fun y hy => .inl ⟨hy, upI_ne (by have := I.lt y hy; omega)⟩, fun y hy => ?_, Nat.le_refl _⟩
    · show upI (upI s.t k _) k _ y = s.t y
      rw [upI_ne (by omega), upI_ne (by omega)]
    · show upI (upI s.e k (-1)) x (k : Int) y = s.e y
      rw [upI_ne (fun q => hn (by rw [q]; exact hxl)), upI_ne (by omega)]
    · show upI (upI s.e k (-1)) x (k : Int) y = s.e y ∨ _
      by_cases e : y = x
      · subst e; rw [upI_ne (by omega)] at hx
        exact .inr ⟨hx, by show (k : Int) ≤ upI _ _ _ _; rw [upI_same]; omega⟩
      · rw [upI_ne e, upI_ne (by omega)]; exact .inl rfl
  · have hxl : x ∈ s.l := by rw [hl]; simp
    have hxk := I.lt x hxl
    have hinc := I.inc
    rw [hl] at hinc
    have hxr : x ∉ r := fun q => by have := (List.pairwise_append.1 hinc).2.2 x q x (by simp); omega
    refine ⟨fun y hy => ⟨upI_ne (by omega), ?_⟩, fun y hy hn => ⟨fun q => hn (by rw [hl]; exact List.mem_append_left _ q), upI_ne (by omega), ?_⟩, fun y hy => ?_, fun y hy => .inl (upI_ne (by omega)), Nat.le_refl _⟩
    · show upI (upI s.t k _) k _ y = s.t y
      rw [upI_ne (by omega), upI_ne (by omega)]
    · show upI (upI s.d k (-1)) x (k : Int) y = s.d y
      rw [upI_ne (fun q => hn (by rw [q]; exact hxl)), upI_ne (by omega)]
    · have hyk := I.lt y hy
      show (y ∈ r ∧ upI (upI s.d k (-1)) x (k : Int) y = s.d y) ∨ (y ∉ r ∧ (k : Int) ≤ upI (upI s.d k (-1)) x (k : Int) y)
      by_cases e : y = x
      · subst e; exact .inr ⟨hxr, by rw [upI_same]; omega⟩
      · refine .inl ⟨?_, by rw [upI_ne e, upI_ne (by omega)]⟩
        rw [hl] at hy
        rcases List.mem_append.1 hy with q | q
        · exact q
        · simp at q; exact absurd q e
theorem frz {c : Nat → Int} {k : Nat} {s : Sh} (hs : shp c k = some s) : ∀ (i : Nat) (s' : Sh), shp c (k + i) = some s' → Frz c k (k + i) s s'
  | 0, s', h => by
    have : s = s' := by have h2 : shp c k = some s' := h; rw [hs] at h2; exact Option.some.inj h2
    subst this
    exact ⟨fun x hx => ⟨rfl, rfl⟩, fun x hx hn => ⟨hn, rfl, rfl⟩, fun x hx => .inl ⟨hx, rfl⟩, fun x hx => .inl rfl, Nat.le_refl _⟩
  | i + 1, s', h => by
    obtain ⟨s1, h1, h2⟩ := shp_succ (k := k + i) h
    have F := frz hs i s1 h1
    have G := frz_step (inv_of _ _ h1) h2
    have I := inv_of _ _ hs
    refine ⟨fun x hx => ?_, fun x hx hn => ?_, fun x hx => ?_, fun x hx => ?_, Nat.le_trans F.m G.m⟩
    · have a := F.o x hx; have b := G.o x (by omega); exact ⟨b.1.trans a.1, b.2.trans a.2⟩
    · have a := F.out x hx hn; have b := G.out x (by omega) a.1; exact ⟨b.1, b.2.1.trans a.2.1, b.2.2.trans a.2.2⟩
    · have hxk := I.lt x hx
      rcases F.ins x hx with ⟨a1, a2⟩ | ⟨a1, a2⟩
      · rcases G.ins x a1 with ⟨b1, b2⟩ | ⟨b1, b2⟩
        · exact .inl ⟨b1, b2.trans a2⟩
        · exact .inr ⟨b1, by omega⟩
      · have b := G.out x (by omega) a1
        exact .inr ⟨b.1, by rw [b.2.2]; exact a2⟩
    · rcases F.e x hx with a | ⟨a1, a2⟩
      · rcases G.e x (by omega) with b | ⟨b1, b2⟩
        · exact .inl (b.trans a)
        · exact .inr ⟨by rw [← a]; exact b1, by omega⟩
      · rcases G.e x (by omega) with b | ⟨b1, b2⟩
        · exact .inr ⟨a1, by rw [b]; exact a2⟩
        · omega
theorem frz_at {c : Nat → Int} {k n : Nat} {s s' : Sh} (hs : shp c k = some s) (hn : shp c n = some s') (hk : k ≤ n) : Frz c k n s s' := by
  have := frz hs (n - k) s' (by rw [show k + (n - k) = n by omega]; exact hn)
  rwa [show k + (n - k) = n by omega] at this

def ParS (c : Nat → Int) (k j d : Nat) : Prop := ∀ s, shp c k = some s → ∃ s', shp c j = some s' ∧ s'.l = s.l ∧ s'.m = max s.m (s.l.length + d) ∧ ∀ x, x < k → s'.e x = s.e x ∧ s'.d x = s.d x
def BraS (c : Nat → Int) (k : Nat) (a : Int) (e d : Nat) : Prop := ∀ s, shp c k = some s → ∃ s', shp c (e + 1) = some s' ∧ s'.l = s.l ∧ s'.m = max s.m (s.l.length + 1 + d) ∧ s'.e k = a ∧ s'.d k = (e : Int) ∧ ∀ x, x < k → s'.e x = s.e x ∧ s'.d x = s.d x
def Fail (c : Nat → Int) (n k : Nat) : Prop := ∀ s, shp c k = some s → ∀ s', shp c n = some s' → s'.l ≠ []
theorem ParS_nil (c : Nat → Int) (k : Nat) : ParS c k k 0 := fun s hs => ⟨s, hs, rfl, by have := (inv_of k s hs).le; omega, fun x _ => ⟨rfl, rfl⟩⟩
theorem ParS_other {c : Nat → Int} {k j d : Nat} (h : ParS c k j d) (hk : k ≤ j) (ho : opn (c j) = false) (h4 : c j ≠ 34) (h5 : c j ≠ 35) : ParS c k (j + 1) d := fun s hs => by
  obtain ⟨s', h1, h2, h3, h6⟩ := h s hs
  have hst : stp c j s' = some (lay j s') := by
    unfold stp; simp only []
    rw [if_neg (by rw [ho]; exact Bool.false_ne_true), show (c j == 34) = false by simpa using h4, show (c j == 35) = false by simpa using h5]; rfl
  exact ⟨lay j s', shp_step h1 hst, h2, h3, fun x hx => ⟨(upI_ne (by omega)).trans (h6 x hx).1, (upI_ne (by omega)).trans (h6 x hx).2⟩⟩
theorem ParS_bra {c : Nat → Int} {k j d e d' : Nat} {a : Int} (h : ParS c k j d) (hk : k ≤ j) (hb : BraS c j a e d') : ParS c k (e + 1) (max d (d' + 1)) := fun s hs => by
  obtain ⟨s', h1, h2, h3, h6⟩ := h s hs
  obtain ⟨s2, g1, g2, g3, _, _, g6⟩ := hb s' h1
  exact ⟨s2, g1, g2.trans h2, by rw [g3, h3, h2]; omega, fun x hx => ⟨(g6 x (by omega)).1.trans (h6 x hx).1, (g6 x (by omega)).2.trans (h6 x hx).2⟩⟩
def oped (k : Nat) (s : Sh) : Sh := ⟨s.l ++ [k], upI s.o k (top s.l), upI s.e k (-1), upI s.d k (-1), upI s.t k (s.l.length : Int), max s.m (s.l.length + 1)⟩
theorem shp_open {c : Nat → Int} {k : Nat} {s : Sh} (hs : shp c k = some s) (ho : opn (c k) = true) : shp c (k + 1) = some (oped k s) := shp_step hs (by unfold stp; simp only []; rw [if_pos ho]; rfl)
theorem BraS_plain {c : Nat → Int} {k e d : Nat} (ho : opn (c k) = true) (hp : ParS c (k + 1) e d) (hk : k < e) (h5 : c e = 35) (h3 : c k ≠ 33) : BraS c k (-1) e d := fun s hs => by
  obtain ⟨s', h1, h2, h4, h6⟩ := hp _ (shp_open hs ho)
  have e1 : s'.e k = -1 := (h6 k (by omega)).1.trans (upI_same _ _ _)
  have hl : s'.l = s.l ++ [k] := h2
  have q := stp_end_ok (c := c) (k := e) (s := s') (x := k) (by rw [h5]; rfl) h5 (by rw [hl]; exact last_app) (fun q => h3 q.1)
  refine ⟨_, shp_step h1 q, by show s'.l.dropLast = s.l; rw [hl]; simp, ?_, ?_, upI_same _ _ _, fun x hx => ⟨?_, ?_⟩⟩
  · show s'.m = _
    rw [h4]; simp only [oped]; simp <;> omega
  · show upI s'.e e (-1) k = -1
    rw [upI_ne (by omega), e1]
  · show upI s'.e e (-1) x = s.e x
    rw [upI_ne (by omega), (h6 x (by omega)).1]; exact upI_ne (by omega)
  · show upI (upI s'.d e (-1)) k (e : Int) x = s.d x
    rw [upI_ne (by omega), upI_ne (by omega), (h6 x (by omega)).2]; exact upI_ne (by omega)
theorem shp_else {c : Nat → Int} {k a d1 : Nat} {s : Sh} (hs : shp c k = some s) (h2 : two c k = true) (hp : ParS c (k + 1) a d1) (hk : k < a) (h4 : c a = 34) :
    ∃ s', shp c (a + 1) = some s' ∧ s'.l = s.l ++ [k] ∧ s'.m = max s.m (s.l.length + 1 + d1) ∧ s'.e k = (a : Int) ∧ ∀ x, x < k → s'.e x = s.e x ∧ s'.d x = s.d x := by
  have ho : opn (c k) = true := by rw [opn_iff]; rcases two_iff.1 h2 with q | q <;> omega
  obtain ⟨s', h1, hl, hm, h6⟩ := hp _ (shp_open hs ho)
  have e1 : s'.e k = -1 := (h6 k (by omega)).1.trans (upI_same _ _ _)
  have hl' : s'.l = s.l ++ [k] := hl
  have q := stp_else_ok (c := c) (k := a) (s := s') (x := k) (by rw [h4]; rfl) h4 (by rw [hl']; exact last_app) h2 (by show upI s'.e a (-1) k < 0; rw [upI_ne (by omega), e1]; decide)
  refine ⟨_, shp_step h1 q, hl', ?_, upI_same _ _ _, fun x hx => ⟨?_, ?_⟩⟩
  · show s'.m = _
    rw [hm]; simp only [oped]; simp <;> omega
  · show upI (upI s'.e a (-1)) k (a : Int) x = s.e x
    rw [upI_ne (by omega), upI_ne (by omega), (h6 x (by omega)).1]; exact upI_ne (by omega)
  · show upI s'.d a (-1) x = s.d x
    rw [upI_ne (by omega), (h6 x (by omega)).2]; exact upI_ne (by omega)
theorem BraS_alt {c : Nat → Int} {k a e d1 d2 : Nat} (h2 : two c k = true) (hp : ParS c (k + 1) a d1) (hk : k < a) (h4 : c a = 34) (hq : ParS c (a + 1) e d2) (ha : a < e) (h5 : c e = 35) : BraS c k (a : Int) e (max d1 d2) := fun s hs => by
  obtain ⟨s1, h1, hl, hm, he, hf⟩ := shp_else hs h2 hp hk h4
  obtain ⟨s', g1, gl, gm, g6⟩ := hq s1 h1
  have hl' : s'.l = s.l ++ [k] := gl.trans hl
  have e1 : s'.e k = (a : Int) := (g6 k (by omega)).1.trans he
  have q := stp_end_ok (c := c) (k := e) (s := s') (x := k) (by rw [h5]; rfl) h5 (by rw [hl']; exact last_app) (fun q => by have q2 : upI s'.e e (-1) k < 0 := q.2; rw [upI_ne (by omega), e1] at q2; omega)
  refine ⟨_, shp_step g1 q, by show s'.l.dropLast = s.l; rw [hl']; simp, ?_, ?_, upI_same _ _ _, fun x hx => ⟨?_, ?_⟩⟩
  · show s'.m = _
    rw [gm, hm, hl]; simp <;> omega
  · show upI s'.e e (-1) k = a
    rw [upI_ne (by omega), e1]
  · show upI s'.e e (-1) x = s.e x
    rw [upI_ne (by omega), (g6 x (by omega)).1, (hf x hx).1]
  · show upI (upI s'.d e (-1)) k (e : Int) x = s.d x
    rw [upI_ne (by omega), upI_ne (by omega), (g6 x (by omega)).2, (hf x hx).2]
theorem Fail_par {c : Nat → Int} {n k j d : Nat} (h : ParS c k j d) (hf : Fail c n j) : Fail c n k := fun s hs s' hs' => by
  obtain ⟨s1, h1, _⟩ := h s hs
  exact hf s1 h1 s' hs'
theorem Fail_open {c : Nat → Int} {n k : Nat} (ho : opn (c k) = true) (hf : Fail c n (k + 1)) : Fail c n k := fun s hs s' hs' => hf _ (shp_open hs ho) s' hs'
theorem Fail_end {c : Nat → Int} {n k d : Nat} (ho : opn (c k) = true) (hp : ParS c (k + 1) n d) : Fail c n k := fun s hs s' hs' => by
  obtain ⟨s1, h1, hl, _⟩ := hp _ (shp_open hs ho)
  rw [h1] at hs'; cases hs'
  rw [hl]; simp [oped]
theorem none_fail {c : Nat → Int} {n j : Nat} {s s' : Sh} (hs : shp c j = some s) (hst : stp c j s = none) (hj : j < n) (hs' : shp c n = some s') : False := by
  obtain ⟨s1, h1⟩ := shp_back hs' (show j + 1 ≤ n by omega)
  obtain ⟨s2, h2, h3⟩ := shp_succ h1
  rw [hs] at h2; cases h2
  rw [hst] at h3; cases h3
theorem Fail_two {c : Nat → Int} {n k a d : Nat} (ho : opn (c k) = true) (hp : ParS c (k + 1) a d) (h4 : c a = 34) (ha : a < n) (h2 : two c k = false) : Fail c n k := fun s hs s' hs' => by
  obtain ⟨s1, h1, hl, _⟩ := hp _ (shp_open hs ho)
  exact (none_fail h1 (stp_else_two (by rw [h4]; rfl) h4 (show s1.l.getLast? = some k by rw [hl]; exact last_app) h2) ha hs').elim
theorem Fail_alt {c : Nat → Int} {n k a d1 : Nat} (h2 : two c k = true) (hp : ParS c (k + 1) a d1) (hk : k < a) (h4 : c a = 34) (hf : Fail c n (a + 1)) : Fail c n k := fun s hs s' hs' => by
  obtain ⟨s1, h1, _⟩ := shp_else hs h2 hp hk h4
  exact hf s1 h1 s' hs'
theorem Fail_alt_end {c : Nat → Int} {n k a d1 d2 : Nat} (h2 : two c k = true) (hp : ParS c (k + 1) a d1) (hk : k < a) (h4 : c a = 34) (hq : ParS c (a + 1) n d2) : Fail c n k := fun s hs s' hs' => by
  obtain ⟨s1, h1, hl, _⟩ := shp_else hs h2 hp hk h4
  obtain ⟨s2, g1, gl, _⟩ := hq s1 h1
  rw [g1] at hs'; cases hs'
  rw [gl, hl]; simp
theorem Fail_alt_else {c : Nat → Int} {n k a e d1 d2 : Nat} (h2 : two c k = true) (hp : ParS c (k + 1) a d1) (hk : k < a) (h4 : c a = 34) (hq : ParS c (a + 1) e d2) (ha : a < e) (h5 : c e = 34) (he : e < n) : Fail c n k := fun s hs s' hs' => by
  obtain ⟨s1, h1, hl, hm, he1, hf⟩ := shp_else hs h2 hp hk h4
  obtain ⟨s2, g1, gl, gm, g6⟩ := hq s1 h1
  exact (none_fail g1 (stp_else_has (by rw [h5]; rfl) h5 (show s2.l.getLast? = some k by rw [gl, hl]; exact last_app) (by
    show ¬ upI s2.e e (-1) k < 0
    rw [upI_ne (by omega), (g6 k (by omega)).1, he1]; omega)) he hs').elim
theorem Fail_try {c : Nat → Int} {n k e d : Nat} (ho : opn (c k) = true) (hp : ParS c (k + 1) e d) (hk : k < e) (h5 : c e = 35) (he : e < n) (h3 : c k = 33) : Fail c n k := fun s hs s' hs' => by
  obtain ⟨s1, h1, hl, hm, h6⟩ := hp _ (shp_open hs ho)
  exact (none_fail h1 (stp_end_try (by rw [h5]; rfl) h5 (show s1.l.getLast? = some k by rw [hl]; exact last_app) h3 (by
    show upI s1.e e (-1) k < 0
    rw [upI_ne (by omega), (h6 k (by omega)).1]
    show upI s.e k (-1) k < 0
    rw [upI_same]; decide)) he hs').elim
def PR (c : Nat → Int) (n at' : Nat) (nx : Nat) (d : Int) : Prop := (d = -1 ∧ nx = 0 ∧ Fail c n at') ∨ (0 ≤ d ∧ d + at' ≤ nx ∧ nx ≤ n ∧ (nx < n → c nx = 34 ∨ c nx = 35) ∧ ParS c at' nx d.toNat)
def BR (c : Nat → Int) (n k : Nat) (a : Int) (e : Nat) (d : Int) : Prop := (a = 0 ∧ e = 0 ∧ d = -1 ∧ Fail c n k) ∨ (0 ≤ d ∧ d + k < e ∧ e < n ∧ BraS c k a e d.toNat)
end Ec
end Go.Proofs.Ytmjnakhpekbenaa
namespace Go.Proofs.Ytmjnakhpekbenaa
open Go.RowKit Go.Sort
namespace Ec
def s0 : Sh := ⟨[], fun _ => 0, fun _ => 0, fun _ => 0, fun _ => 0, 0⟩
def lI (l : List Nat) : List Value := l.map (fun (x : Nat) => Value.int .i64 (x : Int))
end Ec
end Go.Proofs.Ytmjnakhpekbenaa
namespace Go.Proofs.Ytmjnakhpekbenaa
open Go.RowKit
namespace Fw
def look : List (Nat × Value) → Nat → Option Value
  | [], _ => none
  | (s, v) :: r, t => match Nat.beq s t with
    | true => some v
    | false => look r t
structure Fr (n : Nat) (l : List (Nat × Value)) (a : Act) : Prop where
  sz : a.tmps.size = n
  df : a.defers = []
  kn : ∀ t v, look l t = some v → a.tmps[t]? = some v
def ev (l : List (Nat × Value)) : Operand → Option Value
  | .tmp t => look l t
  | .const v => some v
  | .global g => some (.pointer (some ⟨g, 0, none⟩))
  | .func f => some (.func (.func f) #[] #[])
def evD (l : List (Nat × Value)) (x : Operand) : Value := (ev l x).getD undef
theorem Fr.ev {n : Nat} {l : List (Nat × Value)} {a : Act} (h : Fr n l a) {x : Operand} {v : Value} (hx : ev l x = some v) : a.eval x = v := by
  cases x with
  | tmp t => simp [Act.eval, h.kn t v hx]
  | const u => simpa [Fw.ev, Act.eval] using hx
  | global g => simpa [Fw.ev, Act.eval] using hx
  | func f => simpa [Fw.ev, Act.eval] using hx
theorem Fr.evD {n : Nat} {l : List (Nat × Value)} {a : Act} (h : Fr n l a) {x : Operand} (hx : (Fw.ev l x).isSome = true) : a.eval x = Fw.evD l x := by
  obtain ⟨v, hv⟩ := Option.isSome_iff_exists.1 hx
  rw [h.ev hv, Fw.evD, hv]; rfl
theorem look_cons_ne {l : List (Nat × Value)} {s t : Nat} {v : Value} (h : s ≠ t) : look ((s, v) :: l) t = look l t := by
  show (match Nat.beq s t with | true => some v | false => look l t) = _
  cases hb : Nat.beq s t
  · rfl
  · exact absurd (Nat.eq_of_beq_eq_true hb) h
theorem look_cons_eq {l : List (Nat × Value)} {s : Nat} {v : Value} : look ((s, v) :: l) s = some v := by
  show (match Nat.beq s s with | true => some v | false => look l s) = _
  have : Nat.beq s s = true := Nat.beq_refl s
  rw [this]
theorem Fr.put {n : Nat} {l : List (Nat × Value)} {a : Act} (h : Fr n l a) {d : Nat} (hd : d < n) (v : Value) : Fr n ((d, v) :: l) (a.put (some d) v) := by
  refine ⟨by simp [Act.put, h.sz], by simp [Act.put, h.df], fun t u ht => ?_⟩
  by_cases e : d = t
  · subst e
    rw [look_cons_eq] at ht
    cases ht
    simp [Act.put, h.sz, hd]
  · rw [look_cons_ne e] at ht
    have := h.kn t u ht
    simp [Act.put, Array.getElem?_setIfInBounds_ne e, this]
def Sub : List (Nat × Value) → List (Nat × Value) → Prop
  | [], _ => True
  | (t, v) :: r, l => look l t = some v ∧ Sub r l
theorem Sub.look {l : List (Nat × Value)} {t : Nat} {v : Value} : ∀ {l' : List (Nat × Value)}, Sub l' l → Fw.look l' t = some v → Fw.look l t = some v
  | [], _, h => by cases h
  | (s, u) :: r, hs, h => by
    by_cases e : s = t
    · subst e; rw [look_cons_eq] at h; cases h; exact hs.1
    · rw [look_cons_ne e] at h; exact Sub.look hs.2 h
theorem Fr.sub {n : Nat} {l l' : List (Nat × Value)} {a : Act} (h : Fr n l a) (hs : Sub l' l) : Fr n l' a := ⟨h.sz, h.df, fun t v ht => h.kn t v (hs.look ht)⟩

def WL (P : Program) (ops : Array Oper) (Q : Exit → Act → World → Prop) (rest : List Oper) (n : Nat) (l : List (Nat × Value)) (w : World) : Prop := ∀ a, Fr n l a → wpList P ops Q rest a w
def WC (P : Program) (c : Code) (Q : Exit → Act → World → Prop) (n : Nat) (l : List (Nat × Value)) (w : World) : Prop := ∀ a, Fr n l a → Code.wp P c Q a w
def WQ (Q : Exit → Act → World → Prop) (e : Exit) (n : Nat) (l : List (Nat × Value)) (w : World) : Prop := ∀ a, Fr n l a → Q e a w
def WS (P : Program) (ops : Array Oper) (w : World) (Q : Act → Prop) (rest : List Oper) (n : Nat) (l : List (Nat × Value)) : Prop := ∀ a, Fr n l a → wpStill P ops w Q rest a
section
variable {P : Program} {ops : Array Oper} {Q : Exit → Act → World → Prop} {rest : List Oper} {n : Nat} {l l' : List (Nat × Value)} {w w' : World}
theorem WC.sub {c : Code} (hs : Sub l' l) (h : WC P c Q n l' w) : WC P c Q n l w := fun a ha => h a (ha.sub hs)
theorem WQ.sub {e : Exit} (hs : Sub l' l) (h : WQ Q e n l' w) : WQ Q e n l w := fun a ha => h a (ha.sub hs)

def wants (ops : Array Oper) (l : List (Nat × Value)) (o : Oper) : Option Bool :=
  match o.guard with
  | none => some true
  | some (j, want) => match ((ops[j]?).bind (·.dst)).bind (look l) with
    | some (.bool b) => some (b == want)
    | some (.tuple _) => some false
    | _ => none
theorem wants_spec {a : Act} (ha : Fr n l a) {o : Oper} {b : Bool} (h : wants ops l o = some b) : Region.wanted o (yielded ops a.tmps) = b := by
  unfold wants at h
  unfold Region.wanted
  cases hg : o.guard with
  | none => rw [hg] at h; simpa using h
  | some jw =>
    obtain ⟨j, want⟩ := jw
    rw [hg] at h
    simp only [] at h ⊢
    cases ht : (ops[j]?).bind (·.dst) with
    | none => rw [ht] at h; cases h
    | some t =>
      rw [ht] at h
      simp only [Option.bind_some] at h
      cases hl : look l t with
      | none => rw [hl] at h; cases h
      | some u =>
        rw [hl] at h
        have hk := ha.kn t u hl
        cases u
        case bool c =>
          have : yielded ops a.tmps j = some c := by unfold yielded; rw [ht]; simp [hk]
          rw [this]
          simp only [] at h
          cases c <;> cases want <;> simpa using h
        case tuple xs =>
          have : yielded ops a.tmps j = none := by unfold yielded; rw [ht]; simp [hk]
          rw [this]
          simp only [] at h
          cases want <;> simpa using h
        all_goals (simp only [] at h; cases h)

def noSel : Op → Bool
  | .select _ _ => false
  | _ => true
def known (l : List (Nat × Value)) (o : Oper) : Bool := noSel o.op && o.op.operands.toList.all fun x => (ev l x).isSome
theorem exec_known {a : Act} (ha : Fr n l a) {o : Oper} (h : known l o = true) : execOp a.eval o = execOp (evD l) o := by
  unfold known at h
  rw [Bool.and_eq_true] at h
  refine execOp_congr o (fun cs b e => by rw [e] at h; exact absurd h.1 (by simp [noSel])) fun x hx => ha.evD ?_
  exact List.all_eq_true.1 h.2 x (by simpa using hx)
theorem WL.val {o : Oper} {v : Value} (d : Nat) (hd : o.dst = some d) (hn : d < n) (hw : wants ops l o = some true) (hk : known l o = true)
    (hr : (execOp (evD l) o).run P w = .ok (.value v) w') (h : WL P ops Q rest n ((d, v) :: l) w') : WL P ops Q (o :: rest) n l w := by
  intro a ha
  refine wpList_step fun K hK => ?_
  rw [if_pos (wants_spec ha hw)]
  unfold Oper.wp
  rw [exec_known ha hk, hr, Oper.upon_value, hd]
  exact hK _ _ (h _ (ha.put hn v))
theorem WL.pure {o : Oper} {v : Value} (d : Nat) (hd : o.dst = some d) (hn : d < n) (hw : wants ops l o = some true) (hk : known l o = true)
    (hr : (execOp (evD l) o).run P w = .ok (.value v) w) (h : WL P ops Q rest n ((d, v) :: l) w) : WL P ops Q (o :: rest) n l w := WL.val d hd hn hw hk hr h
theorem WL.pass {o : Oper} (d : Nat) (hd : o.dst = some d) (hn : d < n) (hw : wants ops l o = some false) (h : WL P ops Q rest n ((d, undef) :: l) w) : WL P ops Q (o :: rest) n l w := by
  intro a ha
  refine wpList_step fun K hK => ?_
  rw [if_neg (by rw [wants_spec ha hw]; exact Bool.false_ne_true), hd]
  exact hK _ _ (h _ (ha.put hn undef))
theorem WL.call {o : Oper} {f : FuncId} {args : Array Value} (d : Nat) (hd : o.dst = some d) (hn : d < n) (hw : wants ops l o = some true) (hk : known l o = true)
    (hr : (execOp (evD l) o).run P w = .ok (.enter f args) w) (h : Calls P f args w fun e w'' => ∃ v, e = .returned v ∧ WL P ops Q rest n ((d, v) :: l) w'') : WL P ops Q (o :: rest) n l w := by
  intro a ha
  refine wpList_step fun K hK => ?_
  rw [if_pos (wants_spec ha hw)]
  unfold Oper.wp
  rw [exec_known ha hk, hr, Oper.upon_enter]
  refine h.mono ?_
  rintro e w'' ⟨v, rfl, hv⟩
  rw [hd]
  exact hK _ _ (hv _ (ha.put hn v))
theorem WL.nil (h : WQ Q .normal n l w) : WL P ops Q [] n l w := fun a ha => h a ha

theorem WS.val {o : Oper} {v : Value} {Q : Act → Prop} (d : Nat) (hd : o.dst = some d) (hn : d < n) (hw : wants ops l o = some true) (hk : known l o = true)
    (hr : (execOp (evD l) o).run P w = .ok (.value v) w) (h : WS P ops w Q rest n ((d, v) :: l)) : WS P ops w Q (o :: rest) n l := by
  intro a ha
  refine wpStill_step fun K hK => ?_
  rw [if_pos (wants_spec ha hw)]
  unfold Oper.still
  rw [exec_known ha hk, hr, Oper.stillUpon_value, hd]
  exact hK _ (h _ (ha.put hn v))
theorem WS.pass {o : Oper} {Q : Act → Prop} (d : Nat) (hd : o.dst = some d) (hn : d < n) (hw : wants ops l o = some false) (h : WS P ops w Q rest n ((d, undef) :: l)) : WS P ops w Q (o :: rest) n l := by
  intro a ha
  refine wpStill_step fun K hK => ?_
  rw [if_neg (by rw [wants_spec ha hw]; exact Bool.false_ne_true), hd]
  exact hK _ (h _ (ha.put hn undef))
theorem WC.seq {x y : Code} (h : ∀ K : Act → World → Prop, (∀ n l w, WC P y Q n l w → WQ (fun _ a w => K a w) .normal n l w) → WC P x (Exit.then K Q) n l w) : WC P (.seq x y) Q n l w :=
  fun a ha => wp_seq_k fun K hK => h K (fun n l w hy a ha => hK a w (hy a ha)) a ha
theorem WQ.then {K : Act → World → Prop} (h : WQ (fun _ a w => K a w) .normal n l w) : WQ (Exit.then K Q) .normal n l w := fun a ha => h a ha
theorem WQ.thenExit {K : Act → World → Prop} {id : Nat} (h : WQ Q (.exit id) n l w) : WQ (Exit.then K Q) (.exit id) n l w := fun a ha => h a ha
theorem WQ.thenRet {K : Act → World → Prop} (h : WQ Q .ret n l w) : WQ (Exit.then K Q) .ret n l w := fun a ha => h a ha
theorem WQ.inNormal {id : Nat} (h : WQ Q .normal n l w) : WQ (Exit.inBlock id Q) .normal n l w := fun a ha => h a ha
theorem WQ.inRet {id : Nat} (h : WQ Q .ret n l w) : WQ (Exit.inBlock id Q) .ret n l w := fun a ha => h a ha
theorem WQ.inExit {id : Nat} (h : WQ Q .normal n l w) : WQ (Exit.inBlock id Q) (.exit id) n l w := fun a ha => by
  show (if id = id then Q .normal a w else Q (.exit id) a w)
  rw [if_pos rfl]; exact h a ha
theorem WQ.inOther {id id' : Nat} (hne : id' ≠ id) (h : WQ Q (.exit id') n l w) : WQ (Exit.inBlock id Q) (.exit id') n l w := fun a ha => by
  show (if id' = id then Q .normal a w else Q (.exit id') a w)
  rw [if_neg hne]; exact h a ha
theorem WC.skip (h : WQ Q .normal n l w) : WC P .skip Q n l w := fun a ha => wp_skip (h a ha)
theorem WC.ret (h : WQ Q .ret n l w) : WC P .ret Q n l w := fun a ha => wp_ret (h a ha)
theorem WC.exit {id : Nat} (h : WQ Q (.exit id) n l w) : WC P (.exit id) Q n l w := fun a ha => wp_exit (h a ha)
theorem WC.block {id : Nat} {c : Code} (h : WC P c (Exit.inBlock id Q) n l w) : WC P (.block id c) Q n l w := fun a ha => wp_block (h a ha)
theorem WC.yes {c : Operand} {x y : Code} (hc : ev l c = some (.bool true)) (h : WC P x Q n l w) : WC P (.cond c x y) Q n l w := fun a ha => wp_cond_true (ha.ev hc) (h a ha)
theorem WC.no {c : Operand} {x y : Code} (hc : ev l c = some (.bool false)) (h : WC P y Q n l w) : WC P (.cond c x y) Q n l w := fun a ha => wp_cond_false (ha.ev hc) (h a ha)
theorem WC.region {id : Nat} {ls : List Oper} (h : WL P ls.toArray Q ls n l w) : WC P (.region id ls.toArray false) Q n l w := fun a ha => wp_region_lit (h a ha)
theorem WC.still {id : Nat} {ls : List Oper} (hm : P.follows .mixedOrders = true) (hB : Region.lexB .any ls.toArray = true)
    (h : WS P ls.toArray w.drew (fun a' => Q .normal a' w.drew) ls n l) : WC P (.region id ls.toArray true) Q n l w := fun a ha => wp_region_still_lit hm hB (h a ha)
theorem WC.stillTail {id : Nat} {ls : List Oper} (k : Nat) (hm : P.follows .mixedOrders = true) (hB : Region.lexTailB .any ls.toArray k = true)
    (h : WS P ls.toArray w.drew (fun a' => wpList P ls.toArray Q (ls.drop k) a' w.drew) (ls.take k) n l) : WC P (.region id ls.toArray true) Q n l w := fun a ha => wp_region_still_tail k hm hB (h a ha)
theorem WC.cut {x y : Code} (I : List (Nat × Value) → World → Prop) (h1 : WC P x (Exit.then (fun a w => ∃ l, Fr n l a ∧ I l w) Q) n l w) (h2 : ∀ l w, I l w → WC P y Q n l w) : WC P (.seq x y) Q n l w :=
  fun a ha => wp_seq (wp_mono (h1 a ha) fun e a' w' q => by
    cases e with
    | normal => obtain ⟨l', hf, hI⟩ := q; exact h2 l' w' hI a' hf
    | exit id => exact q
    | goto l => exact q
    | ret => exact q
    | panic ch => exact q
    | outgrown => exact q)
theorem WQ.cut {I : List (Nat × Value) → World → Prop} (h : I l w) : WQ (Exit.then (fun a w => ∃ l, Fr n l a ∧ I l w) Q) .normal n l w := fun a ha => ⟨l, ha, h⟩
theorem WC.loop {c : Code} (I : Nat → List (Nat × Value) → World → Prop) (k0 : Nat) (l0 : List (Nat × Value)) (hs : Sub l0 l) (h0 : I k0 l0 w)
    (round : ∀ k l w, I k l w → ∀ K : Act → World → Prop, (∀ k' l' w', k' < k → I k' l' w' → WQ (fun _ a w => K a w) .normal n l' w') → WC P c (Exit.then K Q) n l w) : WC P (.loop c) Q n l w := by
  intro a ha
  refine wp_loop_ghost (fun k a w => ∃ l, Fr n l a ∧ I k l w) k0 ⟨l0, ha.sub hs, h0⟩ ?_
  rintro k a w ⟨l, hf, hI⟩
  exact round k l w hI _ (fun k' l' w' hlt hI' a' ha' => ⟨k', hlt, l', ha', hI'⟩) a hf
theorem calls_of {f : FuncId} {fn : Func} {c : Code} {args : Array Value} {R : Ending → World → Prop} (hf : P.funcs[f]? = some fn) (hb : fn.body = some c) {m : Nat} (hm : fn.ntmps = m) (ts : List (Nat × Value))
    (hfr : Fr m ts ⟨args ++ Array.replicate (m - args.size) undef, []⟩) (h : WC P c (bodyPost P fn R) m ts w) : Calls P f args w R := by
  refine calls_of_wp hf hb ?_
  rw [hm]
  exact h _ hfr
end
theorem Fr.getD {n : Nat} {l : List (Nat × Value)} {a : Act} (h : Fr n l a) {t : Nat} {v : Value} (hx : look l t = some v) : a.tmps.getD t undef = v := by
  simp [h.kn t v hx]
theorem WQ.ret1 {P : Program} {fn : Func} {R : Ending → World → Prop} {n : Nat} {l : List (Nat × Value)} {w : World} {v : Value} (t : Nat) (hr : fn.results = #[.tmp t]) (h1 : look l t = some v) (hR : R (.returned v) w) : WQ (bodyPost P fn R) .ret n l w :=
  fun a ha => bodyPost_ret (v := v) (by rw [results_tmp hr, ha.getD h1]) ha.df hR
theorem WQ.ret2 {P : Program} {fn : Func} {R : Ending → World → Prop} {n : Nat} {l : List (Nat × Value)} {w : World} {v1 v2 : Value} (t1 t2 : Nat) (hr : fn.results = #[.tmp t1, .tmp t2]) (h1 : look l t1 = some v1) (h2 : look l t2 = some v2) (hR : R (.returned (.tuple #[v1, v2])) w) : WQ (bodyPost P fn R) .ret n l w :=
  fun a ha => bodyPost_ret (v := .tuple #[v1, v2]) (by rw [results_tmp2 hr, ha.getD h1, ha.getD h2]) ha.df hR
theorem WQ.ret3 {P : Program} {fn : Func} {R : Ending → World → Prop} {n : Nat} {l : List (Nat × Value)} {w : World} {v1 v2 v3 : Value} (t1 t2 t3 : Nat) (hr : fn.results = #[.tmp t1, .tmp t2, .tmp t3]) (h1 : look l t1 = some v1) (h2 : look l t2 = some v2) (h3 : look l t3 = some v3) (hR : R (.returned (.tuple #[v1, v2, v3])) w) : WQ (bodyPost P fn R) .ret n l w :=
  fun a ha => bodyPost_ret (v := .tuple #[v1, v2, v3]) (by
    have e1 := ha.getD h1
    have e2 := ha.getD h2
    have e3 := ha.getD h3
    simp [results, hr] at e1 e2 e3 ⊢
    simp [e1, e2, e3]) ha.df hR
theorem WQ.end0 {P : Program} {fn : Func} {R : Ending → World → Prop} {n : Nat} {l : List (Nat × Value)} {w : World} (hr : fn.results = #[]) (hR : R (.returned (.tuple #[])) w) : WQ (bodyPost P fn R) .normal n l w :=
  fun a ha => bodyPost_end (v := .tuple #[]) (results_none hr _ _ _) ha.df hR
theorem WQ.retC {P : Program} {fn : Func} {R : Ending → World → Prop} {n : Nat} {l : List (Nat × Value)} {w : World} {v : Value} {ad : Addr} (t ty : Nat) (hr : fn.results = #[.cell t ty]) (h1 : look l t = some (.pointer (some ad))) (h2 : (loadVar ty ad).run P w = .ok v w) (hR : R (.returned v) w) : WQ (bodyPost P fn R) .ret n l w :=
  fun a ha => bodyPost_ret (v := v) (by
    have e1 := ha.getD h1
    simp [results, hr, asAddr] at e1 ⊢
    simp [e1, h2]) ha.df hR
theorem WQ.retC2 {P : Program} {fn : Func} {R : Ending → World → Prop} {n : Nat} {l : List (Nat × Value)} {w : World} {v v2 : Value} {ad : Addr} (t ty t2 : Nat) (hr : fn.results = #[.cell t ty, .tmp t2]) (h1 : look l t = some (.pointer (some ad))) (h3 : look l t2 = some v2) (h2 : (loadVar ty ad).run P w = .ok v w) (hR : R (.returned (.tuple #[v, v2])) w) : WQ (bodyPost P fn R) .ret n l w :=
  fun a ha => bodyPost_ret (v := .tuple #[v, v2]) (by
    have e1 := ha.getD h1
    have e3 := ha.getD h3
    simp [results, hr, asAddr] at e1 e3 ⊢
    simp [e1, h2, e3]) ha.df hR
end Fw
end Go.Proofs.Ytmjnakhpekbenaa
namespace Go.Proofs.Ytmjnakhpekbenaa
namespace Fw
section
variable {P : Program} {ops : Array Oper} {Q : Exit → Act → World → Prop} {rest : List Oper} {n : Nat} {l : List (Nat × Value)} {w : World}
theorem WL.z {o : Oper} (v : Value) (d : Nat) (h : WL P ops Q rest n ((d, v) :: l) w) (hd : o.dst = some d := by exact rfl) (hn : Nat.ble (d + 1) n = true := by exact rfl) (hw : wants ops l o = some true := by exact rfl) (hk : known l o = true := by exact rfl) (hr : (execOp (evD l) o).run P w = .ok (.value v) w := by kernel_rfl) : WL P ops Q (o :: rest) n l w := WL.pure d hd (Nat.le_of_ble_eq_true hn) hw hk hr h
theorem WL.y {o : Oper} (v : Value) (d : Nat) (hr : (execOp (evD l) o).run P w = .ok (.value v) w) (h : WL P ops Q rest n ((d, v) :: l) w) (hd : o.dst = some d := by exact rfl) (hn : Nat.ble (d + 1) n = true := by exact rfl) (hw : wants ops l o = some true := by exact rfl) (hk : known l o = true := by exact rfl) : WL P ops Q (o :: rest) n l w := WL.pure d hd (Nat.le_of_ble_eq_true hn) hw hk hr h
theorem WS.z {o : Oper} {Q : Act → Prop} (v : Value) (d : Nat) (h : WS P ops w Q rest n ((d, v) :: l)) (hd : o.dst = some d := by exact rfl) (hn : Nat.ble (d + 1) n = true := by exact rfl) (hw : wants ops l o = some true := by exact rfl) (hk : known l o = true := by exact rfl) (hr : (execOp (evD l) o).run P w = .ok (.value v) w := by kernel_rfl) : WS P ops w Q (o :: rest) n l := WS.val d hd (Nat.le_of_ble_eq_true hn) hw hk hr h
theorem WS.y {o : Oper} {Q : Act → Prop} (v : Value) (d : Nat) (hr : (execOp (evD l) o).run P w = .ok (.value v) w) (h : WS P ops w Q rest n ((d, v) :: l)) (hd : o.dst = some d := by exact rfl) (hn : Nat.ble (d + 1) n = true := by exact rfl) (hw : wants ops l o = some true := by exact rfl) (hk : known l o = true := by exact rfl) : WS P ops w Q (o :: rest) n l := WS.val d hd (Nat.le_of_ble_eq_true hn) hw hk hr h
theorem WL.p {o : Oper} (d : Nat) (h : WL P ops Q rest n ((d, undef) :: l) w) (hd : o.dst = some d := by exact rfl) (hn : Nat.ble (d + 1) n = true := by exact rfl) (hw : wants ops l o = some false := by exact rfl) : WL P ops Q (o :: rest) n l w := WL.pass d hd (Nat.le_of_ble_eq_true hn) hw h
theorem WS.p {o : Oper} {Q : Act → Prop} (d : Nat) (h : WS P ops w Q rest n ((d, undef) :: l)) (hd : o.dst = some d := by exact rfl) (hn : Nat.ble (d + 1) n = true := by exact rfl) (hw : wants ops l o = some false := by exact rfl) : WS P ops w Q (o :: rest) n l := WS.pass d hd (Nat.le_of_ble_eq_true hn) hw h
theorem WL.k {K : Act → World → Prop} {c : Code} {Q2 Q3 : Exit → Act → World → Prop} (hK : ∀ n l w, WC P c Q2 n l w → WQ (fun _ a w => K a w) .normal n l w) (h : WC P c Q2 n l w) : WL P ops (Exit.then K Q3) [] n l w := WL.nil (WQ.then (hK _ _ _ h))
theorem WL.c {o : Oper} (f : FuncId) (args : Array Value) (d : Nat) (h : Calls P f args w fun e w'' => ∃ v, e = .returned v ∧ WL P ops Q rest n ((d, v) :: l) w'') (hd : o.dst = some d := by exact rfl) (hn : Nat.ble (d + 1) n = true := by exact rfl) (hw : wants ops l o = some true := by exact rfl) (hk : known l o = true := by exact rfl) (hr : (execOp (evD l) o).run P w = .ok (.enter f args) w := by kernel_rfl) : WL P ops Q (o :: rest) n l w := WL.call d hd (Nat.le_of_ble_eq_true hn) hw hk hr h
theorem WC.sb {c : Code} {Q : Exit → Act → World → Prop} {l0 : List (Nat × Value)} (l' : List (Nat × Value)) (h : WC P c Q n l' w) (hs : Sub l' l0 := by repeat (first | exact trivial | refine ⟨rfl, ?_⟩)) : WC P c Q n l0 w := WC.sub hs h
theorem WQ.sb {e : Exit} {Q : Exit → Act → World → Prop} {l0 : List (Nat × Value)} (l' : List (Nat × Value)) (h : WQ Q e n l' w) (hs : Sub l' l0 := by repeat (first | exact trivial | refine ⟨rfl, ?_⟩)) : WQ Q e n l0 w := WQ.sub hs h
end
end Fw
end Go.Proofs.Ytmjnakhpekbenaa
namespace Go.Proofs.Ytmjnakhpekbenaa
open Go.RowKit
namespace Fw
inductive Ent where
  | cel (b : Nat) (c : Array Value) (T : TypeId)
  | own (v : Value) (k : Nat) (xs : List Value) (e : TypeId) (s : Nat)
def Ent.blk : Ent → Option Nat
  | .cel b _ _ => some b
  | .own v _ _ _ _ => v.ownBlock
def Ent.holds (w : World) : Ent → Prop
  | .cel b c T => w.heap[b]? = some (.cells c T (0, 0))
  | .own v k xs e s => w.ownsRow 0 e s v k xs
theorem Ent.lt {w : World} {e : Ent} (h : e.holds w) {b : Nat} (hb : e.blk = some b) : b < w.heap.size := by
  cases e with
  | cel b' c T => simp only [Ent.blk, Option.some.injEq] at hb; subst hb; exact (Array.getElem?_eq_some_iff.1 h).1
  | own v k xs e s => exact (World.ownsRow.lt h b hb).2
theorem Ent.keep {w w' : World} {e : Ent} (h : e.holds w) (hk : ∀ b, e.blk = some b → w'.heap[b]? = w.heap[b]?) : e.holds w' := by
  cases e with
  | cel b c T => exact (hk b rfl).trans h
  | own v k xs e s =>
    refine ⟨h.1, ?_⟩
    rcases h.2 with hn | ⟨g, cap, cur, rfl, hb, hg, rest⟩
    · exact .inl hn
    · exact .inr ⟨g, cap, cur, rfl, hb, (hk g rfl).trans hg, rest⟩
def Apart (e e' : Ent) : Prop := ∀ b, e.blk = some b → e'.blk ≠ some b
theorem Apart.symm {e e' : Ent} (h : Apart e e') : Apart e' e := fun b hb hb' => h b hb' hb
structure HP (S : Nat → Prop) (w0 w : World) (H : List Ent) : Prop where
  os : w.os = w0.os
  tape : w.tape = w0.tape
  output : w.output = w0.output
  size : w0.heap.size ≤ w.heap.size
  keep : ∀ k, k < w0.heap.size → S k → w.heap[k]? = w0.heap[k]?
  hold : ∀ e, e ∈ H → e.holds w
  fresh : ∀ e, e ∈ H → ∀ b, e.blk = some b → b < w0.heap.size → ¬ S b
  apart : H.Pairwise Apart
abbrev Tr : Nat → Prop := fun _ => True
section
variable {S : Nat → Prop} {w0 w w' : World} {H H' : List Ent}
theorem HP.refl (w : World) : HP S w w [] := ⟨rfl, rfl, rfl, Nat.le_refl _, fun _ _ _ => rfl, fun e h => absurd h (List.not_mem_nil), fun e h => absurd h (List.not_mem_nil), List.Pairwise.nil⟩
theorem HP.below (h : HP Tr w0 w H) : Below w0.heap.size w0 w := ⟨h.os, h.tape, h.output, h.size, fun k hk => h.keep k hk trivial⟩
theorem HP.of_below (h : Below w0.heap.size w0 w) : HP S w0 w [] := ⟨h.os, h.tape, h.output, h.size, fun k hk _ => h.block k hk, fun e h => absurd h (List.not_mem_nil), fun e h => absurd h (List.not_mem_nil), List.Pairwise.nil⟩
theorem HP.eq (h : HP S w0 w H) (e : H = H') : HP S w0 w H' := e ▸ h
theorem HP.drew (h : HP S w0 w H) : HP S w0 w.drew H := ⟨h.os, h.tape, h.output, h.size, h.keep, fun e he => Ent.keep (h.hold e he) (fun b _ => rfl), h.fresh, h.apart⟩
theorem HP.old (h : HP S w0 w H) {a : Addr} {v : Value} (hS : S a.block) (hc : w0.cell? a = some v) : w.cell? a = some v :=
  (World.cell?_of_block (h.keep a.block (World.block_lt_of_cell? w0 a hc) hS)).trans hc
theorem HP.get (h : HP S w0 w H) (i : Nat) {e : Ent} (hi : H[i]? = some e) : e.holds w := h.hold e (List.mem_of_getElem? hi)
theorem HP.cell (h : HP S w0 w H) (i : Nat) {b off : Nat} {c : Array Value} {T : TypeId} {v : Value} (hi : H[i]? = some (.cel b c T)) (hc : c[off]? = some v) : w.cell? ⟨b, off, none⟩ = some v := by
  rw [cell_of_row w b off c T (0, 0) (h.get i hi)]; exact hc
theorem HP.free (h : HP S w0 w H) (i : Nat) {b off : Nat} {c : Array Value} {T : TypeId} (hi : H[i]? = some (.cel b c T)) : w.frozen? ⟨b, off, none⟩ = false := frozen_of_row w b off c T (h.get i hi)
theorem HP.ownCell (h : HP S w0 w H) (i : Nat) {g n cap j : Nat} {xs : List Value} {e s : Nat} {u : Value} (hi : H[i]? = some (.own (.slice (some ⟨g, 0, none⟩) n cap) n xs e s)) (hu : xs[j]? = some u) : w.cell? ⟨g, j, none⟩ = some u := by
  have q := World.ownsRow.cells (h.get i hi) (g := g) rfl j u hu
  have hadd : (⟨g, 0, none⟩ : Addr).add j = ⟨g, j, none⟩ := by unfold Addr.add; split <;> simp_all
  rwa [hadd] at q
theorem HP.sub (h : HP S w0 w H) (hs : H'.Sublist H) : HP S w0 w H' := ⟨h.os, h.tape, h.output, h.size, h.keep, fun e he => h.hold e (hs.subset he), fun e he => h.fresh e (hs.subset he), h.apart.sublist hs⟩
theorem HP.drop (h : HP S w0 w H) (i : Nat) : HP S w0 w (H.eraseIdx i) := h.sub (List.eraseIdx_sublist H i)
theorem HP.alloc (h : HP S w0 w H) (c : Array Value) (T : TypeId) : HP S w0 (w.alloc (.cells c T)) (H ++ [.cel w.heap.size c T]) := by
  have hk : ∀ b, b < w.heap.size → (w.alloc (.cells c T)).heap[b]? = w.heap[b]? := fun b hb => heap_alloc_old w _ hb
  refine ⟨h.os, h.tape, h.output, by simp; have := h.size; omega, fun k hk' hS => (hk k (Nat.lt_of_lt_of_le hk' h.size)).trans (h.keep k hk' hS), ?_, ?_, ?_⟩
  · intro e he
    rcases List.mem_append.1 he with he | he
    · exact Ent.keep (h.hold e he) fun b hb => hk b (Ent.lt (h.hold e he) hb)
    · simp at he; subst he; exact heap_alloc_new w _
  · intro e he b hb hlt
    rcases List.mem_append.1 he with he | he
    · exact h.fresh e he b hb hlt
    · simp at he; subst he
      simp only [Ent.blk, Option.some.injEq] at hb
      have := h.size; omega
  · refine List.pairwise_append.2 ⟨h.apart, by simp, fun e he e' he' b hb hb' => ?_⟩
    simp at he'; subst he'
    simp only [Ent.blk, Option.some.injEq] at hb'
    have := Ent.lt (h.hold e he) hb; omega
theorem HP.change (h : HP S w0 w H) (i : Nat) {e e' : Ent} (hi : H[i]? = some e) (os : w'.os = w.os) (tape : w'.tape = w.tape) (output : w'.output = w.output) (size : w.heap.size ≤ w'.heap.size)
    (block : ∀ k, k < w.heap.size → e.blk ≠ some k → w'.heap[k]? = w.heap[k]?) (hold : e'.holds w') (hblk : ∀ b, e'.blk = some b → e.blk = some b ∨ w.heap.size ≤ b) : HP S w0 w' (H.set i e') := by
  have hil : i < H.length := (List.getElem?_eq_some_iff.1 hi).1
  have hsplit : H = H.take i ++ e :: H.drop (i + 1) := by
    have := List.getElem?_eq_some_iff.1 hi
    obtain ⟨h1, h2⟩ := this
    rw [← h2]; simp
  have hset : H.set i e' = H.take i ++ e' :: H.drop (i + 1) := List.set_eq_take_append_cons_drop .. |>.trans (by simp [hil])
  have hap := h.apart
  rw [hsplit] at hap
  obtain ⟨ap1, ap2, ap3⟩ := List.pairwise_append.1 hap
  obtain ⟨ap4, ap5⟩ := List.pairwise_cons.1 ap2
  have oth : ∀ x, x ∈ H.take i ++ H.drop (i + 1) → x ∈ H ∧ Apart e x := fun x hx => by
    rcases List.mem_append.1 hx with hx | hx
    · exact ⟨List.mem_of_mem_take hx, (ap3 x hx e (by simp)).symm⟩
    · exact ⟨List.mem_of_mem_drop hx, ap4 x hx⟩
  have hkeep : ∀ x, x ∈ H.take i ++ H.drop (i + 1) → x.holds w' := fun x hx => by
    obtain ⟨hm, ha⟩ := oth x hx
    exact Ent.keep (h.hold x hm) fun b hb => block b (Ent.lt (h.hold x hm) hb) (fun q => ha b q hb)
  have hapart : ∀ x, x ∈ H.take i ++ H.drop (i + 1) → Apart e' x := fun x hx b hb hb' => by
    obtain ⟨hm, ha⟩ := oth x hx
    rcases hblk b hb with q | q
    · exact ha b q hb'
    · have := Ent.lt (h.hold x hm) hb'; omega
  refine ⟨os.trans h.os, tape.trans h.tape, output.trans h.output, Nat.le_trans h.size size, fun k hk hS => ?_, ?_, ?_, ?_⟩
  · rw [block k (Nat.lt_of_lt_of_le hk h.size) (fun q => h.fresh e (List.mem_of_getElem? hi) k q hk hS)]; exact h.keep k hk hS
  · intro x hx
    rw [hset] at hx
    rcases List.mem_append.1 hx with hx | hx
    · exact hkeep x (List.mem_append_left _ hx)
    · rcases List.mem_cons.1 hx with rfl | hx
      · exact hold
      · exact hkeep x (List.mem_append_right _ hx)
  · intro x hx b hb hlt
    rw [hset] at hx
    rcases List.mem_append.1 hx with hx | hx
    · exact h.fresh x (List.mem_of_mem_take hx) b hb hlt
    · rcases List.mem_cons.1 hx with rfl | hx
      · rcases hblk b hb with q | q
        · exact h.fresh e (List.mem_of_getElem? hi) b q hlt
        · have := h.size; omega
      · exact h.fresh x (List.mem_of_mem_drop hx) b hb hlt
  · rw [hset]
    refine List.pairwise_append.2 ⟨ap1, List.pairwise_cons.2 ⟨fun x hx => hapart x (List.mem_append_right _ hx), ap5⟩, fun x hx y hy => ?_⟩
    rcases List.mem_cons.1 hy with rfl | hy
    · exact (hapart x (List.mem_append_left _ hx)).symm
    · exact ap3 x hx y (List.mem_cons_of_mem _ hy)
theorem HP.set (h : HP S w0 w H) (i : Nat) {b off : Nat} {c : Array Value} {T : TypeId} {v : Value} (hi : H[i]? = some (.cel b c T)) : HP S w0 (w.setCell ⟨b, off, none⟩ v) (H.set i (.cel b (c.setIfInBounds off v) T)) :=
  h.change i hi rfl rfl rfl (by simp) (fun k _ hk => heap_setCell_other w _ k v (fun q => hk (by rw [q]; rfl))) (heap_setCell_same w b off c T v (h.get i hi)) (fun b' hb => .inl hb)
theorem HP.setCells (i : Nat) {b : Nat} {T : TypeId} : ∀ (vs : List Value) {off : Nat} {w : World} {H : List Ent} {c : Array Value} (h : HP S w0 w H) (hi : H[i]? = some (.cel b c T)),
    HP S w0 (w.setCells b off vs) (H.set i (.cel b (vs.zipIdx.foldl (fun (c : Array Value) (p : Value × Nat) => c.setIfInBounds (off + p.2) p.1) c) T)) := by
  intro vs
  induction vs with
  | nil =>
    intro off w H c h hi
    have hs : H.set i (.cel b c T) = H := by
      obtain ⟨h1, h2⟩ := List.getElem?_eq_some_iff.1 hi
      rw [← h2]; exact List.set_getElem_self h1
    simp only [List.zipIdx_nil, List.foldl_nil]
    rw [hs]
    exact h
  | cons v vs ih =>
    intro off w H c h hi
    have hil : i < H.length := (List.getElem?_eq_some_iff.1 hi).1
    have h1 := h.set (off := off) (v := v) i hi
    have h2 := ih (off := off + 1) (c := c.setIfInBounds off v) h1 (by simp [hil])
    have hz : (vs.zipIdx 1).foldl (fun (c : Array Value) (p : Value × Nat) => c.setIfInBounds (off + p.2) p.1) (c.setIfInBounds off v) = vs.zipIdx.foldl (fun (c : Array Value) (p : Value × Nat) => c.setIfInBounds (off + 1 + p.2) p.1) (c.setIfInBounds off v) := by
      have : vs.zipIdx 1 = vs.zipIdx.map (fun p => (p.1, p.2 + 1)) := by
        simpa using (List.zipIdx_succ (l := vs) (i := 0))
      rw [this, List.foldl_map]
      congr 1
      funext c p
      rw [show off + (p.2 + 1) = off + 1 + p.2 by omega]
    simp only [List.zipIdx_cons, List.foldl_cons, Nat.add_zero, Nat.zero_add]
    rw [hz]
    rw [List.set_set] at h2
    exact h2
theorem HP.trans {H2 : List Ent} (h : HP S w0 w H) (h2 : HP Tr w w' H2) : HP S w0 w' (H ++ H2) := by
  refine ⟨h2.os.trans h.os, h2.tape.trans h.tape, h2.output.trans h.output, Nat.le_trans h.size h2.size, fun k hk hS => (h2.keep k (Nat.lt_of_lt_of_le hk h.size) trivial).trans (h.keep k hk hS), ?_, ?_, ?_⟩
  · intro e he
    rcases List.mem_append.1 he with he | he
    · exact Ent.keep (h.hold e he) fun b hb => h2.keep b (Ent.lt (h.hold e he) hb) trivial
    · exact h2.hold e he
  · intro e he b hb hlt
    rcases List.mem_append.1 he with he | he
    · exact h.fresh e he b hb hlt
    · exact absurd trivial (h2.fresh e he b hb (Nat.lt_of_lt_of_le hlt h.size))
  · refine List.pairwise_append.2 ⟨h.apart, h2.apart, fun e he e' he' b hb hb' => ?_⟩
    exact h2.fresh e' he' b hb' (Ent.lt (h.hold e he) hb) trivial
theorem HP.call (h : HP S w0 w H) (hb : Below w.heap.size w w') : HP S w0 w' H := by simpa using h.trans (HP.of_below (S := Tr) hb)
end
theorem append_ent {P : Program} (w : World) (t ty e : TypeId) (i : TypeInfo) (z : Value) (size bytes : Nat) (ht : P.underlying t = some (.slice e)) (hi : P.info? e = some i) (hz : i.zero = some z)
    (hsize : i.size = size) (hby : i.bytes = bytes) (hzs : z.cells.size = size) (hsz : 0 < size)
    (v : Value) (n : Nat) (xs : List Value) (hown : w.ownsRow 0 e size v n xs)
    (a : Addr) (m c : Nat) (news : List Value) (hl : news.length = m * size) (hnews : ∀ j u, news[j]? = some u → w.cell? (a.add j) = some u) (h1 : ∀ u ∈ news, u.oneCell' = true)
    (h63 : n + m ≤ maxLen) (hbytes : (n + m) * bytes ≤ 140737488355328) :
    ∃ v' w', (Builtin.append_ #[t, t] ty #[v, .slice (some a) m c]).run P w = .ok v' w' ∧ w'.ownsRow 0 e size v' (n + m) (xs ++ news) ∧ w.grownBy w' v.ownBlock ∧
      (v' = .slice none 0 0 ↔ v = .slice none 0 0 ∧ m = 0) ∧ (∀ b, v'.ownBlock = some b → v.ownBlock = some b ∨ w.heap.size ≤ b) := by
  obtain ⟨v', w', hr, h2, h3, h4⟩ := run_append_own (P := P) w 0 t ty e i z size bytes ht hi hz hsize hby hzs hsz v n xs hown a m c news hl hnews h1 h63 hbytes (Nat.zero_le _)
  refine ⟨v', w', hr, h2, h3, h4, fun b hb => ?_⟩
  rcases hown.2 with ⟨rfl, rfl⟩ | ⟨g, cap, cur, rfl, -, hg, hnc, hcm, hcs, htake⟩
  · obtain ⟨v2, w2, hr2, h22, -, -⟩ := run_append_own (P := P) w w.heap.size t ty e i z size bytes ht hi hz hsize hby hzs hsz (.slice none 0 0) 0 xs ⟨hown.1, .inl ⟨rfl, rfl⟩⟩ a m c news hl hnews h1 h63 hbytes (Nat.le_refl _)
    rw [hr] at hr2
    cases hr2
    exact .inr (h22.lt b hb).1
  · subst hsize
    subst hby
    by_cases hroom : n + m ≤ cap
    · have hfit : n * i.size + news.length ≤ cur.size := by rw [hl, hcs, ← Nat.add_mul]; exact Nat.mul_le_mul_right _ hroom
      have hr2 := run_append_room (P := P) w t ty e i ht hi g n cap cur hg a m c news hl hnews h1 hroom hfit
      rw [hr] at hr2
      cases hr2
      exact .inl hb
    · have holds : ∀ j u, xs[j]? = some u → w.cell? ((⟨g, 0, none⟩ : Addr).add j) = some u := hown.cells (g := g) rfl
      have hr2 := run_append_grow (P := P) w t ty e i z ht hi hz ⟨g, 0, none⟩ n cap xs hown.1 holds a m c news hl hnews (by omega) (by unfold maxLen at h63; omega) (growslice_fits (by omega) hbytes)
      rw [hr] at hr2
      cases hr2
      simp [Value.ownBlock] at hb
      exact .inr (by omega)
end Fw
end Go.Proofs.Ytmjnakhpekbenaa
namespace Go.Proofs.Ytmjnakhpekbenaa
open Go.RowKit
namespace Fw
section
variable {P : Program} {ρ : Operand → Value} {o : Oper} {w : World}
theorem i64_ok {z : Int} (h1 : -9223372036854775808 ≤ z) (h2 : z ≤ 9223372036854775807) : IntKind.i64.wrap z = z := by rw [IntKind.wrap_i64]; omega
theorem x_bin {b : BinOp} {t u : TypeId} {x y : Operand} {X Y : Value} {v : Value} (ho : o.op = .binOp b t x y u) (hx : ρ x = X) (hy : ρ y = Y) (hg : eqGuard b t x y X Y = pure ()) (hr : (binOp b t X Y).run P w = .ok v w) :
    (execOp ρ o).run P w = .ok (.value v) w := by
  unfold execOp; rw [ho]; simp [hx, hy, hg, hr]
theorem g_int {b : BinOp} {t : TypeId} {x y : Operand} {k : IntKind} {X : Int} {v : Value} : eqGuard b t x y (.int k X) v = pure () := by cases b <;> rfl
theorem x_add {t u : TypeId} {x y : Operand} {X Y Z : Int} (ho : o.op = .binOp .add t x y u) (hx : ρ x = .int .i64 X) (hy : ρ y = .int .i64 Y) (hz : X + Y = Z) (h1 : -9223372036854775808 ≤ Z) (h2 : Z ≤ 9223372036854775807) :
    (execOp ρ o).run P w = .ok (.value (.int .i64 Z)) w := x_bin ho hx hy g_int (by simp [binOp, Op.intArith, hz, i64_ok h1 h2])
theorem x_sub {t u : TypeId} {x y : Operand} {X Y Z : Int} (ho : o.op = .binOp .sub t x y u) (hx : ρ x = .int .i64 X) (hy : ρ y = .int .i64 Y) (hz : X - Y = Z) (h1 : -9223372036854775808 ≤ Z) (h2 : Z ≤ 9223372036854775807) :
    (execOp ρ o).run P w = .ok (.value (.int .i64 Z)) w := x_bin ho hx hy g_int (by simp [binOp, Op.intArith, hz, i64_ok h1 h2])
theorem x_mul {t u : TypeId} {x y : Operand} {X Y Z : Int} (ho : o.op = .binOp .mul t x y u) (hx : ρ x = .int .i64 X) (hy : ρ y = .int .i64 Y) (hz : X * Y = Z) (h1 : -9223372036854775808 ≤ Z) (h2 : Z ≤ 9223372036854775807) :
    (execOp ρ o).run P w = .ok (.value (.int .i64 Z)) w := x_bin ho hx hy g_int (by simp [binOp, Op.intArith, hz, i64_ok h1 h2])
theorem x_quo {t u : TypeId} {x y : Operand} {X Y Z : Int} (ho : o.op = .binOp .quo t x y u) (hx : ρ x = .int .i64 X) (hy : ρ y = .int .i64 Y) (h0 : Y ≠ 0) (hz : X.tdiv Y = Z) (h1 : -9223372036854775808 ≤ Z) (h2 : Z ≤ 9223372036854775807) :
    (execOp ρ o).run P w = .ok (.value (.int .i64 Z)) w := x_bin ho hx hy g_int (by simp [binOp, Op.intDiv, h0, hz, i64_ok h1 h2])
theorem x_rem {t u : TypeId} {x y : Operand} {X Y Z : Int} (ho : o.op = .binOp .rem t x y u) (hx : ρ x = .int .i64 X) (hy : ρ y = .int .i64 Y) (h0 : Y ≠ 0) (hz : X.tmod Y = Z) :
    (execOp ρ o).run P w = .ok (.value (.int .i64 Z)) w := x_bin ho hx hy g_int (by simp [binOp, Op.intDiv, h0, hz])
theorem tdiv_pos {X Y : Int} (h : 0 ≤ X) (h0 : 0 ≤ Y) : X.tdiv Y = X / Y := Int.tdiv_eq_ediv_of_nonneg h
theorem x_lss {t u : TypeId} {x y : Operand} {k : IntKind} {X Y : Int} {b : Bool} (ho : o.op = .binOp .lss t x y u) (hx : ρ x = .int k X) (hy : ρ y = .int k Y) (hb : decide (X < Y) = b) :
    (execOp ρ o).run P w = .ok (.value (.bool b)) w := x_bin ho hx hy g_int (by simp [binOp, Op.intCmp, ← hb])
theorem x_leq {t u : TypeId} {x y : Operand} {k : IntKind} {X Y : Int} {b : Bool} (ho : o.op = .binOp .leq t x y u) (hx : ρ x = .int k X) (hy : ρ y = .int k Y) (hb : decide (X ≤ Y) = b) :
    (execOp ρ o).run P w = .ok (.value (.bool b)) w := x_bin ho hx hy g_int (by simp [binOp, Op.intCmp, ← hb])
theorem x_gtr {t u : TypeId} {x y : Operand} {k : IntKind} {X Y : Int} {b : Bool} (ho : o.op = .binOp .gtr t x y u) (hx : ρ x = .int k X) (hy : ρ y = .int k Y) (hb : decide (Y < X) = b) :
    (execOp ρ o).run P w = .ok (.value (.bool b)) w := x_bin ho hx hy g_int (by simp [binOp, Op.intCmp, ← hb])
theorem x_geq {t u : TypeId} {x y : Operand} {k : IntKind} {X Y : Int} {b : Bool} (ho : o.op = .binOp .geq t x y u) (hx : ρ x = .int k X) (hy : ρ y = .int k Y) (hb : decide (Y ≤ X) = b) :
    (execOp ρ o).run P w = .ok (.value (.bool b)) w := x_bin ho hx hy g_int (by simp [binOp, Op.intCmp, ← hb])
theorem x_eql {t u : TypeId} {x y : Operand} {k : IntKind} {X Y : Int} {b : Bool} (ho : o.op = .binOp .eql t x y u) (hx : ρ x = .int k X) (hy : ρ y = .int k Y) (hb : decide (X = Y) = b) :
    (execOp ρ o).run P w = .ok (.value (.bool b)) w := x_bin ho hx hy g_int (by simp [binOp, Op.intCmp, ← hb]; rfl)
theorem x_neq {t u : TypeId} {x y : Operand} {k : IntKind} {X Y : Int} {b : Bool} (ho : o.op = .binOp .neq t x y u) (hx : ρ x = .int k X) (hy : ρ y = .int k Y) (hb : decide (X ≠ Y) = b) :
    (execOp ρ o).run P w = .ok (.value (.bool b)) w := x_bin ho hx hy g_int (by simp [binOp, Op.intCmp, ← hb]; rfl)
theorem dT {p : Prop} [Decidable p] (h : p) : decide p = true := decide_eq_true h
theorem dF {p : Prop} [Decidable p] (h : ¬ p) : decide p = false := decide_eq_false h
theorem x_max {t : TypeId} {k : IntKind} {x y : Operand} {ts : Array TypeId} {X Y Z : Int} (ho : o.op = .call { callee := .builtin .max, args := #[x, y], argTypes := ts }) (hx : ρ x = .int k X) (hy : ρ y = .int k Y) (hz : (if Y > X then Y else X) = Z) :
    (execOp ρ o).run P w = .ok (.value (.int k Z)) w := by
  unfold execOp; rw [ho]; simp [resolve, invoke, builtin, hx, hy, Builtin.max_, Builtin.max2, ← hz]
theorem x_idx {t e s : Nat} {x y : Operand} {b off n cap : Nat} {I : Int} (i p : Nat) (ho : o.op = .indexAddr t x y) (hx : ρ x = .slice (some ⟨b, off, none⟩) n cap) (hy : ρ y = .int .i64 I)
    (hu : P.underlying t = some (.slice e)) (hs : (P.info? e).map (·.size) = some s) (hI : I = (i : Int)) (hlt : i < n) (hp : off + i * s = p) :
    (execOp ρ o).run P w = .ok (.value (.pointer (some ⟨b, p, none⟩))) w := by
  unfold execOp; rw [ho]
  subst hI
  obtain ⟨inf, hi, rfl⟩ := Option.map_eq_some_iff.1 hs
  have hz : (sizeOf e).run P w = .ok inf.size w := by simp [sizeOf, typeInfo, hi]
  have hadd : (⟨b, off, none⟩ : Addr).add (i * inf.size) = ⟨b, p, none⟩ := by unfold Addr.add; split <;> simp_all
  simp [hx, hy, Instr.indexAt, run_underlying hu, asIntOf, hz, hadd]
  omega
theorem x_idxArr {t e s m : Nat} {x y : Operand} {b off : Nat} {I : Int} (i p : Nat) (ho : o.op = .indexAddr t x y) (hx : ρ x = .pointer (some ⟨b, off, none⟩)) (hy : ρ y = .int .i64 I)
    (hu : P.underlying t = some (.array m e)) (hs : (P.info? e).map (·.size) = some s) (hI : I = (i : Int)) (hlt : i < m) (hp : off + i * s = p) :
    (execOp ρ o).run P w = .ok (.value (.pointer (some ⟨b, p, none⟩))) w := by
  unfold execOp; rw [ho]
  subst hI
  obtain ⟨inf, hi, rfl⟩ := Option.map_eq_some_iff.1 hs
  have hz : (sizeOf e).run P w = .ok inf.size w := by simp [sizeOf, typeInfo, hi]
  have hadd : (⟨b, off, none⟩ : Addr).add (i * inf.size) = ⟨b, p, none⟩ := by unfold Addr.add; split <;> simp_all
  simp [hx, hy, Instr.indexAt, run_underlying hu, asIntOf, hz, hadd, Instr.sureAddr]
  omega
theorem x_load {t : Nat} {x : Operand} {a : Addr} {v : Value} {d : TypeDesc} (ho : o.op = .load t x) (hx : ρ x = .pointer (some a)) (hu : P.underlying t = some d) (hd : d.isRow = false) (hc : w.cell? a = some v) :
    (execOp ρ o).run P w = .ok (.value v) w := by
  unfold execOp; rw [ho]
  have hagg : (isAgg t).run P w = .ok false w := by
    unfold isAgg
    rw [Sem.run_bind, run_underlying hu w]
    cases d <;> simp_all
  simp [hx, Instr.loadAt, Instr.sureAddr, loadVar, hagg, hc]
theorem x_loadS {t : Nat} {x : Operand} {b off : Nat} {cs : List Value} {d : TypeDesc} (ho : o.op = .load t x) (hx : ρ x = .pointer (some ⟨b, off, none⟩)) (hu : P.underlying t = some d) (hd : d.isRow = true) (hi : (P.info? t).map (·.size) = some cs.length) (hc : w.rangeAt b off cs) :
    (execOp ρ o).run P w = .ok (.value (.agg cs.toArray)) w := by
  unfold execOp; rw [ho]
  simp [hx, run_loadAt_mid w b off t cs d hc hu hd hi]
theorem x_store {t : Nat} {x y : Operand} {a : Addr} {v u : Value} (ho : o.op = .store t x y) (hx : ρ x = .pointer (some a)) (hy : ρ y = v) (hi : (P.info? t).map (·.size) = some 1) (hone : v.oneCell' = true) (hc : w.cell? a = some u) (hf : w.frozen? a = false) :
    (execOp ρ o).run P w = .ok .skip (w.setCell a v) := by
  unfold execOp; rw [ho]
  obtain ⟨inf, hi, h1⟩ := Option.map_eq_some_iff.1 hi
  have hz : (sizeOf t).run P w = .ok 1 w := by simp [sizeOf, typeInfo, hi, h1]
  have hcs : v.cells = #[v] := by cases v <;> simp_all [Value.cells, Value.oneCell']
  have hadd : a.add 0 = a := by unfold Addr.add; simp
  have hs := run_store P w a v .plain hone
  simp only [hc, hf] at hs
  simp [hx, hy, Instr.storeAt, Instr.sureAddr, storeVar, hcs, hz, storeCells, hadd, hs]
theorem x_storeS {t : Nat} {x y : Operand} {b off : Nat} {cells : Array Value} (ho : o.op = .store t x y) (hx : ρ x = .pointer (some ⟨b, off, none⟩)) (hy : ρ y = .agg cells) (hi : (P.info? t).map (·.size) = some cells.size) (hone : cells.toList.all (·.oneCell') = true) (ht : w.there b off cells.size) :
    (execOp ρ o).run P w = .ok .skip (w.setCells b off cells.toList) := by
  unfold execOp; rw [ho]
  simp [hx, hy, run_storeAt_mid w b off t cells ht hi (by rw [← Array.all_toList]; exact hone)]
theorem x_sliceH {t e : Nat} {x hi : Operand} {p : Option Addr} {n cap : Nat} {H : Int} (h : Nat) (ho : o.op = .slice t x none (some hi) none) (hx : ρ x = .slice p n cap) (hh : ρ hi = .int .i64 H) (hu : P.underlying t = some (.slice e)) (hH : H = (h : Int)) (hle : h ≤ cap) {s : Nat} (hs : (P.info? e).map (·.size) = some s) :
    (execOp ρ o).run P w = .ok (.value (.slice p h cap)) w := by
  unfold execOp; rw [ho]
  subst hH
  obtain ⟨inf, hi, rfl⟩ := Option.map_eq_some_iff.1 hs
  have hz : (sizeOf e).run P w = .ok inf.size w := by simp [sizeOf, typeInfo, hi]
  have hadd : ∀ a : Addr, a.add 0 = a := fun a => by unfold Addr.add; simp
  cases p <;> simp [hx, hh, Instr.sliceAt, Instr.slice, run_underlying hu, Instr.sliceBounds, Instr.sliceBound, asIntOf, hle, hz, hadd]
theorem x_makeR {t : Nat} {x y : Operand} {X Y v : Value} {w' : World} (ho : o.op = .makeSlice t x y) (hx : ρ x = X) (hy : ρ y = Y) (hr : (Instr.makeSlice t X Y).run P w = .ok v w') :
    (execOp ρ o).run P w = .ok (.value v) w' := by
  unfold execOp; rw [ho]; simp [hx, hy, hr]
theorem x_append {t : Nat} {x y : Operand} {X Y v' : Value} {w' : World} (ho : o.op = .call { callee := .builtin .append, args := #[x, y], argTypes := #[t, t] }) (hx : ρ x = X) (hy : ρ y = Y) (hr : (Builtin.append_ #[t, t] o.type #[X, Y]).run P w = .ok v' w') :
    (execOp ρ o).run P w = .ok (.value v') w' := by
  unfold execOp; rw [ho]
  simp [resolve, invoke, builtin, hx, hy, hr]
end
end Fw
end Go.Proofs.Ytmjnakhpekbenaa
namespace Go.Proofs.Ytmjnakhpekbenaa
open Go.RowKit
namespace Fw
theorem x_ix {P : Program} {ρ : Operand → Value} {o : Oper} {w : World} {t e s : Nat} {x y : Operand} {b off n cap : Nat} {I : Int} (i p : Nat) (hu : P.underlying t = some (.slice e)) (hs : (P.info? e).map (·.size) = some s) (ho : o.op = .indexAddr t x y := by exact rfl) (hx : ρ x = .slice (some ⟨b, off, none⟩) n cap := by exact rfl) (hy : ρ y = .int .i64 I := by exact rfl) (hI : I = (i : Int) := by omega) (hlt : i < n := by omega) (hp : off + i * s = p := by omega) : (execOp ρ o).run P w = .ok (.value (.pointer (some ⟨b, p, none⟩))) w := x_idx i p ho hx hy hu hs hI hlt hp
theorem x_ad {P : Program} {ρ : Operand → Value} {o : Oper} {w : World} {t u : TypeId} {x y : Operand} {X Y : Int} (Z : Int) (ho : o.op = .binOp .add t x y u := by exact rfl) (hx : ρ x = .int .i64 X := by exact rfl) (hy : ρ y = .int .i64 Y := by exact rfl) (hz : X + Y = Z := by omega) (h1 : -9223372036854775808 ≤ Z := by omega) (h2 : Z ≤ 9223372036854775807 := by omega) :
    (execOp ρ o).run P w = .ok (.value (.int .i64 Z)) w := x_add ho hx hy hz h1 h2
end Fw
end Go.Proofs.Ytmjnakhpekbenaa
namespace Go.Proofs.Ytmjnakhpekbenaa
open Go.RowKit
namespace Fw
abbrev vI (x : Int) : Value := .int .i64 x
abbrev vS (g n c : Nat) : Value := .slice (some ⟨g, 0, none⟩) n c
abbrev vP (b o : Nat) : Value := .pointer (some ⟨b, o, none⟩)
def enum : Nat → List Value → List (Nat × Value)
  | _, [] => []
  | k, v :: r => (k, v) :: enum (k + 1) r
theorem look_enum : ∀ (vs : List Value) (k t : Nat) (v : Value), look (enum k vs) t = some v → k ≤ t ∧ vs[t - k]? = some v
  | [], _, _, _, h => by cases h
  | u :: r, k, t, v, h => by
    by_cases e : k = t
    · subst e
      have h' : look ((k, u) :: enum (k + 1) r) k = some v := h
      rw [look_cons_eq] at h'
      cases h'
      exact ⟨Nat.le_refl _, by simp⟩
    · have h' : look ((k, u) :: enum (k + 1) r) t = some v := h
      rw [look_cons_ne e] at h'
      obtain ⟨h1, h2⟩ := look_enum r (k + 1) t v h'
      refine ⟨by omega, ?_⟩
      rw [show t - k = (t - (k + 1)) + 1 by omega]
      simpa using h2
theorem Fr_enter (vs : List Value) (m : Nat) (h : vs.length ≤ m) : Fr m (enum 0 vs) ⟨vs.toArray ++ Array.replicate (m - vs.toArray.size) undef, []⟩ := by
  refine ⟨by simp; omega, rfl, fun t v ht => ?_⟩
  obtain ⟨-, h2⟩ := look_enum vs 0 t v ht
  have hlt : t < vs.length := by have := (List.getElem?_eq_some_iff.1 h2).1; simpa using this
  rw [Array.getElem?_append_left (by simpa using hlt)]
  simpa using h2
def upI (f : Nat → Int) (i : Nat) (v : Int) : Nat → Int := fun j => if j = i then v else f j
def irow (n : Nat) (f : Nat → Int) : Array Value := (Array.range n).map fun i => .int .i64 (f i)
theorem size_irow (n : Nat) (f : Nat → Int) : (irow n f).size = n := by simp [irow]
theorem irow_get {n j : Nat} {f : Nat → Int} {v : Int} (hj : j < n) (hv : f j = v) : (irow n f)[j]? = some (.int .i64 v) := by simp [irow, hj, hv]
theorem irow_set (n j : Nat) (f : Nat → Int) (v : Int) : (irow n f).setIfInBounds j (.int .i64 v) = irow n (upI f j v) := by
  apply Array.ext
  · simp [irow]
  · intro i h1 h2
    simp only [irow, upI]
    by_cases e : j = i
    · subst e
      simp [Array.getElem_setIfInBounds]
    · have e2 : ¬ i = j := fun q => e q.symm
      rw [Array.getElem_setIfInBounds_ne (by simpa [irow] using h2) e]
      simp [e2]
theorem irow_made (n : Nat) : madeCells #[.int .i64 0] (n * 1) = irow n (fun _ => 0) := by
  simp [madeCells, irow, Nat.mod_one]
section
variable {P : Program} {ops : Array Oper} {Q : Exit → Act → World → Prop} {rest : List Oper} {n : Nat} {l : List (Nat × Value)} {w w0 : World} {S : Nat → Prop} {H H2 : List Ent}
theorem WS.nilQ (h : WQ Q .normal n l w) : WS P ops w (fun a' => Q .normal a' w) [] n l := fun a ha => wpStill_nil (h a ha)
theorem WS.nilL {tl : List Oper} (h : WL P ops Q tl n l w) : WS P ops w (fun a' => wpList P ops Q tl a' w) [] n l := fun a ha => wpStill_nil (h a ha)
theorem HP.range (h : HP S w0 w H) (i : Nat) {b off : Nat} {c : Array Value} {T : TypeId} {cs : List Value} (hi : H[i]? = some (.cel b c T)) (hc : (c.toList.drop off).take cs.length = cs) : w.rangeAt b off cs := fun j v hv => by
  refine h.cell i hi ?_
  rw [← hc, List.getElem?_take] at hv
  split at hv
  · simpa using hv
  · cases hv
theorem HP.oldRange (h : HP S w0 w H) {b off : Nat} {cs : List Value} (hS : S b) (hc : w0.rangeAt b off cs) : w.rangeAt b off cs := fun j v hv => h.old (a := ⟨b, off + j, none⟩) hS (hc j v hv)
theorem HP.loadRow (h : HP S w0 w H) (i : Nat) {b : Nat} {c : Array Value} {T ty : TypeId} {d : TypeDesc} (hi : H[i]? = some (.cel b c T)) (hu : P.underlying ty = some d) (hd : d.isRow = true) (hs : (P.info? ty).map (·.size) = some c.size) :
    (loadVar ty ⟨b, 0, none⟩).run P w = .ok (.agg c) w := by
  have := run_loadVar_mid (P := P) w b 0 ty c.toList d (h.range i hi (by rw [List.drop_zero]; exact List.take_of_length_le (by simp))) hu hd (by simpa using hs)
  simpa using this
theorem WL.alloc {o : Oper} {c : Array Value} {T : TypeId} (hH : HP S w0 w H) (d : Nat) (hd : o.dst = some d) (hn : d < n) (hw : wants ops l o = some true) (hk : known l o = true) (V : Nat → Value)
    (hr : (execOp (evD l) o).run P w = .ok (.value (V w.heap.size)) (w.alloc (.cells c T))) (h : ∀ b w2, w0.heap.size ≤ b ∧ HP S w0 w2 (H ++ [.cel b c T]) → WL P ops Q rest n ((d, V b) :: l) w2) : WL P ops Q (o :: rest) n l w :=
  WL.val d hd hn hw hk hr (h _ _ ⟨hH.size, hH.alloc c T⟩)
theorem WL.store {o : Oper} {t : TypeId} {x y : Operand} {b off : Nat} {c c' : Array Value} {T : TypeId} {v : Value} (i : Nat) (hH : HP S w0 w H) (ho : o.op = .store t x y) (hd : o.dst = none) (hw : wants ops l o = some true)
    (hi : H[i]? = some (.cel b c T)) (hx : ev l x = some (.pointer (some ⟨b, off, none⟩))) (hy : ev l y = some v) (hs : (P.info? t).map (·.size) = some 1) (h1 : v.oneCell' = true) (hlt : off < c.size) (hc : c.setIfInBounds off v = c') (h2 : H.set i (.cel b c' T) = H2)
    (h : ∀ w2, HP S w0 w2 H2 → WL P ops Q rest n l w2) : WL P ops Q (o :: rest) n l w := by
  intro a ha
  refine wpList_step fun K hK => ?_
  rw [if_pos (wants_spec ha hw)]
  unfold Oper.wp
  rw [x_store (P := P) ho (ha.ev hx) (ha.ev hy) hs h1 (hH.cell i hi (Array.getElem?_eq_getElem hlt)) (hH.free i hi), Oper.upon_skip, hd]
  refine hK _ _ (h _ ?_ _ ha)
  rw [← h2, ← hc]
  exact hH.set i hi
theorem WL.storeS {o : Oper} {t : TypeId} {x y : Operand} {b off : Nat} {c c' cells : Array Value} {T : TypeId} (i : Nat) (hH : HP S w0 w H) (ho : o.op = .store t x y) (hd : o.dst = none) (hw : wants ops l o = some true)
    (hi : H[i]? = some (.cel b c T)) (hx : ev l x = some (.pointer (some ⟨b, off, none⟩))) (hy : ev l y = some (.agg cells)) (hs : (P.info? t).map (·.size) = some cells.size) (h1 : cells.toList.all (·.oneCell') = true) (hlt : off + cells.size ≤ c.size)
    (hc : cells.toList.zipIdx.foldl (fun (c : Array Value) (p : Value × Nat) => c.setIfInBounds (off + p.2) p.1) c = c') (h2 : H.set i (.cel b c' T) = H2)
    (h : ∀ w2, HP S w0 w2 H2 → WL P ops Q rest n l w2) : WL P ops Q (o :: rest) n l w := by
  intro a ha
  refine wpList_step fun K hK => ?_
  rw [if_pos (wants_spec ha hw)]
  unfold Oper.wp
  rw [x_storeS (P := P) ho (ha.ev hx) (ha.ev hy) hs h1 (fun j hj => ⟨by rw [hH.cell i hi (Array.getElem?_eq_getElem (show off + j < c.size by omega))]; rfl, hH.free i hi⟩), Oper.upon_skip, hd]
  refine hK _ _ (h _ ?_ _ ha)
  rw [← h2, ← hc]
  exact HP.setCells i cells.toList hH hi
theorem WL.append {o : Oper} {t e : TypeId} {inf : TypeInfo} {z : Value} {sz by' : Nat} {x y : Operand} {v : Value} {k m : Nat} {xs news : List Value} {bn cp : Nat} {cn : Array Value} (i j : Nat) (hH : HP S w0 w H) (d : Nat) (hd : o.dst = some d) (hn : d < n) (hw : wants ops l o = some true)
    (ho : o.op = .call { callee := .builtin .append, args := #[x, y], argTypes := #[t, t] }) (hx : ev l x = some v) (hy : ev l y = some (.slice (some ⟨bn, 0, none⟩) m cp))
    (ht : P.underlying t = some (.slice e)) (hi' : P.info? e = some inf) (hz : inf.zero = some z) (hsz : inf.size = sz) (hby : inf.bytes = by') (hzs : z.cells.size = sz) (h0 : 0 < sz)
    (hi : H[i]? = some (.own v k xs e sz)) (hj : H[j]? = some (.cel bn cn e)) (hnews : cn.toList.take news.length = news) (hl : news.length = m * sz) (h1 : ∀ u ∈ news, u.oneCell' = true) (h63 : k + m ≤ maxLen) (hb : (k + m) * by' ≤ 140737488355328)
    (h : ∀ v' w2, (v' = .slice none 0 0 ↔ v = .slice none 0 0 ∧ m = 0) → HP S w0 w2 (H.set i (.own v' (k + m) (xs ++ news) e sz)) → WL P ops Q rest n ((d, v') :: l) w2) : WL P ops Q (o :: rest) n l w := by
  intro a ha
  refine wpList_step fun K hK => ?_
  rw [if_pos (wants_spec ha hw)]
  obtain ⟨v', w2, hr, g1, g2, g3, g4⟩ := append_ent (P := P) w t o.type e inf z sz by' ht hi' hz hsz hby hzs h0 v k xs (hH.get i hi) ⟨bn, 0, none⟩ m cp news hl (fun q u hu => by
    rw [Addr.add_mid]
    exact hH.range j hj (by simpa using hnews) q u hu) h1 h63 hb
  unfold Oper.wp
  rw [x_append (P := P) ho (ha.ev hx) (ha.ev hy) hr, Oper.upon_value, hd]
  refine hK _ _ (h v' w2 g3 ?_ _ (ha.put hn v'))
  exact hH.change i hi g2.os g2.tape g2.output g2.size (fun q hq hne => g2.block q hq fun e => hne e.symm) ⟨g1.1, g1.2⟩ g4
end
end Fw
end Go.Proofs.Ytmjnakhpekbenaa
namespace Go.Proofs.Ytmjnakhpekbenaa
open Go.RowKit
namespace Fw
section
variable {P : Program} {ops : Array Oper} {Q : Exit → Act → World → Prop} {n : Nat} {l l0 : List (Nat × Value)} {w w0 : World}
def updD (D : Nat → Bool) (i : Nat) : Nat → Bool := fun j => match Nat.beq j i with
  | true => true
  | false => D j
theorem updD_same (D : Nat → Bool) (i : Nat) : updD D i i = true := by
  unfold updD; rw [show Nat.beq i i = true from Nat.beq_refl i]
theorem updD_ne {D : Nat → Bool} {i j : Nat} (h : j ≠ i) : updD D i j = D j := by
  unfold updD
  cases hb : Nat.beq j i
  · rfl
  · exact absurd (Nat.eq_of_beq_eq_true hb) h
def backB (ops : List Oper) : Bool := ops.zipIdx.all fun p => p.1.after.toList.all fun e => !Region.binds .any e || Nat.blt e.on p.2
theorem any_inv (I : (Nat → Bool) → Act → World → Prop) (hback : ∀ (i : Nat) (o : Oper), ops[i]? = some o → ∀ e ∈ o.after, Region.binds .any e = true → e.on < i)
    (hstep : ∀ D a w i o, I D a w → ops[i]? = some o → D i = false → (∀ e ∈ o.after, Region.binds .any e = true → D e.on = true) → wpOp P ops Q i (I (updD D i)) a w)
    (hend : ∀ D a w, I D a w → (∀ i, i < ops.size → D i = true) → Q .normal a w) :
    ∀ (fuel : Nat) (listed : Array Bool) (a : Act) (w : World), listed.size = ops.size → (listed.toList.filter (! ·)).length ≤ fuel → I (fun j => listed.getD j false) a w → wpAny P .any ops Q fuel listed a w := by
  have hdone : ∀ (listed : Array Bool), listed.size = ops.size → Region.ready .any ops listed = [] → ∀ i, i < ops.size → listed.getD i false = true := by
    intro listed hsz hr i
    induction i using Nat.strongRecOn with
    | _ i ih =>
      intro hi
      cases hl : listed.getD i false with
      | true => rfl
      | false =>
        exfalso
        have hmem : i ∈ Region.ready .any ops listed := by
          rw [mem_ready]
          refine ⟨?_, ops[i], Array.getElem?_eq_getElem hi, fun e he hb => ?_⟩
          · have hi' : i < listed.size := by omega
            simp [hi'] at hl ⊢
            exact hl
          · have := hback i ops[i] (Array.getElem?_eq_getElem hi) e he hb
            exact ih e.on this (by omega)
        rw [hr] at hmem; cases hmem
  intro fuel
  induction fuel with
  | zero =>
    intro listed a w hsz hcnt hI
    have hall : ∀ i, i < listed.size → listed.getD i false = true := by
      intro i hi
      have h0 : listed.toList.filter (! ·) = [] := List.length_eq_zero_iff.1 (by omega)
      rw [List.filter_eq_nil_iff] at h0
      have := h0 listed[i] (by simp)
      simpa [hi] using this
    have hr : Region.ready .any ops listed = [] := by
      refine List.eq_nil_iff_forall_not_mem.2 fun j hj => ?_
      rw [mem_ready] at hj
      obtain ⟨h1, o, ho, -⟩ := hj
      have hj' : j < listed.size := by rw [hsz]; exact (Array.getElem?_eq_some_iff.1 ho).1
      have := hall j hj'
      simp [hj'] at h1 this
      rw [h1] at this; cases this
    exact ⟨hr, hend _ a w hI fun i hi => hall i (by omega)⟩
  | succ fuel ih =>
    intro listed a w hsz hcnt hI
    refine ⟨fun hr => hend _ a w hI fun i hi => hdone listed hsz hr i hi, fun i hi => ?_⟩
    have hi' := hi
    rw [mem_ready] at hi
    obtain ⟨h1, o, ho, hdep⟩ := hi
    have hlt : i < ops.size := (Array.getElem?_eq_some_iff.1 ho).1
    have hlt' : i < listed.size := by omega
    have hf : listed[i] = false := by simpa [hlt'] using h1
    have hD : ∀ j, (listed.setIfInBounds i true).getD j false = updD (fun j => listed.getD j false) i j := by
      intro j
      by_cases e : j = i
      · subst e; rw [updD_same]; simp [hlt']
      · rw [updD_ne e, getD_set_ne false (Ne.symm e)]
    refine wpOp_mono (fun a' w' h => ih (listed.setIfInBounds i true) a' w' (by simpa using hsz) ?_ ?_) (hstep _ a w i o hI ho (by simpa [hlt'] using hf) hdep)
    · have hset : (listed.setIfInBounds i true).toList = listed.toList.take i ++ true :: listed.toList.drop (i + 1) := by
        rw [Array.toList_setIfInBounds, List.set_eq_take_append_cons_drop]
        simp [hlt']
      have hold : listed.toList = listed.toList.take i ++ false :: listed.toList.drop (i + 1) := by
        have q : listed.toList[i]'(by simpa using hlt') = false := by simpa using hf
        have q2 := (List.take_append_drop i listed.toList).symm
        rw [List.drop_eq_getElem_cons (by simpa using hlt'), q] at q2
        exact q2
      rw [hset]
      rw [hold] at hcnt
      simp only [List.filter_append, List.length_append, List.filter_cons] at hcnt ⊢
      simp at hcnt ⊢
      omega
    · rw [show (fun j => (listed.setIfInBounds i true).getD j false) = updD (fun j => listed.getD j false) i from funext hD]
      exact h
def distB : List Oper → Bool
  | [] => true
  | o :: r => (match o.dst with
    | none => true
    | some d => r.all fun o' => match o'.dst with
      | some d' => !Nat.beq d d'
      | none => true) && distB r
theorem distB_spec : ∀ {ls : List Oper}, distB ls = true → ∀ (i j : Nat) (o o' : Oper) (d : Nat), i < j → ls[i]? = some o → ls[j]? = some o' → o.dst = some d → o'.dst ≠ some d
  | [], _, i, j, o, o', d, _, h, _, _ => by simp at h
  | x :: r, hb, 0, j + 1, o, o', d, _, h, h', hd => by
    simp at h; subst h
    simp only [distB, hd, Bool.and_eq_true] at hb
    have hm : o' ∈ r := List.mem_of_getElem? (by simpa using h')
    have := List.all_eq_true.1 hb.1 o' hm
    intro e
    rw [e] at this
    simp only [] at this
    rw [show Nat.beq d d = true from Nat.beq_refl d] at this
    cases this
  | x :: r, hb, i + 1, j + 1, o, o', d, hij, h, h', hd => by
    simp only [distB, Bool.and_eq_true] at hb
    exact distB_spec hb.2 i j o o' d (by omega) (by simpa using h) (by simpa using h') hd
  | x :: r, hb, _, 0, o, o', d, hij, _, _, _ => by omega
def freeB (ops : List Oper) (l0 : List (Nat × Value)) : Bool := l0.all fun p => ops.all fun o => match o.dst with
  | some d => !Nat.beq d p.1
  | none => true
def depEnv (ops : Array Oper) (vs : List Value) (o : Oper) : List (Nat × Value) :=
  o.after.toList.filterMap fun e => match Region.binds .any e with
    | true => ((ops[e.on]?).bind (·.dst)).map fun d => (d, (vs[e.on]?).getD undef)
    | false => none
theorem look_append {l l' : List (Nat × Value)} {t : Nat} {v : Value} (h : look (l ++ l') t = some v) : (t, v) ∈ l ∨ look l' t = some v := by
  induction l with
  | nil => exact .inr h
  | cons p r ih =>
    obtain ⟨s, u⟩ := p
    have h' : look ((s, u) :: (r ++ l')) t = some v := h
    by_cases e : s = t
    · subst e; rw [look_cons_eq] at h'; cases h'; exact .inl (by simp)
    · rw [look_cons_ne e] at h'
      rcases ih h' with q | q
      · exact .inl (by simp [q])
      · exact .inr q
theorem look_mem {l : List (Nat × Value)} {t : Nat} {v : Value} (h : look l t = some v) : (t, v) ∈ l := by
  have : look (l ++ []) t = some v := by simpa using h
  rcases look_append this with q | q
  · exact q
  · cases q
def Clo (ops : Array Oper) (D : Nat → Bool) : Prop := ∀ (j : Nat) (o : Oper), ops[j]? = some o → D j = true → ∀ e ∈ o.after, Region.binds .any e = true → D e.on = true
def OpOk {γ : Type} (P : Program) (ops : Array Oper) (l0 : List (Nat × Value)) (vs : γ → List Value) (WI : γ → (Nat → Bool) → World → Prop) (i : Nat) (o : Oper) : Prop :=
  ∀ g D w, D i = false → (∀ e ∈ o.after, Region.binds .any e = true → D e.on = true) → Clo ops D → WI g D w →
    (wants ops (depEnv ops (vs g) o ++ l0) o = some true ∧ known (depEnv ops (vs g) o ++ l0) o = true ∧
      ((∃ g' w', (∀ j, D j = true → (vs g')[j]? = (vs g)[j]?) ∧ (execOp (evD (depEnv ops (vs g) o ++ l0)) o).run P w = .ok (.value (((vs g')[i]?).getD undef)) w' ∧ WI g' (updD D i) w') ∨
       (∃ w', (execOp (evD (depEnv ops (vs g) o ++ l0)) o).run P w = .ok .skip w' ∧ o.dst = none ∧ WI g (updD D i) w') ∨
       (∃ f args, (execOp (evD (depEnv ops (vs g) o ++ l0)) o).run P w = .ok (.enter f args) w ∧ Calls P f args w fun e w' => ∃ g', (∀ j, D j = true → (vs g')[j]? = (vs g)[j]?) ∧ e = .returned (((vs g')[i]?).getD undef) ∧ WI g' (updD D i) w'))) ∨
    (wants ops (depEnv ops (vs g) o ++ l0) o = some false ∧ ((vs g)[i]?).getD undef = undef ∧ WI g (updD D i) w)
inductive AllOk {γ : Type} (P : Program) (ops : Array Oper) (l0 : List (Nat × Value)) (vs : γ → List Value) (WI : γ → (Nat → Bool) → World → Prop) : Nat → List Oper → Prop
  | nil (k : Nat) : AllOk P ops l0 vs WI k []
  | cons {k : Nat} {o : Oper} {r : List Oper} (h : OpOk P ops l0 vs WI k o) (t : AllOk P ops l0 vs WI (k + 1) r) : AllOk P ops l0 vs WI k (o :: r)
theorem AllOk.get {γ : Type} {vs : γ → List Value} {WI : γ → (Nat → Bool) → World → Prop} : ∀ {ls : List Oper} {k i : Nat} {o : Oper}, AllOk P ops l0 vs WI k ls → ls[i]? = some o → OpOk P ops l0 vs WI (k + i) o
  | [], _, i, _, _, h => by simp at h
  | x :: r, k, 0, o, h, hi => by cases h; simp at hi; subst hi; simpa
  | x :: r, k, i + 1, o, h, hi => by
    cases h with
    | cons h1 h2 =>
      have := AllOk.get h2 (i := i) (by simpa using hi)
      rw [show k + (i + 1) = k + 1 + i by omega]; exact this
def allEnv (ls : List Oper) (vs : List Value) : List (Nat × Value) := (ls.zip vs).filterMap fun p => p.1.dst.map fun d => (d, p.2)
theorem WC.confG {γ : Type} {id : Nat} {ls : List Oper} (l0 : List (Nat × Value)) (vs : γ → List Value) (WI : γ → (Nat → Bool) → World → Prop) (g0 : γ) (hm : P.follows .mixedOrders = true)
    (hsub : Sub l0 l) (hb : backB ls = true) (hd : distB ls = true) (hf : freeB ls l0 = true) (hlen : ∀ g, (vs g).length = ls.length) (hn : (ls.all fun o => match o.dst with | some d => Nat.blt d n | none => true) = true)
    (h0 : WI g0 (fun _ => false) w.drew) (hops : AllOk P ls.toArray l0 vs WI 0 ls)
    (hend : ∀ g D w2, (∀ i, Nat.blt i ls.length = true → D i = true) → WI g D w2 → WQ Q .normal n (allEnv ls (vs g) ++ l0) w2) : WC P (.region id ls.toArray true) Q n l w := by
  intro a ha
  refine wp_region_any hm ?_
  have hdst : ∀ (i j : Nat) (o o' : Oper) (d : Nat), ls[i]? = some o → ls[j]? = some o' → o.dst = some d → o'.dst = some d → i = j := fun i j o o' d h1 h2 h3 h4 => by
    rcases Nat.lt_trichotomy i j with q | q | q
    · exact absurd h4 (distB_spec hd i j o o' d q h1 h2 h3)
    · exact q
    · exact absurd h3 (distB_spec hd j i o' o d q h2 h1 h4)
  have hfree : ∀ (i : Nat) (o : Oper) (d : Nat) (t : Nat) (v : Value), ls[i]? = some o → o.dst = some d → look l0 t = some v → d ≠ t := fun i o d t v h1 h2 h3 e => by
    have q := List.all_eq_true.1 (List.all_eq_true.1 hf (t, v) (look_mem h3)) o (List.mem_of_getElem? h1)
    rw [h2] at q
    simp only [] at q
    subst e
    rw [show Nat.beq d d = true from Nat.beq_refl d] at q
    cases q
  have hnn : ∀ (i : Nat) (o : Oper) (d : Nat), ls[i]? = some o → o.dst = some d → d < n := fun i o d h1 h2 => by
    have q := List.all_eq_true.1 hn o (List.mem_of_getElem? h1)
    rw [h2] at q
    exact Nat.le_of_ble_eq_true q
  let I : (Nat → Bool) → Act → World → Prop := fun D a w => ∃ g, a.tmps.size = n ∧ a.defers = [] ∧
    (∀ (j : Nat) (o : Oper) (d : Nat), ls[j]? = some o → D j = true → o.dst = some d → a.tmps[d]? = some (((vs g)[j]?).getD undef)) ∧ (∀ t v, look l0 t = some v → a.tmps[t]? = some v) ∧ Clo ls.toArray D ∧ WI g D w
  refine any_inv (ops := ls.toArray) I ?_ ?_ ?_ _ _ a _ (by simp) (by
    refine Nat.le_trans (List.length_filter_le _ _) ?_
    simp) ?_
  · intro i o ho e he hbe
    have hm' : (o, i) ∈ ls.zipIdx := by
      rw [List.mem_zipIdx_iff_getElem?]; simpa using ho
    have q := List.all_eq_true.1 (List.all_eq_true.1 hb (o, i) hm') e (by simpa using he)
    rw [hbe] at q
    simpa using q
  · rintro D a w i o ⟨g, i1, i2, i3, i4, i6, i5⟩ ho hDi hdep
    have ho' : ls[i]? = some o := by simpa using ho
    have hfr : Fr n (depEnv ls.toArray (vs g) o ++ l0) a := by
      refine ⟨i1, i2, fun t v ht => ?_⟩
      rcases look_append ht with q | q
      · obtain ⟨e, he, heq⟩ := List.mem_filterMap.1 q
        cases hbe : Region.binds .any e with
        | false => rw [hbe] at heq; cases heq
        | true =>
          rw [hbe] at heq
          simp only [] at heq
          cases hoe : ls.toArray[e.on]? with
          | none => rw [hoe] at heq; cases heq
          | some oe =>
            rw [hoe] at heq
            simp only [Option.bind_some] at heq
            cases hde : oe.dst with
            | none => rw [hde] at heq; cases heq
            | some d =>
              rw [hde] at heq
              simp only [Option.map_some, Option.some.injEq, Prod.mk.injEq] at heq
              obtain ⟨rfl, rfl⟩ := heq
              exact i3 e.on oe d (by simpa using hoe) (hdep e (by simpa using he) hbe) hde
      · exact i4 t v q
    have hclo : Clo ls.toArray (updD D i) := fun j oj hj hDj e he hbe => by
      by_cases q : j = i
      · subst q
        rw [ho] at hj; cases hj
        by_cases q2 : e.on = j
        · rw [q2]; exact updD_same D j
        · rw [updD_ne q2]; exact hdep e he hbe
      · rw [updD_ne q] at hDj
        by_cases q2 : e.on = i
        · rw [q2]; exact updD_same D i
        · rw [updD_ne q2]; exact i6 j oj hj hDj e he hbe
    have hnext : ∀ (g' : γ) (v : Value) (w' : World), (∀ j, D j = true → (vs g')[j]? = (vs g)[j]?) → (∀ d, o.dst = some d → v = ((vs g')[i]?).getD undef) → WI g' (updD D i) w' → I (updD D i) (a.put o.dst v) w' := fun g' v w' hg hv hW => by
      refine ⟨g', ?_, ?_, ?_, ?_, hclo, hW⟩
      · cases o.dst <;> simp [Act.put, i1]
      · cases o.dst <;> simp [Act.put, i2]
      · intro j oj d hj hDj hdj
        by_cases e : j = i
        · subst e
          rw [ho'] at hj; cases hj
          rw [hdj, ← hv d hdj]
          have := hnn _ _ _ ho' hdj
          simp [Act.put, i1, this]
        · rw [updD_ne e] at hDj
          have h1 := i3 j oj d hj hDj hdj
          rw [← hg j hDj] at h1
          cases hdo : o.dst with
          | none => simpa [Act.put] using h1
          | some d' =>
            have hne : d' ≠ d := fun q => e (hdst j i oj o d hj ho' hdj (by rw [hdo, q]))
            simp [Act.put, Array.getElem?_setIfInBounds_ne hne, h1]
      · intro t u hu
        cases hdo : o.dst with
        | none => simpa [Act.put] using i4 t u hu
        | some d' =>
          have hne := hfree i o d' t u ho' hdo hu
          simp [Act.put, Array.getElem?_setIfInBounds_ne hne, i4 t u hu]
    have hok := AllOk.get hops ho'
    rw [Nat.zero_add] at hok
    unfold wpOp
    simp only [ho]
    rcases hok g D w hDi hdep i6 i5 with ⟨h1, h2, h3⟩ | ⟨h1, h2, h3⟩
    · rw [if_pos (wants_spec hfr h1)]
      refine .inl ?_
      unfold Oper.wp
      rw [exec_known hfr h2]
      rcases h3 with ⟨g', w', hg, hr, hW⟩ | ⟨w', hr, hdn, hW⟩ | ⟨f, args, hr, hc⟩
      · rw [hr, Oper.upon_value]
        exact hnext g' _ _ hg (fun _ _ => rfl) hW
      · rw [hr, Oper.upon_skip]
        exact hnext g _ _ (fun _ _ => rfl) (fun d hd' => by rw [hdn] at hd'; cases hd') hW
      · rw [hr, Oper.upon_enter]
        refine hc.mono ?_
        rintro e w' ⟨g', hg, rfl, hW⟩
        exact hnext g' _ _ hg (fun _ _ => rfl) hW
    · rw [if_neg (by rw [wants_spec hfr h1]; exact Bool.false_ne_true)]
      exact hnext g _ _ (fun _ _ => rfl) (fun _ _ => h2.symm) h3
  · rintro D a w ⟨g, i1, i2, i3, i4, i6, i5⟩ hall
    refine hend g D w (fun i hi => hall i (by simpa using hi)) i5 a ⟨i1, i2, fun t v ht => ?_⟩
    rcases look_append ht with q | q
    · obtain ⟨⟨o, u⟩, hp, heq⟩ := List.mem_filterMap.1 q
      obtain ⟨j, hj⟩ := List.mem_iff_getElem?.1 hp
      rw [List.getElem?_zip_eq_some] at hj
      cases hdo : o.dst with
      | none => simp [hdo] at heq
      | some d =>
        simp [hdo] at heq
        obtain ⟨rfl, rfl⟩ := heq
        have := i3 j o d hj.1 (hall j (by have := (List.getElem?_eq_some_iff.1 hj.1).1; simpa using this)) hdo
        rw [hj.2] at this
        simpa using this
    · exact i4 t v q
  · have hno : ∀ j, (Array.replicate ls.toArray.size false).getD j false = true → False := fun j hDj' => by
      by_cases hj : j < ls.length
      · simp [hj] at hDj'
      · simp [hj] at hDj'
    refine ⟨g0, ha.sz, ha.df, fun j o d _ hDj _ => (hno j hDj).elim, fun t v ht => ha.kn t v (hsub.look ht), fun j o _ hDj => (hno j hDj).elim, ?_⟩
    · have : (fun j => (Array.replicate ls.toArray.size false).getD j false) = fun _ => false := by
        funext j
        by_cases hj : j < ls.length <;> simp [hj]
      rw [this]
      exact h0
end
theorem HP.perm {S : Nat → Prop} {w0 w : World} {H H' : List Ent} (h : HP S w0 w H) (hp : H.Perm H') : HP S w0 w H' :=
  ⟨h.os, h.tape, h.output, h.size, h.keep, fun e he => h.hold e (hp.mem_iff.2 he), fun e he => h.fresh e (hp.mem_iff.2 he), h.apart.perm hp (fun hq => hq.symm)⟩
end Fw
end Go.Proofs.Ytmjnakhpekbenaa
namespace Go.Proofs.Ytmjnakhpekbenaa
open Go.RowKit
namespace Fw
theorem cfv {A B C E : Prop} {γ : Type} {P1 P2 P3 : γ → World → Prop} (g : γ) (w : World) (h2 : P2 g w) (h3 : P3 g w) (h1 : P1 g w := by exact fun _ _ => rfl) (hA : A := by exact rfl) (hB : B := by exact rfl) : (A ∧ B ∧ ((∃ g' w', P1 g' w' ∧ P2 g' w' ∧ P3 g' w') ∨ C)) ∨ E := .inl ⟨hA, hB, .inl ⟨g, w, h1, h2, h3⟩⟩
end Fw
end Go.Proofs.Ytmjnakhpekbenaa
namespace Go.Proofs.Ytmjnakhpekbenaa
set_option maxRecDepth 20000
set_option maxHeartbeats 4000000
open Go.RowKit Fw
namespace Ec
def InC (w : World) (p : Option Addr) (n : Nat) (c A B : Nat → Int) : Prop :=
  0 < n → ∃ bb oo, p = some ⟨bb, oo, none⟩ ∧ ∀ i, i < n → w.rangeAt bb (oo + i * 3) [.int .i64 (c i), .int .i64 (A i), .int .i64 (B i)]
theorem InC.below {w w' : World} {p : Option Addr} {n : Nat} {c A B : Nat → Int} (h : InC w p n c A B) (hb : Below w.heap.size w w') : InC w' p n c A B := fun h0 => by
  obtain ⟨bb, oo, hp, hr⟩ := h h0
  exact ⟨bb, oo, hp, fun i hi j v hv => by rw [hb.cell (World.block_lt_of_cell? w _ (hr i hi j v hv))]; exact hr i hi j v hv⟩
theorem own_form {w : World} {e k : Nat} {v : Value} {xs : List Value} (h : Ent.holds w (.own v k xs e 1)) : ∃ pv cp, v = .slice pv k cp ∧ cp ≤ 9223372036854775807 ∧ k ≤ cp ∧ (0 < k → ∃ g, pv = some ⟨g, 0, none⟩) := by
  have h2 : w.ownsRow 0 e 1 v k xs := h
  obtain ⟨hl, ⟨h0, h1⟩ | ⟨g, cap, cur, hv, hb, hg, hc, hm, hs, hx⟩⟩ := h2
  · subst h1; exact ⟨none, 0, h0, by omega, by omega, fun q => absurd q (by omega)⟩
  · exact ⟨some ⟨g, 0, none⟩, cap, hv, by unfold maxLen at hm; omega, hc, fun _ => ⟨g, rfl⟩⟩
end Ec
namespace Fw
open Ec
theorem HP.repl {S : Nat → Prop} {w0 w : World} {H : List Ent} (h : HP S w0 w H) (i : Nat) {e e' : Ent} (hi : H[i]? = some e) (hold : e'.holds w) (hb : e'.blk = e.blk) : HP S w0 w (H.set i e') :=
  h.change i hi rfl rfl rfl (Nat.le_refl _) (fun _ _ _ => rfl) hold (fun b q => .inl (by rw [← hb]; exact q))
end Fw
namespace Ec
theorem own_pop {w : World} {g k cap : Nat} {l : List Nat} (h : Ent.holds w (.own (.slice (some ⟨g, 0, none⟩) l.length cap) l.length (lI l) 3 1)) (hk : k = l.dropLast.length) : Ent.holds w (.own (.slice (some ⟨g, 0, none⟩) k cap) k (lI l.dropLast) 3 1) := by
  subst hk
  have h2 : w.ownsRow 0 3 1 (.slice (some ⟨g, 0, none⟩) l.length cap) l.length (lI l) := h
  obtain ⟨hl, ⟨h0, h1⟩ | ⟨g', cap', cur, hv, hb, hg, hc, hm, hs, hx⟩⟩ := h2
  · cases h0
  · cases hv
    refine ⟨by simp [lI], .inr ⟨g, cap, cur, rfl, hb, hg, by simp; omega, hm, hs, ?_⟩⟩
    have : (lI l).take (l.length - 1) = lI l.dropLast := by unfold lI; rw [List.dropLast_eq_take, List.map_take]
    rw [← this, ← hx, List.take_take, List.length_dropLast]
    congr 1; omega
theorem last_cell {l : List Nat} {x : Nat} (h : l.getLast? = some x) : (lI l)[l.length - 1]? = some (.int .i64 (x : Int)) := by
  unfold lI
  rw [List.getElem?_map, ← List.getLast?_eq_getElem?, h]; rfl
end Ec
namespace Fw
open Ec
theorem HP.addOwn {S : Nat → Prop} {w0 w : World} {H : List Ent} (h : HP S w0 w H) {v : Value} {k : Nat} {xs : List Value} {e s : Nat} (hb : v.ownBlock = none) (hown : w.ownsRow 0 e s v k xs) : HP S w0 w (H ++ [.own v k xs e s]) := by
  refine ⟨h.os, h.tape, h.output, h.size, h.keep, ?_, ?_, ?_⟩
  · intro x hx
    rcases List.mem_append.1 hx with hx | hx
    · exact h.hold x hx
    · simp at hx; subst hx; exact hown
  · intro x hx b hb'
    rcases List.mem_append.1 hx with hx | hx
    · exact h.fresh x hx b hb'
    · simp at hx; subst hx; simp only [Ent.blk, hb] at hb'; cases hb'
  · refine List.pairwise_append.2 ⟨h.apart, by simp, fun x hx y hy b hb1 hb2 => ?_⟩
    simp at hy; subst hy; simp only [Ent.blk, hb] at hb2; cases hb2
end Fw
namespace Ec
theorem last_of {l : List Nat} (h : 0 < l.length) : ∃ x, l.getLast? = some x := by
  cases hq : l.getLast? with
  | some x => exact ⟨x, rfl⟩
  | none => rw [List.getLast?_eq_none_iff] at hq; rw [hq] at h; cases h
theorem lay_o_top {k x : Nat} {s : Sh} (h : s.l.getLast? = some x) : (lay k s).o k = (x : Int) := by unfold lay upI top; simp [h]
theorem lay_o_some {k x : Nat} {s : Sh} (h : s.l.getLast? = some x) : upI (upI s.o k (-1)) k (x : Int) = (lay k s).o := by
  funext j; unfold lay upI top; simp only [h]; split <;> rfl
theorem lay_o_none {k : Nat} {s : Sh} (h : s.l.length = 0) : upI s.o k (-1) = (lay k s).o := by
  have : s.l = [] := List.length_eq_zero_iff.1 h
  funext j; unfold lay upI top; rw [this]; rfl
theorem stp_none_nil {c : Nat → Int} {k : Nat} {s : Sh} (hA : opn (c k) = false) (h : c k = 34 ∨ c k = 35) (hl : s.l.length = 0) : stp c k s = none := by
  have h0 : s.l = [] := List.length_eq_zero_iff.1 hl
  unfold stp
  simp only []
  rw [if_neg (by rw [hA]; exact Bool.false_ne_true), if_pos (by rcases h with h | h <;> rw [h] <;> rfl), h0]
  rfl
theorem stp_open {c : Nat → Int} {k : Nat} {s : Sh} (hA : opn (c k) = true) : stp c k s = some { lay k s with l := s.l ++ [k], m := max s.m (s.l.length + 1) } := by
  unfold stp; simp only []; rw [if_pos hA]
theorem stp_other {c : Nat → Int} {k : Nat} {s : Sh} (hA : opn (c k) = false) (h4 : ¬ c k = 34) (h5 : ¬ c k = 35) : stp c k s = some (lay k s) := by
  unfold stp; simp only []; rw [if_neg (by rw [hA]; exact Bool.false_ne_true), show (c k == 34) = false by simpa using h4, show (c k == 35) = false by simpa using h5]; rfl
theorem two_no {c : Nat → Int} {x : Nat} (h1 : ¬ c x = 29) (h2 : ¬ c x = 33) : two c x = false := by simp [two]; omega
theorem two_yes {c : Nat → Int} {x : Nat} (h1 : c x = 29 ∨ c x = 33) : two c x = true := by rcases h1 with h | h <;> simp [two, h]
theorem okS_yes {c : Nat → Int} {n : Nat} {s : Sh} (hs : shp c n = some s) (h1 : s.l.length = 0) (h2 : s.m ≤ 6) : okS c n = true := by
  unfold okS; rw [hs]; show (s.l.isEmpty && decide (s.m ≤ 6)) = true; rw [List.length_eq_zero_iff.1 h1]; simp [h2]
theorem okS_no {c : Nat → Int} {n : Nat} {s : Sh} (hs : shp c n = some s) (h : ¬ (s.l.length = 0 ∧ s.m ≤ 6)) : okS c n = false := by
  unfold okS; rw [hs]
  show (s.l.isEmpty && decide (s.m ≤ 6)) = false
  cases hl : s.l with
  | nil => simp [hl] at h ⊢; omega
  | cons x r => rfl
theorem makeI2 (n : Nat) (hn : n ≤ 400) (W : World) : (Instr.makeSlice 33 (.int .i64 (n : Int)) (.int .i64 (n : Int))).run Try.prog W = .ok (.slice (some ⟨W.heap.size, 0, none⟩) n n) (W.alloc (.cells (irow n (fun _ => 0)) 3)) := by
  have h := makeI n hn W
  unfold rowI at h
  rw [irow_made] at h
  exact h
theorem permIns (A B : List Ent) (e : Ent) : ((A ++ B) ++ [e]).Perm (A ++ ([e] ++ B)) := by
  rw [List.append_assoc]; exact List.Perm.append_left A (List.perm_append_comm)
def ResH (w : World) (c : Nat → Int) (n : Nat) (e : Ending) (w' : World) : Prop :=
  ∃ (g0 g1 g2 g3 : Nat) (m : Int) (s : Sh), e = .returned (.agg #[.slice (some ⟨g0, 0, none⟩) n n, .slice (some ⟨g1, 0, none⟩) n n, .slice (some ⟨g2, 0, none⟩) n n, .slice (some ⟨g3, 0, none⟩) n n, .int .i64 m, .bool (okS c n)]) ∧
    HP Tr w w' [.cel g0 (irow n s.o) 3, .cel g1 (irow n s.e) 3, .cel g2 (irow n s.d) 3, .cel g3 (irow n s.t) 3] ∧ (okS c n = true → shp c n = some s ∧ m = (s.m : Int))
theorem sz3 : (Try.prog.info? 3).map (·.size) = some 1 := by kernel_rfl
theorem sz4 : (Try.prog.info? 4).map (·.size) = some 1 := by kernel_rfl
theorem sz75 : (Try.prog.info? 75).map (·.size) = some 3 := by kernel_rfl
theorem sz116 : (Try.prog.info? 116).map (·.size) = some 6 := by kernel_rfl
theorem shapeH_any (p : Option Addr) (n cap : Nat) (c A B : Nat → Int) (w : World) (hIn : InC w p n c A B) (hn : n ≤ 400) :
  Calls Try.prog 109 #[.slice p n cap] w (ResH w c n) := by
 obtain ⟨i0, hi0, hz0, hz1, hz2⟩ := info_parts infoI
 refine calls_of Try.func109 rfl (m := 170) rfl [(0, .slice p n cap)] (Fr_enter [.slice p n cap] 170 (Nat.le_of_ble_eq_true rfl)) ?_
 have hH1 : HP Tr w w [] := HP.refl w
 refine WC.seq fun K2 hK2 => WC.region ?_
 refine WL.alloc (c := #[.slice none 0 0, .slice none 0 0, .slice none 0 0, .slice none 0 0, vI 0, .bool false]) (T := 116) hH1 2 rfl (by decide) rfl rfl (fun b1 => vP b1 0) (by kernel_rfl) (fun b1 w4 hw4 => ?_)
 have hH5 : HP Tr w w4 [.cel b1 #[.slice none 0 0, .slice none 0 0, .slice none 0 0, .slice none 0 0, vI 0, .bool false] 116] := hw4.2
 have nb1 := hw4.1
 clear hw4
 refine WL.k hK2 (WC.seq fun K6 hK6 => WC.region (WL.z (.slice p n cap) 10 (WL.z (vI (n : Int)) 11 (WL.z (vI (n : Int)) 3 (WL.k hK6 (WC.seq fun K7 hK7 => ?_))))))
 refine WC.confG (γ := Nat → Nat) [(0, .slice p n cap), (2, vP b1 0), (3, vI (n : Int))] (fun g => [.int .i64 (n : Int), .slice (some ⟨g 1, 0, none⟩) n n, .int .i64 (n : Int), .slice (some ⟨g 3, 0, none⟩) n n, .int .i64 (n : Int), .slice (some ⟨g 5, 0, none⟩) n n, .int .i64 (n : Int), .slice (some ⟨g 7, 0, none⟩) n n, .agg #[.slice (some ⟨g 1, 0, none⟩) n n, .slice (some ⟨g 3, 0, none⟩) n n, .slice (some ⟨g 5, 0, none⟩) n n, .slice (some ⟨g 7, 0, none⟩) n n, .int .i64 0, .bool true], .pointer (some ⟨g 9, 0, none⟩), undef]) (fun g D w2 => HP Tr w w2 ([.cel b1 #[.slice none 0 0, .slice none 0 0, .slice none 0 0, .slice none 0 0, .int .i64 0, .bool false] 116] ++ ((bif D 1 then [Ent.cel (g 1) (irow n (fun _ => 0)) 3] else []) ++ ((bif D 3 then [Ent.cel (g 3) (irow n (fun _ => 0)) 3] else []) ++ ((bif D 5 then [Ent.cel (g 5) (irow n (fun _ => 0)) 3] else []) ++ ((bif D 7 then [Ent.cel (g 7) (irow n (fun _ => 0)) 3] else []) ++ (bif D 9 then [Ent.cel (g 9) (bif D 10 then #[.slice (some ⟨g 1, 0, none⟩) n n, .slice (some ⟨g 3, 0, none⟩) n n, .slice (some ⟨g 5, 0, none⟩) n n, .slice (some ⟨g 7, 0, none⟩) n n, .int .i64 0, .bool true] else #[.slice none 0 0, .slice none 0 0, .slice none 0 0, .slice none 0 0, .int .i64 0, .bool false]) 116] else []))))))) (fun _ => 0) (by kernel_rfl) ⟨rfl, rfl, rfl, trivial⟩ (by kernel_rfl) (by kernel_rfl) (by kernel_rfl) (fun _ => rfl) (by kernel_rfl) (HP.drew hH5) ?_ ?_
 ·
  refine AllOk.cons ?o0 (AllOk.cons ?o1 (AllOk.cons ?o2 (AllOk.cons ?o3 (AllOk.cons ?o4 (AllOk.cons ?o5 (AllOk.cons ?o6 (AllOk.cons ?o7 (AllOk.cons ?o8 (AllOk.cons ?o9 (AllOk.cons ?o10 (AllOk.nil _)))))))))))
  case o0 =>
   intro g D w2 hDi hdep hclo hW
   exact .inl ⟨rfl, rfl, .inl ⟨g, w2, fun _ _ => rfl, by kernel_rfl, hW⟩⟩
  case o1 =>
   intro g D w2 hDi hdep hclo hW
   have h8 : D 8 = false := by
    cases h : D 8 with
    | false => rfl
    | true => exact absurd (hclo 8 _ rfl h ⟨1, .data⟩ (by simp) rfl) (by rw [hDi]; exact Bool.false_ne_true)
   have h10 : D 10 = false := by
    cases h : D 10 with
    | false => rfl
    | true => exact absurd (hclo 10 _ rfl h ⟨1, .phase⟩ (by simp) rfl) (by rw [hDi]; exact Bool.false_ne_true)
   refine .inl ⟨rfl, rfl, .inl ⟨fun j => if j = 1 then w2.heap.size else g j, _, fun j hj => ?_, x_makeR rfl rfl rfl (makeI2 n hn w2), ?_⟩⟩
   ·
    match j, hj with
    | 0, _ => rfl
    | 1, hj => rw [hDi] at hj; cases hj
    | 2, _ => rfl
    | 3, _ => rfl
    | 4, _ => rfl
    | 5, _ => rfl
    | 6, _ => rfl
    | 7, _ => rfl
    | 8, hj => rw [h8] at hj; cases hj
    | 9, _ => rfl
    | 10, hj => rw [h10] at hj; cases hj
    | j + 11, _ => rfl
   ·
    simp only [hDi, h10, cond_false] at hW
    have h4 := HP.alloc hW (irow n (fun _ => 0)) 3
    have h5 : HP Tr w (w2.alloc (.cells (irow n (fun _ => 0)) 3)) ([.cel b1 #[.slice none 0 0, .slice none 0 0, .slice none 0 0, .slice none 0 0, .int .i64 0, .bool false] 116] ++ ([Ent.cel w2.heap.size (irow n (fun _ => 0)) 3] ++ ((bif D 3 then [Ent.cel (g 3) (irow n (fun _ => 0)) 3] else []) ++ ((bif D 5 then [Ent.cel (g 5) (irow n (fun _ => 0)) 3] else []) ++ ((bif D 7 then [Ent.cel (g 7) (irow n (fun _ => 0)) 3] else []) ++ (bif D 9 then [Ent.cel (g 9) #[.slice none 0 0, .slice none 0 0, .slice none 0 0, .slice none 0 0, .int .i64 0, .bool false] 116] else [])))))) := HP.perm h4 (by
     have q := permIns ([.cel b1 #[.slice none 0 0, .slice none 0 0, .slice none 0 0, .slice none 0 0, .int .i64 0, .bool false] 116]) ((bif D 3 then [Ent.cel (g 3) (irow n (fun _ => 0)) 3] else []) ++ (bif D 5 then [Ent.cel (g 5) (irow n (fun _ => 0)) 3] else []) ++ (bif D 7 then [Ent.cel (g 7) (irow n (fun _ => 0)) 3] else []) ++ (bif D 9 then [Ent.cel (g 9) #[.slice none 0 0, .slice none 0 0, .slice none 0 0, .slice none 0 0, .int .i64 0, .bool false] 116] else [])) (Ent.cel w2.heap.size (irow n (fun _ => 0)) 3)
     simpa only [List.append_assoc, List.nil_append, List.append_nil, List.singleton_append, List.cons_append] using q)
    show HP Tr w _ ([.cel b1 #[.slice none 0 0, .slice none 0 0, .slice none 0 0, .slice none 0 0, .int .i64 0, .bool false] 116] ++ ([Ent.cel w2.heap.size (irow n (fun _ => 0)) 3] ++ ((bif D 3 then [Ent.cel (g 3) (irow n (fun _ => 0)) 3] else []) ++ ((bif D 5 then [Ent.cel (g 5) (irow n (fun _ => 0)) 3] else []) ++ ((bif D 7 then [Ent.cel (g 7) (irow n (fun _ => 0)) 3] else []) ++ (bif D 9 then [Ent.cel (g 9) (bif D 10 then #[.slice (some ⟨w2.heap.size, 0, none⟩) n n, .slice (some ⟨g 3, 0, none⟩) n n, .slice (some ⟨g 5, 0, none⟩) n n, .slice (some ⟨g 7, 0, none⟩) n n, .int .i64 0, .bool true] else #[.slice none 0 0, .slice none 0 0, .slice none 0 0, .slice none 0 0, .int .i64 0, .bool false]) 116] else []))))))
    rw [h10]
    exact h5
  case o2 =>
   intro g D w2 hDi hdep hclo hW
   exact .inl ⟨rfl, rfl, .inl ⟨g, w2, fun _ _ => rfl, by kernel_rfl, hW⟩⟩
  case o3 =>
   intro g D w2 hDi hdep hclo hW
   have h8 : D 8 = false := by
    cases h : D 8 with
    | false => rfl
    | true => exact absurd (hclo 8 _ rfl h ⟨3, .data⟩ (by simp) rfl) (by rw [hDi]; exact Bool.false_ne_true)
   have h10 : D 10 = false := by
    cases h : D 10 with
    | false => rfl
    | true => exact absurd (hclo 10 _ rfl h ⟨3, .phase⟩ (by simp) rfl) (by rw [hDi]; exact Bool.false_ne_true)
   refine .inl ⟨rfl, rfl, .inl ⟨fun j => if j = 3 then w2.heap.size else g j, _, fun j hj => ?_, x_makeR rfl rfl rfl (makeI2 n hn w2), ?_⟩⟩
   ·
    match j, hj with
    | 0, _ => rfl
    | 1, _ => rfl
    | 2, _ => rfl
    | 3, hj => rw [hDi] at hj; cases hj
    | 4, _ => rfl
    | 5, _ => rfl
    | 6, _ => rfl
    | 7, _ => rfl
    | 8, hj => rw [h8] at hj; cases hj
    | 9, _ => rfl
    | 10, hj => rw [h10] at hj; cases hj
    | j + 11, _ => rfl
   ·
    simp only [hDi, h10, cond_false] at hW
    have h4 := HP.alloc hW (irow n (fun _ => 0)) 3
    have h5 : HP Tr w (w2.alloc (.cells (irow n (fun _ => 0)) 3)) ([.cel b1 #[.slice none 0 0, .slice none 0 0, .slice none 0 0, .slice none 0 0, .int .i64 0, .bool false] 116] ++ ((bif D 1 then [Ent.cel (g 1) (irow n (fun _ => 0)) 3] else []) ++ ([Ent.cel w2.heap.size (irow n (fun _ => 0)) 3] ++ ((bif D 5 then [Ent.cel (g 5) (irow n (fun _ => 0)) 3] else []) ++ ((bif D 7 then [Ent.cel (g 7) (irow n (fun _ => 0)) 3] else []) ++ (bif D 9 then [Ent.cel (g 9) #[.slice none 0 0, .slice none 0 0, .slice none 0 0, .slice none 0 0, .int .i64 0, .bool false] 116] else [])))))) := HP.perm h4 (by
     have q := permIns ([.cel b1 #[.slice none 0 0, .slice none 0 0, .slice none 0 0, .slice none 0 0, .int .i64 0, .bool false] 116] ++ (bif D 1 then [Ent.cel (g 1) (irow n (fun _ => 0)) 3] else [])) ((bif D 5 then [Ent.cel (g 5) (irow n (fun _ => 0)) 3] else []) ++ (bif D 7 then [Ent.cel (g 7) (irow n (fun _ => 0)) 3] else []) ++ (bif D 9 then [Ent.cel (g 9) #[.slice none 0 0, .slice none 0 0, .slice none 0 0, .slice none 0 0, .int .i64 0, .bool false] 116] else [])) (Ent.cel w2.heap.size (irow n (fun _ => 0)) 3)
     simpa only [List.append_assoc, List.nil_append, List.append_nil, List.singleton_append, List.cons_append] using q)
    show HP Tr w _ ([.cel b1 #[.slice none 0 0, .slice none 0 0, .slice none 0 0, .slice none 0 0, .int .i64 0, .bool false] 116] ++ ((bif D 1 then [Ent.cel (g 1) (irow n (fun _ => 0)) 3] else []) ++ ([Ent.cel w2.heap.size (irow n (fun _ => 0)) 3] ++ ((bif D 5 then [Ent.cel (g 5) (irow n (fun _ => 0)) 3] else []) ++ ((bif D 7 then [Ent.cel (g 7) (irow n (fun _ => 0)) 3] else []) ++ (bif D 9 then [Ent.cel (g 9) (bif D 10 then #[.slice (some ⟨g 1, 0, none⟩) n n, .slice (some ⟨w2.heap.size, 0, none⟩) n n, .slice (some ⟨g 5, 0, none⟩) n n, .slice (some ⟨g 7, 0, none⟩) n n, .int .i64 0, .bool true] else #[.slice none 0 0, .slice none 0 0, .slice none 0 0, .slice none 0 0, .int .i64 0, .bool false]) 116] else []))))))
    rw [h10]
    exact h5
  case o4 =>
   intro g D w2 hDi hdep hclo hW
   exact .inl ⟨rfl, rfl, .inl ⟨g, w2, fun _ _ => rfl, by kernel_rfl, hW⟩⟩
  case o5 =>
   intro g D w2 hDi hdep hclo hW
   have h8 : D 8 = false := by
    cases h : D 8 with
    | false => rfl
    | true => exact absurd (hclo 8 _ rfl h ⟨5, .data⟩ (by simp) rfl) (by rw [hDi]; exact Bool.false_ne_true)
   have h10 : D 10 = false := by
    cases h : D 10 with
    | false => rfl
    | true => exact absurd (hclo 10 _ rfl h ⟨5, .phase⟩ (by simp) rfl) (by rw [hDi]; exact Bool.false_ne_true)
   refine .inl ⟨rfl, rfl, .inl ⟨fun j => if j = 5 then w2.heap.size else g j, _, fun j hj => ?_, x_makeR rfl rfl rfl (makeI2 n hn w2), ?_⟩⟩
   ·
    match j, hj with
    | 0, _ => rfl
    | 1, _ => rfl
    | 2, _ => rfl
    | 3, _ => rfl
    | 4, _ => rfl
    | 5, hj => rw [hDi] at hj; cases hj
    | 6, _ => rfl
    | 7, _ => rfl
    | 8, hj => rw [h8] at hj; cases hj
    | 9, _ => rfl
    | 10, hj => rw [h10] at hj; cases hj
    | j + 11, _ => rfl
   ·
    simp only [hDi, h10, cond_false] at hW
    have h4 := HP.alloc hW (irow n (fun _ => 0)) 3
    have h5 : HP Tr w (w2.alloc (.cells (irow n (fun _ => 0)) 3)) ([.cel b1 #[.slice none 0 0, .slice none 0 0, .slice none 0 0, .slice none 0 0, .int .i64 0, .bool false] 116] ++ ((bif D 1 then [Ent.cel (g 1) (irow n (fun _ => 0)) 3] else []) ++ ((bif D 3 then [Ent.cel (g 3) (irow n (fun _ => 0)) 3] else []) ++ ([Ent.cel w2.heap.size (irow n (fun _ => 0)) 3] ++ ((bif D 7 then [Ent.cel (g 7) (irow n (fun _ => 0)) 3] else []) ++ (bif D 9 then [Ent.cel (g 9) #[.slice none 0 0, .slice none 0 0, .slice none 0 0, .slice none 0 0, .int .i64 0, .bool false] 116] else [])))))) := HP.perm h4 (by
     have q := permIns ([.cel b1 #[.slice none 0 0, .slice none 0 0, .slice none 0 0, .slice none 0 0, .int .i64 0, .bool false] 116] ++ (bif D 1 then [Ent.cel (g 1) (irow n (fun _ => 0)) 3] else []) ++ (bif D 3 then [Ent.cel (g 3) (irow n (fun _ => 0)) 3] else [])) ((bif D 7 then [Ent.cel (g 7) (irow n (fun _ => 0)) 3] else []) ++ (bif D 9 then [Ent.cel (g 9) #[.slice none 0 0, .slice none 0 0, .slice none 0 0, .slice none 0 0, .int .i64 0, .bool false] 116] else [])) (Ent.cel w2.heap.size (irow n (fun _ => 0)) 3)
     simpa only [List.append_assoc, List.nil_append, List.append_nil, List.singleton_append, List.cons_append] using q)
    show HP Tr w _ ([.cel b1 #[.slice none 0 0, .slice none 0 0, .slice none 0 0, .slice none 0 0, .int .i64 0, .bool false] 116] ++ ((bif D 1 then [Ent.cel (g 1) (irow n (fun _ => 0)) 3] else []) ++ ((bif D 3 then [Ent.cel (g 3) (irow n (fun _ => 0)) 3] else []) ++ ([Ent.cel w2.heap.size (irow n (fun _ => 0)) 3] ++ ((bif D 7 then [Ent.cel (g 7) (irow n (fun _ => 0)) 3] else []) ++ (bif D 9 then [Ent.cel (g 9) (bif D 10 then #[.slice (some ⟨g 1, 0, none⟩) n n, .slice (some ⟨g 3, 0, none⟩) n n, .slice (some ⟨w2.heap.size, 0, none⟩) n n, .slice (some ⟨g 7, 0, none⟩) n n, .int .i64 0, .bool true] else #[.slice none 0 0, .slice none 0 0, .slice none 0 0, .slice none 0 0, .int .i64 0, .bool false]) 116] else []))))))
    rw [h10]
    exact h5
  case o6 =>
   intro g D w2 hDi hdep hclo hW
   exact .inl ⟨rfl, rfl, .inl ⟨g, w2, fun _ _ => rfl, by kernel_rfl, hW⟩⟩
  case o7 =>
   intro g D w2 hDi hdep hclo hW
   have h8 : D 8 = false := by
    cases h : D 8 with
    | false => rfl
    | true => exact absurd (hclo 8 _ rfl h ⟨7, .data⟩ (by simp) rfl) (by rw [hDi]; exact Bool.false_ne_true)
   have h10 : D 10 = false := by
    cases h : D 10 with
    | false => rfl
    | true => exact absurd (hclo 10 _ rfl h ⟨7, .phase⟩ (by simp) rfl) (by rw [hDi]; exact Bool.false_ne_true)
   refine .inl ⟨rfl, rfl, .inl ⟨fun j => if j = 7 then w2.heap.size else g j, _, fun j hj => ?_, x_makeR rfl rfl rfl (makeI2 n hn w2), ?_⟩⟩
   ·
    match j, hj with
    | 0, _ => rfl
    | 1, _ => rfl
    | 2, _ => rfl
    | 3, _ => rfl
    | 4, _ => rfl
    | 5, _ => rfl
    | 6, _ => rfl
    | 7, hj => rw [hDi] at hj; cases hj
    | 8, hj => rw [h8] at hj; cases hj
    | 9, _ => rfl
    | 10, hj => rw [h10] at hj; cases hj
    | j + 11, _ => rfl
   ·
    simp only [hDi, h10, cond_false] at hW
    have h4 := HP.alloc hW (irow n (fun _ => 0)) 3
    have h5 : HP Tr w (w2.alloc (.cells (irow n (fun _ => 0)) 3)) ([.cel b1 #[.slice none 0 0, .slice none 0 0, .slice none 0 0, .slice none 0 0, .int .i64 0, .bool false] 116] ++ ((bif D 1 then [Ent.cel (g 1) (irow n (fun _ => 0)) 3] else []) ++ ((bif D 3 then [Ent.cel (g 3) (irow n (fun _ => 0)) 3] else []) ++ ((bif D 5 then [Ent.cel (g 5) (irow n (fun _ => 0)) 3] else []) ++ ([Ent.cel w2.heap.size (irow n (fun _ => 0)) 3] ++ (bif D 9 then [Ent.cel (g 9) #[.slice none 0 0, .slice none 0 0, .slice none 0 0, .slice none 0 0, .int .i64 0, .bool false] 116] else [])))))) := HP.perm h4 (by
     have q := permIns ([.cel b1 #[.slice none 0 0, .slice none 0 0, .slice none 0 0, .slice none 0 0, .int .i64 0, .bool false] 116] ++ (bif D 1 then [Ent.cel (g 1) (irow n (fun _ => 0)) 3] else []) ++ (bif D 3 then [Ent.cel (g 3) (irow n (fun _ => 0)) 3] else []) ++ (bif D 5 then [Ent.cel (g 5) (irow n (fun _ => 0)) 3] else [])) ((bif D 9 then [Ent.cel (g 9) #[.slice none 0 0, .slice none 0 0, .slice none 0 0, .slice none 0 0, .int .i64 0, .bool false] 116] else [])) (Ent.cel w2.heap.size (irow n (fun _ => 0)) 3)
     simpa only [List.append_assoc, List.nil_append, List.append_nil, List.singleton_append, List.cons_append] using q)
    show HP Tr w _ ([.cel b1 #[.slice none 0 0, .slice none 0 0, .slice none 0 0, .slice none 0 0, .int .i64 0, .bool false] 116] ++ ((bif D 1 then [Ent.cel (g 1) (irow n (fun _ => 0)) 3] else []) ++ ((bif D 3 then [Ent.cel (g 3) (irow n (fun _ => 0)) 3] else []) ++ ((bif D 5 then [Ent.cel (g 5) (irow n (fun _ => 0)) 3] else []) ++ ([Ent.cel w2.heap.size (irow n (fun _ => 0)) 3] ++ (bif D 9 then [Ent.cel (g 9) (bif D 10 then #[.slice (some ⟨g 1, 0, none⟩) n n, .slice (some ⟨g 3, 0, none⟩) n n, .slice (some ⟨g 5, 0, none⟩) n n, .slice (some ⟨w2.heap.size, 0, none⟩) n n, .int .i64 0, .bool true] else #[.slice none 0 0, .slice none 0 0, .slice none 0 0, .slice none 0 0, .int .i64 0, .bool false]) 116] else []))))))
    rw [h10]
    exact h5
  case o8 =>
   intro g D w2 hDi hdep hclo hW
   exact .inl ⟨rfl, rfl, .inl ⟨g, w2, fun _ _ => rfl, by kernel_rfl, hW⟩⟩
  case o9 =>
   intro g D w2 hDi hdep hclo hW
   have h10 : D 10 = false := by
    cases h : D 10 with
    | false => rfl
    | true => exact absurd (hclo 10 _ rfl h ⟨9, .data⟩ (by simp) rfl) (by rw [hDi]; exact Bool.false_ne_true)
   refine .inl ⟨rfl, rfl, .inl ⟨fun j => if j = 9 then w2.heap.size else g j, w2.alloc (.cells #[.slice none 0 0, .slice none 0 0, .slice none 0 0, .slice none 0 0, .int .i64 0, .bool false] 116), fun j hj => ?_, by kernel_rfl, ?_⟩⟩
   ·
    match j, hj with
    | 0, _ => rfl
    | 1, _ => rfl
    | 2, _ => rfl
    | 3, _ => rfl
    | 4, _ => rfl
    | 5, _ => rfl
    | 6, _ => rfl
    | 7, _ => rfl
    | 8, _ => rfl
    | 9, hj => rw [hDi] at hj; cases hj
    | 10, hj => rw [h10] at hj; cases hj
    | j + 11, _ => rfl
   ·
    simp only [hDi, h10, cond_false] at hW
    have h4 := HP.alloc hW #[.slice none 0 0, .slice none 0 0, .slice none 0 0, .slice none 0 0, .int .i64 0, .bool false] 116
    have h5 : HP Tr w (w2.alloc (.cells #[.slice none 0 0, .slice none 0 0, .slice none 0 0, .slice none 0 0, .int .i64 0, .bool false] 116)) ([.cel b1 #[.slice none 0 0, .slice none 0 0, .slice none 0 0, .slice none 0 0, .int .i64 0, .bool false] 116] ++ ((bif D 1 then [Ent.cel (g 1) (irow n (fun _ => 0)) 3] else []) ++ ((bif D 3 then [Ent.cel (g 3) (irow n (fun _ => 0)) 3] else []) ++ ((bif D 5 then [Ent.cel (g 5) (irow n (fun _ => 0)) 3] else []) ++ ((bif D 7 then [Ent.cel (g 7) (irow n (fun _ => 0)) 3] else []) ++ [Ent.cel w2.heap.size #[.slice none 0 0, .slice none 0 0, .slice none 0 0, .slice none 0 0, .int .i64 0, .bool false] 116]))))) := HP.perm h4 (by
     have q := permIns ([.cel b1 #[.slice none 0 0, .slice none 0 0, .slice none 0 0, .slice none 0 0, .int .i64 0, .bool false] 116] ++ (bif D 1 then [Ent.cel (g 1) (irow n (fun _ => 0)) 3] else []) ++ (bif D 3 then [Ent.cel (g 3) (irow n (fun _ => 0)) 3] else []) ++ (bif D 5 then [Ent.cel (g 5) (irow n (fun _ => 0)) 3] else []) ++ (bif D 7 then [Ent.cel (g 7) (irow n (fun _ => 0)) 3] else [])) ([]) (Ent.cel w2.heap.size #[.slice none 0 0, .slice none 0 0, .slice none 0 0, .slice none 0 0, .int .i64 0, .bool false] 116)
     simpa only [List.append_assoc, List.nil_append, List.append_nil, List.singleton_append, List.cons_append] using q)
    have e10 : (bif D 10 then #[.slice (some ⟨g 1, 0, none⟩) n n, .slice (some ⟨g 3, 0, none⟩) n n, .slice (some ⟨g 5, 0, none⟩) n n, .slice (some ⟨g 7, 0, none⟩) n n, .int .i64 0, .bool true] else #[.slice none 0 0, .slice none 0 0, .slice none 0 0, .slice none 0 0, .int .i64 0, .bool false] : Array Value) = #[.slice none 0 0, .slice none 0 0, .slice none 0 0, .slice none 0 0, .int .i64 0, .bool false] := by rw [h10]; rfl
    show HP Tr w _ ([.cel b1 #[.slice none 0 0, .slice none 0 0, .slice none 0 0, .slice none 0 0, .int .i64 0, .bool false] 116] ++ ((bif D 1 then [Ent.cel (g 1) (irow n (fun _ => 0)) 3] else []) ++ ((bif D 3 then [Ent.cel (g 3) (irow n (fun _ => 0)) 3] else []) ++ ((bif D 5 then [Ent.cel (g 5) (irow n (fun _ => 0)) 3] else []) ++ ((bif D 7 then [Ent.cel (g 7) (irow n (fun _ => 0)) 3] else []) ++ [Ent.cel w2.heap.size (bif D 10 then #[.slice (some ⟨g 1, 0, none⟩) n n, .slice (some ⟨g 3, 0, none⟩) n n, .slice (some ⟨g 5, 0, none⟩) n n, .slice (some ⟨g 7, 0, none⟩) n n, .int .i64 0, .bool true] else #[.slice none 0 0, .slice none 0 0, .slice none 0 0, .slice none 0 0, .int .i64 0, .bool false]) 116])))))
    rw [e10]
    exact h5
  case o10 =>
   intro g D w2 hDi hdep hclo hW
   have d1 : D 1 = true := hdep ⟨1, .phase⟩ (by simp) rfl
   have d3 : D 3 = true := hdep ⟨3, .phase⟩ (by simp) rfl
   have d5 : D 5 = true := hdep ⟨5, .phase⟩ (by simp) rfl
   have d7 : D 7 = true := hdep ⟨7, .phase⟩ (by simp) rfl
   have d9 : D 9 = true := hdep ⟨9, .phase⟩ (by simp) rfl
   simp only [hDi, d1, d3, d5, d7, d9, cond_true, cond_false] at hW
   have h4 := HP.setCells (off := 0) 5 [.slice (some ⟨g 1, 0, none⟩) n n, .slice (some ⟨g 3, 0, none⟩) n n, .slice (some ⟨g 5, 0, none⟩) n n, .slice (some ⟨g 7, 0, none⟩) n n, .int .i64 0, .bool true] hW rfl
   refine .inl ⟨rfl, rfl, .inr (.inl ⟨_, x_storeS rfl rfl rfl sz116 rfl (fun j hj => ⟨by rw [HP.cell hW 5 (off := 0 + j) rfl (Array.getElem?_eq_getElem (by simpa using hj))]; rfl, HP.free hW 5 rfl⟩), rfl, ?_⟩)⟩
   show HP Tr w _ ([.cel b1 #[.slice none 0 0, .slice none 0 0, .slice none 0 0, .slice none 0 0, .int .i64 0, .bool false] 116] ++ ((bif D 1 then [Ent.cel (g 1) (irow n (fun _ => 0)) 3] else []) ++ ((bif D 3 then [Ent.cel (g 3) (irow n (fun _ => 0)) 3] else []) ++ ((bif D 5 then [Ent.cel (g 5) (irow n (fun _ => 0)) 3] else []) ++ ((bif D 7 then [Ent.cel (g 7) (irow n (fun _ => 0)) 3] else []) ++ (bif D 9 then [Ent.cel (g 9) #[.slice (some ⟨g 1, 0, none⟩) n n, .slice (some ⟨g 3, 0, none⟩) n n, .slice (some ⟨g 5, 0, none⟩) n n, .slice (some ⟨g 7, 0, none⟩) n n, .int .i64 0, .bool true] 116] else []))))))
   simp only [d1, d3, d5, d7, d9, cond_true]
   exact h4
 intro g D w2 hall hW
 simp only [hall 1 (by kernel_rfl), hall 3 (by kernel_rfl), hall 5 (by kernel_rfl), hall 7 (by kernel_rfl), hall 9 (by kernel_rfl), hall 10 (by kernel_rfl), cond_true] at hW
 clear hall
 obtain ⟨g0, g1, g2, g3, b, e0, e1, e2, e3, e4⟩ : ∃ g0 g1 g2 g3 b, g0 = g 1 ∧ g1 = g 3 ∧ g2 = g 5 ∧ g3 = g 7 ∧ b = g 9 := ⟨_, _, _, _, _, rfl, rfl, rfl, rfl, rfl⟩
 rw [← e0, ← e1, ← e2, ← e3, ← e4] at hW
 refine WQ.sub (l' := [(0, .slice p n cap), (2, vP b1 0), (3, vI (n : Int)), (4, vP b 0)]) ⟨rfl, rfl, rfl, by rw [e4]; rfl, trivial⟩ ?_
 clear e0 e1 e2 e3 e4
 have hH8 : HP Tr w _ [.cel b1 #[.slice none 0 0, .slice none 0 0, .slice none 0 0, .slice none 0 0, .int .i64 0, .bool false] 116, .cel g0 (irow n (fun _ => 0)) 3, .cel g1 (irow n (fun _ => 0)) 3, .cel g2 (irow n (fun _ => 0)) 3, .cel g3 (irow n (fun _ => 0)) 3, .cel b #[.slice (some ⟨g0, 0, none⟩) n n, .slice (some ⟨g1, 0, none⟩) n n, .slice (some ⟨g2, 0, none⟩) n n, .slice (some ⟨g3, 0, none⟩) n n, .int .i64 0, .bool true] 116] := hW
 refine WQ.then (hK7 _ _ _ (WC.seq fun K9 hK9 => WC.region (WL.z (.slice none 0 0) 5 (WL.k hK9 (WC.seq fun K10 hK10 => WC.seq fun K11 hK11 => WC.region (WL.z (.slice p n cap) 21 ?_))))))
 refine WL.z (vI (n : Int)) 22 (WL.z (vI 0) 23 (WL.k hK11 (WC.block ?_)))
 have hO := HP.addOwn hH8 (v := .slice none 0 0) (k := 0) (xs := []) (e := 3) (s := 1) rfl (World.ownsRow_nil _ _ _ _)
 refine WC.loop (fun kk0 ll0 ww0 => ∃ (k : Nat) (s : Sh) (v : Value), ll0 = [(0, .slice p n cap), (2, vP b1 0), (3, vI (n : Int)), (4, vP b 0), (5, v), (21, .slice p n cap), (22, vI (n : Int)), (23, vI (k : Int))] ∧ kk0 = n - k ∧ (k ≤ n) ∧ (shp c k = some s) ∧ HP Tr w ww0 [.cel b1 #[.slice none 0 0, .slice none 0 0, .slice none 0 0, .slice none 0 0, .int .i64 0, .bool false] 116, .cel g0 (irow n s.o) 3, .cel g1 (irow n s.e) 3, .cel g2 (irow n s.d) 3, .cel g3 (irow n s.t) 3, .cel b #[.slice (some ⟨g0, 0, none⟩) n n, .slice (some ⟨g1, 0, none⟩) n n, .slice (some ⟨g2, 0, none⟩) n n, .slice (some ⟨g3, 0, none⟩) n n, .int .i64 (s.m : Int), .bool true] 116, .own v s.l.length (Ec.lI s.l) 3 1]) (n) [(0, .slice p n cap), (2, vP b1 0), (3, vI (n : Int)), (4, vP b 0), (5, .slice none 0 0), (21, .slice p n cap), (22, vI (n : Int)), (23, vI 0)] ⟨rfl, rfl, rfl, rfl, rfl, rfl, rfl, rfl, trivial⟩ ⟨0, Ec.s0, .slice none 0 0, rfl, rfl, Nat.zero_le n, rfl, hO⟩ ?_
 rintro kk l w13 ⟨k, s, v, rfl, hkk, hk, hs, hH14⟩ K12 hK12
 obtain ⟨pv, cp, rfl, hcp, hlc, hpv⟩ := own_form (HP.get hH14 6 rfl)
 refine WC.seq fun K15 hK15 => WC.region ?_
 by_cases hlt : (k : Int) < (n : Int)
 ·
  refine WL.y (.bool true) 24 (x_lss rfl rfl rfl (dT (hlt))) (WL.k hK15 (WC.seq fun K16 hK16 => ?_))
  refine WC.yes rfl ?_
  refine WC.skip (WQ.then (hK16 _ _ _ (WC.seq fun K17 hK17 => WC.block (WC.seq fun K18 hK18 => ?_))))
  obtain ⟨bb, oo, rfl, hrow⟩ := hIn (by omega)
  refine WC.region (WL.z (vI (k : Int)) 25 (WL.y (vP bb (oo + k * 3)) 26 (x_ix (k) (oo + k * 3) Try.underlying42 sz75) (WL.y (.agg #[vI (c k), vI (A k), vI (B k)]) 27 (x_loadS (cs := [.int .i64 (c k), .int .i64 (A k), .int .i64 (B k)]) rfl rfl Try.underlying75 rfl sz75 (HP.oldRange hH14 trivial (hrow k (by omega)))) ?_)))
  refine WL.alloc (c := #[vI 0, vI 0, vI 0]) (T := 75) hH14 7 rfl (by decide) rfl rfl (fun b19 => vP b19 0) (by kernel_rfl) (fun b19 w20 hw20 => ?_)
  have hH21 : HP Tr w w20 [.cel b1 #[.slice none 0 0, .slice none 0 0, .slice none 0 0, .slice none 0 0, .int .i64 0, .bool false] 116, .cel g0 (irow n s.o) 3, .cel g1 (irow n s.e) 3, .cel g2 (irow n s.d) 3, .cel g3 (irow n s.t) 3, .cel b #[.slice (some ⟨g0, 0, none⟩) n n, .slice (some ⟨g1, 0, none⟩) n n, .slice (some ⟨g2, 0, none⟩) n n, .slice (some ⟨g3, 0, none⟩) n n, .int .i64 (s.m : Int), .bool true] 116, .own (.slice pv s.l.length cp) s.l.length (Ec.lI s.l) 3 1, .cel b19 #[vI 0, vI 0, vI 0] 75] := hw20.2
  have nb19 := hw20.1
  clear hw20
  refine WL.z (vI (k : Int)) 6 ?_
  refine WL.storeS (H2 := [.cel b1 #[.slice none 0 0, .slice none 0 0, .slice none 0 0, .slice none 0 0, .int .i64 0, .bool false] 116, .cel g0 (irow n s.o) 3, .cel g1 (irow n s.e) 3, .cel g2 (irow n s.d) 3, .cel g3 (irow n s.t) 3, .cel b #[.slice (some ⟨g0, 0, none⟩) n n, .slice (some ⟨g1, 0, none⟩) n n, .slice (some ⟨g2, 0, none⟩) n n, .slice (some ⟨g3, 0, none⟩) n n, .int .i64 (s.m : Int), .bool true] 116, .own (.slice pv s.l.length cp) s.l.length (Ec.lI s.l) 3 1, .cel b19 #[vI (c k), vI (A k), vI (B k)] 75]) 7 hH21 rfl rfl rfl rfl rfl rfl sz75 rfl (Nat.le_of_ble_eq_true rfl) rfl rfl ?_
  intro w22 hH23
  refine WL.k hK18 (WC.seq fun K24 hK24 => ?_)
  refine WC.confG (γ := Unit) [(6, vI (k : Int)), (7, vP b19 0), (27, .agg #[vI (c k), vI (A k), vI (B k)]), (26, vP bb (oo + k * 3)), (25, vI (k : Int)), (24, .bool true), (0, .slice (some ⟨bb, oo, none⟩) n cap), (2, vP b1 0), (3, vI (n : Int)), (4, vP b 0), (5, .slice pv s.l.length cp), (21, .slice (some ⟨bb, oo, none⟩) n cap), (22, vI (n : Int)), (23, vI (k : Int))] (fun _ => [vP b 0, vS g0 n n, vI (k : Int), vP b 1, vS g1 n n, vI (k : Int), vP b 2, vS g2 n n, vI (k : Int), vP b 3, vS g3 n n, vI (k : Int), .slice pv s.l.length cp, vI (s.l.length : Int), vP g0 k, undef, vP g1 k, undef, vP g2 k, undef, vP g3 k, undef]) (fun _ D wz => HP Tr w wz [.cel b1 #[.slice none 0 0, .slice none 0 0, .slice none 0 0, .slice none 0 0, .int .i64 0, .bool false] 116, (bif D 15 then Ent.cel g0 (irow n (upI s.o k (-1))) 3 else Ent.cel g0 (irow n s.o) 3), (bif D 17 then Ent.cel g1 (irow n (upI s.e k (-1))) 3 else Ent.cel g1 (irow n s.e) 3), (bif D 19 then Ent.cel g2 (irow n (upI s.d k (-1))) 3 else Ent.cel g2 (irow n s.d) 3), (bif D 21 then Ent.cel g3 (irow n (upI s.t k (s.l.length : Int))) 3 else Ent.cel g3 (irow n s.t) 3), .cel b #[.slice (some ⟨g0, 0, none⟩) n n, .slice (some ⟨g1, 0, none⟩) n n, .slice (some ⟨g2, 0, none⟩) n n, .slice (some ⟨g3, 0, none⟩) n n, .int .i64 (s.m : Int), .bool true] 116, .own (.slice pv s.l.length cp) s.l.length (Ec.lI s.l) 3 1, .cel b19 #[vI (c k), vI (A k), vI (B k)] 75]) () (by kernel_rfl) ⟨rfl, rfl, rfl, rfl, rfl, rfl, rfl, rfl, rfl, rfl, rfl, rfl, rfl, rfl, trivial⟩ (by kernel_rfl) (by kernel_rfl) (by kernel_rfl) (fun _ => rfl) (by kernel_rfl) (HP.drew hH23) ?_ ?_
  ·
   refine AllOk.cons ?o0 (AllOk.cons ?o1 (AllOk.cons ?o2 (AllOk.cons ?o3 (AllOk.cons ?o4 (AllOk.cons ?o5 (AllOk.cons ?o6 (AllOk.cons ?o7 (AllOk.cons ?o8 (AllOk.cons ?o9 (AllOk.cons ?o10 (AllOk.cons ?o11 (AllOk.cons ?o12 (AllOk.cons ?o13 (AllOk.cons ?o14 (AllOk.cons ?o15 (AllOk.cons ?o16 (AllOk.cons ?o17 (AllOk.cons ?o18 (AllOk.cons ?o19 (AllOk.cons ?o20 (AllOk.cons ?o21 (AllOk.nil _))))))))))))))))))))))
   case o0 =>
    intro g D wz hDi hdep hclo hW
    exact .inl ⟨rfl, rfl, .inl ⟨g, wz, fun _ _ => rfl, by kernel_rfl, hW⟩⟩
   case o1 =>
    intro g D wz hDi hdep hclo hW
    exact .inl ⟨rfl, rfl, .inl ⟨g, wz, fun _ _ => rfl, x_load rfl rfl Try.underlying33 rfl (HP.cell hW 5 rfl rfl), hW⟩⟩
   case o2 =>
    intro g D wz hDi hdep hclo hW
    exact .inl ⟨rfl, rfl, .inl ⟨g, wz, fun _ _ => rfl, by kernel_rfl, hW⟩⟩
   case o3 =>
    intro g D wz hDi hdep hclo hW
    exact .inl ⟨rfl, rfl, .inl ⟨g, wz, fun _ _ => rfl, by kernel_rfl, hW⟩⟩
   case o4 =>
    intro g D wz hDi hdep hclo hW
    exact .inl ⟨rfl, rfl, .inl ⟨g, wz, fun _ _ => rfl, x_load rfl rfl Try.underlying33 rfl (HP.cell hW 5 rfl rfl), hW⟩⟩
   case o5 =>
    intro g D wz hDi hdep hclo hW
    exact .inl ⟨rfl, rfl, .inl ⟨g, wz, fun _ _ => rfl, by kernel_rfl, hW⟩⟩
   case o6 =>
    intro g D wz hDi hdep hclo hW
    exact .inl ⟨rfl, rfl, .inl ⟨g, wz, fun _ _ => rfl, by kernel_rfl, hW⟩⟩
   case o7 =>
    intro g D wz hDi hdep hclo hW
    exact .inl ⟨rfl, rfl, .inl ⟨g, wz, fun _ _ => rfl, x_load rfl rfl Try.underlying33 rfl (HP.cell hW 5 rfl rfl), hW⟩⟩
   case o8 =>
    intro g D wz hDi hdep hclo hW
    exact .inl ⟨rfl, rfl, .inl ⟨g, wz, fun _ _ => rfl, by kernel_rfl, hW⟩⟩
   case o9 =>
    intro g D wz hDi hdep hclo hW
    exact .inl ⟨rfl, rfl, .inl ⟨g, wz, fun _ _ => rfl, by kernel_rfl, hW⟩⟩
   case o10 =>
    intro g D wz hDi hdep hclo hW
    exact .inl ⟨rfl, rfl, .inl ⟨g, wz, fun _ _ => rfl, x_load rfl rfl Try.underlying33 rfl (HP.cell hW 5 rfl rfl), hW⟩⟩
   case o11 =>
    intro g D wz hDi hdep hclo hW
    exact .inl ⟨rfl, rfl, .inl ⟨g, wz, fun _ _ => rfl, by kernel_rfl, hW⟩⟩
   case o12 =>
    intro g D wz hDi hdep hclo hW
    exact .inl ⟨rfl, rfl, .inl ⟨g, wz, fun _ _ => rfl, by kernel_rfl, hW⟩⟩
   case o13 =>
    intro g D wz hDi hdep hclo hW
    exact .inl ⟨rfl, rfl, .inl ⟨g, wz, fun _ _ => rfl, by kernel_rfl, hW⟩⟩
   case o14 =>
    intro g D wz hDi hdep hclo hW
    exact .inl ⟨rfl, rfl, .inl ⟨g, wz, fun _ _ => rfl, x_ix (k) (k) Try.underlying33 sz3, hW⟩⟩
   case o15 =>
    intro g D wz hDi hdep hclo hW
    simp only [hDi, cond_false] at hW
    have h3 : HP Tr w (wz.setCell ⟨g0, k, none⟩ (vI (-1))) [.cel b1 #[.slice none 0 0, .slice none 0 0, .slice none 0 0, .slice none 0 0, .int .i64 0, .bool false] 116, .cel g0 (irow n (upI s.o k (-1))) 3, (bif D 17 then Ent.cel g1 (irow n (upI s.e k (-1))) 3 else Ent.cel g1 (irow n s.e) 3), (bif D 19 then Ent.cel g2 (irow n (upI s.d k (-1))) 3 else Ent.cel g2 (irow n s.d) 3), (bif D 21 then Ent.cel g3 (irow n (upI s.t k (s.l.length : Int))) 3 else Ent.cel g3 (irow n s.t) 3), .cel b #[.slice (some ⟨g0, 0, none⟩) n n, .slice (some ⟨g1, 0, none⟩) n n, .slice (some ⟨g2, 0, none⟩) n n, .slice (some ⟨g3, 0, none⟩) n n, .int .i64 (s.m : Int), .bool true] 116, .own (.slice pv s.l.length cp) s.l.length (Ec.lI s.l) 3 1, .cel b19 #[vI (c k), vI (A k), vI (B k)] 75] := by have h4 := HP.set (off := k) (v := vI (-1)) hW 1 rfl; rw [irow_set] at h4; exact h4
    exact .inl ⟨rfl, rfl, .inr (.inl ⟨_, x_store rfl rfl rfl sz3 rfl (HP.cell hW 1 rfl (irow_get (by omega) rfl)) (HP.free hW 1 rfl), rfl, h3⟩)⟩
   case o16 =>
    intro g D wz hDi hdep hclo hW
    exact .inl ⟨rfl, rfl, .inl ⟨g, wz, fun _ _ => rfl, x_ix (k) (k) Try.underlying33 sz3, hW⟩⟩
   case o17 =>
    intro g D wz hDi hdep hclo hW
    simp only [hDi, cond_false] at hW
    have h3 : HP Tr w (wz.setCell ⟨g1, k, none⟩ (vI (-1))) [.cel b1 #[.slice none 0 0, .slice none 0 0, .slice none 0 0, .slice none 0 0, .int .i64 0, .bool false] 116, (bif D 15 then Ent.cel g0 (irow n (upI s.o k (-1))) 3 else Ent.cel g0 (irow n s.o) 3), .cel g1 (irow n (upI s.e k (-1))) 3, (bif D 19 then Ent.cel g2 (irow n (upI s.d k (-1))) 3 else Ent.cel g2 (irow n s.d) 3), (bif D 21 then Ent.cel g3 (irow n (upI s.t k (s.l.length : Int))) 3 else Ent.cel g3 (irow n s.t) 3), .cel b #[.slice (some ⟨g0, 0, none⟩) n n, .slice (some ⟨g1, 0, none⟩) n n, .slice (some ⟨g2, 0, none⟩) n n, .slice (some ⟨g3, 0, none⟩) n n, .int .i64 (s.m : Int), .bool true] 116, .own (.slice pv s.l.length cp) s.l.length (Ec.lI s.l) 3 1, .cel b19 #[vI (c k), vI (A k), vI (B k)] 75] := by have h4 := HP.set (off := k) (v := vI (-1)) hW 2 rfl; rw [irow_set] at h4; exact h4
    exact .inl ⟨rfl, rfl, .inr (.inl ⟨_, x_store rfl rfl rfl sz3 rfl (HP.cell hW 2 rfl (irow_get (by omega) rfl)) (HP.free hW 2 rfl), rfl, h3⟩)⟩
   case o18 =>
    intro g D wz hDi hdep hclo hW
    exact .inl ⟨rfl, rfl, .inl ⟨g, wz, fun _ _ => rfl, x_ix (k) (k) Try.underlying33 sz3, hW⟩⟩
   case o19 =>
    intro g D wz hDi hdep hclo hW
    simp only [hDi, cond_false] at hW
    have h3 : HP Tr w (wz.setCell ⟨g2, k, none⟩ (vI (-1))) [.cel b1 #[.slice none 0 0, .slice none 0 0, .slice none 0 0, .slice none 0 0, .int .i64 0, .bool false] 116, (bif D 15 then Ent.cel g0 (irow n (upI s.o k (-1))) 3 else Ent.cel g0 (irow n s.o) 3), (bif D 17 then Ent.cel g1 (irow n (upI s.e k (-1))) 3 else Ent.cel g1 (irow n s.e) 3), .cel g2 (irow n (upI s.d k (-1))) 3, (bif D 21 then Ent.cel g3 (irow n (upI s.t k (s.l.length : Int))) 3 else Ent.cel g3 (irow n s.t) 3), .cel b #[.slice (some ⟨g0, 0, none⟩) n n, .slice (some ⟨g1, 0, none⟩) n n, .slice (some ⟨g2, 0, none⟩) n n, .slice (some ⟨g3, 0, none⟩) n n, .int .i64 (s.m : Int), .bool true] 116, .own (.slice pv s.l.length cp) s.l.length (Ec.lI s.l) 3 1, .cel b19 #[vI (c k), vI (A k), vI (B k)] 75] := by have h4 := HP.set (off := k) (v := vI (-1)) hW 3 rfl; rw [irow_set] at h4; exact h4
    exact .inl ⟨rfl, rfl, .inr (.inl ⟨_, x_store rfl rfl rfl sz3 rfl (HP.cell hW 3 rfl (irow_get (by omega) rfl)) (HP.free hW 3 rfl), rfl, h3⟩)⟩
   case o20 =>
    intro g D wz hDi hdep hclo hW
    exact .inl ⟨rfl, rfl, .inl ⟨g, wz, fun _ _ => rfl, x_ix (k) (k) Try.underlying33 sz3, hW⟩⟩
   case o21 =>
    intro g D wz hDi hdep hclo hW
    simp only [hDi, cond_false] at hW
    have h3 : HP Tr w (wz.setCell ⟨g3, k, none⟩ (vI (s.l.length : Int))) [.cel b1 #[.slice none 0 0, .slice none 0 0, .slice none 0 0, .slice none 0 0, .int .i64 0, .bool false] 116, (bif D 15 then Ent.cel g0 (irow n (upI s.o k (-1))) 3 else Ent.cel g0 (irow n s.o) 3), (bif D 17 then Ent.cel g1 (irow n (upI s.e k (-1))) 3 else Ent.cel g1 (irow n s.e) 3), (bif D 19 then Ent.cel g2 (irow n (upI s.d k (-1))) 3 else Ent.cel g2 (irow n s.d) 3), .cel g3 (irow n (upI s.t k (s.l.length : Int))) 3, .cel b #[.slice (some ⟨g0, 0, none⟩) n n, .slice (some ⟨g1, 0, none⟩) n n, .slice (some ⟨g2, 0, none⟩) n n, .slice (some ⟨g3, 0, none⟩) n n, .int .i64 (s.m : Int), .bool true] 116, .own (.slice pv s.l.length cp) s.l.length (Ec.lI s.l) 3 1, .cel b19 #[vI (c k), vI (A k), vI (B k)] 75] := by have h4 := HP.set (off := k) (v := vI (s.l.length : Int)) hW 4 rfl; rw [irow_set] at h4; exact h4
    exact .inl ⟨rfl, rfl, .inr (.inl ⟨_, x_store rfl rfl rfl sz3 rfl (HP.cell hW 4 rfl (irow_get (by omega) rfl)) (HP.free hW 4 rfl), rfl, h3⟩)⟩
  intro g D w25 hall hH26
  simp only [hall 15 (by kernel_rfl), hall 17 (by kernel_rfl), hall 19 (by kernel_rfl), hall 21 (by kernel_rfl), cond_true] at hH26
  clear hall
  refine WQ.sb [(0, .slice (some ⟨bb, oo, none⟩) n cap), (2, vP b1 0), (3, vI (n : Int)), (4, vP b 0), (5, .slice pv s.l.length cp), (6, vI (k : Int)), (7, vP b19 0), (21, .slice (some ⟨bb, oo, none⟩) n cap), (22, vI (n : Int)), (23, vI (k : Int)), (24, .bool true)] (WQ.then (hK24 _ _ _ ?_))
  refine WC.cut (fun l w2 => l = [(0, .slice (some ⟨bb, oo, none⟩) n cap), (2, vP b1 0), (3, vI (n : Int)), (4, vP b 0), (5, .slice pv s.l.length cp), (6, vI (k : Int)), (7, vP b19 0), (21, .slice (some ⟨bb, oo, none⟩) n cap), (22, vI (n : Int)), (23, vI (k : Int)), (24, .bool true)] ∧ HP Tr w w2 [.cel b1 #[.slice none 0 0, .slice none 0 0, .slice none 0 0, .slice none 0 0, .int .i64 0, .bool false] 116, .cel g0 (irow n (Ec.lay k s).o) 3, .cel g1 (irow n (upI s.e k (-1))) 3, .cel g2 (irow n (upI s.d k (-1))) 3, .cel g3 (irow n (upI s.t k (s.l.length : Int))) 3, .cel b #[.slice (some ⟨g0, 0, none⟩) n n, .slice (some ⟨g1, 0, none⟩) n n, .slice (some ⟨g2, 0, none⟩) n n, .slice (some ⟨g3, 0, none⟩) n n, .int .i64 (s.m : Int), .bool true] 116, .own (.slice pv s.l.length cp) s.l.length (Ec.lI s.l) 3 1, .cel b19 #[vI (c k), vI (A k), vI (B k)] 75]) ?_ ?_
  ·
   refine WC.seq fun K27 hK27 => WC.region (WL.z (.slice pv s.l.length cp) 46 (WL.z (vI (s.l.length : Int)) 47 ?_))
   by_cases h0 : (0 : Int) < (s.l.length : Int)
   ·
    refine WL.y (.bool true) 48 (x_gtr rfl rfl rfl (dT (h0))) (WL.k hK27 ?_)
    refine WC.yes rfl ?_
    obtain ⟨g, rfl⟩ := hpv (by omega)
    obtain ⟨x, hx⟩ := last_of (l := s.l) (by omega)
    have hxk := (shp_lt k s hs).1 x (List.mem_of_getLast? hx)
    refine WC.stillTail 10 (by kernel_rfl) (by kernel_rfl) ?_
    have hH28 := HP.drew hH26
    refine WS.z (vP b 0) 49 (WS.y (vS g0 n n) 50 (x_load rfl rfl Try.underlying33 rfl (HP.cell hH28 5 rfl rfl)) (WS.z (vI (k : Int)) 51 (WS.z (vS g s.l.length cp) 52 (WS.z (vS g s.l.length cp) 53 (WS.z (vI (s.l.length : Int)) 54 (WS.y (vI ((s.l.length - 1 : Nat) : Int)) 55 (x_sub (Z := ((s.l.length - 1 : Nat) : Int)) rfl rfl rfl (by omega) (by omega) (by omega)) (WS.y (vP g (s.l.length - 1)) 56 (x_ix (s.l.length - 1) (s.l.length - 1) Try.underlying33 sz3) (WS.y (vI (x : Int)) 57 (x_load rfl rfl Try.underlying3 rfl (HP.ownCell hH28 6 rfl (last_cell hx))) (WS.y (vP g0 k) 58 (x_ix (k) (k) Try.underlying33 sz3) ?_)))))))))
    refine WS.nilL ?_
    refine WL.store (H2 := [.cel b1 #[.slice none 0 0, .slice none 0 0, .slice none 0 0, .slice none 0 0, .int .i64 0, .bool false] 116, .cel g0 (irow n (upI (upI s.o k (-1)) k (x : Int))) 3, .cel g1 (irow n (upI s.e k (-1))) 3, .cel g2 (irow n (upI s.d k (-1))) 3, .cel g3 (irow n (upI s.t k (s.l.length : Int))) 3, .cel b #[.slice (some ⟨g0, 0, none⟩) n n, .slice (some ⟨g1, 0, none⟩) n n, .slice (some ⟨g2, 0, none⟩) n n, .slice (some ⟨g3, 0, none⟩) n n, .int .i64 (s.m : Int), .bool true] 116, .own (.slice (some ⟨g, 0, none⟩) s.l.length cp) s.l.length (Ec.lI s.l) 3 1, .cel b19 #[vI (c k), vI (A k), vI (B k)] 75]) 1 hH28 rfl rfl rfl rfl rfl rfl sz3 rfl (by simp [size_irow]; omega) (irow_set _ _ _ _) rfl ?_
    intro w29 hH30
    refine WL.nil (WQ.sb [(0, .slice (some ⟨bb, oo, none⟩) n cap), (2, vP b1 0), (3, vI (n : Int)), (4, vP b 0), (5, vS g s.l.length cp), (6, vI (k : Int)), (7, vP b19 0), (21, .slice (some ⟨bb, oo, none⟩) n cap), (22, vI (n : Int)), (23, vI (k : Int)), (24, .bool true)] ?_)
    refine WQ.cut ⟨rfl, ?_⟩
    rw [← lay_o_some hx]
    exact hH30
   ·
    refine WL.y (.bool false) 48 (x_gtr rfl rfl rfl (dF (h0))) (WL.k hK27 ?_)
    refine WC.no rfl ?_
    refine WC.skip (WQ.sb [(0, .slice (some ⟨bb, oo, none⟩) n cap), (2, vP b1 0), (3, vI (n : Int)), (4, vP b 0), (5, .slice pv s.l.length cp), (6, vI (k : Int)), (7, vP b19 0), (21, .slice (some ⟨bb, oo, none⟩) n cap), (22, vI (n : Int)), (23, vI (k : Int)), (24, .bool true)] ?_)
    refine WQ.cut ⟨rfl, ?_⟩
    rw [← lay_o_none (k := k) (s := s) (by omega)]
    exact hH26
  ·
   rintro l w31 ⟨rfl, hH32⟩
   refine WC.block (WC.seq fun K33 hK33 => WC.region (WL.z (vP b19 0) 60 (WL.y (vI (c k)) 61 (x_load rfl rfl Try.underlying3 rfl (HP.cell hH32 7 rfl rfl)) ?_)))
   refine WL.c 74 #[vI (c k)] 62 ?_
   refine (Opens_any _ _).mono ?_
   rintro e w34 ⟨rfl, rfl⟩
   refine ⟨_, rfl, ?_⟩
   refine WL.z (.bool (opn (c k))) 59 (WL.k hK33 ?_)
   rcases Bool.eq_false_or_eq_true (opn (c k)) with hA | hA
   ·
    refine WC.yes (congrArg (fun b => some (Value.bool b)) hA) ?_
    refine WC.seq fun K35 hK35 => WC.region (WL.z (.slice pv s.l.length cp) 63 (WL.z (vI (k : Int)) 64 ?_))
    refine WL.alloc (c := #[vI (k : Int)]) (T := 3) hH32 65 rfl (by decide) rfl rfl (fun b36 => vS b36 1 1) (by kernel_rfl) (fun b36 w37 hw37 => ?_)
    have hH38 : HP Tr w w37 [.cel b1 #[.slice none 0 0, .slice none 0 0, .slice none 0 0, .slice none 0 0, .int .i64 0, .bool false] 116, .cel g0 (irow n (Ec.lay k s).o) 3, .cel g1 (irow n (upI s.e k (-1))) 3, .cel g2 (irow n (upI s.d k (-1))) 3, .cel g3 (irow n (upI s.t k (s.l.length : Int))) 3, .cel b #[.slice (some ⟨g0, 0, none⟩) n n, .slice (some ⟨g1, 0, none⟩) n n, .slice (some ⟨g2, 0, none⟩) n n, .slice (some ⟨g3, 0, none⟩) n n, .int .i64 (s.m : Int), .bool true] 116, .own (.slice pv s.l.length cp) s.l.length (Ec.lI s.l) 3 1, .cel b19 #[vI (c k), vI (A k), vI (B k)] 75, .cel b36 #[vI (k : Int)] 3] := hw37.2
    have nb36 := hw37.1
    clear hw37
    refine WL.append (news := [vI (k : Int)]) 6 8 hH38 66 rfl (by decide) rfl rfl rfl rfl Try.underlying33 hi0 hz0 hz1 hz2 rfl (by decide) rfl rfl rfl rfl (by simp [Value.oneCell']) (by have := (shp_lt k s hs).2.1; unfold maxLen; omega) (by have := (shp_lt k s hs).2.1; omega) ?_
    rintro v2 w40 - hH39
    obtain ⟨pv2, cp2, rfl, hcp2, hlc2, hpv2⟩ := own_form (HP.get hH39 6 rfl)
    have hH41 : HP Tr w _ [.cel b1 #[.slice none 0 0, .slice none 0 0, .slice none 0 0, .slice none 0 0, .int .i64 0, .bool false] 116, .cel g0 (irow n (Ec.lay k s).o) 3, .cel g1 (irow n (upI s.e k (-1))) 3, .cel g2 (irow n (upI s.d k (-1))) 3, .cel g3 (irow n (upI s.t k (s.l.length : Int))) 3, .cel b #[.slice (some ⟨g0, 0, none⟩) n n, .slice (some ⟨g1, 0, none⟩) n n, .slice (some ⟨g2, 0, none⟩) n n, .slice (some ⟨g3, 0, none⟩) n n, .int .i64 (s.m : Int), .bool true] 116, .own (.slice pv2 (s.l.length + 1) cp2) (s.l.length + 1) (Ec.lI s.l ++ [.int .i64 (k : Int)]) 3 1, .cel b19 #[vI (c k), vI (A k), vI (B k)] 75, .cel b36 #[vI (k : Int)] 3] := hH39
    refine WL.z (.slice pv2 (s.l.length + 1) cp2) 5 (WL.k hK35 (WC.sb [(0, .slice (some ⟨bb, oo, none⟩) n cap), (2, vP b1 0), (3, vI (n : Int)), (4, vP b 0), (5, .slice pv2 (s.l.length + 1) cp2), (6, vI (k : Int)), (7, vP b19 0), (21, .slice (some ⟨bb, oo, none⟩) n cap), (22, vI (n : Int)), (23, vI (k : Int)), (24, .bool true), (59, .bool (opn (c k)))] (WC.region (WL.z (vP b 4) 67 (WL.y (vI (s.m : Int)) 68 (x_load rfl rfl Try.underlying3 rfl (HP.cell hH41 5 rfl rfl)) (WL.z (.slice pv2 (s.l.length + 1) cp2) 69 (WL.z (vI ((s.l.length + 1 : Nat) : Int)) 70 (WL.y (vI ((max s.m (s.l.length + 1) : Nat) : Int)) 71 (x_max (Z := ((max s.m (s.l.length + 1) : Nat) : Int)) (t := 0) rfl rfl rfl (by split <;> omega)) (WL.z (vP b 4) 72 ?_)))))))))
    refine WL.store (H2 := [.cel b1 #[.slice none 0 0, .slice none 0 0, .slice none 0 0, .slice none 0 0, .int .i64 0, .bool false] 116, .cel g0 (irow n (Ec.lay k s).o) 3, .cel g1 (irow n (upI s.e k (-1))) 3, .cel g2 (irow n (upI s.d k (-1))) 3, .cel g3 (irow n (upI s.t k (s.l.length : Int))) 3, .cel b #[.slice (some ⟨g0, 0, none⟩) n n, .slice (some ⟨g1, 0, none⟩) n n, .slice (some ⟨g2, 0, none⟩) n n, .slice (some ⟨g3, 0, none⟩) n n, vI ((max s.m (s.l.length + 1) : Nat) : Int), .bool true] 116, .own (.slice pv2 (s.l.length + 1) cp2) (s.l.length + 1) (Ec.lI s.l ++ [.int .i64 (k : Int)]) 3 1, .cel b19 #[vI (c k), vI (A k), vI (B k)] 75, .cel b36 #[vI (k : Int)] 3]) 5 hH41 rfl rfl rfl rfl rfl rfl sz3 rfl (Nat.le_of_ble_eq_true rfl) rfl rfl ?_
    intro w42 hH43
    refine WL.nil (WQ.inNormal (WQ.inNormal (WQ.then (hK17 _ _ _ (WC.sb [(0, .slice (some ⟨bb, oo, none⟩) n cap), (2, vP b1 0), (3, vI (n : Int)), (4, vP b 0), (5, .slice pv2 (s.l.length + 1) cp2), (6, vI (k : Int)), (7, vP b19 0), (21, .slice (some ⟨bb, oo, none⟩) n cap), (22, vI (n : Int)), (23, vI (k : Int)), (24, .bool true), (59, .bool (opn (c k)))] (WC.region (WL.y (vI ((k + 1 : Nat) : Int)) 159 (x_ad (((k + 1 : Nat) : Int))) (WL.z (vI ((k + 1 : Nat) : Int)) 23 (WL.nil ?_)))))))))
    obtain ⟨s1, hs1⟩ : ∃ s1 : Sh, s1 = ⟨s.l ++ [k], (Ec.lay k s).o, (upI s.e k (-1)), (upI s.d k (-1)), (upI s.t k (s.l.length : Int)), max s.m (s.l.length + 1)⟩ := ⟨_, rfl⟩
    have hsN : shp c (k + 1) = some s1 := by
     rw [hs1]
     exact shp_step hs (stp_open hA)
    have el : s1.l.length = s.l.length + 1 := by rw [hs1]; simp
    have eI : Ec.lI s1.l = Ec.lI s.l ++ [.int .i64 (k : Int)] := by rw [hs1]; simp [lI]
    have hN := HP.eq (H' := [.cel b1 #[.slice none 0 0, .slice none 0 0, .slice none 0 0, .slice none 0 0, .int .i64 0, .bool false] 116, .cel g0 (irow n s1.o) 3, .cel g1 (irow n s1.e) 3, .cel g2 (irow n s1.d) 3, .cel g3 (irow n s1.t) 3, .cel b #[.slice (some ⟨g0, 0, none⟩) n n, .slice (some ⟨g1, 0, none⟩) n n, .slice (some ⟨g2, 0, none⟩) n n, .slice (some ⟨g3, 0, none⟩) n n, .int .i64 (s1.m : Int), .bool true] 116, .own (.slice pv2 (s.l.length + 1) cp2) s1.l.length (Ec.lI s1.l) 3 1]) (HP.drop (HP.drop hH43 8) 7) (by rw [el, eI]; subst hs1; rfl)
    refine WQ.sb [(0, .slice (some ⟨bb, oo, none⟩) n cap), (2, vP b1 0), (3, vI (n : Int)), (4, vP b 0), (5, .slice pv2 (s.l.length + 1) cp2), (21, .slice (some ⟨bb, oo, none⟩) n cap), (22, vI (n : Int)), (23, vI ((k + 1 : Nat) : Int))] ?_
    refine WQ.then (hK12 _ _ _ (by omega) ⟨k + 1, s1, .slice pv2 (s.l.length + 1) cp2, rfl, rfl, by omega, hsN, hN⟩)
   ·
    refine WC.no (congrArg (fun b => some (Value.bool b)) hA) ?_
    refine WC.seq fun K44 hK44 => WC.region (WL.z (vP b19 0) 74 (WL.y (vI (c k)) 75 (x_load rfl rfl Try.underlying3 rfl (HP.cell hH32 7 rfl rfl)) ?_))
    by_cases h34 : c k = 34
    ·
     refine WL.y (.bool true) 76 (x_eql rfl rfl rfl (dT (h34))) (WL.z (.bool true) 77 ?_)
     refine WL.pass 78 rfl (by decide) rfl ?_
     refine WL.pass 79 rfl (by decide) rfl ?_
     refine WL.pass 80 rfl (by decide) rfl ?_
     refine WL.z (.bool true) 81 (WL.z (.bool true) 73 (WL.k hK44 (WC.sb [(0, .slice (some ⟨bb, oo, none⟩) n cap), (2, vP b1 0), (3, vI (n : Int)), (4, vP b 0), (5, .slice pv s.l.length cp), (6, vI (k : Int)), (7, vP b19 0), (21, .slice (some ⟨bb, oo, none⟩) n cap), (22, vI (n : Int)), (23, vI (k : Int)), (24, .bool true), (59, .bool (opn (c k))), (73, .bool true)] ?_)))
     refine WC.yes rfl ?_
     refine WC.seq fun K45 hK45 => WC.seq fun K46 hK46 => WC.region (WL.z (.slice pv s.l.length cp) 82 (WL.z (vI (s.l.length : Int)) 83 ?_))
     by_cases h0b : (s.l.length : Int) = 0
     ·
      refine WL.y (.bool true) 84 (x_eql rfl rfl rfl (dT (h0b))) (WL.k hK46 ?_)
      refine WC.yes rfl ?_
      refine WC.seq fun K47 hK47 => WC.region (WL.z (vP b 5) 85 ?_)
      refine WL.store (H2 := [.cel b1 #[.slice none 0 0, .slice none 0 0, .slice none 0 0, .slice none 0 0, .int .i64 0, .bool false] 116, .cel g0 (irow n (Ec.lay k s).o) 3, .cel g1 (irow n (upI s.e k (-1))) 3, .cel g2 (irow n (upI s.d k (-1))) 3, .cel g3 (irow n (upI s.t k (s.l.length : Int))) 3, .cel b #[.slice (some ⟨g0, 0, none⟩) n n, .slice (some ⟨g1, 0, none⟩) n n, .slice (some ⟨g2, 0, none⟩) n n, .slice (some ⟨g3, 0, none⟩) n n, .int .i64 (s.m : Int), .bool false] 116, .own (.slice pv s.l.length cp) s.l.length (Ec.lI s.l) 3 1, .cel b19 #[vI (c k), vI (A k), vI (B k)] 75]) 5 hH32 rfl rfl rfl rfl rfl rfl sz4 rfl (Nat.le_of_ble_eq_true rfl) rfl rfl ?_
      intro w48 hH49
      refine WL.k hK47 (WC.seq fun K50 hK50 => WC.region (WL.y (.agg #[vS g0 n n, vS g1 n n, vS g2 n n, vS g3 n n, vI (s.m : Int), .bool false]) 86 (x_loadS (cs := [.slice (some ⟨g0, 0, none⟩) n n, .slice (some ⟨g1, 0, none⟩) n n, .slice (some ⟨g2, 0, none⟩) n n, .slice (some ⟨g3, 0, none⟩) n n, .int .i64 (s.m : Int), .bool false]) rfl rfl Try.underlying116 rfl sz116 (HP.range hH49 5 rfl rfl)) ?_))
      refine WL.storeS (H2 := [.cel b1 #[vS g0 n n, vS g1 n n, vS g2 n n, vS g3 n n, vI (s.m : Int), .bool false] 116, .cel g0 (irow n (Ec.lay k s).o) 3, .cel g1 (irow n (upI s.e k (-1))) 3, .cel g2 (irow n (upI s.d k (-1))) 3, .cel g3 (irow n (upI s.t k (s.l.length : Int))) 3, .cel b #[.slice (some ⟨g0, 0, none⟩) n n, .slice (some ⟨g1, 0, none⟩) n n, .slice (some ⟨g2, 0, none⟩) n n, .slice (some ⟨g3, 0, none⟩) n n, .int .i64 (s.m : Int), .bool false] 116, .own (.slice pv s.l.length cp) s.l.length (Ec.lI s.l) 3 1, .cel b19 #[vI (c k), vI (A k), vI (B k)] 75]) 0 hH49 rfl rfl rfl rfl rfl rfl sz116 rfl (Nat.le_of_ble_eq_true rfl) rfl rfl ?_
      intro w51 hH52
      refine WL.k hK50 (WC.ret ?_)
      refine WQ.thenRet ?_
      refine WQ.inRet ?_
      refine WQ.inRet ?_
      refine WQ.thenRet ?_
      refine WQ.thenRet ?_
      refine WQ.inRet ?_
      refine WQ.thenRet ?_
      refine WQ.retC 2 116 rfl rfl (HP.loadRow hH52 0 rfl Try.underlying116 rfl sz116) ?_
      have hOK : okS c n = false := shp_bad hs (stp_none_nil hA (by omega) (by omega)) (by omega)
      refine ⟨g0, g1, g2, g3, (s.m : Int), ⟨[], (Ec.lay k s).o, (upI s.e k (-1)), (upI s.d k (-1)), (upI s.t k (s.l.length : Int)), 0⟩, by rw [hOK], ?_, ?_⟩
      · exact HP.drop (HP.drop (HP.drop (HP.drop hH52 7) 6) 5) 0
      · intro hq; rw [hOK] at hq; cases hq
     ·
      refine WL.y (.bool false) 84 (x_eql rfl rfl rfl (dF (h0b))) (WL.k hK46 ?_)
      refine WC.no rfl ?_
      refine WC.skip (WQ.then (hK45 _ _ _ (WC.seq fun K53 hK53 => ?_)))
      obtain ⟨g, rfl⟩ := hpv (by omega)
      obtain ⟨x, hx⟩ := last_of (l := s.l) (by omega)
      have hxk := (shp_lt k s hs).1 x (List.mem_of_getLast? hx)
      refine WC.region (WL.z (vP b 3) 87 (WL.y (vS g3 n n) 88 (x_load rfl rfl Try.underlying33 rfl (HP.cell hH32 5 rfl rfl)) (WL.z (vI (k : Int)) 89 (WL.z (vS g s.l.length cp) 90 (WL.z (vI (s.l.length : Int)) 91 (WL.y (vI ((s.l.length : Int) - 1)) 92 (x_sub (Z := (s.l.length : Int) - 1) rfl rfl rfl (by omega) (by omega) (by omega)) (WL.y (vP g3 k) 93 (x_ix (k) (k) Try.underlying33 sz3) ?_)))))))
      refine WL.store (H2 := [.cel b1 #[.slice none 0 0, .slice none 0 0, .slice none 0 0, .slice none 0 0, .int .i64 0, .bool false] 116, .cel g0 (irow n (Ec.lay k s).o) 3, .cel g1 (irow n (upI s.e k (-1))) 3, .cel g2 (irow n (upI s.d k (-1))) 3, .cel g3 (irow n (upI (upI s.t k (s.l.length : Int)) k ((s.l.length : Int) - 1))) 3, .cel b #[.slice (some ⟨g0, 0, none⟩) n n, .slice (some ⟨g1, 0, none⟩) n n, .slice (some ⟨g2, 0, none⟩) n n, .slice (some ⟨g3, 0, none⟩) n n, .int .i64 (s.m : Int), .bool true] 116, .own (.slice (some ⟨g, 0, none⟩) s.l.length cp) s.l.length (Ec.lI s.l) 3 1, .cel b19 #[vI (c k), vI (A k), vI (B k)] 75]) 4 hH32 rfl rfl rfl rfl rfl rfl sz3 rfl (by simp [size_irow]; omega) (irow_set _ _ _ _) rfl ?_
      intro w54 hH55
      refine WL.k hK53 (WC.sb [(0, .slice (some ⟨bb, oo, none⟩) n cap), (2, vP b1 0), (3, vI (n : Int)), (4, vP b 0), (5, vS g s.l.length cp), (6, vI (k : Int)), (7, vP b19 0), (21, .slice (some ⟨bb, oo, none⟩) n cap), (22, vI (n : Int)), (23, vI (k : Int)), (24, .bool true), (59, .bool (opn (c k))), (73, .bool true), (84, .bool false)] (WC.seq fun K56 hK56 => WC.region (WL.z (vP b 0) 94 (WL.y (vS g0 n n) 95 (x_load rfl rfl Try.underlying33 rfl (HP.cell hH55 5 rfl rfl)) (WL.z (vI (k : Int)) 96 (WL.y (vP g0 k) 97 (x_ix (k) (k) Try.underlying33 sz3) (WL.y (vI (x : Int)) 98 (x_load rfl rfl Try.underlying3 rfl (HP.cell hH55 1 rfl (irow_get (by omega) (lay_o_top hx)))) (WL.z (vI (x : Int)) 8 ?_))))))))
      refine WL.k hK56 (WC.seq fun K57 hK57 => WC.region (WL.z (.slice (some ⟨bb, oo, none⟩) n cap) 99 (WL.z (vI (x : Int)) 100 (WL.y (vP bb (oo + x * 3)) 101 (x_ix (x) (oo + x * 3) Try.underlying42 sz75) (WL.z (vP bb (oo + x * 3)) 102 (WL.y (vI (c x)) 103 (x_load rfl rfl Try.underlying3 rfl ((HP.oldRange hH55 trivial (hrow x (by omega))) 0 _ rfl)) ?_))))))
      by_cases h29 : c x = 29
      ·
       refine WL.y (.bool true) 104 (x_eql rfl rfl rfl (dT (h29))) (WL.z (.bool true) 105 ?_)
       refine WL.pass 106 rfl (by decide) rfl ?_
       refine WL.pass 107 rfl (by decide) rfl ?_
       refine WL.pass 108 rfl (by decide) rfl ?_
       refine WL.pass 109 rfl (by decide) rfl ?_
       refine WL.pass 110 rfl (by decide) rfl ?_
       refine WL.pass 111 rfl (by decide) rfl ?_
       refine WL.z (.bool true) 112 (WL.z (.bool true) 9 (WL.k hK57 (WC.sb [(0, .slice (some ⟨bb, oo, none⟩) n cap), (2, vP b1 0), (3, vI (n : Int)), (4, vP b 0), (5, vS g s.l.length cp), (6, vI (k : Int)), (7, vP b19 0), (8, vI (x : Int)), (9, .bool true), (21, .slice (some ⟨bb, oo, none⟩) n cap), (22, vI (n : Int)), (23, vI (k : Int)), (24, .bool true), (59, .bool (opn (c k))), (73, .bool true), (84, .bool false)] (WC.seq fun K58 hK58 => WC.seq fun K59 hK59 => WC.region (WL.z (vP b19 0) 113 (WL.y (vI (c k)) 114 (x_load rfl rfl Try.underlying3 rfl (HP.cell hH55 7 rfl rfl)) (WL.y (.bool true) 115 (x_eql rfl rfl rfl (dT (by omega))) ?_)))))))
       refine WL.k hK59 (WC.yes rfl ?_)
       refine WC.seq fun K60 hK60 => WC.seq fun K61 hK61 => WC.region (WL.z (.bool true) 116 (WL.z (.bool false) 117 (WL.z (.bool false) 118 (WL.z (vP b 1) 119 (WL.y (vS g1 n n) 120 (x_load rfl rfl Try.underlying33 rfl (HP.cell hH55 5 rfl rfl)) (WL.z (vI (x : Int)) 121 (WL.y (vP g1 x) 122 (x_ix (x) (x) Try.underlying33 sz3) (WL.y (vI ((upI s.e k (-1)) x)) 123 (x_load rfl rfl Try.underlying3 rfl (HP.cell hH55 2 rfl (irow_get (by omega) rfl))) ?_))))))))
       by_cases he : (0 : Int) ≤ (upI s.e k (-1)) x
       ·
        refine WL.y (.bool true) 124 (x_geq rfl rfl rfl (dT (he))) (WL.z (.bool true) 125 (WL.k hK61 (WC.sb [(0, .slice (some ⟨bb, oo, none⟩) n cap), (2, vP b1 0), (3, vI (n : Int)), (4, vP b 0), (5, vS g s.l.length cp), (6, vI (k : Int)), (7, vP b19 0), (8, vI (x : Int)), (9, .bool true), (21, .slice (some ⟨bb, oo, none⟩) n cap), (22, vI (n : Int)), (23, vI (k : Int)), (24, .bool true), (59, .bool (opn (c k))), (73, .bool true), (84, .bool false), (115, .bool true), (125, .bool true)] ?_)))
        refine WC.yes rfl ?_
        refine WC.seq fun K62 hK62 => WC.region (WL.z (vP b 5) 126 ?_)
        refine WL.store (H2 := [.cel b1 #[.slice none 0 0, .slice none 0 0, .slice none 0 0, .slice none 0 0, .int .i64 0, .bool false] 116, .cel g0 (irow n (Ec.lay k s).o) 3, .cel g1 (irow n (upI s.e k (-1))) 3, .cel g2 (irow n (upI s.d k (-1))) 3, .cel g3 (irow n (upI (upI s.t k (s.l.length : Int)) k ((s.l.length : Int) - 1))) 3, .cel b #[.slice (some ⟨g0, 0, none⟩) n n, .slice (some ⟨g1, 0, none⟩) n n, .slice (some ⟨g2, 0, none⟩) n n, .slice (some ⟨g3, 0, none⟩) n n, .int .i64 (s.m : Int), .bool false] 116, .own (.slice (some ⟨g, 0, none⟩) s.l.length cp) s.l.length (Ec.lI s.l) 3 1, .cel b19 #[vI (c k), vI (A k), vI (B k)] 75]) 5 hH55 rfl rfl rfl rfl rfl rfl sz4 rfl (Nat.le_of_ble_eq_true rfl) rfl rfl ?_
        intro w63 hH64
        refine WL.k hK62 (WC.seq fun K65 hK65 => WC.region (WL.y (.agg #[vS g0 n n, vS g1 n n, vS g2 n n, vS g3 n n, vI (s.m : Int), .bool false]) 127 (x_loadS (cs := [.slice (some ⟨g0, 0, none⟩) n n, .slice (some ⟨g1, 0, none⟩) n n, .slice (some ⟨g2, 0, none⟩) n n, .slice (some ⟨g3, 0, none⟩) n n, .int .i64 (s.m : Int), .bool false]) rfl rfl Try.underlying116 rfl sz116 (HP.range hH64 5 rfl rfl)) ?_))
        refine WL.storeS (H2 := [.cel b1 #[vS g0 n n, vS g1 n n, vS g2 n n, vS g3 n n, vI (s.m : Int), .bool false] 116, .cel g0 (irow n (Ec.lay k s).o) 3, .cel g1 (irow n (upI s.e k (-1))) 3, .cel g2 (irow n (upI s.d k (-1))) 3, .cel g3 (irow n (upI (upI s.t k (s.l.length : Int)) k ((s.l.length : Int) - 1))) 3, .cel b #[.slice (some ⟨g0, 0, none⟩) n n, .slice (some ⟨g1, 0, none⟩) n n, .slice (some ⟨g2, 0, none⟩) n n, .slice (some ⟨g3, 0, none⟩) n n, .int .i64 (s.m : Int), .bool false] 116, .own (.slice (some ⟨g, 0, none⟩) s.l.length cp) s.l.length (Ec.lI s.l) 3 1, .cel b19 #[vI (c k), vI (A k), vI (B k)] 75]) 0 hH64 rfl rfl rfl rfl rfl rfl sz116 rfl (Nat.le_of_ble_eq_true rfl) rfl rfl ?_
        intro w66 hH67
        refine WL.k hK65 (WC.ret ?_)
        refine WQ.thenRet ?_
        refine WQ.thenRet ?_
        refine WQ.inRet ?_
        refine WQ.inRet ?_
        refine WQ.thenRet ?_
        refine WQ.thenRet ?_
        refine WQ.inRet ?_
        refine WQ.thenRet ?_
        refine WQ.retC 2 116 rfl rfl (HP.loadRow hH67 0 rfl Try.underlying116 rfl sz116) ?_
        have hOK : okS c n = false := shp_bad hs (stp_else_has hA h34 hx (show ¬ upI s.e k (-1) x < 0 by omega)) (by omega)
        refine ⟨g0, g1, g2, g3, (s.m : Int), ⟨[], (Ec.lay k s).o, (upI s.e k (-1)), (upI s.d k (-1)), (upI (upI s.t k (s.l.length : Int)) k ((s.l.length : Int) - 1)), 0⟩, by rw [hOK], ?_, ?_⟩
        · exact HP.drop (HP.drop (HP.drop (HP.drop hH67 7) 6) 5) 0
        · intro hq; rw [hOK] at hq; cases hq
       ·
        refine WL.y (.bool false) 124 (x_geq rfl rfl rfl (dF (he))) (WL.z (.bool false) 125 (WL.k hK61 (WC.sb [(0, .slice (some ⟨bb, oo, none⟩) n cap), (2, vP b1 0), (3, vI (n : Int)), (4, vP b 0), (5, vS g s.l.length cp), (6, vI (k : Int)), (7, vP b19 0), (8, vI (x : Int)), (9, .bool true), (21, .slice (some ⟨bb, oo, none⟩) n cap), (22, vI (n : Int)), (23, vI (k : Int)), (24, .bool true), (59, .bool (opn (c k))), (73, .bool true), (84, .bool false), (115, .bool true), (125, .bool false)] ?_)))
        refine WC.no rfl ?_
        refine WC.skip (WQ.then (hK60 _ _ _ (WC.seq fun K68 hK68 => WC.region (WL.z (vP b 1) 128 (WL.y (vS g1 n n) 129 (x_load rfl rfl Try.underlying33 rfl (HP.cell hH55 5 rfl rfl)) (WL.z (vI (x : Int)) 130 (WL.z (vI (k : Int)) 131 (WL.y (vP g1 x) 132 (x_ix (x) (x) Try.underlying33 sz3) ?_))))))))
        refine WL.store (H2 := [.cel b1 #[.slice none 0 0, .slice none 0 0, .slice none 0 0, .slice none 0 0, .int .i64 0, .bool false] 116, .cel g0 (irow n (Ec.lay k s).o) 3, .cel g1 (irow n (upI (upI s.e k (-1)) x (k : Int))) 3, .cel g2 (irow n (upI s.d k (-1))) 3, .cel g3 (irow n (upI (upI s.t k (s.l.length : Int)) k ((s.l.length : Int) - 1))) 3, .cel b #[.slice (some ⟨g0, 0, none⟩) n n, .slice (some ⟨g1, 0, none⟩) n n, .slice (some ⟨g2, 0, none⟩) n n, .slice (some ⟨g3, 0, none⟩) n n, .int .i64 (s.m : Int), .bool true] 116, .own (.slice (some ⟨g, 0, none⟩) s.l.length cp) s.l.length (Ec.lI s.l) 3 1, .cel b19 #[vI (c k), vI (A k), vI (B k)] 75]) 2 hH55 rfl rfl rfl rfl rfl rfl sz3 rfl (by simp [size_irow]; omega) (irow_set _ _ _ _) rfl ?_
        intro w69 hH70
        refine WL.k hK68 (WC.exit (WQ.thenExit ?_))
        refine WQ.inOther (by decide) ?_
        refine WQ.inExit (WQ.then (hK17 _ _ _ (WC.region (WL.y (vI ((k + 1 : Nat) : Int)) 159 (x_ad (((k + 1 : Nat) : Int))) (WL.z (vI ((k + 1 : Nat) : Int)) 23 (WL.nil ?_))))))
        obtain ⟨s1, hs1⟩ : ∃ s1 : Sh, s1 = ⟨s.l, (Ec.lay k s).o, (upI (upI s.e k (-1)) x (k : Int)), (upI s.d k (-1)), (upI (upI s.t k (s.l.length : Int)) k ((s.l.length : Int) - 1)), s.m⟩ := ⟨_, rfl⟩
        have hsN : shp c (k + 1) = some s1 := by
         rw [hs1]
         exact shp_step hs (stp_else_ok hA h34 hx (two_yes (by omega)) (show upI s.e k (-1) x < 0 by omega))
        have el : s1.l.length = s.l.length := by rw [hs1]
        have eI : Ec.lI s1.l = Ec.lI s.l := by rw [hs1]
        have hN := HP.eq (H' := [.cel b1 #[.slice none 0 0, .slice none 0 0, .slice none 0 0, .slice none 0 0, .int .i64 0, .bool false] 116, .cel g0 (irow n s1.o) 3, .cel g1 (irow n s1.e) 3, .cel g2 (irow n s1.d) 3, .cel g3 (irow n s1.t) 3, .cel b #[.slice (some ⟨g0, 0, none⟩) n n, .slice (some ⟨g1, 0, none⟩) n n, .slice (some ⟨g2, 0, none⟩) n n, .slice (some ⟨g3, 0, none⟩) n n, .int .i64 (s1.m : Int), .bool true] 116, .own (vS g s.l.length cp) s1.l.length (Ec.lI s1.l) 3 1]) (HP.drop hH70 7) (by rw [el, eI]; subst hs1; rfl)
        refine WQ.sb [(0, .slice (some ⟨bb, oo, none⟩) n cap), (2, vP b1 0), (3, vI (n : Int)), (4, vP b 0), (5, vS g s.l.length cp), (21, .slice (some ⟨bb, oo, none⟩) n cap), (22, vI (n : Int)), (23, vI ((k + 1 : Nat) : Int))] ?_
        refine WQ.then (hK12 _ _ _ (by omega) ⟨k + 1, s1, vS g s.l.length cp, rfl, rfl, by omega, hsN, hN⟩)
      ·
       refine WL.y (.bool false) 104 (x_eql rfl rfl rfl (dF (h29))) (WL.z (.bool false) 105 (WL.z (.slice (some ⟨bb, oo, none⟩) n cap) 106 (WL.z (vI (x : Int)) 107 (WL.y (vP bb (oo + x * 3)) 108 (x_ix (x) (oo + x * 3) Try.underlying42 sz75) (WL.z (vP bb (oo + x * 3)) 109 (WL.y (vI (c x)) 110 (x_load rfl rfl Try.underlying3 rfl ((HP.oldRange hH55 trivial (hrow x (by omega))) 0 _ rfl)) ?_))))))
       by_cases h33 : c x = 33
       ·
        refine WL.y (.bool true) 111 (x_eql rfl rfl rfl (dT (h33))) (WL.z (.bool true) 112 (WL.z (.bool true) 9 (WL.k hK57 (WC.sb [(0, .slice (some ⟨bb, oo, none⟩) n cap), (2, vP b1 0), (3, vI (n : Int)), (4, vP b 0), (5, vS g s.l.length cp), (6, vI (k : Int)), (7, vP b19 0), (8, vI (x : Int)), (9, .bool true), (21, .slice (some ⟨bb, oo, none⟩) n cap), (22, vI (n : Int)), (23, vI (k : Int)), (24, .bool true), (59, .bool (opn (c k))), (73, .bool true), (84, .bool false)] (WC.seq fun K71 hK71 => WC.seq fun K72 hK72 => WC.region (WL.z (vP b19 0) 113 (WL.y (vI (c k)) 114 (x_load rfl rfl Try.underlying3 rfl (HP.cell hH55 7 rfl rfl)) ?_)))))))
        refine WL.y (.bool true) 115 (x_eql rfl rfl rfl (dT (by omega))) (WL.k hK72 ?_)
        refine WC.yes rfl ?_
        refine WC.seq fun K73 hK73 => WC.seq fun K74 hK74 => WC.region (WL.z (.bool true) 116 (WL.z (.bool false) 117 (WL.z (.bool false) 118 (WL.z (vP b 1) 119 (WL.y (vS g1 n n) 120 (x_load rfl rfl Try.underlying33 rfl (HP.cell hH55 5 rfl rfl)) (WL.z (vI (x : Int)) 121 (WL.y (vP g1 x) 122 (x_ix (x) (x) Try.underlying33 sz3) (WL.y (vI ((upI s.e k (-1)) x)) 123 (x_load rfl rfl Try.underlying3 rfl (HP.cell hH55 2 rfl (irow_get (by omega) rfl))) ?_))))))))
        by_cases he : (0 : Int) ≤ (upI s.e k (-1)) x
        ·
         refine WL.y (.bool true) 124 (x_geq rfl rfl rfl (dT (he))) (WL.z (.bool true) 125 (WL.k hK74 (WC.sb [(0, .slice (some ⟨bb, oo, none⟩) n cap), (2, vP b1 0), (3, vI (n : Int)), (4, vP b 0), (5, vS g s.l.length cp), (6, vI (k : Int)), (7, vP b19 0), (8, vI (x : Int)), (9, .bool true), (21, .slice (some ⟨bb, oo, none⟩) n cap), (22, vI (n : Int)), (23, vI (k : Int)), (24, .bool true), (59, .bool (opn (c k))), (73, .bool true), (84, .bool false), (115, .bool true), (125, .bool true)] ?_)))
         refine WC.yes rfl ?_
         refine WC.seq fun K75 hK75 => WC.region (WL.z (vP b 5) 126 ?_)
         refine WL.store (H2 := [.cel b1 #[.slice none 0 0, .slice none 0 0, .slice none 0 0, .slice none 0 0, .int .i64 0, .bool false] 116, .cel g0 (irow n (Ec.lay k s).o) 3, .cel g1 (irow n (upI s.e k (-1))) 3, .cel g2 (irow n (upI s.d k (-1))) 3, .cel g3 (irow n (upI (upI s.t k (s.l.length : Int)) k ((s.l.length : Int) - 1))) 3, .cel b #[.slice (some ⟨g0, 0, none⟩) n n, .slice (some ⟨g1, 0, none⟩) n n, .slice (some ⟨g2, 0, none⟩) n n, .slice (some ⟨g3, 0, none⟩) n n, .int .i64 (s.m : Int), .bool false] 116, .own (.slice (some ⟨g, 0, none⟩) s.l.length cp) s.l.length (Ec.lI s.l) 3 1, .cel b19 #[vI (c k), vI (A k), vI (B k)] 75]) 5 hH55 rfl rfl rfl rfl rfl rfl sz4 rfl (Nat.le_of_ble_eq_true rfl) rfl rfl ?_
         intro w76 hH77
         refine WL.k hK75 (WC.seq fun K78 hK78 => WC.region (WL.y (.agg #[vS g0 n n, vS g1 n n, vS g2 n n, vS g3 n n, vI (s.m : Int), .bool false]) 127 (x_loadS (cs := [.slice (some ⟨g0, 0, none⟩) n n, .slice (some ⟨g1, 0, none⟩) n n, .slice (some ⟨g2, 0, none⟩) n n, .slice (some ⟨g3, 0, none⟩) n n, .int .i64 (s.m : Int), .bool false]) rfl rfl Try.underlying116 rfl sz116 (HP.range hH77 5 rfl rfl)) ?_))
         refine WL.storeS (H2 := [.cel b1 #[vS g0 n n, vS g1 n n, vS g2 n n, vS g3 n n, vI (s.m : Int), .bool false] 116, .cel g0 (irow n (Ec.lay k s).o) 3, .cel g1 (irow n (upI s.e k (-1))) 3, .cel g2 (irow n (upI s.d k (-1))) 3, .cel g3 (irow n (upI (upI s.t k (s.l.length : Int)) k ((s.l.length : Int) - 1))) 3, .cel b #[.slice (some ⟨g0, 0, none⟩) n n, .slice (some ⟨g1, 0, none⟩) n n, .slice (some ⟨g2, 0, none⟩) n n, .slice (some ⟨g3, 0, none⟩) n n, .int .i64 (s.m : Int), .bool false] 116, .own (.slice (some ⟨g, 0, none⟩) s.l.length cp) s.l.length (Ec.lI s.l) 3 1, .cel b19 #[vI (c k), vI (A k), vI (B k)] 75]) 0 hH77 rfl rfl rfl rfl rfl rfl sz116 rfl (Nat.le_of_ble_eq_true rfl) rfl rfl ?_
         intro w79 hH80
         refine WL.k hK78 (WC.ret ?_)
         refine WQ.thenRet ?_
         refine WQ.thenRet ?_
         refine WQ.inRet ?_
         refine WQ.inRet ?_
         refine WQ.thenRet ?_
         refine WQ.thenRet ?_
         refine WQ.inRet ?_
         refine WQ.thenRet ?_
         refine WQ.retC 2 116 rfl rfl (HP.loadRow hH80 0 rfl Try.underlying116 rfl sz116) ?_
         have hOK : okS c n = false := shp_bad hs (stp_else_has hA h34 hx (show ¬ upI s.e k (-1) x < 0 by omega)) (by omega)
         refine ⟨g0, g1, g2, g3, (s.m : Int), ⟨[], (Ec.lay k s).o, (upI s.e k (-1)), (upI s.d k (-1)), (upI (upI s.t k (s.l.length : Int)) k ((s.l.length : Int) - 1)), 0⟩, by rw [hOK], ?_, ?_⟩
         · exact HP.drop (HP.drop (HP.drop (HP.drop hH80 7) 6) 5) 0
         · intro hq; rw [hOK] at hq; cases hq
        ·
         refine WL.y (.bool false) 124 (x_geq rfl rfl rfl (dF (he))) (WL.z (.bool false) 125 (WL.k hK74 (WC.sb [(0, .slice (some ⟨bb, oo, none⟩) n cap), (2, vP b1 0), (3, vI (n : Int)), (4, vP b 0), (5, vS g s.l.length cp), (6, vI (k : Int)), (7, vP b19 0), (8, vI (x : Int)), (9, .bool true), (21, .slice (some ⟨bb, oo, none⟩) n cap), (22, vI (n : Int)), (23, vI (k : Int)), (24, .bool true), (59, .bool (opn (c k))), (73, .bool true), (84, .bool false), (115, .bool true), (125, .bool false)] ?_)))
         refine WC.no rfl ?_
         refine WC.skip (WQ.then (hK73 _ _ _ (WC.seq fun K81 hK81 => WC.region (WL.z (vP b 1) 128 (WL.y (vS g1 n n) 129 (x_load rfl rfl Try.underlying33 rfl (HP.cell hH55 5 rfl rfl)) (WL.z (vI (x : Int)) 130 (WL.z (vI (k : Int)) 131 (WL.y (vP g1 x) 132 (x_ix (x) (x) Try.underlying33 sz3) ?_))))))))
         refine WL.store (H2 := [.cel b1 #[.slice none 0 0, .slice none 0 0, .slice none 0 0, .slice none 0 0, .int .i64 0, .bool false] 116, .cel g0 (irow n (Ec.lay k s).o) 3, .cel g1 (irow n (upI (upI s.e k (-1)) x (k : Int))) 3, .cel g2 (irow n (upI s.d k (-1))) 3, .cel g3 (irow n (upI (upI s.t k (s.l.length : Int)) k ((s.l.length : Int) - 1))) 3, .cel b #[.slice (some ⟨g0, 0, none⟩) n n, .slice (some ⟨g1, 0, none⟩) n n, .slice (some ⟨g2, 0, none⟩) n n, .slice (some ⟨g3, 0, none⟩) n n, .int .i64 (s.m : Int), .bool true] 116, .own (.slice (some ⟨g, 0, none⟩) s.l.length cp) s.l.length (Ec.lI s.l) 3 1, .cel b19 #[vI (c k), vI (A k), vI (B k)] 75]) 2 hH55 rfl rfl rfl rfl rfl rfl sz3 rfl (by simp [size_irow]; omega) (irow_set _ _ _ _) rfl ?_
         intro w82 hH83
         refine WL.k hK81 (WC.exit (WQ.thenExit ?_))
         refine WQ.inOther (by decide) ?_
         refine WQ.inExit (WQ.then (hK17 _ _ _ (WC.region (WL.y (vI ((k + 1 : Nat) : Int)) 159 (x_ad (((k + 1 : Nat) : Int))) (WL.z (vI ((k + 1 : Nat) : Int)) 23 (WL.nil ?_))))))
         obtain ⟨s1, hs1⟩ : ∃ s1 : Sh, s1 = ⟨s.l, (Ec.lay k s).o, (upI (upI s.e k (-1)) x (k : Int)), (upI s.d k (-1)), (upI (upI s.t k (s.l.length : Int)) k ((s.l.length : Int) - 1)), s.m⟩ := ⟨_, rfl⟩
         have hsN : shp c (k + 1) = some s1 := by
          rw [hs1]
          exact shp_step hs (stp_else_ok hA h34 hx (two_yes (by omega)) (show upI s.e k (-1) x < 0 by omega))
         have el : s1.l.length = s.l.length := by rw [hs1]
         have eI : Ec.lI s1.l = Ec.lI s.l := by rw [hs1]
         have hN := HP.eq (H' := [.cel b1 #[.slice none 0 0, .slice none 0 0, .slice none 0 0, .slice none 0 0, .int .i64 0, .bool false] 116, .cel g0 (irow n s1.o) 3, .cel g1 (irow n s1.e) 3, .cel g2 (irow n s1.d) 3, .cel g3 (irow n s1.t) 3, .cel b #[.slice (some ⟨g0, 0, none⟩) n n, .slice (some ⟨g1, 0, none⟩) n n, .slice (some ⟨g2, 0, none⟩) n n, .slice (some ⟨g3, 0, none⟩) n n, .int .i64 (s1.m : Int), .bool true] 116, .own (vS g s.l.length cp) s1.l.length (Ec.lI s1.l) 3 1]) (HP.drop hH83 7) (by rw [el, eI]; subst hs1; rfl)
         refine WQ.sb [(0, .slice (some ⟨bb, oo, none⟩) n cap), (2, vP b1 0), (3, vI (n : Int)), (4, vP b 0), (5, vS g s.l.length cp), (21, .slice (some ⟨bb, oo, none⟩) n cap), (22, vI (n : Int)), (23, vI ((k + 1 : Nat) : Int))] ?_
         refine WQ.then (hK12 _ _ _ (by omega) ⟨k + 1, s1, vS g s.l.length cp, rfl, rfl, by omega, hsN, hN⟩)
       ·
        refine WL.y (.bool false) 111 (x_eql rfl rfl rfl (dF (h33))) (WL.z (.bool false) 112 (WL.z (.bool false) 9 (WL.k hK57 (WC.sb [(0, .slice (some ⟨bb, oo, none⟩) n cap), (2, vP b1 0), (3, vI (n : Int)), (4, vP b 0), (5, vS g s.l.length cp), (6, vI (k : Int)), (7, vP b19 0), (8, vI (x : Int)), (9, .bool false), (21, .slice (some ⟨bb, oo, none⟩) n cap), (22, vI (n : Int)), (23, vI (k : Int)), (24, .bool true), (59, .bool (opn (c k))), (73, .bool true), (84, .bool false)] (WC.seq fun K84 hK84 => WC.seq fun K85 hK85 => WC.region (WL.z (vP b19 0) 113 (WL.y (vI (c k)) 114 (x_load rfl rfl Try.underlying3 rfl (HP.cell hH55 7 rfl rfl)) ?_)))))))
        refine WL.y (.bool true) 115 (x_eql rfl rfl rfl (dT (by omega))) (WL.k hK85 ?_)
        refine WC.yes rfl ?_
        refine WC.seq fun K86 hK86 => WC.seq fun K87 hK87 => WC.region (WL.z (.bool false) 116 (WL.z (.bool true) 117 (WL.z (.bool true) 118 ?_)))
        refine WL.pass 119 rfl (by decide) rfl ?_
        refine WL.pass 120 rfl (by decide) rfl ?_
        refine WL.pass 121 rfl (by decide) rfl ?_
        refine WL.pass 122 rfl (by decide) rfl ?_
        refine WL.pass 123 rfl (by decide) rfl ?_
        refine WL.pass 124 rfl (by decide) rfl ?_
        refine WL.z (.bool true) 125 (WL.k hK87 (WC.sb [(0, .slice (some ⟨bb, oo, none⟩) n cap), (2, vP b1 0), (3, vI (n : Int)), (4, vP b 0), (5, vS g s.l.length cp), (6, vI (k : Int)), (7, vP b19 0), (8, vI (x : Int)), (9, .bool false), (21, .slice (some ⟨bb, oo, none⟩) n cap), (22, vI (n : Int)), (23, vI (k : Int)), (24, .bool true), (59, .bool (opn (c k))), (73, .bool true), (84, .bool false), (115, .bool true), (125, .bool true)] ?_))
        refine WC.yes rfl ?_
        refine WC.seq fun K88 hK88 => WC.region (WL.z (vP b 5) 126 ?_)
        refine WL.store (H2 := [.cel b1 #[.slice none 0 0, .slice none 0 0, .slice none 0 0, .slice none 0 0, .int .i64 0, .bool false] 116, .cel g0 (irow n (Ec.lay k s).o) 3, .cel g1 (irow n (upI s.e k (-1))) 3, .cel g2 (irow n (upI s.d k (-1))) 3, .cel g3 (irow n (upI (upI s.t k (s.l.length : Int)) k ((s.l.length : Int) - 1))) 3, .cel b #[.slice (some ⟨g0, 0, none⟩) n n, .slice (some ⟨g1, 0, none⟩) n n, .slice (some ⟨g2, 0, none⟩) n n, .slice (some ⟨g3, 0, none⟩) n n, .int .i64 (s.m : Int), .bool false] 116, .own (.slice (some ⟨g, 0, none⟩) s.l.length cp) s.l.length (Ec.lI s.l) 3 1, .cel b19 #[vI (c k), vI (A k), vI (B k)] 75]) 5 hH55 rfl rfl rfl rfl rfl rfl sz4 rfl (Nat.le_of_ble_eq_true rfl) rfl rfl ?_
        intro w89 hH90
        refine WL.k hK88 (WC.seq fun K91 hK91 => WC.region (WL.y (.agg #[vS g0 n n, vS g1 n n, vS g2 n n, vS g3 n n, vI (s.m : Int), .bool false]) 127 (x_loadS (cs := [.slice (some ⟨g0, 0, none⟩) n n, .slice (some ⟨g1, 0, none⟩) n n, .slice (some ⟨g2, 0, none⟩) n n, .slice (some ⟨g3, 0, none⟩) n n, .int .i64 (s.m : Int), .bool false]) rfl rfl Try.underlying116 rfl sz116 (HP.range hH90 5 rfl rfl)) ?_))
        refine WL.storeS (H2 := [.cel b1 #[vS g0 n n, vS g1 n n, vS g2 n n, vS g3 n n, vI (s.m : Int), .bool false] 116, .cel g0 (irow n (Ec.lay k s).o) 3, .cel g1 (irow n (upI s.e k (-1))) 3, .cel g2 (irow n (upI s.d k (-1))) 3, .cel g3 (irow n (upI (upI s.t k (s.l.length : Int)) k ((s.l.length : Int) - 1))) 3, .cel b #[.slice (some ⟨g0, 0, none⟩) n n, .slice (some ⟨g1, 0, none⟩) n n, .slice (some ⟨g2, 0, none⟩) n n, .slice (some ⟨g3, 0, none⟩) n n, .int .i64 (s.m : Int), .bool false] 116, .own (.slice (some ⟨g, 0, none⟩) s.l.length cp) s.l.length (Ec.lI s.l) 3 1, .cel b19 #[vI (c k), vI (A k), vI (B k)] 75]) 0 hH90 rfl rfl rfl rfl rfl rfl sz116 rfl (Nat.le_of_ble_eq_true rfl) rfl rfl ?_
        intro w92 hH93
        refine WL.k hK91 (WC.ret ?_)
        refine WQ.thenRet ?_
        refine WQ.thenRet ?_
        refine WQ.inRet ?_
        refine WQ.inRet ?_
        refine WQ.thenRet ?_
        refine WQ.thenRet ?_
        refine WQ.inRet ?_
        refine WQ.thenRet ?_
        refine WQ.retC 2 116 rfl rfl (HP.loadRow hH93 0 rfl Try.underlying116 rfl sz116) ?_
        have hOK : okS c n = false := shp_bad hs (stp_else_two hA h34 hx (two_no h29 h33)) (by omega)
        refine ⟨g0, g1, g2, g3, (s.m : Int), ⟨[], (Ec.lay k s).o, (upI s.e k (-1)), (upI s.d k (-1)), (upI (upI s.t k (s.l.length : Int)) k ((s.l.length : Int) - 1)), 0⟩, by rw [hOK], ?_, ?_⟩
        · exact HP.drop (HP.drop (HP.drop (HP.drop hH93 7) 6) 5) 0
        · intro hq; rw [hOK] at hq; cases hq
    ·
     refine WL.y (.bool false) 76 (x_eql rfl rfl rfl (dF (h34))) (WL.z (.bool false) 77 (WL.z (vP b19 0) 78 (WL.y (vI (c k)) 79 (x_load rfl rfl Try.underlying3 rfl (HP.cell hH32 7 rfl rfl)) ?_)))
     by_cases h35 : c k = 35
     ·
      refine WL.y (.bool true) 80 (x_eql rfl rfl rfl (dT (h35))) (WL.z (.bool true) 81 (WL.z (.bool true) 73 (WL.k hK44 (WC.sb [(0, .slice (some ⟨bb, oo, none⟩) n cap), (2, vP b1 0), (3, vI (n : Int)), (4, vP b 0), (5, .slice pv s.l.length cp), (6, vI (k : Int)), (7, vP b19 0), (21, .slice (some ⟨bb, oo, none⟩) n cap), (22, vI (n : Int)), (23, vI (k : Int)), (24, .bool true), (59, .bool (opn (c k))), (73, .bool true)] ?_))))
      refine WC.yes rfl ?_
      refine WC.seq fun K94 hK94 => WC.seq fun K95 hK95 => WC.region (WL.z (.slice pv s.l.length cp) 82 (WL.z (vI (s.l.length : Int)) 83 ?_))
      by_cases h0b : (s.l.length : Int) = 0
      ·
       refine WL.y (.bool true) 84 (x_eql rfl rfl rfl (dT (h0b))) (WL.k hK95 ?_)
       refine WC.yes rfl ?_
       refine WC.seq fun K96 hK96 => WC.region (WL.z (vP b 5) 85 ?_)
       refine WL.store (H2 := [.cel b1 #[.slice none 0 0, .slice none 0 0, .slice none 0 0, .slice none 0 0, .int .i64 0, .bool false] 116, .cel g0 (irow n (Ec.lay k s).o) 3, .cel g1 (irow n (upI s.e k (-1))) 3, .cel g2 (irow n (upI s.d k (-1))) 3, .cel g3 (irow n (upI s.t k (s.l.length : Int))) 3, .cel b #[.slice (some ⟨g0, 0, none⟩) n n, .slice (some ⟨g1, 0, none⟩) n n, .slice (some ⟨g2, 0, none⟩) n n, .slice (some ⟨g3, 0, none⟩) n n, .int .i64 (s.m : Int), .bool false] 116, .own (.slice pv s.l.length cp) s.l.length (Ec.lI s.l) 3 1, .cel b19 #[vI (c k), vI (A k), vI (B k)] 75]) 5 hH32 rfl rfl rfl rfl rfl rfl sz4 rfl (Nat.le_of_ble_eq_true rfl) rfl rfl ?_
       intro w97 hH98
       refine WL.k hK96 (WC.seq fun K99 hK99 => WC.region (WL.y (.agg #[vS g0 n n, vS g1 n n, vS g2 n n, vS g3 n n, vI (s.m : Int), .bool false]) 86 (x_loadS (cs := [.slice (some ⟨g0, 0, none⟩) n n, .slice (some ⟨g1, 0, none⟩) n n, .slice (some ⟨g2, 0, none⟩) n n, .slice (some ⟨g3, 0, none⟩) n n, .int .i64 (s.m : Int), .bool false]) rfl rfl Try.underlying116 rfl sz116 (HP.range hH98 5 rfl rfl)) ?_))
       refine WL.storeS (H2 := [.cel b1 #[vS g0 n n, vS g1 n n, vS g2 n n, vS g3 n n, vI (s.m : Int), .bool false] 116, .cel g0 (irow n (Ec.lay k s).o) 3, .cel g1 (irow n (upI s.e k (-1))) 3, .cel g2 (irow n (upI s.d k (-1))) 3, .cel g3 (irow n (upI s.t k (s.l.length : Int))) 3, .cel b #[.slice (some ⟨g0, 0, none⟩) n n, .slice (some ⟨g1, 0, none⟩) n n, .slice (some ⟨g2, 0, none⟩) n n, .slice (some ⟨g3, 0, none⟩) n n, .int .i64 (s.m : Int), .bool false] 116, .own (.slice pv s.l.length cp) s.l.length (Ec.lI s.l) 3 1, .cel b19 #[vI (c k), vI (A k), vI (B k)] 75]) 0 hH98 rfl rfl rfl rfl rfl rfl sz116 rfl (Nat.le_of_ble_eq_true rfl) rfl rfl ?_
       intro w100 hH101
       refine WL.k hK99 (WC.ret ?_)
       refine WQ.thenRet ?_
       refine WQ.inRet ?_
       refine WQ.inRet ?_
       refine WQ.thenRet ?_
       refine WQ.thenRet ?_
       refine WQ.inRet ?_
       refine WQ.thenRet ?_
       refine WQ.retC 2 116 rfl rfl (HP.loadRow hH101 0 rfl Try.underlying116 rfl sz116) ?_
       have hOK : okS c n = false := shp_bad hs (stp_none_nil hA (by omega) (by omega)) (by omega)
       refine ⟨g0, g1, g2, g3, (s.m : Int), ⟨[], (Ec.lay k s).o, (upI s.e k (-1)), (upI s.d k (-1)), (upI s.t k (s.l.length : Int)), 0⟩, by rw [hOK], ?_, ?_⟩
       · exact HP.drop (HP.drop (HP.drop (HP.drop hH101 7) 6) 5) 0
       · intro hq; rw [hOK] at hq; cases hq
      ·
       refine WL.y (.bool false) 84 (x_eql rfl rfl rfl (dF (h0b))) (WL.k hK95 ?_)
       refine WC.no rfl ?_
       refine WC.skip (WQ.then (hK94 _ _ _ (WC.seq fun K102 hK102 => ?_)))
       obtain ⟨g, rfl⟩ := hpv (by omega)
       obtain ⟨x, hx⟩ := last_of (l := s.l) (by omega)
       have hxk := (shp_lt k s hs).1 x (List.mem_of_getLast? hx)
       refine WC.region (WL.z (vP b 3) 87 (WL.y (vS g3 n n) 88 (x_load rfl rfl Try.underlying33 rfl (HP.cell hH32 5 rfl rfl)) (WL.z (vI (k : Int)) 89 (WL.z (vS g s.l.length cp) 90 (WL.z (vI (s.l.length : Int)) 91 (WL.y (vI ((s.l.length : Int) - 1)) 92 (x_sub (Z := (s.l.length : Int) - 1) rfl rfl rfl (by omega) (by omega) (by omega)) (WL.y (vP g3 k) 93 (x_ix (k) (k) Try.underlying33 sz3) ?_)))))))
       refine WL.store (H2 := [.cel b1 #[.slice none 0 0, .slice none 0 0, .slice none 0 0, .slice none 0 0, .int .i64 0, .bool false] 116, .cel g0 (irow n (Ec.lay k s).o) 3, .cel g1 (irow n (upI s.e k (-1))) 3, .cel g2 (irow n (upI s.d k (-1))) 3, .cel g3 (irow n (upI (upI s.t k (s.l.length : Int)) k ((s.l.length : Int) - 1))) 3, .cel b #[.slice (some ⟨g0, 0, none⟩) n n, .slice (some ⟨g1, 0, none⟩) n n, .slice (some ⟨g2, 0, none⟩) n n, .slice (some ⟨g3, 0, none⟩) n n, .int .i64 (s.m : Int), .bool true] 116, .own (.slice (some ⟨g, 0, none⟩) s.l.length cp) s.l.length (Ec.lI s.l) 3 1, .cel b19 #[vI (c k), vI (A k), vI (B k)] 75]) 4 hH32 rfl rfl rfl rfl rfl rfl sz3 rfl (by simp [size_irow]; omega) (irow_set _ _ _ _) rfl ?_
       intro w103 hH104
       refine WL.k hK102 (WC.sb [(0, .slice (some ⟨bb, oo, none⟩) n cap), (2, vP b1 0), (3, vI (n : Int)), (4, vP b 0), (5, vS g s.l.length cp), (6, vI (k : Int)), (7, vP b19 0), (21, .slice (some ⟨bb, oo, none⟩) n cap), (22, vI (n : Int)), (23, vI (k : Int)), (24, .bool true), (59, .bool (opn (c k))), (73, .bool true), (84, .bool false)] (WC.seq fun K105 hK105 => WC.region (WL.z (vP b 0) 94 (WL.y (vS g0 n n) 95 (x_load rfl rfl Try.underlying33 rfl (HP.cell hH104 5 rfl rfl)) (WL.z (vI (k : Int)) 96 (WL.y (vP g0 k) 97 (x_ix (k) (k) Try.underlying33 sz3) (WL.y (vI (x : Int)) 98 (x_load rfl rfl Try.underlying3 rfl (HP.cell hH104 1 rfl (irow_get (by omega) (lay_o_top hx)))) (WL.z (vI (x : Int)) 8 ?_))))))))
       refine WL.k hK105 (WC.seq fun K106 hK106 => WC.region (WL.z (.slice (some ⟨bb, oo, none⟩) n cap) 99 (WL.z (vI (x : Int)) 100 (WL.y (vP bb (oo + x * 3)) 101 (x_ix (x) (oo + x * 3) Try.underlying42 sz75) (WL.z (vP bb (oo + x * 3)) 102 (WL.y (vI (c x)) 103 (x_load rfl rfl Try.underlying3 rfl ((HP.oldRange hH104 trivial (hrow x (by omega))) 0 _ rfl)) ?_))))))
       by_cases h29 : c x = 29
       ·
        refine WL.y (.bool true) 104 (x_eql rfl rfl rfl (dT (h29))) (WL.z (.bool true) 105 ?_)
        refine WL.pass 106 rfl (by decide) rfl ?_
        refine WL.pass 107 rfl (by decide) rfl ?_
        refine WL.pass 108 rfl (by decide) rfl ?_
        refine WL.pass 109 rfl (by decide) rfl ?_
        refine WL.pass 110 rfl (by decide) rfl ?_
        refine WL.pass 111 rfl (by decide) rfl ?_
        refine WL.z (.bool true) 112 (WL.z (.bool true) 9 (WL.k hK106 (WC.sb [(0, .slice (some ⟨bb, oo, none⟩) n cap), (2, vP b1 0), (3, vI (n : Int)), (4, vP b 0), (5, vS g s.l.length cp), (6, vI (k : Int)), (7, vP b19 0), (8, vI (x : Int)), (9, .bool true), (21, .slice (some ⟨bb, oo, none⟩) n cap), (22, vI (n : Int)), (23, vI (k : Int)), (24, .bool true), (59, .bool (opn (c k))), (73, .bool true), (84, .bool false)] (WC.seq fun K107 hK107 => WC.seq fun K108 hK108 => WC.region (WL.z (vP b19 0) 113 (WL.y (vI (c k)) 114 (x_load rfl rfl Try.underlying3 rfl (HP.cell hH104 7 rfl rfl)) (WL.y (.bool false) 115 (x_eql rfl rfl rfl (dF (by omega))) ?_)))))))
        refine WL.k hK108 (WC.no rfl ?_)
        refine WC.skip (WQ.then (hK107 _ _ _ (WC.seq fun K109 hK109 => WC.seq fun K110 hK110 => WC.region (WL.z (.slice (some ⟨bb, oo, none⟩) n cap) 133 (WL.z (vI (x : Int)) 134 (WL.y (vP bb (oo + x * 3)) 135 (x_ix (x) (oo + x * 3) Try.underlying42 sz75) (WL.z (vP bb (oo + x * 3)) 136 (WL.y (vI (c x)) 137 (x_load rfl rfl Try.underlying3 rfl ((HP.oldRange hH104 trivial (hrow x (by omega))) 0 _ rfl)) (WL.y (.bool false) 138 (x_eql rfl rfl rfl (dF (by omega))) ?_)))))))))
        refine WL.z (.bool false) 139 ?_
        refine WL.pass 140 rfl (by decide) rfl ?_
        refine WL.pass 141 rfl (by decide) rfl ?_
        refine WL.pass 142 rfl (by decide) rfl ?_
        refine WL.pass 143 rfl (by decide) rfl ?_
        refine WL.pass 144 rfl (by decide) rfl ?_
        refine WL.pass 145 rfl (by decide) rfl ?_
        refine WL.z (.bool false) 146 (WL.k hK110 (WC.sb [(0, .slice (some ⟨bb, oo, none⟩) n cap), (2, vP b1 0), (3, vI (n : Int)), (4, vP b 0), (5, vS g s.l.length cp), (6, vI (k : Int)), (7, vP b19 0), (8, vI (x : Int)), (9, .bool true), (21, .slice (some ⟨bb, oo, none⟩) n cap), (22, vI (n : Int)), (23, vI (k : Int)), (24, .bool true), (59, .bool (opn (c k))), (73, .bool true), (84, .bool false), (115, .bool false), (146, .bool false)] ?_))
        refine WC.no rfl ?_
        refine WC.skip (WQ.then (hK109 _ _ _ (WC.seq fun K111 hK111 => WC.region (WL.z (vP b 2) 149 (WL.y (vS g2 n n) 150 (x_load rfl rfl Try.underlying33 rfl (HP.cell hH104 5 rfl rfl)) (WL.z (vI (x : Int)) 151 (WL.z (vI (k : Int)) 152 (WL.y (vP g2 x) 153 (x_ix (x) (x) Try.underlying33 sz3) ?_))))))))
        refine WL.store (H2 := [.cel b1 #[.slice none 0 0, .slice none 0 0, .slice none 0 0, .slice none 0 0, .int .i64 0, .bool false] 116, .cel g0 (irow n (Ec.lay k s).o) 3, .cel g1 (irow n (upI s.e k (-1))) 3, .cel g2 (irow n (upI (upI s.d k (-1)) x (k : Int))) 3, .cel g3 (irow n (upI (upI s.t k (s.l.length : Int)) k ((s.l.length : Int) - 1))) 3, .cel b #[.slice (some ⟨g0, 0, none⟩) n n, .slice (some ⟨g1, 0, none⟩) n n, .slice (some ⟨g2, 0, none⟩) n n, .slice (some ⟨g3, 0, none⟩) n n, .int .i64 (s.m : Int), .bool true] 116, .own (.slice (some ⟨g, 0, none⟩) s.l.length cp) s.l.length (Ec.lI s.l) 3 1, .cel b19 #[vI (c k), vI (A k), vI (B k)] 75]) 3 hH104 rfl rfl rfl rfl rfl rfl sz3 rfl (by simp [size_irow]; omega) (irow_set _ _ _ _) rfl ?_
        intro w112 hH113
        refine WL.k hK111 (WC.region (WL.z (vS g s.l.length cp) 154 (WL.z (vS g s.l.length cp) 155 (WL.z (vI (s.l.length : Int)) 156 (WL.y (vI ((s.l.length - 1 : Nat) : Int)) 157 (x_sub (Z := ((s.l.length - 1 : Nat) : Int)) rfl rfl rfl (by omega) (by omega) (by omega)) (WL.y (vS g (s.l.length - 1) cp) 158 (x_sliceH (s.l.length - 1) rfl rfl rfl Try.underlying33 rfl (by omega) sz3) ?_))))))
        have hH114 : HP Tr w _ [.cel b1 #[.slice none 0 0, .slice none 0 0, .slice none 0 0, .slice none 0 0, .int .i64 0, .bool false] 116, .cel g0 (irow n (Ec.lay k s).o) 3, .cel g1 (irow n (upI s.e k (-1))) 3, .cel g2 (irow n (upI (upI s.d k (-1)) x (k : Int))) 3, .cel g3 (irow n (upI (upI s.t k (s.l.length : Int)) k ((s.l.length : Int) - 1))) 3, .cel b #[.slice (some ⟨g0, 0, none⟩) n n, .slice (some ⟨g1, 0, none⟩) n n, .slice (some ⟨g2, 0, none⟩) n n, .slice (some ⟨g3, 0, none⟩) n n, .int .i64 (s.m : Int), .bool true] 116, .own (.slice (some ⟨g, 0, none⟩) (s.l.length - 1) cp) (s.l.length - 1) (Ec.lI s.l.dropLast) 3 1, .cel b19 #[vI (c k), vI (A k), vI (B k)] 75] := HP.repl hH113 6 rfl (own_pop (HP.get hH113 6 rfl) (by simp)) rfl
        refine WL.z (vS g (s.l.length - 1) cp) 5 (WL.nil (WQ.inNormal (WQ.inNormal (WQ.then (hK17 _ _ _ (WC.sb [(0, .slice (some ⟨bb, oo, none⟩) n cap), (2, vP b1 0), (3, vI (n : Int)), (4, vP b 0), (5, vS g (s.l.length - 1) cp), (6, vI (k : Int)), (7, vP b19 0), (8, vI (x : Int)), (9, .bool true), (21, .slice (some ⟨bb, oo, none⟩) n cap), (22, vI (n : Int)), (23, vI (k : Int)), (24, .bool true), (59, .bool (opn (c k))), (73, .bool true), (84, .bool false), (115, .bool false), (146, .bool false)] (WC.region (WL.y (vI ((k + 1 : Nat) : Int)) 159 (x_ad (((k + 1 : Nat) : Int))) (WL.z (vI ((k + 1 : Nat) : Int)) 23 (WL.nil ?_))))))))))
        obtain ⟨s1, hs1⟩ : ∃ s1 : Sh, s1 = ⟨s.l.dropLast, (Ec.lay k s).o, (upI s.e k (-1)), (upI (upI s.d k (-1)) x (k : Int)), (upI (upI s.t k (s.l.length : Int)) k ((s.l.length : Int) - 1)), s.m⟩ := ⟨_, rfl⟩
        have hsN : shp c (k + 1) = some s1 := by
         rw [hs1]
         exact shp_step hs (stp_end_ok hA h35 hx (show ¬ (c x = 33 ∧ upI s.e k (-1) x < 0) by omega))
        have el : s1.l.length = s.l.length - 1 := by rw [hs1]; simp
        have eI : Ec.lI s1.l = Ec.lI s.l.dropLast := by rw [hs1]
        have hN := HP.eq (H' := [.cel b1 #[.slice none 0 0, .slice none 0 0, .slice none 0 0, .slice none 0 0, .int .i64 0, .bool false] 116, .cel g0 (irow n s1.o) 3, .cel g1 (irow n s1.e) 3, .cel g2 (irow n s1.d) 3, .cel g3 (irow n s1.t) 3, .cel b #[.slice (some ⟨g0, 0, none⟩) n n, .slice (some ⟨g1, 0, none⟩) n n, .slice (some ⟨g2, 0, none⟩) n n, .slice (some ⟨g3, 0, none⟩) n n, .int .i64 (s1.m : Int), .bool true] 116, .own (vS g (s.l.length - 1) cp) s1.l.length (Ec.lI s1.l) 3 1]) (HP.drop hH114 7) (by rw [el, eI]; subst hs1; rfl)
        refine WQ.sb [(0, .slice (some ⟨bb, oo, none⟩) n cap), (2, vP b1 0), (3, vI (n : Int)), (4, vP b 0), (5, vS g (s.l.length - 1) cp), (21, .slice (some ⟨bb, oo, none⟩) n cap), (22, vI (n : Int)), (23, vI ((k + 1 : Nat) : Int))] ?_
        refine WQ.then (hK12 _ _ _ (by omega) ⟨k + 1, s1, vS g (s.l.length - 1) cp, rfl, rfl, by omega, hsN, hN⟩)
       ·
        refine WL.y (.bool false) 104 (x_eql rfl rfl rfl (dF (h29))) (WL.z (.bool false) 105 (WL.z (.slice (some ⟨bb, oo, none⟩) n cap) 106 (WL.z (vI (x : Int)) 107 (WL.y (vP bb (oo + x * 3)) 108 (x_ix (x) (oo + x * 3) Try.underlying42 sz75) (WL.z (vP bb (oo + x * 3)) 109 (WL.y (vI (c x)) 110 (x_load rfl rfl Try.underlying3 rfl ((HP.oldRange hH104 trivial (hrow x (by omega))) 0 _ rfl)) ?_))))))
        by_cases h33 : c x = 33
        ·
         refine WL.y (.bool true) 111 (x_eql rfl rfl rfl (dT (h33))) (WL.z (.bool true) 112 (WL.z (.bool true) 9 (WL.k hK106 (WC.sb [(0, .slice (some ⟨bb, oo, none⟩) n cap), (2, vP b1 0), (3, vI (n : Int)), (4, vP b 0), (5, vS g s.l.length cp), (6, vI (k : Int)), (7, vP b19 0), (8, vI (x : Int)), (9, .bool true), (21, .slice (some ⟨bb, oo, none⟩) n cap), (22, vI (n : Int)), (23, vI (k : Int)), (24, .bool true), (59, .bool (opn (c k))), (73, .bool true), (84, .bool false)] (WC.seq fun K115 hK115 => WC.seq fun K116 hK116 => WC.region (WL.z (vP b19 0) 113 (WL.y (vI (c k)) 114 (x_load rfl rfl Try.underlying3 rfl (HP.cell hH104 7 rfl rfl)) ?_)))))))
         refine WL.y (.bool false) 115 (x_eql rfl rfl rfl (dF (by omega))) (WL.k hK116 ?_)
         refine WC.no rfl ?_
         refine WC.skip (WQ.then (hK115 _ _ _ (WC.seq fun K117 hK117 => WC.seq fun K118 hK118 => WC.region (WL.z (.slice (some ⟨bb, oo, none⟩) n cap) 133 (WL.z (vI (x : Int)) 134 (WL.y (vP bb (oo + x * 3)) 135 (x_ix (x) (oo + x * 3) Try.underlying42 sz75) (WL.z (vP bb (oo + x * 3)) 136 (WL.y (vI (c x)) 137 (x_load rfl rfl Try.underlying3 rfl ((HP.oldRange hH104 trivial (hrow x (by omega))) 0 _ rfl)) (WL.y (.bool true) 138 (x_eql rfl rfl rfl (dT (by omega))) ?_)))))))))
         refine WL.z (.bool true) 139 (WL.z (vP b 1) 140 (WL.y (vS g1 n n) 141 (x_load rfl rfl Try.underlying33 rfl (HP.cell hH104 5 rfl rfl)) (WL.z (vI (x : Int)) 142 (WL.y (vP g1 x) 143 (x_ix (x) (x) Try.underlying33 sz3) (WL.y (vI ((upI s.e k (-1)) x)) 144 (x_load rfl rfl Try.underlying3 rfl (HP.cell hH104 2 rfl (irow_get (by omega) rfl))) ?_)))))
         by_cases he : (upI s.e k (-1)) x < 0
         ·
          refine WL.y (.bool true) 145 (x_lss rfl rfl rfl (dT (he))) (WL.z (.bool true) 146 (WL.k hK118 (WC.sb [(0, .slice (some ⟨bb, oo, none⟩) n cap), (2, vP b1 0), (3, vI (n : Int)), (4, vP b 0), (5, vS g s.l.length cp), (6, vI (k : Int)), (7, vP b19 0), (8, vI (x : Int)), (9, .bool true), (21, .slice (some ⟨bb, oo, none⟩) n cap), (22, vI (n : Int)), (23, vI (k : Int)), (24, .bool true), (59, .bool (opn (c k))), (73, .bool true), (84, .bool false), (115, .bool false), (146, .bool true)] ?_)))
          refine WC.yes rfl ?_
          refine WC.seq fun K119 hK119 => WC.region (WL.z (vP b 5) 147 ?_)
          refine WL.store (H2 := [.cel b1 #[.slice none 0 0, .slice none 0 0, .slice none 0 0, .slice none 0 0, .int .i64 0, .bool false] 116, .cel g0 (irow n (Ec.lay k s).o) 3, .cel g1 (irow n (upI s.e k (-1))) 3, .cel g2 (irow n (upI s.d k (-1))) 3, .cel g3 (irow n (upI (upI s.t k (s.l.length : Int)) k ((s.l.length : Int) - 1))) 3, .cel b #[.slice (some ⟨g0, 0, none⟩) n n, .slice (some ⟨g1, 0, none⟩) n n, .slice (some ⟨g2, 0, none⟩) n n, .slice (some ⟨g3, 0, none⟩) n n, .int .i64 (s.m : Int), .bool false] 116, .own (.slice (some ⟨g, 0, none⟩) s.l.length cp) s.l.length (Ec.lI s.l) 3 1, .cel b19 #[vI (c k), vI (A k), vI (B k)] 75]) 5 hH104 rfl rfl rfl rfl rfl rfl sz4 rfl (Nat.le_of_ble_eq_true rfl) rfl rfl ?_
          intro w120 hH121
          refine WL.k hK119 (WC.seq fun K122 hK122 => WC.region (WL.y (.agg #[vS g0 n n, vS g1 n n, vS g2 n n, vS g3 n n, vI (s.m : Int), .bool false]) 148 (x_loadS (cs := [.slice (some ⟨g0, 0, none⟩) n n, .slice (some ⟨g1, 0, none⟩) n n, .slice (some ⟨g2, 0, none⟩) n n, .slice (some ⟨g3, 0, none⟩) n n, .int .i64 (s.m : Int), .bool false]) rfl rfl Try.underlying116 rfl sz116 (HP.range hH121 5 rfl rfl)) ?_))
          refine WL.storeS (H2 := [.cel b1 #[vS g0 n n, vS g1 n n, vS g2 n n, vS g3 n n, vI (s.m : Int), .bool false] 116, .cel g0 (irow n (Ec.lay k s).o) 3, .cel g1 (irow n (upI s.e k (-1))) 3, .cel g2 (irow n (upI s.d k (-1))) 3, .cel g3 (irow n (upI (upI s.t k (s.l.length : Int)) k ((s.l.length : Int) - 1))) 3, .cel b #[.slice (some ⟨g0, 0, none⟩) n n, .slice (some ⟨g1, 0, none⟩) n n, .slice (some ⟨g2, 0, none⟩) n n, .slice (some ⟨g3, 0, none⟩) n n, .int .i64 (s.m : Int), .bool false] 116, .own (.slice (some ⟨g, 0, none⟩) s.l.length cp) s.l.length (Ec.lI s.l) 3 1, .cel b19 #[vI (c k), vI (A k), vI (B k)] 75]) 0 hH121 rfl rfl rfl rfl rfl rfl sz116 rfl (Nat.le_of_ble_eq_true rfl) rfl rfl ?_
          intro w123 hH124
          refine WL.k hK122 (WC.ret ?_)
          refine WQ.thenRet ?_
          refine WQ.inRet ?_
          refine WQ.inRet ?_
          refine WQ.thenRet ?_
          refine WQ.thenRet ?_
          refine WQ.inRet ?_
          refine WQ.thenRet ?_
          refine WQ.retC 2 116 rfl rfl (HP.loadRow hH124 0 rfl Try.underlying116 rfl sz116) ?_
          have hOK : okS c n = false := shp_bad hs (stp_end_try hA h35 hx h33 (show upI s.e k (-1) x < 0 by omega)) (by omega)
          refine ⟨g0, g1, g2, g3, (s.m : Int), ⟨[], (Ec.lay k s).o, (upI s.e k (-1)), (upI s.d k (-1)), (upI (upI s.t k (s.l.length : Int)) k ((s.l.length : Int) - 1)), 0⟩, by rw [hOK], ?_, ?_⟩
          · exact HP.drop (HP.drop (HP.drop (HP.drop hH124 7) 6) 5) 0
          · intro hq; rw [hOK] at hq; cases hq
         ·
          refine WL.y (.bool false) 145 (x_lss rfl rfl rfl (dF (he))) (WL.z (.bool false) 146 (WL.k hK118 (WC.sb [(0, .slice (some ⟨bb, oo, none⟩) n cap), (2, vP b1 0), (3, vI (n : Int)), (4, vP b 0), (5, vS g s.l.length cp), (6, vI (k : Int)), (7, vP b19 0), (8, vI (x : Int)), (9, .bool true), (21, .slice (some ⟨bb, oo, none⟩) n cap), (22, vI (n : Int)), (23, vI (k : Int)), (24, .bool true), (59, .bool (opn (c k))), (73, .bool true), (84, .bool false), (115, .bool false), (146, .bool false)] ?_)))
          refine WC.no rfl ?_
          refine WC.skip (WQ.then (hK117 _ _ _ (WC.seq fun K125 hK125 => WC.region (WL.z (vP b 2) 149 (WL.y (vS g2 n n) 150 (x_load rfl rfl Try.underlying33 rfl (HP.cell hH104 5 rfl rfl)) (WL.z (vI (x : Int)) 151 (WL.z (vI (k : Int)) 152 (WL.y (vP g2 x) 153 (x_ix (x) (x) Try.underlying33 sz3) ?_))))))))
          refine WL.store (H2 := [.cel b1 #[.slice none 0 0, .slice none 0 0, .slice none 0 0, .slice none 0 0, .int .i64 0, .bool false] 116, .cel g0 (irow n (Ec.lay k s).o) 3, .cel g1 (irow n (upI s.e k (-1))) 3, .cel g2 (irow n (upI (upI s.d k (-1)) x (k : Int))) 3, .cel g3 (irow n (upI (upI s.t k (s.l.length : Int)) k ((s.l.length : Int) - 1))) 3, .cel b #[.slice (some ⟨g0, 0, none⟩) n n, .slice (some ⟨g1, 0, none⟩) n n, .slice (some ⟨g2, 0, none⟩) n n, .slice (some ⟨g3, 0, none⟩) n n, .int .i64 (s.m : Int), .bool true] 116, .own (.slice (some ⟨g, 0, none⟩) s.l.length cp) s.l.length (Ec.lI s.l) 3 1, .cel b19 #[vI (c k), vI (A k), vI (B k)] 75]) 3 hH104 rfl rfl rfl rfl rfl rfl sz3 rfl (by simp [size_irow]; omega) (irow_set _ _ _ _) rfl ?_
          intro w126 hH127
          refine WL.k hK125 (WC.region (WL.z (vS g s.l.length cp) 154 (WL.z (vS g s.l.length cp) 155 (WL.z (vI (s.l.length : Int)) 156 (WL.y (vI ((s.l.length - 1 : Nat) : Int)) 157 (x_sub (Z := ((s.l.length - 1 : Nat) : Int)) rfl rfl rfl (by omega) (by omega) (by omega)) (WL.y (vS g (s.l.length - 1) cp) 158 (x_sliceH (s.l.length - 1) rfl rfl rfl Try.underlying33 rfl (by omega) sz3) ?_))))))
          have hH128 : HP Tr w _ [.cel b1 #[.slice none 0 0, .slice none 0 0, .slice none 0 0, .slice none 0 0, .int .i64 0, .bool false] 116, .cel g0 (irow n (Ec.lay k s).o) 3, .cel g1 (irow n (upI s.e k (-1))) 3, .cel g2 (irow n (upI (upI s.d k (-1)) x (k : Int))) 3, .cel g3 (irow n (upI (upI s.t k (s.l.length : Int)) k ((s.l.length : Int) - 1))) 3, .cel b #[.slice (some ⟨g0, 0, none⟩) n n, .slice (some ⟨g1, 0, none⟩) n n, .slice (some ⟨g2, 0, none⟩) n n, .slice (some ⟨g3, 0, none⟩) n n, .int .i64 (s.m : Int), .bool true] 116, .own (.slice (some ⟨g, 0, none⟩) (s.l.length - 1) cp) (s.l.length - 1) (Ec.lI s.l.dropLast) 3 1, .cel b19 #[vI (c k), vI (A k), vI (B k)] 75] := HP.repl hH127 6 rfl (own_pop (HP.get hH127 6 rfl) (by simp)) rfl
          refine WL.z (vS g (s.l.length - 1) cp) 5 (WL.nil (WQ.inNormal (WQ.inNormal (WQ.then (hK17 _ _ _ (WC.sb [(0, .slice (some ⟨bb, oo, none⟩) n cap), (2, vP b1 0), (3, vI (n : Int)), (4, vP b 0), (5, vS g (s.l.length - 1) cp), (6, vI (k : Int)), (7, vP b19 0), (8, vI (x : Int)), (9, .bool true), (21, .slice (some ⟨bb, oo, none⟩) n cap), (22, vI (n : Int)), (23, vI (k : Int)), (24, .bool true), (59, .bool (opn (c k))), (73, .bool true), (84, .bool false), (115, .bool false), (146, .bool false)] (WC.region (WL.y (vI ((k + 1 : Nat) : Int)) 159 (x_ad (((k + 1 : Nat) : Int))) (WL.z (vI ((k + 1 : Nat) : Int)) 23 (WL.nil ?_))))))))))
          obtain ⟨s1, hs1⟩ : ∃ s1 : Sh, s1 = ⟨s.l.dropLast, (Ec.lay k s).o, (upI s.e k (-1)), (upI (upI s.d k (-1)) x (k : Int)), (upI (upI s.t k (s.l.length : Int)) k ((s.l.length : Int) - 1)), s.m⟩ := ⟨_, rfl⟩
          have hsN : shp c (k + 1) = some s1 := by
           rw [hs1]
           exact shp_step hs (stp_end_ok hA h35 hx (show ¬ (c x = 33 ∧ upI s.e k (-1) x < 0) by omega))
          have el : s1.l.length = s.l.length - 1 := by rw [hs1]; simp
          have eI : Ec.lI s1.l = Ec.lI s.l.dropLast := by rw [hs1]
          have hN := HP.eq (H' := [.cel b1 #[.slice none 0 0, .slice none 0 0, .slice none 0 0, .slice none 0 0, .int .i64 0, .bool false] 116, .cel g0 (irow n s1.o) 3, .cel g1 (irow n s1.e) 3, .cel g2 (irow n s1.d) 3, .cel g3 (irow n s1.t) 3, .cel b #[.slice (some ⟨g0, 0, none⟩) n n, .slice (some ⟨g1, 0, none⟩) n n, .slice (some ⟨g2, 0, none⟩) n n, .slice (some ⟨g3, 0, none⟩) n n, .int .i64 (s1.m : Int), .bool true] 116, .own (vS g (s.l.length - 1) cp) s1.l.length (Ec.lI s1.l) 3 1]) (HP.drop hH128 7) (by rw [el, eI]; subst hs1; rfl)
          refine WQ.sb [(0, .slice (some ⟨bb, oo, none⟩) n cap), (2, vP b1 0), (3, vI (n : Int)), (4, vP b 0), (5, vS g (s.l.length - 1) cp), (21, .slice (some ⟨bb, oo, none⟩) n cap), (22, vI (n : Int)), (23, vI ((k + 1 : Nat) : Int))] ?_
          refine WQ.then (hK12 _ _ _ (by omega) ⟨k + 1, s1, vS g (s.l.length - 1) cp, rfl, rfl, by omega, hsN, hN⟩)
        ·
         refine WL.y (.bool false) 111 (x_eql rfl rfl rfl (dF (h33))) (WL.z (.bool false) 112 (WL.z (.bool false) 9 (WL.k hK106 (WC.sb [(0, .slice (some ⟨bb, oo, none⟩) n cap), (2, vP b1 0), (3, vI (n : Int)), (4, vP b 0), (5, vS g s.l.length cp), (6, vI (k : Int)), (7, vP b19 0), (8, vI (x : Int)), (9, .bool false), (21, .slice (some ⟨bb, oo, none⟩) n cap), (22, vI (n : Int)), (23, vI (k : Int)), (24, .bool true), (59, .bool (opn (c k))), (73, .bool true), (84, .bool false)] (WC.seq fun K129 hK129 => WC.seq fun K130 hK130 => WC.region (WL.z (vP b19 0) 113 (WL.y (vI (c k)) 114 (x_load rfl rfl Try.underlying3 rfl (HP.cell hH104 7 rfl rfl)) ?_)))))))
         refine WL.y (.bool false) 115 (x_eql rfl rfl rfl (dF (by omega))) (WL.k hK130 ?_)
         refine WC.no rfl ?_
         refine WC.skip (WQ.then (hK129 _ _ _ (WC.seq fun K131 hK131 => WC.seq fun K132 hK132 => WC.region (WL.z (.slice (some ⟨bb, oo, none⟩) n cap) 133 (WL.z (vI (x : Int)) 134 (WL.y (vP bb (oo + x * 3)) 135 (x_ix (x) (oo + x * 3) Try.underlying42 sz75) (WL.z (vP bb (oo + x * 3)) 136 (WL.y (vI (c x)) 137 (x_load rfl rfl Try.underlying3 rfl ((HP.oldRange hH104 trivial (hrow x (by omega))) 0 _ rfl)) (WL.y (.bool false) 138 (x_eql rfl rfl rfl (dF (by omega))) ?_)))))))))
         refine WL.z (.bool false) 139 ?_
         refine WL.pass 140 rfl (by decide) rfl ?_
         refine WL.pass 141 rfl (by decide) rfl ?_
         refine WL.pass 142 rfl (by decide) rfl ?_
         refine WL.pass 143 rfl (by decide) rfl ?_
         refine WL.pass 144 rfl (by decide) rfl ?_
         refine WL.pass 145 rfl (by decide) rfl ?_
         refine WL.z (.bool false) 146 (WL.k hK132 (WC.sb [(0, .slice (some ⟨bb, oo, none⟩) n cap), (2, vP b1 0), (3, vI (n : Int)), (4, vP b 0), (5, vS g s.l.length cp), (6, vI (k : Int)), (7, vP b19 0), (8, vI (x : Int)), (9, .bool false), (21, .slice (some ⟨bb, oo, none⟩) n cap), (22, vI (n : Int)), (23, vI (k : Int)), (24, .bool true), (59, .bool (opn (c k))), (73, .bool true), (84, .bool false), (115, .bool false), (146, .bool false)] ?_))
         refine WC.no rfl ?_
         refine WC.skip (WQ.then (hK131 _ _ _ (WC.seq fun K133 hK133 => WC.region (WL.z (vP b 2) 149 (WL.y (vS g2 n n) 150 (x_load rfl rfl Try.underlying33 rfl (HP.cell hH104 5 rfl rfl)) (WL.z (vI (x : Int)) 151 (WL.z (vI (k : Int)) 152 (WL.y (vP g2 x) 153 (x_ix (x) (x) Try.underlying33 sz3) ?_))))))))
         refine WL.store (H2 := [.cel b1 #[.slice none 0 0, .slice none 0 0, .slice none 0 0, .slice none 0 0, .int .i64 0, .bool false] 116, .cel g0 (irow n (Ec.lay k s).o) 3, .cel g1 (irow n (upI s.e k (-1))) 3, .cel g2 (irow n (upI (upI s.d k (-1)) x (k : Int))) 3, .cel g3 (irow n (upI (upI s.t k (s.l.length : Int)) k ((s.l.length : Int) - 1))) 3, .cel b #[.slice (some ⟨g0, 0, none⟩) n n, .slice (some ⟨g1, 0, none⟩) n n, .slice (some ⟨g2, 0, none⟩) n n, .slice (some ⟨g3, 0, none⟩) n n, .int .i64 (s.m : Int), .bool true] 116, .own (.slice (some ⟨g, 0, none⟩) s.l.length cp) s.l.length (Ec.lI s.l) 3 1, .cel b19 #[vI (c k), vI (A k), vI (B k)] 75]) 3 hH104 rfl rfl rfl rfl rfl rfl sz3 rfl (by simp [size_irow]; omega) (irow_set _ _ _ _) rfl ?_
         intro w134 hH135
         refine WL.k hK133 (WC.region (WL.z (vS g s.l.length cp) 154 (WL.z (vS g s.l.length cp) 155 (WL.z (vI (s.l.length : Int)) 156 (WL.y (vI ((s.l.length - 1 : Nat) : Int)) 157 (x_sub (Z := ((s.l.length - 1 : Nat) : Int)) rfl rfl rfl (by omega) (by omega) (by omega)) (WL.y (vS g (s.l.length - 1) cp) 158 (x_sliceH (s.l.length - 1) rfl rfl rfl Try.underlying33 rfl (by omega) sz3) ?_))))))
         have hH136 : HP Tr w _ [.cel b1 #[.slice none 0 0, .slice none 0 0, .slice none 0 0, .slice none 0 0, .int .i64 0, .bool false] 116, .cel g0 (irow n (Ec.lay k s).o) 3, .cel g1 (irow n (upI s.e k (-1))) 3, .cel g2 (irow n (upI (upI s.d k (-1)) x (k : Int))) 3, .cel g3 (irow n (upI (upI s.t k (s.l.length : Int)) k ((s.l.length : Int) - 1))) 3, .cel b #[.slice (some ⟨g0, 0, none⟩) n n, .slice (some ⟨g1, 0, none⟩) n n, .slice (some ⟨g2, 0, none⟩) n n, .slice (some ⟨g3, 0, none⟩) n n, .int .i64 (s.m : Int), .bool true] 116, .own (.slice (some ⟨g, 0, none⟩) (s.l.length - 1) cp) (s.l.length - 1) (Ec.lI s.l.dropLast) 3 1, .cel b19 #[vI (c k), vI (A k), vI (B k)] 75] := HP.repl hH135 6 rfl (own_pop (HP.get hH135 6 rfl) (by simp)) rfl
         refine WL.z (vS g (s.l.length - 1) cp) 5 (WL.nil (WQ.inNormal (WQ.inNormal (WQ.then (hK17 _ _ _ (WC.sb [(0, .slice (some ⟨bb, oo, none⟩) n cap), (2, vP b1 0), (3, vI (n : Int)), (4, vP b 0), (5, vS g (s.l.length - 1) cp), (6, vI (k : Int)), (7, vP b19 0), (8, vI (x : Int)), (9, .bool false), (21, .slice (some ⟨bb, oo, none⟩) n cap), (22, vI (n : Int)), (23, vI (k : Int)), (24, .bool true), (59, .bool (opn (c k))), (73, .bool true), (84, .bool false), (115, .bool false), (146, .bool false)] (WC.region (WL.y (vI ((k + 1 : Nat) : Int)) 159 (x_ad (((k + 1 : Nat) : Int))) (WL.z (vI ((k + 1 : Nat) : Int)) 23 (WL.nil ?_))))))))))
         obtain ⟨s1, hs1⟩ : ∃ s1 : Sh, s1 = ⟨s.l.dropLast, (Ec.lay k s).o, (upI s.e k (-1)), (upI (upI s.d k (-1)) x (k : Int)), (upI (upI s.t k (s.l.length : Int)) k ((s.l.length : Int) - 1)), s.m⟩ := ⟨_, rfl⟩
         have hsN : shp c (k + 1) = some s1 := by
          rw [hs1]
          exact shp_step hs (stp_end_ok hA h35 hx (show ¬ (c x = 33 ∧ upI s.e k (-1) x < 0) by omega))
         have el : s1.l.length = s.l.length - 1 := by rw [hs1]; simp
         have eI : Ec.lI s1.l = Ec.lI s.l.dropLast := by rw [hs1]
         have hN := HP.eq (H' := [.cel b1 #[.slice none 0 0, .slice none 0 0, .slice none 0 0, .slice none 0 0, .int .i64 0, .bool false] 116, .cel g0 (irow n s1.o) 3, .cel g1 (irow n s1.e) 3, .cel g2 (irow n s1.d) 3, .cel g3 (irow n s1.t) 3, .cel b #[.slice (some ⟨g0, 0, none⟩) n n, .slice (some ⟨g1, 0, none⟩) n n, .slice (some ⟨g2, 0, none⟩) n n, .slice (some ⟨g3, 0, none⟩) n n, .int .i64 (s1.m : Int), .bool true] 116, .own (vS g (s.l.length - 1) cp) s1.l.length (Ec.lI s1.l) 3 1]) (HP.drop hH136 7) (by rw [el, eI]; subst hs1; rfl)
         refine WQ.sb [(0, .slice (some ⟨bb, oo, none⟩) n cap), (2, vP b1 0), (3, vI (n : Int)), (4, vP b 0), (5, vS g (s.l.length - 1) cp), (21, .slice (some ⟨bb, oo, none⟩) n cap), (22, vI (n : Int)), (23, vI ((k + 1 : Nat) : Int))] ?_
         refine WQ.then (hK12 _ _ _ (by omega) ⟨k + 1, s1, vS g (s.l.length - 1) cp, rfl, rfl, by omega, hsN, hN⟩)
     ·
      refine WL.y (.bool false) 80 (x_eql rfl rfl rfl (dF (h35))) (WL.z (.bool false) 81 (WL.z (.bool false) 73 (WL.k hK44 (WC.sb [(0, .slice (some ⟨bb, oo, none⟩) n cap), (2, vP b1 0), (3, vI (n : Int)), (4, vP b 0), (5, .slice pv s.l.length cp), (6, vI (k : Int)), (7, vP b19 0), (21, .slice (some ⟨bb, oo, none⟩) n cap), (22, vI (n : Int)), (23, vI (k : Int)), (24, .bool true), (59, .bool (opn (c k))), (73, .bool false)] ?_))))
      refine WC.no rfl ?_
      refine WC.skip (WQ.inNormal (WQ.inNormal (WQ.then (hK17 _ _ _ (WC.region (WL.y (vI ((k + 1 : Nat) : Int)) 159 (x_ad (((k + 1 : Nat) : Int))) (WL.z (vI ((k + 1 : Nat) : Int)) 23 (WL.nil ?_))))))))
      obtain ⟨s1, hs1⟩ : ∃ s1 : Sh, s1 = ⟨s.l, (Ec.lay k s).o, (upI s.e k (-1)), (upI s.d k (-1)), (upI s.t k (s.l.length : Int)), s.m⟩ := ⟨_, rfl⟩
      have hsN : shp c (k + 1) = some s1 := by
       rw [hs1]
       exact shp_step hs (stp_other hA h34 h35)
      have el : s1.l.length = s.l.length := by rw [hs1]
      have eI : Ec.lI s1.l = Ec.lI s.l := by rw [hs1]
      have hN := HP.eq (H' := [.cel b1 #[.slice none 0 0, .slice none 0 0, .slice none 0 0, .slice none 0 0, .int .i64 0, .bool false] 116, .cel g0 (irow n s1.o) 3, .cel g1 (irow n s1.e) 3, .cel g2 (irow n s1.d) 3, .cel g3 (irow n s1.t) 3, .cel b #[.slice (some ⟨g0, 0, none⟩) n n, .slice (some ⟨g1, 0, none⟩) n n, .slice (some ⟨g2, 0, none⟩) n n, .slice (some ⟨g3, 0, none⟩) n n, .int .i64 (s1.m : Int), .bool true] 116, .own (.slice pv s.l.length cp) s1.l.length (Ec.lI s1.l) 3 1]) (HP.drop hH32 7) (by rw [el, eI]; subst hs1; rfl)
      refine WQ.sb [(0, .slice (some ⟨bb, oo, none⟩) n cap), (2, vP b1 0), (3, vI (n : Int)), (4, vP b 0), (5, .slice pv s.l.length cp), (21, .slice (some ⟨bb, oo, none⟩) n cap), (22, vI (n : Int)), (23, vI ((k + 1 : Nat) : Int))] ?_
      refine WQ.then (hK12 _ _ _ (by omega) ⟨k + 1, s1, .slice pv s.l.length cp, rfl, rfl, by omega, hsN, hN⟩)
 ·
  refine WL.y (.bool false) 24 (x_lss rfl rfl rfl (dF (hlt))) (WL.k hK15 (WC.seq fun K137 hK137 => ?_))
  refine WC.no rfl ?_
  refine WC.exit (WQ.thenExit (WQ.thenExit (WQ.inExit (WQ.then (hK10 _ _ _ (WC.seq fun K138 hK138 => ?_))))))
  obtain rfl : n = k := by omega
  refine WC.region (WL.z (.slice pv s.l.length cp) 160 (WL.z (vI (s.l.length : Int)) 161 ?_))
  by_cases hl : (s.l.length : Int) = 0
  ·
   refine WL.y (.bool true) 162 (x_eql rfl rfl rfl (dT (hl))) (WL.z (.bool true) 163 (WL.z (vP b 4) 164 (WL.y (vI (s.m : Int)) 165 (x_load rfl rfl Try.underlying3 rfl (HP.cell hH14 5 rfl rfl)) ?_)))
   by_cases hm : (s.m : Int) ≤ 6
   ·
    refine WL.y (.bool true) 166 (x_leq rfl rfl rfl (dT (hm))) (WL.z (.bool true) 167 (WL.z (vP b 5) 168 ?_))
    refine WL.store (H2 := [.cel b1 #[.slice none 0 0, .slice none 0 0, .slice none 0 0, .slice none 0 0, .int .i64 0, .bool false] 116, .cel g0 (irow n s.o) 3, .cel g1 (irow n s.e) 3, .cel g2 (irow n s.d) 3, .cel g3 (irow n s.t) 3, .cel b #[.slice (some ⟨g0, 0, none⟩) n n, .slice (some ⟨g1, 0, none⟩) n n, .slice (some ⟨g2, 0, none⟩) n n, .slice (some ⟨g3, 0, none⟩) n n, .int .i64 (s.m : Int), .bool true] 116, .own (.slice pv s.l.length cp) s.l.length (Ec.lI s.l) 3 1]) 5 hH14 rfl rfl rfl rfl rfl rfl sz4 rfl (Nat.le_of_ble_eq_true rfl) rfl rfl ?_
    intro w139 hH140
    refine WL.k hK138 (WC.sb [(0, .slice p n cap), (2, vP b1 0), (3, vI (n : Int)), (4, vP b 0), (5, .slice pv s.l.length cp), (21, .slice p n cap), (22, vI (n : Int)), (23, vI (n : Int)), (24, .bool false)] (WC.seq fun K141 hK141 => WC.region (WL.y (.agg #[vS g0 n n, vS g1 n n, vS g2 n n, vS g3 n n, vI (s.m : Int), .bool true]) 169 (x_loadS (cs := [.slice (some ⟨g0, 0, none⟩) n n, .slice (some ⟨g1, 0, none⟩) n n, .slice (some ⟨g2, 0, none⟩) n n, .slice (some ⟨g3, 0, none⟩) n n, .int .i64 (s.m : Int), .bool true]) rfl rfl Try.underlying116 rfl sz116 (HP.range hH140 5 rfl rfl)) ?_)))
    refine WL.storeS (H2 := [.cel b1 #[vS g0 n n, vS g1 n n, vS g2 n n, vS g3 n n, vI (s.m : Int), .bool true] 116, .cel g0 (irow n s.o) 3, .cel g1 (irow n s.e) 3, .cel g2 (irow n s.d) 3, .cel g3 (irow n s.t) 3, .cel b #[.slice (some ⟨g0, 0, none⟩) n n, .slice (some ⟨g1, 0, none⟩) n n, .slice (some ⟨g2, 0, none⟩) n n, .slice (some ⟨g3, 0, none⟩) n n, .int .i64 (s.m : Int), .bool true] 116, .own (.slice pv s.l.length cp) s.l.length (Ec.lI s.l) 3 1]) 0 hH140 rfl rfl rfl rfl rfl rfl sz116 rfl (Nat.le_of_ble_eq_true rfl) rfl rfl ?_
    intro w142 hH143
    refine WL.k hK141 (WC.ret ?_)
    refine WQ.retC 2 116 rfl rfl (HP.loadRow hH143 0 rfl Try.underlying116 rfl sz116) ?_
    have hOK : okS c n = true := okS_yes hs (by omega) (by omega)
    refine ⟨g0, g1, g2, g3, (s.m : Int), s, by rw [hOK], ?_, ?_⟩
    · exact HP.drop (HP.drop (HP.drop hH143 6) 5) 0
    · exact fun _ => ⟨hs, rfl⟩
   ·
    refine WL.y (.bool false) 166 (x_leq rfl rfl rfl (dF (hm))) (WL.z (.bool false) 167 (WL.z (vP b 5) 168 ?_))
    refine WL.store (H2 := [.cel b1 #[.slice none 0 0, .slice none 0 0, .slice none 0 0, .slice none 0 0, .int .i64 0, .bool false] 116, .cel g0 (irow n s.o) 3, .cel g1 (irow n s.e) 3, .cel g2 (irow n s.d) 3, .cel g3 (irow n s.t) 3, .cel b #[.slice (some ⟨g0, 0, none⟩) n n, .slice (some ⟨g1, 0, none⟩) n n, .slice (some ⟨g2, 0, none⟩) n n, .slice (some ⟨g3, 0, none⟩) n n, .int .i64 (s.m : Int), .bool false] 116, .own (.slice pv s.l.length cp) s.l.length (Ec.lI s.l) 3 1]) 5 hH14 rfl rfl rfl rfl rfl rfl sz4 rfl (Nat.le_of_ble_eq_true rfl) rfl rfl ?_
    intro w144 hH145
    refine WL.k hK138 (WC.sb [(0, .slice p n cap), (2, vP b1 0), (3, vI (n : Int)), (4, vP b 0), (5, .slice pv s.l.length cp), (21, .slice p n cap), (22, vI (n : Int)), (23, vI (n : Int)), (24, .bool false)] (WC.seq fun K146 hK146 => WC.region (WL.y (.agg #[vS g0 n n, vS g1 n n, vS g2 n n, vS g3 n n, vI (s.m : Int), .bool false]) 169 (x_loadS (cs := [.slice (some ⟨g0, 0, none⟩) n n, .slice (some ⟨g1, 0, none⟩) n n, .slice (some ⟨g2, 0, none⟩) n n, .slice (some ⟨g3, 0, none⟩) n n, .int .i64 (s.m : Int), .bool false]) rfl rfl Try.underlying116 rfl sz116 (HP.range hH145 5 rfl rfl)) ?_)))
    refine WL.storeS (H2 := [.cel b1 #[vS g0 n n, vS g1 n n, vS g2 n n, vS g3 n n, vI (s.m : Int), .bool false] 116, .cel g0 (irow n s.o) 3, .cel g1 (irow n s.e) 3, .cel g2 (irow n s.d) 3, .cel g3 (irow n s.t) 3, .cel b #[.slice (some ⟨g0, 0, none⟩) n n, .slice (some ⟨g1, 0, none⟩) n n, .slice (some ⟨g2, 0, none⟩) n n, .slice (some ⟨g3, 0, none⟩) n n, .int .i64 (s.m : Int), .bool false] 116, .own (.slice pv s.l.length cp) s.l.length (Ec.lI s.l) 3 1]) 0 hH145 rfl rfl rfl rfl rfl rfl sz116 rfl (Nat.le_of_ble_eq_true rfl) rfl rfl ?_
    intro w147 hH148
    refine WL.k hK146 (WC.ret ?_)
    refine WQ.retC 2 116 rfl rfl (HP.loadRow hH148 0 rfl Try.underlying116 rfl sz116) ?_
    have hOK : okS c n = false := okS_no hs (by omega)
    refine ⟨g0, g1, g2, g3, (s.m : Int), ⟨[], s.o, s.e, s.d, s.t, 0⟩, by rw [hOK], ?_, ?_⟩
    · exact HP.drop (HP.drop (HP.drop hH148 6) 5) 0
    · intro hq; rw [hOK] at hq; cases hq
  ·
   refine WL.y (.bool false) 162 (x_eql rfl rfl rfl (dF (hl))) (WL.z (.bool false) 163 ?_)
   refine WL.pass 164 rfl (by decide) rfl ?_
   refine WL.pass 165 rfl (by decide) rfl ?_
   refine WL.pass 166 rfl (by decide) rfl ?_
   refine WL.z (.bool false) 167 (WL.z (vP b 5) 168 ?_)
   refine WL.store (H2 := [.cel b1 #[.slice none 0 0, .slice none 0 0, .slice none 0 0, .slice none 0 0, .int .i64 0, .bool false] 116, .cel g0 (irow n s.o) 3, .cel g1 (irow n s.e) 3, .cel g2 (irow n s.d) 3, .cel g3 (irow n s.t) 3, .cel b #[.slice (some ⟨g0, 0, none⟩) n n, .slice (some ⟨g1, 0, none⟩) n n, .slice (some ⟨g2, 0, none⟩) n n, .slice (some ⟨g3, 0, none⟩) n n, .int .i64 (s.m : Int), .bool false] 116, .own (.slice pv s.l.length cp) s.l.length (Ec.lI s.l) 3 1]) 5 hH14 rfl rfl rfl rfl rfl rfl sz4 rfl (Nat.le_of_ble_eq_true rfl) rfl rfl ?_
   intro w149 hH150
   refine WL.k hK138 (WC.sb [(0, .slice p n cap), (2, vP b1 0), (3, vI (n : Int)), (4, vP b 0), (5, .slice pv s.l.length cp), (21, .slice p n cap), (22, vI (n : Int)), (23, vI (n : Int)), (24, .bool false)] (WC.seq fun K151 hK151 => WC.region (WL.y (.agg #[vS g0 n n, vS g1 n n, vS g2 n n, vS g3 n n, vI (s.m : Int), .bool false]) 169 (x_loadS (cs := [.slice (some ⟨g0, 0, none⟩) n n, .slice (some ⟨g1, 0, none⟩) n n, .slice (some ⟨g2, 0, none⟩) n n, .slice (some ⟨g3, 0, none⟩) n n, .int .i64 (s.m : Int), .bool false]) rfl rfl Try.underlying116 rfl sz116 (HP.range hH150 5 rfl rfl)) ?_)))
   refine WL.storeS (H2 := [.cel b1 #[vS g0 n n, vS g1 n n, vS g2 n n, vS g3 n n, vI (s.m : Int), .bool false] 116, .cel g0 (irow n s.o) 3, .cel g1 (irow n s.e) 3, .cel g2 (irow n s.d) 3, .cel g3 (irow n s.t) 3, .cel b #[.slice (some ⟨g0, 0, none⟩) n n, .slice (some ⟨g1, 0, none⟩) n n, .slice (some ⟨g2, 0, none⟩) n n, .slice (some ⟨g3, 0, none⟩) n n, .int .i64 (s.m : Int), .bool false] 116, .own (.slice pv s.l.length cp) s.l.length (Ec.lI s.l) 3 1]) 0 hH150 rfl rfl rfl rfl rfl rfl sz116 rfl (Nat.le_of_ble_eq_true rfl) rfl rfl ?_
   intro w152 hH153
   refine WL.k hK151 (WC.ret ?_)
   refine WQ.retC 2 116 rfl rfl (HP.loadRow hH153 0 rfl Try.underlying116 rfl sz116) ?_
   have hOK : okS c n = false := okS_no hs (by omega)
   refine ⟨g0, g1, g2, g3, (s.m : Int), ⟨[], s.o, s.e, s.d, s.t, 0⟩, by rw [hOK], ?_, ?_⟩
   · exact HP.drop (HP.drop (HP.drop hH153 6) 5) 0
   · intro hq; rw [hOK] at hq; cases hq
end Ec
end Go.Proofs.Ytmjnakhpekbenaa
