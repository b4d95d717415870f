/- A copy of a list of ratios. -/
import Derived.Test.YtlcgfhliaalccaaRV
import Derived.Test.YtlcgfhliaalccaaRG
import Derived.Lib.JoinLaws
import Derived.Deep.SlicePairs
import Derived.Laws.IdiomCopy
set_option linter.unusedVariables false
set_option linter.unusedSimpArgs false
namespace Go.Proofs.Ytlcgfhliaalccaa
open Go.RowKit Go.Sort Rt
namespace Rc

theorem info : (Try.prog.info? 23).map (fun i => (i.zero, i.size, i.bytes)) = some (some (.agg #[.int .i64 0, .int .i64 0]), 2, 16) := by kernel_rfl
def news (n : Nat) (f g : Nat → Int) : List Value := (List.range (n * 2)).map fun q => Value.int .i64 (if q % 2 = 0 then f (q / 2) else g (q / 2))
theorem news_len (n : Nat) (f g : Nat → Int) : (news n f g).length = n * 2 := by simp [news]
theorem news_at (n : Nat) (f g : Nat → Int) (i : Nat) (h : i < n) : (news n f g)[i * 2]? = some (.int .i64 (f i)) ∧ (news n f g)[i * 2 + 1]? = some (.int .i64 (g i)) := by
  unfold news
  constructor
  · rw [List.getElem?_map, List.getElem?_range (by omega)]
    simp
  · rw [List.getElem?_map, List.getElem?_range (by omega)]
    have h1 : (i * 2 + 1) % 2 = 1 := by omega
    have h2 : (i * 2 + 1) / 2 = i := by omega
    simp [h1, h2]
theorem below_set {B b : Nat} {a : World} (hB : B ≤ b) : ∀ (vs : List Value) (o : Nat) (w' : World), Below B a w' → Below B a (w'.setCells b o vs)
  | [], _, _, h => h
  | _ :: r, o, _, h => below_set hB r (o + 1) _ (h.setCell (show B ≤ b from hB) _)
theorem src_row (w : World) (o : Obj) (p : Option Addr) (n cap : Nat) (f g : Nat → Int) (h : Row w p n cap f g) : Src Try.prog 2 43 (.slice p n cap) n (news n f g) (w.alloc o) := by
  have h1 := h.below (Nat.le_refl _) ((Below.refl w.heap.size w).alloc (Nat.le_refl _) o)
  cases hn : n with
  | zero =>
    subst hn
    cases p with
    | none => exact Src.ofNil _ Try.underlying43 cap
    | some a => exact Src.ofSlice _ Try.underlying43 a 0 cap _ (by simp [news]) (fun j u hu => by simp [news] at hu) (fun u hu => by simp [news] at hu)
  | succ m =>
    obtain ⟨a, rfl⟩ := h.som (by omega)
    rw [← hn]
    refine Src.ofSlice _ Try.underlying43 a n cap _ (news_len n f g) (fun j u hu => ?_) (fun u hu => ?_)
    · have hj : j < n * 2 := by
        have := (List.getElem?_eq_some_iff.1 hu).1
        rwa [news_len] at this
      rcases Nat.mod_two_eq_zero_or_one j with e | e
      · obtain ⟨i, rfl⟩ : ∃ i, j = i * 2 := ⟨j / 2, by omega⟩
        rw [(news_at n f g i (by omega)).1] at hu
        rw [← hu]
        exact h1.c0 a i rfl (by omega)
      · obtain ⟨i, rfl⟩ : ∃ i, j = i * 2 + 1 := ⟨j / 2, by omega⟩
        rw [(news_at n f g i (by omega)).2] at hu
        rw [← hu, add_next]
        exact h1.c1 a i rfl (by omega)
    · unfold news at hu
      obtain ⟨_, _, rfl⟩ := List.mem_map.1 hu
      rfl
/-- the list that the law makes -/
abbrev made (n : Nat) : Obj := .cells (madeCells #[.int .i64 0, .int .i64 0] ((n + 2) * 2)) 23
theorem made_cell (w : World) (n j : Nat) (h : j < (n + 2) * 2) : ((w.alloc (made n)).cell? ⟨w.heap.size, j, none⟩).isSome = true ∧ (w.alloc (made n)).frozen? ⟨w.heap.size, j, none⟩ = false := by
  constructor
  · simp [go_sem, madeCells, h]
  · simp [go_sem]
theorem own_row (w : World) (n : Nat) (f g : Nat → Int) (hn : n ≤ 1000) : Row ((w.alloc (made n)).setCells w.heap.size 0 (news n f g)) (some ⟨w.heap.size, 0, none⟩) n (n + 2) f g ∧ Below w.heap.size w ((w.alloc (made n)).setCells w.heap.size 0 (news n f g)) ∧ w.heap.size < ((w.alloc (made n)).setCells w.heap.size 0 (news n f g)).heap.size := by
  have hb : Below w.heap.size w ((w.alloc (made n)).setCells w.heap.size 0 (news n f g)) := below_set (Nat.le_refl _) _ _ _ ((Below.refl w.heap.size w).alloc (Nat.le_refl _) _)
  have hs : w.heap.size < ((w.alloc (made n)).setCells w.heap.size 0 (news n f g)).heap.size := by
    have := (below_set (B := 0) (b := w.heap.size) (Nat.zero_le _) (news n f g) 0 _ (Below.refl 0 (w.alloc (made n)))).size
    simp at this
    omega
  have hin := World.cell?_setCells_in w.heap.size (news n f g) 0 (w.alloc (made n)) (fun j hj => by rw [Nat.zero_add]; rw [news_len] at hj; exact (made_cell w n j (by omega)).1)
  refine ⟨⟨fun a e _ => by cases e; exact hs, fun _ => ⟨_, rfl⟩, fun a i e hi => ?_, fun a i e hi => ?_, by omega, by omega⟩, hb, hs⟩
  · cases e
    have hj : i * 2 < (news n f g).length := by rw [news_len]; omega
    have h2 := hin (i * 2) hj
    have h3 := (news_at n f g i hi).1
    rw [List.getElem?_eq_getElem hj] at h3
    rw [Option.some.inj h3] at h2
    unfold Addr.add; split
    · rename_i h0; rw [h0] at h2; exact h2
    · exact h2
  · cases e
    have hj : i * 2 + 1 < (news n f g).length := by rw [news_len]; omega
    have h2 := hin (i * 2 + 1) hj
    have h3 := (news_at n f g i hi).2
    rw [List.getElem?_eq_getElem hj] at h3
    rw [Option.some.inj h3] at h2
    rw [← add_next]
    exact h2
theorem make2 (n : Nat) (hn : n ≤ 1000) (W : World) : (Instr.makeSlice 43 (.int .i64 0) (.int .i64 ((n : Int) + 2))).run Try.prog W = .ok (.slice (some ⟨W.heap.size, 0, none⟩) 0 (n + 2)) (W.alloc (made n)) := by
  obtain ⟨i, hi, hzz⟩ := Option.map_eq_some_iff.1 info
  simp only [Prod.mk.injEq] at hzz
  obtain ⟨hz, hs, hb⟩ := hzz
  have hr := run_make (P := Try.prog) W 43 23 i _ Try.underlying43 hi hz .i64 .i64 0 ((n : Int) + 2) (by omega) (by omega) (by rw [hb]; omega) (by omega)
  rw [hs, show ((n : Int) + 2).toNat = n + 2 by omega] at hr
  exact hr
theorem wpList_append2 {P : Program} (w : World) {ops : Array Oper} {rest : List Oper} {o : Oper} {a : Act} {Q : Exit → Act → World → Prop}
    (hg : o.guard = none) (s x : Operand) (t tx : TypeId) (hop : o.op = Op.call { callee := Callee.builtin Builtin.append, args := #[s, x], argTypes := #[t, tx] })
    (e : TypeId) (z : Value) (bytes : Nat) (ht : P.underlying t = some (.slice e)) (hinfo : (P.info? e).map (fun i => (i.zero, i.size, i.bytes)) = some (some z, 2, bytes))
    (b off sLen sCap : Nat) (hs : a.eval s = .slice (some ⟨b, off, none⟩) sLen sCap) (xv : Value) (hx : a.eval x = xv) (n : Nat) (news : List Value) (hsrc : Src P 2 tx xv n news w)
    (hroom : sLen + n ≤ sCap) (hc : ∀ j, j < news.length → (w.cell? ⟨b, off + sLen * 2 + j, none⟩).isSome = true) (hf : ∀ j, j < news.length → w.frozen? ⟨b, off + sLen * 2 + j, none⟩ = false)
    (hK : wpList P ops Q rest (a.put o.dst (.slice (some ⟨b, off, none⟩) (sLen + n) sCap)) (w.setCells b (off + sLen * 2) news)) :
    wpList P ops Q (o :: rest) a w := by
  obtain ⟨i, hi, hzz⟩ := Option.map_eq_some_iff.1 hinfo
  simp only [Prod.mk.injEq] at hzz
  obtain ⟨_, hs1, _⟩ := hzz
  exact wpList_append_room_src w hg s x t tx hop e i ht hi b off sLen sCap hs xv hx n news (by rw [hs1]; exact hsrc) hroom (by rw [hs1]; exact hc) (by rw [hs1]; exact hf) (by rw [hs1]; exact hK)

end Rc
end Go.Proofs.Ytlcgfhliaalccaa
