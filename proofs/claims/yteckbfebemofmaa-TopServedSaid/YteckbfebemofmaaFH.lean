/- What is known of the memory: a list of blocks and rows, apart from each other; its laws, over any program. -/
import Derived.Test.YteckbfebemofmaaFW
set_option linter.unusedVariables false
set_option linter.unusedSimpArgs false
namespace Go.Proofs.Yteckbfebemofmaa
open Go.RowKit
namespace Fw

/-- something in memory: a block, or a row that grows -/
inductive Ent where
  | cel (b : Nat) (c : Array Value) (T : TypeId)
  | own (v : Value) (k : Nat) (xs : List Value) (e : TypeId) (s : Nat)
def Ent.blk : Ent → Option Nat
  | .cel b _ _ => some b
  | .own v _ _ _ _ => v.ownBlock
def Ent.holds (w : World) : Ent → Prop
  | .cel b c T => w.heap[b]? = some (.cells c T (0, 0))
  | .own v k xs e s => w.ownsRow 0 e s v k xs
theorem Ent.lt {w : World} {e : Ent} (h : e.holds w) {b : Nat} (hb : e.blk = some b) : b < w.heap.size := by
  cases e with
  | cel b' c T => simp only [Ent.blk, Option.some.injEq] at hb; subst hb; exact (Array.getElem?_eq_some_iff.1 h).1
  | own v k xs e s => exact (World.ownsRow.lt h b hb).2
theorem Ent.keep {w w' : World} {e : Ent} (h : e.holds w) (hk : ∀ b, e.blk = some b → w'.heap[b]? = w.heap[b]?) : e.holds w' := by
  cases e with
  | cel b c T => exact (hk b rfl).trans h
  | own v k xs e s =>
    refine ⟨h.1, ?_⟩
    rcases h.2 with hn | ⟨g, cap, cur, rfl, hb, hg, rest⟩
    · exact .inl hn
    · exact .inr ⟨g, cap, cur, rfl, hb, (hk g rfl).trans hg, rest⟩
def Apart (e e' : Ent) : Prop := ∀ b, e.blk = some b → e'.blk ≠ some b
theorem Apart.symm {e e' : Ent} (h : Apart e e') : Apart e' e := fun b hb hb' => h b hb' hb
/-- From the world w0 on to w: the blocks that S names are as they were, and the list holds. -/
structure HP (S : Nat → Prop) (w0 w : World) (H : List Ent) : Prop where
  os : w.os = w0.os
  tape : w.tape = w0.tape
  output : w.output = w0.output
  size : w0.heap.size ≤ w.heap.size
  keep : ∀ k, k < w0.heap.size → S k → w.heap[k]? = w0.heap[k]?
  hold : ∀ e, e ∈ H → e.holds w
  fresh : ∀ e, e ∈ H → ∀ b, e.blk = some b → b < w0.heap.size → ¬ S b
  apart : H.Pairwise Apart
abbrev Tr : Nat → Prop := fun _ => True
section
variable {S : Nat → Prop} {w0 w w' : World} {H H' : List Ent}
theorem HP.refl (w : World) : HP S w w [] := ⟨rfl, rfl, rfl, Nat.le_refl _, fun _ _ _ => rfl, fun e h => absurd h (List.not_mem_nil), fun e h => absurd h (List.not_mem_nil), List.Pairwise.nil⟩
theorem HP.below (h : HP Tr w0 w H) : Below w0.heap.size w0 w := ⟨h.os, h.tape, h.output, h.size, fun k hk => h.keep k hk trivial⟩
theorem HP.of_below (h : Below w0.heap.size w0 w) : HP S w0 w [] := ⟨h.os, h.tape, h.output, h.size, fun k hk _ => h.block k hk, fun e h => absurd h (List.not_mem_nil), fun e h => absurd h (List.not_mem_nil), List.Pairwise.nil⟩
theorem HP.eq (h : HP S w0 w H) (e : H = H') : HP S w0 w H' := e ▸ h
theorem HP.drew (h : HP S w0 w H) : HP S w0 w.drew H := ⟨h.os, h.tape, h.output, h.size, h.keep, fun e he => Ent.keep (h.hold e he) (fun b _ => rfl), h.fresh, h.apart⟩
/-- what stood before stands -/
theorem HP.old (h : HP S w0 w H) {a : Addr} {v : Value} (hS : S a.block) (hc : w0.cell? a = some v) : w.cell? a = some v :=
  (World.cell?_of_block (h.keep a.block (World.block_lt_of_cell? w0 a hc) hS)).trans hc
theorem HP.get (h : HP S w0 w H) (i : Nat) {e : Ent} (hi : H[i]? = some e) : e.holds w := h.hold e (List.mem_of_getElem? hi)
theorem HP.lt (h : HP S w0 w H) (i : Nat) {b : Nat} {c : Array Value} {T : TypeId} (hi : H[i]? = some (.cel b c T)) : b < w.heap.size := Ent.lt (h.get i hi) rfl
theorem HP.new (h : HP Tr w0 w H) (i : Nat) {e : Ent} {b : Nat} (hi : H[i]? = some e) (hb : e.blk = some b) : w0.heap.size ≤ b := Nat.le_of_not_lt fun hlt => h.fresh e (List.mem_of_getElem? hi) b hb hlt trivial
theorem HP.cell (h : HP S w0 w H) (i : Nat) {b off : Nat} {c : Array Value} {T : TypeId} {v : Value} (hi : H[i]? = some (.cel b c T)) (hc : c[off]? = some v) : w.cell? ⟨b, off, none⟩ = some v := by
  rw [cell_of_row w b off c T (0, 0) (h.get i hi)]; exact hc
theorem HP.free (h : HP S w0 w H) (i : Nat) {b off : Nat} {c : Array Value} {T : TypeId} (hi : H[i]? = some (.cel b c T)) : w.frozen? ⟨b, off, none⟩ = false := frozen_of_row w b off c T (h.get i hi)
theorem HP.ownCell (h : HP S w0 w H) (i : Nat) {g n cap j : Nat} {xs : List Value} {e s : Nat} {u : Value} (hi : H[i]? = some (.own (.slice (some ⟨g, 0, none⟩) n cap) n xs e s)) (hu : xs[j]? = some u) : w.cell? ⟨g, j, none⟩ = some u := by
  have q := World.ownsRow.cells (h.get i hi) (g := g) rfl j u hu
  have hadd : (⟨g, 0, none⟩ : Addr).add j = ⟨g, j, none⟩ := by unfold Addr.add; split <;> simp_all
  rwa [hadd] at q
/-- a part of the list -/
theorem HP.sub (h : HP S w0 w H) (hs : H'.Sublist H) : HP S w0 w H' := ⟨h.os, h.tape, h.output, h.size, h.keep, fun e he => h.hold e (hs.subset he), fun e he => h.fresh e (hs.subset he), h.apart.sublist hs⟩
theorem HP.drop (h : HP S w0 w H) (i : Nat) : HP S w0 w (H.eraseIdx i) := h.sub (List.eraseIdx_sublist H i)
theorem HP.weaken {S' : Nat → Prop} (h : HP S w0 w H) (hS : ∀ k, S' k → S k) : HP S' w0 w H := ⟨h.os, h.tape, h.output, h.size, fun k hk hs => h.keep k hk (hS k hs), h.hold, fun e he b hb hlt hs => h.fresh e he b hb hlt (hS b hs), h.apart⟩
/-- a block is laid -/
theorem HP.alloc (h : HP S w0 w H) (c : Array Value) (T : TypeId) : HP S w0 (w.alloc (.cells c T)) (H ++ [.cel w.heap.size c T]) := by
  have hk : ∀ b, b < w.heap.size → (w.alloc (.cells c T)).heap[b]? = w.heap[b]? := fun b hb => heap_alloc_old w _ hb
  refine ⟨h.os, h.tape, h.output, by simp; have := h.size; omega, fun k hk' hS => (hk k (Nat.lt_of_lt_of_le hk' h.size)).trans (h.keep k hk' hS), ?_, ?_, ?_⟩
  · intro e he
    rcases List.mem_append.1 he with he | he
    · exact Ent.keep (h.hold e he) fun b hb => hk b (Ent.lt (h.hold e he) hb)
    · simp at he; subst he; exact heap_alloc_new w _
  · intro e he b hb hlt
    rcases List.mem_append.1 he with he | he
    · exact h.fresh e he b hb hlt
    · simp at he; subst he
      simp only [Ent.blk, Option.some.injEq] at hb
      have := h.size; omega
  · refine List.pairwise_append.2 ⟨h.apart, by simp, fun e he e' he' b hb hb' => ?_⟩
    simp at he'; subst he'
    simp only [Ent.blk, Option.some.injEq] at hb'
    have := Ent.lt (h.hold e he) hb; omega
/-- one entry is changed, all else is as it was -/
theorem HP.change (h : HP S w0 w H) (i : Nat) {e e' : Ent} (hi : H[i]? = some e) (os : w'.os = w.os) (tape : w'.tape = w.tape) (output : w'.output = w.output) (size : w.heap.size ≤ w'.heap.size)
    (block : ∀ k, k < w.heap.size → e.blk ≠ some k → w'.heap[k]? = w.heap[k]?) (hold : e'.holds w') (hblk : ∀ b, e'.blk = some b → e.blk = some b ∨ w.heap.size ≤ b) : HP S w0 w' (H.set i e') := by
  have hil : i < H.length := (List.getElem?_eq_some_iff.1 hi).1
  have hsplit : H = H.take i ++ e :: H.drop (i + 1) := by
    have := List.getElem?_eq_some_iff.1 hi
    obtain ⟨h1, h2⟩ := this
    rw [← h2]; simp
  have hset : H.set i e' = H.take i ++ e' :: H.drop (i + 1) := List.set_eq_take_append_cons_drop .. |>.trans (by simp [hil])
  have hap := h.apart
  rw [hsplit] at hap
  obtain ⟨ap1, ap2, ap3⟩ := List.pairwise_append.1 hap
  obtain ⟨ap4, ap5⟩ := List.pairwise_cons.1 ap2
  have oth : ∀ x, x ∈ H.take i ++ H.drop (i + 1) → x ∈ H ∧ Apart e x := fun x hx => by
    rcases List.mem_append.1 hx with hx | hx
    · exact ⟨List.mem_of_mem_take hx, (ap3 x hx e (by simp)).symm⟩
    · exact ⟨List.mem_of_mem_drop hx, ap4 x hx⟩
  have hkeep : ∀ x, x ∈ H.take i ++ H.drop (i + 1) → x.holds w' := fun x hx => by
    obtain ⟨hm, ha⟩ := oth x hx
    exact Ent.keep (h.hold x hm) fun b hb => block b (Ent.lt (h.hold x hm) hb) (fun q => ha b q hb)
  have hapart : ∀ x, x ∈ H.take i ++ H.drop (i + 1) → Apart e' x := fun x hx b hb hb' => by
    obtain ⟨hm, ha⟩ := oth x hx
    rcases hblk b hb with q | q
    · exact ha b q hb'
    · have := Ent.lt (h.hold x hm) hb'; omega
  refine ⟨os.trans h.os, tape.trans h.tape, output.trans h.output, Nat.le_trans h.size size, fun k hk hS => ?_, ?_, ?_, ?_⟩
  · rw [block k (Nat.lt_of_lt_of_le hk h.size) (fun q => h.fresh e (List.mem_of_getElem? hi) k q hk hS)]; exact h.keep k hk hS
  · intro x hx
    rw [hset] at hx
    rcases List.mem_append.1 hx with hx | hx
    · exact hkeep x (List.mem_append_left _ hx)
    · rcases List.mem_cons.1 hx with rfl | hx
      · exact hold
      · exact hkeep x (List.mem_append_right _ hx)
  · intro x hx b hb hlt
    rw [hset] at hx
    rcases List.mem_append.1 hx with hx | hx
    · exact h.fresh x (List.mem_of_mem_take hx) b hb hlt
    · rcases List.mem_cons.1 hx with rfl | hx
      · rcases hblk b hb with q | q
        · exact h.fresh e (List.mem_of_getElem? hi) b q hlt
        · have := h.size; omega
      · exact h.fresh x (List.mem_of_mem_drop hx) b hb hlt
  · rw [hset]
    refine List.pairwise_append.2 ⟨ap1, List.pairwise_cons.2 ⟨fun x hx => hapart x (List.mem_append_right _ hx), ap5⟩, fun x hx y hy => ?_⟩
    rcases List.mem_cons.1 hy with rfl | hy
    · exact (hapart x (List.mem_append_left _ hx)).symm
    · exact ap3 x hx y (List.mem_cons_of_mem _ hy)
/-- a cell is stored -/
theorem HP.set (h : HP S w0 w H) (i : Nat) {b off : Nat} {c : Array Value} {T : TypeId} {v : Value} (hi : H[i]? = some (.cel b c T)) : HP S w0 (w.setCell ⟨b, off, none⟩ v) (H.set i (.cel b (c.setIfInBounds off v) T)) :=
  h.change i hi rfl rfl rfl (by simp) (fun k _ hk => heap_setCell_other w _ k v (fun q => hk (by rw [q]; rfl))) (heap_setCell_same w b off c T v (h.get i hi)) (fun b' hb => .inl hb)
theorem HP.setCells (i : Nat) {b : Nat} {T : TypeId} : ∀ (vs : List Value) {off : Nat} {w : World} {H : List Ent} {c : Array Value} (h : HP S w0 w H) (hi : H[i]? = some (.cel b c T)),
    HP S w0 (w.setCells b off vs) (H.set i (.cel b (vs.zipIdx.foldl (fun (c : Array Value) (p : Value × Nat) => c.setIfInBounds (off + p.2) p.1) c) T)) := by
  intro vs
  induction vs with
  | nil =>
    intro off w H c h hi
    have hs : H.set i (.cel b c T) = H := by
      obtain ⟨h1, h2⟩ := List.getElem?_eq_some_iff.1 hi
      rw [← h2]; exact List.set_getElem_self h1
    simp only [List.zipIdx_nil, List.foldl_nil]
    rw [hs]
    exact h
  | cons v vs ih =>
    intro off w H c h hi
    have hil : i < H.length := (List.getElem?_eq_some_iff.1 hi).1
    have h1 := h.set (off := off) (v := v) i hi
    have h2 := ih (off := off + 1) (c := c.setIfInBounds off v) h1 (by simp [hil])
    have hz : (vs.zipIdx 1).foldl (fun (c : Array Value) (p : Value × Nat) => c.setIfInBounds (off + p.2) p.1) (c.setIfInBounds off v) = vs.zipIdx.foldl (fun (c : Array Value) (p : Value × Nat) => c.setIfInBounds (off + 1 + p.2) p.1) (c.setIfInBounds off v) := by
      have : vs.zipIdx 1 = vs.zipIdx.map (fun p => (p.1, p.2 + 1)) := by
        simpa using (List.zipIdx_succ (l := vs) (i := 0))
      rw [this, List.foldl_map]
      congr 1
      funext c p
      rw [show off + (p.2 + 1) = off + 1 + p.2 by omega]
    simp only [List.zipIdx_cons, List.foldl_cons, Nat.add_zero, Nat.zero_add]
    rw [hz]
    rw [List.set_set] at h2
    exact h2
/-- what another call leaves -/
theorem HP.trans {H2 : List Ent} (h : HP S w0 w H) (h2 : HP Tr w w' H2) : HP S w0 w' (H ++ H2) := by
  refine ⟨h2.os.trans h.os, h2.tape.trans h.tape, h2.output.trans h.output, Nat.le_trans h.size h2.size, fun k hk hS => (h2.keep k (Nat.lt_of_lt_of_le hk h.size) trivial).trans (h.keep k hk hS), ?_, ?_, ?_⟩
  · intro e he
    rcases List.mem_append.1 he with he | he
    · exact Ent.keep (h.hold e he) fun b hb => h2.keep b (Ent.lt (h.hold e he) hb) trivial
    · exact h2.hold e he
  · intro e he b hb hlt
    rcases List.mem_append.1 he with he | he
    · exact h.fresh e he b hb hlt
    · exact absurd trivial (h2.fresh e he b hb (Nat.lt_of_lt_of_le hlt h.size))
  · refine List.pairwise_append.2 ⟨h.apart, h2.apart, fun e he e' he' b hb hb' => ?_⟩
    exact h2.fresh e' he' b hb' (Ent.lt (h.hold e he) hb) trivial
theorem HP.call (h : HP S w0 w H) (hb : Below w.heap.size w w') : HP S w0 w' H := by simpa using h.trans (HP.of_below (S := Tr) hb)
end

/-! Appending to a row that grows. -/
theorem append_ent {P : Program} (w : World) (t ty e : TypeId) (i : TypeInfo) (z : Value) (size bytes : Nat) (ht : P.underlying t = some (.slice e)) (hi : P.info? e = some i) (hz : i.zero = some z)
    (hsize : i.size = size) (hby : i.bytes = bytes) (hzs : z.cells.size = size) (hsz : 0 < size)
    (v : Value) (n : Nat) (xs : List Value) (hown : w.ownsRow 0 e size v n xs)
    (a : Addr) (m c : Nat) (news : List Value) (hl : news.length = m * size) (hnews : ∀ j u, news[j]? = some u → w.cell? (a.add j) = some u) (h1 : ∀ u ∈ news, u.oneCell' = true)
    (h63 : n + m ≤ maxLen) (hbytes : (n + m) * bytes ≤ 140737488355328) :
    ∃ v' w', (Builtin.append_ #[t, t] ty #[v, .slice (some a) m c]).run P w = .ok v' w' ∧ w'.ownsRow 0 e size v' (n + m) (xs ++ news) ∧ w.grownBy w' v.ownBlock ∧
      (v' = .slice none 0 0 ↔ v = .slice none 0 0 ∧ m = 0) ∧ (∀ b, v'.ownBlock = some b → v.ownBlock = some b ∨ w.heap.size ≤ b) := by
  obtain ⟨v', w', hr, h2, h3, h4⟩ := run_append_own (P := P) w 0 t ty e i z size bytes ht hi hz hsize hby hzs hsz v n xs hown a m c news hl hnews h1 h63 hbytes (Nat.zero_le _)
  refine ⟨v', w', hr, h2, h3, h4, fun b hb => ?_⟩
  rcases hown.2 with ⟨rfl, rfl⟩ | ⟨g, cap, cur, rfl, -, hg, hnc, hcm, hcs, htake⟩
  · obtain ⟨v2, w2, hr2, h22, -, -⟩ := run_append_own (P := P) w w.heap.size t ty e i z size bytes ht hi hz hsize hby hzs hsz (.slice none 0 0) 0 xs ⟨hown.1, .inl ⟨rfl, rfl⟩⟩ a m c news hl hnews h1 h63 hbytes (Nat.le_refl _)
    rw [hr] at hr2
    cases hr2
    exact .inr (h22.lt b hb).1
  · subst hsize
    subst hby
    by_cases hroom : n + m ≤ cap
    · have hfit : n * i.size + news.length ≤ cur.size := by rw [hl, hcs, ← Nat.add_mul]; exact Nat.mul_le_mul_right _ hroom
      have hr2 := run_append_room (P := P) w t ty e i ht hi g n cap cur hg a m c news hl hnews h1 hroom hfit
      rw [hr] at hr2
      cases hr2
      exact .inl hb
    · have holds : ∀ j u, xs[j]? = some u → w.cell? ((⟨g, 0, none⟩ : Addr).add j) = some u := hown.cells (g := g) rfl
      have hr2 := run_append_grow (P := P) w t ty e i z ht hi hz ⟨g, 0, none⟩ n cap xs hown.1 holds a m c news hl hnews (by omega) (by unfold maxLen at h63; omega) (growslice_fits (by omega) hbytes)
      rw [hr] at hr2
      cases hr2
      simp [Value.ownBlock] at hb
      exact .inr (by omega)
end Fw
end Go.Proofs.Yteckbfebemofmaa
