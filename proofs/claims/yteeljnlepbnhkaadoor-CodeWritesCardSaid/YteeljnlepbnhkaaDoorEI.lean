/- The program's shapeOf: what lies in memory. -/
import Derived.Test.YteeljnlepbnhkaaDoorEH
import Derived.RegionTactic
import Derived.ChangeAlike
import Derived.BigRegion
import Derived.Deep.CutRange
import Derived.Deep.DeepCutAuto
import Derived.Deep.Heap
import Derived.Deep.AppendLies
set_option linter.unusedVariables false
set_option linter.unusedSimpArgs false
namespace Go.Proofs.YteeljnlepbnhkaaDoor
open Go.RowKit Go.Sort
namespace Ec

/-- the result's own cells are as they were laid -/
structure ZR (wr : World) (h : Nat) : Prop where
  c0 : wr.cell? ⟨h, 0, none⟩ = some (.slice none 0 0)
  c1 : wr.cell? ⟨h, 1, none⟩ = some (.slice none 0 0)
  c2 : wr.cell? ⟨h, 2, none⟩ = some (.slice none 0 0)
  c3 : wr.cell? ⟨h, 3, none⟩ = some (.slice none 0 0)
  c4 : wr.cell? ⟨h, 4, none⟩ = some (.int .i64 0)
  c5 : wr.cell? ⟨h, 5, none⟩ = some (.bool false)
  fz : ∀ i, i < 6 → wr.frozen? ⟨h, i, none⟩ = false
theorem ZR.same {w w' : World} {h : Nat} (z : ZR w h) (hc : ∀ j, w'.cell? ⟨h, j, none⟩ = w.cell? ⟨h, j, none⟩) (hf : ∀ j, w'.frozen? ⟨h, j, none⟩ = w.frozen? ⟨h, j, none⟩) : ZR w' h :=
  ⟨by rw [hc]; exact z.c0, by rw [hc]; exact z.c1, by rw [hc]; exact z.c2, by rw [hc]; exact z.c3, by rw [hc]; exact z.c4, by rw [hc]; exact z.c5, fun i hi => by rw [hf]; exact z.fz i hi⟩
theorem ZR.other {w : World} {h g : Nat} (z : ZR w h) (hg : h < g) (o : Nat) (v : Value) : ZR (w.setCell ⟨g, o, none⟩ v) h :=
  z.same (fun j => World.cell?_setCell_other _ _ _ _ (by intro e; injection e with e1; omega)) (fun j => World.frozen?_setCell _ _ _ _)
/-- what the search holds in memory: the struct at b, the four rows -/
structure SW (w wr : World) (b g0 g1 g2 g3 n : Nat) (s : Sh) : Prop where
  z0 : wr.cell? ⟨b, 0, none⟩ = some (.slice (some ⟨g0, 0, none⟩) n n)
  z1 : wr.cell? ⟨b, 1, none⟩ = some (.slice (some ⟨g1, 0, none⟩) n n)
  z2 : wr.cell? ⟨b, 2, none⟩ = some (.slice (some ⟨g2, 0, none⟩) n n)
  z3 : wr.cell? ⟨b, 3, none⟩ = some (.slice (some ⟨g3, 0, none⟩) n n)
  z4 : wr.cell? ⟨b, 4, none⟩ = some (.int .i64 (s.m : Int))
  z5 : wr.cell? ⟨b, 5, none⟩ = some (.bool true)
  fb : ∀ i, i < 6 → wr.frozen? ⟨b, i, none⟩ = false
  r0 : NRow wr g0 n s.o
  r1 : NRow wr g1 n s.e
  r2 : NRow wr g2 n s.d
  r3 : NRow wr g3 n s.t
  ne : b ≠ g0 ∧ b ≠ g1 ∧ b ≠ g2 ∧ b ≠ g3 ∧ g0 ≠ g1 ∧ g0 ≠ g2 ∧ g0 ≠ g3 ∧ g1 ≠ g2 ∧ g1 ≠ g3 ∧ g2 ≠ g3
  lo : w.heap.size < b ∧ w.heap.size < g0 ∧ w.heap.size < g1 ∧ w.heap.size < g2 ∧ w.heap.size < g3
  bz : b < wr.heap.size
  hb : Below w.heap.size w wr
  zr : ZR wr w.heap.size
def s0 : Sh := ⟨[], fun _ => 0, fun _ => 0, fun _ => 0, fun _ => 0, 0⟩
theorem at_world {P : Program} {c : Code} {Q : Exit → Act → World → Prop} {a : Act} {X : World} (F : World → Prop) (hF : F X) (h : ∀ W, F W → c.wp P Q a W) : c.wp P Q a X := h X hF
def ResS (w : World) (c : Nat → Int) (n : Nat) (e : Ending) (w' : World) : Prop :=
  ∃ (g0 g1 g2 g3 : Nat) (m : Int), e = .returned (.agg #[.slice (some ⟨g0, 0, none⟩) n n, .slice (some ⟨g1, 0, none⟩) n n, .slice (some ⟨g2, 0, none⟩) n n, .slice (some ⟨g3, 0, none⟩) n n, .int .i64 m, .bool (okS c n)]) ∧ Below w.heap.size w w' ∧
    (w.heap.size < g0 ∧ w.heap.size < g1 ∧ w.heap.size < g2 ∧ w.heap.size < g3 ∧ g0 < w'.heap.size ∧ g1 < w'.heap.size ∧ g2 < w'.heap.size ∧ g3 < w'.heap.size) ∧
    (okS c n = true → ∃ s, shp c n = some s ∧ m = (s.m : Int) ∧ NRow w' g0 n s.o ∧ NRow w' g1 n s.e ∧ NRow w' g2 n s.d ∧ NRow w' g3 n s.t)
theorem NRow.same {w w' : World} {g n : Nat} {f : Nat → Int} (h : NRow w g n f) (hc : ∀ j, w'.cell? ⟨g, j, none⟩ = w.cell? ⟨g, j, none⟩) (hf : ∀ j, w'.frozen? ⟨g, j, none⟩ = w.frozen? ⟨g, j, none⟩) (hz : w.heap.size ≤ w'.heap.size) : NRow w' g n f :=
  ⟨fun i hi => by rw [hc]; exact h.c i hi, fun i hi => by rw [hf]; exact h.fz i hi, Nat.lt_of_lt_of_le h.gz hz⟩
theorem NRow.congr {w : World} {g n : Nat} {f f' : Nat → Int} (h : NRow w g n f) (e : ∀ i, i < n → f i = f' i) : NRow w g n f' := ⟨fun i hi => by rw [← e i hi]; exact h.c i hi, h.fz, h.gz⟩
theorem SW.same {w wr wr' : World} {b g0 g1 g2 g3 n : Nat} {s : Sh} (h : SW w wr b g0 g1 g2 g3 n s)
    (hc : ∀ p, (p = b ∨ p = g0 ∨ p = g1 ∨ p = g2 ∨ p = g3 ∨ p = w.heap.size) → wr'.heap[p]? = wr.heap[p]?) (hz : wr.heap.size ≤ wr'.heap.size) (hB : Below w.heap.size w wr') : SW w wr' b g0 g1 g2 g3 n s := by
  have c : ∀ p j, (p = b ∨ p = g0 ∨ p = g1 ∨ p = g2 ∨ p = g3 ∨ p = w.heap.size) → wr'.cell? ⟨p, j, none⟩ = wr.cell? ⟨p, j, none⟩ := fun p j hp => World.cell?_of_block (a := ⟨p, j, none⟩) (hc p hp)
  have f : ∀ p j, (p = b ∨ p = g0 ∨ p = g1 ∨ p = g2 ∨ p = g3 ∨ p = w.heap.size) → wr'.frozen? ⟨p, j, none⟩ = wr.frozen? ⟨p, j, none⟩ := fun p j hp => World.frozen?_of_block (a := ⟨p, j, none⟩) (hc p hp)
  exact ⟨by rw [c _ _ (by simp)]; exact h.z0, by rw [c _ _ (by simp)]; exact h.z1, by rw [c _ _ (by simp)]; exact h.z2, by rw [c _ _ (by simp)]; exact h.z3, by rw [c _ _ (by simp)]; exact h.z4, by rw [c _ _ (by simp)]; exact h.z5,
    fun i hi => by rw [f _ _ (by simp)]; exact h.fb i hi, h.r0.same (fun j => c _ j (by simp)) (fun j => f _ j (by simp)) hz, h.r1.same (fun j => c _ j (by simp)) (fun j => f _ j (by simp)) hz, h.r2.same (fun j => c _ j (by simp)) (fun j => f _ j (by simp)) hz, h.r3.same (fun j => c _ j (by simp)) (fun j => f _ j (by simp)) hz,
    h.ne, h.lo, Nat.lt_of_lt_of_le h.bz hz, hB, h.zr.same (fun j => c _ j (by simp)) (fun j => f _ j (by simp))⟩
theorem SW.below {w wr wr' : World} {b g0 g1 g2 g3 n : Nat} {s : Sh} (h : SW w wr b g0 g1 g2 g3 n s) (hb : Below wr.heap.size wr wr') : SW w wr' b g0 g1 g2 g3 n s :=
  h.same (fun p hp => hb.block p (by rcases hp with rfl | rfl | rfl | rfl | rfl | rfl; exact h.bz; exact h.r0.gz; exact h.r1.gz; exact h.r2.gz; exact h.r3.gz; exact Nat.lt_trans h.lo.1 h.bz)) hb.size (h.hb.trans (hb.mono h.hb.size))
theorem SW.grown {w wr wr' : World} {b g0 g1 g2 g3 n : Nat} {s : Sh} {row : Option Nat} (h : SW w wr b g0 g1 g2 g3 n s) (hg : wr.grownBy wr' row) (hr : ∀ p, some p = row → p ≠ b ∧ p ≠ g0 ∧ p ≠ g1 ∧ p ≠ g2 ∧ p ≠ g3 ∧ w.heap.size < p) : SW w wr' b g0 g1 g2 g3 n s := by
  have hlt : ∀ p, (p = b ∨ p = g0 ∨ p = g1 ∨ p = g2 ∨ p = g3 ∨ p = w.heap.size) → p < wr.heap.size := fun p hp => by rcases hp with rfl | rfl | rfl | rfl | rfl | rfl; exact h.bz; exact h.r0.gz; exact h.r1.gz; exact h.r2.gz; exact h.r3.gz; exact Nat.lt_trans h.lo.1 h.bz
  refine h.same (fun p hp => hg.block p (hlt p hp) (fun e => ?_)) hg.size ?_
  · have := hr p e
    rcases hp with rfl | rfl | rfl | rfl | rfl | rfl
    · exact this.1 rfl
    · exact this.2.1 rfl
    · exact this.2.2.1 rfl
    · exact this.2.2.2.1 rfl
    · exact this.2.2.2.2.1 rfl
    · exact absurd this.2.2.2.2.2 (by omega)
  · refine ⟨hg.os.trans h.hb.os, hg.tape.trans h.hb.tape, hg.output.trans h.hb.output, Nat.le_trans h.hb.size hg.size, fun k hk => (hg.block k (Nat.lt_of_lt_of_le hk h.hb.size) (fun e => ?_)).trans (h.hb.block k hk)⟩
    have := (hr k e).2.2.2.2.2
    omega
theorem set_below {w wr : World} (h : Below w.heap.size w wr) (g : Nat) (hg : w.heap.size < g) (o : Nat) (v : Value) : Below w.heap.size w (wr.setCell ⟨g, o, none⟩ v) := h.setCell (by show w.heap.size ≤ g; omega) v
theorem SW.setO {w wr : World} {b g0 g1 g2 g3 n : Nat} {s : Sh} (h : SW w wr b g0 g1 g2 g3 n s) (i : Nat) (hi : i < n) (v : Int) : SW w (wr.setCell ⟨g0, i, none⟩ (.int .i64 v)) b g0 g1 g2 g3 n { s with o := upI s.o i v } := by
  obtain ⟨n1, n2, n3, n4, n5, n6, n7, n8, n9, n10⟩ := h.ne
  have q : ∀ j, (wr.setCell ⟨g0, i, none⟩ (.int .i64 v)).cell? ⟨b, j, none⟩ = wr.cell? ⟨b, j, none⟩ := fun j => World.cell?_setCell_other _ _ _ _ (by intro e; injection e with e1; omega)
  exact ⟨(q 0).trans h.z0, (q 1).trans h.z1, (q 2).trans h.z2, (q 3).trans h.z3, (q 4).trans h.z4, (q 5).trans h.z5, fun j hj => by rw [World.frozen?_setCell]; exact h.fb j hj,
    h.r0.set i hi v, h.r1.other (by omega) _ _, h.r2.other (by omega) _ _, h.r3.other (by omega) _ _,
    h.ne, h.lo, by simpa [go_sem] using h.bz, set_below h.hb g0 (by have := h.lo; omega) _ _, h.zr.other (by have := h.lo; omega) _ _⟩
theorem SW.setE {w wr : World} {b g0 g1 g2 g3 n : Nat} {s : Sh} (h : SW w wr b g0 g1 g2 g3 n s) (i : Nat) (hi : i < n) (v : Int) : SW w (wr.setCell ⟨g1, i, none⟩ (.int .i64 v)) b g0 g1 g2 g3 n { s with e := upI s.e i v } := by
  obtain ⟨n1, n2, n3, n4, n5, n6, n7, n8, n9, n10⟩ := h.ne
  have q : ∀ j, (wr.setCell ⟨g1, i, none⟩ (.int .i64 v)).cell? ⟨b, j, none⟩ = wr.cell? ⟨b, j, none⟩ := fun j => World.cell?_setCell_other _ _ _ _ (by intro e; injection e with e1; omega)
  exact ⟨(q 0).trans h.z0, (q 1).trans h.z1, (q 2).trans h.z2, (q 3).trans h.z3, (q 4).trans h.z4, (q 5).trans h.z5, fun j hj => by rw [World.frozen?_setCell]; exact h.fb j hj,
    h.r0.other (by omega) _ _, h.r1.set i hi v, h.r2.other (by omega) _ _, h.r3.other (by omega) _ _,
    h.ne, h.lo, by simpa [go_sem] using h.bz, set_below h.hb g1 (by have := h.lo; omega) _ _, h.zr.other (by have := h.lo; omega) _ _⟩
theorem SW.setD {w wr : World} {b g0 g1 g2 g3 n : Nat} {s : Sh} (h : SW w wr b g0 g1 g2 g3 n s) (i : Nat) (hi : i < n) (v : Int) : SW w (wr.setCell ⟨g2, i, none⟩ (.int .i64 v)) b g0 g1 g2 g3 n { s with d := upI s.d i v } := by
  obtain ⟨n1, n2, n3, n4, n5, n6, n7, n8, n9, n10⟩ := h.ne
  have q : ∀ j, (wr.setCell ⟨g2, i, none⟩ (.int .i64 v)).cell? ⟨b, j, none⟩ = wr.cell? ⟨b, j, none⟩ := fun j => World.cell?_setCell_other _ _ _ _ (by intro e; injection e with e1; omega)
  exact ⟨(q 0).trans h.z0, (q 1).trans h.z1, (q 2).trans h.z2, (q 3).trans h.z3, (q 4).trans h.z4, (q 5).trans h.z5, fun j hj => by rw [World.frozen?_setCell]; exact h.fb j hj,
    h.r0.other (by omega) _ _, h.r1.other (by omega) _ _, h.r2.set i hi v, h.r3.other (by omega) _ _,
    h.ne, h.lo, by simpa [go_sem] using h.bz, set_below h.hb g2 (by have := h.lo; omega) _ _, h.zr.other (by have := h.lo; omega) _ _⟩
theorem SW.setT {w wr : World} {b g0 g1 g2 g3 n : Nat} {s : Sh} (h : SW w wr b g0 g1 g2 g3 n s) (i : Nat) (hi : i < n) (v : Int) : SW w (wr.setCell ⟨g3, i, none⟩ (.int .i64 v)) b g0 g1 g2 g3 n { s with t := upI s.t i v } := by
  obtain ⟨n1, n2, n3, n4, n5, n6, n7, n8, n9, n10⟩ := h.ne
  have q : ∀ j, (wr.setCell ⟨g3, i, none⟩ (.int .i64 v)).cell? ⟨b, j, none⟩ = wr.cell? ⟨b, j, none⟩ := fun j => World.cell?_setCell_other _ _ _ _ (by intro e; injection e with e1; omega)
  exact ⟨(q 0).trans h.z0, (q 1).trans h.z1, (q 2).trans h.z2, (q 3).trans h.z3, (q 4).trans h.z4, (q 5).trans h.z5, fun j hj => by rw [World.frozen?_setCell]; exact h.fb j hj,
    h.r0.other (by omega) _ _, h.r1.other (by omega) _ _, h.r2.other (by omega) _ _, h.r3.set i hi v,
    h.ne, h.lo, by simpa [go_sem] using h.bz, set_below h.hb g3 (by have := h.lo; omega) _ _, h.zr.other (by have := h.lo; omega) _ _⟩
theorem SW.setM {w wr : World} {b g0 g1 g2 g3 n : Nat} {s : Sh} (h : SW w wr b g0 g1 g2 g3 n s) (m : Nat) : SW w (wr.setCell ⟨b, 4, none⟩ (.int .i64 (m : Int))) b g0 g1 g2 g3 n { s with m := m } := by
  obtain ⟨n1, n2, n3, n4, n5, n6, n7, n8, n9, n10⟩ := h.ne
  have q : ∀ j, j ≠ 4 → (wr.setCell ⟨b, 4, none⟩ (.int .i64 (m : Int))).cell? ⟨b, j, none⟩ = wr.cell? ⟨b, j, none⟩ := fun j hj => World.cell?_setCell_other _ _ _ _ (by intro e; injection e with e1 e2; omega)
  exact ⟨(q 0 (by omega)).trans h.z0, (q 1 (by omega)).trans h.z1, (q 2 (by omega)).trans h.z2, (q 3 (by omega)).trans h.z3, World.cell?_setCell_same _ _ _ h.z4, (q 5 (by omega)).trans h.z5, fun j hj => by rw [World.frozen?_setCell]; exact h.fb j hj,
    h.r0.other (by omega) _ _, h.r1.other (by omega) _ _, h.r2.other (by omega) _ _, h.r3.other (by omega) _ _, h.ne, h.lo, by simpa [go_sem] using h.bz, set_below h.hb b h.lo.1 _ _, h.zr.other h.lo.1 _ _⟩
/-- the open brackets in memory -/
def lI (l : List Nat) : List Value := l.map (fun (x : Nat) => Value.int .i64 (x : Int))
abbrev Own (w : World) (B : Nat) (v : Value) (l : List Nat) : Prop := w.ownsRow B 3 1 v l.length (lI l)
theorem Own.form {w : World} {B : Nat} {v : Value} {l : List Nat} (h : Own w B v l) : (v = .slice none 0 0 ∧ l = []) ∨ ∃ g cap, v = .slice (some ⟨g, 0, none⟩) l.length cap ∧ cap ≤ maxLen ∧ l.length ≤ cap ∧ B ≤ g := by
  obtain ⟨hl, ⟨h0, h1⟩ | ⟨g, cap, cur, hv, hb, hg, hc, hm, hs, hx⟩⟩ := h
  · exact Or.inl ⟨h0, List.length_eq_zero_iff.1 h1⟩
  · exact Or.inr ⟨g, cap, hv, hm, hc, hb⟩
theorem Own.top {w : World} {B : Nat} {v : Value} {l : List Nat} {x : Nat} (h : Own w B v l) (hx : l.getLast? = some x) : ∃ g cap, v = .slice (some ⟨g, 0, none⟩) l.length cap ∧ cap ≤ maxLen ∧ l.length ≤ cap ∧ B ≤ g ∧ g < w.heap.size ∧ w.cell? ⟨g, l.length - 1, none⟩ = some (.int .i64 (x : Int)) ∧
    Own w B (.slice (some ⟨g, 0, none⟩) l.dropLast.length cap) l.dropLast := by
  have hne : l ≠ [] := fun e => by subst e; simp at hx
  have hlen : 0 < l.length := List.length_pos_iff.2 hne
  obtain ⟨hl, ⟨h0, h1⟩ | ⟨g, cap, cur, hv, hb, hg, hc, hm, hs, hxs⟩⟩ := h
  · omega
  · refine ⟨g, cap, hv, hm, hc, hb, (Array.getElem?_eq_some_iff.1 hg).1, ?_, by simp [lI], Or.inr ⟨g, cap, cur, rfl, hb, hg, by simp; omega, hm, hs, ?_⟩⟩
    · have e : (lI l)[l.length - 1]? = some (.int .i64 (x : Int)) := by
        unfold lI
        rw [List.getElem?_map, ← List.getLast?_eq_getElem?, hx]; rfl
      rw [← hxs, List.getElem?_take_of_lt (by omega)] at e
      simpa [World.cell?, hg] using e
    · have : (lI l).take (l.length - 1) = lI l.dropLast := by unfold lI; rw [List.dropLast_eq_take, List.map_take]
      rw [← this, ← hxs, List.take_take, List.length_dropLast]
      congr 1; omega
theorem Own.set {w : World} {B : Nat} {v : Value} {l : List Nat} (h : Own w B v l) (g : Nat) (hg : g < B) (o : Nat) (u : Value) : Own (w.setCell ⟨g, o, none⟩ u) B v l := by
  obtain ⟨hl, h0 | ⟨g', cap, cur, hv, hb, hg', hc, hm, hs, hx⟩⟩ := h
  · exact ⟨hl, Or.inl h0⟩
  · exact ⟨hl, Or.inr ⟨g', cap, cur, hv, hb, by rw [Go.Deep.blk_setCell_other _ _ _ _ (by show g' ≠ g; omega)]; exact hg', hc, hm, hs, hx⟩⟩
theorem Own.below {w w' : World} {B : Nat} {v : Value} {l : List Nat} (h : Own w B v l) (hb : Below w.heap.size w w') : Own w' B v l := by
  obtain ⟨hl, h0 | ⟨g', cap, cur, hv, hB, hg', hc, hm, hs, hx⟩⟩ := h
  · exact ⟨hl, Or.inl h0⟩
  · exact ⟨hl, Or.inr ⟨g', cap, cur, hv, hB, by rw [hb.block g' (Array.getElem?_eq_some_iff.1 hg').1]; exact hg', hc, hm, hs, hx⟩⟩
end Ec
end Go.Proofs.YteeljnlepbnhkaaDoor
