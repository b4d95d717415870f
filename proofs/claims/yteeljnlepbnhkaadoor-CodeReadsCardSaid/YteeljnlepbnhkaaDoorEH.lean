/- Brackets by a stack (plain); a list of instructions in memory. -/
import Derived.Test.YteeljnlepbnhkaaDoorED
import Derived.Laws.MakeOwn
import Derived.Laws.AppendOwn
set_option linter.unusedVariables false
set_option linter.unusedSimpArgs false
namespace Go.Proofs.YteeljnlepbnhkaaDoor
open Go.RowKit Go.Sort
namespace Ec

/-- the state of the search: the open brackets, the innermost last; opener, else, end, depth of each instruction; the deepest -/
structure Sh where
  l : List Nat
  o : Nat → Int
  e : Nat → Int
  d : Nat → Int
  t : Nat → Int
  m : Nat
def upI (f : Nat → Int) (i : Nat) (v : Int) : Nat → Int := fun j => if j = i then v else f j
def top (l : List Nat) : Int := match l.getLast? with | some x => (x : Int) | none => -1
/-- what is laid for instruction k at first -/
def lay (k : Nat) (s : Sh) : Sh := ⟨s.l, upI s.o k (top s.l), upI s.e k (-1), upI s.d k (-1), upI s.t k (s.l.length : Int), s.m⟩
def two (c : Nat → Int) (x : Nat) : Bool := c x == 29 || c x == 33
def stp (c : Nat → Int) (k : Nat) (s : Sh) : Option Sh :=
  let r := lay k s
  if opn (c k) then some { r with l := s.l ++ [k], m := max s.m (s.l.length + 1) }
  else if c k == 34 || c k == 35 then
    match s.l.getLast? with
    | none => none
    | some x =>
      if c k == 34 then (if two c x && decide (r.e x < 0) then some { r with e := upI r.e x (k : Int), t := upI r.t k ((s.l.length : Int) - 1) } else none)
      else if c x == 33 && decide (r.e x < 0) then none
      else some { r with l := s.l.dropLast, d := upI r.d x (k : Int), t := upI r.t k ((s.l.length : Int) - 1) }
  else some r
def shp (c : Nat → Int) : Nat → Option Sh
  | 0 => some ⟨[], fun _ => 0, fun _ => 0, fun _ => 0, fun _ => 0, 0⟩
  | k + 1 => (shp c k).bind (stp c k)
def okS (c : Nat → Int) (n : Nat) : Bool := match shp c n with | some s => s.l.isEmpty && decide (s.m ≤ 6) | none => false
theorem shp_none {c : Nat → Int} {k : Nat} : ∀ j, shp c k = none → shp c (k + j) = none
  | 0, h => h
  | j + 1, h => by show (shp c (k + j)).bind _ = none; rw [shp_none j h]; rfl
theorem shp_bad {c : Nat → Int} {k n : Nat} {s : Sh} (h : shp c k = some s) (hs : stp c k s = none) (hk : k < n) : okS c n = false := by
  have h1 : shp c (k + 1) = none := by show (shp c k).bind _ = none; rw [h]; exact hs
  have h2 := shp_none (n - (k + 1)) h1
  rw [show k + 1 + (n - (k + 1)) = n by omega] at h2
  unfold okS; rw [h2]
theorem shp_step {c : Nat → Int} {k : Nat} {s s' : Sh} (h : shp c k = some s) (hs : stp c k s = some s') : shp c (k + 1) = some s' := by
  show (shp c k).bind _ = some s'; rw [h]; exact hs
theorem shp_lt {c : Nat → Int} : ∀ (k : Nat) (s : Sh), shp c k = some s → (∀ x, x ∈ s.l → x < k) ∧ s.l.length ≤ k ∧ s.m ≤ k
  | 0, s, h => by
    simp only [shp, Option.some.injEq] at h; subst h
    exact ⟨fun x hx => (by simp at hx), Nat.le_refl 0, Nat.le_refl 0⟩
  | k + 1, s', h => by
    have h' : (shp c k).bind (stp c k) = some s' := h
    cases hs : shp c k with
    | none => rw [hs] at h'; cases h'
    | some s =>
      rw [hs] at h'
      have ih := shp_lt k s hs
      have h2 : stp c k s = some s' := h'
      unfold stp lay at h2
      simp only [] at h2
      split at h2
      · simp only [Option.some.injEq] at h2; subst h2
        refine ⟨fun x hx => ?_, by simp; omega, by show max s.m (s.l.length + 1) ≤ k + 1; omega⟩
        have hx' : x ∈ s.l ++ [k] := hx
        rcases List.mem_append.1 hx' with q | q
        · have := ih.1 x q; omega
        · simp at q; omega
      · split at h2
        · split at h2
          · cases h2
          · split at h2
            · split at h2
              · simp only [Option.some.injEq] at h2; subst h2
                exact ⟨fun x hx => by have := ih.1 x hx; omega, by show s.l.length ≤ k + 1; omega, by show s.m ≤ k + 1; omega⟩
              · cases h2
            · split at h2
              · cases h2
              · simp only [Option.some.injEq] at h2; subst h2
                refine ⟨fun x hx => ?_, ?_, by show s.m ≤ k + 1; omega⟩
                · have hx' : x ∈ s.l.dropLast := hx
                  have := ih.1 x (List.dropLast_subset _ hx'); omega
                · show s.l.dropLast.length ≤ k + 1
                  simp; omega
        · simp only [Option.some.injEq] at h2; subst h2
          exact ⟨fun x hx => by have := ih.1 x hx; omega, by show s.l.length ≤ k + 1; omega, by show s.m ≤ k + 1; omega⟩
/-- an instruction -/
structure In where
  op : Int
  a : Int
  b : Int
/-- a list of instructions in memory -/
structure IRow (w : World) (p : Option Addr) (n cap : Nat) (f : Nat → In) : Prop where
  lt : ∀ a, p = some a → 0 < n → a.block < w.heap.size
  som : 0 < n → ∃ a, p = some a
  c0 : ∀ a i, p = some a → i < n → w.cell? (a.add (i * 3)) = some (.int .i64 (f i).op)
  c1 : ∀ a i, p = some a → i < n → w.cell? ⟨(a.add (i * 3)).block, (a.add (i * 3)).off + 1, none⟩ = some (.int .i64 (f i).a)
  c2 : ∀ a i, p = some a → i < n → w.cell? ⟨(a.add (i * 3)).block, (a.add (i * 3)).off + 2, none⟩ = some (.int .i64 (f i).b)
  hn : n ≤ cap
  hc : cap ≤ maxLen
theorem add_block (a : Addr) (k : Nat) : (a.add k).block = a.block := by unfold Addr.add; split <;> rfl
theorem IRow.below {B : Nat} {w w' : World} {p : Option Addr} {n cap : Nat} {f : Nat → In} (h : IRow w p n cap f) (hB : w.heap.size ≤ B) (hb : Below B w w') : IRow w' p n cap f := by
  have q : ∀ a i, p = some a → i < n → ∀ k, w'.cell? ⟨(a.add (i * 3)).block, (a.add (i * 3)).off + k, none⟩ = w.cell? ⟨(a.add (i * 3)).block, (a.add (i * 3)).off + k, none⟩ := fun a i e hi k => hb.cell (by show (a.add (i * 3)).block < _; rw [add_block]; have := h.lt a e (by omega); omega)
  exact ⟨fun a e h0 => Nat.lt_of_lt_of_le (h.lt a e h0) hb.size, h.som, fun a i e hi => by rw [hb.cell (by rw [add_block]; have := h.lt a e (by omega); omega)]; exact h.c0 a i e hi,
    fun a i e hi => by rw [q a i e hi]; exact h.c1 a i e hi, fun a i e hi => by rw [q a i e hi]; exact h.c2 a i e hi, h.hn, h.hc⟩
/-- a row of numbers that was made -/
structure NRow (w : World) (g n : Nat) (f : Nat → Int) : Prop where
  c : ∀ i, i < n → w.cell? ⟨g, i, none⟩ = some (.int .i64 (f i))
  fz : ∀ i, i < n → w.frozen? ⟨g, i, none⟩ = false
  gz : g < w.heap.size
abbrev rowI (n : Nat) : Obj := .cells (madeCells #[.int .i64 0] (n * 1)) 3
theorem infoI : (Tryd.prog.info? 3).map (fun i => (i.zero, i.size, i.bytes)) = some (some (.int .i64 0), 1, 8) := by kernel_rfl
theorem makeI (n : Nat) (hn : n ≤ 400) (W : World) : (Instr.makeSlice 43 (.int .i64 (n : Int)) (.int .i64 (n : Int))).run Tryd.prog W = .ok (.slice (some ⟨W.heap.size, 0, none⟩) n n) (W.alloc (rowI n)) := by
  obtain ⟨i, hi, hzz⟩ := Option.map_eq_some_iff.1 infoI
  simp only [Prod.mk.injEq] at hzz
  obtain ⟨hz, hs, hb⟩ := hzz
  have hr := run_make (P := Tryd.prog) W 43 3 i _ Tryd.underlying43 hi hz .i64 .i64 (n : Int) (n : Int) (by omega) (by omega) (by rw [hb]; omega) (by omega)
  rw [hs, Int.toNat_natCast] at hr
  exact hr
theorem made_row (w : World) (n : Nat) : NRow (w.alloc (rowI n)) w.heap.size n (fun _ => 0) :=
  ⟨fun i hi => by simp [go_sem, madeCells, hi, Nat.mod_one], fun i hi => by simp [go_sem], by simp⟩
theorem NRow.below {w w' : World} {g n : Nat} {f : Nat → Int} (h : NRow w g n f) (hb : Below w.heap.size w w') : NRow w' g n f :=
  ⟨fun i hi => by rw [hb.cell h.gz]; exact h.c i hi, fun i hi => by rw [hb.frozen h.gz]; exact h.fz i hi, Nat.lt_of_lt_of_le h.gz hb.size⟩
theorem NRow.set {w : World} {g n : Nat} {f : Nat → Int} (h : NRow w g n f) (i : Nat) (hi : i < n) (v : Int) : NRow (w.setCell ⟨g, i, none⟩ (.int .i64 v)) g n (upI f i v) :=
  ⟨fun j hj => by
    by_cases e : j = i
    · subst e; rw [World.cell?_setCell_same _ _ _ (h.c j hj)]; simp [upI]
    · rw [World.cell?_setCell_other _ _ _ _ (by intro q; injection q; omega)]; simp [upI, e]; exact h.c j hj,
   fun j hj => by rw [World.frozen?_setCell]; exact h.fz j hj, by simpa [go_sem] using h.gz⟩
theorem NRow.other {w : World} {g g2 n : Nat} {f : Nat → Int} (h : NRow w g n f) (hg : g ≠ g2) (o : Nat) (v : Value) : NRow (w.setCell ⟨g2, o, none⟩ v) g n f :=
  ⟨fun j hj => by rw [World.cell?_setCell_other _ _ _ _ (by intro q; injection q with q1; exact hg q1.symm)]; exact h.c j hj, fun j hj => by rw [World.frozen?_setCell]; exact h.fz j hj, by simpa [go_sem] using h.gz⟩
theorem stp_else_ok {c : Nat → Int} {k x : Nat} {s : Sh} (hA : opn (c k) = false) (h34 : c k = 34) (hl : s.l.getLast? = some x) (h2 : two c x = true) (hn : (lay k s).e x < 0) :
    stp c k s = some { lay k s with e := upI (lay k s).e x (k : Int), t := upI (lay k s).t k ((s.l.length : Int) - 1) } := by
  unfold stp
  simp only []
  rw [if_neg (by rw [hA]; exact Bool.false_ne_true), if_pos (by rw [h34]; rfl), hl]
  simp only []
  rw [if_pos (by rw [h34]; rfl), if_pos (by rw [h2, decide_eq_true hn]; rfl)]
theorem stp_else_two {c : Nat → Int} {k x : Nat} {s : Sh} (hA : opn (c k) = false) (h34 : c k = 34) (hl : s.l.getLast? = some x) (h2 : two c x = false) : stp c k s = none := by
  unfold stp
  simp only []
  rw [if_neg (by rw [hA]; exact Bool.false_ne_true), if_pos (by rw [h34]; rfl), hl]
  simp only []
  rw [if_pos (by rw [h34]; rfl), if_neg (by rw [h2]; exact Bool.false_ne_true)]
theorem stp_else_has {c : Nat → Int} {k x : Nat} {s : Sh} (hA : opn (c k) = false) (h34 : c k = 34) (hl : s.l.getLast? = some x) (hn : ¬ (lay k s).e x < 0) : stp c k s = none := by
  unfold stp
  simp only []
  rw [if_neg (by rw [hA]; exact Bool.false_ne_true), if_pos (by rw [h34]; rfl), hl]
  simp only []
  rw [if_pos (by rw [h34]; rfl), if_neg (by rw [decide_eq_false hn, Bool.and_false]; exact Bool.false_ne_true)]
theorem stp_end_try {c : Nat → Int} {k x : Nat} {s : Sh} (hA : opn (c k) = false) (h35 : c k = 35) (hl : s.l.getLast? = some x) (h2 : c x = 33) (hn : (lay k s).e x < 0) : stp c k s = none := by
  unfold stp
  simp only []
  rw [if_neg (by rw [hA]; exact Bool.false_ne_true), if_pos (by rw [h35]; rfl), hl]
  simp only []
  rw [if_neg (by rw [h35]; decide), if_pos (by rw [h2, decide_eq_true hn]; rfl)]
theorem stp_end_ok {c : Nat → Int} {k x : Nat} {s : Sh} (hA : opn (c k) = false) (h35 : c k = 35) (hl : s.l.getLast? = some x) (h2 : ¬ (c x = 33 ∧ (lay k s).e x < 0)) :
    stp c k s = some { lay k s with l := s.l.dropLast, d := upI (lay k s).d x (k : Int), t := upI (lay k s).t k ((s.l.length : Int) - 1) } := by
  unfold stp
  simp only []
  rw [if_neg (by rw [hA]; exact Bool.false_ne_true), if_pos (by rw [h35]; rfl), hl]
  simp only []
  rw [if_neg (by rw [h35]; decide), if_neg (by simpa using h2)]
end Ec
end Go.Proofs.YteeljnlepbnhkaaDoor
