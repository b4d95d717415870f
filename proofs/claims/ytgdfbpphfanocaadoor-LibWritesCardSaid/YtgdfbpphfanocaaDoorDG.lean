/- A list of calls that came in. -/
import Derived.Test.YtgdfbpphfanocaaDoorCY
import Derived.Deep.Slices
import Derived.ChangeArms
import Derived.OpenShut
set_option linter.unusedVariables false
set_option linter.unusedSimpArgs false
namespace Go.Proofs.YtgdfbpphfanocaaDoor
open Go.RowKit Go.Sort Go.ChangeShapes Go.WideShapes
namespace Lc

/-- a call -/
structure O5 where
  d : Int
  a : Int
  v : Int
  f : Bool
  s : ByteArray
theorem cells5 : Tryd.prog.cellsOf 31 = 5 := by kernel_rfl
theorem cells1i : Tryd.prog.cellsOf 3 = 1 := by kernel_rfl
theorem cells1b : Tryd.prog.cellsOf 4 = 1 := by kernel_rfl
theorem cells1s : Tryd.prog.cellsOf 9 = 1 := by kernel_rfl
set_option maxRecDepth 100000 in
theorem elem5 {H : Type} {enc : TypeId × Value → H} {W : World} {base : Nat} {sp : Nat → Bool} {hd : Bool} {n : Nat} {cs : List Value} {y : DataW H × List MemPlace} (h : DataW.trod enc Tryd.prog W base sp hd n 31 cs = some y) :
    ∃ o : O5, cs = [.int .i64 o.d, .int .i64 o.a, .int .i64 o.v, .bool o.f, .string o.s] ∧ o.s.size ≤ maxLen ∧ (Lit.int .i64 o.a).wf = true := by
  obtain ⟨xs, k, hk, hx, hl, hxl, hf⟩ := DataW.trod_struct Tryd.underlying31 h
  rw [cells5] at hl
  simp at hxl
  match xs, hxl, cs, hl with
  | [y0, y1, y2, y3, y4], _, [v0, v1, v2, v3, v4], _ =>
    have g0 := hf 0 _ rfl
    have g1 := hf 1 _ rfl
    have g2 := hf 2 _ rfl
    have g3 := hf 3 _ rfl
    have g4 := hf 4 _ rfl
    simp [cells1i, cells1b, cells1s] at g0 g1 g2 g3 g4
    obtain ⟨z0, h0, -⟩ := DataW.trod_int Tryd.underlying3 g0
    obtain ⟨z1, h1, -, h6⟩ := DataW.trod_int Tryd.underlying3 g1
    obtain ⟨z2, h2, -⟩ := DataW.trod_int Tryd.underlying3 g2
    obtain ⟨z3, h3, -⟩ := DataW.trod_bool Tryd.underlying4 g3
    obtain ⟨z4, h4, -, h5⟩ := DataW.trod_string Tryd.underlying9 g4
    simp only [List.cons.injEq, and_true] at h0 h1 h2 h3 h4
    exact ⟨⟨z0, z1, z2, z3, z4⟩, by rw [h0, h1, h2, h3, h4], h5, h6⟩
theorem open_op5 {H : Type} {enc : TypeId × Value → H} {W : World} {base b0 : Nat} {sp : Nat → Bool} {hd : Bool} {v : Value} {d : DataW H} {p : List MemPlace} (hv : Value.okWide Tryd.prog W .any b0 31 v) (h : DataW.Trod enc Tryd.prog W base sp hd 31 v d p) :
    ∃ o : O5, v = .agg #[.int .i64 o.d, .int .i64 o.a, .int .i64 o.v, .bool o.f, .string o.s] ∧ o.s.size ≤ maxLen ∧ (Lit.int .i64 o.a).wf = true := by
  obtain ⟨cs, rfl, hsz⟩ := okWide_struct Tryd.underlying31 hv
  obtain ⟨fuel, hf⟩ := h
  obtain ⟨o, ho, h2⟩ := elem5 hf
  refine ⟨o, ?_, h2⟩
  have : cs.toList = [.int .i64 o.d, .int .i64 o.a, .int .i64 o.v, .bool o.f, .string o.s] := ho
  rw [← this]
/-- the calls in memory -/
structure OpsRow (W : World) (p : Option Addr) (n cap : Nat) (f : Nat → O5) : Prop where
  lt : ∀ a, p = some a → 0 < n → a.block < W.heap.size
  som : 0 < n → ∃ a, p = some a
  c0 : ∀ a i, p = some a → i < n → W.cell? (a.add (i * 5)) = some (.int .i64 (f i).d)
  c1 : ∀ a i, p = some a → i < n → W.cell? ⟨(a.add (i * 5)).block, (a.add (i * 5)).off + 1, none⟩ = some (.int .i64 (f i).a)
  c2 : ∀ a i, p = some a → i < n → W.cell? ⟨(a.add (i * 5)).block, (a.add (i * 5)).off + 2, none⟩ = some (.int .i64 (f i).v)
  c3 : ∀ a i, p = some a → i < n → W.cell? ⟨(a.add (i * 5)).block, (a.add (i * 5)).off + 3, none⟩ = some (.bool (f i).f)
  c4 : ∀ a i, p = some a → i < n → W.cell? ⟨(a.add (i * 5)).block, (a.add (i * 5)).off + 4, none⟩ = some (.string (f i).s)
  hn : n ≤ cap
  hc : cap ≤ maxLen
  ss : ∀ i, i < n → (f i).s.size ≤ maxLen ∧ (Lit.int .i64 (f i).a).wf = true
theorem add_block5 (a : Addr) (k : Nat) : (a.add k).block = a.block := by unfold Addr.add; split <;> rfl
theorem OpsRow.below {W W' : World} {p : Option Addr} {n cap : Nat} {f : Nat → O5} (h : OpsRow W p n cap f) (hb : Below W.heap.size W W') : OpsRow W' p n cap f := by
  have q : ∀ a i, p = some a → i < n → ∀ k, W'.cell? ⟨(a.add (i * 5)).block, (a.add (i * 5)).off + k, none⟩ = W.cell? ⟨(a.add (i * 5)).block, (a.add (i * 5)).off + k, none⟩ := fun a i e hi k => hb.cell (by show (a.add (i * 5)).block < _; rw [add_block5]; exact h.lt a e (by omega))
  exact ⟨fun a e h0 => Nat.lt_of_lt_of_le (h.lt a e h0) hb.size, h.som, fun a i e hi => by rw [hb.cell (by rw [add_block5]; exact h.lt a e (by omega))]; exact h.c0 a i e hi,
    fun a i e hi => by rw [q a i e hi]; exact h.c1 a i e hi, fun a i e hi => by rw [q a i e hi]; exact h.c2 a i e hi, fun a i e hi => by rw [q a i e hi]; exact h.c3 a i e hi, fun a i e hi => by rw [q a i e hi]; exact h.c4 a i e hi, h.hn, h.hc, h.ss⟩
theorem choose5 {m : Nat} {Q : Nat → O5 → Prop} (h : ∀ i, i < m → ∃ o, Q i o) : ∃ f : Nat → O5, ∀ i, i < m → Q i (f i) := by
  refine ⟨fun i => if hi : i < m then (h i hi).choose else ⟨0, 0, 0, false, ByteArray.empty⟩, fun i hi => ?_⟩
  simp only [hi, dif_pos]
  exact (h i hi).choose_spec
theorem add_next5 (a : Addr) (i k : Nat) (hk : 0 < k) : (a.add (i * 5)).add k = ⟨(a.add (i * 5)).block, (a.add (i * 5)).off + k, none⟩ := by
  generalize a.add (i * 5) = b
  unfold Addr.add
  rw [if_neg (by omega)]
theorem add_zero5 (a : Addr) : a.add 0 = a := by
  unfold Addr.add
  rw [if_pos rfl]
theorem rows5 {H : Type} {enc : TypeId × Value → H} {W : World} {p : Option Addr} {n cap : Nat} {d : DataW H} {pl : List MemPlace}
    (h : DataW.Trod enc Tryd.prog W 0 (fun _ => true) true 22 (.slice p n cap) d pl) (lt : ∀ x ∈ pl, x.block < W.heap.size) : ∃ f, OpsRow W p n cap f := by
  obtain ⟨fuel, hf⟩ := h
  rcases Go.Deep.open_slice Tryd.underlying22 hf with ⟨hc, -⟩ | ⟨a, len, cap', m, k, D, Pl, hc, -, hl, hm, hmm, hx, hall⟩
  · simp [Value.cells] at hc
    obtain ⟨rfl, rfl, rfl⟩ := hc
    exact ⟨fun _ => ⟨0, 0, 0, false, ByteArray.empty⟩, fun a e => (by cases e), fun h => absurd h (by omega), fun a i e => (by cases e), fun a i e => (by cases e), fun a i e => (by cases e), fun a i e => (by cases e), fun a i e => (by cases e), Nat.le_refl _, by omega, fun i hi => absurd hi (by omega)⟩
  · simp [Value.cells] at hc
    obtain ⟨rfl, rfl, rfl⟩ := hc
    simp only [if_true] at hmm
    simp only [Prod.mk.injEq] at hx
    have each : ∀ i, i < m → ∃ o : O5, (W.cell? (a.add (i * 5)) = some (.int .i64 o.d) ∧ W.cell? ((a.add (i * 5)).add 1) = some (.int .i64 o.a) ∧ W.cell? ((a.add (i * 5)).add 2) = some (.int .i64 o.v) ∧ W.cell? ((a.add (i * 5)).add 3) = some (.bool o.f) ∧ W.cell? ((a.add (i * 5)).add 4) = some (.string o.s)) ∧ o.s.size ≤ maxLen ∧ (Lit.int .i64 o.a).wf = true := by
      intro i hi
      obtain ⟨cs', h1, h2⟩ := hall i hi
      rw [cells5] at h1
      obtain ⟨o, rfl, ho⟩ := elem5 h2
      obtain ⟨_, hlen, hcell⟩ := World.cells?_some h1
      have e0 := hcell 0 (by omega)
      rw [add_zero5] at e0
      exact ⟨o, ⟨by simpa using e0, by simpa using hcell 1 (by omega), by simpa using hcell 2 (by omega), by simpa using hcell 3 (by omega), by simpa using hcell 4 (by omega)⟩, ho⟩
    obtain ⟨f, hf⟩ := choose5 each
    refine ⟨f, fun b e hp => ?_, fun _ => ⟨a, rfl⟩, fun b i e hi => ?_, fun b i e hi => ?_, fun b i e hi => ?_, fun b i e hi => ?_, fun b i e hi => ?_, hl, hm, fun i hi => (hf i (by omega)).2⟩
    · cases e
      obtain ⟨_, hpl⟩ := hx
      refine lt (.cell a.block a.off) ?_
      rw [hpl]
      refine List.mem_append_left _ ?_
      exact List.mem_map.2 ⟨0, List.mem_range.2 (by rw [cells5]; omega), by simp⟩
    · cases e; exact (hf i (by omega)).1.1
    · cases e; have := (hf i (by omega)).1.2.1; rw [add_next5 _ _ _ (by omega)] at this; exact this
    · cases e; have := (hf i (by omega)).1.2.2.1; rw [add_next5 _ _ _ (by omega)] at this; exact this
    · cases e; have := (hf i (by omega)).1.2.2.2.1; rw [add_next5 _ _ _ (by omega)] at this; exact this
    · cases e; have := (hf i (by omega)).1.2.2.2.2; rw [add_next5 _ _ _ (by omega)] at this; exact this
end Lc
end Go.Proofs.YtgdfbpphfanocaaDoor
