/- A list of instructions that came in; what Match returns, part by part. -/
import Derived.Test.YteeljnlepbnhkaaDoorET
import Derived.Deep.Slices
import Derived.ChangeArms
import Derived.OpenShut
set_option linter.unusedVariables false
set_option linter.unusedSimpArgs false
namespace Go.Proofs.YteeljnlepbnhkaaDoor
open Go.RowKit Go.ChangeShapes Go.WideShapes Fw
namespace Ec
theorem cells3 : Tryd.prog.cellsOf 33 = 3 := by kernel_rfl
theorem cells1i : Tryd.prog.cellsOf 3 = 1 := by kernel_rfl
set_option maxRecDepth 100000 in
theorem elem3 {H : Type} {enc : TypeId × Value → H} {W : World} {base : Nat} {sp : Nat → Bool} {hd : Bool} {n : Nat} {cs : List Value} {y : DataW H × List MemPlace} (h : DataW.trod enc Tryd.prog W base sp hd n 33 cs = some y) :
    ∃ o : In, cs = [.int .i64 o.op, .int .i64 o.a, .int .i64 o.b] := by
  obtain ⟨xs, k, hk, hx, hl, hxl, hf⟩ := DataW.trod_struct Tryd.underlying33 h
  rw [cells3] at hl
  simp at hxl
  match xs, hxl, cs, hl with
  | [y0, y1, y2], _, [v0, v1, v2], _ =>
    have g0 := hf 0 _ rfl
    have g1 := hf 1 _ rfl
    have g2 := hf 2 _ rfl
    simp [cells1i] at g0 g1 g2
    obtain ⟨z0, h0, -⟩ := DataW.trod_int Tryd.underlying3 g0
    obtain ⟨z1, h1, -⟩ := DataW.trod_int Tryd.underlying3 g1
    obtain ⟨z2, h2, -⟩ := DataW.trod_int Tryd.underlying3 g2
    simp only [List.cons.injEq, and_true] at h0 h1 h2
    exact ⟨⟨z0, z1, z2⟩, by rw [h0, h1, h2]⟩
/-- a list of instructions that came in -/
structure RowIn (W : World) (p : Option Addr) (n cap : Nat) (c A B : Nat → Int) : Prop where
  inC : InC W p n c A B
  nil : p = none → n = 0 ∧ cap = 0
  hn : n ≤ cap
  hc : cap ≤ maxLen
theorem choose3 {m : Nat} {Q : Nat → In → Prop} (h : ∀ i, i < m → ∃ o, Q i o) : ∃ f : Nat → In, ∀ i, i < m → Q i (f i) := by
  refine ⟨fun i => if hi : i < m then (h i hi).choose else ⟨0, 0, 0⟩, fun i hi => ?_⟩
  simp only [hi, dif_pos]
  exact (h i hi).choose_spec
theorem rows3 {H : Type} {enc : TypeId × Value → H} {W : World} {p : Option Addr} {n cap : Nat} {d : DataW H} {pl : List MemPlace}
    (h : DataW.Trod enc Tryd.prog W 0 (fun _ => true) true 22 (.slice p n cap) d pl) (lt : ∀ x ∈ pl, x.block < W.heap.size) : ∃ c A B, RowIn W p n cap c A B := by
  obtain ⟨fuel, hf⟩ := h
  rcases Go.Deep.open_slice Tryd.underlying22 hf with ⟨hc, -⟩ | ⟨a, len, cap', m, k, D, Pl, hc, -, hl, hm, hmm, hx, hall⟩
  · simp [Value.cells] at hc
    obtain ⟨rfl, rfl, rfl⟩ := hc
    exact ⟨fun _ => 0, fun _ => 0, fun _ => 0, fun h => absurd h (by omega), fun _ => ⟨rfl, rfl⟩, Nat.le_refl _, by omega⟩
  · simp [Value.cells] at hc
    obtain ⟨rfl, rfl, rfl⟩ := hc
    simp only [if_true] at hmm
    have add0 : ∀ a : Addr, a.add 0 = a := fun a => by unfold Addr.add; rw [if_pos rfl]
    have each : ∀ i, i < m → ∃ o : In, W.cell? (a.add (i * 3)) = some (.int .i64 o.op) ∧ W.cell? ((a.add (i * 3)).add 1) = some (.int .i64 o.a) ∧ W.cell? ((a.add (i * 3)).add 2) = some (.int .i64 o.b) := by
      intro i hi
      obtain ⟨cs', h1, h2⟩ := hall i hi
      rw [cells3] at h1
      obtain ⟨o, rfl⟩ := elem3 h2
      obtain ⟨_, hlen, hcell⟩ := World.cells?_some h1
      have e0 := hcell 0 (by omega)
      rw [add0] at e0
      exact ⟨o, by simpa using e0, by simpa using hcell 1 (by omega), by simpa using hcell 2 (by omega)⟩
    obtain ⟨f, hf⟩ := choose3 each
    refine ⟨fun i => (f i).op, fun i => (f i).a, fun i => (f i).b, fun h0 => ?_, fun q => (by cases q), hl, hm⟩
    obtain ⟨g0, g1, g2⟩ := hf 0 (by omega)
    rw [Nat.zero_mul, add0] at g0
    have hsp : a.spot = none := by
      unfold World.cell? at g0
      cases hsp : a.spot with
      | none => rfl
      | some q => rw [hsp] at g0; simp at g0; split at g0 <;> simp at g0
    obtain ⟨bb, oo, sp⟩ := a
    simp only at hsp
    subst hsp
    have hadd : ∀ k, (⟨bb, oo, none⟩ : Addr).add k = ⟨bb, oo + k, none⟩ := fun k => by unfold Addr.add; split <;> simp_all
    have hadd2 : ∀ o k, (⟨bb, o, none⟩ : Addr).add k = ⟨bb, o + k, none⟩ := fun o k => by unfold Addr.add; split <;> simp_all
    refine ⟨bb, oo, rfl, fun i hi j v hv => ?_⟩
    obtain ⟨e0, e1, e2⟩ := hf i (by omega)
    simp only [hadd, hadd2] at e0 e1 e2
    match j, hv with
    | 0, hv => simp at hv; subst hv; exact e0
    | 1, hv => simp at hv; subst hv; exact e1
    | 2, hv => simp at hv; subst hv; exact e2
    | j + 3, hv => simp at hv
/-! What Match returns. -/
def maF (c A B : Nat → Int) (n : Nat) (at' : Int) : Int := if idE c A B n at' ≠ 0 then idE c A B n at' else if opn (c at'.toNat) = false then 3 else 0
def maA (c A B : Nat → Int) (n : Nat) (at' : Int) : Int := if maF c A B n at' = 0 then (shD c n).e at'.toNat else 0
def maE (c A B : Nat → Int) (n : Nat) (at' : Int) : Int := if maF c A B n at' = 0 then (shD c n).d at'.toNat else 0
theorem mtc_eq (c A B : Nat → Int) (n : Nat) (at' : Int) : mtc c A B n at' = .tuple #[vI (maA c A B n at'), vI (maE c A B n at'), vI (maF c A B n at')] := by
  unfold mtc maA maE maF
  by_cases h1 : idE c A B n at' ≠ 0
  · simp [h1]
  · by_cases h2 : opn (c at'.toNat) = false
    · simp at h1; simp [h1, h2]
    · simp at h1 h2; simp [h1, h2]
abbrev MaV (c A B : Nat → Int) (n : Nat) (at' : Int) : Value := .tuple #[vI (maA c A B n at'), vI (maE c A B n at'), vI (maF c A B n at')]
theorem Match2_any (p : Option Addr) (n cap : Nat) (c A B : Nat → Int) (at' : Int) (w : World) (hIn : InC w p n c A B) (hn : n ≤ 400) (h1 : -9223372036854775808 ≤ at') (h2 : at' ≤ 9223372036854775807) :
    Calls Tryd.prog 11 #[.slice p n cap, vI at'] w fun e w' => e = .returned (MaV c A B n at') ∧ Below w.heap.size w w' := by
  have q := Match_any p n cap c A B at' w hIn hn h1 h2
  rw [mtc_eq] at q; exact q
/-- an opening with an opening around it: P3.8 -/
theorem ma_outer {c A B : Nat → Int} {n : Nat} {at' : Int} (h1 : maF c A B n at' = 0) (h2 : opF c A B n at' = 0) :
    maF c A B n (opO c A B n at') = 0 ∧ maE c A B n at' < maE c A B n (opO c A B n at') ∧ opO c A B n at' < at' ∧ -9223372036854775808 ≤ opO c A B n at' := by
  have hid : idE c A B n at' = 0 := by
    unfold opF at h2
    by_cases h : idE c A B n at' ≠ 0
    · rw [if_pos h] at h2; exact h2
    · omega
  have hck : chk c A B false n = 0 := by
    unfold idE at hid
    by_cases h : chk c A B false n = 0
    · exact h
    · rw [if_neg h] at hid; exact hid
  have hrg : 0 ≤ at' ∧ at' < n := by
    unfold idE at hid
    rw [if_pos hck] at hid
    by_cases h : 0 ≤ at' ∧ at' < n
    · exact h
    · rw [if_neg h] at hid; omega
  obtain ⟨k, rfl⟩ : ∃ k : Nat, at' = (k : Int) := ⟨at'.toNat, by omega⟩
  have B0 := chk_bal hck
  have hop : opn (c k) = true := by
    cases ho : opn (c k)
    · unfold maF at h1; rw [hid, if_neg (by simp), Int.toNat_natCast, if_pos ho] at h1; omega
    · rfl
  have hO : opO c A B n (k : Int) = (shD c n).o k := by unfold opO; rw [if_pos h2, Int.toNat_natCast]
  have hO2 : ¬ (shD c n).o k < 0 := fun q => by
    have := (op_none hid q).1; omega
  obtain ⟨i, hi, -, -, -⟩ := opener_in B0 (by omega) hO2
  obtain ⟨q1, q2, q3⟩ := outer_end B0 (by omega) hop hi
  have hidi : idE c A B n (i : Int) = 0 := idE_in hck (by omega)
  have hmi : maF c A B n (i : Int) = 0 := by unfold maF; rw [hidi, if_neg (by simp), Int.toNat_natCast, if_neg (by rw [q2]; simp)]
  rw [hO, hi]
  refine ⟨hmi, ?_, by omega, by omega⟩
  unfold maE
  rw [if_pos h1, if_pos hmi]
  simpa using q3
theorem maF_range (c A B : Nat → Int) (n : Nat) (at' : Int) : 0 ≤ idE c A B n at' := by
  have := chk_range c A B false n
  unfold idE; split <;> (try split) <;> omega
end Ec
end Go.Proofs.YteeljnlepbnhkaaDoor
