/- What the bus is in memory: rows of numbers, of pairs, of requests, of slots. -/
import Derived.Test.YteckbfebemofmaaFI
import Derived.Test.YteckbfebemofmaaFP
import Derived.Test.YteckbfebemofmaaFG
import Derived.Test.YteckbfebemofmaaFC
import Derived.Test.YteckbfebemofmaaBA
import Derived.Deep.Slices
import Derived.ChangeArms
import Derived.OpenShut
set_option linter.unusedVariables false
set_option linter.unusedSimpArgs false
namespace Go.Proofs.Yteckbfebemofmaa
open Go.RowKit Go.ChangeShapes Go.WideShapes Fw
namespace Bs
theorem cells1i : Try.prog.cellsOf 3 = 1 := by kernel_rfl
abbrev T2 := Int × Int
def tL (t : List T2) : List Value := t.flatMap fun p => [vI p.1, vI p.2]
theorem tL_len (t : List T2) : (tL t).length = t.length * 2 := by
  induction t with
  | nil => rfl
  | cons p r ih => simp [tL] at ih ⊢; omega
theorem tL_one (t : List T2) : ∀ v ∈ tL t, v.oneCell' = true := fun v hv => by
  obtain ⟨p, _, hp⟩ := List.mem_flatMap.1 hv
  simp at hp
  rcases hp with rfl | rfl <;> rfl
theorem tL_push (t : List T2) (a b : Int) : tL t ++ [vI a, vI b] = tL (t ++ [(a, b)]) := by simp [tL]
theorem tL_at : ∀ {t : List T2} {i : Nat}, i < t.length → (tL t)[i * 2]? = some (vI (t.getD i (0, 0)).1) ∧ (tL t)[i * 2 + 1]? = some (vI (t.getD i (0, 0)).2)
  | p :: r, 0, _ => by simp [tL]
  | p :: r, i + 1, h => by
    have := tL_at (t := r) (i := i) (by simpa using h)
    rw [show tL (p :: r) = vI p.1 :: vI p.2 :: tL r from rfl]
    rw [show (i + 1) * 2 = i * 2 + 1 + 1 by omega, show i * 2 + 1 + 1 + 1 = (i * 2 + 1) + 1 + 1 by omega]
    simpa using this
/-- a table that came in, or that is read -/
def InT (w : World) (p : Option Addr) (t : List T2) : Prop := 0 < t.length → ∃ g o, p = some ⟨g, o, none⟩ ∧ ∀ i, i < t.length → w.rangeAt g (o + i * 2) [vI (t.getD i (0, 0)).1, vI (t.getD i (0, 0)).2]
theorem InT.below {w w' : World} {p : Option Addr} {t : List T2} (h : InT w p t) (hb : Below w.heap.size w w') : InT w' p t := fun h0 => by
  obtain ⟨g, o, hp, hr⟩ := h h0
  exact ⟨g, o, hp, fun i hi => HP.oldRange (HP.of_below (S := Tr) hb) trivial (hr i hi)⟩
abbrev rowT (pv : Option Addr) (n cp : Nat) (t : List T2) : Ent := .own (.slice pv n cp) n (tL t) 31 2
theorem hadd (b o k : Nat) : (⟨b, o, none⟩ : Addr).add k = ⟨b, o + k, none⟩ := by unfold Addr.add; split <;> simp_all
theorem InT.own {w : World} {pv : Option Addr} {cp : Nat} {t : List T2} (h : Ent.holds w (rowT pv t.length cp t)) : InT w pv t := fun h0 => by
  have h2 : w.ownsRow 0 31 2 (.slice pv t.length cp) t.length (tL t) := h
  have hc := @World.ownsRow.cells _ _ _ _ _ _ _ h2
  rcases h2.2 with ⟨h0', h1⟩ | ⟨g, cap, cur, hv, hb, hg, hnc, hm, hs, hx⟩
  · omega
  · cases hv
    refine ⟨g, 0, rfl, fun i hi j v hv => ?_⟩
    have hc := hc (g := g) rfl
    obtain ⟨q1, q2⟩ := tL_at hi
    simp only [hadd, Nat.zero_add] at hc ⊢
    match j, hv with
    | 0, hv => simp at hv; subst hv; exact hc _ _ q1
    | 1, hv => simp at hv; subst hv; exact hc _ _ q2
    | j + 2, hv => simp at hv
theorem own_row {w : World} {v : Value} {n e s : Nat} {ys : List Value} (h : Ent.holds w (.own v n ys e s)) : ∃ pv cp, v = .slice pv n cp := by
  have h2 : w.ownsRow 0 e s v n ys := h
  rcases h2.2 with ⟨h0, h1⟩ | ⟨g, cap, cur, hv, _⟩
  · exact ⟨none, 0, by rw [h0, h1]⟩
  · exact ⟨_, cap, hv⟩
abbrev iR (xs : List Int) : List Value := xs.map (Value.int .i64)
abbrev rowI' (pv : Option Addr) (cp : Nat) (xs : List Int) : Ent := .own (.slice pv xs.length cp) xs.length (iR xs) 3 1
/-- a row of its own can be read -/
theorem row_in {w : World} {pv : Option Addr} {cp : Nat} {xs : List Int} (h : Ent.holds w (rowI' pv cp xs)) : InI w pv xs := fun h0 => by
  have h2 : w.ownsRow 0 3 1 (.slice pv xs.length cp) xs.length (iR xs) := h
  have hc := @World.ownsRow.cells _ _ _ _ _ _ _ h2
  rcases h2.2 with ⟨h0', h1⟩ | ⟨g, cap, cur, hv, hb, hg, hnc, hm, hs, hx⟩
  · omega
  · cases hv
    refine ⟨g, 0, rfl, fun i hi j v hv => ?_⟩
    match j, hv with
    | 0, hv =>
      simp at hv
      subst hv
      have := hc (g := g) rfl i (vI (xs.getD i 0)) (by simp [iR, List.getD_eq_getElem?_getD, hi])
      rw [hadd] at this
      simpa using this
    | j + 1, hv => simp at hv
/-- a request -/
structure Rq where
  m : Int
  t : Int
  n : Int
def qL (t : List Rq) : List Value := t.flatMap fun p => [vI p.m, vI p.t, vI p.n]
abbrev q0 : Rq := ⟨0, 0, 0⟩
abbrev qM (t : List Rq) (i : Nat) : Int := (t.getD i q0).m
abbrev qT (t : List Rq) (i : Nat) : Int := (t.getD i q0).t
abbrev qN (t : List Rq) (i : Nat) : Int := (t.getD i q0).n
theorem qL_len (t : List Rq) : (qL t).length = t.length * 3 := by
  induction t with
  | nil => rfl
  | cons p r ih => simp [qL] at ih ⊢; omega
theorem qL_push (t : List Rq) (a b c : Int) : qL t ++ [vI a, vI b, vI c] = qL (t ++ [⟨a, b, c⟩]) := by simp [qL]
theorem qL_at : ∀ {t : List Rq} {i : Nat}, i < t.length → (qL t)[i * 3]? = some (vI (qM t i)) ∧ (qL t)[i * 3 + 1]? = some (vI (qT t i)) ∧ (qL t)[i * 3 + 2]? = some (vI (qN t i))
  | p :: r, 0, _ => by simp [qL, qM, qT, qN]
  | p :: r, i + 1, h => by
    have := qL_at (t := r) (i := i) (by simpa using h)
    rw [show qL (p :: r) = vI p.m :: vI p.t :: vI p.n :: qL r from rfl]
    rw [show (i + 1) * 3 = i * 3 + 1 + 1 + 1 by omega, show i * 3 + 1 + 1 + 1 + 1 = (i * 3 + 1) + 1 + 1 + 1 by omega, show i * 3 + 1 + 1 + 1 + 2 = (i * 3 + 2) + 1 + 1 + 1 by omega]
    simpa [qM, qT, qN] using this
def InQ (w : World) (p : Option Addr) (t : List Rq) : Prop := 0 < t.length → ∃ g o, p = some ⟨g, o, none⟩ ∧ ∀ i, i < t.length → w.rangeAt g (o + i * 3) [vI (qM t i), vI (qT t i), vI (qN t i)]
theorem InQ.below {w w' : World} {p : Option Addr} {t : List Rq} (h : InQ w p t) (hb : Below w.heap.size w w') : InQ w' p t := fun h0 => by
  obtain ⟨g, o, hp, hr⟩ := h h0
  exact ⟨g, o, hp, fun i hi => HP.oldRange (HP.of_below (S := Tr) hb) trivial (hr i hi)⟩
abbrev rowQ (pv : Option Addr) (n cp : Nat) (t : List Rq) : Ent := .own (.slice pv n cp) n (qL t) 30 3
theorem InQ.own {w : World} {pv : Option Addr} {cp : Nat} {t : List Rq} (h : Ent.holds w (rowQ pv t.length cp t)) : InQ w pv t := fun h0 => by
  have h2 : w.ownsRow 0 30 3 (.slice pv t.length cp) t.length (qL t) := h
  have hc := @World.ownsRow.cells _ _ _ _ _ _ _ h2
  rcases h2.2 with ⟨h0', h1⟩ | ⟨g, cap, cur, hv, hb, hg, hnc, hm, hs, hx⟩
  · omega
  · cases hv
    refine ⟨g, 0, rfl, fun i hi j v hv => ?_⟩
    have hc := hc (g := g) rfl
    obtain ⟨q1, q2, q3⟩ := qL_at hi
    simp only [hadd, Nat.zero_add] at hc ⊢
    match j, hv with
    | 0, hv => simp at hv; subst hv; exact hc _ _ q1
    | 1, hv => simp at hv; subst hv; exact hc _ _ q2
    | 2, hv => simp at hv; subst hv; exact hc _ _ q3
    | j + 3, hv => simp at hv
/-- slots that came in -/
def InS (w : World) (p : Option Addr) (N : Nat) (o sp : Nat → Int) : Prop := 0 < N → ∃ bb oo, p = some ⟨bb, oo, none⟩ ∧ ∀ i, i < N → w.rangeAt bb (oo + i * 2) [vI (o i), vI (sp i)]
theorem InS.below {w w' : World} {p : Option Addr} {N : Nat} {o sp : Nat → Int} (h : InS w p N o sp) (hb : Below w.heap.size w w') : InS w' p N o sp := fun h0 => by
  obtain ⟨g, oo, hp, hr⟩ := h h0
  exact ⟨g, oo, hp, fun i hi => HP.oldRange (HP.of_below (S := Tr) hb) trivial (hr i hi)⟩
theorem infoI : ∃ i, Try.prog.info? 3 = some i ∧ i.zero = some (.int .i64 0) ∧ i.size = 1 ∧ i.bytes = 8 := by
  obtain ⟨i, hi, h⟩ := Option.map_eq_some_iff.1 (show (Try.prog.info? 3).map (fun i => (i.zero, i.size, i.bytes)) = some (some (.int .i64 0), 1, 8) by kernel_rfl)
  simp only [Prod.mk.injEq] at h
  exact ⟨i, hi, h.1, h.2.1, h.2.2⟩
theorem infoT : ∃ i, Try.prog.info? 31 = some i ∧ i.zero = some (.agg #[.int .i64 0, .int .i64 0]) ∧ i.size = 2 ∧ i.bytes = 16 := by
  obtain ⟨i, hi, h⟩ := Option.map_eq_some_iff.1 (show (Try.prog.info? 31).map (fun i => (i.zero, i.size, i.bytes)) = some (some (.agg #[.int .i64 0, .int .i64 0]), 2, 16) by kernel_rfl)
  simp only [Prod.mk.injEq] at h
  exact ⟨i, hi, h.1, h.2.1, h.2.2⟩
theorem infoQ : ∃ i, Try.prog.info? 30 = some i ∧ i.zero = some (.agg #[.int .i64 0, .int .i64 0, .int .i64 0]) ∧ i.size = 3 ∧ i.bytes = 24 := by
  obtain ⟨i, hi, h⟩ := Option.map_eq_some_iff.1 (show (Try.prog.info? 30).map (fun i => (i.zero, i.size, i.bytes)) = some (some (.agg #[.int .i64 0, .int .i64 0, .int .i64 0]), 3, 24) by kernel_rfl)
  simp only [Prod.mk.injEq] at h
  exact ⟨i, hi, h.1, h.2.1, h.2.2⟩
theorem cells_Q : Try.prog.cellsOf 30 = 3 := by kernel_rfl
set_option maxRecDepth 100000 in
theorem elem_Q {H : Type} {enc : TypeId × Value → H} {W : World} {base : Nat} {sp : Nat → Bool} {hd : Bool} {n : Nat} {cs : List Value} {y : DataW H × List MemPlace} (h : DataW.trod enc Try.prog W base sp hd n 30 cs = some y) :
    ∃ o : Rq, cs = [.int .i64 o.m, .int .i64 o.t, .int .i64 o.n] := by
  obtain ⟨xs, k, hk, hx, hl, hxl, hf⟩ := DataW.trod_struct Try.underlying30 h
  rw [cells_Q] at hl
  simp at hxl
  match xs, hxl, cs, hl with
  | [y0, y1, y2], _, [v0, v1, v2], _ =>
    have g0 := hf 0 _ rfl
    have g1 := hf 1 _ rfl
    have g2 := hf 2 _ rfl
    simp [cells1i] at g0 g1 g2
    obtain ⟨z0, h0, -⟩ := DataW.trod_int Try.underlying3 g0
    obtain ⟨z1, h1, -⟩ := DataW.trod_int Try.underlying3 g1
    obtain ⟨z2, h2, -⟩ := DataW.trod_int Try.underlying3 g2
    simp only [List.cons.injEq, and_true] at h0 h1 h2
    exact ⟨⟨z0, z1, z2⟩, by rw [h0, h1, h2]⟩
theorem choose_Q {m : Nat} {Q : Nat → Rq → Prop} (h : ∀ i, i < m → ∃ o, Q i o) : ∃ f : Nat → Rq, ∀ i, i < m → Q i (f i) := by
  classical
  exact ⟨fun i => if hi : i < m then Classical.choose (h i hi) else ⟨0, 0, 0⟩, fun i hi => by dsimp only; rw [dif_pos hi]; exact Classical.choose_spec (h i hi)⟩
theorem rows_Q {H : Type} {enc : TypeId × Value → H} {W : World} {p : Option Addr} {n cap : Nat} {d : DataW H} {pl : List MemPlace}
    (h : DataW.Trod enc Try.prog W 0 (fun _ => true) true 24 (.slice p n cap) d pl) (lt : ∀ x ∈ pl, x.block < W.heap.size) : ∃ qs : List Rq, n = qs.length ∧ InQ W p qs := by
  obtain ⟨fuel, hf⟩ := h
  rcases Go.Deep.open_slice Try.underlying24 hf with ⟨hc, -⟩ | ⟨a, len, cap', m, k, D, Pl, hc, -, hl, hm, hmm, hx, hall⟩
  · simp [Value.cells] at hc
    obtain ⟨rfl, rfl, rfl⟩ := hc
    exact ⟨[], rfl, fun h => absurd h (by simp)⟩
  · simp [Value.cells] at hc
    obtain ⟨rfl, rfl, rfl⟩ := hc
    simp only [if_true] at hmm
    have add0 : ∀ a : Addr, a.add 0 = a := fun a => by unfold Addr.add; rw [if_pos rfl]
    have each : ∀ i, i < m → ∃ o : Rq, W.cell? (a.add (i * 3)) = some (.int .i64 o.m) ∧ W.cell? ((a.add (i * 3)).add 1) = some (.int .i64 o.t) ∧ W.cell? ((a.add (i * 3)).add 2) = some (.int .i64 o.n) := by
      intro i hi
      obtain ⟨cs', h1, h2⟩ := hall i hi
      rw [cells_Q] at h1
      obtain ⟨o, rfl⟩ := elem_Q h2
      obtain ⟨_, hlen, hcell⟩ := World.cells?_some h1
      have e0 := hcell 0 (by omega)
      rw [add0] at e0
      exact ⟨o, by simpa using e0, by simpa using hcell 1 (by omega), by simpa using hcell 2 (by omega)⟩
    obtain ⟨f, hf⟩ := choose_Q each
    refine ⟨(List.range n).map f, by simp, fun h0 => ?_⟩
    have hn : 0 < n := by simpa using h0
    have g0 := (hf 0 (by omega)).1
    rw [Nat.zero_mul, add0] at g0
    have hsp : a.spot = none := by
      unfold World.cell? at g0
      cases hsp : a.spot with
      | none => rfl
      | some q => rw [hsp] at g0; simp at g0; split at g0 <;> simp at g0
    obtain ⟨bb, oo, sp⟩ := a
    simp only at hsp
    subst hsp
    have hadd : ∀ k, (⟨bb, oo, none⟩ : Addr).add k = ⟨bb, oo + k, none⟩ := fun k => by unfold Addr.add; split <;> simp_all
    have hadd2 : ∀ o k, (⟨bb, o, none⟩ : Addr).add k = ⟨bb, o + k, none⟩ := fun o k => by unfold Addr.add; split <;> simp_all
    refine ⟨bb, oo, rfl, fun i hi j v hv => ?_⟩
    have hi9 : i < n := by simpa using hi
    have eg : ((List.range n).map f).getD i q0 = f i := by simp [List.getD_eq_getElem?_getD, hi9]
    simp only [qM, qT, qN, eg] at hv
    obtain ⟨e0, e1, e2⟩ := hf i (by omega)
    simp only [hadd, hadd2] at e0 e1 e2
    match j, hv with
    | 0, hv => simp at hv; subst hv; exact e0
    | 1, hv => simp at hv; subst hv; exact e1
    | 2, hv => simp at hv; subst hv; exact e2
    | j + 3, hv => simp at hv
theorem cells_S : Try.prog.cellsOf 67 = 2 := by kernel_rfl
set_option maxRecDepth 100000 in
theorem elem_S {H : Type} {enc : TypeId × Value → H} {W : World} {base : Nat} {sp : Nat → Bool} {hd : Bool} {n : Nat} {cs : List Value} {y : DataW H × List MemPlace} (h : DataW.trod enc Try.prog W base sp hd n 67 cs = some y) :
    ∃ o : T2, cs = [.int .i64 o.1, .int .i64 o.2] := by
  obtain ⟨xs, k, hk, hx, hl, hxl, hf⟩ := DataW.trod_struct Try.underlying67 h
  rw [cells_S] at hl
  simp at hxl
  match xs, hxl, cs, hl with
  | [y0, y1], _, [v0, v1], _ =>
    have g0 := hf 0 _ rfl
    have g1 := hf 1 _ rfl
    simp [cells1i] at g0 g1
    obtain ⟨z0, h0, -⟩ := DataW.trod_int Try.underlying3 g0
    obtain ⟨z1, h1, -⟩ := DataW.trod_int Try.underlying3 g1
    simp only [List.cons.injEq, and_true] at h0 h1
    exact ⟨(z0, z1), by rw [h0, h1]⟩
theorem choose_S {m : Nat} {Q : Nat → T2 → Prop} (h : ∀ i, i < m → ∃ o, Q i o) : ∃ f : Nat → T2, ∀ i, i < m → Q i (f i) := by
  classical
  exact ⟨fun i => if hi : i < m then Classical.choose (h i hi) else (0, 0), fun i hi => by dsimp only; rw [dif_pos hi]; exact Classical.choose_spec (h i hi)⟩
theorem rows_S {H : Type} {enc : TypeId × Value → H} {W : World} {p : Option Addr} {n cap : Nat} {d : DataW H} {pl : List MemPlace}
    (h : DataW.Trod enc Try.prog W 0 (fun _ => true) true 22 (.slice p n cap) d pl) (lt : ∀ x ∈ pl, x.block < W.heap.size) : ∃ o sp : Nat → Int, InS W p n o sp := by
  obtain ⟨fuel, hf⟩ := h
  rcases Go.Deep.open_slice Try.underlying22 hf with ⟨hc, -⟩ | ⟨a, len, cap', m, k, D, Pl, hc, -, hl, hm, hmm, hx, hall⟩
  · simp [Value.cells] at hc
    obtain ⟨rfl, rfl, rfl⟩ := hc
    exact ⟨fun _ => 0, fun _ => 0, fun h => absurd h (by omega)⟩
  · simp [Value.cells] at hc
    obtain ⟨rfl, rfl, rfl⟩ := hc
    simp only [if_true] at hmm
    have add0 : ∀ a : Addr, a.add 0 = a := fun a => by unfold Addr.add; rw [if_pos rfl]
    have each : ∀ i, i < m → ∃ o : T2, W.cell? (a.add (i * 2)) = some (.int .i64 o.1) ∧ W.cell? ((a.add (i * 2)).add 1) = some (.int .i64 o.2) := by
      intro i hi
      obtain ⟨cs', h1, h2⟩ := hall i hi
      rw [cells_S] at h1
      obtain ⟨o, rfl⟩ := elem_S h2
      obtain ⟨_, hlen, hcell⟩ := World.cells?_some h1
      have e0 := hcell 0 (by omega)
      rw [add0] at e0
      exact ⟨o, by simpa using e0, by simpa using hcell 1 (by omega)⟩
    obtain ⟨f, hf⟩ := choose_S each
    refine ⟨fun i => (f i).1, fun i => (f i).2, fun h0 => ?_⟩
    have g0 := (hf 0 (by omega)).1
    rw [Nat.zero_mul, add0] at g0
    have hsp : a.spot = none := by
      unfold World.cell? at g0
      cases hsp : a.spot with
      | none => rfl
      | some q => rw [hsp] at g0; simp at g0; split at g0 <;> simp at g0
    obtain ⟨bb, oo, sp⟩ := a
    simp only at hsp
    subst hsp
    have hadd : ∀ k, (⟨bb, oo, none⟩ : Addr).add k = ⟨bb, oo + k, none⟩ := fun k => by unfold Addr.add; split <;> simp_all
    have hadd2 : ∀ o k, (⟨bb, o, none⟩ : Addr).add k = ⟨bb, o + k, none⟩ := fun o k => by unfold Addr.add; split <;> simp_all
    refine ⟨bb, oo, rfl, fun i hi j v hv => ?_⟩
    skip
    obtain ⟨e0, e1⟩ := hf i (by omega)
    simp only [hadd, hadd2] at e0 e1
    match j, hv with
    | 0, hv => simp at hv; subst hv; exact e0
    | 1, hv => simp at hv; subst hv; exact e1
    | j + 2, hv => simp at hv
end Bs
end Go.Proofs.Yteckbfebemofmaa
