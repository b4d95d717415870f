/-
  The statement RatioTotals: for all lists the law returns true.
  Conditions: none beyond those of the given row.
-/
import Derived.Test.YtlcgfhliaalccaaRows
import Derived.Test.YtlcgfhliaalccaaRX
import Derived.ProofKit
import Derived.OpenShut
import Derived.ShutString
import Derived.ChangeOld
import Derived.Lib.SmallJoins
set_option linter.unusedVariables false
set_option linter.unusedSimpArgs false
namespace Go.Proofs.Ytlcgfhliaalccaa.ratioTotals
open Go.ChangeShapes Go.WideShapes Go.ChangeAt Go.RowKit Go.Joins
open Go.ChangeMaps (open_string shut_string)
open Go.Sort Rt Rc

theorem cells3 : Try.prog.cellsOf 3 = 1 := by kernel_rfl
theorem cellsR : Try.prog.cellsOf 23 = 2 := by kernel_rfl
/-- the list that came in -/
theorem rows0 {H : Type} {enc : TypeId × Value → H} {W : World} {p : Option Addr} {n cap : Nat} {d : DataW H} {pl : List MemPlace}
    (h : DataW.Trod enc Try.prog W 0 (fun _ => true) true 43 (.slice p n cap) d pl) (lt : ∀ x ∈ pl, x.block < W.heap.size) : ∃ f g, Row W p n cap f g := by
  obtain ⟨fuel, hf⟩ := h
  rcases Go.Deep.open_slice_pairs Try.underlying43 Try.underlying23 cellsR rfl rfl cells3 cells3 hf with ⟨hc, -⟩ | ⟨a, len, cap', m, k, V0, V1, D0, D1, P0, P1, hc, -, hl, hm, hmm, hx, hall⟩
  · simp [Value.cells] at hc
    obtain ⟨rfl, rfl, rfl⟩ := hc
    exact ⟨fun _ => 0, fun _ => 0, fun a e => (by cases e), fun h => absurd h (by omega), fun a i e => (by cases e), fun a i e => (by cases e), Nat.le_refl _, by omega⟩
  · simp [Value.cells] at hc
    obtain ⟨rfl, rfl, rfl⟩ := hc
    simp only [if_true] at hmm
    simp only [Prod.mk.injEq] at hx
    have h0 : ∀ i, i < m → ∃ z, V0 i = .int .i64 z := fun i hi => by
      obtain ⟨z, h1, -⟩ := DataW.trod_int Try.underlying3 (hall i hi).2.2.1
      simp only [List.cons.injEq, and_true] at h1
      exact ⟨z, h1⟩
    have h1 : ∀ i, i < m → ∃ z, V1 i = .int .i64 z := fun i hi => by
      obtain ⟨z, h1, -⟩ := DataW.trod_int Try.underlying3 (hall i hi).2.2.2
      simp only [List.cons.injEq, and_true] at h1
      exact ⟨z, h1⟩
    refine ⟨fun i => intOf (V0 i), fun i => intOf (V1 i), fun b e hp => ?_, fun _ => ⟨a, rfl⟩, fun b i e hi => ?_, fun b i e hi => ?_, hl, by unfold maxLen at hm; omega⟩
    · cases e
      obtain ⟨_, hpl⟩ := hx
      refine lt (.cell a.block a.off) ?_
      rw [hpl]
      refine List.mem_append_left _ ?_
      exact List.mem_map.2 ⟨0, List.mem_range.2 (by omega), by simp⟩
    · cases e
      obtain ⟨z, hz⟩ := h0 i (by omega)
      have := (hall i (by omega)).1
      rw [hz] at this ⊢
      exact this
    · cases e
      obtain ⟨z, hz⟩ := h1 i (by omega)
      have := (hall i (by omega)).2.1
      rw [hz, add_next] at this
      rw [hz]
      exact this
theorem add0 (b k : Nat) : (⟨b, 0, none⟩ : Addr).add k = ⟨b, k, none⟩ := by
  unfold Addr.add; split
  · rename_i h; rw [h]
  · simp
/-- what the law holds at the end -/
structure LW (w wr : World) (p : Option Addr) (n cap : Nat) (f g : Nat → Int) (b c : Nat) (t : R3) : Prop where
  own : Row wr (some ⟨w.heap.size, 0, none⟩) n (n + 2) f g
  l : Row wr p n cap f g
  r0 : wr.cell? ⟨b, 0, none⟩ = some (.int .i64 t.n)
  r1 : wr.cell? ⟨b, 1, none⟩ = some (.int .i64 t.d)
  s0 : wr.cell? ⟨c, 0, none⟩ = some (.int .i64 t.n)
  s1 : wr.cell? ⟨c, 1, none⟩ = some (.int .i64 t.d)
  hb : Below w.heap.size w wr
  bz : b < wr.heap.size
  cz : c < wr.heap.size
theorem LW.below {w wr w' : World} {p : Option Addr} {n cap : Nat} {f g : Nat → Int} {b c : Nat} {t : R3} (h : LW w wr p n cap f g b c t) (hb : Below wr.heap.size wr w') (hw : w.heap.size ≤ wr.heap.size) : LW w w' p n cap f g b c t :=
  ⟨h.own.below (Nat.le_refl _) hb, h.l.below (Nat.le_refl _) hb, by rw [hb.cell h.bz]; exact h.r0, by rw [hb.cell h.bz]; exact h.r1, by rw [hb.cell h.cz]; exact h.s0, by rw [hb.cell h.cz]; exact h.s1, h.hb.trans (hb.mono hw), Nat.lt_of_lt_of_le h.bz hb.size, Nat.lt_of_lt_of_le h.cz hb.size⟩

set_option maxHeartbeats 4000000 in
theorem walk (p : Option Addr) (n cap : Nat) (f g : Nat → Int) (w : World) (h : Row w p n cap f g) :
    Calls Try.prog 11 #[.slice p n cap] w fun e w' => e = .returned (.bool true) ∧ Below w.heap.size w w' := by
  have hcap : (cap : Int) ≤ 9223372036854775807 := by have := h.hc; omega
  have hnc : (n : Int) ≤ (cap : Int) := by have := h.hn; omega
  by_cases c : n ≤ 1000
  · have c2 : ¬ ((1000 : Int) < (n : Int)) := by omega
    have hmk := make2 n c
    have hsrc := src_row w (made n) p n cap f g h
    have hcs : ∀ j, j < (news n f g).length → ((w.alloc (made n)).cell? ⟨w.heap.size, 0 + 0 * 2 + j, none⟩).isSome = true := fun j hj => by
      rw [news_len] at hj
      simp only [Nat.zero_mul, Nat.zero_add]
      exact (made_cell w n j (by omega)).1
    have hfs : ∀ j, j < (news n f g).length → (w.alloc (made n)).frozen? ⟨w.heap.size, 0 + 0 * 2 + j, none⟩ = false := fun j hj => by
      rw [news_len] at hj
      simp only [Nat.zero_mul, Nat.zero_add]
      exact (made_cell w n j (by omega)).2
    have hroom : 0 + n ≤ n + 2 := by omega
    obtain ⟨o1, o2, o3⟩ := own_row w n f g c
    go_enter Try.func11, Try.ntmps11
    go_wp2_with (refine wpList_append2 _ rfl _ _ 43 43 rfl 23 _ _ Try.underlying43 info w.heap.size 0 0 (n + 2) rfl _ rfl n (news n f g) hsrc hroom hcs hfs ?_)
    refine (Sum_any (some ⟨w.heap.size, 0, none⟩) n (n + 2) f g _ o1).mono ?_
    rintro e w3 ⟨rfl, hb⟩
    have hw3 := o2.trans (hb.mono (Nat.le_of_lt o3))
    have q1 := o1.below (Nat.le_refl _) hb
    have q2 := h.below (Nat.le_refl _) hw3
    have hz3 := hb.size
    clear hb o1 o2 hmk hsrc hcs hfs
    go_wp2_with fail
    have q3 := (Below.refl w3.heap.size w3).alloc (Nat.le_refl _) (.cells #[.int .i64 (tot n f g).n, .int .i64 (tot n f g).d] 23)
    refine (rSum_any p n cap f g _ (q2.below (Nat.le_refl _) (q3.mono (by omega)))).mono ?_
    rintro e w4 ⟨rfl, hb⟩
    have q4 := q3.trans (hb.mono (by simp))
    have q5 : w4.cell? ⟨w3.heap.size, 0, none⟩ = some (.int .i64 (tot n f g).n) := by rw [hb.cell (by simp)]; simp
    have q6 : w4.cell? ⟨w3.heap.size, 1, none⟩ = some (.int .i64 (tot n f g).d) := by rw [hb.cell (by simp)]; simp
    have q7 : w3.heap.size < w4.heap.size := by have := hb.size; simp at this; omega
    have q8 := q1.below (Nat.le_refl _) q4
    have q9 := q2.below (Nat.le_refl _) (q4.mono (by omega))
    have qa := hw3.trans (q4.mono (by omega))
    clear hb q1 q2 q3 q4 hw3
    have hLW : LW w (w4.alloc (.cells #[.int .i64 (tot n f g).n, .int .i64 (tot n f g).d] 23)) p n cap f g w3.heap.size w4.heap.size (tot n f g) := by
      have m1 : w3.heap.size ≠ w4.heap.size := by omega
      exact ⟨q8.below (Nat.le_refl _) ((Below.refl _ w4).alloc (Nat.le_refl _) _), q9.below (Nat.le_refl _) ((Below.refl _ w4).alloc (Nat.le_refl _) _),
        by rw [cell_past q7]; exact q5, by rw [cell_past q7]; exact q6, by simp, by simp, qa.alloc (by omega) _, by simp; omega, by simp⟩
    go_wp2_with fail
    go_loopw [8] (fun i wr => ∃ k : Nat, k ≤ n ∧ i = .int .i64 (k : Int) ∧ LW w wr p n cap f g w3.heap.size w4.heap.size (tot n f g)) (fun i _ => ((n : Int) - intOf i).toNat)
    case atStart => exact ⟨0, by omega, rfl, hLW⟩
    case round =>
      clear hLW q5 q6 q8 q9 qa
      obtain ⟨k, hk, rfl, hL⟩ := hrel
      have hL0 := hL
      obtain ⟨own, l, r0, r1, s0, s1, hb, bz, cz⟩ := hL
      by_cases hlt : k < n
      · obtain ⟨a, rfl⟩ := l.som (by omega)
        have d0 := l.c0 a k rfl hlt
        have d1 := l.c1 a k rfl hlt
        have d2 := own.c0 _ k rfl hlt
        have d3 := own.c1 _ k rfl hlt
        have k1 : (k : Int) < ((n + 2 : Nat) : Int) := by omega
        go_wp2_with fail
        have d4 : wr.cell? ⟨w.heap.size, k * 2, none⟩ = some (.int .i64 (f k)) := by rw [add0] at d2; exact d2
        have d5 : wr.cell? ⟨w.heap.size, k * 2 + 1, none⟩ = some (.int .i64 (g k)) := by rw [add0] at d3; exact d3
        have k2 : (k : Int) < (n : Int) := by omega
        go_region
        go_wp2_with fail
        exact ⟨⟨k + 1, by omega, by push_cast; rfl, hL0.below ((Below.refl wr.heap.size wr).drew) hb.size⟩, by simp [intOf]; omega⟩
      · obtain rfl : k = n := by omega
        go_wp2_with fail
        refine (sane_any _).mono ?_
        rintro e w5 ⟨rfl, hb5⟩
        go_wp2_with fail
        go_ret
        exact ⟨rfl, hb.trans (hb5.mono hb.size)⟩
  · have c2 : (1000 : Int) < (n : Int) := by omega
    go_enter Try.func11, Try.ntmps11
    go_wp2_with fail
    refine (sane_any _).mono ?_
    rintro e w1 ⟨rfl, hb⟩
    go_wp2_with fail
    go_ret
    exact ⟨rfl, by go_grown⟩

theorem own : ownKnob Try.prog.godebug = none := by kernel_rfl
theorem laidOut : laidOutB Try.prog = true := by kernel_rfl

set_option maxRecDepth 100000 in
theorem lifted (os : Os) (started : os.Started) (H : Type) (enc : TypeId × Value → H) :
    ReturnsInHanded {} Try.checked os 11 .any (Rows.ratioTotalsSpec.pre6 enc Try.prog Try.f11 Rows.ratioTotalsRow.domain false) (Rows.ratioTotalsSpec.post enc Try.prog Try.f11 false true false false) := by
  refine returnsInHanded_of_change (C := Try.checked) own started (by kernel_rfl) Try.func11
    (ChangeSpec.witness6 (enc := enc) (C := Try.checked) false ⟨#[], #[.slice none 0 0], []⟩ 8 (by kernel_rfl) (by kernel_rfl) (by kernel_rfl) (by kernel_rfl)) ?_
  intro W base args ds gs before hval0 hW hcnd _
  have hval : ∀ (j : Nat) t v, Try.f11.params[j]? = some t → args[j]? = some v → Value.okWide Try.prog W .any base t v := hval0
  have hW' := hW
  obtain ⟨p, q, hA0, hV, rfl, hfz, hnd⟩ := hW
  have hA : DataW.TrodAll enc Try.prog W 0 (fun _ => true) true Try.f11.params.toList args.toList ds p := hA0
  rw [Try.params11] at hA hval
  obtain ⟨v0, vs0, d0, ds0, p0, q0, hargs, rfl, rfl, h0, r0⟩ := trodAll_cons hA
  obtain ⟨rfl, rfl, rfl⟩ := trodAll_nil r0
  obtain rfl : args = #[v0] := by cases args; simp_all
  obtain ⟨rfl, rfl⟩ := trodVars_none hV
  have k0 := h0
  have lt0 : ∀ x ∈ p0, x.block < W.heap.size := by obtain ⟨m, hm⟩ := k0; exact DataW.trod_lt m _ _ _ hm
  obtain ⟨b0, n0, cap0, rfl⟩ := okWide_slice Try.underlying43 (hval 0 43 v0 rfl rfl)
  obtain ⟨f0, g0, hrow0⟩ := rows0 h0 lt0
  clear hA0 hval0
  refine (walk b0 n0 cap0 f0 g0 W hrow0).mono fun e W' ⟨he, bel⟩ => ?_
  subst he
  exact ⟨_, rfl, _, _, _, [], _, [], hW', trodAll_mk1 (shut_bool Try.underlying4 _), (trodAll_cons_mk (Below.trod laidOut (by kernel_rfl) (of_decide_eq_true (by kernel_rfl)) k0 bel lt0) trodAll_mk0), rfl, bel.frame _, fun h => by cases h⟩

theorem over : Rows.ratioTotalsRow.holds Try.pinned (OpenSpec.ofChange Rows.ratioTotalsSpec) :=
  OpenClaim.holds_of_wide 11 Try.f11 rfl rfl rfl rfl rfl rfl rfl ⟨rfl, rfl, rfl, rfl, rfl⟩ rfl rfl rfl rfl rfl (by kernel_rfl) Try.func11 (by kernel_rfl)
    (of_decide_eq_true (by kernel_rfl)) (by unfold Func.isWrapper; first | (rw [if_pos (by decide +kernel)]; kernel_rfl) | (rw [if_neg (by decide +kernel)]; exact ⟨rfl, rfl⟩))
    (fun os started H enc _ => lifted os started H enc)

/-- the statement -/
theorem proved : Rows.RatioTotalsSaid := over
end Go.Proofs.Ytlcgfhliaalccaa.ratioTotals
