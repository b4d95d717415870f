/-
  The statement RatioDistributes: for all ratios the law returns true.
  Conditions: none beyond those of the given row.
-/
import Derived.Test.YtlcgfhliaalccaaRows
import Derived.Test.YtlcgfhliaalccaaRY0
import Derived.Test.YtlcgfhliaalccaaRY1
import Derived.Test.YtlcgfhliaalccaaRY2
import Derived.ProofKit
import Derived.OpenShut
import Derived.ShutString
import Derived.ChangeOld
import Derived.Lib.SmallJoins
set_option linter.unusedVariables false
set_option linter.unusedSimpArgs false
namespace Go.Proofs.Ytlcgfhliaalccaa.ratioDistributes
open Go.ChangeShapes Go.WideShapes Go.ChangeAt Go.RowKit Go.Joins
open Go.ChangeMaps (open_string shut_string)
open Go.Sort Rt Rc

theorem cmp_rat {n d m e : Int} (h1 : val n d = true) (h2 : val m e = true) : cmp n d m e = ⟨if rat n d < rat m e then -1 else if rat m e < rat n d then 1 else 0, 0⟩ := by
  obtain ⟨a1, a2, a3⟩ := val_rat' h1
  obtain ⟨b1, b2, b3⟩ := val_rat' h2
  unfold cmp
  rw [h1, h2]
  show (⟨if n * e < m * d then -1 else if m * d < n * e then 1 else 0, 0⟩ : R2) = _
  congr 1
  simp only [Rat.lt_iff, a1, a2, b1, b2]
theorem order_ok {n d m e k f : Int} (h1 : (add m e n d).e = 0) (h2 : (add k f n d).e = 0) : ∃ u, cmp m e k f = ⟨u, 0⟩ ∧ cmp (add m e n d).n (add m e n d).d (add k f n d).n (add k f n d).d = ⟨u, 0⟩ := by
  have a := add_ok h1
  have b := add_ok h2
  refine ⟨_, cmp_rat a.1 b.1, ?_⟩
  rw [cmp_rat a.2.2.1 b.2.2.1, a.2.2.2, b.2.2.2]
  simp only [Rat.add_lt_add_right]
theorem dist_ok {n d m e k f : Int} (h1 : (add m e k f).e = 0) (h2 : (mul n d m e).e = 0) (h3 : (mul n d k f).e = 0) (h4 : (mul n d (add m e k f).n (add m e k f).d).e = 0) :
    add (mul n d m e).n (mul n d m e).d (mul n d k f).n (mul n d k f).d = ⟨(mul n d (add m e k f).n (add m e k f).d).n, (mul n d (add m e k f).n (add m e k f).d).d, 0⟩ := by
  have a := add_ok h1
  have b := mul_ok h2
  have c := mul_ok h3
  have g := mul_ok h4
  rw [show add (mul n d m e).n (mul n d m e).d (mul n d k f).n (mul n d k f).d = out (rat (mul n d m e).n (mul n d m e).d + rat (mul n d k f).n (mul n d k f).d) by unfold add; rw [b.2.2.1, c.2.2.1]; rfl]
  rw [b.2.2.2, c.2.2.2, ← out_val g.2.2.1, g.2.2.2, a.2.2.2, Rat.mul_add]
theorem walk (n d m e k f : Int) (w : World) (w0 : (Lit.int .i64 n).wf = true) (w1 : (Lit.int .i64 d).wf = true) (w2 : (Lit.int .i64 m).wf = true) (w3 : (Lit.int .i64 e).wf = true) (w4 : (Lit.int .i64 k).wf = true) (w5 : (Lit.int .i64 f).wf = true) :
    Calls Try.prog 10 #[.agg #[.int .i64 n, .int .i64 d], .agg #[.int .i64 m, .int .i64 e], .agg #[.int .i64 k, .int .i64 f]] w fun e w' => e = .returned (.bool true) ∧ Below w.heap.size w w' := by
  clear w0 w1 w2 w3 w4 w5
  by_cases e0 : (add m e k f).e = 0
  · by_cases e1 : (mul n d m e).e = 0
    · by_cases e2 : (mul n d k f).e = 0
      · by_cases e3 : (mul n d (add m e k f).n (add m e k f).d).e = 0
        · have hp := hide (dist_ok e0 e1 e2 e3)
          by_cases g0 : (add m e n d).e = 0
          · by_cases g1 : (add k f n d).e = 0
            · obtain ⟨u, h1, h2⟩ := order_ok g0 g1
              exact dwalk_42 n d m e k f w e0 e1 e2 e3 hp g0 g1 u (hide h1) (hide h2)
            · exact dwalk_41 n d m e k f w e0 e1 e2 e3 hp g0 (by simpa using g1)
          · exact dwalk_40 n d m e k f w e0 e1 e2 e3 hp (by simpa using g0)
        · by_cases g0 : (add m e n d).e = 0
          · by_cases g1 : (add k f n d).e = 0
            · obtain ⟨u, h1, h2⟩ := order_ok g0 g1
              exact dwalk_32 n d m e k f w e0 e1 e2 (by simpa using e3) g0 g1 u (hide h1) (hide h2)
            · exact dwalk_31 n d m e k f w e0 e1 e2 (by simpa using e3) g0 (by simpa using g1)
          · exact dwalk_30 n d m e k f w e0 e1 e2 (by simpa using e3) (by simpa using g0)
      · by_cases g0 : (add m e n d).e = 0
        · by_cases g1 : (add k f n d).e = 0
          · obtain ⟨u, h1, h2⟩ := order_ok g0 g1
            exact dwalk_22 n d m e k f w e0 e1 (by simpa using e2) g0 g1 u (hide h1) (hide h2)
          · exact dwalk_21 n d m e k f w e0 e1 (by simpa using e2) g0 (by simpa using g1)
        · exact dwalk_20 n d m e k f w e0 e1 (by simpa using e2) (by simpa using g0)
    · by_cases g0 : (add m e n d).e = 0
      · by_cases g1 : (add k f n d).e = 0
        · obtain ⟨u, h1, h2⟩ := order_ok g0 g1
          exact dwalk_12 n d m e k f w e0 (by simpa using e1) g0 g1 u (hide h1) (hide h2)
        · exact dwalk_11 n d m e k f w e0 (by simpa using e1) g0 (by simpa using g1)
      · exact dwalk_10 n d m e k f w e0 (by simpa using e1) (by simpa using g0)
  · by_cases g0 : (add m e n d).e = 0
    · by_cases g1 : (add k f n d).e = 0
      · obtain ⟨u, h1, h2⟩ := order_ok g0 g1
        exact dwalk_02 n d m e k f w (by simpa using e0) g0 g1 u (hide h1) (hide h2)
      · exact dwalk_01 n d m e k f w (by simpa using e0) g0 (by simpa using g1)
    · exact dwalk_00 n d m e k f w (by simpa using e0) (by simpa using g0)

theorem own : ownKnob Try.prog.godebug = none := by kernel_rfl
theorem laidOut : laidOutB Try.prog = true := by kernel_rfl
theorem cells23 : Try.prog.cellsOf 23 = 2 := by kernel_rfl

set_option maxRecDepth 100000 in
theorem lifted (os : Os) (started : os.Started) (H : Type) (enc : TypeId × Value → H) :
    ReturnsInHanded {} Try.checked os 10 .any (Rows.ratioDistributesSpec.pre6 enc Try.prog Try.f10 Rows.ratioDistributesRow.domain false) (Rows.ratioDistributesSpec.post enc Try.prog Try.f10 false true false false) := by
  refine returnsInHanded_of_change (C := Try.checked) own started (by kernel_rfl) Try.func10
    (ChangeSpec.witness6 (enc := enc) (C := Try.checked) false ⟨#[], #[.agg #[.int .i64 0, .int .i64 0], .agg #[.int .i64 0, .int .i64 0], .agg #[.int .i64 0, .int .i64 0]], []⟩ 8 (by kernel_rfl) (by kernel_rfl) (by kernel_rfl) (by kernel_rfl)) ?_
  intro W base args ds gs before hval0 hW hcnd _
  have hval : ∀ (j : Nat) t v, Try.f10.params[j]? = some t → args[j]? = some v → Value.okWide Try.prog W .any base t v := hval0
  have hW' := hW
  obtain ⟨p, q, hA0, hV, rfl, hfz, hnd⟩ := hW
  have hA : DataW.TrodAll enc Try.prog W 0 (fun _ => true) true Try.f10.params.toList args.toList ds p := hA0
  rw [Try.params10] at hA hval
  obtain ⟨v0, vs0, d0, ds0, p0, q0, hargs, rfl, rfl, h0, r0⟩ := trodAll_cons hA
  obtain ⟨v1, vs1, d1, ds1, p1, q1, rfl, rfl, rfl, h1, r1⟩ := trodAll_cons r0
  obtain ⟨v2, vs2, d2, ds2, p2, q2, rfl, rfl, rfl, h2, r2⟩ := trodAll_cons r1
  obtain ⟨rfl, rfl, rfl⟩ := trodAll_nil r2
  obtain rfl : args = #[v0, v1, v2] := by cases args; simp_all
  obtain ⟨rfl, rfl⟩ := trodVars_none hV
  have k0 := h0
  have lt0 : ∀ x ∈ p0, x.block < W.heap.size := by obtain ⟨m, hm⟩ := k0; exact DataW.trod_lt m _ _ _ hm
  obtain ⟨c0_0, c0_1, y0_0, y0_1, m0, rfl, hd0, hp0, hy0_0, hy0_1⟩ := open_agg2 Try.underlying23 (by kernel_rfl) cells23 (hval 0 23 v0 rfl rfl) h0
  obtain ⟨a0_0, e0_0, -, w0_0⟩ := DataW.trod_int Try.underlying3 hy0_0
  simp at e0_0
  subst e0_0
  obtain ⟨a0_1, e0_1, -, w0_1⟩ := DataW.trod_int Try.underlying3 hy0_1
  simp at e0_1
  subst e0_1
  clear hd0 hp0
  have k1 := h1
  have lt1 : ∀ x ∈ p1, x.block < W.heap.size := by obtain ⟨m, hm⟩ := k1; exact DataW.trod_lt m _ _ _ hm
  obtain ⟨c1_0, c1_1, y1_0, y1_1, m1, rfl, hd1, hp1, hy1_0, hy1_1⟩ := open_agg2 Try.underlying23 (by kernel_rfl) cells23 (hval 1 23 v1 rfl rfl) h1
  obtain ⟨a1_0, e1_0, -, w1_0⟩ := DataW.trod_int Try.underlying3 hy1_0
  simp at e1_0
  subst e1_0
  obtain ⟨a1_1, e1_1, -, w1_1⟩ := DataW.trod_int Try.underlying3 hy1_1
  simp at e1_1
  subst e1_1
  clear hd1 hp1
  have k2 := h2
  have lt2 : ∀ x ∈ p2, x.block < W.heap.size := by obtain ⟨m, hm⟩ := k2; exact DataW.trod_lt m _ _ _ hm
  obtain ⟨c2_0, c2_1, y2_0, y2_1, m2, rfl, hd2, hp2, hy2_0, hy2_1⟩ := open_agg2 Try.underlying23 (by kernel_rfl) cells23 (hval 2 23 v2 rfl rfl) h2
  obtain ⟨a2_0, e2_0, -, w2_0⟩ := DataW.trod_int Try.underlying3 hy2_0
  simp at e2_0
  subst e2_0
  obtain ⟨a2_1, e2_1, -, w2_1⟩ := DataW.trod_int Try.underlying3 hy2_1
  simp at e2_1
  subst e2_1
  clear hd2 hp2
  clear hA0 hval0
  refine (walk a0_0 a0_1 a1_0 a1_1 a2_0 a2_1 W w0_0 w0_1 w1_0 w1_1 w2_0 w2_1).mono fun e W' ⟨he, bel⟩ => ?_
  subst he
  exact ⟨_, rfl, _, _, _, [], _, [], hW', trodAll_mk1 (shut_bool Try.underlying4 _), (trodAll_cons_mk (Below.trod laidOut (by kernel_rfl) (of_decide_eq_true (by kernel_rfl)) k0 bel lt0) (trodAll_cons_mk (Below.trod laidOut (by kernel_rfl) (of_decide_eq_true (by kernel_rfl)) k1 bel lt1) (trodAll_cons_mk (Below.trod laidOut (by kernel_rfl) (of_decide_eq_true (by kernel_rfl)) k2 bel lt2) trodAll_mk0))), rfl, bel.frame _, fun h => by cases h⟩

theorem over : Rows.ratioDistributesRow.holds Try.pinned (OpenSpec.ofChange Rows.ratioDistributesSpec) :=
  OpenClaim.holds_of_wide 10 Try.f10 rfl rfl rfl rfl rfl rfl rfl ⟨rfl, rfl, rfl, rfl, rfl⟩ rfl rfl rfl rfl rfl (by kernel_rfl) Try.func10 (by kernel_rfl)
    (of_decide_eq_true (by kernel_rfl)) (by unfold Func.isWrapper; first | (rw [if_pos (by decide +kernel)]; kernel_rfl) | (rw [if_neg (by decide +kernel)]; exact ⟨rfl, rfl⟩))
    (fun os started H enc _ => lifted os started H enc)

/-- the statement -/
theorem proved : Rows.RatioDistributesSaid := over
end Go.Proofs.Ytlcgfhliaalccaa.ratioDistributes
