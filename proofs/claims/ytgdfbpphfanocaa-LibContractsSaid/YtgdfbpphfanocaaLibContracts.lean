/-
  The statement LibContracts: for every call and room the law returns true.
  Conditions: none beyond those of the given row.
-/
import Derived.Test.YtgdfbpphfanocaaRows
import Derived.Test.YtgdfbpphfanocaaCY
import Derived.ProofKit
import Derived.OpenShut
import Derived.ShutString
import Derived.ChangeOld
import Derived.Lib.SmallJoins
set_option linter.unusedVariables false
set_option linter.unusedSimpArgs false
namespace Go.Proofs.Ytgdfbpphfanocaa.libContracts
open Go.ChangeShapes Go.WideShapes Go.ChangeAt Go.RowKit Go.Joins
open Go.ChangeMaps (open_string shut_string)
open Go.Sort Lc

theorem bl_mono : ∀ k : Nat, k ≤ 31 → Lib.bitLen k ≤ Lib.bitLen (k + 1) := by decide
theorem dg_mono {n : Int} (h1 : 1 ≤ n) (h2 : n ≤ 31) : dg n ≤ dg (n + 1) := by
  have := bl_mono n.toNat (by omega)
  unfold dg
  rw [show (n + 1).toNat = n.toNat + 1 by omega]
  omega
theorem ctr_ok {s : ByteArray} {n : Int} (h : (ctr s n).e = 0) : rm n = true := by
  cases hr : rm n
  · unfold ctr at h; rw [hr] at h; exact absurd (show (1 : Int) = 0 from h) (by decide)
  · rfl
theorem ctr_up {s : ByteArray} {n : Int} (h : (ctr s n).e = 0) (h2 : n < 32) : (ctr s (n + 1)).e = 0 ∧ (ctr s n).v ≤ (ctr s (n + 1)).v := by
  have hr := ctr_ok h
  obtain ⟨a, b⟩ := rm_t hr
  have hr2 : rm (n + 1) = true := by simp [rm]; omega
  have hd := dg_mono a (by omega)
  unfold ctr at *
  rw [hr] at h ⊢
  rw [hr2]
  simp only [if_true] at h ⊢
  repeat' split
  all_goals (first | exact ⟨rfl, by simp only []; omega⟩ | (exfalso; simp_all; done))
theorem walk (s : ByteArray) (n : Int) (w : World) (w0 : s.size ≤ maxLen) (w1 : (Lit.int .i64 n).wf = true) :
    Calls Try.prog 4 #[.string s, .int .i64 n] w fun e w' => e = .returned (.bool true) ∧ Below w.heap.size w w' := by
  clear w0 w1
  by_cases h : (ctr s n).e = 0
  · obtain ⟨n1, n2⟩ := rm_t (ctr_ok h)
    by_cases h2 : n < 32
    · obtain ⟨u1, u2⟩ := ctr_up h h2
      go_enter Try.func4, Try.ntmps4
      go_wp2_with fail
      refine (Contract_any s n _).mono ?_
      rintro e ws ⟨rfl, rfl⟩
      go_wp2_with fail
      refine (rContract_any s n _).mono ?_
      rintro e ws ⟨rfl, rfl⟩
      go_wp2_with fail
      refine (Contract_any s (n + 1) _).mono ?_
      rintro e ws ⟨rfl, rfl⟩
      go_wp2_with fail
      refine (sane_any _).mono ?_
      rintro e w1 ⟨rfl, hb⟩
      go_wp2_with fail
      go_ret
      exact ⟨rfl, hb⟩
    · go_enter Try.func4, Try.ntmps4
      go_wp2_with fail
      refine (Contract_any s n _).mono ?_
      rintro e ws ⟨rfl, rfl⟩
      go_wp2_with fail
      refine (rContract_any s n _).mono ?_
      rintro e ws ⟨rfl, rfl⟩
      go_wp2_with fail
      refine (sane_any _).mono ?_
      rintro e w1 ⟨rfl, hb⟩
      go_wp2_with fail
      go_ret
      exact ⟨rfl, hb⟩
  · have h3 : ((ctr s n).e == 0) = false := by simpa using h
    go_enter Try.func4, Try.ntmps4
    go_wp2_with fail
    refine (Contract_any s n _).mono ?_
    rintro e ws ⟨rfl, rfl⟩
    go_wp2_with fail
    refine (rContract_any s n _).mono ?_
    rintro e ws ⟨rfl, rfl⟩
    go_wp2_with fail
    refine (sane_any _).mono ?_
    rintro e w1 ⟨rfl, hb⟩
    go_wp2_with fail
    go_ret
    exact ⟨rfl, hb⟩

theorem own : ownKnob Try.prog.godebug = none := by kernel_rfl
theorem laidOut : laidOutB Try.prog = true := by kernel_rfl

set_option maxRecDepth 100000 in
theorem lifted (os : Os) (started : os.Started) (H : Type) (enc : TypeId × Value → H) :
    ReturnsInHanded {} Try.checked os 4 .any (Rows.libContractsSpec.pre6 enc Try.prog Try.f4 Rows.libContractsRow.domain false) (Rows.libContractsSpec.post enc Try.prog Try.f4 false true false false) := by
  refine returnsInHanded_of_change (C := Try.checked) own started (by kernel_rfl) Try.func4
    (ChangeSpec.witness6 (enc := enc) (C := Try.checked) false ⟨#[], #[.string ByteArray.empty, .int .i64 0], []⟩ 8 (by kernel_rfl) (by kernel_rfl) (by kernel_rfl) (by kernel_rfl)) ?_
  intro W base args ds gs before hval0 hW hcnd _
  have hval : ∀ (j : Nat) t v, Try.f4.params[j]? = some t → args[j]? = some v → Value.okWide Try.prog W .any base t v := hval0
  have hW' := hW
  obtain ⟨p, q, hA0, hV, rfl, hfz, hnd⟩ := hW
  have hA : DataW.TrodAll enc Try.prog W 0 (fun _ => true) true Try.f4.params.toList args.toList ds p := hA0
  rw [Try.params4] at hA hval
  obtain ⟨v0, vs0, d0, ds0, p0, q0, hargs, rfl, rfl, h0, r0⟩ := trodAll_cons hA
  obtain ⟨v1, vs1, d1, ds1, p1, q1, rfl, rfl, rfl, h1, r1⟩ := trodAll_cons r0
  obtain ⟨rfl, rfl, rfl⟩ := trodAll_nil r1
  obtain rfl : args = #[v0, v1] := by cases args; simp_all
  obtain ⟨rfl, rfl⟩ := trodVars_none hV
  obtain ⟨a0, rfl, rfl, rfl, w0⟩ := open_string Try.underlying9 (hval 0 9 v0 rfl rfl) h0
  obtain ⟨a1, rfl, rfl, rfl, w1⟩ := open_int Try.underlying3 (hval 1 3 v1 rfl rfl) h1
  clear hA0 hval0
  refine (walk a0 a1 W w0 w1).mono fun e W' ⟨he, bel⟩ => ?_
  subst he
  exact ⟨_, rfl, _, _, _, [], _, [], hW', trodAll_mk1 (shut_bool Try.underlying4 _), (trodAll_cons_mk (shut_string Try.underlying9 w0) (trodAll_cons_mk (shut_int Try.underlying3 w1) trodAll_mk0)), rfl, bel.frame _, fun h => by cases h⟩

theorem over : Rows.libContractsRow.holds Try.pinned (OpenSpec.ofChange Rows.libContractsSpec) :=
  OpenClaim.holds_of_wide 4 Try.f4 rfl rfl rfl rfl rfl rfl rfl ⟨rfl, rfl, rfl, rfl, rfl⟩ rfl rfl rfl rfl rfl (by kernel_rfl) Try.func4 (by kernel_rfl)
    (of_decide_eq_true (by kernel_rfl)) (by unfold Func.isWrapper; first | (rw [if_pos (by decide +kernel)]; kernel_rfl) | (rw [if_neg (by decide +kernel)]; exact ⟨rfl, rfl⟩))
    (fun os started H enc _ => lifted os started H enc)

/-- the statement -/
theorem proved : Rows.LibContractsSaid := over
end Go.Proofs.Ytgdfbpphfanocaa.libContracts
