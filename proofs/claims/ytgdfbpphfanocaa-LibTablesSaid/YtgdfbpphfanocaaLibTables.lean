/-
  The statement LibTables: for every room and script of calls the law returns true.
  Conditions: none beyond those of the given row.
-/
import Derived.Test.YtgdfbpphfanocaaRows
import Derived.Test.YtgdfbpphfanocaaDG
import Derived.Test.YtgdfbpphfanocaaCY
import Derived.ProofKit
import Derived.OpenShut
import Derived.ShutString
import Derived.ChangeOld
import Derived.Lib.SmallJoins
set_option linter.unusedVariables false
set_option linter.unusedSimpArgs false
namespace Go.Proofs.Ytgdfbpphfanocaa.libTables
open Go.ChangeShapes Go.WideShapes Go.ChangeAt Go.RowKit Go.Joins
open Go.ChangeMaps (open_string shut_string)
open Go.Sort Lc

set_option maxHeartbeats 4000000 in
theorem walk_bad (room : Int) (p : Option Addr) (n cap : Nat) (w : World) (hr : rm room = false) :
    Calls Try.prog 5 #[.int .i64 room, .slice p n cap] w fun e w' => e = .returned (.bool true) ∧ Below w.heap.size w w' := by
  have Hr := hide hr
  clear hr
  by_cases h0 : 0 < n
  all_goals
    go_enter Try.func5, Try.ntmps5
    go_wp2_with fail
    refine (New_bad room _ Hr.out).mono ?_
    rintro e ws ⟨rfl, rfl⟩
    go_wp2_with fail
    refine (rNew_bad room _ Hr.out).mono ?_
    rintro e ws ⟨rfl, rfl⟩
    go_wp2_with fail
    go_loop [9] (fun i => i = .int .i64 0) (fun _ => 0)
    case atStart => rfl
    case round =>
      subst hrel
      go_wp2_with fail
      refine (Cells_nil _).mono ?_
      rintro e ws ⟨rfl, rfl⟩
      go_wp2_with fail
      refine (rCells_nil _).mono ?_
      rintro e ws ⟨rfl, rfl⟩
      go_wp2_with fail
      refine (rows_nil _).mono ?_
      rintro e ws ⟨rfl, rfl⟩
      go_wp2_with fail
      refine (Len_nil _).mono ?_
      rintro e w1 ⟨rfl, hb1⟩
      go_wp2_with fail
      refine (rLen_nil _).mono ?_
      rintro e ws ⟨rfl, rfl⟩
      go_wp2_with fail
      refine (sane_any _).mono ?_
      rintro e w2 ⟨rfl, hb2⟩
      go_wp2_with fail
      go_ret
      exact ⟨rfl, hb1.trans (hb2.mono hb1.size)⟩
set_option maxHeartbeats 4000000 in
set_option maxRecDepth 20000 in
theorem walk (room : Int) (p : Option Addr) (n cap : Nat) (f : Nat → O5) (w : World) (w0 : (Lit.int .i64 room).wf = true) (hrow : OpsRow w p n cap f) :
    Calls Try.prog 5 #[.int .i64 room, .slice p n cap] w fun e w' => e = .returned (.bool true) ∧ Below w.heap.size w w' := by
  cases hr : rm room
  · exact walk_bad room p n cap w hr
  · obtain ⟨r1, r2⟩ := rm_t hr
    obtain ⟨m, rfl⟩ : ∃ m : Nat, room = (m : Int) := ⟨room.toNat, by omega⟩
    have m1 : 1 ≤ m := by omega
    have m2 : m ≤ 32 := by omega
    clear hr w0 r1 r2
    have hcap : (cap : Int) ≤ 9223372036854775807 := by have := hrow.hc; unfold maxLen at this; omega
    have hnc : (n : Int) ≤ (cap : Int) := by have := hrow.hn; omega
    go_enter Try.func5, Try.ntmps5
    go_wp2_with fail
    refine (New_ok m _ m1 m2).mono ?_
    rintro e w1 ⟨rfl, hT1, hb1⟩
    go_wp2_with fail
    refine (rNew_ok m _ m1 m2).mono ?_
    rintro e w2 ⟨rfl, hT2, hb2⟩
    have hTwo : Two w2 (w.heap.size + 1) w.heap.size (w1.heap.size + 1) w1.heap.size m zero := by
      have h1 := hT1.bz
      exact ⟨hT1.below hb2, hT2, by omega, by omega, by omega⟩
    have hB : Below w.heap.size w w2 := hb1.trans (hb2.mono hb1.size)
    have hz1 := hb1.size
    obtain ⟨b, hbq⟩ : ∃ b, b = w.heap.size + 1 := ⟨_, rfl⟩
    obtain ⟨c, hcq⟩ : ∃ c, c = w.heap.size := ⟨_, rfl⟩
    obtain ⟨b2, hbq2⟩ : ∃ b2, b2 = w1.heap.size + 1 := ⟨_, rfl⟩
    obtain ⟨c2, hcq2⟩ : ∃ c2, c2 = w1.heap.size := ⟨_, rfl⟩
    have k1 : w.heap.size ≤ c := by omega
    have k2 : w.heap.size ≤ c2 := by omega
    rw [← hbq, ← hbq2, ← hcq, ← hcq2] at hTwo
    rw [← hbq, ← hbq2]
    clear hT1 hT2 hb1 hb2 hz1 hbq hcq hbq2 hcq2
    go_wp2_with fail
    go_loopw [9] (fun i wr => ∃ (k : Nat) (t : Nat → Cl), k ≤ n ∧ k ≤ 120 ∧ i = .int .i64 (k : Int) ∧ Two wr b c b2 c2 m t ∧ Lc.Hid (Wd t m) ∧ Below w.heap.size w wr) (fun i _ => ((n : Int) - intOf i).toNat)
    case atStart => exact ⟨0, zero, by omega, by omega, rfl, hTwo, hide (Wd.zero m), hB⟩
    case round =>
      clear hTwo hB
      obtain ⟨k, t, hk, hk2, rfl, hT, hW, hb⟩ := hrel
      by_cases hlt : k < n ∧ k < 120
      · obtain ⟨q1, q2⟩ := hlt
        obtain ⟨a, rfl⟩ := hrow.som (by omega)
        have row := hrow.below (hb.mono (Nat.le_refl _))
        have d0 := row.c0 a k rfl q1
        have d1 := row.c1 a k rfl q1
        have d2 := row.c2 a k rfl q1
        have d3 := row.c3 a k rfl q1
        have d4 := row.c4 a k rfl q1
        have q3 : (k : Int) < (n : Int) := by omega
        go_wp2_with fail
        refine (table_any b c b2 c2 m t (f k).d (f k).a (f k).v (f k).f (f k).s _ hT m1 m2 hW.out).mono ?_
        rintro e w3 ⟨rfl, hT3, hB3⟩
        have hb3 := hb.trans (hB3 w.heap.size k1 k2 hb.size)
        clear hT row d0 d1 d2 d3 d4
        go_wp2_with fail
        exact ⟨⟨k + 1, _, by omega, by omega, by push_cast; rfl, hT3, hide (hW.out.st m1 _ _ _), hb3⟩, by simp [intOf]; omega⟩
      · have hcase : ¬ k < n ∨ (k < n ∧ ¬ k < 120) := by omega
        rcases hcase with hc | ⟨hc, hc2⟩
        case' inl => obtain rfl : k = n := by omega
        case' inr => obtain rfl : k = 120 := by omega
        all_goals
          go_wp2_with fail
          refine (Cells_any b c m t _ hT.p m1 m2).mono ?_
          rintro e w3 ⟨v, rfl, hown, hb3⟩
          obtain ⟨g, cap3, rfl, hc3, hm3, hg3, hl3⟩ := Lies.of_own hown m1
          clear hown
          go_wp2_with fail
          refine (rCells_any b2 c2 m t _ (hT.r.below hb3) m1 m2).mono ?_
          rintro e w4 ⟨v, rfl, hown, hb4⟩
          obtain ⟨g4, cap4, rfl, hc4, hm4, hg4, hl4⟩ := Lies.of_own hown m1
          clear hown
          go_wp2_with fail
          refine (rows_any g g4 cap3 cap4 m t _ m2 hc3 hc4 (hl3.below hb4) hl4).mono ?_
          rintro e w5 ⟨rfl, hb5⟩
          have hB5 : Below _ _ w5 := hb3.trans ((hb4.mono hb3.size).trans (hb5.mono (Nat.le_trans hb3.size hb4.size)))
          have hT5 := hT.below hB5
          go_wp2_with fail
          refine (Len_any b c m t _ hT5.p m1 m2).mono ?_
          rintro e w6 ⟨rfl, hb6⟩
          go_wp2_with fail
          refine (rLen_any b2 c2 m t _ (hT5.r.below hb6) m1 m2).mono ?_
          rintro e ws ⟨rfl, rfl⟩
          have hB6 : Below _ _ w6 := hb.trans ((hB5.trans (hb6.mono hB5.size)).mono hb.size)
          go_wp2_with fail
          refine (sane_any _).mono ?_
          rintro e w7 ⟨rfl, hb7⟩
          go_wp2_with fail
          go_ret
          exact ⟨rfl, hB6.trans (hb7.mono hB6.size)⟩

theorem own : ownKnob Try.prog.godebug = none := by kernel_rfl
theorem laidOut : laidOutB Try.prog = true := by kernel_rfl

set_option maxRecDepth 100000 in
theorem lifted (os : Os) (started : os.Started) (H : Type) (enc : TypeId × Value → H) :
    ReturnsInHanded {} Try.checked os 5 .any (Rows.libTablesSpec.pre6 enc Try.prog Try.f5 Rows.libTablesRow.domain false) (Rows.libTablesSpec.post enc Try.prog Try.f5 false true false false) := by
  refine returnsInHanded_of_change (C := Try.checked) own started (by kernel_rfl) Try.func5
    (ChangeSpec.witness6 (enc := enc) (C := Try.checked) false ⟨#[], #[.int .i64 0, .slice none 0 0], []⟩ 8 (by kernel_rfl) (by kernel_rfl) (by kernel_rfl) (by kernel_rfl)) ?_
  intro W base args ds gs before hval0 hW hcnd _
  have hval : ∀ (j : Nat) t v, Try.f5.params[j]? = some t → args[j]? = some v → Value.okWide Try.prog W .any base t v := hval0
  have hW' := hW
  obtain ⟨p, q, hA0, hV, rfl, hfz, hnd⟩ := hW
  have hA : DataW.TrodAll enc Try.prog W 0 (fun _ => true) true Try.f5.params.toList args.toList ds p := hA0
  rw [Try.params5] at hA hval
  obtain ⟨v0, vs0, d0, ds0, p0, q0, hargs, rfl, rfl, h0, r0⟩ := trodAll_cons hA
  obtain ⟨v1, vs1, d1, ds1, p1, q1, rfl, rfl, rfl, h1, r1⟩ := trodAll_cons r0
  obtain ⟨rfl, rfl, rfl⟩ := trodAll_nil r1
  obtain rfl : args = #[v0, v1] := by cases args; simp_all
  obtain ⟨rfl, rfl⟩ := trodVars_none hV
  obtain ⟨a0, rfl, rfl, rfl, w0⟩ := open_int Try.underlying3 (hval 0 3 v0 rfl rfl) h0
  have k1 := h1
  have lt1 : ∀ x ∈ p1, x.block < W.heap.size := by obtain ⟨m, hm⟩ := k1; exact DataW.trod_lt m _ _ _ hm
  obtain ⟨b1, n1, cap1, rfl⟩ := okWide_slice Try.underlying22 (hval 1 22 v1 rfl rfl)
  obtain ⟨f1, hrow1⟩ := rows5 h1 lt1
  clear hA0 hval0
  refine (walk a0 b1 n1 cap1 f1 W w0 hrow1).mono fun e W' ⟨he, bel⟩ => ?_
  subst he
  exact ⟨_, rfl, _, _, _, [], _, [], hW', trodAll_mk1 (shut_bool Try.underlying4 _), (trodAll_cons_mk (shut_int Try.underlying3 w0) (trodAll_cons_mk (Below.trod laidOut (by kernel_rfl) (of_decide_eq_true (by kernel_rfl)) k1 bel lt1) trodAll_mk0)), rfl, bel.frame _, fun h => by cases h⟩

theorem over : Rows.libTablesRow.holds Try.pinned (OpenSpec.ofChange Rows.libTablesSpec) :=
  OpenClaim.holds_of_wide 5 Try.f5 rfl rfl rfl rfl rfl rfl rfl ⟨rfl, rfl, rfl, rfl, rfl⟩ rfl rfl rfl rfl rfl (by kernel_rfl) Try.func5 (by kernel_rfl)
    (of_decide_eq_true (by kernel_rfl)) (by unfold Func.isWrapper; first | (rw [if_pos (by decide +kernel)]; kernel_rfl) | (rw [if_neg (by decide +kernel)]; exact ⟨rfl, rfl⟩))
    (fun os started H enc _ => lifted os started H enc)

/-- the statement -/
theorem proved : Rows.LibTablesSaid := over
end Go.Proofs.Ytgdfbpphfanocaa.libTables
