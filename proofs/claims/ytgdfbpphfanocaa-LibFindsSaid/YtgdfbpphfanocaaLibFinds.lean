/-
  The statement LibFinds: for every room and script of calls the law returns true.
  Conditions: none beyond those of the given row.
-/
import Derived.Test.YtgdfbpphfanocaaRows
import Derived.Test.YtgdfbpphfanocaaDQ
import Derived.Test.YtgdfbpphfanocaaCY
import Derived.ProofKit
import Derived.OpenShut
import Derived.ShutString
import Derived.ChangeOld
import Derived.Lib.SmallJoins
set_option linter.unusedVariables false
set_option linter.unusedSimpArgs false
namespace Go.Proofs.Ytgdfbpphfanocaa.libFinds
open Go.ChangeShapes Go.WideShapes Go.ChangeAt Go.RowKit Go.Joins
open Go.ChangeMaps (open_string shut_string)
open Go.Sort Lc

theorem atk_succ (n : Nat) (key : Int) (j : Nat) : ((atk n key j : Int) + 1) % (n : Int) = (atk n key (j + 1) : Int) := by
  unfold atk
  have : (((key % (n : Int)).toNat + j) % n + 1) % n = ((key % (n : Int)).toNat + (j + 1)) % n := by rw [Nat.mod_add_mod, Nat.add_assoc]
  rw [← this]; push_cast; rfl
theorem getV_found {t : Nat → Cl} {n i : Nat} {s : Int} (h : fnd t n (t i).k = ((i : Int), s)) (hF : isF t n (t i).k = true) : getV t n (t i).k = (t i).v ∧ getE t n (t i).k = 0 := by
  unfold getV getE; rw [hF, h]; simp
set_option maxHeartbeats 4000000 in
theorem walk_bad (room : Int) (p : Option Addr) (n cap : Nat) (w : World) (hr : rm room = false) :
    Calls Try.prog 6 #[.int .i64 room, .slice p n cap] w fun e w' => e = .returned (.bool true) ∧ Below w.heap.size w w' := by
  have Hr := hide hr
  clear hr
  by_cases h0 : 0 < n
  all_goals
    go_enter Try.func6, Try.ntmps6
    go_wp2_with fail
    refine (New_bad room _ Hr.out).mono ?_
    rintro e ws ⟨rfl, rfl⟩
    go_wp2_with fail
    refine (rNew_bad room _ Hr.out).mono ?_
    rintro e ws ⟨rfl, rfl⟩
    go_wp2_with fail
    go_loop [9] (fun i => i = .int .i64 0) (fun _ => 0)
    case atStart => rfl
    case round =>
      subst hrel
      go_wp2_with fail
      refine (Cells_nil _).mono ?_
      rintro e ws ⟨rfl, rfl⟩
      go_wp2_with fail
      go_loop [11] (fun i => i = .int .i64 0) (fun _ => 0)
      case atStart => rfl
      case round =>
        subst hrel
        go_wp2_with fail
        refine (sane_any _).mono ?_
        rintro e w2 ⟨rfl, hb2⟩
        go_wp2_with fail
        go_ret
        exact ⟨rfl, hb2⟩
set_option maxHeartbeats 4000000 in
set_option maxRecDepth 20000 in
theorem walk (room : Int) (p : Option Addr) (n cap : Nat) (f : Nat → O5) (w : World) (w0 : (Lit.int .i64 room).wf = true) (hrow : OpsRow w p n cap f) :
    Calls Try.prog 6 #[.int .i64 room, .slice p n cap] w fun e w' => e = .returned (.bool true) ∧ Below w.heap.size w w' := by
  cases hr : rm room
  · exact walk_bad room p n cap w hr
  · obtain ⟨r1, r2⟩ := rm_t hr
    obtain ⟨m, rfl⟩ : ∃ m : Nat, room = (m : Int) := ⟨room.toNat, by omega⟩
    have m1 : 1 ≤ m := by omega
    have m2 : m ≤ 32 := by omega
    clear hr w0 r1 r2
    have hcap : (cap : Int) ≤ 9223372036854775807 := by have := hrow.hc; unfold maxLen at this; omega
    have hnc : (n : Int) ≤ (cap : Int) := by have := hrow.hn; omega
    go_enter Try.func6, Try.ntmps6
    go_wp2_with fail
    refine (New_ok m _ m1 m2).mono ?_
    rintro e w1 ⟨rfl, hT1, hb1⟩
    go_wp2_with fail
    refine (rNew_ok m _ m1 m2).mono ?_
    rintro e w2 ⟨rfl, hT2, hb2⟩
    have hTwo : Two w2 (w.heap.size + 1) w.heap.size (w1.heap.size + 1) w1.heap.size m zero := by
      have h1 := hT1.bz
      exact ⟨hT1.below hb2, hT2, by omega, by omega, by omega⟩
    have hB : Below w.heap.size w w2 := hb1.trans (hb2.mono hb1.size)
    have hz1 := hb1.size
    obtain ⟨b, hbq⟩ : ∃ b, b = w.heap.size + 1 := ⟨_, rfl⟩
    obtain ⟨c, hcq⟩ : ∃ c, c = w.heap.size := ⟨_, rfl⟩
    obtain ⟨b2, hbq2⟩ : ∃ b2, b2 = w1.heap.size + 1 := ⟨_, rfl⟩
    obtain ⟨c2, hcq2⟩ : ∃ c2, c2 = w1.heap.size := ⟨_, rfl⟩
    have k1 : w.heap.size ≤ c := by omega
    have k2 : w.heap.size ≤ c2 := by omega
    rw [← hbq, ← hbq2, ← hcq, ← hcq2] at hTwo
    rw [← hbq, ← hbq2]
    clear hT1 hT2 hb1 hb2 hz1 hbq hcq hbq2 hcq2
    go_wp2_with fail
    go_loopw [9] (fun i wr => ∃ (k : Nat) (t : Nat → Cl), k ≤ n ∧ k ≤ 120 ∧ i = .int .i64 (k : Int) ∧ Two wr b c b2 c2 m t ∧ Lc.Hid (∃ r, Inv m t r) ∧ Lc.Hid (Wd t m) ∧ Below w.heap.size w wr) (fun i _ => ((n : Int) - intOf i).toNat)
    case atStart => exact ⟨0, zero, by omega, by omega, rfl, hTwo, hide ⟨_, Inv.zero m⟩, hide (Wd.zero m), hB⟩
    case round =>
      clear hTwo hB
      obtain ⟨k, t, hk, hk2, rfl, hT, hI, hW, hb⟩ := hrel
      by_cases hlt : k < n ∧ k < 120
      · obtain ⟨q1, q2⟩ := hlt
        obtain ⟨a, rfl⟩ := hrow.som (by omega)
        have row := hrow.below (hb.mono (Nat.le_refl _))
        have d0 := row.c0 a k rfl q1
        have d1 := row.c1 a k rfl q1
        have d2 := row.c2 a k rfl q1
        have d3 := row.c3 a k rfl q1
        have d4 := row.c4 a k rfl q1
        have q3 : (k : Int) < (n : Int) := by omega
        go_wp2_with fail
        refine (table_any b c b2 c2 m t (f k).d (f k).a (f k).v (f k).f (f k).s _ hT m1 m2 hW.out).mono ?_
        rintro e w3 ⟨rfl, hT3, hB3⟩
        have hb3 := hb.trans (hB3 w.heap.size k1 k2 hb.size)
        clear hT row d0 d1 d2 d3 d4
        go_wp2_with fail
        exact ⟨⟨k + 1, _, by omega, by omega, by push_cast; rfl, hT3, hide (Inv.st hI.out _ _ _), hide (hW.out.st m1 _ _ _), hb3⟩, by simp [intOf]; omega⟩
      · have hcase : ¬ k < n ∨ (k < n ∧ ¬ k < 120) := by omega
        rcases hcase with hc | ⟨hc, hc2⟩
        case' inl => obtain rfl : k = n := by omega
        case' inr => obtain rfl : k = 120 := by omega
        all_goals
          clear hrow hnc hcap
          go_wp2_with fail
          refine (Cells_any b c m t _ hT.p m1 m2).mono ?_
          rintro e w3 ⟨v, rfl, hown, hb3⟩
          obtain ⟨g, cap3, rfl, hc3, hm3, hg3, hl3⟩ := Lies.of_own hown m1
          have hT3 := hT.below hb3
          have hB3 := hb.trans (hb3.mono hb.size)
          have hcap3 : (cap3 : Int) ≤ 9223372036854775807 := by unfold maxLen at hm3; omega
          have hc3i : (m : Int) ≤ (cap3 : Int) := by omega
          clear hown hb3 hT hb hm3
          go_wp2_with fail
          go_loopw [11] (fun x wr2 => ∃ k : Nat, k ≤ m ∧ x = .int .i64 (k : Int) ∧ Below w3.heap.size w3 wr2) (fun x _ => ((m : Int) - intOf x).toNat)
          case atStart => exact ⟨0, by omega, rfl, Below.refl _ _⟩
          case round =>
            obtain ⟨k, hk, rfl, hr⟩ := hrel
            have hl := hl3.below hr
            have hTr := hT3.below hr
            by_cases hlt : k < m
            · have hkm : (k : Int) < (m : Int) := by omega
              have e0 := hl.at_ k 0 hlt (by omega)
              rw [Nat.add_zero] at e0
              have e1 := hl.at_ k 1 hlt (by omega)
              have e2 := hl.at_ k 2 hlt (by omega)
              cases hu : (t k).u
              case false =>
                have hcl : cellL (t k) = [.int .i64 0, .int .i64 0, .int .i64 0] := by unfold cellL; rw [hu]; rfl
                rw [hcl] at e0 e1 e2
                clear hu hcl
                go_wp2_with fail
                exact ⟨⟨k + 1, by omega, by push_cast; rfl, hr⟩, by simp [intOf]; omega⟩
              case true =>
                have hcl : cellL (t k) = [.int .i64 1, .int .i64 (t k).k, .int .i64 (t k).v] := by unfold cellL; rw [hu]; rfl
                rw [hcl] at e0 e1 e2
                obtain ⟨r, hI2⟩ := hI.out
                have Hf := hide (hI2.found hlt hu)
                have Ho := hide (hI2.out k hlt hu)
                have hwk := hW.out k hlt
                obtain ⟨D, hD⟩ : ∃ D, ds m (hm t m k) k = D := ⟨_, rfl⟩
                have hDm : D < m := by rw [← hD]; exact ds_lt (hm_lt t m k m1) hlt
                have HD := hide hD
                have hDk : atk m (t k).k D = k := by rw [← hD]; exact ds_atk hlt
                have HDk := hide hDk
                have hbd := tmod_bd (t k).k m (by omega)
                have n0 : ((m : Int) == 0) = false := by simp; omega
                have n1 : ¬ ((m : Int) = 0) := by omega
                clear hu hcl hI2 hD hDk
                go_wp2_with fail
                go_loop [14, 15] (fun x y => ∃ j : Nat, j ≤ D ∧ x = .int .i64 (j : Int) ∧ y = .int .i64 (atk m (t k).k j : Int)) (fun x _ => ((D : Int) - intOf x).toNat)
                case atStart =>
                  refine ⟨0, by omega, rfl, ?_⟩
                  have h1 := home_eq2 (t k).k m (by omega)
                  have h2 := atk_eq m (t k).k 0 m1
                  have h3 := Int.emod_nonneg (t k).k (b := (m : Int)) (by omega)
                  have h4 := Int.emod_lt_of_pos (t k).k (b := (m : Int)) (by omega)
                  congr 1
                  rw [h1, ← h2, show ((0 : Nat) : Int) = 0 from rfl, Int.add_zero, Int.emod_emod_of_dvd _ (Int.dvd_refl _)]
                case round =>
                  obtain ⟨j, hj, rfl, rfl⟩ := hrel
                  by_cases hjD : j < D
                  · obtain ⟨a1, a2⟩ := atk_ds (key := (t k).k) (show j < m by omega)
                    have hss := atk_succ m (t k).k j
                    obtain ⟨x, hx⟩ : ∃ x, x = atk m (t k).k j := ⟨_, rfl⟩
                    have Hx := hide hx
                    rw [← hx] at a1 a2 hss ⊢
                    have hO := Ho.out x a2 (by rw [HD.out]; show ds m _ x < D; rw [show hm t m k = ((t k).k % (m : Int)).toNat from rfl, a1]; exact hjD)
                    have hne : ¬ (x = k) := fun c => by
                      subst c
                      have h1 := HD.out
                      rw [show hm t m x = ((t x).k % (m : Int)).toNat from rfl, a1] at h1
                      omega
                    have hxi : (x : Int) < (m : Int) := by omega
                    have c0 := hl.at_ x 0 a2 (by omega)
                    rw [Nat.add_zero] at c0
                    have hcl : cellL (t x) = [.int .i64 1, .int .i64 (t x).k, .int .i64 (t x).v] := by unfold cellL; rw [hO.1]; rfl
                    rw [hcl] at c0
                    have hjm : ¬ ((m : Int) < (j : Int)) := by omega
                    have hjm2 : ¬ (m < j) := by omega
                    clear hx hcl hO a1
                    go_wp2_with fail
                    exact ⟨⟨j + 1, by omega, by push_cast; rfl, by rw [hss]⟩, by simp [intOf]; omega⟩
                  · obtain rfl : j = D := by omega
                    rw [HDk.out]
                    obtain ⟨g1, g2⟩ := getV_found Hf.out.1 Hf.out.2
                    have Hs := hide (show (fnd t m (t k).k).2 = (j : Int) + 1 by rw [Hf.out.1, HD.out])
                    have G1 := hide g1
                    have G2 := hide g2
                    clear g1 g2
                    go_wp2_with fail
                    refine (Get_any b c m t (t k).k _ hTr.p m1 m2 hwk).mono ?_
                    rintro e w4 ⟨rfl, hb4⟩
                    rw [G1.out, G2.out, Hs.out]
                    have l4 := hl.below hb4
                    have f2 := l4.at_ k 2 hlt (by omega)
                    rw [← hl.at_ k 2 hlt (by omega), e2] at f2
                    clear l4
                    go_wp2_with fail
                    exact ⟨⟨k + 1, by omega, by push_cast; rfl, hr.trans (hb4.mono hr.size)⟩, by simp [intOf]; omega⟩
            · obtain rfl : k = m := by omega
              go_wp2_with fail
              refine (sane_any _).mono ?_
              rintro e w7 ⟨rfl, hb7⟩
              go_wp2_with fail
              go_ret
              have hB6 := hB3.trans (hr.mono hB3.size)
              exact ⟨rfl, hB6.trans (hb7.mono hB6.size)⟩

theorem own : ownKnob Try.prog.godebug = none := by kernel_rfl
theorem laidOut : laidOutB Try.prog = true := by kernel_rfl

set_option maxRecDepth 100000 in
theorem lifted (os : Os) (started : os.Started) (H : Type) (enc : TypeId × Value → H) :
    ReturnsInHanded {} Try.checked os 6 .any (Rows.libFindsSpec.pre6 enc Try.prog Try.f6 Rows.libFindsRow.domain false) (Rows.libFindsSpec.post enc Try.prog Try.f6 false true false false) := by
  refine returnsInHanded_of_change (C := Try.checked) own started (by kernel_rfl) Try.func6
    (ChangeSpec.witness6 (enc := enc) (C := Try.checked) false ⟨#[], #[.int .i64 0, .slice none 0 0], []⟩ 8 (by kernel_rfl) (by kernel_rfl) (by kernel_rfl) (by kernel_rfl)) ?_
  intro W base args ds gs before hval0 hW hcnd _
  have hval : ∀ (j : Nat) t v, Try.f6.params[j]? = some t → args[j]? = some v → Value.okWide Try.prog W .any base t v := hval0
  have hW' := hW
  obtain ⟨p, q, hA0, hV, rfl, hfz, hnd⟩ := hW
  have hA : DataW.TrodAll enc Try.prog W 0 (fun _ => true) true Try.f6.params.toList args.toList ds p := hA0
  rw [Try.params6] at hA hval
  obtain ⟨v0, vs0, d0, ds0, p0, q0, hargs, rfl, rfl, h0, r0⟩ := trodAll_cons hA
  obtain ⟨v1, vs1, d1, ds1, p1, q1, rfl, rfl, rfl, h1, r1⟩ := trodAll_cons r0
  obtain ⟨rfl, rfl, rfl⟩ := trodAll_nil r1
  obtain rfl : args = #[v0, v1] := by cases args; simp_all
  obtain ⟨rfl, rfl⟩ := trodVars_none hV
  obtain ⟨a0, rfl, rfl, rfl, w0⟩ := open_int Try.underlying3 (hval 0 3 v0 rfl rfl) h0
  have k1 := h1
  have lt1 : ∀ x ∈ p1, x.block < W.heap.size := by obtain ⟨m, hm⟩ := k1; exact DataW.trod_lt m _ _ _ hm
  obtain ⟨b1, n1, cap1, rfl⟩ := okWide_slice Try.underlying22 (hval 1 22 v1 rfl rfl)
  obtain ⟨f1, hrow1⟩ := rows5 h1 lt1
  clear hA0 hval0
  refine (walk a0 b1 n1 cap1 f1 W w0 hrow1).mono fun e W' ⟨he, bel⟩ => ?_
  subst he
  exact ⟨_, rfl, _, _, _, [], _, [], hW', trodAll_mk1 (shut_bool Try.underlying4 _), (trodAll_cons_mk (shut_int Try.underlying3 w0) (trodAll_cons_mk (Below.trod laidOut (by kernel_rfl) (of_decide_eq_true (by kernel_rfl)) k1 bel lt1) trodAll_mk0)), rfl, bel.frame _, fun h => by cases h⟩

theorem over : Rows.libFindsRow.holds Try.pinned (OpenSpec.ofChange Rows.libFindsSpec) :=
  OpenClaim.holds_of_wide 6 Try.f6 rfl rfl rfl rfl rfl rfl rfl ⟨rfl, rfl, rfl, rfl, rfl⟩ rfl rfl rfl rfl rfl (by kernel_rfl) Try.func6 (by kernel_rfl)
    (of_decide_eq_true (by kernel_rfl)) (by unfold Func.isWrapper; first | (rw [if_pos (by decide +kernel)]; kernel_rfl) | (rw [if_neg (by decide +kernel)]; exact ⟨rfl, rfl⟩))
    (fun os started H enc _ => lifted os started H enc)

/-- the statement -/
theorem proved : Rows.LibFindsSaid := over
end Go.Proofs.Ytgdfbpphfanocaa.libFinds
