/- The reference's table: Delete. -/
import Derived.Test.YtgdfbpphfanocaaDB
import Derived.Test.YtgdfbpphfanocaaDA
import Derived.RegionTactic
import Derived.ChangeAlike
set_option linter.unusedVariables false
set_option linter.unusedSimpArgs false
namespace Go.Proofs.Ytgdfbpphfanocaa
open Go.RowKit Go.Sort
namespace Lc

theorem next_mod {i k n : Nat} (hn : 1 ≤ n) (hk : 1 ≤ k) : ((i + (k - 1)) % n + 1) % n = (i + k) % n := by
  rw [Nat.mod_add_mod, show i + (k - 1) + 1 = i + k by omega]
set_option maxHeartbeats 8000000 in
theorem rDelete_any (b c n : Nat) (t : Nat → Cl) (key : Int) (w : World) (h : Tab w b c n t) (hn : 1 ≤ n) (hn2 : n ≤ 32) (hk : -2147483648 ≤ key ∧ key ≤ 2147483647) (hw : Wd t n) :
    Calls Try.prog 58 #[.pointer (some ⟨b, 0, none⟩), .int .i64 key] w fun e w' => e = .returned (.tuple #[.int .i64 (delS t n key), .int .i64 (getE t n key)]) ∧ Tab w' b c n (del t n key) ∧ Chg c w w' := by
  have HK := hide (show wd key = true by simp [wd, hk])
  obtain ⟨b1, b2, b3, b4⟩ := fnd_bd t n key hn
  have HW := hide hw
  clear hw
  go_enter Try.func58, Try.ntmps58
  go_wp2_with fail
  refine (rthere_any b c n t _ h hn hn2).mono ?_
  rintro e ws ⟨rfl, rfl⟩
  go_wp2_with fail
  refine (rword_any key _).mono ?_
  rintro e ws ⟨rfl, rfl⟩
  rw [HK.out]
  go_wp2_with fail
  refine (rlook_any b c n t key _ h hn hn2 hk).mono ?_
  rintro e w1 ⟨rfl, hb⟩
  have h1 := h.below hb
  have hc1 := Chg.of_below (c := c) hb
  cases HF : isF t n key
  case false =>
    have HS := hide (show delS t n key = (fnd t n key).2 by unfold delS; rw [HF]; rfl)
    have HD := hide (show del t n key = t by unfold del; rw [HF]; rfl)
    have HE := hide (show getE t n key = 3 by unfold getE; rw [HF]; rfl)
    clear HF
    go_wp2_with fail
    go_ret2
    exact ⟨ret2_i (by rw [HS.out]) (by rw [HE.out]), by rw [HD.out]; exact h1, hc1⟩
  case true =>
    have hpos : 0 ≤ (fnd t n key).1 := by unfold isF at HF; simp at HF; exact HF.1
    obtain ⟨i, hi⟩ : ∃ i : Nat, (fnd t n key).1 = (i : Int) := ⟨(fnd t n key).1.toNat, by omega⟩
    have hin : i < n := by omega
    have hs := h1.s
    have u0 := h1.u i hin
    have u1 := h1.k i hin
    have u2 := h1.v i hin
    have hin2 : (i : Int) < (n : Int) := by omega
    have hfg : fgap t n key = i := by unfold fgap; rw [hi, Int.toNat_natCast]
    obtain ⟨D, hD⟩ : ∃ D, dres t n key = D := ⟨_, rfl⟩
    have HS := hide (show delS t n key = (fnd t n key).2 + (D.2 : Int) by unfold delS; rw [HF, hD]; rfl)
    have HD := hide (show del t n key = D.1 by unfold del; rw [HF, hD]; rfl)
    have HE := hide (show getE t n key = 0 by unfold getE; rw [HF]; rfl)
    have hT := h1.set i hin zc
    have hd0 := hide (show dl n i (n - 1) 1 i (upd t i zc) = D by rw [← hD]; unfold dres; rw [hfg])
    have HW2 := hide (HW.out.upd i zc (by show -2147483648 ≤ (0 : Int) ∧ (0 : Int) ≤ 2147483647; omega))
    have g0 := h1.f0 i hin
    have g1 := h1.f1 i hin
    have g2 := h1.f2 i hin
    rw [hi]
    clear HF hfg hD HW hpos
    obtain ⟨s, hsq⟩ : ∃ s, s = (fnd t n key).2 := ⟨_, rfl⟩
    have HS2 := hide (show delS t n key = s + (D.2 : Int) by rw [hsq]; exact HS.out)
    rw [← hsq] at b3 b4 ⊢
    clear HS hsq
    go_wp2_with fail
    go_loopw [6, 8, 10, 11] (fun y x q z wr => ∃ (k zz g : Nat) (t' : Nat → Cl), x = .int .i64 (s + (k : Int) - 1) ∧ y = .int .i64 (g : Int) ∧ q = .int .i64 (zz : Int) ∧ z = .int .i64 (k : Int) ∧ 1 ≤ k ∧ k ≤ n ∧ g < n ∧ zz < n ∧ Hid (zz = (i + (k - 1)) % n) ∧ Hid (∃ m, m < k ∧ g = (i + m) % n) ∧ Hid (Wd t' n) ∧ Tab wr b c n t' ∧ Chg c w wr ∧ Hid (dl n i (n - k) k g t' = D)) (fun _ _ _ z _ => ((n : Int) - intOf z).toNat)
    case atStart => exact ⟨1, i, i, upd t i zc, by congr 1; omega, rfl, rfl, rfl, by omega, hn, hin, hin, hide (by rw [show i + (1 - 1) = i by omega, Nat.mod_eq_of_lt hin]), hide ⟨0, by omega, by rw [Nat.add_zero, Nat.mod_eq_of_lt hin]⟩, HW2, hT.1, hc1.trans hT.2, hd0⟩
    case round =>
      clear hT hd0 HW2 g0 g1 g2 u0 u1 u2 hs h1 hc1 hb
      obtain ⟨k, zz, g, t', rfl, rfl, rfl, rfl, hk1, hk2, hgn, hzn, Hz, hgm, hW, hTab, hChg, hdl⟩ := hrel
      have hs := hTab.s
      by_cases hlt : k < n
      · have hkn : (k : Int) < (n : Int) := by omega
        have hgi : (g : Int) < (n : Int) := by omega
        have n0 : ((n : Int) == 0) = false := by simp; omega
        have n1 : ¬ ((n : Int) = 0) := by omega
        obtain ⟨a, haq⟩ : ∃ a, a = (i + k) % n := ⟨_, rfl⟩
        have hal : a < n := by rw [haq]; exact Nat.mod_lt _ (by omega)
        have hza : (zz + 1) % n = a := by rw [haq, Hz.out, next_mod hn hk1]
        have ha : ((zz : Int) + 1) % (n : Int) = (a : Int) := by rw [← hza]; push_cast; rfl
        have hai : (a : Int) < (n : Int) := by omega
        have hga : ¬ (g = a) := by obtain ⟨m, m1, m2⟩ := hgm.out; rw [m2, haq]; exact mod_ne hin m1 hlt
        have Ha := hide haq
        clear haq hza
        have u0 := hTab.u a hal
        have u1 := hTab.k a hal
        have u2 := hTab.v a hal
        cases hu : (t' a).u
        case false =>
          have HD2 := hide (dl_emp hdl.out (by omega) Ha.out hu)
          rw [hu] at u0
          clear hu
          go_wp2_with fail
          go_ret2
          exact ⟨ret2_i (by rw [HS2.out, HD2.out]) (by rw [HE.out]), by rw [HD.out, HD2.out]; exact hTab, hChg⟩
        case true =>
          have hwa := hW.out a hal
          have hm0 := Int.emod_nonneg (t' a).k (b := (n : Int)) (by omega)
          have hm1 := Int.emod_lt_of_pos (t' a).k (b := (n : Int)) (by omega)
          obtain ⟨hh, hhq⟩ : ∃ hh : Nat, (t' a).k % (n : Int) = (hh : Int) := ⟨((t' a).k % (n : Int)).toNat, by omega⟩
          have Hh := hide hhq
          have hhn : (hh : Int) < (n : Int) := by omega
          clear hhq hm0 hm1
          have B0 := Int.emod_nonneg ((hh : Int) - (g : Int)) (b := (n : Int)) (by omega)
          have C0 := Int.emod_nonneg ((a : Int) - (g : Int)) (b := (n : Int)) (by omega)
          have B1 := Int.emod_lt_of_pos ((hh : Int) - (g : Int)) (b := (n : Int)) (by omega)
          have C1 := Int.emod_lt_of_pos ((a : Int) - (g : Int)) (b := (n : Int)) (by omega)
          have hmv : mv t' n g a = (((((hh : Int) - (g : Int)) % (n : Int)) == 0) || decide (((a : Int) - (g : Int)) % (n : Int) < ((hh : Int) - (g : Int)) % (n : Int))) := by unfold mv; rw [Hh.out]
          have Hmv := hide hmv
          have Hu := hide hu
          clear hmv
          rw [hu] at u0
          clear hu
          go_wp2_with fail
          refine (rhome_any b c n t' (t' a).k _ hTab hn hn2 hwa).mono ?_
          rintro e ws ⟨rfl, rfl⟩
          rw [Hh.out]
          cases e1 : ((((hh : Int) - (g : Int)) % (n : Int)) == 0)
          case true =>
            have HD2 := hide (dl_move hdl.out (show n - k = (n - k - 1) + 1 by omega) Ha.out Hu.out (by rw [Hmv.out, e1]; rfl))
            set_option maxRecDepth 20000 in go_wp2_with fail
            have x1 := hTab
            have hbc1 : ¬ (b = c) := hTab.ne
            have hbc2 : ¬ (c = b) := fun e => hTab.ne e.symm
            have y1 := x1.drew
            clear u0 u1 u2 hs
            have x0 := x1.s
            have z0 := y1.s
            have pu0 := x1.u g hgn
            have pu1 := x1.u a hal
            have pk0 := x1.k g hgn
            have pk1 := x1.k a hal
            have pv0 := x1.v g hgn
            have pv1 := x1.v a hal
            have pf0 := x1.f0 g hgn
            have pf1 := x1.f0 a hal
            have pg0 := x1.f1 g hgn
            have pg1 := x1.f1 a hal
            have ph0 := x1.f2 g hgn
            have ph1 := x1.f2 a hal
            have qu0 := y1.u g hgn
            have qu1 := y1.u a hal
            have qk0 := y1.k g hgn
            have qk1 := y1.k a hal
            have qv0 := y1.v g hgn
            have qv1 := y1.v a hal
            have qf0 := y1.f0 g hgn
            have qf1 := y1.f0 a hal
            have qg0 := y1.f1 g hgn
            have qg1 := y1.f1 a hal
            have qh0 := y1.f2 g hgn
            have qh1 := y1.f2 a hal
            have ne01 : ¬ (g * 3 = a * 3 + 1) := by omega
            have ne02 : ¬ (g * 3 = a * 3 + 2) := by omega
            have ne10 : ¬ (g * 3 + 1 = a * 3) := by omega
            have ne12 : ¬ (g * 3 + 1 = a * 3 + 2) := by omega
            have ne20 : ¬ (g * 3 + 2 = a * 3) := by omega
            have ne21 : ¬ (g * 3 + 2 = a * 3 + 1) := by omega
            rw [Hu.out] at pu1 qu1
            have Hmo := hide (by have q := x1.move g a hgn hal; rw [Hu.out] at q; exact q)
            have Hch := hide hChg
            have hWa := hide ((hW.out.upd g (t' a) hwa).upd a zc (by show -2147483648 ≤ (0 : Int) ∧ (0 : Int) ≤ 2147483647; omega))
            clear hTab hChg
            set_option maxRecDepth 20000 in go_region
            set_option maxRecDepth 20000 in go_wp2_with fail
            exact ⟨⟨k + 1, a, a, upd (upd t' g (t' a)) a zc, by congr 1; omega, rfl, rfl, by push_cast; rfl, by omega, by omega, hal, hal, hide (by rw [show k + 1 - 1 = k by omega]; exact Ha.out), hide ⟨k, by omega, Ha.out⟩, hWa, Hmo.out.1.drew, Hch.out.trans (Hmo.out.2.trans (Chg.of_below ((Below.refl _ _).drew))), HD2⟩, by simp [intOf]; omega⟩
          case false =>
            cases e2 : decide (((a : Int) - (g : Int)) % (n : Int) < ((hh : Int) - (g : Int)) % (n : Int))
            case true =>
              have HD2 := hide (dl_move hdl.out (show n - k = (n - k - 1) + 1 by omega) Ha.out Hu.out (by rw [Hmv.out, e1, e2]; rfl))
              set_option maxRecDepth 20000 in go_wp2_with fail
              have x1 := hTab
              have hbc1 : ¬ (b = c) := hTab.ne
              have hbc2 : ¬ (c = b) := fun e => hTab.ne e.symm
              have y1 := x1.drew
              clear u0 u1 u2 hs
              have x0 := x1.s
              have z0 := y1.s
              have pu0 := x1.u g hgn
              have pu1 := x1.u a hal
              have pk0 := x1.k g hgn
              have pk1 := x1.k a hal
              have pv0 := x1.v g hgn
              have pv1 := x1.v a hal
              have pf0 := x1.f0 g hgn
              have pf1 := x1.f0 a hal
              have pg0 := x1.f1 g hgn
              have pg1 := x1.f1 a hal
              have ph0 := x1.f2 g hgn
              have ph1 := x1.f2 a hal
              have qu0 := y1.u g hgn
              have qu1 := y1.u a hal
              have qk0 := y1.k g hgn
              have qk1 := y1.k a hal
              have qv0 := y1.v g hgn
              have qv1 := y1.v a hal
              have qf0 := y1.f0 g hgn
              have qf1 := y1.f0 a hal
              have qg0 := y1.f1 g hgn
              have qg1 := y1.f1 a hal
              have qh0 := y1.f2 g hgn
              have qh1 := y1.f2 a hal
              have ne01 : ¬ (g * 3 = a * 3 + 1) := by omega
              have ne02 : ¬ (g * 3 = a * 3 + 2) := by omega
              have ne10 : ¬ (g * 3 + 1 = a * 3) := by omega
              have ne12 : ¬ (g * 3 + 1 = a * 3 + 2) := by omega
              have ne20 : ¬ (g * 3 + 2 = a * 3) := by omega
              have ne21 : ¬ (g * 3 + 2 = a * 3 + 1) := by omega
              rw [Hu.out] at pu1 qu1
              have Hmo := hide (by have q := x1.move g a hgn hal; rw [Hu.out] at q; exact q)
              have Hch := hide hChg
              have hWa := hide ((hW.out.upd g (t' a) hwa).upd a zc (by show -2147483648 ≤ (0 : Int) ∧ (0 : Int) ≤ 2147483647; omega))
              clear hTab hChg
              set_option maxRecDepth 20000 in go_region
              set_option maxRecDepth 20000 in go_wp2_with fail
              exact ⟨⟨k + 1, a, a, upd (upd t' g (t' a)) a zc, by congr 1; omega, rfl, rfl, by push_cast; rfl, by omega, by omega, hal, hal, hide (by rw [show k + 1 - 1 = k by omega]; exact Ha.out), hide ⟨k, by omega, Ha.out⟩, hWa, Hmo.out.1.drew, Hch.out.trans (Hmo.out.2.trans (Chg.of_below ((Below.refl _ _).drew))), HD2⟩, by simp [intOf]; omega⟩
            case false =>
              have HD2 := hide (dl_stay hdl.out (show n - k = (n - k - 1) + 1 by omega) Ha.out Hu.out (by rw [Hmv.out, e1, e2]; rfl))
              set_option maxRecDepth 20000 in go_wp2_with fail
              exact ⟨⟨k + 1, a, g, t', by congr 1; omega, rfl, rfl, by push_cast; rfl, by omega, by omega, hgn, hal, hide (by rw [show k + 1 - 1 = k by omega]; exact Ha.out), hide (by obtain ⟨m, m1, m2⟩ := hgm.out; exact ⟨m, by omega, m2⟩), hW, hTab, hChg, HD2⟩, by simp [intOf]; omega⟩
      · obtain rfl : k = n := by omega
        have HD2 := hide (dl_end hdl.out (by omega))
        go_wp2_with fail
        go_ret2
        exact ⟨ret2_i (by rw [HS2.out, HD2.out]; simp only []; omega) (by rw [HE.out]), by rw [HD.out, HD2.out]; exact hTab, hChg⟩
end Lc
end Go.Proofs.Ytgdfbpphfanocaa
