/- The program's table: Delete. -/
import Derived.Test.YtgdfbpphfanocaaCZ
import Derived.Test.YtgdfbpphfanocaaDP
import Derived.RegionTactic
import Derived.ChangeAlike
set_option linter.unusedVariables false
set_option linter.unusedSimpArgs false
namespace Go.Proofs.Ytgdfbpphfanocaa
open Go.RowKit Go.Sort
namespace Lc

/-- the keys are words -/
def Wd (t : Nat → Cl) (n : Nat) : Prop := ∀ i, i < n → -2147483648 ≤ (t i).k ∧ (t i).k ≤ 2147483647
theorem Wd.upd {t : Nat → Cl} {n : Nat} (h : Wd t n) (i : Nat) (x : Cl) (hx : -2147483648 ≤ x.k ∧ x.k ≤ 2147483647) : Wd (upd t i x) n := fun j hj => by
  by_cases c : j = i
  · subst c; rw [upd_at]; exact hx
  · rw [upd_ne _ _ c]; exact h j hj
def mv (t : Nat → Cl) (n g a : Nat) : Bool := ((((t a).k % (n : Int) - (g : Int)) % (n : Int)) == 0) || decide (((a : Int) - (g : Int)) % (n : Int) < ((t a).k % (n : Int) - (g : Int)) % (n : Int))
/-- the gap goes on: what is left of the rounds, the next one, the gap; in the end the cells, and how many were looked at -/
def dl (n b : Nat) : Nat → Nat → Nat → (Nat → Cl) → (Nat → Cl) × Nat
  | 0, k, _, t => (t, k - 1)
  | f + 1, k, g, t =>
    if (t ((b + k) % n)).u then (if mv t n g ((b + k) % n) then dl n b f (k + 1) ((b + k) % n) (upd (upd t g (t ((b + k) % n))) ((b + k) % n) zc) else dl n b f (k + 1) g t)
    else (t, k)
def fgap (t : Nat → Cl) (n : Nat) (key : Int) : Nat := (fnd t n key).1.toNat
def dres (t : Nat → Cl) (n : Nat) (key : Int) : (Nat → Cl) × Nat := dl n (fgap t n key) (n - 1) 1 (fgap t n key) (upd t (fgap t n key) zc)
def del (t : Nat → Cl) (n : Nat) (key : Int) : Nat → Cl := if isF t n key then (dres t n key).1 else t
def delS (t : Nat → Cl) (n : Nat) (key : Int) : Int := if isF t n key then (fnd t n key).2 + ((dres t n key).2 : Int) else (fnd t n key).2
theorem dl_end {n b f k g : Nat} {t : Nat → Cl} {D : (Nat → Cl) × Nat} (h : dl n b f k g t = D) (hf : f = 0) : D = (t, k - 1) := by subst hf; exact h.symm
theorem dl_emp {n b f k g a : Nat} {t : Nat → Cl} {D : (Nat → Cl) × Nat} (h : dl n b f k g t = D) (hf : 0 < f) (ha : a = (b + k) % n) (hu : (t a).u = false) : D = (t, k) := by
  obtain ⟨f, rfl⟩ : ∃ f', f = f' + 1 := ⟨f - 1, by omega⟩
  rw [← h, dl, ← ha, hu]; rfl
theorem dl_stay {n b f f' k g a : Nat} {t : Nat → Cl} {D : (Nat → Cl) × Nat} (h : dl n b f k g t = D) (hf : f = f' + 1) (ha : a = (b + k) % n) (hu : (t a).u = true) (hm : mv t n g a = false) : dl n b f' (k + 1) g t = D := by
  subst hf
  rw [← h, dl, ← ha, hu, hm]; rfl
theorem dl_move {n b f f' k g a : Nat} {t : Nat → Cl} {D : (Nat → Cl) × Nat} (h : dl n b f k g t = D) (hf : f = f' + 1) (ha : a = (b + k) % n) (hu : (t a).u = true) (hm : mv t n g a = true) : dl n b f' (k + 1) a (upd (upd t g (t a)) a zc) = D := by
  subst hf
  rw [← h, dl, ← ha, hu, hm]; rfl
theorem dl_steps (n b : Nat) : ∀ (f k g : Nat) (t : Nat → Cl), 1 ≤ k → k - 1 ≤ (dl n b f k g t).2 ∧ (dl n b f k g t).2 ≤ k - 1 + f
  | 0, k, g, t, _ => ⟨Nat.le_refl _, Nat.le_refl _⟩
  | f + 1, k, g, t, hk => by
    unfold dl
    split
    · split
      · have := dl_steps n b f (k + 1) ((b + k) % n) (upd (upd t g (t ((b + k) % n))) ((b + k) % n) zc) (by omega); omega
      · have := dl_steps n b f (k + 1) g t (by omega); omega
    · simp only []; omega
theorem Tab.move {w : World} {b c n : Nat} {t : Nat → Cl} (h : Tab w b c n t) (g a : Nat) (hg : g < n) (ha : a < n) :
    Tab ((((((w.setCell ⟨c, g * 3, none⟩ (.bool (t a).u)).setCell ⟨c, g * 3 + 1, none⟩ (.int .i64 (t a).k)).setCell ⟨c, g * 3 + 2, none⟩ (.int .i64 (t a).v)).setCell ⟨c, a * 3, none⟩ (.bool false)).setCell ⟨c, a * 3 + 1, none⟩ (.int .i64 0)).setCell ⟨c, a * 3 + 2, none⟩ (.int .i64 0)) b c n (upd (upd t g (t a)) a zc) ∧
    Chg c w ((((((w.setCell ⟨c, g * 3, none⟩ (.bool (t a).u)).setCell ⟨c, g * 3 + 1, none⟩ (.int .i64 (t a).k)).setCell ⟨c, g * 3 + 2, none⟩ (.int .i64 (t a).v)).setCell ⟨c, a * 3, none⟩ (.bool false)).setCell ⟨c, a * 3 + 1, none⟩ (.int .i64 0)).setCell ⟨c, a * 3 + 2, none⟩ (.int .i64 0)) := by
  have h1 := h.set g hg (t a)
  have h2 := h1.1.set a ha zc
  exact ⟨h2.1, h1.2.trans h2.2⟩
theorem mod_ne {i m k n : Nat} (hi : i < n) (hm : m < k) (hk : k < n) : ¬ ((i + m) % n = (i + k) % n) := by
  have e : ∀ j, j < n → (i + j) % n = if i + j < n then i + j else i + j - n := fun j hj => by
    split
    · rename_i h; exact Nat.mod_eq_of_lt h
    · rename_i h; rw [Nat.mod_eq_sub_mod (by omega), Nat.mod_eq_of_lt (by omega)]
  rw [e m (by omega), e k hk]
  split <;> split <;> omega
theorem at_world {P : Program} {c : Code} {Q : Exit → Act → World → Prop} {a : Act} {X : World} (F : World → Prop) (hF : F X) (h : ∀ W, F W → c.wp P Q a W) : c.wp P Q a X := h X hF
theorem Tab.drew {w : World} {b c n : Nat} {t : Nat → Cl} (h : Tab w b c n t) : Tab w.drew b c n t := h.below ((Below.refl _ _).drew)
set_option maxHeartbeats 8000000 in
theorem Delete_any (b c n : Nat) (t : Nat → Cl) (key : Int) (w : World) (h : Tab w b c n t) (hn : 1 ≤ n) (hn2 : n ≤ 32) (hk : -2147483648 ≤ key ∧ key ≤ 2147483647) (hw : Wd t n) :
    Calls Try.prog 14 #[.pointer (some ⟨b, 0, none⟩), .int .i64 key] w fun e w' => e = .returned (.tuple #[.int .i64 (delS t n key), .int .i64 (getE t n key)]) ∧ Tab w' b c n (del t n key) ∧ Chg c w w' := by
  have HK := hide (show (decide (-2147483648 ≤ key) && decide (key ≤ 2147483647)) = true by simp [hk])
  obtain ⟨b1, b2, b3, b4⟩ := fnd_bd t n key hn
  have HW := hide hw
  clear hw
  go_enter Try.func14, Try.ntmps14
  go_wp2_with fail
  refine (none_any b c n t _ h hn hn2).mono ?_
  rintro e ws ⟨rfl, rfl⟩
  go_wp2_with fail
  refine (isWord_any key _).mono ?_
  rintro e ws ⟨rfl, rfl⟩
  rw [HK.out]
  have hs0 := h.s
  go_wp2_with fail
  refine (find_any b c n t key _ h hn hn2 hk).mono ?_
  rintro e w1 ⟨rfl, hb⟩
  have h1 := h.below hb
  have hc1 := Chg.of_below (c := c) hb
  clear hs0
  by_cases hneg : (fnd t n key).1 < 0
  · have HF : isF t n key = false := by unfold isF; rw [decide_eq_false (by omega)]; rfl
    have HS := hide (show delS t n key = (fnd t n key).2 by unfold delS; rw [HF]; rfl)
    have HD := hide (show del t n key = t by unfold del; rw [HF]; rfl)
    have HE := hide (show getE t n key = 3 by unfold getE; rw [HF]; rfl)
    clear HF
    go_wp2_with fail
    go_ret2
    exact ⟨ret2_i (by rw [HS.out]) (by rw [HE.out]), by rw [HD.out]; exact h1, hc1⟩
  · obtain ⟨i, hi⟩ : ∃ i : Nat, (fnd t n key).1 = (i : Int) := ⟨(fnd t n key).1.toNat, by omega⟩
    have hin : i < n := by omega
    have hs := h1.s
    have u0 := h1.u i hin
    have u1 := h1.k i hin
    have u2 := h1.v i hin
    have hin2 : (i : Int) < (n : Int) := by omega
    have hfg : fgap t n key = i := by unfold fgap; rw [hi, Int.toNat_natCast]
    cases hu : (t i).u
    case false =>
      have HF : isF t n key = false := by unfold isF; rw [hi, Int.toNat_natCast, hu]; simp
      have HS := hide (show delS t n key = (fnd t n key).2 by unfold delS; rw [HF]; rfl)
      have HD := hide (show del t n key = t by unfold del; rw [HF]; rfl)
      have HE := hide (show getE t n key = 3 by unfold getE; rw [HF]; rfl)
      rw [hu] at u0
      rw [hi] at hneg ⊢
      clear HF hu hfg
      go_wp2_with fail
      go_ret2
      exact ⟨ret2_i (by rw [HS.out]) (by rw [HE.out]), by rw [HD.out]; exact h1, hc1⟩
    case true =>
      have HF : isF t n key = true := by unfold isF; rw [hi, Int.toNat_natCast, hu]; simp
      obtain ⟨D, hD⟩ : ∃ D, dres t n key = D := ⟨_, rfl⟩
      have HS := hide (show delS t n key = (fnd t n key).2 + (D.2 : Int) by unfold delS; rw [HF, hD]; rfl)
      have HD := hide (show del t n key = D.1 by unfold del; rw [HF, hD]; rfl)
      have HE := hide (show getE t n key = 0 by unfold getE; rw [HF]; rfl)
      have hT := h1.set i hin zc
      have hd0 := hide (show dl n i (n - 1) 1 i (upd t i zc) = D by rw [← hD]; unfold dres; rw [hfg])
      have HW2 := hide (HW.out.upd i zc (by show -2147483648 ≤ (0 : Int) ∧ (0 : Int) ≤ 2147483647; omega))
      have g0 := h1.f0 i hin
      have g1 := h1.f1 i hin
      have g2 := h1.f2 i hin
      rw [hu] at u0
      rw [hi] at hneg ⊢
      clear HF hu hfg hD HW
      obtain ⟨s, hsq⟩ : ∃ s, s = (fnd t n key).2 := ⟨_, rfl⟩
      have HS2 := hide (show delS t n key = s + (D.2 : Int) by rw [hsq]; exact HS.out)
      rw [← hsq] at b3 b4 ⊢
      clear HS hsq
      go_wp2_with fail
      go_loopw [4, 7, 8] (fun x y z wr => ∃ (k g : Nat) (t' : Nat → Cl), x = .int .i64 (s + (k : Int) - 1) ∧ y = .int .i64 (g : Int) ∧ z = .int .i64 (k : Int) ∧ 1 ≤ k ∧ k ≤ n ∧ g < n ∧ Hid (∃ m, m < k ∧ g = (i + m) % n) ∧ Hid (Wd t' n) ∧ Tab wr b c n t' ∧ Chg c w wr ∧ Hid (dl n i (n - k) k g t' = D)) (fun _ _ z _ => ((n : Int) - intOf z).toNat)
      case atStart => exact ⟨1, i, upd t i zc, by congr 1; omega, rfl, rfl, by omega, hn, hin, hide ⟨0, by omega, by rw [Nat.add_zero, Nat.mod_eq_of_lt hin]⟩, HW2, hT.1, hc1.trans hT.2, hd0⟩
      case round =>
        clear hT hd0 HW2 g0 g1 g2 u0 u1 u2 hs h1 hc1 hb hneg
        obtain ⟨k, g, t', rfl, rfl, rfl, hk1, hk2, hgn, hgm, hW, hTab, hChg, hdl⟩ := hrel
        have hs := hTab.s
        by_cases hlt : k < n
        · have hkn : (k : Int) < (n : Int) := by omega
          have hgi : (g : Int) < (n : Int) := by omega
          have n0 : ((n : Int) == 0) = false := by simp; omega
          have n1 : ¬ ((n : Int) = 0) := by omega
          obtain ⟨a, haq⟩ : ∃ a, a = (i + k) % n := ⟨_, rfl⟩
          have hal : a < n := by rw [haq]; exact Nat.mod_lt _ (by omega)
          have ha : ((i : Int) + (k : Int)) % (n : Int) = (a : Int) := by rw [haq]; push_cast; rfl
          have hai : (a : Int) < (n : Int) := by omega
          have hga : ¬ (g = a) := by obtain ⟨m, m1, m2⟩ := hgm.out; rw [m2, haq]; exact mod_ne hin m1 hlt
          have Ha := hide haq
          clear haq
          have u0 := hTab.u a hal
          have u1 := hTab.k a hal
          have u2 := hTab.v a hal
          cases hu : (t' a).u
          case false =>
            have HD2 := hide (dl_emp hdl.out (by omega) Ha.out hu)
            rw [hu] at u0
            clear hu
            go_wp2_with fail
            go_ret2
            exact ⟨ret2_i (by rw [HS2.out, HD2.out]) (by rw [HE.out]), by rw [HD.out, HD2.out]; exact hTab.below (by go_grown), hChg.trans (Chg.of_below (by go_grown))⟩
          case true =>
            have hwa := hW.out a hal
            have hm0 := Int.emod_nonneg (t' a).k (b := (n : Int)) (by omega)
            have hm1 := Int.emod_lt_of_pos (t' a).k (b := (n : Int)) (by omega)
            obtain ⟨hh, hhq⟩ : ∃ hh : Nat, (t' a).k % (n : Int) = (hh : Int) := ⟨((t' a).k % (n : Int)).toNat, by omega⟩
            have Hh := hide hhq
            have hhn : (hh : Int) < (n : Int) := by omega
            clear hhq hm0 hm1
            have B0 := Int.emod_nonneg ((hh : Int) - (g : Int)) (b := (n : Int)) (by omega)
            have C0 := Int.emod_nonneg ((a : Int) - (g : Int)) (b := (n : Int)) (by omega)
            have B1 := Int.emod_lt_of_pos ((hh : Int) - (g : Int)) (b := (n : Int)) (by omega)
            have C1 := Int.emod_lt_of_pos ((a : Int) - (g : Int)) (b := (n : Int)) (by omega)
            have hmv : mv t' n g a = (((((hh : Int) - (g : Int)) % (n : Int)) == 0) || decide (((a : Int) - (g : Int)) % (n : Int) < ((hh : Int) - (g : Int)) % (n : Int))) := by unfold mv; rw [Hh.out]
            have Hmv := hide hmv
            have Hu := hide hu
            clear hmv
            rw [hu] at u0
            clear hu
            go_wp2_with fail
            refine (home_any b c n t' (t' a).k _ (hTab.below (by go_grown)) hn hn2 hwa).mono ?_
            rintro e ws ⟨rfl, rfl⟩
            rw [Hh.out]
            cases e1 : ((((hh : Int) - (g : Int)) % (n : Int)) == 0)
            case true =>
              have HD2 := hide (dl_move hdl.out (show n - k = (n - k - 1) + 1 by omega) Ha.out Hu.out (by rw [Hmv.out, e1]; rfl))
              set_option maxRecDepth 20000 in go_wp2_with fail
              refine at_world (fun X => Tab X b c n t' ∧ Chg c w X ∧ X.cell? ⟨wr.heap.size, 0, none⟩ = some (.bool true) ∧ X.cell? ⟨wr.heap.size, 1, none⟩ = some (.int .i64 (t' a).k) ∧ X.cell? ⟨wr.heap.size, 2, none⟩ = some (.int .i64 (t' a).v) ∧ wr.heap.size < X.heap.size) ⟨hTab.below (by go_grown), hChg.trans (Chg.of_below (by go_grown)), by simp, by simp, by simp, by simp⟩ (fun wX hX => ?_)
              obtain ⟨x1, x2, x3, x4, x5, x6⟩ := hX
              have y1 := x1.drew
              have y2 := x2.trans (Chg.of_below ((Below.refl _ _).drew))
              have y3 : wX.drew.cell? ⟨wr.heap.size, 0, none⟩ = some (.bool true) := by simpa using x3
              have y4 : wX.drew.cell? ⟨wr.heap.size, 1, none⟩ = some (.int .i64 (t' a).k) := by simpa using x4
              have y5 : wX.drew.cell? ⟨wr.heap.size, 2, none⟩ = some (.int .i64 (t' a).v) := by simpa using x5
              have hcw : c ≠ wr.heap.size := Nat.ne_of_lt hTab.cz
              have hgo := hTab.cz
              clear u0 u1 u2 hs hTab hChg
              have x0 := x1.s
              have z0 := y1.s
              have pu0 := x1.u g hgn
              have pu1 := x1.u a hal
              have pk0 := x1.k g hgn
              have pk1 := x1.k a hal
              have pv0 := x1.v g hgn
              have pv1 := x1.v a hal
              have pf0 := x1.f0 g hgn
              have pf1 := x1.f0 a hal
              have pg0 := x1.f1 g hgn
              have pg1 := x1.f1 a hal
              have ph0 := x1.f2 g hgn
              have ph1 := x1.f2 a hal
              have qu0 := y1.u g hgn
              have qu1 := y1.u a hal
              have qk0 := y1.k g hgn
              have qk1 := y1.k a hal
              have qv0 := y1.v g hgn
              have qv1 := y1.v a hal
              have qf0 := y1.f0 g hgn
              have qf1 := y1.f0 a hal
              have qg0 := y1.f1 g hgn
              have qg1 := y1.f1 a hal
              have qh0 := y1.f2 g hgn
              have qh1 := y1.f2 a hal
              have ne01 : ¬ (g * 3 = a * 3 + 1) := by omega
              have ne02 : ¬ (g * 3 = a * 3 + 2) := by omega
              have ne10 : ¬ (g * 3 + 1 = a * 3) := by omega
              have ne12 : ¬ (g * 3 + 1 = a * 3 + 2) := by omega
              have ne20 : ¬ (g * 3 + 2 = a * 3) := by omega
              have ne21 : ¬ (g * 3 + 2 = a * 3 + 1) := by omega
              have Hmo := hide (by have q := x1.move g a hgn hal; rw [Hu.out] at q; exact q)
              have Hch := hide x2
              have hWa := hide ((hW.out.upd g (t' a) hwa).upd a zc (by show -2147483648 ≤ (0 : Int) ∧ (0 : Int) ≤ 2147483647; omega))
              clear x2 y2
              set_option maxRecDepth 20000 in go_region
              clear pu0 pu1 pk0 pk1 pv0 pv1 pf0 pf1 pg0 pg1 ph0 ph1 qu0 qu1 qk0 qk1 qv0 qv1 qf0 qf1 qg0 qg1 qh0 qh1 ne01 ne02 ne10 ne12 ne20 ne21 x0 z0 x1 y1 x3 x4 x5 y3 y4 y5
              set_option maxRecDepth 20000 in go_wp2_with fail
              exact ⟨⟨k + 1, a, upd (upd t' g (t' a)) a zc, by congr 1; omega, rfl, by push_cast; rfl, by omega, by omega, hal, hide ⟨k, by omega, Ha.out⟩, hWa, Hmo.out.1.drew, Hch.out.trans (Hmo.out.2.trans (Chg.of_below ((Below.refl _ _).drew))), HD2⟩, by simp [intOf]; omega⟩
            case false =>
              cases e2 : decide (((a : Int) - (g : Int)) % (n : Int) < ((hh : Int) - (g : Int)) % (n : Int))
              case true =>
                have HD2 := hide (dl_move hdl.out (show n - k = (n - k - 1) + 1 by omega) Ha.out Hu.out (by rw [Hmv.out, e1, e2]; rfl))
                set_option maxRecDepth 20000 in go_wp2_with fail
                refine at_world (fun X => Tab X b c n t' ∧ Chg c w X ∧ X.cell? ⟨wr.heap.size, 0, none⟩ = some (.bool true) ∧ X.cell? ⟨wr.heap.size, 1, none⟩ = some (.int .i64 (t' a).k) ∧ X.cell? ⟨wr.heap.size, 2, none⟩ = some (.int .i64 (t' a).v) ∧ wr.heap.size < X.heap.size) ⟨hTab.below (by go_grown), hChg.trans (Chg.of_below (by go_grown)), by simp, by simp, by simp, by simp⟩ (fun wX hX => ?_)
                obtain ⟨x1, x2, x3, x4, x5, x6⟩ := hX
                have y1 := x1.drew
                have y2 := x2.trans (Chg.of_below ((Below.refl _ _).drew))
                have y3 : wX.drew.cell? ⟨wr.heap.size, 0, none⟩ = some (.bool true) := by simpa using x3
                have y4 : wX.drew.cell? ⟨wr.heap.size, 1, none⟩ = some (.int .i64 (t' a).k) := by simpa using x4
                have y5 : wX.drew.cell? ⟨wr.heap.size, 2, none⟩ = some (.int .i64 (t' a).v) := by simpa using x5
                have hcw : c ≠ wr.heap.size := Nat.ne_of_lt hTab.cz
                have hgo := hTab.cz
                clear u0 u1 u2 hs hTab hChg
                have x0 := x1.s
                have z0 := y1.s
                have pu0 := x1.u g hgn
                have pu1 := x1.u a hal
                have pk0 := x1.k g hgn
                have pk1 := x1.k a hal
                have pv0 := x1.v g hgn
                have pv1 := x1.v a hal
                have pf0 := x1.f0 g hgn
                have pf1 := x1.f0 a hal
                have pg0 := x1.f1 g hgn
                have pg1 := x1.f1 a hal
                have ph0 := x1.f2 g hgn
                have ph1 := x1.f2 a hal
                have qu0 := y1.u g hgn
                have qu1 := y1.u a hal
                have qk0 := y1.k g hgn
                have qk1 := y1.k a hal
                have qv0 := y1.v g hgn
                have qv1 := y1.v a hal
                have qf0 := y1.f0 g hgn
                have qf1 := y1.f0 a hal
                have qg0 := y1.f1 g hgn
                have qg1 := y1.f1 a hal
                have qh0 := y1.f2 g hgn
                have qh1 := y1.f2 a hal
                have ne01 : ¬ (g * 3 = a * 3 + 1) := by omega
                have ne02 : ¬ (g * 3 = a * 3 + 2) := by omega
                have ne10 : ¬ (g * 3 + 1 = a * 3) := by omega
                have ne12 : ¬ (g * 3 + 1 = a * 3 + 2) := by omega
                have ne20 : ¬ (g * 3 + 2 = a * 3) := by omega
                have ne21 : ¬ (g * 3 + 2 = a * 3 + 1) := by omega
                have Hmo := hide (by have q := x1.move g a hgn hal; rw [Hu.out] at q; exact q)
                have Hch := hide x2
                have hWa := hide ((hW.out.upd g (t' a) hwa).upd a zc (by show -2147483648 ≤ (0 : Int) ∧ (0 : Int) ≤ 2147483647; omega))
                clear x2 y2
                set_option maxRecDepth 20000 in go_region
                clear pu0 pu1 pk0 pk1 pv0 pv1 pf0 pf1 pg0 pg1 ph0 ph1 qu0 qu1 qk0 qk1 qv0 qv1 qf0 qf1 qg0 qg1 qh0 qh1 ne01 ne02 ne10 ne12 ne20 ne21 x0 z0 x1 y1 x3 x4 x5 y3 y4 y5
                set_option maxRecDepth 20000 in go_wp2_with fail
                exact ⟨⟨k + 1, a, upd (upd t' g (t' a)) a zc, by congr 1; omega, rfl, by push_cast; rfl, by omega, by omega, hal, hide ⟨k, by omega, Ha.out⟩, hWa, Hmo.out.1.drew, Hch.out.trans (Hmo.out.2.trans (Chg.of_below ((Below.refl _ _).drew))), HD2⟩, by simp [intOf]; omega⟩
              case false =>
                have HD2 := hide (dl_stay hdl.out (show n - k = (n - k - 1) + 1 by omega) Ha.out Hu.out (by rw [Hmv.out, e1, e2]; rfl))
                set_option maxRecDepth 20000 in go_wp2_with fail
                exact ⟨⟨k + 1, g, t', by congr 1; omega, rfl, by push_cast; rfl, by omega, by omega, hgn, hide (by obtain ⟨m, m1, m2⟩ := hgm.out; exact ⟨m, by omega, m2⟩), hW, hTab.below (by go_grown), hChg.trans (Chg.of_below (by go_grown)), HD2⟩, by simp [intOf]; omega⟩
        · obtain rfl : k = n := by omega
          have HD2 := hide (dl_end hdl.out (by omega))
          go_wp2_with fail
          go_ret2
          exact ⟨ret2_i (by rw [HS2.out, HD2.out]; simp only []; omega) (by rw [HE.out]), by rw [HD.out, HD2.out]; exact hTab, hChg⟩
end Lc
end Go.Proofs.Ytgdfbpphfanocaa
