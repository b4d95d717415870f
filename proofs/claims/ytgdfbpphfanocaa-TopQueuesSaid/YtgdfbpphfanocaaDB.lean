/- The reference's table: home, look, Put, Get, NewTable, Len; what both refuse. -/
import Derived.Test.YtgdfbpphfanocaaDA
set_option linter.unusedVariables false
set_option linter.unusedSimpArgs false
namespace Go.Proofs.Ytgdfbpphfanocaa
open Go.RowKit Go.Sort
namespace Lc

def wd (n : Int) : Bool := decide (-2147483648 ≤ n) && decide (n ≤ 2147483647)
theorem wd_t {n : Int} (h : wd n = true) : -2147483648 ≤ n ∧ n ≤ 2147483647 := by unfold wd at h; simpa using h
theorem isWord_wd (n : Int) (w : World) : Calls Try.prog 51 #[.int .i64 n] w fun e w' => e = .returned (.bool (wd n)) ∧ w = w' := isWord_any n w
theorem rword_any (n : Int) (w : World) :
    Calls Try.prog 62 #[.int .i64 n] w fun e w' => e = .returned (.bool (wd n)) ∧ w = w' := by
  by_cases h1 : -2147483648 ≤ n
  · go_enter Try.func62, Try.ntmps62
    go_wp2_with fail
    go_ret
    exact ⟨by simp [wd, h1], rfl⟩
  · go_enter Try.func62, Try.ntmps62
    go_wp2_with fail
    go_ret
    exact ⟨by simp [wd]; omega, rfl⟩
theorem rthere_any (b c n : Nat) (t : Nat → Cl) (w : World) (h : Tab w b c n t) (hn : 1 ≤ n) (hn2 : n ≤ 32) :
    Calls Try.prog 88 #[.pointer (some ⟨b, 0, none⟩)] w fun e w' => e = .returned (.bool true) ∧ w = w' := by
  have hs := h.s
  have h0 : 0 < n := by omega
  go_enter Try.func88, Try.ntmps88
  go_wp2_with fail
  go_ret
  exact ⟨rfl, rfl⟩
theorem home_neg (a n : Int) (hn : 1 ≤ n) (h : a.tmod n < 0) : a.tmod n + n = a % n := by
  have h1 := home_eq2 a n hn
  have h2 := tmod_bd a n hn
  rw [← h1, Int.emod_eq_of_lt (by omega) (by omega)]
theorem home_pos (a n : Int) (hn : 1 ≤ n) (h : ¬ a.tmod n < 0) : a.tmod n = a % n := by
  have h1 := home_eq2 a n hn
  have h2 := tmod_bd a n hn
  rw [← h1, Int.add_emod_right, Int.emod_eq_of_lt (by omega) (by omega)]
theorem rhome_any (b c n : Nat) (t : Nat → Cl) (key : Int) (w : World) (h : Tab w b c n t) (hn : 1 ≤ n) (hn2 : n ≤ 32) (hk : -2147483648 ≤ key ∧ key ≤ 2147483647) :
    Calls Try.prog 90 #[.pointer (some ⟨b, 0, none⟩), .int .i64 key] w fun e w' => e = .returned (.int .i64 (key % (n : Int))) ∧ w = w' := by
  have hs := h.s
  have hb := tmod_bd key n (by omega)
  have h0 : ((n : Int) == 0) = false := by simp; omega
  have h1 : ¬ ((n : Int) = 0) := by omega
  by_cases hneg : key.tmod (n : Int) < 0
  · have HN := hide (home_neg key n (by omega) hneg)
    go_enter Try.func90, Try.ntmps90
    go_wp2_with fail
    go_ret
    exact ⟨ret_i HN.out, rfl⟩
  · have HN := hide (home_pos key n (by omega) hneg)
    go_enter Try.func90, Try.ntmps90
    go_wp2_with fail
    go_ret
    exact ⟨ret_i HN.out, rfl⟩
theorem ret3_b {k k3 : IntKind} {a b e f : Int} {c d : Bool} (h : a = b) (h2 : c = d) (h3 : e = f) : Ending.returned (.tuple #[.int k a, .bool c, .int k3 e]) = .returned (.tuple #[.int k b, .bool d, .int k3 f]) := by rw [h, h2, h3]
theorem isF_hit {t : Nat → Cl} {n : Nat} {key : Int} {k : Nat} (h : fnd t n key = ((atk n key k : Int), (k : Int) + 1)) : isF t n key = (t (atk n key k)).u := by
  unfold isF; rw [h]; simp
theorem isF_no {t : Nat → Cl} {n : Nat} {key : Int} (h : fnd t n key = (-1, (n : Int))) : isF t n key = false := by
  unfold isF; rw [h]; rfl
set_option maxHeartbeats 4000000 in
theorem rlook_any (b c n : Nat) (t : Nat → Cl) (key : Int) (w : World) (h : Tab w b c n t) (hn : 1 ≤ n) (hn2 : n ≤ 32) (hk : -2147483648 ≤ key ∧ key ≤ 2147483647) :
    Calls Try.prog 89 #[.pointer (some ⟨b, 0, none⟩), .int .i64 key] w fun e w' => e = .returned (.tuple #[.int .i64 (fnd t n key).1, .bool (isF t n key), .int .i64 (fnd t n key).2]) ∧ Below w.heap.size w w' := by
  have hs := h.s
  go_enter Try.func89, Try.ntmps89
  go_wp2_with fail
  go_loopw [7] (fun i wr => ∃ k : Nat, k ≤ n ∧ i = .int .i64 (k : Int) ∧ Hid (∀ j, 0 ≤ j → j < k → hit t n key j = false) ∧ Below w.heap.size w wr) (fun i _ => ((n : Int) - intOf i).toNat)
  case atStart => exact ⟨0, by omega, rfl, hide (fun j _ hj => absurd hj (by omega)), Below.refl _ _⟩
  case round =>
    obtain ⟨k, hk1, rfl, hh, hb⟩ := hrel
    have ht := h.below hb
    have hs' := ht.s
    by_cases hlt : k < n
    · have hkn : (k : Int) < (n : Int) := by omega
      have hb3 := Int.emod_nonneg key (b := (n : Int)) (by omega)
      have hb4 := Int.emod_lt_of_pos key (b := (n : Int)) (by omega)
      have h0 : ((n : Int) == 0) = false := by simp; omega
      have h1 : ¬ ((n : Int) = 0) := by omega
      have ha := atk_eq n key k hn
      have hal := atk_lt n key k hn
      have hlt2 : (atk n key k : Int) < (n : Int) := by omega
      have k0 := cell_regrown hs'
      have q0 : ∀ dd oo, Calls Try.prog 90 #[.pointer (some ⟨b, 0, none⟩), .int .i64 key] (grow (redrawn wr dd) oo) fun e w'' => e = .returned (.int .i64 (key % (n : Int))) ∧ ∃ p : Regrown, w'' = grow (redrawn wr p.d) p.os := fun dd oo => regrown_same (rhome_any b c n t key _ (ht.below (below_regrown wr dd oo)) hn hn2 hk)
      have Q0 := hide q0
      clear q0
      go_wp2_with fail
      refine wp_region_quiet_below mixed (by kernel_rfl) ?_
      repeat (go_big_quiet_step (first | with_reducible exact Q0.out _ _))
      refine wpQuiet_nil ?_
      intro _ hw'
      obtain ⟨⟨dq, osq⟩, hw''⟩ := hw'
      subst hw''
      have hb5 := below_regrown wr dq osq
      clear k0 Q0
      generalize grow (redrawn wr dq) osq = w2 at *
      have ht2 := ht.below hb5
      have hb6 := hb.trans (hb5.mono hb.size)
      clear ht hb hb5 hs' hs
      have hsz := hb6.size
      have hs2 := ht2.s
      have u2 := ht2.u _ hal
      have k2 := ht2.k _ hal
      have v2 := ht2.v _ hal
      cases hu : (t (atk n key k)).u
      · have hH : hit t n key k = true := by unfold hit; rw [hu]; rfl
        have hF0 := fnd_hit hlt hh.out hH
        have HI := hide (show isF t n key = false by rw [isF_hit hF0, hu])
        have HF := hide hF0
        clear hF0
        rw [hu] at u2
        clear hu
        go_wp2_with fail
        refine bodyPost_ret (v := .tuple #[.int .i64 (fnd t n key).1, .bool (isF t n key), .int .i64 (fnd t n key).2]) (by rw [HF.out, HI.out]; simp [results, Try.results89, go_sem, ha]) rfl ⟨rfl, by go_grown⟩
      · rw [hu] at u2
        by_cases hke : (t (atk n key k)).k = key
        · have hH : hit t n key k = true := by unfold hit; rw [hu, hke]; simp
          have hF0 := fnd_hit hlt hh.out hH
          have HI := hide (show isF t n key = true by rw [isF_hit hF0, hu])
          have HF := hide hF0
          have hke2 : ((t (atk n key k)).k == key) = true := by simpa using hke
          clear hu hF0
          go_wp2_with fail
          refine bodyPost_ret (v := .tuple #[.int .i64 (fnd t n key).1, .bool (isF t n key), .int .i64 (fnd t n key).2]) (by rw [HF.out, HI.out]; simp [results, Try.results89, go_sem, ha]) rfl ⟨rfl, by go_grown⟩
        · have hH : hit t n key k = false := by unfold hit; rw [hu]; simpa using hke
          have hke2 : ((t (atk n key k)).k == key) = false := by simpa using hke
          clear hu
          go_wp2_with fail
          refine ⟨⟨k + 1, by omega, by push_cast; rfl, hide (fun j hj hj2 => ?_), by go_grown⟩, by simp [intOf]; omega⟩
          by_cases c : j < k
          · exact hh.out j hj c
          · obtain rfl : j = k := by omega
            exact hH
    · obtain rfl : k = n := by omega
      have HF := hide (fnd_no hh.out)
      have HI := hide (isF_no HF.out)
      go_wp2_with fail
      go_quiet (fail)
      go_wp2_with fail
      refine bodyPost_ret (v := .tuple #[.int .i64 (fnd t k key).1, .bool (isF t k key), .int .i64 (fnd t k key).2]) (by rw [HF.out, HI.out]; simp [results, Try.results89, go_sem]) rfl ⟨rfl, drewN_below hb _⟩
theorem rPut_any (b c n : Nat) (t : Nat → Cl) (key v : Int) (w : World) (h : Tab w b c n t) (hn : 1 ≤ n) (hn2 : n ≤ 32) (hk : -2147483648 ≤ key ∧ key ≤ 2147483647) (hv : -2147483648 ≤ v ∧ v ≤ 2147483647) :
    Calls Try.prog 56 #[.pointer (some ⟨b, 0, none⟩), .int .i64 key, .int .i64 v] w fun e w' => e = .returned (.tuple #[.int .i64 (fnd t n key).2, .int .i64 (putE t n key)]) ∧ Tab w' b c n (put t n key v) ∧ Chg c w w' := by
  have HK := hide (show wd key = true by simp [wd, hk])
  have HV := hide (show wd v = true by simp [wd, hv])
  obtain ⟨b1, b2, b3, b4⟩ := fnd_bd t n key hn
  have HPE := hide (show putE t n key = if (fnd t n key).1 < 0 then 14 else 0 from rfl)
  have HP := hide (show put t n key v = if (fnd t n key).1 < 0 then t else upd t (fnd t n key).1.toNat ⟨true, key, v⟩ from rfl)
  go_enter Try.func56, Try.ntmps56
  go_wp2_with fail
  refine (rthere_any b c n t _ h hn hn2).mono ?_
  rintro e ws ⟨rfl, rfl⟩
  go_wp2_with fail
  refine (rword_any key _).mono ?_
  rintro e ws ⟨rfl, rfl⟩
  rw [HK.out]
  go_wp2_with fail
  refine (rword_any v _).mono ?_
  rintro e ws ⟨rfl, rfl⟩
  rw [HV.out]
  go_wp2_with fail
  refine (rlook_any b c n t key _ h hn hn2 hk).mono ?_
  rintro e w1 ⟨rfl, hb⟩
  have h1 := h.below hb
  have hc1 := Chg.of_below (c := c) hb
  by_cases hneg : (fnd t n key).1 < 0
  · rw [if_pos hneg] at HPE HP
    go_wp2_with fail
    go_ret2
    refine ⟨ret2_i rfl (by rw [HPE.out]), ?_, hc1⟩
    rw [HP.out]; exact h1
  · rw [if_neg hneg] at HPE HP
    obtain ⟨i, hi⟩ : ∃ i : Nat, (fnd t n key).1 = (i : Int) := ⟨(fnd t n key).1.toNat, by omega⟩
    have hin : i < n := by omega
    have hT := h1.set i hin ⟨true, key, v⟩
    have hs := h1.s
    have u0 := h1.u i hin
    have u1 := h1.k i hin
    have u2 := h1.v i hin
    have g0 := h1.f0 i hin
    have g1 := h1.f1 i hin
    have g2 := h1.f2 i hin
    rw [hi] at hneg HP b1 b2 ⊢
    rw [Int.toNat_natCast] at HP
    have hin2 : (i : Int) < (n : Int) := by omega
    go_wp2_with fail
    go_ret2
    refine ⟨ret2_i rfl (by rw [HPE.out]), ?_, ?_⟩
    · rw [HP.out]; exact hT.1
    · exact hc1.trans hT.2
theorem rGet_any (b c n : Nat) (t : Nat → Cl) (key : Int) (w : World) (h : Tab w b c n t) (hn : 1 ≤ n) (hn2 : n ≤ 32) (hk : -2147483648 ≤ key ∧ key ≤ 2147483647) :
    Calls Try.prog 57 #[.pointer (some ⟨b, 0, none⟩), .int .i64 key] w fun e w' => e = .returned (.tuple #[.int .i64 (getV t n key), .int .i64 (fnd t n key).2, .int .i64 (getE t n key)]) ∧ Below w.heap.size w w' := by
  have HK := hide (show wd key = true by simp [wd, hk])
  obtain ⟨b1, b2, b3, b4⟩ := fnd_bd t n key hn
  go_enter Try.func57, Try.ntmps57
  go_wp2_with fail
  refine (rthere_any b c n t _ h hn hn2).mono ?_
  rintro e ws ⟨rfl, rfl⟩
  go_wp2_with fail
  refine (rword_any key _).mono ?_
  rintro e ws ⟨rfl, rfl⟩
  rw [HK.out]
  go_wp2_with fail
  refine (rlook_any b c n t key _ h hn hn2 hk).mono ?_
  rintro e w1 ⟨rfl, hb⟩
  have h1 := h.below hb
  cases HF : isF t n key
  case false =>
    have HV := hide (show getV t n key = 0 by unfold getV; rw [HF]; rfl)
    have HE := hide (show getE t n key = 3 by unfold getE; rw [HF]; rfl)
    clear HF
    go_wp2_with fail
    refine bodyPost_ret (v := .tuple #[.int .i64 0, .int .i64 (fnd t n key).2, .int .i64 3]) (by simp [results, Try.results57, go_sem]) rfl ⟨ret3_i (by rw [HV.out]) rfl (by rw [HE.out]), hb⟩
  case true =>
    have hpos : 0 ≤ (fnd t n key).1 := by unfold isF at HF; simp at HF; exact HF.1
    obtain ⟨i, hi⟩ : ∃ i : Nat, (fnd t n key).1 = (i : Int) := ⟨(fnd t n key).1.toNat, by omega⟩
    have hin : i < n := by omega
    have hs := h1.s
    have u2 := h1.v i hin
    have hin2 : (i : Int) < (n : Int) := by omega
    have HV := hide (show getV t n key = (t i).v by unfold getV; rw [HF, hi, Int.toNat_natCast]; rfl)
    have HE := hide (show getE t n key = 0 by unfold getE; rw [HF]; rfl)
    rw [hi]
    clear HF
    go_wp2_with fail
    refine bodyPost_ret (v := .tuple #[.int .i64 (t i).v, .int .i64 (fnd t n key).2, .int .i64 0]) (by simp [results, Try.results57, go_sem]) rfl ⟨ret3_i (by rw [HV.out]) rfl (by rw [HE.out]), hb⟩
end Lc
end Go.Proofs.Ytgdfbpphfanocaa
