/- The tables: Get of the program; home, look, Get, Put of the reference. -/
import Derived.Test.YtgdfbpphfanocaaCX
set_option linter.unusedVariables false
set_option linter.unusedSimpArgs false
namespace Go.Proofs.Ytgdfbpphfanocaa
open Go.RowKit Go.Sort
namespace Lc

theorem ret3_i {k k2 k3 : IntKind} {a b c d e f : Int} (h : a = b) (h2 : c = d) (h3 : e = f) : Ending.returned (.tuple #[.int k a, .int k2 c, .int k3 e]) = .returned (.tuple #[.int k b, .int k2 d, .int k3 f]) := by rw [h, h2, h3]
/-- is the key there? -/
def isF (t : Nat → Cl) (n : Nat) (key : Int) : Bool := decide (0 ≤ (fnd t n key).1) && (t (fnd t n key).1.toNat).u
def getV (t : Nat → Cl) (n : Nat) (key : Int) : Int := if isF t n key then (t (fnd t n key).1.toNat).v else 0
def getE (t : Nat → Cl) (n : Nat) (key : Int) : Int := if isF t n key then 0 else 3
theorem Get_any (b c n : Nat) (t : Nat → Cl) (key : Int) (w : World) (h : Tab w b c n t) (hn : 1 ≤ n) (hn2 : n ≤ 32) (hk : -2147483648 ≤ key ∧ key ≤ 2147483647) :
    Calls Try.prog 13 #[.pointer (some ⟨b, 0, none⟩), .int .i64 key] w fun e w' => e = .returned (.tuple #[.int .i64 (getV t n key), .int .i64 (fnd t n key).2, .int .i64 (getE t n key)]) ∧ Below w.heap.size w w' := by
  have HK := hide (show (decide (-2147483648 ≤ key) && decide (key ≤ 2147483647)) = true by simp [hk])
  obtain ⟨b1, b2, b3, b4⟩ := fnd_bd t n key hn
  go_enter Try.func13, Try.ntmps13
  go_wp2_with fail
  refine (none_any b c n t _ h hn hn2).mono ?_
  rintro e ws ⟨rfl, rfl⟩
  go_wp2_with fail
  refine (isWord_any key _).mono ?_
  rintro e ws ⟨rfl, rfl⟩
  rw [HK.out]
  go_wp2_with fail
  refine (find_any b c n t key _ h hn hn2 hk).mono ?_
  rintro e w1 ⟨rfl, hb⟩
  have h1 := h.below hb
  by_cases hneg : (fnd t n key).1 < 0
  · have HF : isF t n key = false := by unfold isF; rw [decide_eq_false (by omega)]; rfl
    have HV := hide (show getV t n key = 0 by unfold getV; rw [HF]; rfl)
    have HE := hide (show getE t n key = 3 by unfold getE; rw [HF]; rfl)
    clear HF
    go_wp2_with fail
    refine bodyPost_ret (v := .tuple #[.int .i64 0, .int .i64 (fnd t n key).2, .int .i64 3]) (by simp [results, Try.results13, go_sem]) rfl ⟨ret3_i (by rw [HV.out]) rfl (by rw [HE.out]), hb⟩
  · obtain ⟨i, hi⟩ : ∃ i : Nat, (fnd t n key).1 = (i : Int) := ⟨(fnd t n key).1.toNat, by omega⟩
    have hin : i < n := by omega
    have hs := h1.s
    have u0 := h1.u i hin
    have u1 := h1.k i hin
    have u2 := h1.v i hin
    have hin2 : (i : Int) < (n : Int) := by omega
    cases hu : (t i).u
    case false =>
      have HF : isF t n key = false := by unfold isF; rw [hi, Int.toNat_natCast, hu]; simp
      have HV := hide (show getV t n key = 0 by unfold getV; rw [HF]; rfl)
      have HE := hide (show getE t n key = 3 by unfold getE; rw [HF]; rfl)
      rw [hu] at u0
      rw [hi] at hneg ⊢
      clear HF hu
      go_wp2_with fail
      refine bodyPost_ret (v := .tuple #[.int .i64 0, .int .i64 (fnd t n key).2, .int .i64 3]) (by simp [results, Try.results13, go_sem]) rfl ⟨ret3_i (by rw [HV.out]) rfl (by rw [HE.out]), hb⟩
    case true =>
      have HF : isF t n key = true := by unfold isF; rw [hi, Int.toNat_natCast, hu]; simp
      have HV := hide (show getV t n key = (t i).v by unfold getV; rw [HF, hi, Int.toNat_natCast]; rfl)
      have HE := hide (show getE t n key = 0 by unfold getE; rw [HF]; rfl)
      rw [hu] at u0
      rw [hi] at hneg ⊢
      clear HF hu
      go_wp2_with fail
      refine bodyPost_ret (v := .tuple #[.int .i64 (t i).v, .int .i64 (fnd t n key).2, .int .i64 0]) (by simp [results, Try.results13, go_sem]) rfl ⟨ret3_i (by rw [HV.out]) rfl (by rw [HE.out]), hb⟩
end Lc
end Go.Proofs.Ytgdfbpphfanocaa
