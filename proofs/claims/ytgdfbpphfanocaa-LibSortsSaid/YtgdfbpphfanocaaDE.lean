/- Tables that are nil; what both refuse; the law's within. -/
import Derived.Test.YtgdfbpphfanocaaDB
set_option linter.unusedVariables false
set_option linter.unusedSimpArgs false
namespace Go.Proofs.Ytgdfbpphfanocaa
open Go.RowKit Go.Sort
namespace Lc

theorem nil_none (w : World) :
    Calls Try.prog 50 #[.pointer none] w fun e w' => e = .returned (.bool true) ∧ w = w' := by
  go_enter Try.func50, Try.ntmps50
  go_wp2_with fail
  go_ret
  exact ⟨rfl, rfl⟩
theorem Cells_nil (w : World) :
    Calls Try.prog 21 #[.pointer none] w fun e w' => e = .returned (.slice none 0 0) ∧ w = w' := by
  go_enter Try.func21, Try.ntmps21
  go_wp2_with fail
  refine (nil_none _).mono ?_
  rintro e ws ⟨rfl, rfl⟩
  go_wp2_with fail
  go_ret
  exact ⟨rfl, rfl⟩
theorem Len_nil (w : World) :
    Calls Try.prog 15 #[.pointer none] w fun e w' => e = .returned (.int .i64 0) ∧ Below w.heap.size w w' := by
  go_enter Try.func15, Try.ntmps15
  go_wp2_with fail
  refine (Cells_nil _).mono ?_
  rintro e ws ⟨rfl, rfl⟩
  go_wp2_with fail
  go_loopw [3, 9] (fun x i wr => i = .int .i64 0 ∧ x = .int .i64 0 ∧ Below w.heap.size w wr) (fun _ _ _ => 0)
  case atStart => exact ⟨rfl, rfl, Below.refl _ _⟩
  case round =>
    obtain ⟨rfl, rfl, hb⟩ := hrel
    go_wp2_with fail
    go_ret
    exact ⟨rfl, hb⟩
theorem rCells_nil (w : World) :
    Calls Try.prog 22 #[.pointer none] w fun e w' => e = .returned (.slice none 0 0) ∧ w = w' := by
  go_enter Try.func22, Try.ntmps22
  go_wp2_with fail
  go_loop [3, 4] (fun v i => v = .slice none 0 0 ∧ i = .int .i64 0) (fun _ _ => 0)
  case atStart => exact ⟨rfl, rfl⟩
  case round =>
    obtain ⟨rfl, rfl⟩ := hrel
    go_wp2_with fail
    go_ret
    exact ⟨rfl, rfl⟩
theorem rLen_nil (w : World) :
    Calls Try.prog 23 #[.pointer none] w fun e w' => e = .returned (.int .i64 0) ∧ w = w' := by
  go_enter Try.func23, Try.ntmps23
  go_wp2_with fail
  go_loop [3, 4] (fun x i => x = .int .i64 0 ∧ i = .int .i64 0) (fun _ _ => 0)
  case atStart => exact ⟨rfl, rfl⟩
  case round =>
    obtain ⟨rfl, rfl⟩ := hrel
    go_wp2_with fail
    go_ret
    exact ⟨rfl, rfl⟩
theorem within_any (s : ByteArray) (x n : Int) (w : World) (h : (ctr s n).e = 0) (h0 : 0 ≤ x) (h1 : x ≤ (ctr s n).v) :
    Calls Try.prog 39 #[.int .i64 x, .string s, .int .i64 n] w fun e w' => e = .returned (.bool true) ∧ w = w' := by
  have H := hide h
  clear h
  go_enter Try.func39, Try.ntmps39
  go_wp2_with fail
  refine (Contract_any s n _).mono ?_
  rintro e ws ⟨rfl, rfl⟩
  rw [H.out]
  go_wp2_with fail
  go_ret
  exact ⟨rfl, rfl⟩
theorem Put_bad0 (b c n : Nat) (t : Nat → Cl) (key v : Int) (w : World) (h : Tab w b c n t) (hn : 1 ≤ n) (hn2 : n ≤ 32) (hk : wd key = false) :
    Calls Try.prog 12 #[.pointer (some ⟨b, 0, none⟩), .int .i64 key, .int .i64 v] w fun e w' => e = .returned (.tuple #[.int .i64 0, .int .i64 1]) ∧ w = w' := by
  have HK := hide hk
  clear hk
  go_enter Try.func12, Try.ntmps12
  go_wp2_with fail
  refine (none_any b c n t _ h hn hn2).mono ?_
  rintro e ws ⟨rfl, rfl⟩
  go_wp2_with fail
  refine (isWord_wd key _).mono ?_
  rintro e ws ⟨rfl, rfl⟩
  rw [HK.out]
  go_wp2_with fail
  go_ret2
  exact ⟨rfl, rfl⟩
theorem Put_bad1 (b c n : Nat) (t : Nat → Cl) (key v : Int) (w : World) (h : Tab w b c n t) (hn : 1 ≤ n) (hn2 : n ≤ 32) (hk : wd key = true) (hv : wd v = false) :
    Calls Try.prog 12 #[.pointer (some ⟨b, 0, none⟩), .int .i64 key, .int .i64 v] w fun e w' => e = .returned (.tuple #[.int .i64 0, .int .i64 1]) ∧ w = w' := by
  have HK := hide hk
  have HV := hide hv
  clear hv
  clear hk
  go_enter Try.func12, Try.ntmps12
  go_wp2_with fail
  refine (none_any b c n t _ h hn hn2).mono ?_
  rintro e ws ⟨rfl, rfl⟩
  go_wp2_with fail
  refine (isWord_wd key _).mono ?_
  rintro e ws ⟨rfl, rfl⟩
  rw [HK.out]
  go_wp2_with fail
  refine (isWord_wd v _).mono ?_
  rintro e ws ⟨rfl, rfl⟩
  rw [HV.out]
  go_wp2_with fail
  go_ret2
  exact ⟨rfl, rfl⟩
theorem Get_bad0 (b c n : Nat) (t : Nat → Cl) (key : Int) (w : World) (h : Tab w b c n t) (hn : 1 ≤ n) (hn2 : n ≤ 32) (hk : wd key = false) :
    Calls Try.prog 13 #[.pointer (some ⟨b, 0, none⟩), .int .i64 key] w fun e w' => e = .returned (.tuple #[.int .i64 0, .int .i64 0, .int .i64 1]) ∧ w = w' := by
  have HK := hide hk
  clear hk
  go_enter Try.func13, Try.ntmps13
  go_wp2_with fail
  refine (none_any b c n t _ h hn hn2).mono ?_
  rintro e ws ⟨rfl, rfl⟩
  go_wp2_with fail
  refine (isWord_wd key _).mono ?_
  rintro e ws ⟨rfl, rfl⟩
  rw [HK.out]
  go_wp2_with fail
  exact bodyPost_ret (v := .tuple #[.int .i64 0, .int .i64 0, .int .i64 1]) (by simp [results, Try.results13, go_sem]) rfl ⟨rfl, rfl⟩
theorem Delete_bad0 (b c n : Nat) (t : Nat → Cl) (key : Int) (w : World) (h : Tab w b c n t) (hn : 1 ≤ n) (hn2 : n ≤ 32) (hk : wd key = false) :
    Calls Try.prog 14 #[.pointer (some ⟨b, 0, none⟩), .int .i64 key] w fun e w' => e = .returned (.tuple #[.int .i64 0, .int .i64 1]) ∧ w = w' := by
  have HK := hide hk
  clear hk
  go_enter Try.func14, Try.ntmps14
  go_wp2_with fail
  refine (none_any b c n t _ h hn hn2).mono ?_
  rintro e ws ⟨rfl, rfl⟩
  go_wp2_with fail
  refine (isWord_wd key _).mono ?_
  rintro e ws ⟨rfl, rfl⟩
  rw [HK.out]
  go_wp2_with fail
  go_ret2
  exact ⟨rfl, rfl⟩
theorem rPut_bad0 (b c n : Nat) (t : Nat → Cl) (key v : Int) (w : World) (h : Tab w b c n t) (hn : 1 ≤ n) (hn2 : n ≤ 32) (hk : wd key = false) :
    Calls Try.prog 56 #[.pointer (some ⟨b, 0, none⟩), .int .i64 key, .int .i64 v] w fun e w' => e = .returned (.tuple #[.int .i64 0, .int .i64 1]) ∧ w = w' := by
  have HK := hide hk
  clear hk
  go_enter Try.func56, Try.ntmps56
  go_wp2_with fail
  refine (rthere_any b c n t _ h hn hn2).mono ?_
  rintro e ws ⟨rfl, rfl⟩
  go_wp2_with fail
  refine (rword_any key _).mono ?_
  rintro e ws ⟨rfl, rfl⟩
  rw [HK.out]
  go_wp2_with fail
  go_ret2
  exact ⟨rfl, rfl⟩
theorem rPut_bad1 (b c n : Nat) (t : Nat → Cl) (key v : Int) (w : World) (h : Tab w b c n t) (hn : 1 ≤ n) (hn2 : n ≤ 32) (hk : wd key = true) (hv : wd v = false) :
    Calls Try.prog 56 #[.pointer (some ⟨b, 0, none⟩), .int .i64 key, .int .i64 v] w fun e w' => e = .returned (.tuple #[.int .i64 0, .int .i64 1]) ∧ w = w' := by
  have HK := hide hk
  have HV := hide hv
  clear hv
  clear hk
  go_enter Try.func56, Try.ntmps56
  go_wp2_with fail
  refine (rthere_any b c n t _ h hn hn2).mono ?_
  rintro e ws ⟨rfl, rfl⟩
  go_wp2_with fail
  refine (rword_any key _).mono ?_
  rintro e ws ⟨rfl, rfl⟩
  rw [HK.out]
  go_wp2_with fail
  refine (rword_any v _).mono ?_
  rintro e ws ⟨rfl, rfl⟩
  rw [HV.out]
  go_wp2_with fail
  go_ret2
  exact ⟨rfl, rfl⟩
theorem rGet_bad0 (b c n : Nat) (t : Nat → Cl) (key : Int) (w : World) (h : Tab w b c n t) (hn : 1 ≤ n) (hn2 : n ≤ 32) (hk : wd key = false) :
    Calls Try.prog 57 #[.pointer (some ⟨b, 0, none⟩), .int .i64 key] w fun e w' => e = .returned (.tuple #[.int .i64 0, .int .i64 0, .int .i64 1]) ∧ w = w' := by
  have HK := hide hk
  clear hk
  go_enter Try.func57, Try.ntmps57
  go_wp2_with fail
  refine (rthere_any b c n t _ h hn hn2).mono ?_
  rintro e ws ⟨rfl, rfl⟩
  go_wp2_with fail
  refine (rword_any key _).mono ?_
  rintro e ws ⟨rfl, rfl⟩
  rw [HK.out]
  go_wp2_with fail
  exact bodyPost_ret (v := .tuple #[.int .i64 0, .int .i64 0, .int .i64 1]) (by simp [results, Try.results57, go_sem]) rfl ⟨rfl, rfl⟩
theorem rDelete_bad0 (b c n : Nat) (t : Nat → Cl) (key : Int) (w : World) (h : Tab w b c n t) (hn : 1 ≤ n) (hn2 : n ≤ 32) (hk : wd key = false) :
    Calls Try.prog 58 #[.pointer (some ⟨b, 0, none⟩), .int .i64 key] w fun e w' => e = .returned (.tuple #[.int .i64 0, .int .i64 1]) ∧ w = w' := by
  have HK := hide hk
  clear hk
  go_enter Try.func58, Try.ntmps58
  go_wp2_with fail
  refine (rthere_any b c n t _ h hn hn2).mono ?_
  rintro e ws ⟨rfl, rfl⟩
  go_wp2_with fail
  refine (rword_any key _).mono ?_
  rintro e ws ⟨rfl, rfl⟩
  rw [HK.out]
  go_wp2_with fail
  go_ret2
  exact ⟨rfl, rfl⟩
end Lc
end Go.Proofs.Ytgdfbpphfanocaa
