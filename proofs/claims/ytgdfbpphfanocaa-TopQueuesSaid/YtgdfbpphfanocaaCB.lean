/- Contracts of the rooms, of the lengths of numbers and of Contract, of the program and of the reference. -/
import Derived.Test.YtgdfbpphfanocaaProg
import Derived.WalkKit
import Derived.WalkLawsBesides
import Derived.Handy
import Derived.Deep.QuietTactic
import Derived.BigQuiet
import Derived.KernelRfl
import Derived.Lib.QuietBelow
import Derived.Test.YtgdfbpphfanocaaCS
set_option linter.unusedVariables false
set_option linter.unusedSimpArgs false
namespace Go.Proofs.Ytgdfbpphfanocaa
open Go.RowKit Go.Sort
namespace Lc

structure Hid (p : Prop) : Prop where
  out : p
theorem hide {p : Prop} (h : p) : Hid p := ⟨h⟩
theorem ret_i {k : IntKind} {a b : Int} (h : a = b) : Ending.returned (.int k a) = .returned (.int k b) := by rw [h]
theorem ret2_i {k k2 : IntKind} {a b c d : Int} (h : a = b) (h2 : c = d) : Ending.returned (.tuple #[.int k a, .int k2 c]) = .returned (.tuple #[.int k b, .int k2 d]) := by rw [h, h2]
def rm (n : Int) : Bool := decide (1 ≤ n) && decide (n ≤ 32)
theorem rm_t {n : Int} (h : rm n = true) : 1 ≤ n ∧ n ≤ 32 := by unfold rm at h; simpa using h
theorem rm_no {n : Int} (h : rm n = false) : n < 1 ∨ (1 ≤ n ∧ 32 < n) := by
  unfold rm at h; simp only [Bool.and_eq_false_iff, decide_eq_false_iff_not] at h; omega
theorem isRoom_any (n : Int) (w : World) :
    Calls Try.prog 49 #[.int .i64 n] w fun e w' => e = .returned (.bool (rm n)) ∧ w = w' := by
  by_cases h1 : 1 ≤ n
  · go_enter Try.func49, Try.ntmps49
    go_wp2_with fail
    go_ret
    exact ⟨by simp [rm, h1], rfl⟩
  · go_enter Try.func49, Try.ntmps49
    go_wp2_with fail
    go_ret
    exact ⟨by simp [rm]; omega, rfl⟩
theorem rroom_any (n : Int) (w : World) :
    Calls Try.prog 55 #[.int .i64 n] w fun e w' => e = .returned (.bool (rm n)) ∧ w = w' := by
  by_cases h1 : 1 ≤ n
  · go_enter Try.func55, Try.ntmps55
    go_wp2_with fail
    go_ret
    exact ⟨by simp [rm, h1], rfl⟩
  · go_enter Try.func55, Try.ntmps55
    go_wp2_with fail
    go_ret
    exact ⟨by simp [rm]; omega, rfl⟩


structure R2 where
  v : Int
  e : Int
/-- how many binary digits -/
def dg (n : Int) : Int := (Lib.bitLen n.toNat : Int)
def ctr (s : ByteArray) (n : Int) : R2 :=
  if rm n then
    if (s.toList == [112, 117, 116]) then ⟨n, 0⟩ else if (s.toList == [103, 101, 116]) then ⟨n, 0⟩ else if (s.toList == [100, 101, 108, 101, 116, 101]) then ⟨2 * n - 1, 0⟩ else if (s.toList == [102, 105, 110, 100]) then ⟨dg n, 0⟩ else if (s.toList == [105, 110, 115, 101, 114, 116]) then ⟨dg n + n, 0⟩ else if (s.toList == [114, 101, 109, 111, 118, 101]) then ⟨dg n + n, 0⟩ else ⟨0, 3⟩
  else ⟨0, 1⟩
theorem dg_bd (n : Nat) (h : n ≤ 32) : Lib.bitLen n ≤ 6 := by
  revert n
  decide
set_option maxHeartbeats 4000000 in
theorem Contract_any (s : ByteArray) (n : Int) (w : World) :
    Calls Try.prog 16 #[.string s, .int .i64 n] w fun e w' => e = .returned (.tuple #[.int .i64 (ctr s n).v, .int .i64 (ctr s n).e]) ∧ w = w' := by
  cases hr : rm n
  case false =>
    have HE : ctr s n = ⟨0, 1⟩ := by unfold ctr; rw [hr]; rfl
    have H := hide hr
    clear hr
    go_enter Try.func16, Try.ntmps16
    go_wp2_with (go_at_call 49; refine (isRoom_any _ _).mono ?_; rintro e w1 ⟨rfl, rfl⟩; rw [H.out])
    go_ret2
    exact ⟨ret2_i (by rw [HE]) (by rw [HE]), rfl⟩
  case true =>
    obtain ⟨n1, n2⟩ := rm_t hr
    have H := hide hr
    have hb := dg_bd n.toNat (by omega)
    have hd : dg n = (Lib.bitLen n.toNat : Int) := rfl
    cases h0 : (s.toList == [112, 117, 116])
    case true =>
      have HE : ctr s n = ⟨n, 0⟩ := by unfold ctr; rw [hr]; simp [h0]
      clear hr
      go_enter Try.func16, Try.ntmps16
      go_wp2_with (first | (go_at_call 49; refine (isRoom_any _ _).mono ?_; rintro e w1 ⟨rfl, rfl⟩; rw [H.out]) | (go_at_call 54; refine (Try.bits_Len _ _ ?_ ?_).mono ?_; omega; omega; rintro e w1 ⟨rfl, rfl⟩; rw [← hd]))
      go_ret2
      exact ⟨ret2_i (by rw [HE]; try rw [hd]) (by rw [HE]), rfl⟩
    case false =>
      cases h1 : (s.toList == [103, 101, 116])
      case true =>
        have HE : ctr s n = ⟨n, 0⟩ := by unfold ctr; rw [hr]; simp [h0, h1]
        clear hr
        go_enter Try.func16, Try.ntmps16
        go_wp2_with (first | (go_at_call 49; refine (isRoom_any _ _).mono ?_; rintro e w1 ⟨rfl, rfl⟩; rw [H.out]) | (go_at_call 54; refine (Try.bits_Len _ _ ?_ ?_).mono ?_; omega; omega; rintro e w1 ⟨rfl, rfl⟩; rw [← hd]))
        go_ret2
        exact ⟨ret2_i (by rw [HE]; try rw [hd]) (by rw [HE]), rfl⟩
      case false =>
        cases h2 : (s.toList == [100, 101, 108, 101, 116, 101])
        case true =>
          have HE : ctr s n = ⟨2 * n - 1, 0⟩ := by unfold ctr; rw [hr]; simp [h0, h1, h2]
          clear hr
          go_enter Try.func16, Try.ntmps16
          go_wp2_with (first | (go_at_call 49; refine (isRoom_any _ _).mono ?_; rintro e w1 ⟨rfl, rfl⟩; rw [H.out]) | (go_at_call 54; refine (Try.bits_Len _ _ ?_ ?_).mono ?_; omega; omega; rintro e w1 ⟨rfl, rfl⟩; rw [← hd]))
          go_ret2
          exact ⟨ret2_i (by rw [HE]; try rw [hd]) (by rw [HE]), rfl⟩
        case false =>
          cases h3 : (s.toList == [102, 105, 110, 100])
          case true =>
            have HE : ctr s n = ⟨dg n, 0⟩ := by unfold ctr; rw [hr]; simp [h0, h1, h2, h3]
            clear hr
            go_enter Try.func16, Try.ntmps16
            go_wp2_with (first | (go_at_call 49; refine (isRoom_any _ _).mono ?_; rintro e w1 ⟨rfl, rfl⟩; rw [H.out]) | (go_at_call 54; refine (Try.bits_Len _ _ ?_ ?_).mono ?_; omega; omega; rintro e w1 ⟨rfl, rfl⟩; rw [← hd]))
            go_ret2
            exact ⟨ret2_i (by rw [HE]; try rw [hd]) (by rw [HE]), rfl⟩
          case false =>
            cases h4 : (s.toList == [105, 110, 115, 101, 114, 116])
            case true =>
              have HE : ctr s n = ⟨dg n + n, 0⟩ := by unfold ctr; rw [hr]; simp [h0, h1, h2, h3, h4]
              clear hr
              go_enter Try.func16, Try.ntmps16
              go_wp2_with (first | (go_at_call 49; refine (isRoom_any _ _).mono ?_; rintro e w1 ⟨rfl, rfl⟩; rw [H.out]) | (go_at_call 54; refine (Try.bits_Len _ _ ?_ ?_).mono ?_; omega; omega; rintro e w1 ⟨rfl, rfl⟩; rw [← hd]))
              go_ret2
              exact ⟨ret2_i (by rw [HE]; try rw [hd]) (by rw [HE]), rfl⟩
            case false =>
              cases h5 : (s.toList == [114, 101, 109, 111, 118, 101])
              case true =>
                have HE : ctr s n = ⟨dg n + n, 0⟩ := by unfold ctr; rw [hr]; simp [h0, h1, h2, h3, h4, h5]
                clear hr
                go_enter Try.func16, Try.ntmps16
                go_wp2_with (first | (go_at_call 49; refine (isRoom_any _ _).mono ?_; rintro e w1 ⟨rfl, rfl⟩; rw [H.out]) | (go_at_call 54; refine (Try.bits_Len _ _ ?_ ?_).mono ?_; omega; omega; rintro e w1 ⟨rfl, rfl⟩; rw [← hd]))
                go_ret2
                exact ⟨ret2_i (by rw [HE]; try rw [hd]) (by rw [HE]), rfl⟩
              case false =>
                skip
                have HE : ctr s n = ⟨0, 3⟩ := by unfold ctr; rw [hr]; simp [h0, h1, h2, h3, h4, h5]
                clear hr
                go_enter Try.func16, Try.ntmps16
                go_wp2_with (first | (go_at_call 49; refine (isRoom_any _ _).mono ?_; rintro e w1 ⟨rfl, rfl⟩; rw [H.out]) | (go_at_call 54; refine (Try.bits_Len _ _ ?_ ?_).mono ?_; omega; omega; rintro e w1 ⟨rfl, rfl⟩; rw [← hd]))
                go_ret2
                exact ⟨ret2_i (by rw [HE]; try rw [hd]) (by rw [HE]), rfl⟩
theorem bl_aux : ∀ k : Nat, k ≤ 32 → 0 < k → Lib.bitLen k = Lib.bitLen (k / 2) + 1 := by decide
theorem bl_step (k : Nat) (h : 0 < k) (h2 : k ≤ 32) : Lib.bitLen k = Lib.bitLen (k / 2) + 1 := bl_aux k h2 h
set_option maxHeartbeats 4000000 in
theorem rContract_any (s : ByteArray) (n : Int) (w : World) :
    Calls Try.prog 17 #[.string s, .int .i64 n] w fun e w' => e = .returned (.tuple #[.int .i64 (ctr s n).v, .int .i64 (ctr s n).e]) ∧ w = w' := by
  cases hr : rm n
  case false =>
    have HE : ctr s n = ⟨0, 1⟩ := by unfold ctr; rw [hr]; rfl
    have H := hide hr
    clear hr
    go_enter Try.func17, Try.ntmps17
    go_wp2_with (go_at_call 55; refine (rroom_any _ _).mono ?_; rintro e w1 ⟨rfl, rfl⟩; rw [H.out])
    go_ret2
    exact ⟨ret2_i (by rw [HE]) (by rw [HE]), rfl⟩
  case true =>
    obtain ⟨n1, n2⟩ := rm_t hr
    have H := hide hr
    have hb := dg_bd n.toNat (by omega)
    have hd : dg n = (Lib.bitLen n.toNat : Int) := rfl
    cases h0 : (s.toList == [112, 117, 116])
    case true =>
      have HE : ctr s n = ⟨n, 0⟩ := by unfold ctr; rw [hr]; simp [h0]
      clear hr
      go_enter Try.func17, Try.ntmps17
      go_wp2_with (go_at_call 55; refine (rroom_any _ _).mono ?_; rintro e w1 ⟨rfl, rfl⟩; rw [H.out])
      go_loop [6, 7] (fun x y => ∃ k : Nat, k ≤ 32 ∧ y = .int .i64 (k : Int) ∧ x = .int .i64 ((Lib.bitLen n.toNat : Int) - (Lib.bitLen k : Int))) (fun _ y => (intOf y).toNat)
      case atStart => exact ⟨n.toNat, by omega, by rw [Int.toNat_of_nonneg (by omega)], by simp⟩
      case round =>
        obtain ⟨k, hk, rfl, rfl⟩ := hrel
        have hk6 := dg_bd k hk
        by_cases hk0 : 0 < k
        · have hst := bl_step k hk0 hk
          have hkp : (0 : Int) < (k : Int) := by omega
          go_wp2_with fail
          refine ⟨⟨k / 2, by omega, by rw [Int.natCast_ediv]; rfl, by congr 1; omega⟩, ?_⟩
          simp only [intOf]
          omega
        · obtain rfl : k = 0 := by omega
          have h00 : Lib.bitLen 0 = 0 := by decide
          rw [h00]
          go_wp2_with fail
          go_ret2
          exact ⟨by simp [HE, hd], rfl⟩
    case false =>
      cases h1 : (s.toList == [103, 101, 116])
      case true =>
        have HE : ctr s n = ⟨n, 0⟩ := by unfold ctr; rw [hr]; simp [h0, h1]
        clear hr
        go_enter Try.func17, Try.ntmps17
        go_wp2_with (go_at_call 55; refine (rroom_any _ _).mono ?_; rintro e w1 ⟨rfl, rfl⟩; rw [H.out])
        go_loop [6, 7] (fun x y => ∃ k : Nat, k ≤ 32 ∧ y = .int .i64 (k : Int) ∧ x = .int .i64 ((Lib.bitLen n.toNat : Int) - (Lib.bitLen k : Int))) (fun _ y => (intOf y).toNat)
        case atStart => exact ⟨n.toNat, by omega, by rw [Int.toNat_of_nonneg (by omega)], by simp⟩
        case round =>
          obtain ⟨k, hk, rfl, rfl⟩ := hrel
          have hk6 := dg_bd k hk
          by_cases hk0 : 0 < k
          · have hst := bl_step k hk0 hk
            have hkp : (0 : Int) < (k : Int) := by omega
            go_wp2_with fail
            refine ⟨⟨k / 2, by omega, by rw [Int.natCast_ediv]; rfl, by congr 1; omega⟩, ?_⟩
            simp only [intOf]
            omega
          · obtain rfl : k = 0 := by omega
            have h00 : Lib.bitLen 0 = 0 := by decide
            rw [h00]
            go_wp2_with fail
            go_ret2
            exact ⟨by simp [HE, hd], rfl⟩
      case false =>
        cases h2 : (s.toList == [100, 101, 108, 101, 116, 101])
        case true =>
          have HE : ctr s n = ⟨2 * n - 1, 0⟩ := by unfold ctr; rw [hr]; simp [h0, h1, h2]
          clear hr
          go_enter Try.func17, Try.ntmps17
          go_wp2_with (go_at_call 55; refine (rroom_any _ _).mono ?_; rintro e w1 ⟨rfl, rfl⟩; rw [H.out])
          go_loop [6, 7] (fun x y => ∃ k : Nat, k ≤ 32 ∧ y = .int .i64 (k : Int) ∧ x = .int .i64 ((Lib.bitLen n.toNat : Int) - (Lib.bitLen k : Int))) (fun _ y => (intOf y).toNat)
          case atStart => exact ⟨n.toNat, by omega, by rw [Int.toNat_of_nonneg (by omega)], by simp⟩
          case round =>
            obtain ⟨k, hk, rfl, rfl⟩ := hrel
            have hk6 := dg_bd k hk
            by_cases hk0 : 0 < k
            · have hst := bl_step k hk0 hk
              have hkp : (0 : Int) < (k : Int) := by omega
              go_wp2_with fail
              refine ⟨⟨k / 2, by omega, by rw [Int.natCast_ediv]; rfl, by congr 1; omega⟩, ?_⟩
              simp only [intOf]
              omega
            · obtain rfl : k = 0 := by omega
              have h00 : Lib.bitLen 0 = 0 := by decide
              rw [h00]
              go_wp2_with fail
              go_ret2
              exact ⟨by simp [HE, hd], rfl⟩
        case false =>
          cases h3 : (s.toList == [102, 105, 110, 100])
          case true =>
            have HE : ctr s n = ⟨dg n, 0⟩ := by unfold ctr; rw [hr]; simp [h0, h1, h2, h3]
            clear hr
            go_enter Try.func17, Try.ntmps17
            go_wp2_with (go_at_call 55; refine (rroom_any _ _).mono ?_; rintro e w1 ⟨rfl, rfl⟩; rw [H.out])
            go_loop [6, 7] (fun x y => ∃ k : Nat, k ≤ 32 ∧ y = .int .i64 (k : Int) ∧ x = .int .i64 ((Lib.bitLen n.toNat : Int) - (Lib.bitLen k : Int))) (fun _ y => (intOf y).toNat)
            case atStart => exact ⟨n.toNat, by omega, by rw [Int.toNat_of_nonneg (by omega)], by simp⟩
            case round =>
              obtain ⟨k, hk, rfl, rfl⟩ := hrel
              have hk6 := dg_bd k hk
              by_cases hk0 : 0 < k
              · have hst := bl_step k hk0 hk
                have hkp : (0 : Int) < (k : Int) := by omega
                go_wp2_with fail
                refine ⟨⟨k / 2, by omega, by rw [Int.natCast_ediv]; rfl, by congr 1; omega⟩, ?_⟩
                simp only [intOf]
                omega
              · obtain rfl : k = 0 := by omega
                have h00 : Lib.bitLen 0 = 0 := by decide
                rw [h00]
                go_wp2_with fail
                go_ret2
                exact ⟨by simp [HE, hd], rfl⟩
          case false =>
            cases h4 : (s.toList == [105, 110, 115, 101, 114, 116])
            case true =>
              have HE : ctr s n = ⟨dg n + n, 0⟩ := by unfold ctr; rw [hr]; simp [h0, h1, h2, h3, h4]
              clear hr
              go_enter Try.func17, Try.ntmps17
              go_wp2_with (go_at_call 55; refine (rroom_any _ _).mono ?_; rintro e w1 ⟨rfl, rfl⟩; rw [H.out])
              go_loop [6, 7] (fun x y => ∃ k : Nat, k ≤ 32 ∧ y = .int .i64 (k : Int) ∧ x = .int .i64 ((Lib.bitLen n.toNat : Int) - (Lib.bitLen k : Int))) (fun _ y => (intOf y).toNat)
              case atStart => exact ⟨n.toNat, by omega, by rw [Int.toNat_of_nonneg (by omega)], by simp⟩
              case round =>
                obtain ⟨k, hk, rfl, rfl⟩ := hrel
                have hk6 := dg_bd k hk
                by_cases hk0 : 0 < k
                · have hst := bl_step k hk0 hk
                  have hkp : (0 : Int) < (k : Int) := by omega
                  go_wp2_with fail
                  refine ⟨⟨k / 2, by omega, by rw [Int.natCast_ediv]; rfl, by congr 1; omega⟩, ?_⟩
                  simp only [intOf]
                  omega
                · obtain rfl : k = 0 := by omega
                  have h00 : Lib.bitLen 0 = 0 := by decide
                  rw [h00]
                  go_wp2_with fail
                  go_ret2
                  exact ⟨by simp [HE, hd], rfl⟩
            case false =>
              cases h5 : (s.toList == [114, 101, 109, 111, 118, 101])
              case true =>
                have HE : ctr s n = ⟨dg n + n, 0⟩ := by unfold ctr; rw [hr]; simp [h0, h1, h2, h3, h4, h5]
                clear hr
                go_enter Try.func17, Try.ntmps17
                go_wp2_with (go_at_call 55; refine (rroom_any _ _).mono ?_; rintro e w1 ⟨rfl, rfl⟩; rw [H.out])
                go_loop [6, 7] (fun x y => ∃ k : Nat, k ≤ 32 ∧ y = .int .i64 (k : Int) ∧ x = .int .i64 ((Lib.bitLen n.toNat : Int) - (Lib.bitLen k : Int))) (fun _ y => (intOf y).toNat)
                case atStart => exact ⟨n.toNat, by omega, by rw [Int.toNat_of_nonneg (by omega)], by simp⟩
                case round =>
                  obtain ⟨k, hk, rfl, rfl⟩ := hrel
                  have hk6 := dg_bd k hk
                  by_cases hk0 : 0 < k
                  · have hst := bl_step k hk0 hk
                    have hkp : (0 : Int) < (k : Int) := by omega
                    go_wp2_with fail
                    refine ⟨⟨k / 2, by omega, by rw [Int.natCast_ediv]; rfl, by congr 1; omega⟩, ?_⟩
                    simp only [intOf]
                    omega
                  · obtain rfl : k = 0 := by omega
                    have h00 : Lib.bitLen 0 = 0 := by decide
                    rw [h00]
                    go_wp2_with fail
                    go_ret2
                    exact ⟨by simp [HE, hd], rfl⟩
              case false =>
                skip
                have HE : ctr s n = ⟨0, 3⟩ := by unfold ctr; rw [hr]; simp [h0, h1, h2, h3, h4, h5]
                clear hr
                go_enter Try.func17, Try.ntmps17
                go_wp2_with (go_at_call 55; refine (rroom_any _ _).mono ?_; rintro e w1 ⟨rfl, rfl⟩; rw [H.out])
                go_loop [6, 7] (fun x y => ∃ k : Nat, k ≤ 32 ∧ y = .int .i64 (k : Int) ∧ x = .int .i64 ((Lib.bitLen n.toNat : Int) - (Lib.bitLen k : Int))) (fun _ y => (intOf y).toNat)
                case atStart => exact ⟨n.toNat, by omega, by rw [Int.toNat_of_nonneg (by omega)], by simp⟩
                case round =>
                  obtain ⟨k, hk, rfl, rfl⟩ := hrel
                  have hk6 := dg_bd k hk
                  by_cases hk0 : 0 < k
                  · have hst := bl_step k hk0 hk
                    have hkp : (0 : Int) < (k : Int) := by omega
                    go_wp2_with fail
                    refine ⟨⟨k / 2, by omega, by rw [Int.natCast_ediv]; rfl, by congr 1; omega⟩, ?_⟩
                    simp only [intOf]
                    omega
                  · obtain rfl : k = 0 := by omega
                    have h00 : Lib.bitLen 0 = 0 := by decide
                    rw [h00]
                    go_wp2_with fail
                    go_ret2
                    exact ⟨by simp [HE, hd], rfl⟩
end Lc
end Go.Proofs.Ytgdfbpphfanocaa
