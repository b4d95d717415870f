/- The program's table: Cells. -/
import Derived.Test.YtgdfbpphfanocaaCV
set_option linter.unusedVariables false
set_option linter.unusedSimpArgs false
namespace Go.Proofs.Ytgdfbpphfanocaa
open Go.RowKit Go.Sort
namespace Lc

theorem infoA : (Try.prog.info? 48).map (fun i => (i.zero, i.size, i.bytes)) = some (some (.agg #[.int .i64 0, .int .i64 0, .int .i64 0]), 3, 24) := by kernel_rfl
def cellL (x : Cl) : List Value := if x.u then [.int .i64 1, .int .i64 x.k, .int .i64 x.v] else [.int .i64 0, .int .i64 0, .int .i64 0]
def cellsL (t : Nat → Cl) : Nat → List Value
  | 0 => []
  | k + 1 => cellsL t k ++ cellL (t k)
set_option maxHeartbeats 4000000 in
theorem Cells_any (b c n : Nat) (t : Nat → Cl) (w : World) (h : Tab w b c n t) (hn : 1 ≤ n) (hn2 : n ≤ 32) :
    Calls Try.prog 21 #[.pointer (some ⟨b, 0, none⟩)] w fun e w' => ∃ v, e = .returned v ∧ w'.ownsRow w.heap.size 48 3 v n (cellsL t n) ∧ Below w.heap.size w w' := by
  have hs := h.s
  obtain ⟨i0, hi, hzz⟩ := Option.map_eq_some_iff.1 infoA
  simp only [Prod.mk.injEq] at hzz
  obtain ⟨hz0, hz1, hz2⟩ := hzz
  go_enter Try.func21, Try.ntmps21
  go_wp2_with fail
  refine (none_any b c n t _ h hn hn2).mono ?_
  rintro e ws ⟨rfl, rfl⟩
  go_wp2_with fail
  go_loopw [3, 13] (fun v i wr => ∃ k : Nat, k ≤ n ∧ i = .int .i64 (k : Int) ∧ wr.ownsRow w.heap.size 48 3 v k (cellsL t k) ∧ Below w.heap.size w wr) (fun _ i _ => ((n : Int) - intOf i).toNat)
  case atStart => exact ⟨0, by omega, rfl, World.ownsRow_nil _ _ _ _, Below.refl _ _⟩
  case round =>
    obtain ⟨k, hk, rfl, hown, hb⟩ := hrel
    have ht := h.below hb
    by_cases hlt : k < n
    · have hkn : (k : Int) < (n : Int) := by omega
      have u2 := ht.u _ hlt
      have k2 := ht.k _ hlt
      have v2 := ht.v _ hlt
      cases hu : (t k).u
      case false =>
        have hcl := hide (show cellL (t k) = [Value.int .i64 0, .int .i64 0, .int .i64 0] by unfold cellL; rw [hu]; rfl)
        rw [hu] at u2
        clear hu
        go_wp2_with (at_builtin; refine wpList_append_own _ rfl _ _ 46 rfl w.heap.size 48 i0 _ 3 24 Try.underlying46 hi hz0 hz1 hz2 rfl (by decide) _ _ _ rfl ((hown.alloc _).alloc _) _ 1 1 [Value.int .i64 0, .int .i64 0, .int .i64 0] rfl rfl ?c1 ?c2 ?c3 ?c4 ?c5 ?_)
        case c1 =>
          intro j u hj
          match j, hj with
          | 0, hj => simp at hj; subst hj; simp [Addr.add, go_sem]
          | 1, hj => simp at hj; subst hj; simp [Addr.add, go_sem]
          | 2, hj => simp at hj; subst hj; simp [Addr.add, go_sem]
        case c2 => intro u hu2; simp at hu2; first | (subst hu2; rfl) | (rcases hu2 with rfl | rfl | rfl <;> rfl)
        case c3 => unfold maxLen; omega
        case c4 => omega
        case c5 => have := hb.size; simp; omega
        · intro v' w1 hown' hgrow hnn
          have hb2 := Below.grown ((hb.alloc hb.size _).alloc (by have := hb.size; simp; omega) _) hgrow (by have := hb.size; simp; omega) (fun g hg => (hown.lt g hg).1)
          go_wp2_with fail
          exact ⟨⟨k + 1, by omega, by push_cast; rfl, by rw [cellsL, hcl.out]; exact hown', hb2⟩, by simp [intOf]; omega⟩
      case true =>
        have hcl := hide (show cellL (t k) = [Value.int .i64 1, .int .i64 (t k).k, .int .i64 (t k).v] by unfold cellL; rw [hu]; rfl)
        rw [hu] at u2
        clear hu
        go_wp2_with (at_builtin; refine wpList_append_own _ rfl _ _ 46 rfl w.heap.size 48 i0 _ 3 24 Try.underlying46 hi hz0 hz1 hz2 rfl (by decide) _ _ _ rfl ((hown.alloc _).alloc _) _ 1 1 [Value.int .i64 1, .int .i64 (t k).k, .int .i64 (t k).v] rfl rfl ?c1 ?c2 ?c3 ?c4 ?c5 ?_)
        case c1 =>
          intro j u hj
          match j, hj with
          | 0, hj => simp at hj; subst hj; simp [Addr.add, go_sem]
          | 1, hj => simp at hj; subst hj; simp [Addr.add, go_sem]
          | 2, hj => simp at hj; subst hj; simp [Addr.add, go_sem]
        case c2 => intro u hu2; simp at hu2; first | (subst hu2; rfl) | (rcases hu2 with rfl | rfl | rfl <;> rfl)
        case c3 => unfold maxLen; omega
        case c4 => omega
        case c5 => have := hb.size; simp; omega
        · intro v' w1 hown' hgrow hnn
          have hb2 := Below.grown ((hb.alloc hb.size _).alloc (by have := hb.size; simp; omega) _) hgrow (by have := hb.size; simp; omega) (fun g hg => (hown.lt g hg).1)
          go_wp2_with fail
          exact ⟨⟨k + 1, by omega, by push_cast; rfl, by rw [cellsL, hcl.out]; exact hown', hb2⟩, by simp [intOf]; omega⟩
    · obtain rfl : k = n := by omega
      go_wp2_with fail
      go_ret
      exact ⟨_, rfl, hown, hb⟩
end Lc
end Go.Proofs.Ytgdfbpphfanocaa
