/- The reference's NewTable, Len, Cells; the law's rows and within; what both refuse. -/
import Derived.Test.YtgdfbpphfanocaaDB
import Derived.Deep.RegionHeld3
import Derived.Deep.AppendLies
set_option linter.unusedVariables false
set_option linter.unusedSimpArgs false
namespace Go.Proofs.Ytgdfbpphfanocaa
open Go.RowKit Go.Sort
namespace Lc

theorem infoR : (Try.prog.info? 87).map (fun i => (i.zero, i.size, i.bytes)) = some (some (.agg #[.bool false, .int .i64 0, .int .i64 0]), 3, 24) := by kernel_rfl
abbrev rowR (n : Nat) : Obj := .cells (madeCells #[.bool false, .int .i64 0, .int .i64 0] (n * 3)) 87
theorem makeR (n : Nat) (hn : n ≤ 32) (W : World) : (Instr.makeSlice 83 (.int .i64 (n : Int)) (.int .i64 (n : Int))).run Try.prog W = .ok (.slice (some ⟨W.heap.size, 0, none⟩) n n) (W.alloc (rowR n)) := by
  obtain ⟨i, hi, hzz⟩ := Option.map_eq_some_iff.1 infoR
  simp only [Prod.mk.injEq] at hzz
  obtain ⟨hz, hs, hb⟩ := hzz
  have hr := run_make (P := Try.prog) W 83 87 i _ Try.underlying83 hi hz .i64 .i64 (n : Int) (n : Int) (by omega) (by omega) (by rw [hb]; omega) (by omega)
  rw [hs, Int.toNat_natCast] at hr
  exact hr
theorem new_tabR (w : World) (n : Nat) (T : TypeId) : Tab ((w.alloc (rowR n)).alloc (.cells #[.slice (some ⟨w.heap.size, 0, none⟩) n n] T)) (w.heap.size + 1) w.heap.size n zero := by
  have hm : ∀ j, j < n * 3 → ((w.alloc (rowR n)).alloc (.cells #[.slice (some ⟨w.heap.size, 0, none⟩) n n] T)).cell? ⟨w.heap.size, j, none⟩ = some (#[Value.bool false, .int .i64 0, .int .i64 0][j % 3]!) := by
    intro j hj
    simp [go_sem, madeCells, hj]
  refine ⟨by simp [go_sem], fun i hi => ?_, fun i hi => ?_, fun i hi => ?_, fun i hi => by simp [go_sem], fun i hi => by simp [go_sem], fun i hi => by simp [go_sem], by omega, by simp, by simp; omega⟩
  · rw [hm _ (by omega), show i * 3 % 3 = 0 by omega]; rfl
  · rw [hm _ (by omega), show (i * 3 + 1) % 3 = 1 by omega]; rfl
  · rw [hm _ (by omega), show (i * 3 + 2) % 3 = 2 by omega]; rfl
theorem rNew_ok (n : Nat) (w : World) (hn : 1 ≤ n) (hn2 : n ≤ 32) :
    Calls Try.prog 18 #[.int .i64 (n : Int)] w fun e w' => e = .returned (.tuple #[.pointer (some ⟨w.heap.size + 1, 0, none⟩), .int .i64 0]) ∧ Tab w' (w.heap.size + 1) w.heap.size n zero ∧ Below w.heap.size w w' := by
  have H := hide (show rm (n : Int) = true by simp [rm]; omega)
  have hmk := makeR n hn2
  go_enter Try.func18, Try.ntmps18
  go_wp2_with (go_at_call 55; refine (rroom_any _ _).mono ?_; rintro e w1 ⟨rfl, rfl⟩; rw [H.out])
  go_ret2
  refine ⟨rfl, new_tabR _ n _, by go_grown⟩
theorem New_bad (n : Int) (w : World) (h : rm n = false) :
    Calls Try.prog 10 #[.int .i64 n] w fun e w' => e = .returned (.tuple #[.pointer none, .int .i64 1]) ∧ w = w' := by
  have H := hide h
  clear h
  go_enter Try.func10, Try.ntmps10
  go_wp2_with (go_at_call 49; refine (isRoom_any _ _).mono ?_; rintro e w1 ⟨rfl, rfl⟩; rw [H.out])
  go_ret2
  exact ⟨rfl, rfl⟩
theorem rNew_bad (n : Int) (w : World) (h : rm n = false) :
    Calls Try.prog 18 #[.int .i64 n] w fun e w' => e = .returned (.tuple #[.pointer none, .int .i64 1]) ∧ w = w' := by
  have H := hide h
  clear h
  go_enter Try.func18, Try.ntmps18
  go_wp2_with (go_at_call 55; refine (rroom_any _ _).mono ?_; rintro e w1 ⟨rfl, rfl⟩; rw [H.out])
  go_ret2
  exact ⟨rfl, rfl⟩
set_option maxHeartbeats 4000000 in
theorem rLen_any (b c n : Nat) (t : Nat → Cl) (w : World) (h : Tab w b c n t) (hn : 1 ≤ n) (hn2 : n ≤ 32) :
    Calls Try.prog 23 #[.pointer (some ⟨b, 0, none⟩)] w fun e w' => e = .returned (.int .i64 (cnt t n : Int)) ∧ w = w' := by
  have hs := h.s
  go_enter Try.func23, Try.ntmps23
  go_wp2_with fail
  go_loop [3, 4] (fun x i => ∃ k : Nat, k ≤ n ∧ i = .int .i64 (k : Int) ∧ x = .int .i64 (cnt t k : Int)) (fun _ i => ((n : Int) - intOf i).toNat)
  case atStart => exact ⟨0, by omega, rfl, rfl⟩
  case round =>
    obtain ⟨k, hk, rfl, rfl⟩ := hrel
    have hcn := cnt_le t k
    by_cases hlt : k < n
    · have hkn : (k : Int) < (n : Int) := by omega
      have u2 := h.u _ hlt
      cases hu : (t k).u
      case false =>
        have hct := hide (show cnt t (k + 1) = cnt t k by rw [cnt, hu]; rfl)
        rw [hu] at u2
        clear hu
        go_wp2_with fail
        exact ⟨⟨k + 1, by omega, by push_cast; rfl, by rw [hct.out]⟩, by simp [intOf]; omega⟩
      case true =>
        have hct := hide (show cnt t (k + 1) = cnt t k + 1 by rw [cnt, hu]; rfl)
        rw [hu] at u2
        clear hu
        go_wp2_with fail
        exact ⟨⟨k + 1, by omega, by push_cast; rfl, by rw [hct.out]; push_cast; rfl⟩, by simp [intOf]; omega⟩
    · obtain rfl : k = n := by omega
      go_wp2_with fail
      go_ret
      exact ⟨rfl, rfl⟩
set_option maxHeartbeats 4000000 in
theorem rCells_any (b c n : Nat) (t : Nat → Cl) (w : World) (h : Tab w b c n t) (hn : 1 ≤ n) (hn2 : n ≤ 32) :
    Calls Try.prog 22 #[.pointer (some ⟨b, 0, none⟩)] w fun e w' => ∃ v, e = .returned v ∧ w'.ownsRow w.heap.size 48 3 v n (cellsL t n) ∧ Below w.heap.size w w' := by
  obtain ⟨i0, hi, hzz⟩ := Option.map_eq_some_iff.1 infoA
  simp only [Prod.mk.injEq] at hzz
  obtain ⟨hz0, hz1, hz2⟩ := hzz
  go_enter Try.func22, Try.ntmps22
  go_wp2_with fail
  go_loopw [3, 4] (fun v i wr => ∃ (k : Nat) (vv : Value), k ≤ n ∧ vv = v ∧ i = .int .i64 (k : Int) ∧ wr.ownsRow w.heap.size 48 3 vv k (cellsL t k) ∧ Below w.heap.size w wr) (fun _ i _ => ((n : Int) - intOf i).toNat)
  case atStart => exact ⟨0, _, by omega, rfl, rfl, World.ownsRow_nil _ _ _ _, Below.refl _ _⟩
  case round =>
    obtain ⟨k, vv, hk, rfl, rfl, hown, hb⟩ := hrel
    have ht := h.below hb
    have hs := ht.s
    have hbz := h.bz
    have hcz := h.cz
    by_cases hlt : k < n
    · have hkn : (k : Int) < (n : Int) := by omega
      have hk0 : (0 : Int) ≤ (k : Int) := Int.natCast_nonneg _
      have u2 := ht.u _ hlt
      have k2 := ht.k _ hlt
      have v2 := ht.v _ hlt
      cases hu : (t k).u
      case false =>
        have hcl := hide (show cellL (t k) = [Value.int .i64 0, .int .i64 0, .int .i64 0] by unfold cellL; rw [hu]; rfl)
        rw [hu] at u2
        clear hu
        go_wp2_with (at_builtin; refine wpList_append_own _ rfl _ _ 46 rfl w.heap.size 48 i0 _ 3 24 Try.underlying46 hi hz0 hz1 hz2 rfl (by decide) _ _ _ rfl (hown.alloc _) _ 1 1 [Value.int .i64 0, .int .i64 0, .int .i64 0] rfl rfl ?c1 ?c2 ?c3 ?c4 ?c5 ?_)
        case c1 =>
          intro j u hj
          match j, hj with
          | 0, hj => simp at hj; subst hj; simp [Addr.add, go_sem]
          | 1, hj => simp at hj; subst hj; simp [Addr.add, go_sem]
          | 2, hj => simp at hj; subst hj; simp [Addr.add, go_sem]
        case c2 => intro u hu2; simp at hu2; first | (subst hu2; rfl) | (rcases hu2 with rfl | rfl | rfl <;> rfl)
        case c3 => unfold maxLen; omega
        case c4 => omega
        case c5 => have := hb.size; simp; omega
        · intro v' w1 hown' hgrow hnn
          have hb2 := Below.grown (hb.alloc hb.size _) hgrow (by have := hb.size; simp; omega) (fun g hg => (hown.lt g hg).1)
          go_wp2_with fail
          exact ⟨⟨k + 1, _, by omega, rfl, by push_cast; rfl, by rw [cellsL, hcl.out]; exact hown', hb2⟩, by simp [intOf]; omega⟩
      case true =>
        have hcl := hide (show cellL (t k) = [Value.int .i64 1, .int .i64 (t k).k, .int .i64 (t k).v] by unfold cellL; rw [hu]; rfl)
        have ag : vv.ownBlock ≠ some b := fun e => by have := (hown.lt b e).1; omega
        have ac : vv.ownBlock ≠ some c := fun e => by have := (hown.lt c e).1; omega
        have lb : b < wr.heap.size := ht.bz
        have lc : c < wr.heap.size := ht.cz
        have hbsz := hb.size
        rw [hu] at u2
        clear hu
        go_wp2_with fail
        set_option maxRecDepth 20000 in go_region_held3 (fun w' => w'.cell? ⟨b, 0, none⟩ = some (.slice (some ⟨c, 0, none⟩) n n) ∧ w'.cell? ⟨c, k * 3 + 1, none⟩ = some (.int .i64 (t k).k) ∧ w'.cell? ⟨c, k * 3 + 2, none⟩ = some (.int .i64 (t k).v))
          (first
            | go_keep
            | (go_split_ands
               refine ⟨?_, ?_, ?_⟩
               · (rw [hgrow.cell_far _ (by simp; omega) (Ne.symm ag)]; assumption)
               · (rw [hgrow.cell_far _ (by simp; omega) (Ne.symm ac)]; assumption)
               · (rw [hgrow.cell_far _ (by simp; omega) (Ne.symm ac)]; assumption)))
          ((refine step_append_lies _ (by rfl) _ _ _ (by rfl) w.heap.size 48 i0 _ 3 24 Try.underlying46 hi hz0 hz1 hz2 rfl (by omega) vv k (cellsL t k) (by rfl) ((hown.alloc _).drew)
              ⟨wr.heap.size, 0, none⟩ 1 1 [.int .i64 1, .int .i64 (t k).k, .int .i64 (t k).v] (by rfl) (by rfl) (World.news_of_block (cs := #[.int .i64 1, .int .i64 (t k).k, .int .i64 (t k).v]) (t := 48) (fr := (0, 0)) (heap_alloc_new wr _)) (by simp [Value.oneCell'])
              (by omega) (by unfold maxLen; omega) (by omega) (by simp; omega) (wr.heap.size + 1) (by simp) ?_; intro gg cap w1 hown1 hgrow hat hltz))
        have hb2 := Below.grown ((hb.alloc hb.size _).drew) hgrow (by simp; omega) (fun g hg => (hown.lt g hg).1)
        go_wp2_with fail
        exact ⟨⟨k + 1, _, by omega, rfl, by push_cast; rfl, by rw [cellsL, hcl.out]; exact hown1, hb2⟩, by simp [intOf]; omega⟩
    · obtain rfl : k = n := by omega
      go_wp2_with fail
      go_ret
      exact ⟨_, rfl, hown, hb⟩
end Lc
end Go.Proofs.Ytgdfbpphfanocaa
