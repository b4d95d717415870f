/- Contract of the program's Sum. -/
import Derived.Test.YtlcgfhliaalccaaRU
set_option linter.unusedVariables false
set_option linter.unusedSimpArgs false
namespace Go.Proofs.Ytlcgfhliaalccaa
open Go.RowKit Go.Sort Rt
namespace Rc

set_option maxHeartbeats 20000000 in
theorem Sum_any (p : Option Addr) (n cap : Nat) (f g : Nat → Int) (w : World) (h : Row w p n cap f g) :
    Calls Try.prog 40 #[.slice p n cap] w fun e' w' => e' = .returned (.tuple #[.agg #[.int .i64 (tot n f g).n, .int .i64 (tot n f g).d], .int .i64 (tot n f g).e]) ∧ Below w.heap.size w w' := by
  obtain ⟨hlt, hsome, hc0, hc1, hn, hc⟩ := h
  by_cases h20 : n ≤ 20
  · go_enter Try.func40, Try.ntmps40
    go_wp2_with fail
    go_loopw [17] (fun i wr => ∃ k : Nat, k ≤ n ∧ i = .int .i64 (k : Int) ∧ Hid (∀ i, i < k → val (f i) (g i) = true) ∧ SW w wr) (fun i _ => ((n : Int) - intOf i).toNat)
    case atStart => exact ⟨0, by omega, rfl, hide (fun i hi => absurd hi (by omega)), by simp [go_sem], by simp [go_sem], by simp [go_sem], by simp [go_sem], by go_grown, by simp [go_sem]⟩
    case round =>
      obtain ⟨k, hk, rfl, hv, hs⟩ := hrel
      have hs0 := hs
      obtain ⟨z0, z1, f0, f1, hb, hz⟩ := hs
      by_cases hlt2 : k < n
      · obtain ⟨a, rfl⟩ := hsome (by omega)
        have hl := hlt a rfl (by omega)
        have d0 : wr.cell? (a.add (k * 2)) = some (.int .i64 (f k)) := by rw [hb.cell (by rw [add_block]; exact hl)]; exact hc0 a k rfl hlt2
        have d1 : wr.cell? ⟨(a.add (k * 2)).block, (a.add (k * 2)).off + 1, none⟩ = some (.int .i64 (g k)) := by rw [hb.cell (by show (a.add (k * 2)).block < _; rw [add_block]; exact hl)]; exact hc1 a k rfl hlt2
        have hl2 := Nat.ne_of_lt hz
        cases hvk : val (f k) (g k)
        · have HE := hide (tot_bad hlt2 hvk)
          have HV := hide hvk
          clear hvk
          go_wp2_with fail
          refine (valid_any (f k) (g k) _).mono ?_
          rintro e w1 ⟨rfl, hb1⟩
          rw [HV.out]
          have hb1' := Below.trans (((Below.refl wr.heap.size wr).alloc (Nat.le_refl _) _)) (hb1.mono (by simp))
          obtain ⟨y0, y1, v0, v1, hb2, hz2⟩ := SW.below hs0 hb1'
          clear hb1 z0 z1 f0 f1 hb hz d0 d1
          go_wp2_with fail
          refine bodyR3 (n := (tot n f g).n) (d := (tot n f g).d) (e := (tot n f g).e) (by rw [HE.out]; simp [results, Try.results40, go_sem, y0, y1, v0, v1]) rfl rfl rfl rfl ?_
          go_grown
        · have HV := hide hvk
          go_wp2_with fail
          refine (valid_any (f k) (g k) _).mono ?_
          rintro e w1 ⟨rfl, hb1⟩
          rw [HV.out]
          have hb1' := Below.trans (((Below.refl wr.heap.size wr).alloc (Nat.le_refl _) _)) (hb1.mono (by simp))
          have hs := SW.below hs0 hb1'
          clear hb1 hb1' z0 z1 f0 f1 hb hz d0 d1
          go_wp2_with fail
          exact ⟨⟨k + 1, by omega, by push_cast; rfl, hide (fun i hi => by
            by_cases c : i < k
            · exact hv.out i c
            · obtain rfl : i = k := by omega
              exact HV.out), hs⟩, by simp [intOf]; omega⟩
      · obtain rfl : k = n := by omega
        have ha := allv_mk hv.out
        obtain ⟨b, hbq⟩ : ∃ b, b = wr.heap.size := ⟨_, rfl⟩
        clear hv
        go_wp2_with fail
        go_loopw [29] (fun i wr => ∃ j : Nat, j ≤ k ∧ i = .int .i64 (j : Int) ∧ (acc f g j).e = 0 ∧ SV w wr b (acc f g j).n (acc f g j).d) (fun i _ => ((k : Int) - intOf i).toNat)
        case atStart =>
          subst hbq
          have n0 : w.heap.size ≠ wr.heap.size := by omega
          have m0 : wr.heap.size ≠ w.heap.size := by omega
          refine ⟨0, by omega, rfl, rfl, ⟨?_, ?_, ?_, ?_, by go_grown, ?_⟩, ?_, ?_, ?_, ?_, ?_, hz⟩
          all_goals (first | (simp [go_sem, z0, z1, f0, f1, n0, m0, hz, cell_past, frozen_past, acc]; done) | (simp [go_sem, acc]; omega))
        case round =>
          clear z0 z1 f0 f1 hb hz
          subst hbq
          obtain ⟨j, hj, rfl, he0, hsv⟩ := hrel
          by_cases hlt3 : j < k
          · have hsv0 := hsv
            obtain ⟨⟨z0, z1, f0, f1, hb, hz⟩, b0, b1, g0, g1, hz2, hw2⟩ := hsv
            obtain ⟨a, rfl⟩ := hsome (by omega)
            have hl := hlt a rfl (by omega)
            have d0 : wr.cell? (a.add (j * 2)) = some (.int .i64 (f j)) := by rw [hb.cell (by rw [add_block]; exact hl)]; exact hc0 a j rfl hlt3
            have d1 : wr.cell? ⟨(a.add (j * 2)).block, (a.add (j * 2)).off + 1, none⟩ = some (.int .i64 (g j)) := by rw [hb.cell (by show (a.add (j * 2)).block < _; rw [add_block]; exact hl)]; exact hc1 a j rfl hlt3
            have k2 := fun o => (cell_past (o := o) (k := 0) hz2).trans b0
            have k3 := fun o => (cell_past (o := o) (k := 1) hz2).trans b1
            have hA : acc f g (j + 1) = add (acc f g j).n (acc f g j).d (f j) (g j) := by rw [acc, if_pos he0]
            have hwb : w.heap.size < wr.heap.size := hz
            go_wp2_with fail
            refine (Add_any (acc f g j).n (acc f g j).d (f j) (g j) _).mono ?_
            rintro e wA ⟨rfl, hbA⟩
            have hwA := Below.trans (((Below.refl wr.heap.size wr).alloc (Nat.le_refl _) _)) (hbA.mono (by simp))
            clear k2 k3 d0 d1 b0 b1 g0 g1 z0 z1 f0 f1 hb hz hbA
            have hsv1 := SV.below hsv0 hwA
            have hsv2 := hsv1
            obtain ⟨⟨z0, z1, f0, f1, hb, hz⟩, b0, b1, g0, g1, hz3, hw3⟩ := hsv2
            have l1 := Nat.ne_of_lt hz3
            have l2 := Nat.ne_of_lt hz
            by_cases he : (add (acc f g j).n (acc f g j).d (f j) (g j)).e = 0
            · go_wp2_with fail
              refine ⟨⟨j + 1, by omega, by push_cast; rfl, by rw [hA]; exact he, ?_⟩, by simp [intOf]; omega⟩
              rw [hA]
              first
                | with_reducible exact (SV.put hsv1 _ _).al _
                | with_reducible exact SV.put (hsv1.al _) _ _
            · have he2 : ((add (acc f g j).n (acc f g j).d (f j) (g j)).e != 0) = true := by simpa using he
              have HE := hide (tot_stop h20 ha hlt3 he0 he)
              go_wp2_with fail
              refine bodyR3 (n := (tot k f g).n) (d := (tot k f g).d) (e := (tot k f g).e) (by rw [HE.out]; simp [results, Try.results40, go_sem, z0, z1, f0, f1, l2, hz, cell_past, frozen_past]) rfl rfl rfl rfl ?_
              go_grown
          · obtain rfl : j = k := by omega
            obtain ⟨⟨z0, z1, f0, f1, hb, hz⟩, b0, b1, g0, g1, hz2, hw2⟩ := hsv
            have HE := hide (show tot j f g = ⟨(acc f g j).n, (acc f g j).d, 0⟩ by rw [tot_ok h20 ha, ← he0])
            go_wp2_with fail
            refine bodyR3 (n := (tot j f g).n) (d := (tot j f g).d) (e := (tot j f g).e) (by rw [HE.out]; simp [results, Try.results40, go_sem, z0, z1, f0, f1]) rfl rfl rfl rfl ?_
            go_grown
  · have HE := hide (tot_long (f := f) (g := g) h20)
    have h21 : (20 : Int) < (n : Int) := by omega
    go_enter Try.func40, Try.ntmps40
    go_wp2_with fail
    refine bodyR3 (n := (tot n f g).n) (d := (tot n f g).d) (e := (tot n f g).e) (by rw [HE.out]; simp [results, Try.results40, go_sem]) rfl rfl rfl rfl ?_
    go_grown
end Rc
end Go.Proofs.Ytlcgfhliaalccaa
