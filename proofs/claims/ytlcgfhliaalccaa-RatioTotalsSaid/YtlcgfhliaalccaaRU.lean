/- Contract of the reference's Sum. -/
import Derived.Test.YtlcgfhliaalccaaRS
import Derived.Test.YtlcgfhliaalccaaRI
import Derived.Deep.RegionWith
set_option linter.unusedVariables false
set_option linter.unusedSimpArgs false
namespace Go.Proofs.Ytlcgfhliaalccaa
open Go.RowKit Go.Sort Rt
namespace Rc

/-- the result's block of Sum -/
structure SW (w wr : World) : Prop where
  z0 : wr.cell? ⟨w.heap.size, 0, none⟩ = some (.int .i64 0)
  z1 : wr.cell? ⟨w.heap.size, 1, none⟩ = some (.int .i64 0)
  f0 : wr.frozen? ⟨w.heap.size, 0, none⟩ = false
  f1 : wr.frozen? ⟨w.heap.size, 1, none⟩ = false
  hb : Below w.heap.size w wr
  hz : w.heap.size < wr.heap.size
theorem SW.below {w wr w' : World} (h : SW w wr) (hb : Below wr.heap.size wr w') : SW w w' :=
  ⟨by rw [hb.cell h.hz]; exact h.z0, by rw [hb.cell h.hz]; exact h.z1, by rw [hb.frozen h.hz]; exact h.f0, by rw [hb.frozen h.hz]; exact h.f1, h.hb.trans (hb.mono (by have := h.hz; omega)), Nat.lt_of_lt_of_le h.hz hb.size⟩
/-- and the block of what was added -/
structure SV (w wr : World) (b : Nat) (n d : Int) : Prop where
  s : SW w wr
  b0 : wr.cell? ⟨b, 0, none⟩ = some (.int .i64 n)
  b1 : wr.cell? ⟨b, 1, none⟩ = some (.int .i64 d)
  g0 : wr.frozen? ⟨b, 0, none⟩ = false
  g1 : wr.frozen? ⟨b, 1, none⟩ = false
  hz : b < wr.heap.size
  hw : w.heap.size < b
theorem SV.below {w wr w' : World} {b : Nat} {n d : Int} (h : SV w wr b n d) (hb : Below wr.heap.size wr w') : SV w w' b n d :=
  ⟨h.s.below hb, by rw [hb.cell h.hz]; exact h.b0, by rw [hb.cell h.hz]; exact h.b1, by rw [hb.frozen h.hz]; exact h.g0, by rw [hb.frozen h.hz]; exact h.g1, Nat.lt_of_lt_of_le h.hz hb.size, h.hw⟩
theorem SW.put {w wr : World} (h : SW w wr) (b : Nat) (hw : w.heap.size < b) (x y : Value) : SW w ((wr.setCell ⟨b, 0, none⟩ x).setCell ⟨b, 1, none⟩ y) := by
  obtain ⟨z0, z1, f0, f1, hb, hz⟩ := h
  have n0 : w.heap.size ≠ b := by omega
  have m0 : b ≠ w.heap.size := by omega
  refine ⟨?_, ?_, ?_, ?_, (hb.setCell (show w.heap.size ≤ b by omega) _).setCell (show w.heap.size ≤ b by omega) _, by simp [go_sem]; omega⟩
  all_goals (simp [go_sem, z0, z1, f0, f1, n0, m0])
theorem SV.put {w wr : World} {b : Nat} {n d : Int} (h : SV w wr b n d) (n' d' : Int) : SV w ((wr.setCell ⟨b, 0, none⟩ (.int .i64 n')).setCell ⟨b, 1, none⟩ (.int .i64 d')) b n' d' := by
  obtain ⟨s, b0, b1, g0, g1, hz, hw⟩ := h
  refine ⟨s.put b hw _ _, ?_, ?_, ?_, ?_, by simp [go_sem]; omega, hw⟩
  all_goals (simp [go_sem, b0, b1, g0, g1])

theorem SV.other {w wr : World} {b : Nat} {n d : Int} (h : SV w wr b n d) (c : Nat) (hc : w.heap.size < c) (hne : c ≠ b) (x y : Value) : SV w ((wr.setCell ⟨c, 0, none⟩ x).setCell ⟨c, 1, none⟩ y) b n d := by
  obtain ⟨s, b0, b1, g0, g1, hz, hw⟩ := h
  have n1 : b ≠ c := fun e => hne e.symm
  refine ⟨s.put c hc _ _, ?_, ?_, ?_, ?_, by simp [go_sem]; omega, hw⟩
  all_goals (simp [go_sem, b0, b1, g0, g1, hne, n1])
theorem SV.al {w wr : World} {b : Nat} {n d : Int} (h : SV w wr b n d) (o : Obj) : SV w (wr.alloc o) b n d := h.below ((Below.refl wr.heap.size wr).alloc (Nat.le_refl _) o)

set_option maxHeartbeats 20000000 in
theorem rSum_any (p : Option Addr) (n cap : Nat) (f g : Nat → Int) (w : World) (h : Row w p n cap f g) :
    Calls Try.prog 41 #[.slice p n cap] w fun e' w' => e' = .returned (.tuple #[.agg #[.int .i64 (tot n f g).n, .int .i64 (tot n f g).d], .int .i64 (tot n f g).e]) ∧ Below w.heap.size w w' := by
  obtain ⟨hlt, hsome, hc0, hc1, hn, hc⟩ := h
  by_cases h20 : n ≤ 20
  · go_enter Try.func41, Try.ntmps41
    go_wp2_with fail
    go_loopw [4] (fun i wr => ∃ k : Nat, k ≤ n ∧ i = .int .i64 (k : Int) ∧ Hid (∀ i, i < k → val (f i) (g i) = true) ∧ SW w wr) (fun i _ => ((n : Int) - intOf i).toNat)
    case atStart => exact ⟨0, by omega, rfl, hide (fun i hi => absurd hi (by omega)), by simp [go_sem], by simp [go_sem], by simp [go_sem], by simp [go_sem], by go_grown, by simp [go_sem]⟩
    case round =>
      obtain ⟨k, hk, rfl, hv, hs⟩ := hrel
      obtain ⟨z0, z1, f0, f1, hb, hz⟩ := hs
      by_cases hlt2 : k < n
      · obtain ⟨a, rfl⟩ := hsome (by omega)
        have hl := hlt a rfl (by omega)
        have d0 : wr.cell? (a.add (k * 2)) = some (.int .i64 (f k)) := by rw [hb.cell (by rw [add_block]; exact hl)]; exact hc0 a k rfl hlt2
        have d1 : wr.cell? ⟨(a.add (k * 2)).block, (a.add (k * 2)).off + 1, none⟩ = some (.int .i64 (g k)) := by rw [hb.cell (by show (a.add (k * 2)).block < _; rw [add_block]; exact hl)]; exact hc1 a k rfl hlt2
        cases hvk : val (f k) (g k)
        · have HE := hide (tot_bad hlt2 hvk)
          have HV := hide hvk
          clear hvk
          go_wp2_with fail
          refine (rvalid_any (f k) (g k) _).mono ?_
          rintro e w1 ⟨rfl, hb1⟩
          rw [HV.out]
          obtain ⟨y0, y1, v0, v1, hb2, hz2⟩ := SW.below ⟨z0, z1, f0, f1, hb, hz⟩ hb1
          clear hb1 z0 z1 f0 f1 hb hz d0 d1
          go_wp2_with fail
          refine bodyR3 (n := (tot n f g).n) (d := (tot n f g).d) (e := (tot n f g).e) (by rw [HE.out]; simp [results, Try.results41, go_sem, y0, y1, v0, v1]) rfl rfl rfl rfl ?_
          go_grown
        · have HV := hide hvk
          go_wp2_with fail
          refine (rvalid_any (f k) (g k) _).mono ?_
          rintro e w1 ⟨rfl, hb1⟩
          rw [HV.out]
          have hs := SW.below ⟨z0, z1, f0, f1, hb, hz⟩ hb1
          clear hb1 z0 z1 f0 f1 hb hz d0 d1
          go_wp2_with fail
          exact ⟨⟨k + 1, by omega, by push_cast; rfl, hide (fun i hi => by
            by_cases c : i < k
            · exact hv.out i c
            · obtain rfl : i = k := by omega
              exact HV.out), hs⟩, by simp [intOf]; omega⟩
      · obtain rfl : k = n := by omega
        have ha := allv_mk hv.out
        obtain ⟨b, hbq⟩ : ∃ b, b = wr.heap.size := ⟨_, rfl⟩
        clear hv
        go_wp2_with fail
        go_loopw [6] (fun i wr => ∃ j : Nat, j ≤ k ∧ i = .int .i64 (j : Int) ∧ (acc f g j).e = 0 ∧ SV w wr b (acc f g j).n (acc f g j).d) (fun i _ => ((k : Int) - intOf i).toNat)
        case atStart =>
          subst hbq
          have n0 : w.heap.size ≠ wr.heap.size := by omega
          have m0 : wr.heap.size ≠ w.heap.size := by omega
          refine ⟨0, by omega, rfl, rfl, ⟨?_, ?_, ?_, ?_, by go_grown, ?_⟩, ?_, ?_, ?_, ?_, ?_, hz⟩
          all_goals (first | (simp [go_sem, z0, z1, f0, f1, n0, m0, hz, cell_past, frozen_past, acc]; done) | (simp [go_sem, acc]; omega))
        case round =>
          clear z0 z1 f0 f1 hb hz
          subst hbq
          obtain ⟨j, hj, rfl, he0, hsv⟩ := hrel
          by_cases hlt3 : j < k
          · have hsv0 := hsv
            obtain ⟨⟨z0, z1, f0, f1, hb, hz⟩, b0, b1, g0, g1, hz2, hw2⟩ := hsv
            obtain ⟨a, rfl⟩ := hsome (by omega)
            have hl := hlt a rfl (by omega)
            have d0 : wr.cell? (a.add (j * 2)) = some (.int .i64 (f j)) := by rw [hb.cell (by rw [add_block]; exact hl)]; exact hc0 a j rfl hlt3
            have d1 : wr.cell? ⟨(a.add (j * 2)).block, (a.add (j * 2)).off + 1, none⟩ = some (.int .i64 (g j)) := by rw [hb.cell (by show (a.add (j * 2)).block < _; rw [add_block]; exact hl)]; exact hc1 a j rfl hlt3
            have hD : ∀ o, Below wr.heap.size wr (wr.drew.alloc o) := fun o => ((Below.refl wr.heap.size wr).drew).alloc (Nat.le_refl _) o
            have ha2 : (a.add (j * 2)).block < wr.heap.size := by rw [add_block]; have := hb.size; omega
            have k0 : ∀ o, (wr.drew.alloc o).cell? (a.add (j * 2)) = some (.int .i64 (f j)) := fun o => by rw [(hD o).cell ha2]; exact d0
            have k1 : ∀ o, (wr.drew.alloc o).cell? ⟨(a.add (j * 2)).block, (a.add (j * 2)).off + 1, none⟩ = some (.int .i64 (g j)) := fun o => ((hD o).cell (show (⟨(a.add (j * 2)).block, (a.add (j * 2)).off + 1, none⟩ : Addr).block < _ from ha2)).trans d1
            have k2 := fun o => ((hD o).cell (p := ⟨_, 0, none⟩) hz2).trans b0
            have k3 := fun o => ((hD o).cell (p := ⟨_, 1, none⟩) hz2).trans b1
            have hs : ∀ o, wr.heap.size < (wr.drew.alloc o).heap.size := fun o => by simp
            have hq0 : (wr.drew.alloc (.cells #[.int .i64 0, .int .i64 0] 23)).cell? ⟨wr.heap.size, 0, none⟩ = some (.int .i64 0) := by simp [go_sem]
            have hq1 : (wr.drew.alloc (.cells #[.int .i64 0, .int .i64 0] 23)).cell? ⟨wr.heap.size, 1, none⟩ = some (.int .i64 0) := by simp [go_sem]
            have hr0 : (wr.drew.alloc (.cells #[.int .i64 0, .int .i64 0] 23)).frozen? ⟨wr.heap.size, 0, none⟩ = false := by simp [go_sem]
            have hr1 : (wr.drew.alloc (.cells #[.int .i64 0, .int .i64 0] 23)).frozen? ⟨wr.heap.size, 1, none⟩ = false := by simp [go_sem]
            have hA : acc f g (j + 1) = add (acc f g j).n (acc f g j).d (f j) (g j) := by rw [acc, if_pos he0]
            have hD0 : Below wr.heap.size wr wr.drew := (Below.refl wr.heap.size wr).drew
            have nb := Nat.ne_of_lt hz2
            have nb' := Nat.ne_of_gt hz2
            have hwb : w.heap.size < wr.heap.size := hz
            go_wp2_with fail
            go_region_with (go_at_call 18; refine (rAdd_any _ _ _ _ _).mono ?_; rintro e wA ⟨rfl, hbA⟩; (first | (have hwA := Below.trans (hD _) (hbA.mono (Nat.le_of_lt (hs _))); have t0 := (hbA.cell (p := ⟨wr.heap.size, 0, none⟩) (hs _)).trans hq0; have t1 := (hbA.cell (p := ⟨wr.heap.size, 1, none⟩) (hs _)).trans hq1; have u0 := (hbA.frozen (p := ⟨wr.heap.size, 0, none⟩) (hs _)).trans hr0; have u1 := (hbA.frozen (p := ⟨wr.heap.size, 1, none⟩) (hs _)).trans hr1) | (have hwA := Below.trans hD0 (hbA.mono (Nat.le_refl wr.heap.size)))))
            all_goals (
              clear k0 k1 k2 k3 d0 d1 b0 b1 g0 g1 z0 z1 f0 f1 hb hz
              have hsv1 := SV.below hsv0 hwA
              have hsv2 := hsv1
              obtain ⟨⟨z0, z1, f0, f1, hb, hz⟩, b0, b1, g0, g1, hz3, hw3⟩ := hsv2
              have l1 := Nat.ne_of_lt hz3
              have l2 := Nat.ne_of_lt hz
              by_cases he : (add (acc f g j).n (acc f g j).d (f j) (g j)).e = 0
              · go_wp2_with fail
                refine ⟨⟨j + 1, by omega, by push_cast; rfl, by rw [hA]; exact he, ?_⟩, by simp [intOf]; omega⟩
                rw [hA]
                first
                  | with_reducible exact (SV.put hsv1 _ _).al _
                  | with_reducible exact SV.put (hsv1.al _) _ _
                  | with_reducible exact SV.put (hsv1.other _ hwb nb' _ _) _ _
              · have he2 : ((add (acc f g j).n (acc f g j).d (f j) (g j)).e != 0) = true := by simpa using he
                have HE := hide (tot_stop h20 ha hlt3 he0 he)
                go_wp2_with fail
                refine bodyR3 (n := (tot k f g).n) (d := (tot k f g).d) (e := (tot k f g).e) (by rw [HE.out]; simp [results, Try.results41, go_sem, z0, z1, f0, f1, l2, hz, cell_past, frozen_past]) rfl rfl rfl rfl ?_
                go_grown)
          · obtain rfl : j = k := by omega
            obtain ⟨⟨z0, z1, f0, f1, hb, hz⟩, b0, b1, g0, g1, hz2, hw2⟩ := hsv
            have HE := hide (show tot j f g = ⟨(acc f g j).n, (acc f g j).d, 0⟩ by rw [tot_ok h20 ha, ← he0])
            go_wp2_with fail
            refine bodyR3 (n := (tot j f g).n) (d := (tot j f g).d) (e := (tot j f g).e) (by rw [HE.out]; simp [results, Try.results41, go_sem, z0, z1, f0, f1]) rfl rfl rfl rfl ?_
            go_grown
  · have HE := hide (tot_long (f := f) (g := g) h20)
    have h21 : (20 : Int) < (n : Int) := by omega
    go_enter Try.func41, Try.ntmps41
    go_wp2_with fail
    refine bodyR3 (n := (tot n f g).n) (d := (tot n f g).d) (e := (tot n f g).e) (by rw [HE.out]; simp [results, Try.results41, go_sem]) rfl rfl rfl rfl ?_
    go_grown

end Rc
end Go.Proofs.Ytlcgfhliaalccaa
