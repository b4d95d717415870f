/-
  The statement LibMaps: for every room and script of calls the law returns true.
  Conditions: none beyond those of the given row.
-/
import Derived.Test.YtgdfbpphfanocaaRows
import Derived.Test.YtgdfbpphfanocaaDM
import Derived.Test.YtgdfbpphfanocaaCY
import Derived.ProofKit
import Derived.OpenShut
import Derived.ShutString
import Derived.ChangeOld
import Derived.Lib.SmallJoins
set_option linter.unusedVariables false
set_option linter.unusedSimpArgs false
namespace Go.Proofs.Ytgdfbpphfanocaa.libMaps
open Go.ChangeShapes Go.WideShapes Go.ChangeAt Go.RowKit Go.Joins
open Go.ChangeMaps (open_string shut_string)
open Go.Sort Lc Go.Maps

set_option maxRecDepth 20000 in
set_option maxHeartbeats 4000000 in
theorem walk_bad (room : Int) (p : Option Addr) (n cap : Nat) (w : World) (hr : rm room = false) :
    Calls Try.prog 3 #[.int .i64 room, .slice p n cap] w fun e w' => e = .returned (.bool true) ∧ Below w.heap.size w w' := by
  have hn := rm_no hr
  have Hr := hide hr
  clear hr
  rcases hn with hn | ⟨hn, hn2⟩
  all_goals
    go_enter Try.func3, Try.ntmps3
    go_wp2_with fail
    refine (New_bad room _ Hr.out).mono ?_
    rintro e ws ⟨rfl, rfl⟩
    go_wp2_with fail
    refine (sane_any _).mono ?_
    rintro e w2 ⟨rfl, hb2⟩
    go_wp2_with fail
    go_ret
    exact ⟨rfl, hb2⟩
set_option maxHeartbeats 8000000 in
set_option maxRecDepth 20000 in
theorem walk (room : Int) (p : Option Addr) (n cap : Nat) (f : Nat → O5) (w : World) (w0 : (Lit.int .i64 room).wf = true) (hrow : OpsRow w p n cap f) :
    Calls Try.prog 3 #[.int .i64 room, .slice p n cap] w fun e w' => e = .returned (.bool true) ∧ Below w.heap.size w w' := by
  cases hr : rm room
  · exact walk_bad room p n cap w hr
  · obtain ⟨r1, r2⟩ := rm_t hr
    obtain ⟨m, rfl⟩ : ∃ m : Nat, room = (m : Int) := ⟨room.toNat, by omega⟩
    have m1 : 1 ≤ m := by omega
    have m2 : m ≤ 32 := by omega
    clear hr w0 r1 r2
    have hcap : (cap : Int) ≤ 9223372036854775807 := by have := hrow.hc; unfold maxLen at this; omega
    have hnc : (n : Int) ≤ (cap : Int) := by have := hrow.hn; omega
    have hmm := @run_makeMap Try.prog
    go_enter Try.func3, Try.ntmps3
    go_wp2_with fail
    refine (New_ok m _ m1 m2).mono ?_
    rintro e w1 ⟨rfl, hT1, hb1⟩
    have hz1 := hb1.size
    have ho1 := World.ownsMap_made w1 Try.prog 3 (plainElem (H := Unit) Try.prog 3)
    have hbz := hT1.bz
    have hT2 := hT1.below ((Below.refl w1.heap.size w1).alloc (Nat.le_refl _) (.map #[] 0))
    have hB2 := hb1.trans ((Below.refl w.heap.size w1).alloc hz1 (.map #[] 0))
    obtain ⟨b, hbq⟩ : ∃ b, b = w.heap.size + 1 := ⟨_, rfl⟩
    obtain ⟨c, hcq⟩ : ∃ c, c = w.heap.size := ⟨_, rfl⟩
    obtain ⟨mb, hmq⟩ : ∃ mb, mb = w1.heap.size := ⟨_, rfl⟩
    have k1 : w.heap.size ≤ c := by omega
    have k2 : w.heap.size ≤ mb := by omega
    have k3 : b ≠ mb := by omega
    have k4 : c ≠ mb := by omega
    rw [← hbq, ← hcq] at hT2
    rw [← hmq] at ho1
    rw [← hbq]
    clear hT1 hb1 hbz hbq hcq hz1
    have Hmq := hide hmq
    clear hmq
    go_wp2_with fail
    rw [← Hmq.out]
    clear Hmq hmm
    go_loopw [8] (fun i wr => ∃ (k : Nat) (t : Nat → Cl) (D : DataW Unit), k ≤ n ∧ k ≤ 120 ∧ i = .int .i64 (k : Int) ∧ Tab wr b c m t ∧ Lc.Hid (∃ r, Inv m t r ∧ Rel m t D) ∧ Lc.Hid (Wd t m) ∧ Owns wr mb k D ∧ Below w.heap.size w wr) (fun i _ => ((n : Int) - intOf i).toNat)
    case atStart => exact ⟨0, zero, .map [], by omega, by omega, rfl, hT2, hide ⟨_, Inv.zero m, Rel.start m⟩, hide (Wd.zero m), ho1, hB2⟩
    case round =>
      clear hT2 hB2 ho1
      obtain ⟨k, t, D, hk, hk2, rfl, hT, hI, hW, hown, hb⟩ := hrel
      by_cases hlt : k < n ∧ k < 120
      · obtain ⟨q1, q2⟩ := hlt
        obtain ⟨a, rfl⟩ := hrow.som (by omega)
        have row := hrow.below hb
        have d0 := row.c0 a k rfl q1
        have d1 := row.c1 a k rfl q1
        have d2 := row.c2 a k rfl q1
        have d3 := row.c3 a k rfl q1
        have d4 := row.c4 a k rfl q1
        have q3 : (k : Int) < (n : Int) := by omega
        clear row
        obtain ⟨od, hod⟩ : ∃ od, od = (f k).d := ⟨_, rfl⟩
        obtain ⟨oa, hoa⟩ : ∃ oa, oa = (f k).a := ⟨_, rfl⟩
        obtain ⟨ov, hov⟩ : ∃ ov, ov = (f k).v := ⟨_, rfl⟩
        rw [← hod] at d0
        rw [← hoa] at d1
        rw [← hov] at d2
        clear hod hoa hov
        have hsz := hb.size
        have e1 : mb ≠ wr.heap.size := Nat.ne_of_lt hown.lt
        have e2 : c ≠ wr.heap.size := Nat.ne_of_lt hT.cz
        have e3 : wr.heap.size ≠ c := Ne.symm e2
        have e4 : wr.heap.size ≠ mb := Ne.symm e1
        have qT := hT.below ((Below.refl wr.heap.size wr).alloc (Nat.le_refl _) (.cells #[.int .i64 od, .int .i64 oa, .int .i64 ov, .bool (f k).f, .string (f k).s] 30))
        have qO : Owns (wr.alloc (.cells #[.int .i64 od, .int .i64 oa, .int .i64 ov, .bool (f k).f, .string (f k).s] 30)) mb k D := hown.alloc _
        have qB := hb.trans ((Below.refl w.heap.size wr).alloc hsz (.cells #[.int .i64 od, .int .i64 oa, .int .i64 ov, .bool (f k).f, .string (f k).s] 30))
        by_cases x1 : oa < -2147483648
        · go_wp2_with fail
          exact ⟨⟨k + 1, t, D, by omega, by omega, by push_cast; rfl, qT, hI, hW, qO.mono (by omega), qB⟩, by simp [intOf]; omega⟩
        by_cases x2 : 2147483647 < oa
        · go_wp2_with fail
          exact ⟨⟨k + 1, t, D, by omega, by omega, by push_cast; rfl, qT, hI, hW, qO.mono (by omega), qB⟩, by simp [intOf]; omega⟩
        by_cases x3 : ov < -2147483648
        · go_wp2_with fail
          exact ⟨⟨k + 1, t, D, by omega, by omega, by push_cast; rfl, qT, hI, hW, qO.mono (by omega), qB⟩, by simp [intOf]; omega⟩
        by_cases x4 : 2147483647 < ov
        · go_wp2_with fail
          exact ⟨⟨k + 1, t, D, by omega, by omega, by push_cast; rfl, qT, hI, hW, qO.mono (by omega), qB⟩, by simp [intOf]; omega⟩
        have wa : -2147483648 ≤ oa ∧ oa ≤ 2147483647 := by omega
        have wv : -2147483648 ≤ ov ∧ ov ≤ 2147483647 := by omega
        have hkey : keyOf Try.prog 3 (.int .i64 oa) = some (.int .i64 oa) := keyOf_int_mk Try.underlying3 (WalkArith.wf_i64 (by omega))
        have wfv : (Lit.int .i64 ov).wf = true := WalkArith.wf_i64 (by omega)
        obtain ⟨r, hI1, hR⟩ := hI.out
        have HH := hide (hR.has_eq hI1 oa)
        by_cases y1 : od = 1
        · subst y1
          go_wp2_with (at_lookup; refine wpList_lookup_own_ok_int _ rfl _ _ 28 rfl 3 3 .i64 law3 Try.underlying28 Try.underlying3 (zero3 _) mb k D rfl qO _ _ rfl hkey ?_; intro cc hat hwc; rw [HH.out])
          refine (Put_any b c m t oa ov _ qT m1 m2 wa wv).mono ?_
          rintro e w3 ⟨rfl, hT3, hC1⟩
          have bx1 : w3.cell? ⟨wr.heap.size, 1, none⟩ = some (.int .i64 oa) := by rw [hC1.cell _ _ (by simp) e3]; simp
          have bx2 : w3.cell? ⟨wr.heap.size, 2, none⟩ = some (.int .i64 ov) := by rw [hC1.cell _ _ (by simp) e3]; simp
          have o3 := own_chg qO hC1 (Ne.symm k4)
          have b3 := qB.trans (hC1.below w.heap.size k1 (by simp; omega))
          have z3 : wr.heap.size + 1 ≤ w3.heap.size := by have := hC1.size; simpa using this
          by_cases hfull : (fnd t m oa).1 < 0
          · obtain ⟨p1, p2⟩ := put_full (v := ov) hfull
            obtain ⟨p3, p4⟩ := full hfull
            have P2 := hide p2
            have SZ := hide (show Maps.size D = m by rw [hR.sz, p4])
            have hlen := o3.len Try.underlying28 3
            rw [SZ.out] at hlen
            rw [p1] at hT3
            rw [P2.out, p3]
            clear hfull p1 p2 p3 p4
            set_option maxRecDepth 20000 in go_wp2_with fail
            exact ⟨⟨k + 1, t, D, by omega, by omega, by push_cast; rfl, hT3, hI, hW, o3.mono (by omega), b3⟩, by simp [intOf]; omega⟩
          · have P2 := hide (putE_ok hfull)
            have HN := hide (show ∃ r, Inv m (Lc.put t m oa ov) r ∧ Rel m (Lc.put t m oa ov) (D.put (.int .i64 oa) (.lit (.int .i64 ov))) by
              obtain ⟨r', hr'⟩ := hI1.put oa ov
              exact ⟨r', hr', hR.put hI1 oa ov hfull⟩)
            have HW := hide (hW.out.put oa ov (by simp [wd, wa]))
            rw [P2.out]
            clear hfull
            go_wp2_with (at_mapUpdate; refine wpList_mapUpdate_own _ rfl _ _ _ 28 rfl 3 3 law3 Try.underlying28 _ mb k D rfl o3 (by unfold maxLen; omega) _ _ _ rfl rfl hkey _ [] (plainElem_int Try.underlying3 wfv) ?_; intro w4 hown4 hgrow4)
            have hC4 := Chg.of_grown hgrow4
            have hT4 := hT3.chg' hC4 k3 k4
            have b4 := b3.trans (hC4.below w.heap.size k2 b3.size)
            refine (Len_any b c m ((Lc.put t m oa ov)) _ hT4 m1 m2).mono ?_
            rintro e wl ⟨rfl, hbl⟩
            have oL := own_below hown4 hbl
            have tL := hT4.below hbl
            have bL := b4.trans (hbl.mono b4.size)
            have SZ := hide (HN.out.choose_spec.2).sz
            set_option maxRecDepth 20000 in go_wp2_with (at_len; refine wpList_len_own _ rfl _ 28 rfl 3 3 Try.underlying28 _ mb (k + 1) (D.put (.int .i64 oa) (.lit (.int .i64 ov))) rfl oL ?_; rw [SZ.out])
            exact ⟨⟨k + 1, (Lc.put t m oa ov), (D.put (.int .i64 oa) (.lit (.int .i64 ov))), by omega, by omega, by push_cast; rfl, tL, HN, HW, oL.mono (by omega), bL⟩, by simp [intOf]; omega⟩
        have y1' : (od == 1) = false := by simpa using y1
        by_cases y2 : od = 2
        · subst y2
          go_wp2_with (at_lookup; refine wpList_lookup_own_ok_int _ rfl _ _ 28 rfl 3 3 .i64 law3 Try.underlying28 Try.underlying3 (zero3 _) mb k D rfl qO _ _ rfl hkey ?_; intro cc hat hwc; rw [HH.out])
          refine (Get_any b c m t oa _ qT m1 m2 wa).mono ?_
          rintro e w3 ⟨rfl, hb3⟩
          have hC1 := Chg.of_below (c := c) hb3
          have bx1 : w3.cell? ⟨wr.heap.size, 1, none⟩ = some (.int .i64 oa) := by rw [hC1.cell _ _ (by simp) e3]; simp
          have bx2 : w3.cell? ⟨wr.heap.size, 2, none⟩ = some (.int .i64 ov) := by rw [hC1.cell _ _ (by simp) e3]; simp
          have o3 := own_below qO hb3
          have hT3 := qT.below hb3
          have b3 := qB.trans (hb3.mono (by simp; omega))
          have z3 : wr.heap.size + 1 ≤ w3.heap.size := by have := hC1.size; simpa using this
          have HN := hI
          have HW := hW
          cases hF : isF t m oa
          case false =>
            have G2 := hide (getE_eq hF)
            rw [G2.out]
            clear hF
            set_option maxRecDepth 20000 in go_wp2_with fail
            refine (Len_any b c m (t) _ hT3 m1 m2).mono ?_
            rintro e wl ⟨rfl, hbl⟩
            have oL := own_below o3 hbl
            have tL := hT3.below hbl
            have bL := b3.trans (hbl.mono b3.size)
            have SZ := hide (hR).sz
            set_option maxRecDepth 20000 in go_wp2_with (at_len; refine wpList_len_own _ rfl _ 28 rfl 3 3 Try.underlying28 _ mb k D rfl oL ?_; rw [SZ.out])
            exact ⟨⟨k + 1, t, D, by omega, by omega, by push_cast; rfl, tL, HN, HW, oL.mono (by omega), bL⟩, by simp [intOf]; omega⟩
          case true =>
            have G2 := hide (getE_eq hF)
            have hcc : cc = getV t m oa := by
              have := hR.val hF (.lit (.int .i64 0))
              rw [hat] at this
              injection this with q; injection q
            clear hat
            subst hcc
            rw [G2.out]
            clear hF
            set_option maxRecDepth 20000 in go_wp2_with fail
            refine (Len_any b c m (t) _ hT3 m1 m2).mono ?_
            rintro e wl ⟨rfl, hbl⟩
            have oL := own_below o3 hbl
            have tL := hT3.below hbl
            have bL := b3.trans (hbl.mono b3.size)
            have SZ := hide (hR).sz
            set_option maxRecDepth 20000 in go_wp2_with (at_len; refine wpList_len_own _ rfl _ 28 rfl 3 3 Try.underlying28 _ mb k D rfl oL ?_; rw [SZ.out])
            exact ⟨⟨k + 1, t, D, by omega, by omega, by push_cast; rfl, tL, HN, HW, oL.mono (by omega), bL⟩, by simp [intOf]; omega⟩
        have y2' : (od == 2) = false := by simpa using y2
        by_cases y3 : od = 3
        · subst y3
          go_wp2_with (at_lookup; refine wpList_lookup_own_ok_int _ rfl _ _ 28 rfl 3 3 .i64 law3 Try.underlying28 Try.underlying3 (zero3 _) mb k D rfl qO _ _ rfl hkey ?_; intro cc hat hwc; rw [HH.out])
          refine (Delete_any b c m t oa _ qT m1 m2 wa hW.out).mono ?_
          rintro e w3 ⟨rfl, hT3, hC1⟩
          have bx1 : w3.cell? ⟨wr.heap.size, 1, none⟩ = some (.int .i64 oa) := by rw [hC1.cell _ _ (by simp) e3]; simp
          have bx2 : w3.cell? ⟨wr.heap.size, 2, none⟩ = some (.int .i64 ov) := by rw [hC1.cell _ _ (by simp) e3]; simp
          have o3 := own_chg qO hC1 (Ne.symm k4)
          have b3 := qB.trans (hC1.below w.heap.size k1 (by simp; omega))
          have z3 : wr.heap.size + 1 ≤ w3.heap.size := by have := hC1.size; simpa using this
          have HN := hide (show ∃ r, Inv m (Lc.del t m oa) r ∧ Rel m (Lc.del t m oa) (D.del (.int .i64 oa)) by
            obtain ⟨r', hr'⟩ := (hI1.del oa).1
            exact ⟨r', hr', hR.del hI1 oa⟩)
          have HW := hide (hW.out.del m1 oa)
          cases hF : isF t m oa
          all_goals
            have G2 := hide (getE_eq hF)
            rw [G2.out]
            clear hF
            set_option maxRecDepth 20000 in go_wp2_with (at_delete; refine wpList_delete_own _ rfl _ _ 28 3 rfl 3 law3 Try.underlying28 _ mb k D rfl o3 _ _ rfl hkey ?_; intro w4 hown4 hturn4)
            have hC4 := Chg.of_grown hturn4.grown
            have hT4 := hT3.chg' hC4 k3 k4
            have b4 := b3.trans (hC4.below w.heap.size k2 b3.size)
            refine (Len_any b c m ((Lc.del t m oa)) _ hT4 m1 m2).mono ?_
            rintro e wl ⟨rfl, hbl⟩
            have oL := own_below hown4 hbl
            have tL := hT4.below hbl
            have bL := b4.trans (hbl.mono b4.size)
            have SZ := hide (HN.out.choose_spec.2).sz
            set_option maxRecDepth 20000 in go_wp2_with (at_len; refine wpList_len_own _ rfl _ 28 rfl 3 3 Try.underlying28 _ mb k (D.del (.int .i64 oa)) rfl oL ?_; rw [SZ.out])
            exact ⟨⟨k + 1, (Lc.del t m oa), (D.del (.int .i64 oa)), by omega, by omega, by push_cast; rfl, tL, HN, HW, oL.mono (by omega), bL⟩, by simp [intOf]; omega⟩
        have y3' : (od == 3) = false := by simpa using y3
        have HN := hI
        have HW := hW
        go_wp2_with (at_lookup; refine wpList_lookup_own_ok_int _ rfl _ _ 28 rfl 3 3 .i64 law3 Try.underlying28 Try.underlying3 (zero3 _) mb k D rfl qO _ _ rfl hkey ?_; intro cc hat hwc; rw [HH.out])
        refine (Len_any b c m (t) _ qT m1 m2).mono ?_
        rintro e wl ⟨rfl, hbl⟩
        have oL := own_below qO hbl
        have tL := qT.below hbl
        have bL := qB.trans (hbl.mono qB.size)
        have SZ := hide (hR).sz
        set_option maxRecDepth 20000 in go_wp2_with (at_len; refine wpList_len_own _ rfl _ 28 rfl 3 3 Try.underlying28 _ mb k D rfl oL ?_; rw [SZ.out])
        exact ⟨⟨k + 1, t, D, by omega, by omega, by push_cast; rfl, tL, HN, HW, oL.mono (by omega), bL⟩, by simp [intOf]; omega⟩
      · have hcase : ¬ k < n ∨ (k < n ∧ ¬ k < 120) := by omega
        rcases hcase with hc | ⟨hc, hc2⟩
        case' inl => obtain rfl : k = n := by omega
        case' inr => obtain rfl : k = 120 := by omega
        all_goals
          go_wp2_with fail
          refine (sane_any _).mono ?_
          rintro e w7 ⟨rfl, hb7⟩
          go_wp2_with fail
          go_ret
          exact ⟨rfl, hb.trans (hb7.mono hb.size)⟩

theorem own : ownKnob Try.prog.godebug = none := by kernel_rfl
theorem laidOut : laidOutB Try.prog = true := by kernel_rfl

set_option maxRecDepth 100000 in
theorem lifted (os : Os) (started : os.Started) (H : Type) (enc : TypeId × Value → H) :
    ReturnsInHanded {} Try.checked os 3 .any (Rows.libMapsSpec.pre6 enc Try.prog Try.f3 Rows.libMapsRow.domain false) (Rows.libMapsSpec.post enc Try.prog Try.f3 false true false false) := by
  refine returnsInHanded_of_change (C := Try.checked) own started (by kernel_rfl) Try.func3
    (ChangeSpec.witness6 (enc := enc) (C := Try.checked) false ⟨#[], #[.int .i64 0, .slice none 0 0], []⟩ 8 (by kernel_rfl) (by kernel_rfl) (by kernel_rfl) (by kernel_rfl)) ?_
  intro W base args ds gs before hval0 hW hcnd _
  have hval : ∀ (j : Nat) t v, Try.f3.params[j]? = some t → args[j]? = some v → Value.okWide Try.prog W .any base t v := hval0
  have hW' := hW
  obtain ⟨p, q, hA0, hV, rfl, hfz, hnd⟩ := hW
  have hA : DataW.TrodAll enc Try.prog W 0 (fun _ => true) true Try.f3.params.toList args.toList ds p := hA0
  rw [Try.params3] at hA hval
  obtain ⟨v0, vs0, d0, ds0, p0, q0, hargs, rfl, rfl, h0, r0⟩ := trodAll_cons hA
  obtain ⟨v1, vs1, d1, ds1, p1, q1, rfl, rfl, rfl, h1, r1⟩ := trodAll_cons r0
  obtain ⟨rfl, rfl, rfl⟩ := trodAll_nil r1
  obtain rfl : args = #[v0, v1] := by cases args; simp_all
  obtain ⟨rfl, rfl⟩ := trodVars_none hV
  obtain ⟨a0, rfl, rfl, rfl, w0⟩ := open_int Try.underlying3 (hval 0 3 v0 rfl rfl) h0
  have k1 := h1
  have lt1 : ∀ x ∈ p1, x.block < W.heap.size := by obtain ⟨m, hm⟩ := k1; exact DataW.trod_lt m _ _ _ hm
  obtain ⟨b1, n1, cap1, rfl⟩ := okWide_slice Try.underlying22 (hval 1 22 v1 rfl rfl)
  obtain ⟨f1, hrow1⟩ := rows5 h1 lt1
  clear hA0 hval0
  refine (walk a0 b1 n1 cap1 f1 W w0 hrow1).mono fun e W' ⟨he, bel⟩ => ?_
  subst he
  exact ⟨_, rfl, _, _, _, [], _, [], hW', trodAll_mk1 (shut_bool Try.underlying4 _), (trodAll_cons_mk (shut_int Try.underlying3 w0) (trodAll_cons_mk (Below.trod laidOut (by kernel_rfl) (of_decide_eq_true (by kernel_rfl)) k1 bel lt1) trodAll_mk0)), rfl, bel.frame _, fun h => by cases h⟩

theorem over : Rows.libMapsRow.holds Try.pinned (OpenSpec.ofChange Rows.libMapsSpec) :=
  OpenClaim.holds_of_wide 3 Try.f3 rfl rfl rfl rfl rfl rfl rfl ⟨rfl, rfl, rfl, rfl, rfl⟩ rfl rfl rfl rfl rfl (by kernel_rfl) Try.func3 (by kernel_rfl)
    (of_decide_eq_true (by kernel_rfl)) (by unfold Func.isWrapper; first | (rw [if_pos (by decide +kernel)]; kernel_rfl) | (rw [if_neg (by decide +kernel)]; exact ⟨rfl, rfl⟩))
    (fun os started H enc _ => lifted os started H enc)

/-- the statement -/
theorem proved : Rows.LibMapsSaid := over
end Go.Proofs.Ytgdfbpphfanocaa.libMaps
