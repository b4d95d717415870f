/-
  The statement CacheCosts: for every geometry and code the law returns true.
  Conditions: none beyond those of the given row.
-/
import Derived.Test.YtmjnakhpekbenaaCacheCostsF
import Derived.Test.YtmjnakhpekbenaaRows
import Derived.ProofKit
import Derived.OpenShut
import Derived.ShutString
import Derived.ChangeOld
import Derived.Lib.SmallJoins
set_option linter.unusedVariables false
set_option linter.unusedSimpArgs false
namespace Go.Proofs.Ytmjnakhpekbenaa.cacheCosts
set_option maxRecDepth 20000
set_option maxHeartbeats 4000000
open Go.ChangeShapes Go.WideShapes Go.ChangeAt Go.RowKit Go.Joins
open Go.ChangeMaps (open_string shut_string)
open Fw Ca

theorem walk (s y l m : Int) (p : Option Addr) (n cap : Nat) (c A B : Nat → Int) (w : World) (w0 : (Lit.int .i64 s).wf = true) (w1 : (Lit.int .i64 y).wf = true) (w2 : (Lit.int .i64 l).wf = true) (w3 : (Lit.int .i64 m).wf = true) (hR : Ec.RowIn w p n cap c A B) :
  Calls Try.prog 7 #[.agg #[vI s, vI y, vI l, vI m], .slice p n cap] w fun e w' => e = .returned (.bool true) ∧ Below w.heap.size w w' := by
 refine calls_of Try.func7 rfl (m := 62) rfl [(0, .agg #[vI s, vI y, vI l, vI m]), (1, .slice p n cap)] (Fr_enter [.agg #[vI s, vI y, vI l, vI m], .slice p n cap] 62 (Nat.le_of_ble_eq_true rfl)) ?_
 have hH1 : HP Tr w w [] := HP.refl w
 refine WC.seq fun K2 hK2 => WC.region ?_
 refine WL.alloc (c := #[vI s, vI y, vI l, vI m]) (T := 23) hH1 2 rfl (by decide) rfl rfl (fun b2 => vP b2 0) (by kernel_rfl) (fun b2 w3 hw3 => ?_)
 have hH4 : HP Tr w w3 [.cel b2 #[vI s, vI y, vI l, vI m] 23] := hw3.2
 have nb2 := hw3.1
 clear hw3
 refine WL.z (.bool false) 4 (WL.k hK2 (WC.seq fun K5 hK5 => WC.seq fun K6 hK6 => WC.region (WL.z (.slice p n cap) 13 (WL.z (vI (n : Int)) 14 ?_))))
 by_cases hn : (400 : Int) < (n : Int)
 ·
  refine WL.y (.bool true) 15 (x_gtr rfl rfl rfl (dT (hn))) (WL.k hK6 ?_)
  refine WC.yes rfl ?_
  refine WC.seq fun K7 hK7 => WC.region ?_
  refine WL.c 16 #[] 16 ?_
  refine (sane_any _).mono ?_
  rintro e w8 ⟨rfl, hb9⟩
  refine ⟨_, rfl, ?_⟩
  have hH10 := HP.call hH4 hb9
  refine WL.z (.bool true) 4 (WL.k hK7 (WC.ret ?_))
  refine WQ.thenRet ?_
  refine WQ.ret1 4 rfl rfl ?_
  exact ⟨rfl, HP.below hH10⟩
 ·
  refine WL.y (.bool false) 15 (x_gtr rfl rfl rfl (dF (hn))) (WL.k hK6 ?_)
  refine WC.no rfl ?_
  refine WC.skip (WQ.then (hK5 _ _ _ (WC.seq fun K11 hK11 => WC.region (WL.y (.agg #[vI s, vI y, vI l, vI m]) 18 (x_loadS (cs := [vI s, vI y, vI l, vI m]) rfl rfl Try.underlying23 rfl sz23 (HP.range hH4 0 rfl rfl)) (WL.z (.slice p n cap) 19 ?_)))))
  refine WL.c 24 #[.agg #[vI s, vI y, vI l, vI m], .slice p n cap] 20 ?_
  refine (PenaltyU s y l m p n cap c A B _ (hR.inC.below (HP.below hH4)) (by omega)).mono ?_
  rintro e w12 ⟨rfl, hb13⟩
  refine ⟨_, rfl, ?_⟩
  have hH14 := HP.call hH4 hb13
  refine WL.z (.tuple #[vI (penU s y l m c A B n), vI (errU s y l m c A B n)]) 17 (WL.z (vI (penU s y l m c A B n)) 21 (WL.z (vI (errU s y l m c A B n)) 22 (WL.z (vI (penU s y l m c A B n)) 5 (WL.z (vI (errU s y l m c A B n)) 6 (WL.k hK11 (WC.sb [(0, .agg #[vI s, vI y, vI l, vI m]), (1, .slice p n cap), (2, vP b2 0), (4, .bool false), (5, vI (penU s y l m c A B n)), (6, vI (errU s y l m c A B n)), (15, .bool false)] (WC.seq fun K15 hK15 => WC.region (WL.y (.agg #[vI s, vI y, vI l, vI m]) 24 (x_loadS (cs := [vI s, vI y, vI l, vI m]) rfl rfl Try.underlying23 rfl sz23 (HP.range hH14 0 rfl rfl)) ?_))))))))
  refine WL.z (.slice p n cap) 25 ?_
  refine WL.c 25 #[.agg #[vI s, vI y, vI l, vI m], .slice p n cap] 26 ?_
  refine (rPenaltyU s y l m p n cap c A B _ (hR.inC.below (HP.below hH14)) (by omega)).mono ?_
  rintro e w16 ⟨rfl, hb17⟩
  refine ⟨_, rfl, ?_⟩
  have hH18 := HP.call hH14 hb17
  refine WL.z (.tuple #[vI (penU s y l m c A B n), vI (errU s y l m c A B n)]) 23 (WL.z (vI (penU s y l m c A B n)) 27 (WL.z (vI (errU s y l m c A B n)) 28 (WL.z (vI (penU s y l m c A B n)) 7 (WL.z (vI (errU s y l m c A B n)) 8 (WL.k hK15 (WC.sb [(0, .agg #[vI s, vI y, vI l, vI m]), (1, .slice p n cap), (2, vP b2 0), (4, .bool false), (5, vI (penU s y l m c A B n)), (6, vI (errU s y l m c A B n)), (7, vI (penU s y l m c A B n)), (8, vI (errU s y l m c A B n)), (15, .bool false)] (WC.seq fun K19 hK19 => WC.region (WL.y (.agg #[vI s, vI y, vI l, vI m]) 30 (x_loadS (cs := [vI s, vI y, vI l, vI m]) rfl rfl Try.underlying23 rfl sz23 (HP.range hH18 0 rfl rfl)) ?_))))))))
  refine WL.z (.slice p n cap) 31 ?_
  refine WL.c 26 #[.agg #[vI s, vI y, vI l, vI m], .slice p n cap] 32 ?_
  refine (ReloadU s y l m p n cap c A B _ (hR.inC.below (HP.below hH18)) (by omega)).mono ?_
  rintro e w20 ⟨rfl, hb21⟩
  refine ⟨_, rfl, ?_⟩
  have hH22 := HP.call hH18 hb21
  refine WL.z (.tuple #[vI (relU s y l m c A B n), vI (errU s y l m c A B n)]) 29 (WL.z (vI (relU s y l m c A B n)) 33 (WL.z (vI (errU s y l m c A B n)) 34 (WL.z (vI (relU s y l m c A B n)) 9 (WL.z (vI (errU s y l m c A B n)) 10 (WL.k hK19 (WC.sb [(0, .agg #[vI s, vI y, vI l, vI m]), (1, .slice p n cap), (2, vP b2 0), (4, .bool false), (5, vI (penU s y l m c A B n)), (6, vI (errU s y l m c A B n)), (7, vI (penU s y l m c A B n)), (8, vI (errU s y l m c A B n)), (9, vI (relU s y l m c A B n)), (10, vI (errU s y l m c A B n)), (15, .bool false)] (WC.seq fun K23 hK23 => WC.region (WL.y (.agg #[vI s, vI y, vI l, vI m]) 36 (x_loadS (cs := [vI s, vI y, vI l, vI m]) rfl rfl Try.underlying23 rfl sz23 (HP.range hH22 0 rfl rfl)) ?_))))))))
  refine WL.z (.slice p n cap) 37 ?_
  refine WL.c 27 #[.agg #[vI s, vI y, vI l, vI m], .slice p n cap] 38 ?_
  refine (rReloadU s y l m p n cap c A B _ (hR.inC.below (HP.below hH22)) (by omega)).mono ?_
  rintro e w24 ⟨rfl, hb25⟩
  refine ⟨_, rfl, ?_⟩
  have hH26 := HP.call hH22 hb25
  refine WL.z (.tuple #[vI (relU s y l m c A B n), vI (errU s y l m c A B n)]) 35 (WL.z (vI (relU s y l m c A B n)) 39 (WL.z (vI (errU s y l m c A B n)) 40 (WL.z (vI (relU s y l m c A B n)) 11 (WL.z (vI (errU s y l m c A B n)) 12 (WL.k hK23 (WC.sb [(0, .agg #[vI s, vI y, vI l, vI m]), (1, .slice p n cap), (2, vP b2 0), (4, .bool false), (5, vI (penU s y l m c A B n)), (6, vI (errU s y l m c A B n)), (7, vI (penU s y l m c A B n)), (8, vI (errU s y l m c A B n)), (9, vI (relU s y l m c A B n)), (10, vI (errU s y l m c A B n)), (11, vI (relU s y l m c A B n)), (12, vI (errU s y l m c A B n)), (15, .bool false)] (WC.seq fun K27 hK27 => WC.region (WL.z (vI (penU s y l m c A B n)) 41 ?_))))))))
  refine WL.z (vI (penU s y l m c A B n)) 42 (WL.y (.bool true) 43 (x_eql rfl rfl rfl (dT (rfl))) (WL.z (.bool true) 44 (WL.z (vI (errU s y l m c A B n)) 45 (WL.z (vI (errU s y l m c A B n)) 46 (WL.y (.bool true) 47 (x_eql rfl rfl rfl (dT (rfl))) (WL.z (.bool true) 48 (WL.z (.bool true) 49 (WL.z (vI (relU s y l m c A B n)) 50 (WL.z (vI (relU s y l m c A B n)) 51 (WL.y (.bool true) 52 (x_eql rfl rfl rfl (dT (rfl))) (WL.z (.bool true) 53 ?_)))))))))))
  refine WL.z (.bool true) 54 (WL.z (vI (errU s y l m c A B n)) 55 (WL.z (vI (errU s y l m c A B n)) 56 (WL.y (.bool true) 57 (x_eql rfl rfl rfl (dT (rfl))) (WL.z (.bool true) 58 (WL.z (.bool true) 59 ?_)))))
  refine WL.c 16 #[] 60 ?_
  refine (sane_any _).mono ?_
  rintro e w28 ⟨rfl, hb29⟩
  refine ⟨_, rfl, ?_⟩
  have hH30 := HP.call hH26 hb29
  refine WL.z (.bool true) 61 (WL.z (.bool true) 4 (WL.k hK27 (WC.sb [(0, .agg #[vI s, vI y, vI l, vI m]), (1, .slice p n cap), (2, vP b2 0), (4, .bool true), (5, vI (penU s y l m c A B n)), (6, vI (errU s y l m c A B n)), (7, vI (penU s y l m c A B n)), (8, vI (errU s y l m c A B n)), (9, vI (relU s y l m c A B n)), (10, vI (errU s y l m c A B n)), (11, vI (relU s y l m c A B n)), (12, vI (errU s y l m c A B n)), (15, .bool false)] (WC.ret ?_))))
  refine WQ.ret1 4 rfl rfl ?_
  exact ⟨rfl, HP.below hH30⟩

theorem own : ownKnob Try.prog.godebug = none := by kernel_rfl
theorem laidOut : laidOutB Try.prog = true := by kernel_rfl
theorem cells23 : Try.prog.cellsOf 23 = 4 := by kernel_rfl

set_option maxRecDepth 100000 in
theorem lifted (os : Os) (started : os.Started) (H : Type) (enc : TypeId × Value → H) :
    ReturnsInHanded {} Try.checked os 7 .any (Rows.cacheCostsSpec.pre6 enc Try.prog Try.f7 Rows.cacheCostsRow.domain false) (Rows.cacheCostsSpec.post enc Try.prog Try.f7 false true false false) := by
  refine returnsInHanded_of_change (C := Try.checked) own started (by kernel_rfl) Try.func7
    (ChangeSpec.witness6 (enc := enc) (C := Try.checked) false ⟨#[], #[.agg #[.int .i64 0, .int .i64 0, .int .i64 0, .int .i64 0], .slice none 0 0], []⟩ 8 (by kernel_rfl) (by kernel_rfl) (by kernel_rfl) (by kernel_rfl)) ?_
  intro W base args ds gs before hval0 hW hcnd _
  have hval : ∀ (j : Nat) t v, Try.f7.params[j]? = some t → args[j]? = some v → Value.okWide Try.prog W .any base t v := hval0
  have hW' := hW
  obtain ⟨p, q, hA0, hV, rfl, hfz, hnd⟩ := hW
  have hA : DataW.TrodAll enc Try.prog W 0 (fun _ => true) true Try.f7.params.toList args.toList ds p := hA0
  rw [Try.params7] at hA hval
  obtain ⟨v0, vs0, d0, ds0, p0, q0, hargs, rfl, rfl, h0, r0⟩ := trodAll_cons hA
  obtain ⟨v1, vs1, d1, ds1, p1, q1, rfl, rfl, rfl, h1, r1⟩ := trodAll_cons r0
  obtain ⟨rfl, rfl, rfl⟩ := trodAll_nil r1
  obtain rfl : args = #[v0, v1] := by cases args; simp_all
  obtain ⟨rfl, rfl⟩ := trodVars_none hV
  have k0 := h0
  have lt0 : ∀ x ∈ p0, x.block < W.heap.size := by obtain ⟨m, hm⟩ := k0; exact DataW.trod_lt m _ _ _ hm
  obtain ⟨c0_0, c0_1, c0_2, c0_3, y0_0, y0_1, y0_2, y0_3, m0, rfl, hd0, hp0, hy0_0, hy0_1, hy0_2, hy0_3⟩ := open_agg4 Try.underlying23 (by kernel_rfl) cells23 (hval 0 23 v0 rfl rfl) h0
  obtain ⟨a0_0, e0_0, -, w0_0⟩ := DataW.trod_int Try.underlying3 hy0_0
  simp at e0_0
  subst e0_0
  obtain ⟨a0_1, e0_1, -, w0_1⟩ := DataW.trod_int Try.underlying3 hy0_1
  simp at e0_1
  subst e0_1
  obtain ⟨a0_2, e0_2, -, w0_2⟩ := DataW.trod_int Try.underlying3 hy0_2
  simp at e0_2
  subst e0_2
  obtain ⟨a0_3, e0_3, -, w0_3⟩ := DataW.trod_int Try.underlying3 hy0_3
  simp at e0_3
  subst e0_3
  clear hd0 hp0
  have k1 := h1
  have lt1 : ∀ x ∈ p1, x.block < W.heap.size := by obtain ⟨m, hm⟩ := k1; exact DataW.trod_lt m _ _ _ hm
  obtain ⟨b1, n1, cap1, rfl⟩ := okWide_slice Try.underlying42 (hval 1 42 v1 rfl rfl)
  obtain ⟨c1, A1, B1, hrow1⟩ := Ec.rows3 h1 lt1
  clear hA0 hval0
  refine (walk a0_0 a0_1 a0_2 a0_3 b1 n1 cap1 c1 A1 B1 W w0_0 w0_1 w0_2 w0_3 hrow1).mono fun e W' ⟨he, bel⟩ => ?_
  subst he
  exact ⟨_, rfl, _, _, _, [], _, [], hW', trodAll_mk1 (shut_bool Try.underlying4 _), (trodAll_cons_mk (Below.trod laidOut (by kernel_rfl) (of_decide_eq_true (by kernel_rfl)) k0 bel lt0) (trodAll_cons_mk (Below.trod laidOut (by kernel_rfl) (of_decide_eq_true (by kernel_rfl)) k1 bel lt1) trodAll_mk0)), rfl, bel.frame _, fun h => by cases h⟩

theorem over : Rows.cacheCostsRow.holds Try.pinned (OpenSpec.ofChange Rows.cacheCostsSpec) :=
  OpenClaim.holds_of_wide 7 Try.f7 rfl rfl rfl rfl rfl rfl rfl ⟨rfl, rfl, rfl, rfl, rfl⟩ rfl rfl rfl rfl rfl (by kernel_rfl) Try.func7 (by kernel_rfl)
    (of_decide_eq_true (by kernel_rfl)) (by unfold Func.isWrapper; first | (rw [if_pos (by decide +kernel)]; kernel_rfl) | (rw [if_neg (by decide +kernel)]; exact ⟨rfl, rfl⟩))
    (fun os started H enc _ => lifted os started H enc)

theorem proved : Rows.CacheCostsSaid := over
end Go.Proofs.Ytmjnakhpekbenaa.cacheCosts
