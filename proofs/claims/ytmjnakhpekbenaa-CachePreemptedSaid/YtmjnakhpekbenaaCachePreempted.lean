/-
  The statement CachePreempted: for every geometry, code, way, state and moment the law returns true.
  Conditions: none beyond those of the given row.
-/
import Derived.Test.YtmjnakhpekbenaaCachePreemptedE
import Derived.Test.YtmjnakhpekbenaaRows
import Derived.ProofKit
import Derived.OpenShut
import Derived.ShutString
import Derived.ChangeOld
import Derived.Lib.SmallJoins
set_option linter.unusedVariables false
set_option linter.unusedSimpArgs false
namespace Go.Proofs.Ytmjnakhpekbenaa.cachePreempted
set_option maxRecDepth 20000
set_option maxHeartbeats 4000000
open Go.ChangeShapes Go.WideShapes Go.ChangeAt Go.RowKit Go.Joins
open Go.ChangeMaps (open_string shut_string)
open Fw Ca

theorem walk (s y l m : Int) (p : Option Addr) (n cap : Nat) (c A B : Nat → Int) (pk : Option Addr) (ck : Nat) (zs : List Int) (p3 : Option Addr) (cp3 : Nat) (S : List SlI) (wh : Int) (w : World) (w0 : (Lit.int .i64 s).wf = true) (w1 : (Lit.int .i64 y).wf = true) (w2 : (Lit.int .i64 l).wf = true) (w3 : (Lit.int .i64 m).wf = true) (hR : Ec.RowIn w p n cap c A B) (hL : SlIn w pk ck zs) (hS : StIn w p3 S) (w9 : (Lit.int .i64 wh).wf = true) :
  Calls Try.prog 8 #[.agg #[vI s, vI y, vI l, vI m], .slice p n cap, .slice pk zs.length ck, .slice p3 S.length cp3, vI wh] w fun e w' => e = .returned (.bool true) ∧ Below w.heap.size w w' := by
 refine calls_of Try.func8 rfl (m := 99) rfl [(0, .agg #[vI s, vI y, vI l, vI m]), (1, .slice p n cap), (2, .slice pk zs.length ck), (3, .slice p3 S.length cp3), (4, vI wh)] (Fr_enter [.agg #[vI s, vI y, vI l, vI m], .slice p n cap, .slice pk zs.length ck, .slice p3 S.length cp3, vI wh] 99 (Nat.le_of_ble_eq_true rfl)) ?_
 have hH1 : HP Tr w w [] := HP.refl w
 have hC := hR.inC
 have hK := hL.inn
 have hm0 := smX_in hS
 rcases Bool.eq_false_or_eq_true (okSt s y l m (stX S)) with hok | hok
 ·
  obtain ⟨hSs, hrl⟩ := okSt_rows hok
  have hg := (okSt_iff.1 hok).1
  subst hSs
  obtain ⟨⟨hs1, hs2⟩, ⟨hy1, hy2⟩, ⟨hlb1, hlb2⟩, hmb⟩ := vG_iff.1 hg
  refine WC.seq fun K2 hK2 => WC.region ?_
  refine WL.alloc (c := #[vI (S.length : Int), vI y, vI l, vI m]) (T := 23) hH1 5 rfl (by decide) rfl rfl (fun b5 => vP b5 0) (by kernel_rfl) (fun b5 w3 hw3 => ?_)
  have hH4 : HP Tr w w3 [.cel b5 #[vI (S.length : Int), vI y, vI l, vI m] 23] := hw3.2
  have nb5 := hw3.1
  clear hw3
  refine WL.z (.bool false) 10 (WL.k hK2 (WC.seq fun K5 hK5 => WC.seq fun K6 hK6 => WC.region (WL.y (.agg #[vI (S.length : Int), vI y, vI l, vI m]) 22 (x_loadS (cs := [vI (S.length : Int), vI y, vI l, vI m]) rfl rfl Try.underlying23 rfl sz23 (HP.range hH4 0 rfl rfl)) (WL.z (.slice p3 S.length cp3) 23 ?_))))
  refine WL.c 19 #[.agg #[vI (S.length : Int), vI y, vI l, vI m], .slice p3 S.length cp3] 24 ?_
  refine (rVSt_at hok p3 S cp3 _ (hS.below (HP.below hH4)).inn rfl hm0).mono ?_
  rintro e w7 ⟨rfl, hb8⟩
  refine ⟨_, rfl, ?_⟩
  have hH9 := HP.call hH4 hb8
  refine WL.z (.bool false) 25 (WL.z (.bool false) 26 (WL.z (.slice p n cap) 27 (WL.z (vI (n : Int)) 28 ?_)))
  by_cases h29 : (400 : Int) < (n : Int)
  ·
   refine WL.y (.bool true) 29 (x_gtr rfl rfl rfl (dT (h29))) (WL.z (.bool true) 30 (WL.z (.bool true) 31 (WL.p 32 (WL.p 33 (WL.p 34 (WL.z (.bool true) 35 (WL.k hK6 (WC.sb [(0, .agg #[vI (S.length : Int), vI y, vI l, vI m]), (1, .slice p n cap), (2, .slice pk zs.length ck), (3, .slice p3 S.length cp3), (4, vI wh), (5, vP b5 0), (10, .bool false), (35, .bool true)] ?_))))))))
   refine WC.yes rfl ?_
   refine WC.seq fun K10 hK10 => WC.region ?_
   refine WL.c 16 #[] 36 ?_
   refine (sane_any _).mono ?_
   rintro e w11 ⟨rfl, hb12⟩
   refine ⟨_, rfl, ?_⟩
   have hH13 := HP.call hH9 hb12
   refine WL.z (.bool true) 10 (WL.k hK10 (WC.ret ?_))
   refine WQ.thenRet ?_
   refine WQ.ret1 10 rfl rfl ?_
   exact ⟨rfl, HP.below (HP.call (HP.refl (S := Tr) w) (HP.below hH13))⟩
  ·
   refine WL.y (.bool false) 29 (x_gtr rfl rfl rfl (dF (h29))) (WL.z (.bool false) 30 (WL.z (.bool false) 31 (WL.z (.slice p n cap) 32 ?_)))
   rcases Bool.eq_false_or_eq_true (plC c A B n) with hpl | hpl
   ·
    refine WL.c 28 #[.slice p n cap] 33 ?_
    refine (Plain_at hpl p cap _ (hC.below (HP.below hH9)) (by omega)).mono ?_
    rintro e w14 ⟨rfl, hb15⟩
    refine ⟨_, rfl, ?_⟩
    have hH16 := HP.call hH9 hb15
    have hkC : okC (S.length : Int) y l m c A B n = true := by rw [okC_pl, hg, hpl]; rfl
    have hc0 := (okC_iff.1 hkC).2.1
    have hn9 := (Ec.chk_ok hc0).1
    have hpb := pen_bd (A := A) hg hc0
    have hrb := rel_bd (f := mk0 (S.length : Int) y l c n (trC c n)) (n := n) hg
    refine WL.z (.bool false) 34 (WL.z (.bool false) 35 (WL.k hK6 (WC.sb [(0, .agg #[vI (S.length : Int), vI y, vI l, vI m]), (1, .slice p n cap), (2, .slice pk zs.length ck), (3, .slice p3 S.length cp3), (4, vI wh), (5, vP b5 0), (10, .bool false), (35, .bool false)] ?_)))
    refine WC.no rfl ?_
    refine WC.skip (WQ.then (hK5 _ _ _ (WC.seq fun K17 hK17 => WC.region (WL.y (.agg #[vI (S.length : Int), vI y, vI l, vI m]) 38 (x_loadS (cs := [vI (S.length : Int), vI y, vI l, vI m]) rfl rfl Try.underlying23 rfl sz23 (HP.range hH16 0 rfl rfl)) (WL.z (.slice p n cap) 39 ?_)))))
    refine WL.c 24 #[.agg #[vI (S.length : Int), vI y, vI l, vI m], .slice p n cap] 40 ?_
    refine (Pen_yes (S.length : Int) y l m p n cap c A B _ (hC.below (HP.below hH16)) (by omega) hkC).mono ?_
    rintro e w18 ⟨rfl, hb19⟩
    refine ⟨_, rfl, ?_⟩
    have hH20 := HP.call hH16 hb19
    refine WL.z (.tuple #[vI (penV (S.length : Int) y l m c A n), vI 0]) 37 (WL.z (vI (penV (S.length : Int) y l m c A n)) 41 (WL.z (vI 0) 42 (WL.z (vI (penV (S.length : Int) y l m c A n)) 11 (WL.z (vI 0) 12 (WL.k hK17 (WC.sb [(0, .agg #[vI (S.length : Int), vI y, vI l, vI m]), (1, .slice p n cap), (2, .slice pk zs.length ck), (3, .slice p3 S.length cp3), (4, vI wh), (5, vP b5 0), (10, .bool false), (11, vI (penV (S.length : Int) y l m c A n)), (12, vI 0), (35, .bool false)] (WC.seq fun K21 hK21 => WC.region (WL.y (.agg #[vI (S.length : Int), vI y, vI l, vI m]) 44 (x_loadS (cs := [vI (S.length : Int), vI y, vI l, vI m]) rfl rfl Try.underlying23 rfl sz23 (HP.range hH20 0 rfl rfl)) ?_))))))))
    refine WL.z (.slice p n cap) 45 ?_
    refine WL.c 26 #[.agg #[vI (S.length : Int), vI y, vI l, vI m], .slice p n cap] 46 ?_
    refine (Rel_yes (S.length : Int) y l m p n cap c A B _ (hC.below (HP.below hH20)) (by omega) hkC).mono ?_
    rintro e w22 ⟨rfl, hb23⟩
    refine ⟨_, rfl, ?_⟩
    have hH24 := HP.call hH20 hb23
    refine WL.z (.tuple #[vI (m * (lnC l (mk0 (S.length : Int) y l c n (trC c n)) n 1000 : Int)), vI 0]) 43 (WL.z (vI (m * (lnC l (mk0 (S.length : Int) y l c n (trC c n)) n 1000 : Int))) 47 (WL.z (vI 0) 48 (WL.z (vI (m * (lnC l (mk0 (S.length : Int) y l c n (trC c n)) n 1000 : Int))) 13 (WL.z (vI 0) 14 (WL.k hK21 (WC.sb [(0, .agg #[vI (S.length : Int), vI y, vI l, vI m]), (1, .slice p n cap), (2, .slice pk zs.length ck), (3, .slice p3 S.length cp3), (4, vI wh), (5, vP b5 0), (10, .bool false), (11, vI (penV (S.length : Int) y l m c A n)), (12, vI 0), (13, vI (m * (lnC l (mk0 (S.length : Int) y l c n (trC c n)) n 1000 : Int))), (14, vI 0), (35, .bool false)] (WC.seq fun K25 hK25 => WC.seq fun K26 hK26 => WC.region ?_)))))))
    refine WL.z (vI 0) 49 (WL.y (.bool false) 50 (x_neq rfl rfl rfl (by decide)) (WL.z (.bool false) 51 (WL.z (vI 0) 52 (WL.y (.bool false) 53 (x_neq rfl rfl rfl (by decide)) (WL.z (.bool false) 54 (WL.k hK26 ?_))))))
    refine WC.no rfl ?_
    refine WC.skip (WQ.then (hK25 _ _ _ (WC.seq fun K27 hK27 => WC.region (WL.z (.slice p n cap) 55 (WL.z (.slice pk zs.length ck) 56 ?_)))))
    refine WL.c 29 #[.slice p n cap, .slice pk zs.length ck] 57 ?_
    refine (walk3_any p n cap c A B pk ck zs _ (hC.below (HP.below hH24)) hc0 (hK.below (HP.below hH24))).mono ?_
    rintro e wl ⟨pl, cl, xs, v9, r9, rfl, hW, hwk, hx9, hb⟩
    refine ⟨_, rfl, ?_⟩
    have hH28 := HP.call hH24 hb
    have hbw1 := HP.below hH28
    have hbox1 : ∀ i9, i9 < 1 → World.rangeAt wl b5 i9 [vI (S.length : Int), vI y, vI l, vI m] := fun i9 h9 => match i9, h9 with | 0, _ => HP.range hH28 0 rfl rfl | n + 1, h9 => absurd h9 (by omega)
    replace hC := hC.below hbw1
    replace hK := hK.below hbw1
    replace hS := hS.below hbw1
    have hBk1 := HP.call (HP.refl (S := Tr) w) hbw1
    have hH29 : HP Tr wl wl [] := HP.refl wl
    have hnl := nI_len xs
    have hle := miss_pre hg hc0 (show n ≤ 400 by omega) hok wh hwk
    refine WL.z (.slice pl ((nI xs).length) cl) 15 (WL.k hK27 (WC.sb [(0, .agg #[vI (S.length : Int), vI y, vI l, vI m]), (1, .slice p n cap), (2, .slice pk zs.length ck), (3, .slice p3 S.length cp3), (4, vI wh), (5, vP b5 0), (10, .bool false), (11, vI (penV (S.length : Int) y l m c A n)), (12, vI 0), (13, vI (m * (lnC l (mk0 (S.length : Int) y l c n (trC c n)) n 1000 : Int))), (14, vI 0), (15, .slice pl ((nI xs).length) cl), (35, .bool false), (54, .bool false)] (WC.seq fun K30 hK30 => WC.region (WL.z (.slice p3 S.length cp3) 58 ?_))))
    refine WL.c 11 #[.slice p3 S.length cp3] 59 ?_
    refine (own3_any p3 S cp3 _ (hS.below (HP.below hH29))).mono ?_
    rintro e wt ⟨pt, ct, S1, rfl, hX1, hI1, hb⟩
    refine ⟨_, rfl, ?_⟩
    have hH31 := HP.call hH29 hb
    have hbw2 := HP.below hH31
    have hbox2 : ∀ i9, i9 < 1 → World.rangeAt wt b5 i9 [vI (S.length : Int), vI y, vI l, vI m] := fun i9 h9 => HP.oldRange hH31 trivial (hbox1 i9 h9)
    replace hS := hS.below hbw2
    replace hW := hW.below hbw2
    have hBk2 := HP.call hBk1 hbw2
    have hH32 : HP Tr wt wt [] := HP.refl wt
    refine WL.z (.slice pt S1.length ct) 16 (WL.k hK30 (WC.seq fun K33 hK33 => WC.region (WL.z (vI 0) 17 (WL.k hK33 (WC.seq fun K34 hK34 => WC.seq fun K35 hK35 => ?_)))))
    refine WC.region (WL.z (vI 0) 18 (WL.k hK35 (WC.block ?_)))
    refine WC.loop (fun kk0 ll0 ww0 => ∃ (i : Nat) (M : Nat) (pT : Option Addr) (cT : Nat) (ST : List SlI), ll0 = [(4, vI wh), (5, vP b5 0), (11, vI (penV (S.length : Int) y l m c A n)), (13, vI (m * (lnC l (mk0 (S.length : Int) y l c n (trC c n)) n 1000 : Int))), (15, .slice pl ((nI xs).length) cl), (16, .slice pT ST.length cT), (17, vI (M : Int)), (18, vI (i : Int))] ∧ kk0 = xs.length - i ∧ (i ≤ xs.length) ∧ (M = msI (S.length : Int) y l wh (stX S) xs i) ∧ (InS2 ww0 pT ST) ∧ (stX ST = stI (S.length : Int) y l wh (stX S) xs i) ∧ HP Tr wt ww0 []) (xs.length) [(4, vI wh), (5, vP b5 0), (11, vI (penV (S.length : Int) y l m c A n)), (13, vI (m * (lnC l (mk0 (S.length : Int) y l c n (trC c n)) n 1000 : Int))), (15, .slice pl ((nI xs).length) cl), (16, .slice pt S1.length ct), (17, vI 0), (18, vI 0)] ⟨rfl, rfl, rfl, rfl, rfl, rfl, rfl, rfl, trivial⟩ ⟨0, 0, pt, ct, S1, rfl, rfl, Nat.zero_le _, rfl, hI1.below (HP.below hH32), hX1, hH32⟩ ?_
    rintro kk l w37 ⟨i, M, pT, cT, ST, rfl, hkk, hi, hM, hI, hX, hH38⟩ K36 hK36
    have hbw3 := HP.below hH38
    have hbox3 : ∀ i9, i9 < 1 → World.rangeAt w37 b5 i9 [vI (S.length : Int), vI y, vI l, vI m] := fun i9 h9 => HP.oldRange hH38 trivial (hbox2 i9 h9)
    replace hW := hW.below hbw3
    replace hI1 := hI1.below hbw3
    have hBk3 := HP.call hBk2 hbw3
    have hH39 : HP Tr w37 w37 [] := HP.refl w37
    have hPi := Pi.all' hg hc0 (show n ≤ 400 by omega) hok wh hwk i hi
    have hMi : M ≤ i := by rw [hM]; exact msI_le i
    refine WC.seq fun K40 hK40 => WC.seq fun K41 hK41 => WC.region (WL.z (vI (i : Int)) 60 (WL.z (.slice pl ((nI xs).length) cl) 61 (WL.z (vI (((nI xs).length : Nat) : Int)) 62 ?_)))
    by_cases hlt : (i : Int) < (((nI xs).length : Nat) : Int)
    ·
     refine WL.y (.bool true) 63 (x_lss rfl rfl rfl (dT (hlt))) (WL.k hK41 ?_)
     refine WC.yes rfl ?_
     refine WC.skip (WQ.then (hK40 _ _ _ (WC.seq fun K42 hK42 => WC.block ?_)))
     have hltx : i < xs.length := by omega
     obtain ⟨hxa, -, -⟩ := hwk.part i hltx
     obtain ⟨Y, hY⟩ : ∃ Y, (if (i : Int) = wh then nilX (S.length : Int) else stI (S.length : Int) y l wh (stX S) xs i) = Y := ⟨_, rfl⟩
     refine WC.cut (fun lz w2 => ∃ (pU : Option Addr) (nU : Nat) (cU : Nat) (SU : List SlI), lz = [(4, vI wh), (5, vP b5 0), (11, vI (penV (S.length : Int) y l m c A n)), (13, vI (m * (lnC l (mk0 (S.length : Int) y l c n (trC c n)) n 1000 : Int))), (15, .slice pl ((nI xs).length) cl), (16, .slice pU nU cU), (17, vI (M : Int)), (18, vI (i : Int)), (63, .bool true)] ∧ (nU = SU.length) ∧ (stX SU = Y) ∧ (InS2 w2 pU SU) ∧ HP Tr w37 w2 []) ?_ ?_
     ·
      refine WC.seq fun K43 hK43 => WC.region (WL.z (vI (i : Int)) 66 (WL.z (vI wh) 67 ?_))
      by_cases hat : (i : Int) = wh
      ·
       refine WL.y (.bool true) 68 (x_eql rfl rfl rfl (dT (hat))) (WL.k hK43 ?_)
       refine WC.yes rfl ?_
       refine WC.region (WL.z (vP b5 0) 69 (WL.y (vI (S.length : Int)) 70 (x_load rfl rfl Try.underlying3 rfl ((HP.oldRange hH39 trivial (hbox3 0 (by omega))) 0 _ rfl)) ?_))
       refine WL.alloc (c := nilR S.length) (T := 33) hH39 71 rfl (by decide) rfl rfl (fun b71 => vS b71 S.length S.length) (x_makeR rfl rfl rfl (makeS2 S.length (by omega) _)) (fun b71 w71 hw71 => ?_)
       have hH44 : HP Tr w37 w71 [.cel b71 (nilR S.length) 33] := hw71.2
       clear hw71
       refine WL.z (vS b71 S.length S.length) 16 (WL.nil (WQ.sb [(4, vI wh), (5, vP b5 0), (11, vI (penV (S.length : Int) y l m c A n)), (13, vI (m * (lnC l (mk0 (S.length : Int) y l c n (trC c n)) n 1000 : Int))), (15, .slice pl ((nI xs).length) cl), (16, vS b71 S.length S.length), (17, vI (M : Int)), (18, vI (i : Int)), (63, .bool true)] ?_))
       exact WQ.cut ⟨(some ⟨b71, 0, none⟩), S.length, S.length, nilS S.length, rfl, by simp, by rw [← hY, if_pos hat]; exact nilS_X _, nil_in hH44 0 rfl, (HP.drop hH44 0)⟩
      ·
       refine WL.y (.bool false) 68 (x_eql rfl rfl rfl (dF (hat))) (WL.k hK43 ?_)
       refine WC.no rfl ?_
       refine WC.skip (WQ.sb [(4, vI wh), (5, vP b5 0), (11, vI (penV (S.length : Int) y l m c A n)), (13, vI (m * (lnC l (mk0 (S.length : Int) y l c n (trC c n)) n 1000 : Int))), (15, .slice pl ((nI xs).length) cl), (16, .slice pT ST.length cT), (17, vI (M : Int)), (18, vI (i : Int)), (63, .bool true)] ?_)
       exact WQ.cut ⟨pT, ST.length, cT, ST, rfl, rfl, by rw [← hY, if_neg hat]; exact hX, hI.below (HP.below hH39), hH39⟩
     ·
      rintro lz w46 ⟨pU, nU, cU, SU, rfl, hnU, hXU, hIU, hH45⟩
      subst hnU
      have hbw4 := HP.below hH45
      have hbox4 : ∀ i9, i9 < 1 → World.rangeAt w46 b5 i9 [vI (S.length : Int), vI y, vI l, vI m] := fun i9 h9 => HP.oldRange hH45 trivial (hbox3 i9 h9)
      replace hW := hW.below hbw4
      replace hI1 := hI1.below hbw4
      replace hI := hI.below hbw4
      have hBk4 := HP.call hBk3 hbw4
      have hH47 : HP Tr w46 w46 [] := HP.refl w46
      have htk : tOk (S.length : Int) y l m ((xs.getD i 0 : Nat) : Int) Y = true := by
       refine tOk_iff.2 ⟨?_, by omega, by omega⟩
       rw [← hY]; split
       · exact nilX_ok hg
       · exact hPi.ok
      refine WC.seq fun K48 hK48 => ?_
      obtain ⟨gW, oW, hpW, hrowW0⟩ := hW (by omega)
      subst hpW
      have hrowW : ∀ i, i < (nI xs).length → World.rangeAt w46 gW (oW + i) [vI ((xs.getD i 0 : Nat) : Int)] := fun i h9 => by rw [← nI_get]; exact hrowW0 i h9
      refine WC.confG (γ := Option Addr × Nat × List SlI × Unit) [(4, vI wh), (5, vP b5 0), (11, vI (penV (S.length : Int) y l m c A n)), (13, vI (m * (lnC l (mk0 (S.length : Int) y l c n (trC c n)) n 1000 : Int))), (15, .slice (some ⟨gW, oW, none⟩) ((nI xs).length) cl), (16, .slice pU SU.length cU), (17, vI (M : Int)), (18, vI (i : Int)), (63, .bool true)] (fun gy => [.agg #[vI (S.length : Int), vI y, vI l, vI m], .slice pU SU.length cU, .slice (some ⟨gW, oW, none⟩) ((nI xs).length) cl, vI (i : Int), vP gW (oW + i), vI ((xs.getD i 0 : Nat) : Int), .tuple #[.slice gy.1 gy.2.2.1.length gy.2.1, .bool (decide (hitN (S.length : Int) l ((xs.getD i 0 : Nat) : Int) Y = 1)), vI 0], .tuple #[.slice gy.1 gy.2.2.1.length gy.2.1, .bool (decide (hitN (S.length : Int) l ((xs.getD i 0 : Nat) : Int) Y = 1)), vI 0], .slice gy.1 gy.2.2.1.length gy.2.1, .bool (decide (hitN (S.length : Int) l ((xs.getD i 0 : Nat) : Int) Y = 1)), vI 0, .slice gy.1 gy.2.2.1.length gy.2.1, .bool (decide (hitN (S.length : Int) l ((xs.getD i 0 : Nat) : Int) Y = 1)), vI 0]) (fun gy D wz => HP Tr w46 wz [] ∧ (D 6 = true → (stX gy.2.2.1 = stp (S.length : Int) y l ((xs.getD i 0 : Nat) : Int) Y ∧ InS2 wz gy.1 gy.2.2.1))) (none, 0, [], ()) (by kernel_rfl) ⟨rfl, rfl, rfl, rfl, rfl, rfl, rfl, rfl, rfl, trivial⟩ (by kernel_rfl) (by kernel_rfl) (by kernel_rfl) (fun _ => rfl) (by kernel_rfl) (⟨HP.drew hH47, (fun h => by cases h)⟩) ?_ ?_
      ·
       refine AllOk.cons ?o0 (AllOk.cons ?o1 (AllOk.cons ?o2 (AllOk.cons ?o3 (AllOk.cons ?o4 (AllOk.cons ?o5 (AllOk.cons ?o6 (AllOk.cons ?o7 (AllOk.cons ?o8 (AllOk.cons ?o9 (AllOk.cons ?o10 (AllOk.cons ?o11 (AllOk.cons ?o12 (AllOk.cons ?o13 (AllOk.nil _))))))))))))))
       case o0 =>
        rintro gy D wz hDi hdep hclo ⟨hW, hX0⟩
        exact cfv gy wz (x_loadS (cs := [vI (S.length : Int), vI y, vI l, vI m]) rfl rfl Try.underlying23 rfl sz23 (HP.oldRange hW trivial (hbox4 0 (by omega)))) ⟨hW, hX0⟩
       case o1 =>
        rintro gy D wz hDi hdep hclo ⟨hW, hX0⟩
        exact cfv gy wz (by kernel_rfl) ⟨hW, hX0⟩
       case o2 =>
        rintro gy D wz hDi hdep hclo ⟨hW, hX0⟩
        exact cfv gy wz (by kernel_rfl) ⟨hW, hX0⟩
       case o3 =>
        rintro gy D wz hDi hdep hclo ⟨hW, hX0⟩
        exact cfv gy wz (by kernel_rfl) ⟨hW, hX0⟩
       case o4 =>
        rintro gy D wz hDi hdep hclo ⟨hW, hX0⟩
        exact cfv gy wz (x_ix (i) (oW + i) Try.underlying33 sz3) ⟨hW, hX0⟩
       case o5 =>
        rintro gy D wz hDi hdep hclo ⟨hW, hX0⟩
        exact cfv gy wz (x_load rfl rfl Try.underlying3 rfl ((HP.oldRange hW trivial (hrowW i (by omega))) 0 _ rfl)) ⟨hW, hX0⟩
       case o6 =>
        rintro gy D wz hDi hdep hclo ⟨hW, hX0⟩
        have d7 : D 7 = false := by
         cases h : D 7 with
         | false => rfl
         | true => exact absurd (hclo 7 _ rfl h ⟨6, .data⟩ (by simp) rfl) (by rw [hDi]; exact Bool.false_ne_true)
        have d8 : D 8 = false := by
         cases h : D 8 with
         | false => rfl
         | true => exact absurd (hclo 8 _ rfl h ⟨7, .data⟩ (by simp) rfl) (by rw [d7]; exact Bool.false_ne_true)
        have d11 : D 11 = false := by
         cases h : D 11 with
         | false => rfl
         | true => exact absurd (hclo 11 _ rfl h ⟨6, .chain⟩ (by simp) rfl) (by rw [hDi]; exact Bool.false_ne_true)
        have hW2 := hW
        try simp only [hDi, cond_true, cond_false, List.append_nil, List.nil_append, List.cons_append] at hW2
        refine .inl ⟨rfl, rfl, .inr (.inr ⟨13, #[.agg #[vI (S.length : Int), vI y, vI l, vI m], .slice pU SU.length cU, vI ((xs.getD i 0 : Nat) : Int)], by kernel_rfl, (rTouch_yes3 (S.length : Int) y l m ((xs.getD i 0 : Nat) : Int) pU SU cU _ (hIU.below (HP.below hW2)) hXU htk).mono ?_⟩)⟩
        rintro e w3 ⟨pa, ca, S2, rfl, hXr, hIr, hbr⟩
        have hA := HP.call hW2 hbr
        refine ⟨⟨pa, ca, S2, ()⟩, fun j hj => ?_, rfl, ⟨?_, fun _ => ⟨hXr, hIr⟩⟩⟩
        ·
         match j, hj with
         | 0, hj => rfl
         | 1, hj => rfl
         | 2, hj => rfl
         | 3, hj => rfl
         | 4, hj => rfl
         | 5, hj => rfl
         | 6, hj => rw [hDi] at hj; cases hj
         | 7, hj => exact absurd hj (by rw [d7]; exact Bool.false_ne_true)
         | 8, hj => exact absurd hj (by rw [d8]; exact Bool.false_ne_true)
         | 9, hj => rfl
         | 10, hj => rfl
         | 11, hj => exact absurd hj (by rw [d11]; exact Bool.false_ne_true)
         | 12, hj => rfl
         | 13, hj => rfl
         | j + 14, _ => rfl
        ·
         show HP Tr w46 w3 []
         try simp only [cond_true, cond_false, List.append_nil, List.nil_append, List.cons_append]
         exact hA
       case o7 =>
        rintro gy D wz hDi hdep hclo ⟨hW, hX0⟩
        exact cfv gy wz (by kernel_rfl) ⟨hW, hX0⟩
       case o8 =>
        rintro gy D wz hDi hdep hclo ⟨hW, hX0⟩
        exact cfv gy wz (by kernel_rfl) ⟨hW, hX0⟩
       case o9 =>
        rintro gy D wz hDi hdep hclo ⟨hW, hX0⟩
        exact cfv gy wz (by kernel_rfl) ⟨hW, hX0⟩
       case o10 =>
        rintro gy D wz hDi hdep hclo ⟨hW, hX0⟩
        exact cfv gy wz (by kernel_rfl) ⟨hW, hX0⟩
       case o11 =>
        rintro gy D wz hDi hdep hclo ⟨hW, hX0⟩
        exact cfv gy wz (by kernel_rfl) ⟨hW, hX0⟩
       case o12 =>
        rintro gy D wz hDi hdep hclo ⟨hW, hX0⟩
        exact cfv gy wz (by kernel_rfl) ⟨hW, hX0⟩
       case o13 =>
        rintro gy D wz hDi hdep hclo ⟨hW, hX0⟩
        exact cfv gy wz (by kernel_rfl) ⟨hW, hX0⟩
      rintro ⟨pa, ca, S2, gu⟩ D w49 hall ⟨hH50, hX0⟩
      have hO1 := hX0 (hall 6 (by kernel_rfl))
      clear hX0
      clear hall
      refine WQ.sb [(4, vI wh), (5, vP b5 0), (11, vI (penV (S.length : Int) y l m c A n)), (13, vI (m * (lnC l (mk0 (S.length : Int) y l c n (trC c n)) n 1000 : Int))), (15, .slice (some ⟨gW, oW, none⟩) ((nI xs).length) cl), (16, .slice pU SU.length cU), (17, vI (M : Int)), (18, vI (i : Int)), (19, .slice pa S2.length ca), (20, .bool (decide (hitN (S.length : Int) l ((xs.getD i 0 : Nat) : Int) Y = 1))), (63, .bool true)] (WQ.then (hK48 _ _ _ (WC.seq fun K51 hK51 => WC.seq fun K52 hK52 => WC.region (WL.z (.bool (decide (hitN (S.length : Int) l ((xs.getD i 0 : Nat) : Int) Y = 1))) 83 (WL.z (.bool (!(decide (hitN (S.length : Int) l ((xs.getD i 0 : Nat) : Int) Y = 1)))) 84 (WL.k hK52 ?_))))))
      rcases Bool.eq_false_or_eq_true (decide (hitN (S.length : Int) l ((xs.getD i 0 : Nat) : Int) Y = 1)) with hh | hh
      ·
       refine WC.no (congrArg (fun b => some (Value.bool (!b))) hh) ?_
       refine WC.skip (WQ.then (hK51 _ _ _ (WC.region (WL.z (.slice pa S2.length ca) 87 (WL.z (.slice pa S2.length ca) 16 (WL.nil (WQ.inNormal (WQ.then (hK42 _ _ _ (WC.region (WL.z (vI (i : Int)) 64 ?_)))))))))))
       refine WL.y (vI ((i + 1 : Nat) : Int)) 65 (x_ad (((i + 1 : Nat) : Int))) (WL.z (vI ((i + 1 : Nat) : Int)) 18 (WL.nil (WQ.sb [(4, vI wh), (5, vP b5 0), (11, vI (penV (S.length : Int) y l m c A n)), (13, vI (m * (lnC l (mk0 (S.length : Int) y l c n (trC c n)) n 1000 : Int))), (15, .slice (some ⟨gW, oW, none⟩) ((nI xs).length) cl), (16, .slice pa S2.length ca), (17, vI (M : Int)), (18, vI ((i + 1 : Nat) : Int))] ?_)))
       refine WQ.then (hK36 _ _ _ (by omega) ⟨i + 1, M, pa, ca, S2, rfl, rfl, by omega, msI_hit hY hM hh, hO1.2, by rw [stI_succ hY]; exact hO1.1, (HP.call (HP.call hH38 hbw4) (HP.below hH50))⟩)
      ·
       refine WC.yes (congrArg (fun b => some (Value.bool (!b))) hh) ?_
       refine WC.region (WL.z (vI (M : Int)) 85 (WL.y (vI ((M + 1 : Nat) : Int)) 86 (x_ad (((M + 1 : Nat) : Int))) (WL.z (vI ((M + 1 : Nat) : Int)) 17 (WL.k hK51 (WC.region (WL.z (.slice pa S2.length ca) 87 (WL.z (.slice pa S2.length ca) 16 (WL.nil (WQ.inNormal ?_)))))))))
       refine WQ.then (hK42 _ _ _ (WC.sb [(4, vI wh), (5, vP b5 0), (11, vI (penV (S.length : Int) y l m c A n)), (13, vI (m * (lnC l (mk0 (S.length : Int) y l c n (trC c n)) n 1000 : Int))), (15, .slice (some ⟨gW, oW, none⟩) ((nI xs).length) cl), (16, .slice pa S2.length ca), (17, vI ((M + 1 : Nat) : Int)), (18, vI (i : Int)), (19, .slice pa S2.length ca), (20, .bool (decide (hitN (S.length : Int) l ((xs.getD i 0 : Nat) : Int) Y = 1))), (63, .bool true), (84, .bool (!(decide (hitN (S.length : Int) l ((xs.getD i 0 : Nat) : Int) Y = 1))))] (WC.region (WL.z (vI (i : Int)) 64 (WL.y (vI ((i + 1 : Nat) : Int)) 65 (x_ad (((i + 1 : Nat) : Int))) (WL.z (vI ((i + 1 : Nat) : Int)) 18 (WL.nil (WQ.sb [(4, vI wh), (5, vP b5 0), (11, vI (penV (S.length : Int) y l m c A n)), (13, vI (m * (lnC l (mk0 (S.length : Int) y l c n (trC c n)) n 1000 : Int))), (15, .slice (some ⟨gW, oW, none⟩) ((nI xs).length) cl), (16, .slice pa S2.length ca), (17, vI ((M + 1 : Nat) : Int)), (18, vI ((i + 1 : Nat) : Int))] ?_))))))))
       refine WQ.then (hK36 _ _ _ (by omega) ⟨i + 1, M + 1, pa, ca, S2, rfl, rfl, by omega, msI_miss hY hM hh, hO1.2, by rw [stI_succ hY]; exact hO1.1, (HP.call (HP.call hH38 hbw4) (HP.below hH50))⟩)
    ·
     refine WL.y (.bool false) 63 (x_lss rfl rfl rfl (dF (hlt))) (WL.k hK41 ?_)
     refine WC.no rfl ?_
     refine WC.exit (WQ.thenExit (WQ.thenExit (WQ.inExit (WQ.then (hK34 _ _ _ (WC.seq fun K53 hK53 => ?_))))))
     have hie : i = xs.length := by omega
     subst hie
     rw [← hM] at hle
     have hmu := mul_bd hmb (x := (M : Int)) (by omega)
     rw [Int.mul_comm] at hmu
     refine WC.region (WL.z (vI (M : Int)) 88 (WL.z (vP b5 3) 89 (WL.y (vI m) 90 (x_load rfl rfl Try.underlying3 rfl ((HP.oldRange hH39 trivial (hbox3 0 (by omega))) 3 _ rfl)) (WL.y (vI ((M : Int) * m)) 91 (x_mul (Z := (M : Int) * m) rfl rfl rfl (rfl) (by omega) (by omega)) (WL.z (vI (penV (S.length : Int) y l m c A n)) 92 (WL.z (vI (m * (lnC l (mk0 (S.length : Int) y l c n (trC c n)) n 1000 : Int))) 93 (WL.y (vI ((penV (S.length : Int) y l m c A n) + (m * (lnC l (mk0 (S.length : Int) y l c n (trC c n)) n 1000 : Int)))) 94 (x_add (Z := (penV (S.length : Int) y l m c A n) + (m * (lnC l (mk0 (S.length : Int) y l c n (trC c n)) n 1000 : Int))) rfl rfl rfl (by omega) (by omega) (by omega)) (WL.y (.bool true) 95 (x_leq rfl rfl rfl (dT (by omega))) ?_))))))))
     refine WL.z (.bool true) 96 ?_
     refine WL.c 16 #[] 97 ?_
     refine (sane_any _).mono ?_
     rintro e w54 ⟨rfl, hb55⟩
     refine ⟨_, rfl, ?_⟩
     have hH56 := HP.call hH39 hb55
     refine WL.z (.bool true) 98 (WL.z (.bool true) 10 (WL.k hK53 (WC.sb [(4, vI wh), (5, vP b5 0), (10, .bool true), (11, vI (penV (S.length : Int) y l m c A n)), (13, vI (m * (lnC l (mk0 (S.length : Int) y l c n (trC c n)) n 1000 : Int))), (15, .slice pl ((nI xs).length) cl), (16, .slice pT ST.length cT), (17, vI (M : Int)), (18, vI (xs.length : Int)), (63, .bool false)] (WC.ret ?_))))
     refine WQ.ret1 10 rfl rfl ?_
     exact ⟨rfl, HP.below (HP.call hBk3 (HP.below hH56))⟩
   ·
    refine WL.c 28 #[.slice p n cap] 33 ?_
    refine (Plain_at hpl p cap _ (hC.below (HP.below hH9)) (by omega)).mono ?_
    rintro e w57 ⟨rfl, hb58⟩
    refine ⟨_, rfl, ?_⟩
    have hH59 := HP.call hH9 hb58
    refine WL.z (.bool true) 34 (WL.z (.bool true) 35 (WL.k hK6 (WC.sb [(0, .agg #[vI (S.length : Int), vI y, vI l, vI m]), (1, .slice p n cap), (2, .slice pk zs.length ck), (3, .slice p3 S.length cp3), (4, vI wh), (5, vP b5 0), (10, .bool false), (35, .bool true)] ?_)))
    refine WC.yes rfl ?_
    refine WC.seq fun K60 hK60 => WC.region ?_
    refine WL.c 16 #[] 36 ?_
    refine (sane_any _).mono ?_
    rintro e w61 ⟨rfl, hb62⟩
    refine ⟨_, rfl, ?_⟩
    have hH63 := HP.call hH59 hb62
    refine WL.z (.bool true) 10 (WL.k hK60 (WC.ret ?_))
    refine WQ.thenRet ?_
    refine WQ.ret1 10 rfl rfl ?_
    exact ⟨rfl, HP.below (HP.call (HP.refl (S := Tr) w) (HP.below hH63))⟩
 ·
  refine WC.seq fun K64 hK64 => WC.region ?_
  refine WL.alloc (c := #[vI s, vI y, vI l, vI m]) (T := 23) hH1 5 rfl (by decide) rfl rfl (fun b5 => vP b5 0) (by kernel_rfl) (fun b5 w65 hw65 => ?_)
  have hH66 : HP Tr w w65 [.cel b5 #[vI s, vI y, vI l, vI m] 23] := hw65.2
  have nb5 := hw65.1
  clear hw65
  refine WL.z (.bool false) 10 (WL.k hK64 (WC.seq fun K67 hK67 => WC.seq fun K68 hK68 => WC.region (WL.y (.agg #[vI s, vI y, vI l, vI m]) 22 (x_loadS (cs := [vI s, vI y, vI l, vI m]) rfl rfl Try.underlying23 rfl sz23 (HP.range hH66 0 rfl rfl)) (WL.z (.slice p3 S.length cp3) 23 ?_))))
  refine WL.c 19 #[.agg #[vI s, vI y, vI l, vI m], .slice p3 S.length cp3] 24 ?_
  refine (rVSt_at hok p3 S cp3 _ (hS.below (HP.below hH66)).inn rfl hm0).mono ?_
  rintro e w69 ⟨rfl, hb70⟩
  refine ⟨_, rfl, ?_⟩
  have hH71 := HP.call hH66 hb70
  refine WL.z (.bool true) 25 (WL.z (.bool true) 26 (WL.p 27 (WL.p 28 (WL.p 29 (WL.z (.bool true) 30 (WL.z (.bool true) 31 (WL.p 32 (WL.p 33 (WL.p 34 (WL.z (.bool true) 35 (WL.nil ?_)))))))))))
  refine WQ.then (hK68 _ _ _ (WC.sb [(0, .agg #[vI s, vI y, vI l, vI m]), (1, .slice p n cap), (2, .slice pk zs.length ck), (3, .slice p3 S.length cp3), (4, vI wh), (5, vP b5 0), (10, .bool false), (35, .bool true)] ?_))
  refine WC.yes rfl ?_
  refine WC.seq fun K72 hK72 => WC.region ?_
  refine WL.c 16 #[] 36 ?_
  refine (sane_any _).mono ?_
  rintro e w73 ⟨rfl, hb74⟩
  refine ⟨_, rfl, ?_⟩
  have hH75 := HP.call hH71 hb74
  refine WL.z (.bool true) 10 (WL.k hK72 (WC.ret ?_))
  refine WQ.thenRet ?_
  refine WQ.ret1 10 rfl rfl ?_
  exact ⟨rfl, HP.below (HP.call (HP.refl (S := Tr) w) (HP.below hH75))⟩

theorem own : ownKnob Try.prog.godebug = none := by kernel_rfl
theorem laidOut : laidOutB Try.prog = true := by kernel_rfl
theorem cells23 : Try.prog.cellsOf 23 = 4 := by kernel_rfl

set_option maxRecDepth 100000 in
theorem lifted (os : Os) (started : os.Started) (H : Type) (enc : TypeId × Value → H) :
    ReturnsInHanded {} Try.checked os 8 .any (Rows.cachePreemptedSpec.pre6 enc Try.prog Try.f8 Rows.cachePreemptedRow.domain false) (Rows.cachePreemptedSpec.post enc Try.prog Try.f8 false true false false) := by
  refine returnsInHanded_of_change_sized (C := Try.checked) own started (by kernel_rfl) Try.func8
    (ChangeSpec.witness6 (enc := enc) (C := Try.checked) false ⟨#[], #[.agg #[.int .i64 0, .int .i64 0, .int .i64 0, .int .i64 0], .slice none 0 0, .slice none 0 0, .slice none 0 0, .int .i64 0], []⟩ 8 (by kernel_rfl) (by kernel_rfl) (by kernel_rfl) (by kernel_rfl)) ?_
  intro W base args ds gs before hval0 hW hcnd hsz0 _
  have hval : ∀ (j : Nat) t v, Try.f8.params[j]? = some t → args[j]? = some v → Value.okWide Try.prog W .any base t v := hval0
  have hW' := hW
  obtain ⟨p, q, hA0, hV, rfl, hfz, hnd⟩ := hW
  have hA : DataW.TrodAll enc Try.prog W 0 (fun _ => true) true Try.f8.params.toList args.toList ds p := hA0
  have hsz : (DataW.weightsEach Try.prog (Try.f8.params.toList ++ Rows.cachePreemptedSpec.plain.varTypes Try.prog) (ds ++ gs)).all (· ≤ reachBytes) = true := hsz0
  clear hsz0
  rw [Try.params8] at hA hval hsz
  obtain ⟨v0, vs0, d0, ds0, p0, q0, hargs, rfl, rfl, h0, r0⟩ := trodAll_cons hA
  obtain ⟨v1, vs1, d1, ds1, p1, q1, rfl, rfl, rfl, h1, r1⟩ := trodAll_cons r0
  obtain ⟨v2, vs2, d2, ds2, p2, q2, rfl, rfl, rfl, h2, r2⟩ := trodAll_cons r1
  obtain ⟨v3, vs3, d3, ds3, p3, q3, rfl, rfl, rfl, h3, r3⟩ := trodAll_cons r2
  obtain ⟨v4, vs4, d4, ds4, p4, q4, rfl, rfl, rfl, h4, r4⟩ := trodAll_cons r3
  obtain ⟨rfl, rfl, rfl⟩ := trodAll_nil r4
  obtain rfl : args = #[v0, v1, v2, v3, v4] := by cases args; simp_all
  obtain ⟨rfl, rfl⟩ := trodVars_none hV
  have k0 := h0
  have lt0 : ∀ x ∈ p0, x.block < W.heap.size := by obtain ⟨m, hm⟩ := k0; exact DataW.trod_lt m _ _ _ hm
  obtain ⟨c0_0, c0_1, c0_2, c0_3, y0_0, y0_1, y0_2, y0_3, m0, rfl, hd0, hp0, hy0_0, hy0_1, hy0_2, hy0_3⟩ := open_agg4 Try.underlying23 (by kernel_rfl) cells23 (hval 0 23 v0 rfl rfl) h0
  obtain ⟨a0_0, e0_0, -, w0_0⟩ := DataW.trod_int Try.underlying3 hy0_0
  simp at e0_0
  subst e0_0
  obtain ⟨a0_1, e0_1, -, w0_1⟩ := DataW.trod_int Try.underlying3 hy0_1
  simp at e0_1
  subst e0_1
  obtain ⟨a0_2, e0_2, -, w0_2⟩ := DataW.trod_int Try.underlying3 hy0_2
  simp at e0_2
  subst e0_2
  obtain ⟨a0_3, e0_3, -, w0_3⟩ := DataW.trod_int Try.underlying3 hy0_3
  simp at e0_3
  subst e0_3
  clear hd0 hp0
  have k1 := h1
  have lt1 : ∀ x ∈ p1, x.block < W.heap.size := by obtain ⟨m, hm⟩ := k1; exact DataW.trod_lt m _ _ _ hm
  obtain ⟨b1, n1, cap1, rfl⟩ := okWide_slice Try.underlying42 (hval 1 42 v1 rfl rfl)
  obtain ⟨c1, A1, B1, hrow1⟩ := Ec.rows3 h1 lt1
  have k2 := h2
  have lt2 : ∀ x ∈ p2, x.block < W.heap.size := by obtain ⟨m, hm⟩ := k2; exact DataW.trod_lt m _ _ _ hm
  obtain ⟨b2, n2, cap2, rfl⟩ := okWide_slice Try.underlying33 (hval 2 33 v2 rfl rfl)
  obtain ⟨S2, rfl, hS2⟩ := rowsI8 h2 (fun el sp he => sized_slice hsz (j := 2) (t := 33) rfl (by rw [he]; rfl) Try.underlying33)
  have k3 := h3
  have lt3 : ∀ x ∈ p3, x.block < W.heap.size := by obtain ⟨m, hm⟩ := k3; exact DataW.trod_lt m _ _ _ hm
  obtain ⟨b3, n3, cap3, rfl⟩ := okWide_slice Try.underlying24 (hval 3 24 v3 rfl rfl)
  obtain ⟨S3, rfl, hS3⟩ := rowsS h3 (fun el sp he => ⟨sized_slice hsz (j := 3) (t := 24) rfl (by rw [he]; rfl) Try.underlying24, fun e1 sp1 hx => sized_inner hsz (j := 3) (t := 24) rfl (by rw [he]; rfl) Try.underlying24 Try.underlying33 hx⟩)
  obtain ⟨a4, rfl, rfl, rfl, w4⟩ := open_int Try.underlying3 (hval 4 3 v4 rfl rfl) h4
  clear hA0 hval0
  refine (walk a0_0 a0_1 a0_2 a0_3 b1 n1 cap1 c1 A1 B1 b2 cap2 S2 b3 cap3 S3 a4 W w0_0 w0_1 w0_2 w0_3 hrow1 hS2 hS3 w4).mono fun e W' ⟨he, bel⟩ => ?_
  subst he
  exact ⟨_, rfl, _, _, _, [], _, [], hW', trodAll_mk1 (shut_bool Try.underlying4 _), (trodAll_cons_mk (Below.trod laidOut (by kernel_rfl) (of_decide_eq_true (by kernel_rfl)) k0 bel lt0) (trodAll_cons_mk (Below.trod laidOut (by kernel_rfl) (of_decide_eq_true (by kernel_rfl)) k1 bel lt1) (trodAll_cons_mk (Below.trod laidOut (by kernel_rfl) (of_decide_eq_true (by kernel_rfl)) k2 bel lt2) (trodAll_cons_mk (Below.trod laidOut (by kernel_rfl) (of_decide_eq_true (by kernel_rfl)) k3 bel lt3) (trodAll_cons_mk (shut_int Try.underlying3 w4) trodAll_mk0))))), rfl, bel.frame _, fun h => by cases h⟩

theorem over : Rows.cachePreemptedRow.holds Try.pinned (OpenSpec.ofChange Rows.cachePreemptedSpec) :=
  OpenClaim.holds_of_wide 8 Try.f8 rfl rfl rfl rfl rfl rfl rfl ⟨rfl, rfl, rfl, rfl, rfl⟩ rfl rfl rfl rfl rfl (by kernel_rfl) Try.func8 (by kernel_rfl)
    (of_decide_eq_true (by kernel_rfl)) (by unfold Func.isWrapper; first | (rw [if_pos (by decide +kernel)]; kernel_rfl) | (rw [if_neg (by decide +kernel)]; exact ⟨rfl, rfl⟩))
    (fun os started H enc _ => lifted os started H enc)

theorem proved : Rows.CachePreemptedSaid := over
end Go.Proofs.Ytmjnakhpekbenaa.cachePreempted
