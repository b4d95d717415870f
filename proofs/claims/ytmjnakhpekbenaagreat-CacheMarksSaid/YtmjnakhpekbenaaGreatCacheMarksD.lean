/- What the proof of CacheMarks stands on, part 4 of 6. -/
import Derived.BigQuiet
import Derived.BigRegion
import Derived.CallsIn
import Derived.ChangeAlike
import Derived.ChangeArms
import Derived.ChangeKeysEq
import Derived.ChangeSlices
import Derived.Deep.AppendLies
import Derived.Deep.CutRange
import Derived.Deep.DeepCutAuto
import Derived.Deep.Heap
import Derived.Deep.LoopGhost
import Derived.Deep.MidRow
import Derived.Deep.QuietTactic
import Derived.Deep.Slices
import Derived.Great.BuildSlice
import Derived.Great.Walk
import Derived.Ground.Names2Prog
import Derived.Ground.SlgnProg
import Derived.Ground.SlsfProg
import Derived.Handy
import Derived.KernelRfl
import Derived.Laws.AppendOwn
import Derived.Laws.AppendOwnNone
import Derived.Laws.CopyRow
import Derived.Laws.Externs
import Derived.Laws.MakeOwn
import Derived.Laws.Rows
import Derived.Laws.StructEq
import Derived.Lib.AppendZerosOnto
import Derived.Lib.Overlaps
import Derived.Lib.QuietBelow
import Derived.Lib.SliceRun
import Derived.OpenShut
import Derived.Orders
import Derived.OrdersIn
import Derived.RangeFuncFrom
import Derived.RangeFuncLeaves
import Derived.RangeFuncWrites
import Derived.RegionTactic
import Derived.Shelf.SlSortCmp.HeapSortK
import Derived.Shelf.SlSortCmp.InsertionK
import Derived.Shelf.SlSortCmp.MedianK
import Derived.Shelf.SlSortCmp.NoneTotal
import Derived.Shelf.SlSortCmp.PartialInsertionK
import Derived.Shelf.SlSortCmp.PartitionEqualK
import Derived.Shelf.SlSortCmp.PartitionK
import Derived.Shelf.SlSortCmp.PdqK
import Derived.Shelf.SlSortCmp.PivotK
import Derived.Shelf.SlSortCmp.ReverseRangeK
import Derived.Shelf.SlSortCmp.SiftDownK
import Derived.Shelf.Slices.Cells
import Derived.Shelf.Slices.Clone
import Derived.Shelf.Slices.Delete
import Derived.Shelf.Slices.Empties
import Derived.Shelf.Slices.SearchI
import Derived.Shelf.Slices.Turned
import Derived.Shelf.SlicesE.Clone
import Derived.Shelf.SlicesE.Delete
import Derived.Shelf.SlicesQ.Reverse
import Derived.Shelf.Small.Bits
import Derived.Shelf.Small.Wraps
import Derived.Shelf.Strconv.Itoa0
import Derived.Sort.AssemblyPlain
import Derived.Still
import Derived.StillTail
import Derived.TacticsIn
import Derived.Test.YtmjnakhpekbenaaGreatProg
import Derived.WalkKit
import Derived.WalkLawsBesides
import Derived.Test.YtmjnakhpekbenaaGreatCacheMarksC
set_option linter.unusedVariables false
set_option linter.unusedSimpArgs false
namespace Go.Proofs.YtmjnakhpekbenaaGreat
set_option maxRecDepth 20000
set_option maxHeartbeats 4000000
open Go.RowKit Fw
namespace Ec
theorem allV_no {c A B:Nat→Int} {pl:Bool} {n k:Nat} (hk:k<n) (h:vld (c k) (A k) (B k) pl=false):allV c A B pl n=false:=by
  cases q:allV c A B pl n
  · rfl
  · rw [allV_spec.1 q k hk] at h;cases h
theorem chk_2 {c A B:Nat→Int} {pl:Bool} {n:Nat} (h:(120:Int)<n):chk c A B pl n=2:=by unfold chk;rw [if_pos (by omega)]
theorem chk_1 {c A B:Nat→Int} {pl:Bool} {n k:Nat} (h:¬ (120:Int)<n) (hk:k<n) (hv:vld (c k) (A k) (B k) pl=false):chk c A B pl n=1:=by unfold chk;rw [if_neg (by omega),allV_no hk hv];rfl
theorem chk_7 {c A B:Nat→Int} {pl:Bool} {n:Nat} (h:¬ (120:Int)<n) (hv:∀ i,i<n→vld (c i) (A i) (B i) pl=true) (ho:okS c n=false):chk c A B pl n=7:=by unfold chk;rw [if_neg (by omega),allV_spec.2 hv,ho];rfl
theorem chk_0 {c A B:Nat→Int} {pl:Bool} {n:Nat} (h:¬ (120:Int)<n) (hv:∀ i,i<n→vld (c i) (A i) (B i) pl=true) (ho:okS c n=true):chk c A B pl n=0:=by unfold chk;rw [if_neg (by omega),allV_spec.2 hv,ho];rfl
theorem chk_bal {c A B:Nat→Int} {pl:Bool} {n:Nat} (h:chk c A B pl n=0):Bal c n (shD c n):=okS_bal (chk_ok h).2.2
theorem idE_bad {c A B:Nat→Int} {n:Nat} {at':Int} (h:chk c A B false n≠0):idE c A B n at'=chk c A B false n:=by unfold idE;rw [if_neg h]
theorem idE_out {c A B:Nat→Int} {n:Nat} {at':Int} (h:chk c A B false n=0) (h2:¬ (0≤at'∧at'<n)):idE c A B n at'=1:=by unfold idE;rw [if_pos h,if_neg h2]
theorem idE_in {c A B:Nat→Int} {n:Nat} {at':Int} (h:chk c A B false n=0) (h2:0≤at'∧at'<n):idE c A B n at'=0:=by unfold idE;rw [if_pos h,if_pos h2]
def opF (c A B:Nat→Int) (n:Nat) (at':Int):Int:=if idE c A B n at'≠0 then idE c A B n at' else if (shD c n).o at'.toNat<0 then 3 else 0
def opO (c A B:Nat→Int) (n:Nat) (at':Int):Int:=if opF c A B n at'=0 then (shD c n).o at'.toNat else 0
theorem op_bad {c A B:Nat→Int} {n:Nat} {at' er:Int} (h:er≠0) (hE:idE c A B n at'=er):opF c A B n at'=er∧opO c A B n at'=0:=by
  have e:opF c A B n at'=er:=(by unfold opF;rw [hE,if_pos h]);exact⟨e,by unfold opO;rw [e,if_neg h]⟩
theorem op_none {c A B:Nat→Int} {n k:Nat} (hE:idE c A B n (k:Int)=0) (h:(shD c n).o k<0):opF c A B n (k:Int)=3∧opO c A B n (k:Int)=0:=by
  have e:opF c A B n (k:Int)=3:=(by unfold opF;rw [hE,if_neg (by simp),if_pos (by simpa using h)]);exact⟨e,by unfold opO;rw [e];rfl⟩
theorem op_ok {c A B:Nat→Int} {n k:Nat} (hE:idE c A B n (k:Int)=0) (h:¬ (shD c n).o k<0):opF c A B n (k:Int)=0∧opO c A B n (k:Int)=(shD c n).o k:=by
  have e:opF c A B n (k:Int)=0:=(by unfold opF;rw [hE,if_neg (by simp),if_neg (by simpa using h)]);exact⟨e,by unfold opO;rw [e,if_pos rfl];simp⟩
theorem rCheck_any (p:Option Addr) (n cap:Nat) (c A B:Nat→Int) (pl:Bool) (w:World) (hIn:InC w p n c A B) (hn:n≤400) :
  Calls Tryz.prog 26 #[.slice p n cap,.bool pl] w fun e w'=>e=.returned (.int .i64 (chk c A B pl n))∧Below w.heap.size w w':=by
 refine calls_of Tryz.func26 rfl (m:=41) rfl [(0,.slice p n cap),(1,.bool pl)] (Fr_enter [.slice p n cap,.bool pl] 41 (Nat.le_of_ble_eq_true rfl)) ?_;have hH1:HP Tr w w []:=HP.refl w;refine WC.seq fun K2 hK2=>WC.region (WL.z (vI 0) 4 (WL.k hK2 (WC.seq fun K3 hK3=>WC.seq fun K4 hK4=>WC.region (WL.z (.slice p n cap) 8 (WL.z (vI (n:Int)) 9 ?_)))));by_cases hl:(120:Int)<(n:Int)
 ·
  refine WL.y (.bool true) 10 (x_gtr rfl rfl rfl (dT (hl))) (WL.k hK4 ?_);refine WC.yes rfl ?_;refine WC.seq fun K5 hK5=>WC.region (WL.z (vI 2) 4 (WL.k hK5 (WC.ret ?_)));refine WQ.thenRet ?_;refine WQ.ret1 4 rfl rfl ?_;exact⟨by rw [show chk c A B pl n=2 from chk_2 hl],HP.below hH1⟩
 ·
  refine WL.y (.bool false) 10 (x_gtr rfl rfl rfl (dF (hl))) (WL.k hK4 ?_);refine WC.no rfl ?_;refine WC.skip (WQ.then (hK3 _ _ _ (WC.seq fun K6 hK6=>WC.seq fun K7 hK7=>WC.region (WL.z (vI 0) 5 (WL.k hK7 (WC.block ?_))))));refine WC.loop (fun kk0 ll0 ww0=>∃ (k:Nat),ll0=[(0,.slice p n cap),(1,.bool pl),(5,vI (k:Int))]∧kk0=n-k∧(k≤n)∧(∀ i,i<k→vld (c i) (A i) (B i) pl=true)∧HP Tr w ww0 []) (n) [(0,.slice p n cap),(1,.bool pl),(5,vI 0)] ⟨rfl,rfl,rfl,trivial⟩ ⟨0,rfl,rfl,Nat.zero_le n,fun i hi=>absurd hi (Nat.not_lt_zero i),hH1⟩ ?_;rintro kk l w9 ⟨k,rfl,hkk,hk,hv,hH10⟩ K8 hK8;refine WC.seq fun K11 hK11=>WC.seq fun K12 hK12=>WC.region (WL.z (vI (k:Int)) 11 (WL.z (.slice p n cap) 12 (WL.z (vI (n:Int)) 13 ?_)));by_cases hlt:(k:Int)<(n:Int)
  ·
   refine WL.y (.bool true) 14 (x_lss rfl rfl rfl (dT (hlt))) (WL.k hK12 ?_);refine WC.yes rfl ?_;refine WC.skip (WQ.then (hK11 _ _ _ (WC.seq fun K13 hK13=>WC.block (WC.seq fun K14 hK14=>?_))));obtain⟨bb,oo,rfl,hrow⟩:=hIn (by omega);refine WC.region (WL.z (.slice (some ⟨bb,oo,none⟩) n cap) 17 (WL.z (vI (k:Int)) 18 (WL.y (vP bb (oo+k*3)) 19 (x_ix (k) (oo+k*3) Tryz.underlying24 sz51) (WL.y (.agg #[vI (c k),vI (A k),vI (B k)]) 20 (x_loadS (cs:=[vI (c k),vI (A k),vI (B k)]) rfl rfl Tryz.underlying51 rfl sz51 (HP.oldRange hH10 trivial (hrow k (by omega)))) (WL.z (.bool pl) 21 ?_)))));refine WL.c 44 #[.agg #[vI (c k),vI (A k),vI (B k)],.bool pl] 22 ?_;refine(rValid_any _ _ _ _ _).mono ?_;rintro e w15 ⟨rfl,hb16⟩;refine⟨_,rfl,?_⟩;have hH17:=HP.call hH10 hb16;refine WL.z (.bool (!(vld (c k) (A k) (B k) pl))) 23 (WL.k hK14 (WC.sb [(0,.slice (some ⟨bb,oo,none⟩) n cap),(1,.bool pl),(5,vI (k:Int)),(14,.bool true),(23,.bool (!(vld (c k) (A k) (B k) pl)))] ?_));rcases Bool.eq_false_or_eq_true (vld (c k) (A k) (B k) pl) with hA | hA
   ·
    refine WC.no (congrArg (fun b=>some (Value.bool (!b))) hA) ?_;refine WC.skip (WQ.inNormal (WQ.then (hK13 _ _ _ (WC.region (WL.z (vI (k:Int)) 15 (WL.y (vI ((k+1:Nat):Int)) 16 (x_ad (((k+1:Nat):Int))) (WL.z (vI ((k+1:Nat):Int)) 5 (WL.nil (WQ.sb [(0,.slice (some ⟨bb,oo,none⟩) n cap),(1,.bool pl),(5,vI ((k+1:Nat):Int))] ?_)))))))));refine WQ.then (hK8 _ _ _ (by omega) ⟨k+1,rfl,rfl,by omega,fun i hi=>(Nat.lt_succ_iff_lt_or_eq.1 hi).elim (hv i) (fun e=>e ▸ hA),hH17⟩)
   ·
    refine WC.yes (congrArg (fun b=>some (Value.bool (!b))) hA) ?_;refine WC.seq fun K18 hK18=>WC.region (WL.z (vI 1) 4 (WL.k hK18 (WC.ret ?_)));refine WQ.inRet ?_;refine WQ.thenRet ?_;refine WQ.thenRet ?_;refine WQ.inRet ?_;refine WQ.thenRet ?_;refine WQ.ret1 4 rfl rfl ?_;exact⟨by rw [show chk c A B pl n=1 from chk_1 hl (by omega) hA],HP.below hH17⟩
  ·
   refine WL.y (.bool false) 14 (x_lss rfl rfl rfl (dF (hlt))) (WL.k hK12 ?_);refine WC.no rfl ?_;refine WC.exit (WQ.thenExit (WQ.thenExit (WQ.inExit (WQ.then (hK6 _ _ _ (WC.seq fun K19 hK19=>WC.region (WL.z (.slice p n cap) 25 ?_)))))));refine WL.c 45 #[.slice p n cap,vI 0] 26 ?_;refine(parts_any p n cap c A B hn 0 (by omega) _ (hIn.below (HP.below hH10))).mono ?_;rintro e w20 ⟨nx,d,rfl,hPR,hb21⟩;refine⟨_,rfl,?_⟩;have hH22:=HP.call hH10 hb21;have hV:∀ i,i<n→vld (c i) (A i) (B i) pl=true:=fun i hi=>hv i (by omega);refine WL.z (.tuple #[vI (nx:Int),vI d]) 24 (WL.z (vI (nx:Int)) 27 (WL.z (vI d) 28 (WL.z (vI (nx:Int)) 6 (WL.z (vI d) 7 (WL.k hK19 (WC.sb [(0,.slice p n cap),(1,.bool pl),(5,vI (k:Int)),(6,vI (nx:Int)),(7,vI d),(14,.bool false)] (WC.seq fun K23 hK23=>WC.seq fun K24 hK24=>WC.region ?_)))))));refine WL.z (vI d) 29 ?_;by_cases hd:d<0
   ·
    refine WL.y (.bool true) 30 (x_lss rfl rfl rfl (dT (hd))) (WL.z (.bool true) 31 (WL.p 32 (WL.p 33 (WL.p 34 (WL.p 35 (WL.z (.bool true) 36 (WL.z (.bool true) 37 (WL.p 38 (WL.p 39 (WL.z (.bool true) 40 (WL.nil ?_)))))))))));refine WQ.then (hK24 _ _ _ (WC.sb [(0,.slice p n cap),(1,.bool pl),(5,vI (k:Int)),(6,vI (nx:Int)),(7,vI d),(14,.bool false),(40,.bool true)] ?_));refine WC.yes rfl ?_;refine WC.seq fun K25 hK25=>WC.region (WL.z (vI 7) 4 (WL.k hK25 (WC.ret ?_)));refine WQ.thenRet ?_;refine WQ.ret1 4 rfl rfl ?_;exact⟨by rw [show chk c A B pl n=7 from chk_7 hl hV (PR_fail1 hPR hd)],HP.below hH22⟩
   ·
    refine WL.y (.bool false) 30 (x_lss rfl rfl rfl (dF (hd))) (WL.z (.bool false) 31 (WL.z (vI (nx:Int)) 32 (WL.z (.slice p n cap) 33 (WL.z (vI (n:Int)) 34 ?_))));by_cases hnx:(nx:Int)<(n:Int)
    ·
     refine WL.y (.bool true) 35 (x_lss rfl rfl rfl (dT (hnx))) (WL.z (.bool true) 36 (WL.z (.bool true) 37 (WL.p 38 (WL.p 39 (WL.z (.bool true) 40 (WL.k hK24 (WC.sb [(0,.slice p n cap),(1,.bool pl),(5,vI (k:Int)),(6,vI (nx:Int)),(7,vI d),(14,.bool false),(40,.bool true)] ?_)))))));refine WC.yes rfl ?_;refine WC.seq fun K26 hK26=>WC.region (WL.z (vI 7) 4 (WL.k hK26 (WC.ret ?_)));refine WQ.thenRet ?_;refine WQ.ret1 4 rfl rfl ?_;exact⟨by rw [show chk c A B pl n=7 from chk_7 hl hV (PR_fail2 hPR hd hnx)],HP.below hH22⟩
    ·
     refine WL.y (.bool false) 35 (x_lss rfl rfl rfl (dF (hnx))) (WL.z (.bool false) 36 (WL.z (.bool false) 37 (WL.z (vI d) 38 ?_)));by_cases hm:(6:Int)<d
     ·
      refine WL.y (.bool true) 39 (x_gtr rfl rfl rfl (dT (hm))) (WL.z (.bool true) 40 (WL.k hK24 (WC.sb [(0,.slice p n cap),(1,.bool pl),(5,vI (k:Int)),(6,vI (nx:Int)),(7,vI d),(14,.bool false),(40,.bool true)] ?_)));refine WC.yes rfl ?_;refine WC.seq fun K27 hK27=>WC.region (WL.z (vI 7) 4 (WL.k hK27 (WC.ret ?_)));refine WQ.thenRet ?_;refine WQ.ret1 4 rfl rfl ?_;exact⟨by rw [show chk c A B pl n=7 from chk_7 hl hV (PR_deep hPR hd hnx hm)],HP.below hH22⟩
     ·
      refine WL.y (.bool false) 39 (x_gtr rfl rfl rfl (dF (hm))) (WL.z (.bool false) 40 (WL.k hK24 (WC.sb [(0,.slice p n cap),(1,.bool pl),(5,vI (k:Int)),(6,vI (nx:Int)),(7,vI d),(14,.bool false),(40,.bool false)] ?_)));refine WC.no rfl ?_;refine WC.skip (WQ.then (hK23 _ _ _ (WC.seq fun K28 hK28=>WC.region (WL.z (vI 0) 4 (WL.k hK28 (WC.ret ?_))))));refine WQ.ret1 4 rfl rfl ?_;exact⟨by rw [show chk c A B pl n=0 from chk_0 hl hV (PR_good hPR hd hnx hm)],HP.below hH22⟩
theorem rMatch_any (p:Option Addr) (n cap:Nat) (c A B:Nat→Int) (at':Int) (w:World) (hIn:InC w p n c A B) (hn:n≤400) (h1:-9223372036854775808≤at') (h2:at'≤9223372036854775807) :
  Calls Tryz.prog 29 #[.slice p n cap,vI at'] w fun e w'=>e=.returned (mtc c A B n at')∧Below w.heap.size w w':=by
 refine calls_of Tryz.func29 rfl (m:=40) rfl [(0,.slice p n cap),(1,vI at')] (Fr_enter [.slice p n cap,vI at'] 40 (Nat.le_of_ble_eq_true rfl)) ?_;have hH1:HP Tr w w []:=HP.refl w;refine WC.seq fun K2 hK2=>WC.region (WL.z (vI 0) 4 (WL.z (vI 0) 5 (WL.z (vI 0) 6 (WL.k hK2 (WC.seq fun K3 hK3=>WC.region (WL.z (.slice p n cap) 11 ?_))))));refine WL.c 26 #[.slice p n cap,.bool false] 12 ?_;refine(rCheck_any _ _ _ c A B false _ (hIn.below (HP.below hH1)) hn).mono ?_;rintro e w4 ⟨rfl,hb5⟩;refine⟨_,rfl,?_⟩;have hH6:=HP.call hH1 hb5;refine WL.z (vI (chk c A B false n)) 7 (WL.k hK3 (WC.seq fun K7 hK7=>WC.seq fun K8 hK8=>WC.region (WL.z (vI (chk c A B false n)) 13 ?_)));by_cases hc:chk c A B false n≠0
 ·
  refine WL.y (.bool true) 14 (x_neq rfl rfl rfl (dT (hc))) (WL.k hK8 ?_);refine WC.yes rfl ?_;refine WC.seq fun K9 hK9=>WC.region (WL.z (vI (chk c A B false n)) 15 (WL.z (vI 0) 4 (WL.z (vI 0) 5 (WL.z (vI (chk c A B false n)) 6 (WL.k hK9 (WC.sb [(0,.slice p n cap),(1,vI at'),(4,vI 0),(5,vI 0),(6,vI (chk c A B false n)),(7,vI (chk c A B false n)),(14,.bool true)] (WC.ret ?_)))))));refine WQ.thenRet ?_;refine WQ.ret3 4 5 6 rfl rfl rfl rfl ?_;exact⟨by rw [mtc_bad hc (idE_bad hc)],HP.below hH6⟩
 ·
  refine WL.y (.bool false) 14 (x_neq rfl rfl rfl (dF (hc))) (WL.k hK8 ?_);refine WC.no rfl ?_;refine WC.skip (WQ.then (hK7 _ _ _ (WC.seq fun K10 hK10=>WC.seq fun K11 hK11=>WC.region (WL.z (vI at') 16 ?_))));by_cases hlo:at'<0
  ·
   refine WL.y (.bool true) 17 (x_lss rfl rfl rfl (dT (hlo))) (WL.z (.bool true) 18 (WL.p 19 (WL.p 20 (WL.p 21 (WL.p 22 (WL.z (.bool true) 23 (WL.k hK11 (WC.sb [(0,.slice p n cap),(1,vI at'),(4,vI 0),(5,vI 0),(6,vI 0),(7,vI (chk c A B false n)),(14,.bool false),(23,.bool true)] ?_))))))));refine WC.yes rfl ?_;refine WC.seq fun K12 hK12=>WC.region (WL.z (vI 0) 4 (WL.z (vI 0) 5 (WL.z (vI 1) 6 (WL.k hK12 (WC.ret ?_)))));refine WQ.thenRet ?_;refine WQ.ret3 4 5 6 rfl rfl rfl rfl ?_;exact⟨by rw [mtc_bad (er:=1) (by decide) (idE_out (by omega) (by omega))],HP.below hH6⟩
  ·
   refine WL.y (.bool false) 17 (x_lss rfl rfl rfl (dF (hlo))) (WL.z (.bool false) 18 (WL.z (vI at') 19 (WL.z (.slice p n cap) 20 (WL.z (vI (n:Int)) 21 ?_))));by_cases hhi:(n:Int)≤at'
   ·
    refine WL.y (.bool true) 22 (x_geq rfl rfl rfl (dT (hhi))) (WL.z (.bool true) 23 (WL.k hK11 (WC.sb [(0,.slice p n cap),(1,vI at'),(4,vI 0),(5,vI 0),(6,vI 0),(7,vI (chk c A B false n)),(14,.bool false),(23,.bool true)] ?_)));refine WC.yes rfl ?_;refine WC.seq fun K13 hK13=>WC.region (WL.z (vI 0) 4 (WL.z (vI 0) 5 (WL.z (vI 1) 6 (WL.k hK13 (WC.ret ?_)))));refine WQ.thenRet ?_;refine WQ.ret3 4 5 6 rfl rfl rfl rfl ?_;exact⟨by rw [mtc_bad (er:=1) (by decide) (idE_out (by omega) (by omega))],HP.below hH6⟩
   ·
    refine WL.y (.bool false) 22 (x_geq rfl rfl rfl (dF (hhi))) (WL.z (.bool false) 23 (WL.k hK11 (WC.sb [(0,.slice p n cap),(1,vI at'),(4,vI 0),(5,vI 0),(6,vI 0),(7,vI (chk c A B false n)),(14,.bool false),(23,.bool false)] ?_)));refine WC.no rfl ?_;refine WC.skip (WQ.then (hK10 _ _ _ (WC.seq fun K14 hK14=>WC.seq fun K15 hK15=>?_)));obtain⟨k,rfl⟩:∃ k:Nat,at'=(k:Int):=⟨at'.toNat,by omega⟩;obtain⟨bb,oo,rfl,hrow⟩:=hIn (by omega);have hE:idE c A B n (k:Int)=0:=idE_in (by omega) (by omega);have hB:=chk_bal (show chk c A B false n=0 by omega);refine WC.region (WL.z (.slice (some ⟨bb,oo,none⟩) n cap) 24 (WL.z (vI (k:Int)) 25 (WL.y (vP bb (oo+k*3)) 26 (x_ix (k) (oo+k*3) Tryz.underlying24 sz51) (WL.z (vP bb (oo+k*3)) 27 (WL.y (vI (c k)) 28 (x_load rfl rfl Tryz.underlying3 rfl ((HP.oldRange hH6 trivial (hrow k (by omega))) 0 _ rfl)) ?_)))));refine WL.c 48 #[vI (c k)] 29 ?_;refine(rOpens_any _ _).mono ?_;rintro e w16 ⟨rfl,rfl⟩;refine⟨_,rfl,?_⟩;refine WL.z (.bool (!(opn (c k)))) 30 (WL.k hK15 (WC.sb [(0,.slice (some ⟨bb,oo,none⟩) n cap),(1,vI (k:Int)),(4,vI 0),(5,vI 0),(6,vI 0),(7,vI (chk c A B false n)),(14,.bool false),(23,.bool false),(30,.bool (!(opn (c k))))] ?_));rcases Bool.eq_false_or_eq_true (opn (c k)) with hO | hO
    ·
     refine WC.no (congrArg (fun b=>some (Value.bool (!b))) hO) ?_;refine WC.skip (WQ.then (hK14 _ _ _ (WC.seq fun K17 hK17=>WC.region (WL.z (.slice (some ⟨bb,oo,none⟩) n cap) 32 (WL.z (vI (k:Int)) 33 ?_)))));refine WL.c 49 #[.slice (some ⟨bb,oo,none⟩) n cap,vI (k:Int)] 34 ?_;refine(bracket_any (some ⟨bb,oo,none⟩) n cap c A B hn k (by omega) hO _ (hIn.below (HP.below hH6))).mono ?_;rintro e w18 ⟨a1,e1,x1,rfl,hBR,hb19⟩;refine⟨_,rfl,?_⟩;have hH20:=HP.call hH6 hb19;obtain⟨ha1,he1,hen⟩:=bra_final hB (show k<n by omega) hBR;refine WL.z (.tuple #[vI a1,vI (e1:Int),vI x1]) 31 (WL.z (vI a1) 35 (WL.z (vI (e1:Int)) 36 (WL.z (vI x1) 37 (WL.z (vI a1) 8 (WL.z (vI (e1:Int)) 9 (WL.z (vI x1) 10 (WL.k hK17 (WC.sb [(0,.slice (some ⟨bb,oo,none⟩) n cap),(1,vI (k:Int)),(4,vI 0),(5,vI 0),(6,vI 0),(7,vI (chk c A B false n)),(8,vI a1),(9,vI (e1:Int)),(14,.bool false),(23,.bool false),(30,.bool (!(opn (c k))))] (WC.seq fun K21 hK21=>?_)))))))));refine WC.region (WL.z (vI a1) 38 (WL.z (vI (e1:Int)) 39 (WL.z (vI a1) 4 (WL.z (vI (e1:Int)) 5 (WL.z (vI 0) 6 (WL.k hK21 (WC.ret ?_)))))));refine WQ.ret3 4 5 6 rfl rfl rfl rfl ?_;exact⟨by rw [mtc_ok hE hO hB.hs,ha1,he1],HP.below hH20⟩
    ·
     refine WC.yes (congrArg (fun b=>some (Value.bool (!b))) hO) ?_;refine WC.seq fun K22 hK22=>WC.region (WL.z (vI 0) 4 (WL.z (vI 0) 5 (WL.z (vI 3) 6 (WL.k hK22 (WC.ret ?_)))));refine WQ.thenRet ?_;refine WQ.ret3 4 5 6 rfl rfl rfl rfl ?_;exact⟨by rw [mtc_none hE hO],HP.below hH6⟩
theorem around_any (p:Option Addr) (n cap:Nat) (c A B:Nat→Int) (k:Nat) (w:World) (hIn:InC w p n c A B) (hn:n≤400) (hk:k<n) (hB:Bal c n (shD c n)) :
  Calls Tryz.prog 78 #[.slice p n cap,vI (k:Int)] w fun e w'=>e=.returned (.int .i64 ((shD c n).o k))∧Below w.heap.size w w':=by
 refine calls_of Tryz.func78 rfl (m:=32) rfl [(0,.slice p n cap),(1,vI (k:Int))] (Fr_enter [.slice p n cap,vI (k:Int)] 32 (Nat.le_of_ble_eq_true rfl)) ?_;have hH1:HP Tr w w []:=HP.refl w;refine WC.seq fun K2 hK2=>WC.region (WL.z (vI 0) 4 (WL.k hK2 (WC.seq fun K3 hK3=>WC.seq fun K4 hK4=>WC.region (WL.z (vI (k:Int)) 9 (WL.y (vI ((k:Int)-1)) 10 (x_sub (Z:=(k:Int)-1) rfl rfl rfl (by omega) (by omega) (by omega)) (WL.z (vI ((k:Int)-1)) 5 ?_))))));refine WL.k hK4 (WC.block ?_);refine WC.loop (fun kk0 ll0 ww0=>∃ (i:Int),ll0=[(0,.slice p n cap),(1,vI (k:Int)),(5,vI i)]∧kk0=(i+1).toNat∧(-1≤i)∧(i<k)∧(∀ x:Nat,i<x→x<k→opn (c x)=true→(shD c n).d x<k)∧HP Tr w ww0 []) (((k:Int)-1+1).toNat) [(0,.slice p n cap),(1,vI (k:Int)),(5,vI ((k:Int)-1))] ⟨rfl,rfl,rfl,trivial⟩ ⟨(k:Int)-1,rfl,rfl,by omega,by omega,fun x h1 h2=>by omega,hH1⟩ ?_;rintro kk l w6 ⟨i,rfl,hkk,hi1,hi2,hv,hH7⟩ K5 hK5;refine WC.seq fun K8 hK8=>WC.seq fun K9 hK9=>WC.region (WL.z (vI i) 11 ?_);by_cases hge:(0:Int)≤i
 ·
  refine WL.y (.bool true) 12 (x_geq rfl rfl rfl (dT (hge))) (WL.k hK9 ?_);refine WC.yes rfl ?_;refine WC.skip (WQ.then (hK8 _ _ _ (WC.seq fun K10 hK10=>WC.block (WC.seq fun K11 hK11=>?_))));obtain⟨j,rfl⟩:∃ j:Nat,i=(j:Int):=⟨i.toNat,by omega⟩;obtain⟨bb,oo,rfl,hrow⟩:=hIn (by omega);refine WC.region (WL.z (.slice (some ⟨bb,oo,none⟩) n cap) 15 (WL.z (vI (j:Int)) 16 (WL.y (vP bb (oo+j*3)) 17 (x_ix (j) (oo+j*3) Tryz.underlying24 sz51) (WL.z (vP bb (oo+j*3)) 18 (WL.y (vI (c j)) 19 (x_load rfl rfl Tryz.underlying3 rfl ((HP.oldRange hH7 trivial (hrow j (by omega))) 0 _ rfl)) ?_)))));refine WL.c 48 #[vI (c j)] 20 ?_;refine(rOpens_any _ _).mono ?_;rintro e w12 ⟨rfl,rfl⟩;refine⟨_,rfl,?_⟩;refine WL.k hK11 (WC.sb [(0,.slice (some ⟨bb,oo,none⟩) n cap),(1,vI (k:Int)),(5,vI (j:Int)),(12,.bool true),(20,.bool (opn (c j)))] ?_);rcases Bool.eq_false_or_eq_true (opn (c j)) with hO | hO
  ·
   refine WC.yes (congrArg (fun b=>some (Value.bool b)) hO) ?_;refine WC.seq fun K13 hK13=>WC.region (WL.z (.slice (some ⟨bb,oo,none⟩) n cap) 22 (WL.z (vI (j:Int)) 23 ?_));refine WL.c 49 #[.slice (some ⟨bb,oo,none⟩) n cap,vI (j:Int)] 24 ?_;refine(bracket_any (some ⟨bb,oo,none⟩) n cap c A B hn j (by omega) hO _ (hIn.below (HP.below hH7))).mono ?_;rintro e w14 ⟨a1,e1,x1,rfl,hBR,hb15⟩;refine⟨_,rfl,?_⟩;have hH16:=HP.call hH7 hb15;obtain⟨ha1,he1,hen⟩:=bra_final hB (show j<n by omega) hBR;refine WL.z (.tuple #[vI a1,vI (e1:Int),vI x1]) 21 (WL.z (vI a1) 25 (WL.z (vI (e1:Int)) 26 (WL.z (vI x1) 27 (WL.z (vI a1) 6 (WL.z (vI (e1:Int)) 7 (WL.z (vI x1) 8 (WL.k hK13 (WC.sb [(0,.slice (some ⟨bb,oo,none⟩) n cap),(1,vI (k:Int)),(5,vI (j:Int)),(7,vI (e1:Int)),(12,.bool true),(20,.bool (opn (c j)))] (WC.seq fun K17 hK17=>?_)))))))));refine WC.region (WL.z (vI (e1:Int)) 28 (WL.z (vI (k:Int)) 29 ?_));by_cases hge2:(k:Int)≤(e1:Int)
   ·
    refine WL.y (.bool true) 30 (x_geq rfl rfl rfl (dT (hge2))) (WL.k hK17 ?_);refine WC.yes rfl ?_;refine WC.seq fun K18 hK18=>WC.region (WL.z (vI (j:Int)) 31 (WL.z (vI (j:Int)) 4 (WL.k hK18 (WC.ret ?_))));refine WQ.inRet ?_;refine WQ.thenRet ?_;refine WQ.thenRet ?_;refine WQ.inRet ?_;refine WQ.thenRet ?_;refine WQ.ret1 4 rfl rfl ?_;exact⟨by rw [opener_some hB hk (show j<k by omega) hO (by omega) (fun x h1 h2 h3=>hv x (by omega) h2 h3)],HP.below hH16⟩
   ·
    refine WL.y (.bool false) 30 (x_geq rfl rfl rfl (dF (hge2))) (WL.k hK17 ?_);refine WC.no rfl ?_;refine WC.skip (WQ.inNormal (WQ.then (hK10 _ _ _ (WC.region (WL.z (vI (j:Int)) 13 (WL.y (vI ((j:Int)-1)) 14 (x_sub (Z:=(j:Int)-1) rfl rfl rfl (by omega) (by omega) (by omega)) (WL.z (vI ((j:Int)-1)) 5 (WL.nil (WQ.sb [(0,.slice (some ⟨bb,oo,none⟩) n cap),(1,vI (k:Int)),(5,vI ((j:Int)-1))] ?_)))))))));refine WQ.then (hK5 _ _ _ (by omega) ⟨(j:Int)-1,rfl,rfl,by omega,by omega,fun x h1 h2 h3=>(Decidable.em (x=j)).elim (fun e=>by rw [e];omega) (fun e=>hv x (by omega) h2 h3),hH16⟩)
  ·
   refine WC.no (congrArg (fun b=>some (Value.bool b)) hO) ?_;refine WC.skip (WQ.inNormal (WQ.then (hK10 _ _ _ (WC.region (WL.z (vI (j:Int)) 13 (WL.y (vI ((j:Int)-1)) 14 (x_sub (Z:=(j:Int)-1) rfl rfl rfl (by omega) (by omega) (by omega)) (WL.z (vI ((j:Int)-1)) 5 (WL.nil (WQ.sb [(0,.slice (some ⟨bb,oo,none⟩) n cap),(1,vI (k:Int)),(5,vI ((j:Int)-1))] ?_)))))))));refine WQ.then (hK5 _ _ _ (by omega) ⟨(j:Int)-1,rfl,rfl,by omega,by omega,fun x h1 h2 h3=>(Decidable.em (x=j)).elim (fun e=>absurd (e ▸ h3) (by rw [hO];exact Bool.false_ne_true)) (fun e=>hv x (by omega) h2 h3),hH7⟩)
 ·
  refine WL.y (.bool false) 12 (x_geq rfl rfl rfl (dF (hge))) (WL.k hK9 ?_);refine WC.no rfl ?_;refine WC.exit (WQ.thenExit (WQ.thenExit (WQ.inExit (WQ.then (hK3 _ _ _ (WC.seq fun K19 hK19=>WC.region (WL.z (vI (-1)) 4 (WL.k hK19 ?_))))))));refine WC.ret ?_;refine WQ.ret1 4 rfl rfl ?_;exact⟨by rw [opener_none hB hk (fun x h1 h2=>hv x (by omega) h1 h2)],HP.below hH7⟩
theorem rOpener_any (p:Option Addr) (n cap:Nat) (c A B:Nat→Int) (at':Int) (w:World) (hIn:InC w p n c A B) (hn:n≤400) (h1:-9223372036854775808≤at') (h2:at'≤9223372036854775807) :
  Calls Tryz.prog 50 #[.slice p n cap,vI at'] w fun e w'=>e=.returned (.tuple #[.int .i64 (opO c A B n at'),.int .i64 (opF c A B n at')])∧Below w.heap.size w w':=by
 refine calls_of Tryz.func50 rfl (m:=31) rfl [(0,.slice p n cap),(1,vI at')] (Fr_enter [.slice p n cap,vI at'] 31 (Nat.le_of_ble_eq_true rfl)) ?_;have hH1:HP Tr w w []:=HP.refl w;refine WC.seq fun K2 hK2=>WC.region (WL.z (vI 0) 4 (WL.z (vI 0) 5 (WL.k hK2 (WC.seq fun K3 hK3=>WC.region (WL.z (.slice p n cap) 8 ?_)))));refine WL.c 26 #[.slice p n cap,.bool false] 9 ?_;refine(rCheck_any _ _ _ c A B false _ (hIn.below (HP.below hH1)) hn).mono ?_;rintro e w4 ⟨rfl,hb5⟩;refine⟨_,rfl,?_⟩;have hH6:=HP.call hH1 hb5;refine WL.z (vI (chk c A B false n)) 6 (WL.k hK3 (WC.seq fun K7 hK7=>WC.seq fun K8 hK8=>WC.region (WL.z (vI (chk c A B false n)) 10 ?_)));by_cases hc0:chk c A B false n=0
 ·
  refine WL.y (.bool true) 11 (x_eql rfl rfl rfl (dT (hc0))) (WL.z (.bool true) 12 (WL.z (vI at') 13 ?_));by_cases hlo:at'<0
  ·
   refine WL.y (.bool true) 14 (x_lss rfl rfl rfl (dT (hlo))) (WL.z (.bool true) 15 (WL.p 16 (WL.p 17 (WL.p 18 (WL.p 19 (WL.z (.bool true) 20 (WL.z (.bool true) 21 (WL.k hK8 (WC.sb [(0,.slice p n cap),(1,vI at'),(4,vI 0),(5,vI 0),(6,vI (chk c A B false n)),(21,.bool true)] ?_)))))))));refine WC.yes rfl ?_;refine WC.region (WL.z (vI 1) 6 (WL.k hK7 (WC.seq fun K9 hK9=>WC.seq fun K10 hK10=>WC.region (WL.z (vI 1) 22 (WL.y (.bool true) 23 (x_neq rfl rfl rfl (by decide)) (WL.nil (WQ.then ?_)))))));refine hK10 _ _ _ (WC.yes rfl ?_);refine WC.seq fun K11 hK11=>WC.region (WL.z (vI 1) 24 (WL.z (vI 0) 4 (WL.z (vI 1) 5 (WL.k hK11 (WC.ret ?_)))));refine WQ.thenRet ?_;refine WQ.ret2 4 5 rfl rfl rfl ?_;have q:opF c A B n at'=1∧opO c A B n at'=0:=op_bad (er:=1) (by decide) (idE_out (by omega) (by omega));exact⟨by rw [q.1,q.2],HP.below hH6⟩
  ·
   refine WL.y (.bool false) 14 (x_lss rfl rfl rfl (dF (hlo))) (WL.z (.bool false) 15 (WL.z (vI at') 16 (WL.z (.slice p n cap) 17 (WL.z (vI (n:Int)) 18 ?_))));by_cases hhi:(n:Int)≤at'
   ·
    refine WL.y (.bool true) 19 (x_geq rfl rfl rfl (dT (hhi))) (WL.z (.bool true) 20 (WL.z (.bool true) 21 (WL.k hK8 (WC.sb [(0,.slice p n cap),(1,vI at'),(4,vI 0),(5,vI 0),(6,vI (chk c A B false n)),(21,.bool true)] ?_))));refine WC.yes rfl ?_;refine WC.region (WL.z (vI 1) 6 (WL.k hK7 (WC.seq fun K12 hK12=>WC.seq fun K13 hK13=>WC.region (WL.z (vI 1) 22 (WL.y (.bool true) 23 (x_neq rfl rfl rfl (by decide)) (WL.nil (WQ.then ?_)))))));refine hK13 _ _ _ (WC.yes rfl ?_);refine WC.seq fun K14 hK14=>WC.region (WL.z (vI 1) 24 (WL.z (vI 0) 4 (WL.z (vI 1) 5 (WL.k hK14 (WC.ret ?_)))));refine WQ.thenRet ?_;refine WQ.ret2 4 5 rfl rfl rfl ?_;have q:opF c A B n at'=1∧opO c A B n at'=0:=op_bad (er:=1) (by decide) (idE_out (by omega) (by omega));exact⟨by rw [q.1,q.2],HP.below hH6⟩
   ·
    refine WL.y (.bool false) 19 (x_geq rfl rfl rfl (dF (hhi))) (WL.z (.bool false) 20 (WL.z (.bool false) 21 (WL.k hK8 (WC.sb [(0,.slice p n cap),(1,vI at'),(4,vI 0),(5,vI 0),(6,vI (chk c A B false n)),(21,.bool false)] ?_))));refine WC.no rfl ?_;refine WC.skip (WQ.then (hK7 _ _ _ (WC.seq fun K15 hK15=>WC.seq fun K16 hK16=>WC.region (WL.z (vI (chk c A B false n)) 22 (WL.y (.bool false) 23 (x_neq rfl rfl rfl (dF (fun h=>h hc0))) (WL.k hK16 ?_))))));refine WC.no rfl ?_;refine WC.skip (WQ.then (hK15 _ _ _ (WC.seq fun K17 hK17=>?_)));obtain⟨k,rfl⟩:∃ k:Nat,at'=(k:Int):=⟨at'.toNat,by omega⟩;obtain⟨bb,oo,rfl,hrow⟩:=hIn (by omega);have hE:idE c A B n (k:Int)=0:=idE_in (by omega) (by omega);have hB:=chk_bal (show chk c A B false n=0 by omega);refine WC.region (WL.z (.slice (some ⟨bb,oo,none⟩) n cap) 25 (WL.z (vI (k:Int)) 26 ?_));refine WL.c 78 #[.slice (some ⟨bb,oo,none⟩) n cap,vI (k:Int)] 27 ?_;refine(around_any _ _ _ c A B k _ (hIn.below (HP.below hH6)) hn (by omega) hB).mono ?_;rintro e w18 ⟨rfl,hb19⟩;refine⟨_,rfl,?_⟩;have hH20:=HP.call hH6 hb19;refine WL.z (vI ((shD c n).o k)) 7 (WL.k hK17 (WC.seq fun K21 hK21=>WC.seq fun K22 hK22=>WC.region (WL.z (vI ((shD c n).o k)) 28 ?_)));by_cases hneg:(shD c n).o k<0
    ·
     refine WL.y (.bool true) 29 (x_lss rfl rfl rfl (dT (hneg))) (WL.k hK22 ?_);refine WC.yes rfl ?_;refine WC.seq fun K23 hK23=>WC.region (WL.z (vI 0) 4 (WL.z (vI 3) 5 (WL.k hK23 (WC.sb [(0,.slice (some ⟨bb,oo,none⟩) n cap),(1,vI (k:Int)),(4,vI 0),(5,vI 3),(6,vI (chk c A B false n)),(7,vI ((shD c n).o k)),(21,.bool false),(23,.bool false),(29,.bool true)] (WC.ret ?_)))));refine WQ.thenRet ?_;refine WQ.ret2 4 5 rfl rfl rfl ?_;have q:opF c A B n (k:Int)=3∧opO c A B n (k:Int)=0:=op_none hE hneg;exact⟨by rw [q.1,q.2],HP.below hH20⟩
    ·
     refine WL.y (.bool false) 29 (x_lss rfl rfl rfl (dF (hneg))) (WL.k hK22 ?_);refine WC.no rfl ?_;refine WC.skip (WQ.then (hK21 _ _ _ (WC.seq fun K24 hK24=>WC.region (WL.z (vI ((shD c n).o k)) 30 (WL.z (vI ((shD c n).o k)) 4 (WL.z (vI 0) 5 (WL.k hK24 (WC.sb [(0,.slice (some ⟨bb,oo,none⟩) n cap),(1,vI (k:Int)),(4,vI ((shD c n).o k)),(5,vI 0),(6,vI (chk c A B false n)),(7,vI ((shD c n).o k)),(21,.bool false),(23,.bool false),(29,.bool false)] ?_))))))));refine WC.ret ?_;refine WQ.ret2 4 5 rfl rfl rfl ?_;have q:opF c A B n (k:Int)=0∧opO c A B n (k:Int)=(shD c n).o k:=op_ok hE hneg;exact⟨by rw [q.1,q.2],HP.below hH20⟩
 ·
  have hc:=hc0;refine WL.y (.bool false) 11 (x_eql rfl rfl rfl (dF (hc0))) (WL.z (.bool false) 12 (WL.p 13 (WL.p 14 (WL.p 15 (WL.p 16 (WL.p 17 (WL.p 18 (WL.p 19 (WL.p 20 (WL.z (.bool false) 21 (WL.nil ?_)))))))))));refine WQ.then (hK8 _ _ _ (WC.sb [(0,.slice p n cap),(1,vI at'),(4,vI 0),(5,vI 0),(6,vI (chk c A B false n)),(21,.bool false)] ?_));refine WC.no rfl ?_;refine WC.skip (WQ.then (hK7 _ _ _ (WC.seq fun K25 hK25=>WC.seq fun K26 hK26=>WC.region (WL.z (vI (chk c A B false n)) 22 (WL.y (.bool true) 23 (x_neq rfl rfl rfl (dT (hc0))) (WL.k hK26 ?_))))));refine WC.yes rfl ?_;refine WC.seq fun K27 hK27=>WC.region (WL.z (vI (chk c A B false n)) 24 (WL.z (vI 0) 4 (WL.z (vI (chk c A B false n)) 5 (WL.k hK27 (WC.ret ?_)))));refine WQ.thenRet ?_;refine WQ.ret2 4 5 rfl rfl rfl ?_;have q:opF c A B n at'=chk c A B false n∧opO c A B n at'=0:=op_bad hc (idE_bad hc);exact⟨by rw [q.1,q.2],HP.below hH6⟩
end Ec
end Go.Proofs.YtmjnakhpekbenaaGreat
namespace Go.Proofs.YtmjnakhpekbenaaGreat
open Go.RowKit Go.ChangeShapes Go.WideShapes Fw
namespace Ec
theorem cells3:Tryz.prog.cellsOf 51=3:=by kernel_rfl
theorem cells1i:Tryz.prog.cellsOf 3=1:=by kernel_rfl
set_option maxRecDepth 100000 in
theorem elem3 {H:Type} {enc:TypeId × Value→H} {W:World} {base:Nat} {sp:Nat→Bool} {hd:Bool} {n:Nat} {cs:List Value} {y:DataW H × List MemPlace} (h:DataW.trod enc Tryz.prog W base sp hd n 51 cs=some y) :
    ∃ o:In,cs=[.int .i64 o.op,.int .i64 o.a,.int .i64 o.b]:=by
  obtain⟨xs,k,hk,hx,hl,hxl,hf⟩:=DataW.trod_struct Tryz.underlying51 h;rw [cells3] at hl;simp at hxl
  match xs,hxl,cs,hl with
  | [y0,y1,y2],_,[v0,v1,v2],_ =>
    have g0:=hf 0 _ rfl;have g1:=hf 1 _ rfl;have g2:=hf 2 _ rfl;simp [cells1i] at g0 g1 g2;obtain⟨z0,h0,-⟩:=DataW.trod_int Tryz.underlying3 g0;obtain⟨z1,h1,-⟩:=DataW.trod_int Tryz.underlying3 g1;obtain⟨z2,h2,-⟩:=DataW.trod_int Tryz.underlying3 g2;simp only [List.cons.injEq,and_true] at h0 h1 h2;exact⟨⟨z0,z1,z2⟩,by rw [h0,h1,h2]⟩
structure RowIn (W:World) (p:Option Addr) (n cap:Nat) (c A B:Nat→Int):Prop where
  inC:InC W p n c A B
  nil:p=none→n=0∧cap=0
  hn:n≤cap
  hc:cap≤maxLen
theorem choose3 {m:Nat} {Q:Nat→In→Prop} (h:∀ i,i<m→∃ o,Q i o):∃ f:Nat→In,∀ i,i<m→Q i (f i):=by
  refine⟨fun i=>if hi:i<m then (h i hi).choose else ⟨0,0,0⟩,fun i hi=>?_⟩;simp only [hi,dif_pos];exact(h i hi).choose_spec
theorem rows3 {H:Type} {enc:TypeId × Value→H} {W:World} {p:Option Addr} {n cap:Nat} {d:DataW H} {pl:List MemPlace}
    (h:DataW.Trod enc Tryz.prog W 0 (fun _=>true) true 24 (.slice p n cap) d pl) (lt:∀ x∈pl,x.block<W.heap.size):∃ c A B,RowIn W p n cap c A B:=by
  obtain⟨fuel,hf⟩:=h;rcases Go.Deep.open_slice Tryz.underlying24 hf with ⟨hc,-⟩ | ⟨a,len,cap',m,k,D,Pl,hc,-,hl,hm,hmm,hx,hall⟩
  · simp [Value.cells] at hc
    obtain⟨rfl,rfl,rfl⟩:=hc;exact⟨fun _=>0,fun _=>0,fun _=>0,fun h=>absurd h (by omega),fun _=>⟨rfl,rfl⟩,Nat.le_refl _,by omega⟩
  · simp [Value.cells] at hc
    obtain⟨rfl,rfl,rfl⟩:=hc;simp only [if_true] at hmm;have add0:∀ a:Addr,a.add 0=a:=fun a=>by unfold Addr.add;rw [if_pos rfl]
    have each:∀ i,i<m→∃ o:In,W.cell? (a.add (i*3))=some (.int .i64 o.op)∧W.cell? ((a.add (i*3)).add 1)=some (.int .i64 o.a)∧W.cell? ((a.add (i*3)).add 2)=some (.int .i64 o.b):=by
      intro i hi;obtain⟨cs',h1,h2⟩:=hall i hi;rw [cells3] at h1;obtain⟨o,rfl⟩:=elem3 h2;obtain⟨_,hlen,hcell⟩:=World.cells?_some h1;have e0:=hcell 0 (by omega);rw [add0] at e0;exact⟨o,by simpa using e0,by simpa using hcell 1 (by omega),by simpa using hcell 2 (by omega)⟩
    obtain⟨f,hf⟩:=choose3 each;refine⟨fun i=>(f i).op,fun i=>(f i).a,fun i=>(f i).b,fun h0=>?_,fun q=>(by cases q),hl,hm⟩;obtain⟨g0,g1,g2⟩:=hf 0 (by omega);rw [Nat.zero_mul,add0] at g0;have hsp:a.spot=none:=by
      unfold World.cell? at g0;cases hsp:a.spot with
      | none=>rfl
      | some q=>rw [hsp] at g0;simp at g0;split at g0 <;> simp at g0
    obtain⟨bb,oo,sp⟩:=a;simp only at hsp;subst hsp;have hadd:∀ k,(⟨bb,oo,none⟩:Addr).add k=⟨bb,oo+k,none⟩:=fun k=>by unfold Addr.add;split <;> simp_all
    have hadd2:∀ o k,(⟨bb,o,none⟩:Addr).add k=⟨bb,o+k,none⟩:=fun o k=>by unfold Addr.add;split <;> simp_all
    refine⟨bb,oo,rfl,fun i hi j v hv=>?_⟩;obtain⟨e0,e1,e2⟩:=hf i (by omega);simp only [hadd,hadd2] at e0 e1 e2
    match j,hv with
    | 0,hv=>simp at hv;subst hv;exact e0
    | 1,hv=>simp at hv;subst hv;exact e1
    | 2,hv=>simp at hv;subst hv;exact e2
    | j+3,hv=>simp at hv
def maF (c A B:Nat→Int) (n:Nat) (at':Int):Int:=if idE c A B n at'≠0 then idE c A B n at' else if opn (c at'.toNat)=false then 3 else 0
def maA (c A B:Nat→Int) (n:Nat) (at':Int):Int:=if maF c A B n at'=0 then (shD c n).e at'.toNat else 0
def maE (c A B:Nat→Int) (n:Nat) (at':Int):Int:=if maF c A B n at'=0 then (shD c n).d at'.toNat else 0
theorem mtc_eq (c A B:Nat→Int) (n:Nat) (at':Int):mtc c A B n at'=.tuple #[vI (maA c A B n at'),vI (maE c A B n at'),vI (maF c A B n at')]:=by
  unfold mtc maA maE maF;by_cases h1:idE c A B n at'≠0
  · simp [h1]
  · by_cases h2 : opn (c at'.toNat) = false
    · simp at h1;simp [h1,h2]
    · simp at h1 h2;simp [h1,h2]
abbrev MaV (c A B:Nat→Int) (n:Nat) (at':Int):Value:=.tuple #[vI (maA c A B n at'),vI (maE c A B n at'),vI (maF c A B n at')]
theorem Match2_any (p:Option Addr) (n cap:Nat) (c A B:Nat→Int) (at':Int) (w:World) (hIn:InC w p n c A B) (hn:n≤400) (h1:-9223372036854775808≤at') (h2:at'≤9223372036854775807) :
    Calls Tryz.prog 47 #[.slice p n cap,vI at'] w fun e w'=>e=.returned (MaV c A B n at')∧Below w.heap.size w w':=by
  have q:=Match_any p n cap c A B at' w hIn hn h1 h2;rw [mtc_eq] at q;exact q
theorem rMatch2_any (p:Option Addr) (n cap:Nat) (c A B:Nat→Int) (at':Int) (w:World) (hIn:InC w p n c A B) (hn:n≤400) (h1:-9223372036854775808≤at') (h2:at'≤9223372036854775807) :
    Calls Tryz.prog 29 #[.slice p n cap,vI at'] w fun e w'=>e=.returned (MaV c A B n at')∧Below w.heap.size w w':=by
  have q:=rMatch_any p n cap c A B at' w hIn hn h1 h2;rw [mtc_eq] at q;exact q
end Ec
end Go.Proofs.YtmjnakhpekbenaaGreat
namespace Go.Proofs.YtmjnakhpekbenaaGreat
open Go.RowKit Fw
namespace Ec
theorem hadd (bb o k:Nat):(⟨bb,o,none⟩:Addr).add k=⟨bb,o+k,none⟩:=by unfold Addr.add;split <;> simp_all
theorem infoR:(Tryz.prog.info? 51).map (fun i=>(i.zero,i.size,i.bytes))=some (some (.agg #[.int .i64 0,.int .i64 0,.int .i64 0]),3,24):=by kernel_rfl
theorem infoR':∃ i,Tryz.prog.info? 51=some i∧i.zero=some (.agg #[.int .i64 0,.int .i64 0,.int .i64 0])∧i.size=3∧i.bytes=24:=by
  obtain⟨i,hi,h⟩:=Option.map_eq_some_iff.1 infoR;simp only [Prod.mk.injEq] at h;exact⟨i,hi,h.1,h.2.1,h.2.2⟩
end Ec
end Go.Proofs.YtmjnakhpekbenaaGreat
namespace Go.Proofs.YtmjnakhpekbenaaGreat
open Go.RowKit Fw
namespace Ca
structure SlI where
  q:Option Addr
  xs:List Int
  c:Nat
abbrev slV (r:SlI):Value:=.slice r.q r.xs.length r.c
structure InR (w:World) (r:SlI):Prop where
  row:InI w r.q r.xs
  hc:r.xs.length≤r.c
  hm:r.c≤maxLen
  hw:∀ x∈r.xs,Wi x
structure InS2 (w:World) (p:Option Addr) (S:List SlI):Prop where
  row:0<S.length→∃ g o,p=some ⟨g,o,none⟩∧∀ i,i<S.length→w.rangeAt g (o+i) [slV (S.getD i ⟨none,[],0⟩)]
  inn:∀ r∈S,InR w r
theorem InR.below {w w':World} {r:SlI} (h:InR w r) (hb:Below w.heap.size w w'):InR w' r:=⟨h.row.below hb,h.hc,h.hm,h.hw⟩
theorem InS2.below {w w':World} {p:Option Addr} {S:List SlI} (h:InS2 w p S) (hb:Below w.heap.size w w'):InS2 w' p S :=
  ⟨fun h0=>by
    obtain⟨g,o,hp,hr⟩:=h.row h0;exact⟨g,o,hp,fun i hi=>HP.oldRange (HP.of_below (S:=Tr) hb) trivial (hr i hi)⟩,fun r hr=>(h.inn r hr).below hb⟩
def okX (s k:Int) (xs:List Int) (i:Nat):Bool:=wn (xs.getD i 0) 0 999 && (decide ((xs.getD i 0).tmod s=k) && !((xs.take i).contains (xs.getD i 0)))
def okR (s y k:Int) (xs:List Int):Bool:=decide ((xs.length:Int)≤y) && (List.range xs.length).all (okX s k xs)
def okSt (s y l m:Int) (X:List (List Int)):Bool:=vG s y l m && (decide ((X.length:Int)=s) && (List.range X.length).all fun k=>okR s y (k:Int) (X.getD k []))
theorem okR_iff {s y k:Int} {xs:List Int}:okR s y k xs=true↔(xs.length:Int)≤y∧∀ i,i<xs.length→okX s k xs i=true:=by simp [okR]
theorem okSt_iff {s y l m:Int} {X:List (List Int)}:okSt s y l m X=true↔vG s y l m=true∧(X.length:Int)=s∧∀ k,k<X.length→okR s y (k:Int) (X.getD k [])=true:=by simp [okSt]
theorem okSt_bad {s y l m:Int} {X:List (List Int)} {k:Nat} (hk:k<X.length) (h:okR s y (k:Int) (X.getD k [])=false):okSt s y l m X=false:=by
  cases q:okSt s y l m X with
  | false=>rfl
  | true=>have:=(okSt_iff.1 q).2.2 k hk;rw [h] at this;cases this
theorem okR_bad {s y k:Int} {xs:List Int} {i:Nat} (hi:i<xs.length) (h:okX s k xs i=false):okR s y k xs=false:=by
  cases q:okR s y k xs with
  | false=>rfl
  | true=>have:=(okR_iff.1 q).2 i hi;rw [h] at this;cases this
theorem okR_long {s y k:Int} {xs:List Int} (h:¬ (xs.length:Int)≤y):okR s y k xs=false:=by unfold okR;rw [decide_eq_false h];rfl
def stX (S:List SlI):List (List Int):=S.map (·.xs)
theorem stX_at {S:List SlI} {k:Nat} {r:SlI} (h:S[k]?=some r):(stX S).getD k []=r.xs∧S.getD k ⟨none,[],0⟩=r∧k<S.length∧r∈S:=by
  have hlt:=(List.getElem?_eq_some_iff.1 h).1;exact⟨by simp [stX,List.getD_eq_getElem?_getD,h],by simp [List.getD_eq_getElem?_getD,h],hlt,List.mem_of_getElem? h⟩
theorem stX_len (S:List SlI):(stX S).length=S.length:=by simp [stX]
theorem cells_of {w:World} {g o:Nat} {xs:List Int} (h:∀ i,i<xs.length→w.rangeAt g (o+i) [vI (xs.getD i 0)]):∀ j,j<xs.length→w.cell? ⟨g,o+j,none⟩=some (.int .i64 (xs.getD j 0)):=fun j hj=>by
  have:=h j hj 0 _ rfl;simpa using this
end Ca
end Go.Proofs.YtmjnakhpekbenaaGreat
namespace Go.Proofs.YtmjnakhpekbenaaGreat
set_option maxRecDepth 20000
set_option maxHeartbeats 4000000
open Go.RowKit Fw
namespace Ca
def plc (x:Int):List Int→Option Nat
  | []=>none
  | a::r=>if a=x then some 0 else (plc x r).map (·+1)
theorem plc_some {x:Int}:∀ {xs:List Int} {k:Nat},k<xs.length→xs.getD k 0=x→(∀ i,i<k→xs.getD i 0≠x)→plc x xs=some k
  | [],k,hk,_,_=>by simp at hk
  | a::r,0,_,h,_=>by simp only [plc];rw [if_pos (by simpa using h)]
  | a::r,k+1,hk,h,hn=>by
    have h0:=hn 0 (by omega);have:=plc_some (x:=x) (xs:=r) (k:=k) (by simpa using hk) (by simpa using h) fun i hi=>by have:=hn (i+1) (by omega);simpa using this
    simp only [plc];rw [if_neg (by simpa using h0),this];rfl
def plcV (x:Int) (xs:List Int):Int:=match plc x xs with | some k=>(k:Int) | none=>-1
theorem plcV_ge {x:Int}:∀ {xs:List Int},0≤plcV x xs↔xs.contains x=true:=by
  intro xs;have key:∀ xs:List Int,(plc x xs).isSome=xs.contains x:=by
    intro xs;induction xs with
    | nil=>rfl
    | cons a r ih =>
      simp only [plc,List.contains_cons];by_cases h:a=x
      · rw [if_pos h];subst h;simp
      · rw [if_neg h, Option.isSome_map, ih]
        have:(x==a)=false:=(by simpa using fun e=>h e.symm);rw [this,Bool.false_or]
  unfold plcV;have:=key xs;cases h:plc x xs with
  | none=>rw [h] at this;simp at this ⊢;exact this
  | some k=>rw [h] at this;simp at this ⊢;exact this
theorem sz32:(Tryz.prog.info? 32).map (·.size)=some 1:=by kernel_rfl
theorem ValidState_any (s y l m:Int) (p:Option Addr) (S:List SlI) (cp:Nat) (w:World) (hS:InS2 w p S) (hn:S.length≤281474976710656) :
  Calls Tryz.prog 53 #[.agg #[vI s,vI y,vI l,vI m],.slice p S.length cp] w fun e w'=>e=.returned (.bool (okSt s y l m (stX S)))∧Below w.heap.size w w':=by
 refine calls_of Tryz.func53 rfl (m:=58) rfl [(0,.agg #[vI s,vI y,vI l,vI m]),(1,.slice p S.length cp)] (Fr_enter [.agg #[vI s,vI y,vI l,vI m],.slice p S.length cp] 58 (Nat.le_of_ble_eq_true rfl)) ?_;have hH1:HP Tr w w []:=HP.refl w;refine WC.seq fun K2 hK2=>WC.region ?_;refine WL.alloc (c:=#[vI s,vI y,vI l,vI m]) (T:=23) hH1 2 rfl (by decide) rfl rfl (fun b2=>vP b2 0) (by kernel_rfl) (fun b2 w3 hw3=>?_);have hH4:HP Tr w w3 [.cel b2 #[vI s,vI y,vI l,vI m] 23]:=hw3.2;have nb2:=hw3.1;clear hw3;refine WL.z (.bool false) 4 (WL.k hK2 (WC.seq fun K5 hK5=>WC.seq fun K6 hK6=>WC.region (WL.y (.agg #[vI s,vI y,vI l,vI m]) 9 (x_loadS (cs:=[vI s,vI y,vI l,vI m]) rfl rfl Tryz.underlying23 rfl sz23 (HP.range hH4 0 rfl rfl)) ?_)));rcases Bool.eq_false_or_eq_true (vG s y l m) with hg | hg
 ·
  refine WL.c 58 #[.agg #[vI s,vI y,vI l,vI m]] 10 ?_;refine(Valid_any s y l m _).mono ?_;rw [hg];rintro e w7 ⟨rfl,hb9⟩;refine⟨_,rfl,?_⟩;have hH8:=HP.call hH4 hb9;obtain⟨⟨hs1,hs2⟩,⟨hy1,hy2⟩,-,-⟩:=vG_iff.1 hg;refine WL.z (.bool false) 11 (WL.z (.bool false) 12 (WL.z (.slice p S.length cp) 13 (WL.z (vI (S.length:Int)) 14 (WL.z (vP b2 0) 15 (WL.y (vI s) 16 (x_load rfl rfl Tryz.underlying3 rfl (HP.cell hH8 0 rfl rfl)) ?_)))));by_cases hsl:(S.length:Int)≠s
  ·
   refine WL.y (.bool true) 17 (x_neq rfl rfl rfl (dT (hsl))) (WL.z (.bool true) 18 (WL.k hK6 (WC.sb [(0,.agg #[vI s,vI y,vI l,vI m]),(1,.slice p S.length cp),(2,vP b2 0),(4,.bool false),(18,.bool true)] ?_)));refine WC.yes rfl ?_;refine WC.seq fun K9 hK9=>WC.region (WL.z (.bool false) 4 (WL.k hK9 (WC.ret ?_)));refine WQ.thenRet ?_;refine WQ.ret1 4 rfl rfl ?_;exact⟨by unfold okSt;rw [hg,stX_len,decide_eq_false (by omega)];rfl,HP.below hH8⟩
  ·
   refine WL.y (.bool false) 17 (x_neq rfl rfl rfl (dF (hsl))) (WL.z (.bool false) 18 (WL.k hK6 (WC.sb [(0,.agg #[vI s,vI y,vI l,vI m]),(1,.slice p S.length cp),(2,vP b2 0),(4,.bool false),(18,.bool false)] ?_)));refine WC.no rfl ?_;refine WC.skip (WQ.then (hK5 _ _ _ (WC.seq fun K10 hK10=>WC.seq fun K11 hK11=>WC.region (WL.z (.slice p S.length cp) 19 (WL.z (vI (S.length:Int)) 20 (WL.z (vI 0) 21 (WL.k hK11 ?_)))))));refine WC.block ?_;refine WC.loop (fun kk0 ll0 ww0=>∃ (k:Nat),ll0=[(1,.slice p S.length cp),(2,vP b2 0),(19,.slice p S.length cp),(20,vI (S.length:Int)),(21,vI (k:Int))]∧kk0=S.length-k∧(k≤S.length)∧(∀ j,j<k→okR s y (j:Int) ((stX S).getD j [])=true)∧HP Tr w ww0 [.cel b2 #[vI s,vI y,vI l,vI m] 23]) (S.length) [(1,.slice p S.length cp),(2,vP b2 0),(19,.slice p S.length cp),(20,vI (S.length:Int)),(21,vI 0)] ⟨rfl,rfl,rfl,rfl,rfl,trivial⟩ ⟨0,rfl,rfl,Nat.zero_le _,fun j hj=>by omega,hH8⟩ ?_;rintro kk l w13 ⟨k,rfl,hkk,hk,hok,hH14⟩ K12 hK12;refine WC.seq fun K15 hK15=>WC.region ?_;by_cases hlt:(k:Int)<(S.length:Int)
   ·
    refine WL.y (.bool true) 22 (x_lss rfl rfl rfl (dT (hlt))) (WL.k hK15 (WC.seq fun K16 hK16=>?_));refine WC.yes rfl ?_;refine WC.skip (WQ.then (hK16 _ _ _ (WC.seq fun K17 hK17=>WC.block (WC.seq fun K18 hK18=>?_))));obtain⟨r,hr⟩:∃ r,S[k]?=some r:=⟨S[k]'(by omega),List.getElem?_eq_getElem _⟩;obtain⟨hr1,hr2,hr3,hr4⟩:=stX_at hr;have hIR:=hS.inn r hr4;obtain⟨q,xs,c⟩:=r;have hI:InI w q xs:=hIR.row;have hxc:xs.length≤c:=hIR.hc;have hcm:c≤maxLen:=hIR.hm;unfold maxLen at hcm;simp only [] at hr1 hr2;obtain⟨gS,oS,hpS,hrowS⟩:=hS.row (by omega);subst hpS;refine WC.region (WL.z (vI (k:Int)) 23 (WL.y (vP gS (oS+k)) 24 (x_ix (k) (oS+k) Tryz.underlying33 sz32) (WL.y (.slice q xs.length c) 25 (x_load rfl rfl Tryz.underlying32 rfl ((HP.oldRange hH14 trivial (show w.rangeAt gS (oS+k) [slV ⟨q,xs,c⟩] by have q9:=hrowS k (by omega);rw [hr2] at q9;exact q9)) 0 _ rfl)) (WL.z (vI (k:Int)) 5 (WL.z (.slice q xs.length c) 6 (WL.k hK18 (WC.seq fun K19 hK19=>WC.seq fun K20 hK20=>WC.region ?_)))))));refine WL.z (.slice q xs.length c) 26 (WL.z (vI (xs.length:Int)) 27 (WL.z (vP b2 1) 28 (WL.y (vI y) 29 (x_load rfl rfl Tryz.underlying3 rfl (HP.cell hH14 0 rfl rfl)) ?_)));by_cases hlong:y<(xs.length:Int)
    ·
     refine WL.y (.bool true) 30 (x_gtr rfl rfl rfl (dT (hlong))) (WL.k hK20 (WC.sb [(1,.slice (some ⟨gS,oS,none⟩) S.length cp),(2,vP b2 0),(5,vI (k:Int)),(6,.slice q xs.length c),(19,.slice (some ⟨gS,oS,none⟩) S.length cp),(20,vI (S.length:Int)),(21,vI (k:Int)),(22,.bool true),(30,.bool true)] ?_));refine WC.yes rfl ?_;refine WC.seq fun K21 hK21=>?_;have hbad:okR s y (k:Int) ((stX S).getD k [])=false:=(by rw [hr1];exact okR_long (by omega));refine WC.region (WL.z (.bool false) 4 (WL.k hK21 (WC.ret ?_)));refine WQ.thenRet ?_;refine WQ.inRet ?_;refine WQ.thenRet ?_;refine WQ.thenRet ?_;refine WQ.inRet ?_;refine WQ.thenRet ?_;refine WQ.ret1 4 rfl rfl ?_;exact⟨by rw [okSt_bad (by rw [stX_len];omega) hbad],HP.below hH14⟩
    ·
     refine WL.y (.bool false) 30 (x_gtr rfl rfl rfl (dF (hlong))) (WL.k hK20 (WC.sb [(1,.slice (some ⟨gS,oS,none⟩) S.length cp),(2,vP b2 0),(5,vI (k:Int)),(6,.slice q xs.length c),(19,.slice (some ⟨gS,oS,none⟩) S.length cp),(20,vI (S.length:Int)),(21,vI (k:Int)),(22,.bool true),(30,.bool false)] ?_));refine WC.no rfl ?_;refine WC.skip (WQ.then (hK19 _ _ _ (WC.seq fun K22 hK22=>WC.region (WL.z (.slice q xs.length c) 31 (WL.z (vI (xs.length:Int)) 32 (WL.z (vI 0) 33 (WL.k hK22 (WC.block ?_))))))));refine WC.loop (fun kk0 ll0 ww0=>∃ (i:Nat),ll0=[(1,.slice (some ⟨gS,oS,none⟩) S.length cp),(2,vP b2 0),(5,vI (k:Int)),(6,.slice q xs.length c),(19,.slice (some ⟨gS,oS,none⟩) S.length cp),(20,vI (S.length:Int)),(21,vI (k:Int)),(31,.slice q xs.length c),(32,vI (xs.length:Int)),(33,vI (i:Int))]∧kk0=xs.length-i∧(i≤xs.length)∧(∀ j,j<i→okX s (k:Int) xs j=true)∧HP Tr w ww0 [.cel b2 #[vI s,vI y,vI l,vI m] 23]) (xs.length) [(1,.slice (some ⟨gS,oS,none⟩) S.length cp),(2,vP b2 0),(5,vI (k:Int)),(6,.slice q xs.length c),(19,.slice (some ⟨gS,oS,none⟩) S.length cp),(20,vI (S.length:Int)),(21,vI (k:Int)),(31,.slice q xs.length c),(32,vI (xs.length:Int)),(33,vI 0)] ⟨rfl,rfl,rfl,rfl,rfl,rfl,rfl,rfl,rfl,rfl,trivial⟩ ⟨0,rfl,rfl,Nat.zero_le _,fun j hj=>by omega,hH14⟩ ?_;rintro kk l w24 ⟨i,rfl,hkk,hi,hokj,hH25⟩ K23 hK23;refine WC.seq fun K26 hK26=>WC.region ?_;by_cases hi2:(i:Int)<(xs.length:Int)
     ·
      refine WL.y (.bool true) 34 (x_lss rfl rfl rfl (dT (hi2))) (WL.k hK26 (WC.seq fun K27 hK27=>?_));refine WC.yes rfl ?_;refine WC.skip (WQ.then (hK27 _ _ _ (WC.seq fun K28 hK28=>WC.block (WC.seq fun K29 hK29=>?_))));obtain⟨g,o,rfl,hrow⟩:=hI (by omega);refine WC.region (WL.z (vI (i:Int)) 35 (WL.y (vP g (o+i)) 36 (x_ix (i) (o+i) Tryz.underlying32 sz3) (WL.y (vI (xs.getD i 0)) 37 (x_load rfl rfl Tryz.underlying3 rfl ((HP.oldRange hH25 trivial (hrow i (by omega))) 0 _ rfl)) (WL.z (vI (i:Int)) 7 (WL.z (vI (xs.getD i 0)) 8 (WL.k hK29 (WC.seq fun K30 hK30=>WC.region (WL.z (vI (xs.getD i 0)) 38 ?_))))))));rcases Bool.eq_false_or_eq_true (wn (xs.getD i 0) 0 999) with hA | hA
      ·
       refine WL.c 52 #[vI (xs.getD i 0),vI 0,vI 999] 39 ?_;refine(within_at hA _).mono ?_;rintro e w31 ⟨rfl,rfl⟩;refine⟨_,rfl,?_⟩;refine WL.z (.bool false) 40 (WL.z (.bool false) 41 (WL.z (vI (xs.getD i 0)) 42 (WL.z (vP b2 0) 43 (WL.y (vI s) 44 (x_load rfl rfl Tryz.underlying3 rfl (HP.cell hH25 0 rfl rfl)) (WL.y (vI ((xs.getD i 0).tmod s)) 45 (x_rem rfl rfl rfl (by omega) rfl) (WL.z (vI (k:Int)) 46 ?_))))));by_cases h47:(xs.getD i 0).tmod s≠(k:Int)
       ·
        refine WL.y (.bool true) 47 (x_neq rfl rfl rfl (dT (h47))) (WL.z (.bool true) 48 (WL.z (.bool true) 49 (WL.p 50 (WL.p 51 (WL.p 52 (WL.p 53 (WL.p 54 (WL.z (.bool true) 55 (WL.k hK30 ?_)))))))));refine WC.sb [(1,.slice (some ⟨gS,oS,none⟩) S.length cp),(2,vP b2 0),(5,vI (k:Int)),(6,.slice (some ⟨g,o,none⟩) xs.length c),(7,vI (i:Int)),(8,vI (xs.getD i 0)),(19,.slice (some ⟨gS,oS,none⟩) S.length cp),(20,vI (S.length:Int)),(21,vI (k:Int)),(31,.slice (some ⟨g,o,none⟩) xs.length c),(32,vI (xs.length:Int)),(33,vI (i:Int)),(34,.bool true),(55,.bool true)] ?_;refine WC.yes rfl ?_;refine WC.seq fun K32 hK32=>?_;have hbx:okX s (k:Int) xs i=false:=(by unfold okX;rw [hA,decide_eq_false h47];rfl);have hbad:okR s y (k:Int) ((stX S).getD k [])=false:=(by rw [hr1];exact okR_bad (by omega) hbx);refine WC.region (WL.z (.bool false) 4 (WL.k hK32 (WC.ret ?_)));refine WQ.inRet ?_;refine WQ.thenRet ?_;refine WQ.thenRet ?_;refine WQ.inRet ?_;refine WQ.inRet ?_;refine WQ.thenRet ?_;refine WQ.thenRet ?_;refine WQ.inRet ?_;refine WQ.thenRet ?_;refine WQ.ret1 4 rfl rfl ?_;exact⟨by rw [okSt_bad (by rw [stX_len];omega) hbad],HP.below hH25⟩
       ·
        refine WL.y (.bool false) 47 (x_neq rfl rfl rfl (dF (h47))) (WL.z (.bool false) 48 (WL.z (.bool false) 49 (WL.z (.slice (some ⟨g,o,none⟩) xs.length c) 50 (WL.z (vI (i:Int)) 51 (WL.y (.slice (some ⟨g,o,none⟩) i c) 52 (x_sliceH (i) rfl rfl rfl Tryz.underlying32 (by omega) (by omega) sz3) (WL.z (vI (xs.getD i 0)) 53 ?_))))));rcases Bool.eq_false_or_eq_true ((xs.take i).contains (xs.getD i 0)) with hC | hC
        ·
         refine WL.c 79 #[.slice (some ⟨g,o,none⟩) i c,vI (xs.getD i 0)] 54 ?_;refine(((Tryz.slices_Contains_int g o i c xs (xs.getD i 0) _ (by omega) (by omega) (cells_of fun j hj=>HP.oldRange hH25 trivial (hrow j hj))).mono fun e w' h=>(show e=.returned (.bool true)∧_=w' from ⟨by rw [h.1,hC],h.2.symm⟩))).mono ?_;rintro e w33 ⟨rfl,rfl⟩;refine⟨_,rfl,?_⟩;refine WL.z (.bool true) 55 (WL.k hK30 (WC.sb [(1,.slice (some ⟨gS,oS,none⟩) S.length cp),(2,vP b2 0),(5,vI (k:Int)),(6,.slice (some ⟨g,o,none⟩) xs.length c),(7,vI (i:Int)),(8,vI (xs.getD i 0)),(19,.slice (some ⟨gS,oS,none⟩) S.length cp),(20,vI (S.length:Int)),(21,vI (k:Int)),(31,.slice (some ⟨g,o,none⟩) xs.length c),(32,vI (xs.length:Int)),(33,vI (i:Int)),(34,.bool true),(55,.bool true)] ?_));refine WC.yes rfl ?_;refine WC.seq fun K34 hK34=>?_;have hbx:okX s (k:Int) xs i=false:=(by unfold okX;rw [hA,decide_eq_true (Classical.not_not.1 h47),hC];rfl);have hbad:okR s y (k:Int) ((stX S).getD k [])=false:=(by rw [hr1];exact okR_bad (by omega) hbx);refine WC.region (WL.z (.bool false) 4 (WL.k hK34 (WC.ret ?_)));refine WQ.inRet ?_;refine WQ.thenRet ?_;refine WQ.thenRet ?_;refine WQ.inRet ?_;refine WQ.inRet ?_;refine WQ.thenRet ?_;refine WQ.thenRet ?_;refine WQ.inRet ?_;refine WQ.thenRet ?_;refine WQ.ret1 4 rfl rfl ?_;exact⟨by rw [okSt_bad (by rw [stX_len];omega) hbad],HP.below hH25⟩
        ·
         refine WL.c 79 #[.slice (some ⟨g,o,none⟩) i c,vI (xs.getD i 0)] 54 ?_;refine(((Tryz.slices_Contains_int g o i c xs (xs.getD i 0) _ (by omega) (by omega) (cells_of fun j hj=>HP.oldRange hH25 trivial (hrow j hj))).mono fun e w' h=>(show e=.returned (.bool false)∧_=w' from ⟨by rw [h.1,hC],h.2.symm⟩))).mono ?_;rintro e w35 ⟨rfl,rfl⟩;refine⟨_,rfl,?_⟩;refine WL.z (.bool false) 55 (WL.k hK30 (WC.sb [(1,.slice (some ⟨gS,oS,none⟩) S.length cp),(2,vP b2 0),(5,vI (k:Int)),(6,.slice (some ⟨g,o,none⟩) xs.length c),(7,vI (i:Int)),(8,vI (xs.getD i 0)),(19,.slice (some ⟨gS,oS,none⟩) S.length cp),(20,vI (S.length:Int)),(21,vI (k:Int)),(31,.slice (some ⟨g,o,none⟩) xs.length c),(32,vI (xs.length:Int)),(33,vI (i:Int)),(34,.bool true),(55,.bool false)] ?_));refine WC.no rfl ?_;refine WC.skip (WQ.inNormal (WQ.then (hK28 _ _ _ ?_)));have hokx:okX s (k:Int) xs i=true:=(by unfold okX;rw [hA,decide_eq_true (Classical.not_not.1 h47),hC];rfl);refine WC.region (WL.y (vI ((i+1:Nat):Int)) 56 (x_ad (((i+1:Nat):Int))) (WL.z (vI ((i+1:Nat):Int)) 33 (WL.nil (WQ.sb [(1,.slice (some ⟨gS,oS,none⟩) S.length cp),(2,vP b2 0),(5,vI (k:Int)),(6,.slice (some ⟨g,o,none⟩) xs.length c),(19,.slice (some ⟨gS,oS,none⟩) S.length cp),(20,vI (S.length:Int)),(21,vI (k:Int)),(31,.slice (some ⟨g,o,none⟩) xs.length c),(32,vI (xs.length:Int)),(33,vI ((i+1:Nat):Int))] ?_))));refine WQ.then (hK23 _ _ _ (by omega) ⟨i+1,rfl,rfl,by omega,fun j hj=>by
                    by_cases q9:j=i
                    · subst q9;exact hokx
                    · exact hokj j (by omega),hH25⟩)
      ·
       refine WL.c 52 #[vI (xs.getD i 0),vI 0,vI 999] 39 ?_;refine(within_at hA _).mono ?_;rintro e w36 ⟨rfl,rfl⟩;refine⟨_,rfl,?_⟩;refine WL.z (.bool true) 40 (WL.z (.bool true) 41 (WL.p 42 (WL.p 43 (WL.p 44 (WL.p 45 (WL.p 46 (WL.p 47 (WL.z (.bool true) 48 (WL.z (.bool true) 49 (WL.p 50 (WL.p 51 ?_)))))))))));refine WL.p 52 (WL.p 53 (WL.p 54 (WL.z (.bool true) 55 (WL.k hK30 (WC.sb [(1,.slice (some ⟨gS,oS,none⟩) S.length cp),(2,vP b2 0),(5,vI (k:Int)),(6,.slice (some ⟨g,o,none⟩) xs.length c),(7,vI (i:Int)),(8,vI (xs.getD i 0)),(19,.slice (some ⟨gS,oS,none⟩) S.length cp),(20,vI (S.length:Int)),(21,vI (k:Int)),(31,.slice (some ⟨g,o,none⟩) xs.length c),(32,vI (xs.length:Int)),(33,vI (i:Int)),(34,.bool true),(55,.bool true)] ?_)))));refine WC.yes rfl ?_;refine WC.seq fun K37 hK37=>?_;have hbx:okX s (k:Int) xs i=false:=(by unfold okX;rw [hA];rfl);have hbad:okR s y (k:Int) ((stX S).getD k [])=false:=(by rw [hr1];exact okR_bad (by omega) hbx);refine WC.region (WL.z (.bool false) 4 (WL.k hK37 (WC.ret ?_)));refine WQ.inRet ?_;refine WQ.thenRet ?_;refine WQ.thenRet ?_;refine WQ.inRet ?_;refine WQ.inRet ?_;refine WQ.thenRet ?_;refine WQ.thenRet ?_;refine WQ.inRet ?_;refine WQ.thenRet ?_;refine WQ.ret1 4 rfl rfl ?_;exact⟨by rw [okSt_bad (by rw [stX_len];omega) hbad],HP.below hH25⟩
     ·
      refine WL.y (.bool false) 34 (x_lss rfl rfl rfl (dF (hi2))) (WL.k hK26 (WC.seq fun K38 hK38=>?_));refine WC.no rfl ?_;refine WC.exit (WQ.thenExit (WQ.thenExit (WQ.inExit (WQ.inNormal (WQ.then (hK17 _ _ _ (WC.region (WL.y (vI ((k+1:Nat):Int)) 57 (x_ad (((k+1:Nat):Int))) (WL.z (vI ((k+1:Nat):Int)) 21 (WL.nil ?_))))))))));have hrk:okR s y (k:Int) ((stX S).getD k [])=true:=(by rw [hr1];exact okR_iff.2 ⟨by omega,fun j hj=>hokj j (by omega)⟩);refine WQ.sb [(1,.slice (some ⟨gS,oS,none⟩) S.length cp),(2,vP b2 0),(19,.slice (some ⟨gS,oS,none⟩) S.length cp),(20,vI (S.length:Int)),(21,vI ((k+1:Nat):Int))] ?_;refine WQ.then (hK12 _ _ _ (by omega) ⟨k+1,rfl,rfl,by omega,fun j hj=>by
              by_cases q9:j=k
              · subst q9;exact hrk
              · exact hok j (by omega),hH25⟩)
   ·
    refine WL.y (.bool false) 22 (x_lss rfl rfl rfl (dF (hlt))) (WL.k hK15 (WC.seq fun K39 hK39=>?_));refine WC.no rfl ?_;refine WC.exit (WQ.thenExit (WQ.thenExit (WQ.inExit (WQ.then (hK10 _ _ _ (WC.seq fun K40 hK40=>WC.region (WL.z (.bool true) 4 (WL.k hK40 ?_))))))));refine WC.ret ?_;refine WQ.ret1 4 rfl rfl ?_;exact⟨by rw [okSt_iff.2 ⟨hg,by rw [stX_len];omega,fun j hj=>hok j (by rw [stX_len] at hj;omega)⟩],HP.below hH14⟩
 ·
  refine WL.c 58 #[.agg #[vI s,vI y,vI l,vI m]] 10 ?_;refine(Valid_any s y l m _).mono ?_;rw [hg];rintro e w41 ⟨rfl,hb9⟩;refine⟨_,rfl,?_⟩;have hH42:=HP.call hH4 hb9;refine WL.z (.bool true) 11 (WL.z (.bool true) 12 (WL.p 13 (WL.p 14 (WL.p 15 (WL.p 16 (WL.p 17 (WL.z (.bool true) 18 (WL.k hK6 (WC.sb [(0,.agg #[vI s,vI y,vI l,vI m]),(1,.slice p S.length cp),(2,vP b2 0),(4,.bool false),(18,.bool true)] ?_)))))))));refine WC.yes rfl ?_;refine WC.seq fun K43 hK43=>WC.region (WL.z (.bool false) 4 (WL.k hK43 (WC.ret ?_)));refine WQ.thenRet ?_;refine WQ.ret1 4 rfl rfl ?_;exact⟨by unfold okSt;rw [hg];rfl,HP.below hH42⟩
end Ca
end Go.Proofs.YtmjnakhpekbenaaGreat
namespace Go.Proofs.YtmjnakhpekbenaaGreat
open Go.RowKit Fw
namespace Ca
theorem infoL:∃ i,Tryz.prog.info? 32=some i∧i.zero=some (.slice none 0 0)∧i.size=1∧i.bytes=24:=by
  obtain⟨i,hi,h⟩:=Option.map_eq_some_iff.1 (show (Tryz.prog.info? 32).map (fun i=>(i.zero,i.size,i.bytes))=some (some (.slice none 0 0),1,24) by kernel_rfl);simp only [Prod.mk.injEq] at h;exact⟨i,hi,h.1,h.2.1,h.2.2⟩
def nilR (n:Nat):Array Value:=madeCells (Value.slice none 0 0).cells (n*1)
theorem makeS2 (n:Nat) (hn:n≤1000) (W:World):(Instr.makeSlice 33 (.int .i64 (n:Int)) (.int .i64 (n:Int))).run Tryz.prog W=.ok (.slice (some ⟨W.heap.size,0,none⟩) n n) (W.alloc (.cells (nilR n) 32)):=by
  obtain⟨i0,hi0,hz0,hz1,hz2⟩:=infoL;have hr:=run_make (P:=Tryz.prog) W 33 32 i0 _ Tryz.underlying33 hi0 hz0 .i64 .i64 (n:Int) (n:Int) (by omega) (by omega) (by rw [hz2];omega) (by omega);rw [hz1] at hr;simpa [nilR] using hr
theorem nilR_at {n j:Nat} (h:j<n):(nilR n)[j]?=some (.slice none 0 0):=by
  simp [nilR,madeCells,h,Value.cells,Nat.mod_one]
abbrev nilS (n:Nat):List SlI:=List.replicate n ⟨none,[],0⟩
end Ca
end Go.Proofs.YtmjnakhpekbenaaGreat
namespace Go.Proofs.YtmjnakhpekbenaaGreat
open Go.RowKit Fw
namespace Ca
abbrev iR (xs:List Int):List Value:=xs.map (Value.int .i64)
abbrev rowI' (pv:Option Addr) (cp:Nat) (xs:List Int):Ent:=.own (.slice pv xs.length cp) xs.length (iR xs) 3 1
theorem hp_own {w w':World} {v:Value} {n e s:Nat} {xs:List Value} (hb:Below w.heap.size w w') (h:w'.ownsRow w.heap.size e s v n xs):HP Tr w w' [.own v n xs e s]:=by
  have q:=HP.of_below (S:=Tr) hb;refine⟨q.os,q.tape,q.output,q.size,q.keep,fun x hx=>?_,fun x hx b hbk hlt=>?_,by simp⟩
  · obtain rfl := List.mem_singleton.1 hx
    refine⟨h.1,?_⟩;rcases h.2 with h | ⟨g,cap,cur,hv,_,hr⟩
    · exact .inl h
    · exact .inr ⟨g,cap,cur,hv,Nat.zero_le _,hr⟩
  · obtain rfl := List.mem_singleton.1 hx
    rcases h.2 with ⟨h,_⟩ | ⟨g,cap,cur,hv,hg,_⟩
    · subst h;cases hbk
    · subst hv;simp only [Ent.blk,Value.ownBlock,Option.some.injEq] at hbk;omega
theorem clone_any (r:SlI) (w:World) (hR:InR w r) (hn:r.xs.length≤1000000) :
    Calls Tryz.prog 81 #[slV r] w fun e w'=>∃ pv cp,e=.returned (.slice pv r.xs.length cp)∧HP Tr w w' [rowI' pv cp r.xs]:=by
  obtain⟨q,xs,c⟩:=r;have hI:InI w q xs:=hR.row;simp only [slV] at hn ⊢;cases q with
  | none =>
    have hx:xs=[]:=by
      cases xs with
      | nil=>rfl
      | cons a r=>obtain⟨g,o,h,_⟩:=hI (by simp);cases h
    subst hx;refine(Tryz.slices_Clone_int_nil 0 c w).mono ?_;rintro e w' ⟨rfl,rfl⟩;exact⟨none,0,rfl,HP.eq (HP.ownNil (HP.refl (S:=Tr) w') 3 1) rfl⟩
  | some a =>
    by_cases h0:xs.length=0
    · have hx : xs = [] := List.length_eq_zero_iff.1 h0
      subst hx;refine(Tryz.slices_Clone_int_zero a c w).mono ?_;rintro e w' ⟨v',rfl,ho,-,hb⟩;have hh:=hp_own hb ho;obtain⟨pv,cp,rfl⟩:=own_row (HP.get hh 0 rfl);exact⟨pv,cp,rfl,hh⟩
    · obtain ⟨g, o, hp, hr⟩ := hI (by omega)
      cases hp;refine(Tryz.slices_Clone_int g o xs.length c xs w (Nat.le_refl _) (by omega) (cells_of hr)).mono ?_;rintro e w' ⟨v',rfl,ho,-,hb⟩;rw [List.take_length] at ho;have hh:=hp_own hb ho;obtain⟨pv,cp,rfl⟩:=own_row (HP.get hh 0 rfl);exact⟨pv,cp,rfl,hh⟩
theorem row_in {w:World} {pv:Option Addr} {cp:Nat} {xs:List Int} (h:Ent.holds w (rowI' pv cp xs)):InI w pv xs:=fun h0=>by
  have h2:w.ownsRow 0 3 1 (.slice pv xs.length cp) xs.length (iR xs):=h;have hc:=@World.ownsRow.cells _ _ _ _ _ _ _ h2;rcases h2.2 with ⟨h0',h1⟩ | ⟨g,cap,cur,hv,hb,hg,hnc,hm,hs,hx⟩
  · omega
  · cases hv
    refine⟨g,0,rfl,fun i hi j v hv=>?_⟩
    match j,hv with
    | 0,hv =>
      simp at hv;subst hv;have:=hc (g:=g) rfl i (vI (xs.getD i 0)) (by simp [iR,List.getD_eq_getElem?_getD,hi]);rw [hadd] at this;simpa using this
    | j+1,hv=>simp at hv
end Ca
end Go.Proofs.YtmjnakhpekbenaaGreat
namespace Go.Proofs.YtmjnakhpekbenaaGreat
open Go.RowKit Fw
namespace Ca
theorem delete_any (pv:Option Addr) (cp:Nat) (xs:List Int) (k:Nat) (w:World) (hB:OwnB w [rowI' pv cp xs]) (hk:k<xs.length) :
    Calls Tryz.prog 83 #[.slice pv xs.length cp,vI (k:Int),vI ((k+1:Nat):Int)] w fun e w'=>e=.returned (.slice pv (xs.eraseIdx k).length cp)∧HP (Out [rowI' pv cp xs]) w w' [rowI' pv cp (xs.eraseIdx k)]:=by
  have hO:=hB.1 _ (List.mem_singleton.2 rfl);have h2:w.ownsRow 0 3 1 (.slice pv xs.length cp) xs.length (iR xs):=hO;have hc:=@World.ownsRow.cells _ _ _ _ _ _ _ h2;rcases h2.2 with ⟨h0',h1⟩ | ⟨g,cap,cur,hv,hb,hg,hnc,hm,hs,hx⟩
  · omega
  · cases hv
    have hlt:=(Array.getElem?_eq_some_iff.1 hg).1;have hH:Go.Sort.Holds (Value.int .i64) w g 0 xs.toArray:=fun j hj=>by
      have hj':j<xs.length:=(by simpa using hj);refine⟨?_,by simp [World.frozen?,hg]⟩;have:=hc (g:=g) rfl j (vI (xs.getD j 0)) (by simp [iR,List.getD_eq_getElem?_getD,hj']);rw [hadd] at this;rw [this];simp [List.getD_eq_getElem?_getD,hj']
    have hle:(xs.eraseIdx k).length=xs.length-1:=List.length_eraseIdx_of_lt hk;refine(Tryz.slices_Delete_int g 0 cp k (k+1) xs w hH hnc hm (by omega) (by omega)).mono ?_;rintro e w' ⟨rfl,q,rfl⟩;refine⟨by rw [hle,show k+1-k=1 by omega],?_⟩;have hheap:(Go.Sort.putRow (Value.int .i64) (Go.Sort.ahead w q) g 0 (xs.take k++xs.drop (k+1)++List.replicate (k+1-k) 0).toArray).heap=w.heap.modify g (Go.Sort.onCells (Go.Sort.putCells (Value.int .i64) 0 (xs.take k++xs.drop (k+1)++List.replicate (k+1-k) 0).toArray)):=rfl;refine⟨rfl,rfl,rfl,by rw [hheap];simp,fun j hj hO=>?_,fun e he=>?_,fun e he b hb' hlt' hO=>?_,by simp⟩
    · have hne : g ≠ j := fun e => hO _ (List.mem_singleton.2 rfl) (by rw [← e]; rfl)
      rw [hheap,Array.getElem?_modify,if_neg hne]
    · obtain rfl := List.mem_singleton.1 he
      refine⟨by simp [iR],.inr ⟨g,cp,Go.Sort.putCells (Value.int .i64) 0 (xs.take k++xs.drop (k+1)++List.replicate (k+1-k) 0).toArray cur,rfl,Nat.zero_le _,?_,by omega,hm,by simp [Go.Sort.putCells,hs],?_⟩⟩
      · rw [hheap,Array.getElem?_modify,if_pos rfl,hg];rfl
      · refine List.ext_getElem? fun j => ?_
        rw [List.getElem?_take,Nat.mul_one];have hE:xs.eraseIdx k=xs.take k++xs.drop (k+1):=List.eraseIdx_eq_take_drop_succ _ _;by_cases hj:j<(xs.eraseIdx k).length
        · rw [if_pos hj, Array.getElem?_toList]
          have hcur:j<cur.size:=(by omega);have hl:j<(xs.take k++xs.drop (k+1)++List.replicate (k+1-k) 0).toArray.size:=(by rw [hE] at hj;simp at hj ⊢;omega);simp only [Go.Sort.putCells,Array.getElem?_mapIdx,Array.getElem?_eq_getElem hcur,Option.map_some,Nat.zero_le,true_and,Nat.zero_add,hl,if_true,Nat.sub_zero];have e1:(xs.take k++xs.drop (k+1)++List.replicate (k+1-k) 0).toArray[j]! =(xs.eraseIdx k)[j]:=by
            have e0:∀ D:List Int,j<D.length→D.toArray[j]! =D.getD j 0:=fun D h=>by simp [List.getD_eq_getElem?_getD,h]
            rw [e0 _ (by simpa using hl),← hE,List.getD_eq_getElem?_getD,List.getElem?_append_left hj,List.getElem?_eq_getElem hj]
            rfl
          rw [e1];simp [iR,hj]
        · rw [if_neg hj,List.getElem?_eq_none (by simp [iR];omega)]
    · obtain rfl := List.mem_singleton.1 he
      exact hO _ (List.mem_singleton.2 rfl) hb'
end Ca
end Go.Proofs.YtmjnakhpekbenaaGreat
namespace Go.Proofs.YtmjnakhpekbenaaGreat
open Go.RowKit Fw
namespace Ca
def sA (S:List SlI):Array Value:=(S.map fun r=>slV r).toArray
theorem sA_at {S:List SlI} {k:Nat} {r:SlI} (h:S[k]?=some r):(sA S)[k]?=some (slV r):=by simp [sA,h]
theorem sA_set {S:List SlI} {k:Nat} {r:SlI}:(sA S).setIfInBounds k (slV r)=sA (S.set k r):=by
  apply Array.ext';simp [sA,List.map_set]
theorem sA_size (S:List SlI):(sA S).size=S.length:=by simp [sA]
theorem not_outer {w:World} {g:Nat} {S:List SlI} {q:Option Addr} {xs:List Int} (hO:w.heap[g]?=some (.cells (sA S) 32 (0,0))) {b o:Nat} (hq:q=some ⟨b,o,none⟩) (h0:0<xs.length) (hr:∀ i,i<xs.length→w.rangeAt b (o+i) [vI (xs.getD i 0)]):b≠g:=fun e=>by
  subst e;have:=hr 0 h0 0 _ rfl;rw [cell_of_row w b _ _ 32 (0,0) hO] at this;simp only [sA,List.getElem?_toArray,List.getElem?_map] at this;cases hx:S[o+0+0]? with
  | none=>rw [hx] at this;simp at this
  | some r=>rw [hx] at this;simp at this
theorem InI.keep {w w':World} {g:Nat} {S:List SlI} {H:List Ent} {q:Option Addr} {xs:List Int} (h:InI w q xs) (hO:w.heap[g]?=some (.cells (sA S) 32 (0,0))) (hp:HP (Out [.cel g (sA S) 32]) w w' H):InI w' q xs:=fun h0=>by
  obtain⟨b,o,hq,hr⟩:=h h0;have hne:=not_outer hO hq h0 hr;refine⟨b,o,hq,fun i hi=>HP.oldRange hp (fun e he=>?_) (hr i hi)⟩;obtain rfl:=List.mem_singleton.1 he;exact fun q=>hne (Option.some.inj q).symm
theorem InR.keep {w w':World} {g:Nat} {S:List SlI} {H:List Ent} {r:SlI} (h:InR w r) (hO:w.heap[g]?=some (.cells (sA S) 32 (0,0))) (hp:HP (Out [.cel g (sA S) 32]) w w' H):InR w' r:=⟨InI.keep h.row hO hp,h.hc,h.hm,h.hw⟩
theorem index_any (r:SlI) (x:Int) (w:World) (hR:InR w r) (hn:r.xs.length≤1000000) :
    Calls Tryz.prog 82 #[slV r,vI x] w fun e w'=>e=.returned (.int .i64 (Lib.idxOf r.xs x))∧w=w':=by
  obtain⟨q,xs,c⟩:=r;have hI:InI w q xs:=hR.row;simp only [slV] at hn ⊢;by_cases h0:xs.length=0
  · have hx : xs = [] := List.length_eq_zero_iff.1 h0
    subst hx;exact(Tryz.slices_Index_int_empty q c x w).mono fun e w' h=>⟨h.1,h.2.symm⟩
  · obtain ⟨g, o, rfl, hr⟩ := hI (by omega)
    refine(Tryz.slices_Index_int g o xs.length c xs x w (Nat.le_refl _) (by omega) (cells_of hr)).mono fun e w' h=>⟨?_,h.2.symm⟩;rw [h.1,List.take_length]
end Ca
end Go.Proofs.YtmjnakhpekbenaaGreat
namespace Go.Proofs.YtmjnakhpekbenaaGreat
set_option maxRecDepth 20000
set_option maxHeartbeats 4000000
open Go.RowKit Fw
namespace Ca
def tcX (y x:Int) (xs:List Int):List Int:=x::(if 0≤Lib.idxOf xs x then xs.eraseIdx (Lib.idxOf xs x).toNat else if (xs.length:Int)=y then xs.take (xs.length-1) else xs)
theorem infoI:∃ i,Tryz.prog.info? 3=some i∧i.zero=some (.int .i64 0)∧i.size=1∧i.bytes=8:=by
  obtain⟨i,hi,h⟩:=Option.map_eq_some_iff.1 (show (Tryz.prog.info? 3).map (fun i=>(i.zero,i.size,i.bytes))=some (some (.int .i64 0),1,8) by kernel_rfl);simp only [Prod.mk.injEq] at h;exact⟨i,hi,h.1,h.2.1,h.2.2⟩
theorem plc_spec (x:Int):∀ xs:List Int,(plc x xs=none∧∀ i,i<xs.length→xs.getD i 0≠x)∨(∃ k,plc x xs=some k∧k<xs.length∧xs.getD k 0=x∧∀ j,j<k→xs.getD j 0≠x)
  | []=>.inl ⟨rfl,fun i hi=>by simp at hi⟩
  | a::r=>by
    by_cases h:a=x
    · exact .inr ⟨0,by simp only [plc];rw [if_pos h],by simp,by simpa using h,fun j hj=>by omega⟩
    · rcases plc_spec x r with ⟨h1, h2⟩ | ⟨k, h1, h2, h3, h4⟩
      · refine .inl ⟨by simp only [plc]; rw [if_neg h, h1]; rfl, fun i hi => ?_⟩
        match i,hi with
        | 0,_=>simpa using h
        | i+1,hi=>have:=h2 i (by simpa using hi);simpa using this
      · refine .inr ⟨k + 1, by simp only [plc]; rw [if_neg h, h1]; rfl, by simpa using h2, by simpa using h3, fun j hj => ?_⟩
        match j,hj with
        | 0,_=>simpa using h
        | j+1,hj=>have:=h4 j (by omega);simpa using this
theorem idx_plc (x:Int) (xs:List Int):Lib.idxOf xs x=plcV x xs:=by
  unfold plcV;rcases plc_spec x xs with ⟨h1,h2⟩ | ⟨k,h1,h2,h3,h4⟩
  · rw [h1];have:=Lib.idxOf_miss xs xs.length x h2;rwa [List.take_length] at this
  · rw [h1];have:=Lib.idxOf_hit xs xs.length k x h2 (Nat.le_refl _) h3 h4;rwa [List.take_length] at this
theorem idx_lt {x:Int} {xs:List Int} (h:0≤Lib.idxOf xs x):(Lib.idxOf xs x).toNat<xs.length:=by
  rw [idx_plc] at h ⊢;unfold plcV at h ⊢;rcases plc_spec x xs with ⟨h1,h2⟩ | ⟨k,h1,h2,h3,h4⟩
  · rw [h1] at h;simp at h
  · rw [h1];simpa using h2
theorem src_of {w:World} {p:Option Addr} {xs ys:List Int} {c:Nat} (h:InI w p xs) (hy:ys=xs.take ys.length) (hc:p=none→c=0):(∃ a,p=some a∧∀ q u,(iR ys)[q]?=some u→w.cell? (a.add q)=some u)∨(p=none∧ys.length=0∧c=0):=by
  have hle:ys.length≤xs.length:=(by have:=congrArg List.length hy;rw [List.length_take] at this;omega);by_cases h0:xs.length=0
  · cases p with
    | none=>exact .inr ⟨rfl,by omega,hc rfl⟩
    | some a =>
      refine .inl ⟨a,rfl,fun q u hu=>?_⟩;have:=(List.getElem?_eq_some_iff.1 hu).1;simp at this;omega
  · obtain ⟨g, o, rfl, hr⟩ := h (by omega)
    refine .inl ⟨_,rfl,fun q u hu=>?_⟩;have hq:q<ys.length:=(by have:=(List.getElem?_eq_some_iff.1 hu).1;simpa using this);have:=hr q (by omega) 0 _ rfl;rw [hadd];have e:u=vI (xs.getD q 0):=by
      rw [hy] at hu;have h9:q<xs.length:=(by omega);simp [iR,List.getElem?_take,hq,h9] at hu;rw [← hu];simp [List.getD_eq_getElem?_getD,h9]
    rw [e];simpa using this
theorem own_nil {w:World} {cp n e s:Nat} {xs:List Value} (h:Ent.holds w (.own (.slice none n cp) n xs e s)):cp=0:=by
  have h2:w.ownsRow 0 e s (.slice none n cp) n xs:=h;rcases h2.2 with ⟨h0,_⟩ | ⟨g,cap,cur,hv,_⟩
  · cases h0;rfl
  · cases hv
theorem touch_any (g n0 cp0:Nat) (S:List SlI) (s y l m a:Int) (k:Nat) (q:Option Addr) (xs:List Int) (c:Nat) (w:World) (hB:OwnB w [.cel g (sA S) 32]) (hs:1≤s∧s≤8) (hl:1≤l∧l≤8) (ha:0≤a∧a≤999) (hy:1≤y∧y≤4) (hk:(a/l).tmod s=(k:Int)) (hkS:S[k]?=some ⟨q,xs,c⟩) (hR:InR w ⟨q,xs,c⟩) (hq0:q=none→c=0) (hn:xs.length≤1000000) (hSn:S.length=n0) :
  Calls Tryz.prog 56 #[.agg #[vI s,vI y,vI l,vI m],vS g n0 cp0,vI a] w fun e w'=>∃ pv cp,e=.returned (.bool (decide (0≤Lib.idxOf xs (a/l))))∧HP (Out [.cel g (sA S) 32]) w w' [.cel g (sA (S.set k ⟨pv,tcX y (a/l) xs,cp⟩)) 32,rowI' pv cp (tcX y (a/l) xs)]:=by
 have hO:w.heap[g]?=some (.cells (sA S) 32 (0,0)):=hB.1 _ (List.mem_singleton.2 rfl);have hkl:k<n0:=(by rw [← hSn];exact(List.getElem?_eq_some_iff.1 hkS).1);refine calls_of Tryz.func56 rfl (m:=58) rfl [(0,.agg #[vI s,vI y,vI l,vI m]),(1,vS g n0 cp0),(2,vI a)] (Fr_enter [.agg #[vI s,vI y,vI l,vI m],vS g n0 cp0,vI a] 58 (Nat.le_of_ble_eq_true rfl)) ?_;refine WC.seq fun K1 hK1=>WC.region ?_;refine WL.alloc (c:=#[vI s,vI y,vI l,vI m]) (T:=23) (HP.startB hB) 3 rfl (by decide) rfl rfl (fun b3=>vP b3 0) (by kernel_rfl) (fun b3 w2 hw2=>?_);have hH3:HP (Out [.cel g (sA S) 32]) w w2 [.cel g (sA S) 32,.cel b3 #[vI s,vI y,vI l,vI m] 23]:=hw2.2;have nb3:=hw2.1;clear hw2;refine WL.z (.bool false) 6 (WL.k hK1 (WC.seq fun K4 hK4=>WC.region (WL.z (vI a) 11 (WL.z (vP b3 2) 12 (WL.y (vI l) 13 (x_load rfl rfl Tryz.underlying3 rfl (HP.cell hH3 1 rfl rfl)) (WL.y (vI (a/l)) 14 (x_quo rfl rfl rfl (by omega) (tdiv_pos (by omega) (by omega)) (by have:=Int.ediv_nonneg (show 0≤a by omega) (show 0≤l by omega);omega) (by have:=Int.ediv_le_self l (show 0≤a by omega);omega)) (WL.z (vI (a/l)) 7 (WL.nil ?_))))))));refine WQ.then (hK4 _ _ _ (WC.seq fun K5 hK5=>WC.region (WL.z (vI (a/l)) 15 (WL.z (vP b3 0) 16 (WL.y (vI s) 17 (x_load rfl rfl Tryz.underlying3 rfl (HP.cell hH3 1 rfl rfl)) (WL.y (vI (k:Int)) 18 (x_rem rfl rfl rfl (by omega) hk) (WL.z (vI (k:Int)) 8 (WL.k hK5 ?_))))))));refine WC.sb [(0,.agg #[vI s,vI y,vI l,vI m]),(1,vS g n0 cp0),(2,vI a),(3,vP b3 0),(6,.bool false),(7,vI (a/l)),(8,vI (k:Int))] (WC.seq fun K6 hK6=>WC.region (WL.z (vS g n0 cp0) 19 (WL.z (vI (k:Int)) 20 (WL.y (vP g k) 21 (x_ix (k) (k) Tryz.underlying33 sz32) (WL.y (.slice q xs.length c) 22 (x_load rfl rfl Tryz.underlying32 rfl (HP.cell hH3 0 rfl (sA_at hkS))) (WL.z (vI (a/l)) 23 ?_))))));refine WL.c 82 #[.slice q xs.length c,vI (a/l)] 24 ?_
 refine(index_any ⟨q,xs,c⟩ (a/l) _ (hR.keep hO hH3) hn).mono ?_;rintro e w7 ⟨rfl,rfl⟩;refine⟨_,rfl,?_⟩;refine WL.z (vI (Lib.idxOf xs (a/l))) 9 (WL.k hK6 (WC.sb [(0,.agg #[vI s,vI y,vI l,vI m]),(1,vS g n0 cp0),(2,vI a),(3,vP b3 0),(6,.bool false),(7,vI (a/l)),(8,vI (k:Int)),(9,vI (Lib.idxOf xs (a/l)))] (WC.seq fun K8 hK8=>WC.region (WL.z (vS g n0 cp0) 25 (WL.z (vI (k:Int)) 26 (WL.y (vP g k) 27 (x_ix (k) (k) Tryz.underlying33 sz32) (WL.y (.slice q xs.length c) 28 (x_load rfl rfl Tryz.underlying32 rfl (HP.cell hH3 0 rfl (sA_at hkS))) (WL.z (.slice q xs.length c) 10 ?_))))))));refine WL.k hK8 (WC.seq fun K9 hK9=>WC.block (WC.seq fun K10 hK10=>WC.region (WL.z (vI (Lib.idxOf xs (a/l))) 30 ?_)));by_cases h0:(0:Int)≤Lib.idxOf xs (a/l)
 ·
  obtain⟨k9,hk9⟩:∃ k9:Nat,Lib.idxOf xs (a/l)=(k9:Int):=⟨_,(Int.toNat_of_nonneg h0).symm⟩;have hk9l:k9<xs.length:=(by have:=idx_lt h0;omega);rw [hk9] at h0;rw [hk9];refine WL.y (.bool true) 31 (x_geq rfl rfl rfl (dT (h0))) (WL.z (.bool true) 29 (WL.k hK10 (WC.sb [(0,.agg #[vI s,vI y,vI l,vI m]),(1,vS g n0 cp0),(2,vI a),(3,vP b3 0),(6,.bool false),(7,vI (a/l)),(8,vI (k:Int)),(9,vI (k9:Int)),(10,.slice q xs.length c),(29,.bool true)] ?_)));refine WC.yes rfl ?_;refine WC.region (WL.z (.slice q xs.length c) 32 ?_);refine WL.c 81 #[.slice q xs.length c] 33 ?_;refine(clone_any ⟨q,xs,c⟩ _ (hR.keep hO hH3) hn).mono ?_;rintro e w11 ⟨pv,cp,rfl,hb12⟩;refine⟨_,rfl,?_⟩;have hH13:HP (Out [.cel g (sA S) 32]) w _ [.cel g (sA S) 32,.cel b3 #[vI s,vI y,vI l,vI m] 23,rowI' pv cp xs]:=HP.trans hH3 hb12;refine WL.z (vI (k9:Int)) 34 (WL.z (vI (k9:Int)) 35 (WL.y (vI ((k9+1:Nat):Int)) 36 (x_ad (((k9+1:Nat):Int))) ?_));refine WL.c 83 #[.slice pv xs.length cp,vI (k9:Int),vI ((k9+1:Nat):Int)] 37 ?_;refine(delete_any pv cp xs k9 _ (HP.ownB (A:=[Go.Proofs.YtmjnakhpekbenaaGreat.Fw.Ent.cel g (sA S) 32,Go.Proofs.YtmjnakhpekbenaaGreat.Fw.Ent.cel b3 #[vI s,vI y,vI l,vI m] 23]) hH13) hk9l).mono ?_;rintro e w6 ⟨rfl,hb6⟩;refine⟨_,rfl,?_⟩;have hH14:HP (Out [.cel g (sA S) 32]) w _ [.cel g (sA S) 32,.cel b3 #[vI s,vI y,vI l,vI m] 23,rowI' pv cp (xs.eraseIdx k9)]:=HP.exch (A:=[Go.Proofs.YtmjnakhpekbenaaGreat.Fw.Ent.cel g (sA S) 32,Go.Proofs.YtmjnakhpekbenaaGreat.Fw.Ent.cel b3 #[vI s,vI y,vI l,vI m] 23]) hH13 hb6;refine WL.z (.slice pv ((xs.eraseIdx k9).length) cp) 10 (WL.nil (WQ.inNormal (WQ.then (hK9 _ _ _ (WC.sb [(0,.agg #[vI s,vI y,vI l,vI m]),(1,vS g n0 cp0),(2,vI a),(3,vP b3 0),(6,.bool false),(7,vI (a/l)),(8,vI (k:Int)),(9,vI (k9:Int)),(10,.slice pv ((xs.eraseIdx k9).length) cp),(29,.bool true)] (WC.seq fun K15 hK15=>WC.region (WL.z (vS g n0 cp0) 49 (WL.z (vI (k:Int)) 50 (WL.z (vI (a/l)) 51 ?_)))))))))
  refine WL.alloc (c:=#[vI (a/l)]) (T:=3) hH14 52 rfl (by decide) rfl rfl (fun b52=>vS b52 1 1) (by kernel_rfl) (fun b52 w16 hw16=>?_);have hH17:HP (Out [.cel g (sA S) 32]) w w16 [.cel g (sA S) 32,.cel b3 #[vI s,vI y,vI l,vI m] 23,rowI' pv cp (xs.eraseIdx k9),.cel b52 #[vI (a/l)] 3]:=hw16.2;have nb52:=hw16.1;clear hw16;refine WL.z (.slice pv ((xs.eraseIdx k9).length) cp) 53 ?_;have hO9:=HP.celToOwn hH17 3 (k:=1) (cap:=1) (s:=1) rfl (Nat.le_refl _) (by decide) rfl;have hH18:HP (Out [.cel g (sA S) 32]) w _ [.cel g (sA S) 32,.cel b3 #[vI s,vI y,vI l,vI m] 23,rowI' pv cp (xs.eraseIdx k9),.own (.slice (some ⟨b52,0,none⟩) 1 1) 1 [vI (a/l)] 3 1]:=HP.eq hO9 rfl;obtain⟨i0,hi0,hz0,hz1,hz2⟩:=infoI;have hyl:(xs.eraseIdx k9).length≤xs.length:=(by first | exact Nat.le_refl _ | (rw [List.length_eraseIdx_of_lt hk9l];omega) | (rw [List.length_take];omega));refine WL.appendSrc (iR (xs.eraseIdx k9)) 3 hH18 54 rfl (by decide) rfl rfl rfl rfl Tryz.underlying32 hi0 hz0 hz1 hz2 rfl (by decide) rfl (src_of (row_in (HP.get hH18 2 rfl)) (by rw [List.take_length]) (fun h=>by subst h;exact own_nil (HP.get hH18 2 rfl))) (by simp) (fun u hu=>by obtain⟨x9,_,rfl⟩:=List.mem_map.1 hu;rfl) (by unfold maxLen;omega) (by omega) ?_;rintro v7 w7-hA7;obtain⟨pv7,cp7,rfl⟩:=own_row (HP.get hA7 3 rfl);have e7:1+(xs.eraseIdx k9).length=(a/l::(xs.eraseIdx k9)).length:=(by simp;omega);rw [e7] at hA7 ⊢;have hH19:HP (Out [.cel g (sA S) 32]) w _ [.cel g (sA S) 32,.cel b3 #[vI s,vI y,vI l,vI m] 23,rowI' pv cp (xs.eraseIdx k9),rowI' pv7 cp7 (a/l::(xs.eraseIdx k9))]:=HP.eq hA7 rfl;refine WL.y (vP g k) 55 (x_ix (k) (k) Tryz.underlying33 sz32) ?_;refine WL.store (c':=sA (S.set k ⟨pv7,(a/l::(xs.eraseIdx k9)),cp7⟩)) (H2:=_) 0 hH19 rfl rfl rfl rfl rfl rfl sz32 rfl (by rw [sA_size];exact(List.getElem?_eq_some_iff.1 hkS).1) (sA_set (r:=⟨pv7,(a/l::(xs.eraseIdx k9)),cp7⟩)) rfl ?_
  intro w8 hB8;have hH20:HP (Out [.cel g (sA S) 32]) w _ [.cel g (sA (S.set k ⟨pv7,(a/l::(xs.eraseIdx k9)),cp7⟩)) 32,.cel b3 #[vI s,vI y,vI l,vI m] 23,rowI' pv cp (xs.eraseIdx k9),rowI' pv7 cp7 (a/l::(xs.eraseIdx k9))]:=hB8;refine WL.k hK15 (WC.sb [(0,.agg #[vI s,vI y,vI l,vI m]),(1,vS g n0 cp0),(2,vI a),(3,vP b3 0),(6,.bool false),(7,vI (a/l)),(8,vI (k:Int)),(9,vI (k9:Int)),(10,.slice pv ((xs.eraseIdx k9).length) cp),(29,.bool true)] (WC.seq fun K21 hK21=>WC.region (WL.z (vI (k9:Int)) 56 (WL.y (.bool true) 57 (x_geq rfl rfl rfl (dT (by omega))) (WL.z (.bool true) 6 (WL.k hK21 ?_))))));refine WC.ret ?_;refine WQ.ret1 6 rfl rfl ?_;have e9:tcX y (a/l) xs=(a/l::(xs.eraseIdx k9)):=(by unfold tcX;rw [hk9,if_pos (by omega),Int.toNat_natCast]);exact⟨pv7,cp7,by rw [hk9,decide_eq_true (by omega)],by rw [e9];exact(HP.drop (HP.drop hH20 2) 1)⟩
 ·
  refine WL.y (.bool false) 31 (x_geq rfl rfl rfl (dF (h0))) (WL.z (.bool false) 29 (WL.k hK10 (WC.sb [(0,.agg #[vI s,vI y,vI l,vI m]),(1,vS g n0 cp0),(2,vI a),(3,vP b3 0),(6,.bool false),(7,vI (a/l)),(8,vI (k:Int)),(9,vI (Lib.idxOf xs (a/l))),(10,.slice q xs.length c),(29,.bool false)] ?_)));refine WC.no rfl ?_;refine WC.seq fun K22 hK22=>WC.region (WL.z (.slice q xs.length c) 39 (WL.z (vI (xs.length:Int)) 40 (WL.z (vP b3 1) 41 (WL.y (vI y) 42 (x_load rfl rfl Tryz.underlying3 rfl (HP.cell hH3 1 rfl rfl)) ?_))));by_cases hfull:(xs.length:Int)=y
  ·
   refine WL.y (.bool true) 43 (x_eql rfl rfl rfl (dT (hfull))) (WL.z (.bool true) 38 (WL.k hK22 ?_));refine WC.yes rfl ?_;refine WC.region (WL.z (.slice q xs.length c) 44 (WL.z (.slice q xs.length c) 45 (WL.z (vI (xs.length:Int)) 46 (WL.y (vI ((xs.length-1:Nat):Int)) 47 (x_sub (Z:=((xs.length-1:Nat):Int)) rfl rfl rfl (by omega) (by omega) (by omega)) (WL.y (.slice q ((xs.take (xs.length-1)).length) c) 48 (by rw [List.length_take_of_le (Nat.sub_le _ _)];exact x_sliceH (xs.length-1) rfl rfl rfl Tryz.underlying32 (by omega) (by have:=hR.hc;simp only [] at this;omega) sz3) (WL.z (.slice q ((xs.take (xs.length-1)).length) c) 10 (WL.nil (WQ.inNormal (WQ.then (hK9 _ _ _ (WC.sb [(0,.agg #[vI s,vI y,vI l,vI m]),(1,vS g n0 cp0),(2,vI a),(3,vP b3 0),(6,.bool false),(7,vI (a/l)),(8,vI (k:Int)),(9,vI (Lib.idxOf xs (a/l))),(10,.slice q ((xs.take (xs.length-1)).length) c),(29,.bool false),(38,.bool true)] ?_)))))))))));refine WC.seq fun K23 hK23=>WC.region (WL.z (vS g n0 cp0) 49 (WL.z (vI (k:Int)) 50 (WL.z (vI (a/l)) 51 ?_)));refine WL.alloc (c:=#[vI (a/l)]) (T:=3) hH3 52 rfl (by decide) rfl rfl (fun b52=>vS b52 1 1) (by kernel_rfl) (fun b52 w24 hw24=>?_);have hH25:HP (Out [.cel g (sA S) 32]) w w24 [.cel g (sA S) 32,.cel b3 #[vI s,vI y,vI l,vI m] 23,.cel b52 #[vI (a/l)] 3]:=hw24.2;have nb52:=hw24.1;clear hw24;refine WL.z (.slice q ((xs.take (xs.length-1)).length) c) 53 ?_;have hO9:=HP.celToOwn hH25 2 (k:=1) (cap:=1) (s:=1) rfl (Nat.le_refl _) (by decide) rfl;have hH26:HP (Out [.cel g (sA S) 32]) w _ [.cel g (sA S) 32,.cel b3 #[vI s,vI y,vI l,vI m] 23,.own (.slice (some ⟨b52,0,none⟩) 1 1) 1 [vI (a/l)] 3 1]:=HP.eq hO9 rfl;obtain⟨i0,hi0,hz0,hz1,hz2⟩:=infoI;have hyl:(xs.take (xs.length-1)).length≤xs.length:=by first | exact Nat.le_refl _ | (rw [List.length_eraseIdx_of_lt hk9l];omega) | (rw [List.length_take];omega)
   refine WL.appendSrc (iR (xs.take (xs.length-1))) 2 hH26 54 rfl (by decide) rfl rfl rfl rfl Tryz.underlying32 hi0 hz0 hz1 hz2 rfl (by decide) rfl (src_of (InI.keep hR.row hO hH26) (by rw [List.length_take_of_le (Nat.sub_le _ _)]) hq0) (by simp) (fun u hu=>by obtain⟨x9,_,rfl⟩:=List.mem_map.1 hu;rfl) (by unfold maxLen;omega) (by omega) ?_;rintro v7 w7-hA7;obtain⟨pv7,cp7,rfl⟩:=own_row (HP.get hA7 2 rfl);have e7:1+(xs.take (xs.length-1)).length=(a/l::(xs.take (xs.length-1))).length:=(by simp;omega);rw [e7] at hA7 ⊢;have hH27:HP (Out [.cel g (sA S) 32]) w _ [.cel g (sA S) 32,.cel b3 #[vI s,vI y,vI l,vI m] 23,rowI' pv7 cp7 (a/l::(xs.take (xs.length-1)))]:=HP.eq hA7 rfl;refine WL.y (vP g k) 55 (x_ix (k) (k) Tryz.underlying33 sz32) ?_;refine WL.store (c':=sA (S.set k ⟨pv7,(a/l::(xs.take (xs.length-1))),cp7⟩)) (H2:=_) 0 hH27 rfl rfl rfl rfl rfl rfl sz32 rfl (by rw [sA_size];exact(List.getElem?_eq_some_iff.1 hkS).1) (sA_set (r:=⟨pv7,(a/l::(xs.take (xs.length-1))),cp7⟩)) rfl ?_;intro w8 hB8;have hH28:HP (Out [.cel g (sA S) 32]) w _ [.cel g (sA (S.set k ⟨pv7,(a/l::(xs.take (xs.length-1))),cp7⟩)) 32,.cel b3 #[vI s,vI y,vI l,vI m] 23,rowI' pv7 cp7 (a/l::(xs.take (xs.length-1)))]:=hB8;refine WL.k hK23 (WC.sb [(0,.agg #[vI s,vI y,vI l,vI m]),(1,vS g n0 cp0),(2,vI a),(3,vP b3 0),(6,.bool false),(7,vI (a/l)),(8,vI (k:Int)),(9,vI (Lib.idxOf xs (a/l))),(10,.slice q ((xs.take (xs.length-1)).length) c),(29,.bool false),(38,.bool true)] (WC.seq fun K29 hK29=>WC.region (WL.z (vI (Lib.idxOf xs (a/l))) 56 (WL.y (.bool false) 57 (x_geq rfl rfl rfl (dF (h0))) (WL.z (.bool false) 6 (WL.k hK29 ?_))))));refine WC.ret ?_;refine WQ.ret1 6 rfl rfl ?_;have e9:tcX y (a/l) xs=(a/l::(xs.take (xs.length-1))):=(by unfold tcX;rw [if_neg h0,if_pos (by omega)]);exact⟨pv7,cp7,by rw [decide_eq_false h0],by rw [e9];exact(HP.drop hH28 1)⟩
  ·
   refine WL.y (.bool false) 43 (x_eql rfl rfl rfl (dF (hfull))) (WL.z (.bool false) 38 (WL.k hK22 ?_));refine WC.no rfl ?_;refine WC.skip (WQ.inNormal (WQ.then (hK9 _ _ _ (WC.seq fun K30 hK30=>WC.region (WL.z (vS g n0 cp0) 49 (WL.z (vI (k:Int)) 50 (WL.z (vI (a/l)) 51 ?_)))))));refine WL.alloc (c:=#[vI (a/l)]) (T:=3) hH3 52 rfl (by decide) rfl rfl (fun b52=>vS b52 1 1) (by kernel_rfl) (fun b52 w31 hw31=>?_);have hH32:HP (Out [.cel g (sA S) 32]) w w31 [.cel g (sA S) 32,.cel b3 #[vI s,vI y,vI l,vI m] 23,.cel b52 #[vI (a/l)] 3]:=hw31.2;have nb52:=hw31.1;clear hw31;refine WL.z (.slice q xs.length c) 53 ?_;have hO9:=HP.celToOwn hH32 2 (k:=1) (cap:=1) (s:=1) rfl (Nat.le_refl _) (by decide) rfl;have hH33:HP (Out [.cel g (sA S) 32]) w _ [.cel g (sA S) 32,.cel b3 #[vI s,vI y,vI l,vI m] 23,.own (.slice (some ⟨b52,0,none⟩) 1 1) 1 [vI (a/l)] 3 1]:=HP.eq hO9 rfl;obtain⟨i0,hi0,hz0,hz1,hz2⟩:=infoI;have hyl:xs.length≤xs.length:=(by first | exact Nat.le_refl _ | (rw [List.length_eraseIdx_of_lt hk9l];omega) | (rw [List.length_take];omega));refine WL.appendSrc (iR xs) 2 hH33 54 rfl (by decide) rfl rfl rfl rfl Tryz.underlying32 hi0 hz0 hz1 hz2 rfl (by decide) rfl (src_of (InI.keep hR.row hO hH33) (by rw [List.take_length]) hq0) (by simp) (fun u hu=>by obtain⟨x9,_,rfl⟩:=List.mem_map.1 hu;rfl) (by unfold maxLen;omega) (by omega) ?_;rintro v7 w7-hA7;obtain⟨pv7,cp7,rfl⟩:=own_row (HP.get hA7 2 rfl);have e7:1+xs.length=(a/l::xs).length:=(by simp;omega);rw [e7] at hA7 ⊢;have hH34:HP (Out [.cel g (sA S) 32]) w _ [.cel g (sA S) 32,.cel b3 #[vI s,vI y,vI l,vI m] 23,rowI' pv7 cp7 (a/l::xs)]:=HP.eq hA7 rfl;refine WL.y (vP g k) 55 (x_ix (k) (k) Tryz.underlying33 sz32) ?_;refine WL.store (c':=sA (S.set k ⟨pv7,(a/l::xs),cp7⟩)) (H2:=_) 0 hH34 rfl rfl rfl rfl rfl rfl sz32 rfl (by rw [sA_size];exact(List.getElem?_eq_some_iff.1 hkS).1) (sA_set (r:=⟨pv7,(a/l::xs),cp7⟩)) rfl ?_
   intro w8 hB8;have hH35:HP (Out [.cel g (sA S) 32]) w _ [.cel g (sA (S.set k ⟨pv7,(a/l::xs),cp7⟩)) 32,.cel b3 #[vI s,vI y,vI l,vI m] 23,rowI' pv7 cp7 (a/l::xs)]:=hB8;refine WL.k hK30 (WC.sb [(0,.agg #[vI s,vI y,vI l,vI m]),(1,vS g n0 cp0),(2,vI a),(3,vP b3 0),(6,.bool false),(7,vI (a/l)),(8,vI (k:Int)),(9,vI (Lib.idxOf xs (a/l))),(10,.slice q xs.length c),(29,.bool false),(38,.bool false)] (WC.seq fun K36 hK36=>WC.region (WL.z (vI (Lib.idxOf xs (a/l))) 56 (WL.y (.bool false) 57 (x_geq rfl rfl rfl (dF (h0))) (WL.z (.bool false) 6 (WL.k hK36 ?_))))));refine WC.ret ?_;refine WQ.ret1 6 rfl rfl ?_;have e9:tcX y (a/l) xs=(a/l::xs):=(by unfold tcX;rw [if_neg h0,if_neg (by omega)]);exact⟨pv7,cp7,by rw [decide_eq_false h0],by rw [e9];exact(HP.drop hH35 1)⟩
end Ca
end Go.Proofs.YtmjnakhpekbenaaGreat
namespace Go.Proofs.YtmjnakhpekbenaaGreat
set_option maxRecDepth 20000
set_option maxHeartbeats 4000000
open Go.RowKit Fw
namespace Ca
def Rows (w:World) (S:List SlI):Prop:=∀ r∈S,InR w r∧(r.q=none→r.c=0)
theorem Rows.keep {w w':World} {g:Nat} {S:List SlI} {H:List Ent} (h:Rows w S) (hO:w.heap[g]?=some (.cells (sA S) 32 (0,0))) (hp:HP (Out [.cel g (sA S) 32]) w w' H):Rows w' S:=fun r hr=>⟨(h r hr).1.keep hO hp,(h r hr).2⟩
theorem Rows.set {w:World} {S:List SlI} {r:SlI} {k:Nat} (h:Rows w S) (hr:InR w r∧(r.q=none→r.c=0)):Rows w (S.set k r):=fun x hx=>by
  rcases List.mem_or_eq_of_mem_set hx with h1 | rfl
  · exact h x h1
  · exact hr
theorem row_InR {w:World} {pv:Option Addr} {cp:Nat} {xs:List Int} (h:Ent.holds w (rowI' pv cp xs)) (hw:∀ x∈xs,Wi x):InR w ⟨pv,xs,cp⟩∧(pv=none→cp=0):=by
  refine⟨⟨row_in h,?_,?_,hw⟩,fun e=>by subst e;exact own_nil h⟩
  all_goals
    have h2:w.ownsRow 0 3 1 (.slice pv xs.length cp) xs.length (iR xs):=h;rcases h2.2 with ⟨h0,h1⟩ | ⟨g,cap,cur,hv,_,_,hnc,hm,_⟩
  · obtain ⟨-, hl0, hc0⟩ : pv = none ∧ xs.length = 0 ∧ cp = 0 := by simpa using h0
    show xs.length≤cp;omega
  · cases hv;exact hnc
  · obtain ⟨-, hl0, hc0⟩ : pv = none ∧ xs.length = 0 ∧ cp = 0 := by simpa using h0
    show cp≤maxLen;rw [hc0];exact Nat.zero_le _
  · cases hv;exact hm
theorem nil_sA (n:Nat):nilR n=sA (nilS n):=by
  apply Array.ext
  · simp [nilR,madeCells,sA]
  · intro i h1 h2
    have hi:i<n:=(by simpa [nilR,madeCells] using h1);have e:=nilR_at hi;rw [Array.getElem?_eq_getElem h1,Option.some.injEq] at e;rw [e];simp [sA]
def cpd (S S1:List SlI) (i:Nat):Prop:=S1.length=S.length∧∀ j,j<i→(S1.getD j ⟨none,[],0⟩).xs=(S.getD j ⟨none,[],0⟩).xs
theorem cpd_step {S S1:List SlI} {i:Nat} {r:SlI} (h:cpd S S1 i) (hi:i<S.length) (hr:r.xs=(S.getD i ⟨none,[],0⟩).xs):cpd S (S1.set i r) (i+1):=by
  refine⟨by simp [h.1],fun j hj=>?_⟩;by_cases e:j=i
  · subst e;rw [← hr];simp [List.getD_eq_getElem?_getD,h.1,hi]
  · rw [← h.2 j (by omega)];simp [List.getD_eq_getElem?_getD,List.getElem?_set_ne (Ne.symm e)]
theorem cpd_end {S S1:List SlI} (h:cpd S S1 S.length):stX S1=stX S:=by
  refine List.ext_getElem (by simp [stX,h.1]) fun i h1 h2=>?_;have hi:i<S.length:=(by simpa [stX] using h2);have:=h.2 i hi;simpa [stX,List.getD_eq_getElem?_getD,hi,h.1] using this
theorem copied_any (p:Option Addr) (S:List SlI) (cp:Nat) (w:World) (hS:InS2 w p S) (hn:S.length≤1000) (hx:∀ r∈S,r.xs.length≤1000000) :
  Calls Tryz.prog 55 #[.slice p S.length cp] w fun e w'=>∃ g S',e=.returned (.slice (some ⟨g,0,none⟩) S.length S.length)∧stX S'=stX S∧HP Tr w w' [.cel g (sA S') 32]∧Rows w' S':=by
 refine calls_of Tryz.func55 rfl (m:=23) rfl [(0,.slice p S.length cp)] (Fr_enter [.slice p S.length cp] 23 (Nat.le_of_ble_eq_true rfl)) ?_;have hH1:HP Tr w w []:=HP.refl w;refine WC.seq fun K2 hK2=>WC.region (WL.z (.slice none 0 0) 2 (WL.k hK2 (WC.seq fun K3 hK3=>WC.region (WL.z (.slice p S.length cp) 5 (WL.z (vI (S.length:Int)) 6 ?_)))));refine WL.alloc (c:=nilR S.length) (T:=32) hH1 7 rfl (by decide) rfl rfl (fun g=>vS g S.length S.length) (x_makeR rfl rfl rfl (makeS2 S.length (by omega) _)) (fun g w9 hw9=>?_);have hH9:HP Tr w w9 [.cel g (sA (nilS S.length)) 32]:=HP.eq hw9.2 (by rw [nil_sA];rfl);refine WL.z (vS g S.length S.length) 3 (WL.k hK3 (WC.seq fun K4 hK4=>WC.seq fun K5 hK5=>WC.region (WL.z (.slice p S.length cp) 8 (WL.z (vI (S.length:Int)) 9 (WL.z (vI 0) 10 (WL.nil (WQ.then ?_)))))));refine hK5 _ _ _ (WC.block ?_);refine WC.loop (fun kk0 ll0 ww0=>∃ (i:Nat) (S1:List SlI),ll0=[(0,.slice p S.length cp),(3,vS g S.length S.length),(9,vI (S.length:Int)),(10,vI (i:Int))]∧kk0=S.length-i∧(i≤S.length)∧(cpd S S1 i)∧(Rows ww0 S1)∧HP Tr w ww0 [.cel g (sA S1) 32]) (S.length) [(0,.slice p S.length cp),(3,vS g S.length S.length),(9,vI (S.length:Int)),(10,vI 0)] ⟨rfl,rfl,rfl,rfl,trivial⟩ ⟨0,nilS S.length,rfl,rfl,Nat.zero_le _,⟨by simp,fun j hj=>by omega⟩,fun r hr=>by rw [List.eq_of_mem_replicate hr];exact⟨⟨fun h=>absurd h (by simp),Nat.le_refl _,by decide,fun x hx=>by cases hx⟩,fun _=>rfl⟩,hH9⟩ ?_;rintro kk l w7 ⟨i,S1,rfl,hkk,hi,hcp,hrows,hH8⟩ K6 hK6;have hInv:=hH8;have hO:(_:World).heap[g]?=some (.cells (sA S1) 32 (0,0)):=HP.get hInv 0 rfl;have hR0:=HP.ownB (A:=[]) hInv;have hH9:=HP.startB hR0;refine WC.seq fun K10 hK10=>WC.region ?_;by_cases hlt:(i:Int)<(S.length:Int)
 ·
  refine WL.y (.bool true) 11 (x_lss rfl rfl rfl (dT (hlt))) (WL.k hK10 (WC.seq fun K11 hK11=>?_));refine WC.yes rfl ?_;refine WC.skip (WQ.then (hK11 _ _ _ (WC.seq fun K12 hK12=>WC.block (WC.seq fun K13 hK13=>WC.region (WL.z (vI (i:Int)) 12 (WL.z (vI (i:Int)) 4 (WL.k hK13 ?_)))))));obtain⟨r,hr⟩:∃ r,S[i]?=some r:=⟨S[i]'(by omega),List.getElem?_eq_getElem _⟩;obtain⟨hr1,hr2,hr3,hr4⟩:=stX_at hr;have hIR:=(hS.below (HP.below hInv)).inn r hr4;obtain⟨gS,oS,hpS,hrowS⟩:=(hS.below (HP.below hInv)).row (by omega);have hxn:=hx r hr4;subst hpS;refine WC.region (WL.z (vS g S.length S.length) 13 (WL.z (vI (i:Int)) 14 (WL.z (.slice (some ⟨gS,oS,none⟩) S.length cp) 15 (WL.z (vI (i:Int)) 16 (WL.y (vP gS (oS+i)) 17 (x_ix (i) (oS+i) Tryz.underlying33 sz32) (WL.y (.slice r.q r.xs.length r.c) 18 (x_load rfl rfl Tryz.underlying32 rfl (by have q9:=hrowS i (by omega);rw [hr2] at q9;exact q9 0 _ rfl)) ?_))))));refine WL.c 81 #[.slice r.q r.xs.length r.c] 19 ?_;refine(clone_any r _ hIR hxn).mono ?_;rintro e w14 ⟨pv,cp9,rfl,hb15⟩;refine⟨_,rfl,?_⟩;have hH16:HP (Out [.cel g (sA S1) 32]) w7 _ [.cel g (sA S1) 32,rowI' pv cp9 r.xs]:=HP.trans hH9 hb15;refine WL.y (vP g i) 20 (x_ix (i) (i) Tryz.underlying33 sz32) ?_;refine WL.store (c':=sA (S1.set i ⟨pv,r.xs,cp9⟩)) (H2:=_) 0 hH16 rfl rfl rfl rfl rfl rfl sz32 rfl (by rw [sA_size,hcp.1];omega) (sA_set (r:=⟨pv,r.xs,cp9⟩)) rfl ?_;intro w8 hB8;have hH17:HP (Out [.cel g (sA S1) 32]) w7 _ [.cel g (sA (S1.set i ⟨pv,r.xs,cp9⟩)) 32,rowI' pv cp9 r.xs]:=hB8;refine WL.nil (WQ.inNormal (WQ.then (hK12 _ _ _ (WC.sb [(0,.slice (some ⟨gS,oS,none⟩) S.length cp),(3,vS g S.length S.length),(4,vI (i:Int)),(9,vI (S.length:Int)),(10,vI (i:Int)),(11,.bool true)] (WC.region (WL.y (vI ((i+1:Nat):Int)) 21 (x_ad (((i+1:Nat):Int))) (WL.z (vI ((i+1:Nat):Int)) 10 (WL.nil ?_))))))));have hRw:=(hrows.keep hO hH17).set (k:=i) (row_InR (HP.get hH17 1 rfl) hIR.hw)
  refine WQ.sb [(0,.slice (some ⟨gS,oS,none⟩) S.length cp),(3,vS g S.length S.length),(9,vI (S.length:Int)),(10,vI ((i+1:Nat):Int))] ?_;refine WQ.then (hK6 _ _ _ (by omega) ⟨i+1,S1.set i ⟨pv,r.xs,cp9⟩,rfl,rfl,by omega,cpd_step hcp (by omega) (by rw [hr2]),hRw,(HP.drop (HP.exch (A:=[]) hInv hH17) 1)⟩)
 ·
  refine WL.y (.bool false) 11 (x_lss rfl rfl rfl (dF (hlt))) (WL.k hK10 (WC.seq fun K18 hK18=>?_));refine WC.no rfl ?_;refine WC.exit (WQ.thenExit (WQ.thenExit (WQ.inExit (WQ.then (hK4 _ _ _ (WC.seq fun K19 hK19=>WC.region (WL.z (vS g S.length S.length) 22 (WL.z (vS g S.length S.length) 2 (WL.nil (WQ.then ?_))))))))));refine hK19 _ _ _ (WC.ret ?_);refine WQ.ret1 2 rfl rfl ?_;have hil:i=S.length:=(by omega);rw [hil] at hcp;exact⟨g,S1,rfl,cpd_end hcp,hInv,hrows⟩
end Ca
end Go.Proofs.YtmjnakhpekbenaaGreat
namespace Go.Proofs.YtmjnakhpekbenaaGreat
set_option maxRecDepth 20000
set_option maxHeartbeats 4000000
open Go.RowKit Fw
namespace Ca
def allW (xs:List Int):Bool:=xs.all fun x=>wn x 0 999
theorem allW_yes {xs:List Int} (h:∀ i,i<xs.length→wn (xs.getD i 0) 0 999=true):allW xs=true:=List.all_eq_true.2 fun x hx=>by
  obtain⟨i,hi,rfl⟩:=List.mem_iff_getElem.1 hx;have:=h i hi;simpa [List.getD_eq_getElem?_getD,hi] using this
theorem allW_no {xs:List Int} {i:Nat} (hi:i<xs.length) (h:wn (xs.getD i 0) 0 999=false):allW xs=false:=by
  cases q:allW xs with
  | false=>rfl
  | true =>
    have:=List.all_eq_true.1 q xs[i] (List.getElem_mem hi);have e:xs.getD i 0=xs[i]:=(by simp [List.getD_eq_getElem?_getD,hi]);rw [e,this] at h;cases h
theorem wrong_any (a:Int) (w:World) :
    Calls Tryz.prog 51 #[vI a] w fun e w'=>e=.returned (.bool (!wn a 0 999))∧Below w.heap.size w w':=by
  refine calls_of Tryz.func51 rfl (m:=6) rfl [(0,vI a)] (Fr_enter [vI a] 6 (Nat.le_of_ble_eq_true rfl)) ?_;have hH1:HP Tr w w []:=HP.refl w;refine WC.seq fun K2 hK2=>WC.region (WL.z (.bool false) 2 (WL.k hK2 (WC.seq fun K3 hK3=>WC.region (WL.z (vI a) 3 ?_))));refine WL.c 52 #[vI a,vI 0,vI 999] 4 ?_;refine(within_any a 0 999 _).mono ?_;rintro e w4 ⟨rfl,rfl⟩;refine⟨_,rfl,?_⟩;refine WL.z (.bool (!(wn a 0 999))) 5 (WL.z (.bool (!(wn a 0 999))) 2 (WL.k hK3 (WC.ret ?_)));refine WQ.ret1 2 rfl rfl ?_;exact⟨rfl,HP.below hH1⟩
theorem indexW_any (q:Option Addr) (xs:List Int) (c:Nat) (w:World) (hI:InI w q xs) (hn:xs.length≤281474976710656) :
  Calls Tryz.prog 80 #[.slice q xs.length c,.func (.func 51) #[] #[]] w fun e w'=>∃ r:Int,e=.returned (.int .i64 r)∧(decide (0≤r)=!allW xs)∧Below w.heap.size w w':=by
 refine calls_of Tryz.func80 rfl (m:=19) rfl [(0,.slice q xs.length c),(1,.func (.func 51) #[] #[])] (Fr_enter [.slice q xs.length c,.func (.func 51) #[] #[]] 19 (Nat.le_of_ble_eq_true rfl)) ?_;have hH1:HP Tr w w []:=HP.refl w;refine WC.seq fun K2 hK2=>WC.region (WL.z (vI 0) 4 (WL.k hK2 (WC.seq fun K3 hK3=>WC.seq fun K4 hK4=>WC.region (WL.z (.slice q xs.length c) 6 (WL.z (vI (xs.length:Int)) 7 (WL.z (vI 0) 8 ?_))))));refine WL.k hK4 (WC.block ?_);refine WC.loop (fun kk0 ll0 ww0=>∃ (i:Nat),ll0=[(0,.slice q xs.length c),(1,.func (.func 51) #[] #[]),(7,vI (xs.length:Int)),(8,vI (i:Int))]∧kk0=xs.length-i∧(i≤xs.length)∧(∀ j,j<i→wn (xs.getD j 0) 0 999=true)∧HP Tr w ww0 []) (xs.length) [(0,.slice q xs.length c),(1,.func (.func 51) #[] #[]),(7,vI (xs.length:Int)),(8,vI 0)] ⟨rfl,rfl,rfl,rfl,trivial⟩ ⟨0,rfl,rfl,Nat.zero_le _,fun j hj=>by omega,hH1⟩ ?_;rintro kk l w6 ⟨i,rfl,hkk,hi,hall,hH7⟩ K5 hK5;refine WC.seq fun K8 hK8=>WC.region ?_;by_cases hlt:(i:Int)<(xs.length:Int)
 ·
  refine WL.y (.bool true) 9 (x_lss rfl rfl rfl (dT (hlt))) (WL.k hK8 (WC.seq fun K9 hK9=>?_));refine WC.yes rfl ?_;refine WC.skip (WQ.then (hK9 _ _ _ (WC.seq fun K10 hK10=>WC.block (WC.seq fun K11 hK11=>WC.region (WL.z (vI (i:Int)) 10 (WL.z (vI (i:Int)) 5 (WL.k hK11 ?_)))))));refine WC.seq fun K12 hK12=>?_;obtain⟨g,o,rfl,hrow⟩:=hI (by omega);refine WC.region (WL.z (.func (.func 51) #[] #[]) 11 (WL.z (.slice (some ⟨g,o,none⟩) xs.length c) 12 (WL.z (vI (i:Int)) 13 (WL.y (vP g (o+i)) 14 (x_ix (i) (o+i) Tryz.underlying32 sz3) (WL.y (vI (xs.getD i 0)) 15 (x_load rfl rfl Tryz.underlying3 rfl ((HP.oldRange hH7 trivial (hrow i (by omega))) 0 _ rfl)) ?_)))));refine WL.c 51 #[vI (xs.getD i 0)] 16 ?_;refine(wrong_any _ _).mono ?_;rintro e w13 ⟨rfl,hb14⟩;refine⟨_,rfl,?_⟩;have hH15:=HP.call hH7 hb14;refine WL.k hK12 (WC.sb [(0,.slice (some ⟨g,o,none⟩) xs.length c),(1,.func (.func 51) #[] #[]),(5,vI (i:Int)),(7,vI (xs.length:Int)),(8,vI (i:Int)),(9,.bool true),(16,.bool (!wn (xs.getD i 0) 0 999))] ?_);rcases Bool.eq_false_or_eq_true (wn (xs.getD i 0) 0 999) with hw9 | hw9
  ·
   refine WC.no (congrArg (fun b=>some (Value.bool (!b))) hw9) ?_;refine WC.skip (WQ.inNormal (WQ.then (hK10 _ _ _ (WC.region (WL.y (vI ((i+1:Nat):Int)) 18 (x_ad (((i+1:Nat):Int))) (WL.z (vI ((i+1:Nat):Int)) 8 (WL.nil (WQ.sb [(0,.slice (some ⟨g,o,none⟩) xs.length c),(1,.func (.func 51) #[] #[]),(7,vI (xs.length:Int)),(8,vI ((i+1:Nat):Int))] ?_))))))));refine WQ.then (hK5 _ _ _ (by omega) ⟨i+1,rfl,rfl,by omega,fun j hj=>by
        by_cases q9:j=i
        · subst q9;simpa using hw9
        · exact hall j (by omega),hH15⟩)
  ·
   refine WC.yes (congrArg (fun b=>some (Value.bool (!b))) hw9) ?_;refine WC.seq fun K16 hK16=>WC.region (WL.z (vI (i:Int)) 17 (WL.z (vI (i:Int)) 4 (WL.k hK16 (WC.ret ?_))));refine WQ.inRet ?_;refine WQ.thenRet ?_;refine WQ.thenRet ?_;refine WQ.inRet ?_;refine WQ.thenRet ?_;refine WQ.ret1 4 rfl rfl ?_;exact⟨(i:Int),rfl,by rw [allW_no (show i<xs.length by omega) (by simpa using hw9)];simp,HP.below hH15⟩
 ·
  refine WL.y (.bool false) 9 (x_lss rfl rfl rfl (dF (hlt))) (WL.k hK8 (WC.seq fun K17 hK17=>?_));refine WC.no rfl ?_;refine WC.exit (WQ.thenExit (WQ.thenExit (WQ.inExit (WQ.then (hK3 _ _ _ (WC.seq fun K18 hK18=>WC.region (WL.z (vI (-1)) 4 (WL.k hK18 ?_))))))));refine WC.ret ?_;refine WQ.ret1 4 rfl rfl ?_;exact⟨-1,rfl,by rw [allW_yes (fun j hj=>hall j (by omega))];decide,HP.below hH7⟩
theorem containsW_any (q:Option Addr) (xs:List Int) (c:Nat) (w:World) (hI:InI w q xs) (hn:xs.length≤281474976710656) :
    Calls Tryz.prog 54 #[.slice q xs.length c,.func (.func 51) #[] #[]] w fun e w'=>e=.returned (.bool (!allW xs))∧Below w.heap.size w w':=by
  refine calls_of Tryz.func54 rfl (m:=9) rfl [(0,.slice q xs.length c),(1,.func (.func 51) #[] #[])] (Fr_enter [.slice q xs.length c,.func (.func 51) #[] #[]] 9 (Nat.le_of_ble_eq_true rfl)) ?_;have hH1:HP Tr w w []:=HP.refl w;refine WC.seq fun K2 hK2=>WC.region (WL.z (.bool false) 4 (WL.k hK2 (WC.seq fun K3 hK3=>WC.region (WL.z (.slice q xs.length c) 5 (WL.z (.func (.func 51) #[] #[]) 6 ?_)))));refine WL.c 80 #[.slice q xs.length c,.func (.func 51) #[] #[]] 7 ?_;refine(indexW_any q xs c _ (hI.below (HP.below hH1)) hn).mono ?_;rintro e w4 ⟨r,rfl,hr,hb5⟩;refine⟨_,rfl,?_⟩;have hH6:=HP.call hH1 hb5;by_cases h8:(0:Int)≤r
  ·
    refine WL.y (.bool true) 8 (x_geq rfl rfl rfl (dT (h8))) (WL.z (.bool true) 4 (WL.k hK3 (WC.ret ?_)));refine WQ.ret1 4 rfl rfl ?_;exact⟨by rw [← hr,decide_eq_true h8],HP.below hH6⟩
  ·
    refine WL.y (.bool false) 8 (x_geq rfl rfl rfl (dF (h8))) (WL.z (.bool false) 4 (WL.k hK3 (WC.ret ?_)));refine WQ.ret1 4 rfl rfl ?_;exact⟨by rw [← hr,decide_eq_false h8],HP.below hH6⟩
end Ca
end Go.Proofs.YtmjnakhpekbenaaGreat
namespace Go.Proofs.YtmjnakhpekbenaaGreat
open Go.RowKit Fw
namespace Ca
theorem idx_spec (x:Int) (xs:List Int):(Lib.idxOf xs x<0∧∀ i,i<xs.length→xs.getD i 0≠x)∨(∃ k:Nat,Lib.idxOf xs x=(k:Int)∧k<xs.length∧xs.getD k 0=x∧∀ j,j<k→xs.getD j 0≠x):=by
  rw [idx_plc];unfold plcV;rcases plc_spec x xs with ⟨h1,h2⟩ | ⟨k,h1,h2,h3,h4⟩
  · rw [h1];exact .inl ⟨by decide,h2⟩
  · rw [h1];exact .inr ⟨k,rfl,h2,h3,h4⟩
theorem okR_iff2 {s y k:Int} {xs:List Int}:okR s y k xs=true↔(xs.length:Int)≤y∧(∀ x∈xs,(0≤x∧x≤999)∧x.tmod s=k)∧xs.Nodup:=by
  rw [okR_iff];have gd:∀ i (h:i<xs.length),xs.getD i 0=xs[i]:=fun i h=>by simp [List.getD_eq_getElem?_getD,h]
  refine⟨fun ⟨h1,h2⟩=>⟨h1,fun x hx=>?_,?_⟩,fun ⟨h1,h2,h3⟩=>⟨h1,fun i hi=>?_⟩⟩
  · obtain ⟨i, hi, rfl⟩ := List.mem_iff_getElem.1 hx
    have:=h2 i hi;simp only [okX,Bool.and_eq_true,decide_eq_true_eq,gd i hi] at this;exact⟨wn_iff.1 this.1,this.2.1⟩
  · refine List.pairwise_iff_getElem.2 fun i j hi hj hij e => ?_
    have:=h2 j hj;simp only [okX,Bool.and_eq_true,Bool.not_eq_true',gd j hj] at this;have h4:=this.2.2;have:xs[j]∈xs.take j:=by
      rw [← e];exact List.mem_iff_getElem.2 ⟨i,by simp;omega,by simp⟩
    rw [List.contains_iff_mem.2 this] at h4;cases h4
  · simp only [okX, Bool.and_eq_true, decide_eq_true_eq, Bool.not_eq_true', gd i hi]
    obtain⟨q1,q2⟩:=h2 xs[i] (List.getElem_mem hi);refine⟨wn_iff.2 q1,q2,?_⟩;cases q:(xs.take i).contains xs[i] with
    | false=>rfl
    | true =>
      obtain⟨j,hj,e⟩:=List.mem_iff_getElem.1 (List.contains_iff_mem.1 q);simp only [List.length_take] at hj;simp only [List.getElem_take] at e;exact absurd e (List.pairwise_iff_getElem.1 h3 j i (by omega) hi (by omega))
theorem erase_eq:∀ {xs:List Int} {k:Nat} {x:Int},xs.Nodup→k<xs.length→xs.getD k 0=x→xs.eraseIdx k=xs.filter (fun z=>z != x)
  | a::r,0,x,hn,hk,he=>by
    have he:a=x:=(by simpa using he);subst he;have h1:∀ z∈r,a≠z:=(List.pairwise_cons.1 hn).1;rw [List.filter_cons_of_neg (by simp),List.filter_eq_self.2 fun z hz=>by simpa using fun e=>h1 z hz e.symm]
    rfl
  | a::r,k+1,x,hn,hk,he=>by
    have he:r.getD k 0=x:=(by simpa using he);have hk':k<r.length:=(by simpa using hk);have hx:x∈r:=(by rw [← he];simp [List.getD_eq_getElem?_getD,hk']);have h1:a≠x:=(List.pairwise_cons.1 hn).1 x hx;rw [List.filter_cons_of_pos (by simpa using h1),List.eraseIdx_cons_succ,erase_eq (List.pairwise_cons.1 hn).2 hk' he]
theorem not_mem_of {xs:List Int} {x:Int} (h:∀ i,i<xs.length→xs.getD i 0≠x):x ∉ xs:=fun hx=>by
  obtain⟨i,hi,e⟩:=List.mem_iff_getElem.1 hx;exact h i hi (by simp [List.getD_eq_getElem?_getD,hi,e])
theorem filter_self {xs:List Int} {x:Int} (h:x ∉ xs):xs.filter (fun z=>z != x)=xs:=List.filter_eq_self.2 fun z hz=>by
  have:z≠x:=fun e=>h (e ▸ hz);simpa using this
def tcF (y x:Int) (xs:List Int):List Int:=x::(xs.filter fun z=>z != x).take (y.toNat-1)
theorem tcX_eq {s y k x:Int} {xs:List Int} (h:okR s y k xs=true) (hy:1≤y):tcX y x xs=tcF y x xs:=by
  obtain⟨h1,h2,h3⟩:=okR_iff2.1 h;unfold tcX tcF;rcases idx_spec x xs with ⟨q1,q2⟩ | ⟨k0,q1,q2,q3,_⟩
  · have hx := not_mem_of q2
    rw [if_neg (by omega),filter_self hx];by_cases e:(xs.length:Int)=y
    · rw [if_pos e,show y.toNat-1=xs.length-1 by omega]
    · rw [if_neg e,List.take_of_length_le (by omega)]
  · rw [if_pos (by omega), q1, Int.toNat_natCast, ← erase_eq h3 q2 q3, List.take_of_length_le]
    rw [List.length_eraseIdx_of_lt q2];omega
theorem tcF_ok {s y k x:Int} {xs:List Int} (h:okR s y k xs=true) (hy:1≤y) (hx:0≤x∧x≤999) (hk:x.tmod s=k):okR s y k (tcF y x xs)=true:=by
  obtain⟨h1,h2,h3⟩:=okR_iff2.1 h;have hs:((xs.filter fun z=>z != x).take (y.toNat-1)).Sublist xs:=(List.take_sublist _ _).trans List.filter_sublist;refine okR_iff2.2 ⟨?_,fun z hz=>?_,?_⟩
  · unfold tcF;simp;omega
  · rcases List.mem_cons.1 hz with rfl | hz
    · exact⟨hx,hk⟩
    · exact h2 z (hs.subset hz)
  · refine List.pairwise_cons.2 ⟨fun z hz => ?_, h3.sublist hs⟩
    have:=(List.mem_filter.1 (List.mem_of_mem_take hz)).2;intro e;subst e;simp at this
def setN (s l a:Int):Nat:=((a/l).tmod s).toNat
def stp (s y l a:Int) (X:List (List Int)):List (List Int):=X.set (setN s l a) (tcX y (a/l) (X.getD (setN s l a) []))
def hitN (s l a:Int) (X:List (List Int)):Nat:=if 0≤Lib.idxOf (X.getD (setN s l a) []) (a/l) then 1 else 0
def runX (s y l:Int):List Int→List (List Int) × Nat→List (List Int) × Nat
  | [],p=>p
  | a::r,p=>runX s y l r (stp s y l a p.1,p.2+hitN s l a p.1)
theorem run_drop {s y l:Int} {zs:List Int} {i:Nat} (h:i<zs.length) (p:List (List Int) × Nat):runX s y l (zs.drop i) p=runX s y l (zs.drop (i+1)) (stp s y l (zs.getD i 0) p.1,p.2+hitN s l (zs.getD i 0) p.1):=by
  rw [List.drop_eq_getElem_cons h];have e:zs.getD i 0=zs[i]:=(by simp [List.getD_eq_getElem?_getD,h]);rw [e];rfl
theorem line_bd {l a:Int} (hl:1≤l∧l≤8) (ha:0≤a∧a≤999):0≤a/l∧a/l≤999:=⟨Int.ediv_nonneg ha.1 (by omega),Int.le_trans (Int.ediv_le_self _ ha.1) ha.2⟩
theorem setN_spec {s l a:Int} (hs:1≤s∧s≤8) (hl:1≤l∧l≤8) (ha:0≤a∧a≤999):(a/l).tmod s=(setN s l a:Int)∧(setN s l a:Int)<s:=by
  have h0:=(line_bd hl ha).1;have h1:(a/l).tmod s=(a/l) % s:=Int.tmod_eq_emod_of_nonneg h0;have h2:=Int.emod_nonneg (a/l) (show s≠0 by omega);have h3:=Int.emod_lt_of_pos (a/l) (show 0<s by omega);unfold setN;rw [h1];omega
theorem getD_set_eq {X:List (List Int)} {k:Nat} {r:List Int} (h:k<X.length):(X.set k r).getD k []=r:=by simp [List.getD_eq_getElem?_getD,h]
theorem getD_set_ne {X:List (List Int)} {k j:Nat} {r:List Int} (h:k≠j):(X.set k r).getD j []=X.getD j []:=by simp [List.getD_eq_getElem?_getD,List.getElem?_set_ne h]
theorem okSt_stp {s y l m a:Int} {X:List (List Int)} (h:okSt s y l m X=true) (ha:0≤a∧a≤999):okSt s y l m (stp s y l a X)=true:=by
  obtain⟨h1,h2,h3⟩:=okSt_iff.1 h;obtain⟨hs,hy,hl,-⟩:=vG_iff.1 h1;obtain⟨e1,e2⟩:=setN_spec hs hl ha;have hk:setN s l a<X.length:=(by omega);refine okSt_iff.2 ⟨h1,by unfold stp;simpa using h2,fun k hk2=>?_⟩;unfold stp at hk2 ⊢;by_cases e:setN s l a=k
  · subst e
    rw [getD_set_eq hk,tcX_eq (h3 _ hk) hy.1];exact tcF_ok (h3 _ hk) hy.1 (line_bd hl ha) e1
  · rw [getD_set_ne e]
    exact h3 k (by simpa using hk2)
theorem stp_length (s y l a:Int) (X:List (List Int)):(stp s y l a X).length=X.length:=by simp [stp]
theorem run_length (s y l:Int):∀ (zs:List Int) (p:List (List Int) × Nat),(runX s y l zs p).1.length=p.1.length
  | [],_=>rfl
  | a::r,p=>by rw [runX,run_length s y l r,stp_length]
theorem allW_iff {xs:List Int}:allW xs=true↔∀ x∈xs,0≤x∧x≤999:=by
  unfold allW;rw [List.all_eq_true];exact⟨fun h x hx=>wn_iff.1 (h x hx),fun h x hx=>wn_iff.2 (h x hx)⟩
theorem stX_set (S:List SlI) (k:Nat) (r:SlI):stX (S.set k r)=(stX S).set k r.xs:=by simp [stX,List.map_set]
end Ca
end Go.Proofs.YtmjnakhpekbenaaGreat
namespace Go.Proofs.YtmjnakhpekbenaaGreat
set_option maxRecDepth 20000
set_option maxHeartbeats 4000000
open Go.RowKit Fw
namespace Ca
def runOk (s y l m:Int) (X:List (List Int)) (zs:List Int):Bool:=okSt s y l m X && (decide ((zs.length:Int)≤1000) && allW zs)
theorem runOk_iff {s y l m:Int} {X:List (List Int)} {zs:List Int}:runOk s y l m X zs=true↔okSt s y l m X=true∧(zs.length:Int)≤1000∧allW zs=true:=by simp [runOk]
def RunR (s y l m:Int) (S:List SlI) (zs:List Int) (w:World) (e:Ending) (w':World):Prop :=
  (runOk s y l m (stX S) zs=false∧e=.returned (.tuple #[.slice none 0 0,vI 0,vI 1])∧Below w.heap.size w w') ∨
  (runOk s y l m (stX S) zs=true∧∃ g S',e=.returned (.tuple #[.slice (some ⟨g,0,none⟩) S.length S.length,vI (((runX s y l zs (stX S,0)).2:Nat):Int),vI 0])∧stX S'=(runX s y l zs (stX S,0)).1∧HP Tr w w' [.cel g (sA S') 32]∧Rows w' S')
theorem ValidState_at {s y l m:Int} {S:List SlI} {r:Bool} (h:okSt s y l m (stX S)=r) (p:Option Addr) (cp:Nat) (w:World) (hS:InS2 w p S) (hn:S.length≤281474976710656) :
    Calls Tryz.prog 53 #[.agg #[vI s,vI y,vI l,vI m],.slice p S.length cp] w fun e w'=>e=.returned (.bool r)∧Below w.heap.size w w':=h ▸ ValidState_any s y l m p S cp w hS hn
theorem containsW_at {xs:List Int} {r:Bool} (h:allW xs=r) (q:Option Addr) (c:Nat) (w:World) (hI:InI w q xs) (hn:xs.length≤281474976710656) :
    Calls Tryz.prog 54 #[.slice q xs.length c,.func (.func 51) #[] #[]] w fun e w'=>e=.returned (.bool (!r))∧Below w.heap.size w w':=h ▸ containsW_any q xs c w hI hn
theorem okSt_rows {s y l m:Int} {S:List SlI} (h:okSt s y l m (stX S)=true):(S.length:Int)=s∧∀ r∈S,r.xs.length≤4:=by
  obtain⟨h1,h2,h3⟩:=okSt_iff.1 h;obtain⟨hs,hy,-,-⟩:=vG_iff.1 h1;rw [stX_len] at h2 h3;refine⟨h2,fun r hr=>?_⟩;obtain⟨i,hi,rfl⟩:=List.mem_iff_getElem.1 hr;have:=(okR_iff.1 (h3 i hi)).1;rw [(stX_at (List.getElem?_eq_getElem hi)).1] at this;omega
theorem okSt_wi {s y l m:Int} {X:List (List Int)} (h:okSt s y l m X=true) {k:Nat} (hk:k<X.length):∀ x∈X.getD k [],Wi x:=fun x hx=>by
  have:=((okR_iff2.1 ((okSt_iff.1 h).2.2 k hk)).2.1 x hx).1;exact⟨by omega,by omega⟩
theorem Run_any (s y l m:Int) (p:Option Addr) (S:List SlI) (cp:Nat) (q2:Option Addr) (zs:List Int) (c2:Nat) (w:World) (hS:InS2 w p S) (hn:S.length≤281474976710656) (hI:InI w q2 zs) (hzn:zs.length≤281474976710656) :
  Calls Tryz.prog 31 #[.agg #[vI s,vI y,vI l,vI m],.slice p S.length cp,.slice q2 zs.length c2] w (RunR s y l m S zs w):=by
 refine calls_of Tryz.func31 rfl (m:=45) rfl [(0,.agg #[vI s,vI y,vI l,vI m]),(1,.slice p S.length cp),(2,.slice q2 zs.length c2)] (Fr_enter [.agg #[vI s,vI y,vI l,vI m],.slice p S.length cp,.slice q2 zs.length c2] 45 (Nat.le_of_ble_eq_true rfl)) ?_;have hH1:HP Tr w w []:=HP.refl w;refine WC.seq fun K2 hK2=>WC.region ?_;refine WL.alloc (c:=#[vI s,vI y,vI l,vI m]) (T:=23) hH1 3 rfl (by decide) rfl rfl (fun b3=>vP b3 0) (by kernel_rfl) (fun b3 w3 hw3=>?_);have hH4:HP Tr w w3 [.cel b3 #[vI s,vI y,vI l,vI m] 23]:=hw3.2;have nb3:=hw3.1;clear hw3;refine WL.z (.slice none 0 0) 6 (WL.z (vI 0) 7 (WL.z (vI 0) 8 (WL.k hK2 (WC.seq fun K5 hK5=>WC.region (WL.z (.func (.func 51) #[] #[]) 9 (WL.k hK5 ?_))))));refine WC.seq fun K6 hK6=>WC.seq fun K7 hK7=>WC.region (WL.y (.agg #[vI s,vI y,vI l,vI m]) 14 (x_loadS (cs:=[vI s,vI y,vI l,vI m]) rfl rfl Tryz.underlying23 rfl sz23 (HP.range hH4 0 rfl rfl)) (WL.z (.slice p S.length cp) 15 ?_));rcases Bool.eq_false_or_eq_true (okSt s y l m (stX S)) with hv | hv
 ·
  refine WL.c 53 #[.agg #[vI s,vI y,vI l,vI m],.slice p S.length cp] 16 ?_;refine(ValidState_at hv p cp _ (hS.below (HP.below hH4)) hn).mono ?_;rintro e w8 ⟨rfl,hb9⟩;refine⟨_,rfl,?_⟩;have hH10:=HP.call hH4 hb9;refine WL.z (.bool false) 17 (WL.z (.bool false) 18 (WL.z (.slice q2 zs.length c2) 19 (WL.z (vI (zs.length:Int)) 20 ?_)));by_cases hlen:(1000:Int)<(zs.length:Int)
  ·
   refine WL.y (.bool true) 21 (x_gtr rfl rfl rfl (dT (hlen))) (WL.z (.bool true) 22 (WL.z (.bool true) 23 (WL.p 24 (WL.p 25 (WL.p 26 (WL.z (.bool true) 27 (WL.k hK7 (WC.sb [(0,.agg #[vI s,vI y,vI l,vI m]),(1,.slice p S.length cp),(2,.slice q2 zs.length c2),(3,vP b3 0),(6,.slice none 0 0),(7,vI 0),(8,vI 0),(9,.func (.func 51) #[] #[]),(27,.bool true)] ?_))))))));refine WC.yes rfl ?_;refine WC.seq fun K11 hK11=>?_;have hno:runOk s y l m (stX S) zs=false:=(by unfold runOk;rw [hv,decide_eq_false (by omega)];rfl);refine WC.region (WL.z (.slice none 0 0) 6 (WL.z (vI 0) 7 (WL.z (vI 1) 8 (WL.k hK11 (WC.ret ?_)))));refine WQ.thenRet ?_;refine WQ.ret3 6 7 8 rfl rfl rfl rfl ?_;exact .inl ⟨hno,rfl,HP.below hH10⟩
  ·
   refine WL.y (.bool false) 21 (x_gtr rfl rfl rfl (dF (hlen))) (WL.z (.bool false) 22 (WL.z (.bool false) 23 (WL.z (.slice q2 zs.length c2) 24 (WL.z (.func (.func 51) #[] #[]) 25 ?_))));rcases Bool.eq_false_or_eq_true (allW zs) with ha | ha
   ·
    refine WL.c 54 #[.slice q2 zs.length c2,.func (.func 51) #[] #[]] 26 ?_;refine(containsW_at ha q2 c2 _ (hI.below (HP.below hH10)) hzn).mono ?_;rintro e w12 ⟨rfl,hb13⟩;refine⟨_,rfl,?_⟩;have hH14:=HP.call hH10 hb13;refine WL.z (.bool false) 27 (WL.k hK7 (WC.sb [(0,.agg #[vI s,vI y,vI l,vI m]),(1,.slice p S.length cp),(2,.slice q2 zs.length c2),(3,vP b3 0),(6,.slice none 0 0),(7,vI 0),(8,vI 0),(9,.func (.func 51) #[] #[]),(27,.bool false)] ?_));refine WC.no rfl ?_;refine WC.skip (WQ.then (hK6 _ _ _ (WC.seq fun K15 hK15=>WC.region (WL.z (.slice p S.length cp) 28 ?_))));have hyes:runOk s y l m (stX S) zs=true:=runOk_iff.2 ⟨hv,by omega,ha⟩;obtain⟨hSs,hrl⟩:=okSt_rows hv;obtain⟨⟨hs1,hs2⟩,⟨hy1,hy2⟩,⟨hl1,hl2⟩,-⟩:=vG_iff.1 (okSt_iff.1 hv).1;refine WL.c 55 #[.slice p S.length cp] 29 ?_;refine(copied_any p S cp _ (hS.below (HP.below hH14)) (by omega) (fun r hr=>by have:=hrl r hr;omega)).mono ?_;rintro e w16 ⟨g,S1,rfl,hX1,hb17,hR1⟩;refine⟨_,rfl,?_⟩;have hH18:HP Tr w _ [.cel b3 #[vI s,vI y,vI l,vI m] 23,.cel g (sA S1) 32]:=HP.trans hH14 hb17;refine WL.z (vS g S.length S.length) 10 (WL.z (vI 0) 11 (WL.k hK15 (WC.seq fun K19 hK19=>WC.seq fun K20 hK20=>WC.region (WL.z (.slice q2 zs.length c2) 30 (WL.z (vI (zs.length:Int)) 31 (WL.z (vI 0) 32 (WL.nil ?_)))))));refine WQ.then (hK20 _ _ _ (WC.block ?_));refine WC.loop (fun kk0 ll0 ww0=>∃ (i:Nat) (S2:List SlI) (h:Nat),ll0=[(2,.slice q2 zs.length c2),(3,vP b3 0),(10,vS g S.length S.length),(11,vI (h:Int)),(30,.slice q2 zs.length c2),(31,vI (zs.length:Int)),(32,vI (i:Int))]∧kk0=zs.length-i∧(i≤zs.length)∧(runX s y l (zs.drop i) (stX S2,h)=runX s y l zs (stX S,0))∧(Rows ww0 S2)∧(okSt s y l m (stX S2)=true)∧(h≤i)∧(S2.length=S.length)∧HP Tr w ww0 [.cel b3 #[vI s,vI y,vI l,vI m] 23,.cel g (sA S2) 32]) (zs.length) [(2,.slice q2 zs.length c2),(3,vP b3 0),(10,vS g S.length S.length),(11,vI 0),(30,.slice q2 zs.length c2),(31,vI (zs.length:Int)),(32,vI 0)] ⟨rfl,rfl,rfl,rfl,rfl,rfl,rfl,trivial⟩ ⟨0,S1,0,rfl,rfl,Nat.zero_le _,by rw [List.drop_zero,hX1],hR1,by rw [hX1];exact hv,Nat.le_refl _,by rw [← stX_len S1,hX1,stX_len],hH18⟩ ?_
    rintro kk l w22 ⟨i,S2,h,rfl,hkk,hi,hrun,hrows,hok,hh,hlS,hH23⟩ K21 hK21;refine WC.seq fun K24 hK24=>WC.region ?_;by_cases hlt:(i:Int)<(zs.length:Int)
    ·
     refine WL.y (.bool true) 33 (x_lss rfl rfl rfl (dT (hlt))) (WL.k hK24 (WC.seq fun K25 hK25=>?_));refine WC.yes rfl ?_;refine WC.skip (WQ.then (hK25 _ _ _ (WC.seq fun K26 hK26=>WC.block (WC.seq fun K27 hK27=>?_))));obtain⟨gz,oz,hqz,hrowz⟩:=hI (by omega);subst hqz;refine WC.region (WL.y (vP gz (oz+i)) 34 (x_ix (i) (oz+i) Tryz.underlying32 sz3) (WL.y (vI (zs.getD i 0)) 35 (x_load rfl rfl Tryz.underlying3 rfl ((HP.oldRange hH23 trivial (hrowz i (by omega))) 0 _ rfl)) (WL.z (vI (zs.getD i 0)) 13 (WL.k hK27 (WC.seq fun K28 hK28=>WC.region (WL.y (.agg #[vI s,vI y,vI l,vI m]) 36 (x_loadS (cs:=[vI s,vI y,vI l,vI m]) rfl rfl Tryz.underlying23 rfl sz23 (HP.range hH23 0 rfl rfl)) (WL.z (vS g S.length S.length) 37 (WL.z (vI (zs.getD i 0)) 38 ?_))))))));have haz:0≤zs.getD i 0∧zs.getD i 0≤999:=allW_iff.1 ha _ (by simp [List.getD_eq_getElem?_getD,show i<zs.length by omega]);obtain⟨hk1,hk2⟩:=setN_spec ⟨hs1,hs2⟩ ⟨hl1,hl2⟩ haz;obtain⟨⟨q9,xs9,c9⟩,hkS⟩:∃ r,S2[setN s l (zs.getD i 0)]?=some r:=⟨S2[setN s l (zs.getD i 0)]'(by omega),List.getElem?_eq_getElem _⟩;obtain⟨hr1,hr2,hr3,hr4⟩:=stX_at hkS;have hrl2:=(okSt_rows hok).2 _ hr4;simp only [] at hr1 hrl2;have hRk:=hrows _ hr4;have hO:(_:World).heap[g]?=some (.cells (sA S2) 32 (0,0)):=HP.get hH23 1 rfl;refine WL.c 56 #[.agg #[vI s,vI y,vI l,vI m],vS g S.length S.length,vI (zs.getD i 0)] 39 ?_;refine(touch_any g S.length S.length S2 s y l m (zs.getD i 0) (setN s l (zs.getD i 0)) q9 xs9 c9 _ (HP.ownB (A:=[Go.Proofs.YtmjnakhpekbenaaGreat.Fw.Ent.cel b3 #[vI s,vI y,vI l,vI m] 23]) hH23) ⟨hs1,hs2⟩ ⟨hl1,hl2⟩ haz ⟨hy1,hy2⟩ hk1 hkS hRk.1 hRk.2 (by omega) hlS).mono ?_;rintro e w9 ⟨pv,cp9,rfl,hb9⟩;refine⟨_,rfl,?_⟩;have hok2:=okSt_stp hok haz;have hstp:stX (S2.set (setN s l (zs.getD i 0)) ⟨pv,tcX y (zs.getD i 0/l) xs9,cp9⟩)=stp s y l (zs.getD i 0) (stX S2):=by unfold stp;rw [stX_set,hr1]
     have hwi9:∀ x∈tcX y (zs.getD i 0/l) xs9,Wi x:=(by have q8:=okSt_wi hok2 (k:=setN s l (zs.getD i 0)) (by rw [stp_length,stX_len];exact hr3);rw [← hstp,stX_set,getD_set_eq (by rw [stX_len];exact hr3)] at q8;exact q8);have hrows2:=(hrows.keep hO hb9).set (k:=setN s l (zs.getD i 0)) (row_InR (HP.get hb9 1 rfl) hwi9);have hH29:HP Tr w _ [.cel b3 #[vI s,vI y,vI l,vI m] 23,.cel g (sA (S2.set (setN s l (zs.getD i 0)) ⟨pv,tcX y (zs.getD i 0/l) xs9,cp9⟩)) 32,rowI' pv cp9 (tcX y (zs.getD i 0/l) xs9)]:=HP.exch (A:=[Go.Proofs.YtmjnakhpekbenaaGreat.Fw.Ent.cel b3 #[vI s,vI y,vI l,vI m] 23]) hH23 hb9;refine WL.k hK28 ?_;rcases Bool.eq_false_or_eq_true ((decide (0≤Lib.idxOf xs9 (zs.getD i 0/l)))) with hd | hd
     ·
      refine WC.yes (congrArg (fun b=>some (Value.bool b)) hd) ?_;refine WC.region (WL.z (vI (h:Int)) 40 (WL.y (vI ((h+1:Nat):Int)) 41 (x_ad (((h+1:Nat):Int))) (WL.z (vI ((h+1:Nat):Int)) 11 (WL.nil (WQ.inNormal (WQ.then (hK26 _ _ _ (WC.sb [(2,.slice (some ⟨gz,oz,none⟩) zs.length c2),(3,vP b3 0),(10,vS g S.length S.length),(11,vI ((h+1:Nat):Int)),(13,vI (zs.getD i 0)),(30,.slice (some ⟨gz,oz,none⟩) zs.length c2),(31,vI (zs.length:Int)),(32,vI (i:Int)),(33,.bool true),(39,.bool (decide (0≤Lib.idxOf xs9 (zs.getD i 0/l))))] (WC.region (WL.y (vI ((i+1:Nat):Int)) 42 (x_ad (((i+1:Nat):Int))) (WL.z (vI ((i+1:Nat):Int)) 32 ?_)))))))))));refine WL.nil ?_;have hhit:hitN s l (zs.getD i 0) (stX S2)=1:=(by unfold hitN;rw [hr1,if_pos (of_decide_eq_true hd)]);refine WQ.sb [(2,.slice (some ⟨gz,oz,none⟩) zs.length c2),(3,vP b3 0),(10,vS g S.length S.length),(11,vI ((h+1:Nat):Int)),(30,.slice (some ⟨gz,oz,none⟩) zs.length c2),(31,vI (zs.length:Int)),(32,vI ((i+1:Nat):Int))] ?_;refine WQ.then (hK21 _ _ _ (by omega) ⟨i+1,S2.set (setN s l (zs.getD i 0)) ⟨pv,tcX y (zs.getD i 0/l) xs9,cp9⟩,h+1,rfl,rfl,by omega,by rw [← hrun,run_drop (show i<zs.length by omega),hstp,hhit],hrows2,by rw [hstp];exact hok2,by omega,by simpa using hlS,(HP.drop hH29 2)⟩)
     ·
      refine WC.no (congrArg (fun b=>some (Value.bool b)) hd) ?_;refine WC.skip (WQ.inNormal (WQ.then (hK26 _ _ _ (WC.region (WL.y (vI ((i+1:Nat):Int)) 42 (x_ad (((i+1:Nat):Int))) (WL.z (vI ((i+1:Nat):Int)) 32 (WL.nil ?_)))))));have hhit:hitN s l (zs.getD i 0) (stX S2)=0:=(by unfold hitN;rw [hr1,if_neg (of_decide_eq_false hd)]);refine WQ.sb [(2,.slice (some ⟨gz,oz,none⟩) zs.length c2),(3,vP b3 0),(10,vS g S.length S.length),(11,vI (h:Int)),(30,.slice (some ⟨gz,oz,none⟩) zs.length c2),(31,vI (zs.length:Int)),(32,vI ((i+1:Nat):Int))] ?_;refine WQ.then (hK21 _ _ _ (by omega) ⟨i+1,S2.set (setN s l (zs.getD i 0)) ⟨pv,tcX y (zs.getD i 0/l) xs9,cp9⟩,h,rfl,rfl,by omega,by rw [← hrun,run_drop (show i<zs.length by omega),hstp,hhit];rfl,hrows2,by rw [hstp];exact hok2,by omega,by simpa using hlS,(HP.drop hH29 2)⟩)
    ·
     refine WL.y (.bool false) 33 (x_lss rfl rfl rfl (dF (hlt))) (WL.k hK24 (WC.seq fun K30 hK30=>?_));refine WC.no rfl ?_;refine WC.exit (WQ.thenExit (WQ.thenExit (WQ.inExit (WQ.then (hK19 _ _ _ (WC.seq fun K31 hK31=>?_))))));rw [List.drop_eq_nil_of_le (show zs.length≤i by omega)] at hrun;have hr8:(stX S2,h)=runX s y l zs (stX S,0):=hrun;refine WC.region (WL.z (vS g S.length S.length) 43 (WL.z (vI (h:Int)) 44 (WL.z (vS g S.length S.length) 6 (WL.z (vI (h:Int)) 7 (WL.z (vI 0) 8 (WL.k hK31 (WC.ret ?_)))))));refine WQ.ret3 6 7 8 rfl rfl rfl rfl ?_;exact .inr ⟨hyes,g,S2,by rw [← hr8],by rw [← hr8],HP.drop hH23 0,hrows⟩
   ·
    refine WL.c 54 #[.slice q2 zs.length c2,.func (.func 51) #[] #[]] 26 ?_;refine(containsW_at ha q2 c2 _ (hI.below (HP.below hH10)) hzn).mono ?_;rintro e w32 ⟨rfl,hb33⟩;refine⟨_,rfl,?_⟩;have hH34:=HP.call hH10 hb33;refine WL.z (.bool true) 27 (WL.k hK7 (WC.sb [(0,.agg #[vI s,vI y,vI l,vI m]),(1,.slice p S.length cp),(2,.slice q2 zs.length c2),(3,vP b3 0),(6,.slice none 0 0),(7,vI 0),(8,vI 0),(9,.func (.func 51) #[] #[]),(27,.bool true)] ?_));refine WC.yes rfl ?_;refine WC.seq fun K35 hK35=>?_;have hno:runOk s y l m (stX S) zs=false:=(by unfold runOk;rw [hv,ha,Bool.and_false,Bool.and_false]);refine WC.region (WL.z (.slice none 0 0) 6 (WL.z (vI 0) 7 (WL.z (vI 1) 8 (WL.k hK35 (WC.ret ?_)))));refine WQ.thenRet ?_;refine WQ.ret3 6 7 8 rfl rfl rfl rfl ?_;exact .inl ⟨hno,rfl,HP.below hH34⟩
 ·
  refine WL.c 53 #[.agg #[vI s,vI y,vI l,vI m],.slice p S.length cp] 16 ?_;refine(ValidState_at hv p cp _ (hS.below (HP.below hH4)) hn).mono ?_;rintro e w36 ⟨rfl,hb37⟩;refine⟨_,rfl,?_⟩;have hH38:=HP.call hH4 hb37;refine WL.z (.bool true) 17 (WL.z (.bool true) 18 (WL.p 19 (WL.p 20 (WL.p 21 (WL.z (.bool true) 22 (WL.z (.bool true) 23 (WL.p 24 (WL.p 25 (WL.p 26 (WL.z (.bool true) 27 (WL.nil ?_)))))))))));refine WQ.then (hK7 _ _ _ (WC.sb [(0,.agg #[vI s,vI y,vI l,vI m]),(1,.slice p S.length cp),(2,.slice q2 zs.length c2),(3,vP b3 0),(6,.slice none 0 0),(7,vI 0),(8,vI 0),(9,.func (.func 51) #[] #[]),(27,.bool true)] ?_));refine WC.yes rfl ?_;refine WC.seq fun K39 hK39=>?_;have hno:runOk s y l m (stX S) zs=false:=(by unfold runOk;rw [hv];rfl);refine WC.region (WL.z (.slice none 0 0) 6 (WL.z (vI 0) 7 (WL.z (vI 1) 8 (WL.k hK39 (WC.ret ?_)))));refine WQ.thenRet ?_;refine WQ.ret3 6 7 8 rfl rfl rfl rfl ?_;exact .inl ⟨hno,rfl,HP.below hH38⟩
end Ca
end Go.Proofs.YtmjnakhpekbenaaGreat
namespace Go.Proofs.YtmjnakhpekbenaaGreat
set_option maxRecDepth 20000
set_option maxHeartbeats 4000000
open Go.RowKit Fw
namespace Ca
abbrev rowS (pv:Option Addr) (cp:Nat) (S:List SlI):Ent:=.own (.slice pv S.length cp) S.length (S.map slV) 32 1
theorem in_own {w:World} {pv:Option Addr} {cp:Nat} {S:List SlI} (h:Ent.holds w (rowS pv cp S)) (hr:∀ r∈S,InR w r):InS2 w pv S:=⟨fun h0=>by
    have h2:w.ownsRow 0 32 1 (.slice pv S.length cp) S.length (S.map slV):=h;have hc:=@World.ownsRow.cells _ _ _ _ _ _ _ h2;rcases h2.2 with ⟨h0',h1⟩ | ⟨g,cap,cur,hv,hb,hg,hnc,hm,hs,hx⟩
    · omega
    · cases hv
      refine⟨g,0,rfl,fun i hi j v hv=>?_⟩;have hc:=hc (g:=g) rfl i (slV (S.getD i ⟨none,[],0⟩)) (by simp [List.getD_eq_getElem?_getD,hi])
      match j,hv with
      | 0,hv=>simp at hv;subst hv;simp only [hadd,Nat.zero_add,Nat.add_zero] at hc ⊢;exact hc
      | j+1,hv=>simp at hv,hr⟩
theorem in_cel {w:World} {g:Nat} {S:List SlI} (h:Ent.holds w (.cel g (sA S) 32)) (hr:Rows w S):InS2 w (some ⟨g,0,none⟩) S:=⟨fun h0=>⟨g,0,rfl,fun i hi j v hv=>by
      match j,hv with
      | 0,hv =>
        simp at hv;subst hv;have h2:w.heap[g]?=some (.cells (sA S) 32 (0,0)):=h;rw [cell_of_row w g _ _ 32 (0,0) h2];rw [Nat.zero_add,Nat.add_zero,sA_at (r:=S.getD i ⟨none,[],0⟩) (by simp [List.getD_eq_getElem?_getD,hi])]
        rfl
      | j+1,hv=>simp at hv⟩,fun r h=>(hr r h).1⟩
def tOk (s y l m a:Int) (X:List (List Int)):Bool:=okSt s y l m X && wn a 0 999
def TouR (s y l m a:Int) (S:List SlI) (w:World) (e:Ending) (w':World):Prop :=
  (tOk s y l m a (stX S)=false∧e=.returned (.tuple #[.slice none 0 0,.bool false,vI 1])∧Below w.heap.size w w') ∨
  (tOk s y l m a (stX S)=true∧∃ pv cp S',e=.returned (.tuple #[.slice pv S'.length cp,.bool (decide (hitN s l a (stX S)=1)),vI 0])∧stX S'=stp s y l a (stX S)∧InS2 w' pv S'∧Below w.heap.size w w')
theorem one_run (s y l m a:Int) (X:List (List Int)):runOk s y l m X [a]=tOk s y l m a X:=by
  unfold runOk tOk allW;simp
theorem hp_in {w0 w:World} {S:Nat→Prop} {H:List Ent} (h:HP S w0 w H) (i:Nat) {g:Nat} {v:Int} {xs:List Int} (hx:xs=[v]) (hi:H[i]?=some (.cel g #[vI v] 3)):InI w (some ⟨g,0,none⟩) xs:=fun _=>⟨g,0,rfl,fun j hj k u hu=>by
  subst hx;have hj0:j=0:=(by simpa using hj);subst hj0
  match k,hu with
  | 0,hu=>simp at hu;subst hu;exact h.cell i hi rfl
  | k+1,hu=>simp at hu⟩
theorem Touch_any (s y l m a:Int) (p:Option Addr) (S:List SlI) (cp:Nat) (w:World) (hS:InS2 w p S) (hn:S.length≤281474976710656) :
  Calls Tryz.prog 17 #[.agg #[vI s,vI y,vI l,vI m],.slice p S.length cp,vI a] w (TouR s y l m a S w):=by
 refine calls_of Tryz.func17 rfl (m:=25) rfl [(0,.agg #[vI s,vI y,vI l,vI m]),(1,.slice p S.length cp),(2,vI a)] (Fr_enter [.agg #[vI s,vI y,vI l,vI m],.slice p S.length cp,vI a] 25 (Nat.le_of_ble_eq_true rfl)) ?_;have hH1:HP Tr w w []:=HP.refl w;refine WC.seq fun K2 hK2=>WC.region ?_;refine WL.alloc (c:=#[vI s,vI y,vI l,vI m]) (T:=23) hH1 3 rfl (by decide) rfl rfl (fun b3=>vP b3 0) (by kernel_rfl) (fun b3 w3 hw3=>?_);have hH4:HP Tr w w3 [.cel b3 #[vI s,vI y,vI l,vI m] 23]:=hw3.2;have nb3:=hw3.1;clear hw3;refine WL.z (.slice none 0 0) 6 (WL.z (.bool false) 7 (WL.z (vI 0) 8 (WL.k hK2 (WC.seq fun K5 hK5=>WC.region (WL.y (.agg #[vI s,vI y,vI l,vI m]) 13 (x_loadS (cs:=[vI s,vI y,vI l,vI m]) rfl rfl Tryz.underlying23 rfl sz23 (HP.range hH4 0 rfl rfl)) (WL.z (.slice p S.length cp) 14 (WL.z (vI a) 15 ?_)))))));refine WL.alloc (c:=#[vI a]) (T:=3) hH4 16 rfl (by decide) rfl rfl (fun b16=>vS b16 1 1) (by kernel_rfl) (fun b16 w6 hw6=>?_);have hH7:HP Tr w w6 [.cel b3 #[vI s,vI y,vI l,vI m] 23,.cel b16 #[vI a] 3]:=hw6.2;have nb16:=hw6.1;clear hw6;refine WL.c 31 #[.agg #[vI s,vI y,vI l,vI m],.slice p S.length cp,vS b16 1 1] 17 ?_;refine(Run_any s y l m p S cp (some ⟨b16,0,none⟩) [a] 1 _ (hS.below (HP.below hH7)) hn (hp_in hH7 1 rfl rfl) (by simp)).mono ?_;rintro e w4 (⟨hno,rfl,hb⟩ | ⟨hyes,g,S2,rfl,hX,hb,hR⟩)
 ·
  refine⟨_,rfl,?_⟩;have hH8:=HP.call hH7 hb;refine WL.z (.tuple #[.slice none 0 0,vI 0,vI 1]) 12 (WL.z (.slice none 0 0) 18 (WL.z (vI 0) 19 (WL.z (vI 1) 20 (WL.z (.slice none 0 0) 9 (WL.z (vI 0) 10 (WL.z (vI 1) 11 (WL.k hK5 (WC.sb [(0,.agg #[vI s,vI y,vI l,vI m]),(1,.slice p S.length cp),(2,vI a),(3,vP b3 0),(6,.slice none 0 0),(7,.bool false),(8,vI 0),(9,.slice none 0 0),(10,vI 0),(11,vI 1)] (WC.seq fun K9 hK9=>?_)))))))));refine WC.region (WL.z (.slice none 0 0) 21 (WL.z (vI 0) 22 (WL.y (.bool false) 23 (x_eql rfl rfl rfl (by decide)) (WL.z (vI 1) 24 (WL.z (.slice none 0 0) 6 (WL.z (.bool false) 7 (WL.z (vI 1) 8 (WL.k hK9 (WC.sb [(0,.agg #[vI s,vI y,vI l,vI m]),(1,.slice p S.length cp),(2,vI a),(3,vP b3 0),(6,.slice none 0 0),(7,.bool false),(8,vI 1),(9,.slice none 0 0),(10,vI 0),(11,vI 1)] ?_)))))))));refine WC.ret ?_;refine WQ.ret3 6 7 8 rfl rfl rfl rfl ?_;exact .inl ⟨by rw [← one_run];exact hno,rfl,HP.below hH8⟩
 ·
  refine⟨_,rfl,?_⟩;obtain⟨n9,hn9⟩:∃ n9,n9=(runX s y l [a] (stX S,0)).2:=⟨_,rfl⟩;rw [← hn9];have hh:n9=hitN s l a (stX S):=(by rw [hn9];simp [runX]);have hH10:HP Tr w _ [.cel b3 #[vI s,vI y,vI l,vI m] 23,.cel b16 #[vI a] 3,.cel g (sA S2) 32]:=HP.trans hH7 hb;refine WL.z (.tuple #[vS g S.length S.length,vI (n9:Int),vI 0]) 12 (WL.z (vS g S.length S.length) 18 (WL.z (vI (n9:Int)) 19 (WL.z (vI 0) 20 (WL.z (vS g S.length S.length) 9 (WL.z (vI (n9:Int)) 10 (WL.z (vI 0) 11 (WL.k hK5 (WC.sb [(0,.agg #[vI s,vI y,vI l,vI m]),(1,.slice p S.length cp),(2,vI a),(3,vP b3 0),(6,.slice none 0 0),(7,.bool false),(8,vI 0),(9,vS g S.length S.length),(10,vI (n9:Int)),(11,vI 0)] (WC.seq fun K11 hK11=>?_)))))))));refine WC.region (WL.z (vS g S.length S.length) 21 (WL.z (vI (n9:Int)) 22 ?_));by_cases h23:(n9:Int)=1
  ·
   refine WL.y (.bool true) 23 (x_eql rfl rfl rfl (dT (h23))) (WL.z (vI 0) 24 (WL.z (vS g S.length S.length) 6 (WL.z (.bool true) 7 (WL.z (vI 0) 8 (WL.k hK11 (WC.sb [(0,.agg #[vI s,vI y,vI l,vI m]),(1,.slice p S.length cp),(2,vI a),(3,vP b3 0),(6,vS g S.length S.length),(7,.bool true),(8,vI 0),(9,vS g S.length S.length),(10,vI (n9:Int)),(11,vI 0)] (WC.ret ?_)))))));refine WQ.ret3 6 7 8 rfl rfl rfl rfl ?_;exact .inr ⟨by rw [← one_run];exact hyes,some ⟨g,0,none⟩,S.length,S2,by rw [show S2.length=S.length by rw [← stX_len S2,hX,run_length,stX_len],decide_eq_true (by omega)],by rw [hX];rfl,in_cel (HP.get hH10 2 rfl) hR,HP.below hH10⟩
  ·
   refine WL.y (.bool false) 23 (x_eql rfl rfl rfl (dF (h23))) (WL.z (vI 0) 24 (WL.z (vS g S.length S.length) 6 (WL.z (.bool false) 7 (WL.z (vI 0) 8 (WL.k hK11 (WC.sb [(0,.agg #[vI s,vI y,vI l,vI m]),(1,.slice p S.length cp),(2,vI a),(3,vP b3 0),(6,vS g S.length S.length),(7,.bool false),(8,vI 0),(9,vS g S.length S.length),(10,vI (n9:Int)),(11,vI 0)] (WC.ret ?_)))))));refine WQ.ret3 6 7 8 rfl rfl rfl rfl ?_;exact .inr ⟨by rw [← one_run];exact hyes,some ⟨g,0,none⟩,S.length,S2,by rw [show S2.length=S.length by rw [← stX_len S2,hX,run_length,stX_len],decide_eq_false (by omega)],by rw [hX];rfl,in_cel (HP.get hH10 2 rfl) hR,HP.below hH10⟩
end Ca
end Go.Proofs.YtmjnakhpekbenaaGreat
namespace Go.Proofs.YtmjnakhpekbenaaGreat
open Go.RowKit Fw
namespace Ca
structure TbI where
  q:Option Addr
  t:List T2
  c:Nat
abbrev tbV (r:TbI):Value:=.slice r.q r.t.length r.c
def upA (A:Nat→TbI) (i:Nat) (r:TbI):Nat→TbI:=fun j=>if j=i then r else A j
def aR (n:Nat) (A:Nat→TbI):Array Value:=(Array.range n).map fun i=>tbV (A i)
theorem aR_size (n:Nat) (A:Nat→TbI):(aR n A).size=n:=by simp [aR]
theorem aR_get {n i:Nat} {A:Nat→TbI} (h:i<n):(aR n A)[i]?=some (tbV (A i)):=by simp [aR,h]
theorem aR_set (n i:Nat) (A:Nat→TbI) (r:TbI):(aR n A).setIfInBounds i (tbV r)=aR n (upA A i r):=by
  apply Array.ext
  · simp [aR]
  · intro j h1 h2
    rw [Array.getElem_setIfInBounds (by simpa using h1)];by_cases e:i=j
    · subst e;simp [aR,upA]
    · rw [if_neg e];simp [aR,upA,Ne.symm e]
def tabs (A:Nat→TbI):Nat→List T2:=fun i=>(A i).t
theorem tabs_up (A:Nat→TbI) (i:Nat) (r:TbI):tabs (upA A i r)=Fl.up (tabs A) i r.t:=by
  funext j;unfold tabs upA Fl.up;split <;> rfl
structure TbOk (s y l m:Int) (w:World) (r:TbI):Prop where
  inn:InT w r.q r.t
  ok:VT s y l m r.t
abbrev pE (pb:Nat) (cq:Option Addr) (n cap b6 b4 fj ga:Nat):Ent:=.cel pb #[.slice cq n cap,.func (.func 33) #[] #[vP b6 0,vP b4 0],.func (.func fj) #[] #[],.func (.func 34) #[] #[],.func (.func 35) #[] #[],vS ga n n] 71
abbrev aE (ga n:Nat) (A:Nat→TbI):Ent:=.cel ga (aR n A) 64
theorem aR_in {n i:Nat} {A:Nat→TbI} {v:Value} (h:(aR n A)[i]?=some v):∃ r,v=tbV r:=by
  have hi:i<n:=by
    have:=(Array.getElem?_eq_some_iff.1 h).1;simpa [aR] using this
  rw [aR_get hi] at h;cases h;exact⟨_,rfl⟩
theorem out_int {w:World} {pb n cap b6 b4 fj ga:Nat} {cq:Option Addr} {A:Nat→TbI} (hB:OwnB w [pE pb cq n cap b6 b4 fj ga,aE ga n A]) {b o:Nat} {x:Int} (hc:w.cell? ⟨b,o,none⟩=some (vI x)):Out [pE pb cq n cap b6 b4 fj ga,aE ga n A] b:=fun e he hb=>by
  rcases List.mem_cons.1 he with rfl | he
  · cases hb
    have h2:=hB.1 (pE pb cq n cap b6 b4 fj ga) (by simp);rw [cell_of_row w pb o _ 71 (0,0) h2] at hc
    match o,hc with
    | 0,hc=>simp at hc
    | 1,hc=>simp at hc
    | 2,hc=>simp at hc
    | 3,hc=>simp at hc
    | 4,hc=>simp at hc
    | 5,hc=>simp at hc
    | o+6,hc=>simp at hc
  · obtain rfl := List.mem_singleton.1 he
    cases hb;have h2:=hB.1 (aE ga n A) (by simp);rw [cell_of_row w ga o _ 64 (0,0) h2] at hc;obtain⟨r,hr⟩:=aR_in hc;cases hr
structure Env (s y l m:Int) (pb:Nat) (cq:Option Addr) (n cap b6 b4 fh fj ga:Nat) (c A B:Nat→Int) (w:World) (T:Nat→TbI):Prop where
  own:OwnB w [pE pb cq n cap b6 b4 fj ga,aE ga n T]
  code:Ec.InC w cq n c A B
  geo:w.rangeAt b4 0 [vI s,vI y,vI l,vI m]
  how:w.cell? ⟨b6,0,none⟩=some (.func (.func fh) #[] #[])
  nb:b6≠pb∧b6≠ga
theorem keepT {s y l m:Int} {w w':World} {B H:List Ent} {r:TbI} (h:TbOk s y l m w r) (hO:∀ b o x,w.cell? ⟨b,o,none⟩=some (vI x)→Out B b) (hp:HP (Out B) w w' H):TbOk s y l m w' r:=⟨fun h0=>by
    obtain⟨g,o,hq,hr⟩:=h.inn h0;exact⟨g,o,hq,fun i hi=>HP.oldRange hp (hO g _ _ (hr i hi 0 _ rfl)) (hr i hi)⟩,h.ok⟩
theorem Env.keep {s y l m:Int} {pb n cap b6 b4 fh fj ga:Nat} {cq:Option Addr} {c A B:Nat→Int} {w w':World} {T T':Nat→TbI} {H:List Ent} (h:Env s y l m pb cq n cap b6 b4 fh fj ga c A B w T) (hp:HP (Out [pE pb cq n cap b6 b4 fj ga,aE ga n T]) w w' (pE pb cq n cap b6 b4 fj ga::aE ga n T'::H)):Env s y l m pb cq n cap b6 b4 fh fj ga c A B w' T' :=
  ⟨HP.ownF (A:=[pE pb cq n cap b6 b4 fj ga,aE ga n T']) (B:=H) hp,fun h0=>by
    obtain⟨g,o,hq,hr⟩:=h.code h0;exact⟨g,o,hq,fun i hi=>HP.oldRange hp (out_int h.own (hr i hi 0 _ rfl)) (hr i hi)⟩,HP.oldRange hp (out_int h.own (h.geo 0 _ rfl)) h.geo,
    HP.old hp (fun e he hb=>by
      rcases List.mem_cons.1 he with rfl | he
      · cases hb;exact h.nb.1 rfl
      · obtain rfl:=List.mem_singleton.1 he;cases hb;exact h.nb.2 rfl) h.how,h.nb⟩
theorem Env.tab {s y l m:Int} {pb n cap b6 b4 fh fj ga:Nat} {cq:Option Addr} {c A B:Nat→Int} {w w':World} {T:Nat→TbI} {H:List Ent} {r:TbI} (h:Env s y l m pb cq n cap b6 b4 fh fj ga c A B w T) (hr:TbOk s y l m w r) (hp:HP (Out [pE pb cq n cap b6 b4 fj ga,aE ga n T]) w w' H):TbOk s y l m w' r:=keepT hr (fun b o x hc=>out_int h.own hc) hp
def TabR (s y l m:Int) (pb:Nat) (cq:Option Addr) (n cap b6 b4 fj ga:Nat) (T:Nat→TbI) (X:List T2 × (Nat→List T2)) (w:World) (e:Ending) (w':World):Prop :=
  ∃ r' T',e=.returned (tbV r')∧HP (Out [pE pb cq n cap b6 b4 fj ga,aE ga n T]) w w' [pE pb cq n cap b6 b4 fj ga,aE ga n T']∧TbOk s y l m w' r'∧(∀ i,TbOk s y l m w' (T' i))∧(r'.t,tabs T')=X
def cdOf (c:Nat→Int) (n:Nat):Fl.Cd:=⟨c,(Ec.shD c n).e,(Ec.shD c n).d,(Ec.shD c n).o⟩
theorem Opens_at {x:Int} {r:Bool} (h:Ec.opn x=r) (w:World):Calls Tryz.prog 46 #[vI x] w fun e w'=>e=.returned (.bool r)∧w=w':=h ▸ Ec.Opens_any x w
theorem Match_at {p:Option Addr} {n cap:Nat} {c A B:Nat→Int} {i:Nat} {x z:Int} (h1:Ec.maA c A B n (i:Int)=x) (h2:Ec.maE c A B n (i:Int)=z) (w:World) (hIn:Ec.InC w p n c A B) (hn:n≤400) (hi:i<n) :
    Calls Tryz.prog 47 #[.slice p n cap,vI (i:Int)] w fun e w'=>e=.returned (.tuple #[vI x,vI z,vI (Ec.maF c A B n (i:Int))])∧Below w.heap.size w w':=by
  have:=Ec.Match2_any p n cap c A B (i:Int) w hIn hn (by omega) (by omega);unfold Ec.MaV at this;rw [h1,h2] at this;exact this
theorem TbOk.below {s y l m:Int} {w w':World} {r:TbI} (h:TbOk s y l m w r) (hb:Below w.heap.size w w'):TbOk s y l m w' r:=⟨h.inn.below hb,h.ok⟩
def brkP (O:Fl.Ops (List T2)) (C:Fl.Cd) (i E:Nat) (f:List T2→(Nat→List T2)→List T2 × (Nat→List T2)) (t:List T2) (ah:Nat→List T2):List T2 × (Nat→List T2) :=
  if C.c i=29 then (O.F E (O.J t (f t ah).1),Fl.up (f t ah).2 E (O.J t (f t ah).1))
  else if C.c i=30 then (O.J t (Fl.iter O (Fl.last O f E) (O.mu t) t ah).1,(Fl.iter O (Fl.last O f E) (O.mu t) t ah).2)
  else Fl.last O f E t ah
def brkA (O:Fl.Ops (List T2)) (C:Fl.Cd) (i a E:Nat) (f g:List T2→(Nat→List T2)→List T2 × (Nat→List T2)) (t:List T2) (ah:Nat→List T2):List T2 × (Nat→List T2) :=
  (O.J (Fl.last O f a t ah).1 (Fl.last O g E (if C.c i=29 then t else Fl.fold O (Fl.last O f a t ah).2 (i+1) (a-(i+1)) t) (Fl.last O f a t ah).2).1,
   (Fl.last O g E (if C.c i=29 then t else Fl.fold O (Fl.last O f a t ah).2 (i+1) (a-(i+1)) t) (Fl.last O f a t ah).2).2)
theorem sol_plain (O:Fl.Ops (List T2)) (C:Fl.Cd) (i E:Nat) (b r:Fl.Tr) (t:List T2) (ah:Nat→List T2) :
    Fl.sol O C (.plain i E b r) t ah=Fl.sol O C r (brkP O C i E (Fl.sol O C b) (O.F i t) (Fl.up ah i t)).1 (brkP O C i E (Fl.sol O C b) (O.F i t) (Fl.up ah i t)).2:=by
  rw [Fl.sol];unfold brkP;by_cases h1:C.c i=29
  · simp only [if_pos h1]
  · by_cases h2 : C.c i = 30
    · simp only [if_neg h1,if_pos h2]
    · simp only [if_neg h1,if_neg h2]
theorem sol_alt (O:Fl.Ops (List T2)) (C:Fl.Cd) (i a E:Nat) (b1 b2 r:Fl.Tr) (t:List T2) (ah:Nat→List T2) :
    Fl.sol O C (.alt i a E b1 b2 r) t ah=Fl.sol O C r (brkA O C i a E (Fl.sol O C b1) (Fl.sol O C b2) (O.F i t) (Fl.up ah i t)).1 (brkA O C i a E (Fl.sol O C b1) (Fl.sol O C b2) (O.F i t) (Fl.up ah i t)).2:=by
  rw [Fl.sol];rfl
def BrAll (P:Nat→Nat→Fl.Tr→Prop) (Q:Nat→Nat→Nat→Fl.Tr→Fl.Tr→Prop):Fl.Tr→Prop
  | .nil=>True
  | .one _ r=>BrAll P Q r
  | .plain i E b r=>P i E b∧BrAll P Q r
  | .alt i a E b1 b2 r=>Q i a E b1 b2∧BrAll P Q r
theorem ma_of {c A B:Nat→Int} {n i:Nat} (hc:Ec.chk c A B false n=0) (hi:i<n) (ho:Ec.opn (c i)=true):Ec.maA c A B n (i:Int)=(Ec.shD c n).e i∧Ec.maE c A B n (i:Int)=(Ec.shD c n).d i:=by
  have h1:Ec.idE c A B n (i:Int)=0:=Ec.idE_in hc ⟨by omega,by omega⟩;have h2:Ec.maF c A B n (i:Int)=0:=(by unfold Ec.maF;rw [h1,Int.toNat_natCast,ho];simp);unfold Ec.maA Ec.maE;rw [if_pos h2,if_pos h2,Int.toNat_natCast];exact⟨rfl,rfl⟩
theorem line_of {l:Int} {i:Nat} (hl:1≤l∧l≤8) (hi:i≤999):0≤(i:Int)/l∧(i:Int)/l≤999:=line_bd hl ⟨by omega,by omega⟩
theorem sz51:(Tryz.prog.info? 51).map (·.size)=some 3:=by kernel_rfl
end Ca
end Go.Proofs.YtmjnakhpekbenaaGreat
namespace Go.Proofs.YtmjnakhpekbenaaGreat
open Fw
namespace Ca
open Ec
section
variable {c : Nat → Int} {n : Nat} {s : Sh}
theorem shp_ex (B:Bal c n s) {k:Nat} (hk:k≤n):∃ sk,shp c k=some sk:=shp_back B.hs hk
theorem else_at (B:Bal c n s) {i:Nat} (hi:i<n) (h:c i=34) {si:Sh} (hsi:shp c i=some si):∃ r x,si.l=r++[x]∧s.e x=(i:Int)∧s.o i=(x:Int)∧(c x=29∨c x=33):=by
  obtain⟨s1,hs1⟩:=shp_ex B (k:=i+1) (by omega);obtain⟨si',e1,hst⟩:=shp_succ hs1;rw [hsi] at e1;cases e1;rcases stp_inv hst with ⟨h1,-⟩ | ⟨-,h1,-⟩ | ⟨-,r,x,hl,h2,h3,e⟩ | ⟨h1,-⟩
  · rw [opn_iff] at h1;omega
  · exact absurd h h1
  · refine ⟨r, x, hl, ?_, ?_, two_iff.1 h2⟩
    · have hx : x < i := (inv_of i si hsi).lt x (by rw [hl]; simp)
      have hex:s1.e x=(i:Int):=(by rw [e];exact upI_same _ _ _);rcases (frz_at hs1 B.hs (by omega)).e x (by omega) with q | ⟨q,-⟩
      · rw [q,hex]
      · rw [hex] at q;omega
    · rw [o_eq B hi hsi,hl,top_app]
  · omega
theorem end_at (B:Bal c n s) {i:Nat} (hi:i<n) (h:c i=35) {si:Sh} (hsi:shp c i=some si):∃ r x s1,si.l=r++[x]∧shp c (i+1)=some s1∧s1.l=r∧s.d x=(i:Int)∧s.o i=(x:Int)∧¬ (c x=33∧si.e x<0):=by
  obtain⟨s1,hs1⟩:=shp_ex B (k:=i+1) (by omega);obtain⟨si',e1,hst⟩:=shp_succ hs1;rw [hsi] at e1;cases e1;rcases stp_inv hst with ⟨h1,-⟩ | ⟨-,-,h1,-⟩ | ⟨h1,-⟩ | ⟨-,r,x,hl,h2,e⟩
  · rw [opn_iff] at h1;omega
  · exact absurd h h1
  · omega
  · have I := inv_of i si hsi
    have hx:x<i:=I.lt x (by rw [hl];simp);have hxr:x ∉ r:=fun q=>by
      have h3:=I.inc;rw [hl] at h3;have:=(List.pairwise_append.1 h3).2.2 x q x (by simp);omega
    have hdx:s1.d x=(i:Int):=(by rw [e];exact upI_same _ _ _);refine⟨r,x,s1,hl,hs1,by rw [e],?_,by rw [o_eq B hi hsi,hl,top_app],fun q=>h2 ⟨q.1,by rw [upI_ne (by omega)];exact q.2⟩⟩;have:=((frz_at hs1 B.hs (by omega)).out x (by omega) (by rw [e];exact hxr)).2.2;rw [this,hdx]
theorem end_of (B:Bal c n s) {k:Nat} (hk:k<n) (ho:opn (c k)=true) {sk:Sh} (hsk:shp c k=some sk) :
    ∃ (E:Nat) (sE s1:Sh),s.d k=(E:Int)∧k<E∧E<n∧c E=35∧shp c E=some sE∧sE.l=sk.l++[k]∧shp c (E+1)=some s1∧s1.l=sk.l∧s.o E=(k:Int)∧¬ (c k=33∧sE.e k<0):=by
  obtain⟨h1,h2,h3⟩:=d_range B hk ho;obtain⟨E,hE⟩:∃ E:Nat,s.d k=(E:Int):=⟨(s.d k).toNat,by omega⟩;rw [hE,Int.toNat_natCast] at h3;obtain⟨sE,hsE⟩:=shp_ex B (k:=E) (by omega);obtain⟨r,x,s1,hl,hs1,hl1,hdx,hox,hno⟩:=end_at B (by omega) h3 hsE;have hkE:k∈sE.l:=(mem_stack B (by omega) hsE k).2 ⟨by omega,ho,by omega⟩;have hkx:k=x:=by
    rw [hl] at hkE;rcases List.mem_append.1 hkE with q | q
    · have q2 := (mem_stack B (k := E + 1) (by omega) hs1 k).1 (by rw [hl1]; exact q)
      omega
    · simpa using q
  subst hkx;obtain⟨i,hi⟩:∃ i,E=k+1+i:=⟨E-(k+1),by omega⟩;obtain⟨r2,hr2⟩:=pre_stack hsk ho i sE (by rw [← hi];exact hsE) hkE;have hr:r2=[]:=by
    cases hq:r2.getLast? with
    | none=>simpa using hq
    | some z =>
      have e1:=last_split hq;rw [hl,e1] at hr2;have e2:z=k:=by
        have q:=congrArg List.getLast? hr2;rw [← List.append_assoc,last_app,last_app] at q;exact(Option.some.inj q).symm
      have I:=(inv_of E sE hsE).inc;rw [hl,hr2,← List.append_assoc] at I;have:=(List.pairwise_append.1 I).2.2 k (by simp) z (by simp);omega
  rw [hr,List.append_nil] at hr2;have hrr:r=sk.l:=by
    rw [hl] at hr2;exact List.append_cancel_right hr2
  exact⟨E,sE,s1,hE,by omega,by omega,h3,hsE,by rw [hl,hrr],hs1,by rw [hl1,hrr],hox,hno⟩
theorem else_of (B:Bal c n s) {k a:Nat} (hk:k<n) (ho:opn (c k)=true) {sk:Sh} (hsk:shp c k=some sk) (ha:s.e k=(a:Int)) :
    k<a∧a<n∧c a=34∧∃ sa s1,shp c a=some sa∧sa.l=sk.l++[k]∧shp c (a+1)=some s1∧s1.l=sk.l++[k]∧s.o a=(k:Int)∧(c k=29∨c k=33):=by
  rcases (inv_of n s B.hs).e k hk with q | ⟨q1,q2,q3⟩
  · omega
  · rw [ha] at q1 q2 q3
    rw [Int.toNat_natCast] at q3;obtain⟨sa,hsa⟩:=shp_ex B (k:=a) (by omega);obtain⟨r,x,hl,hex,hox,h2⟩:=else_at B (by omega) q3 hsa;obtain⟨s1,hs1⟩:=shp_ex B (k:=a+1) (by omega);obtain⟨sa',e1,hst⟩:=shp_succ hs1;rw [hsa] at e1;cases e1;have hx:x<a:=(inv_of a sa hsa).lt x (by rw [hl];simp);have hkx:k=x:=by
      apply Classical.byContradiction;intro hne;rcases stp_inv hst with ⟨h1,-⟩ | ⟨-,h1,-⟩ | ⟨-,r',x',hl',-,-,e⟩ | ⟨h1,-⟩
      · rw [opn_iff] at h1;omega
      · exact h1 q3
      · have hxx:x'=x:=by
          rw [hl] at hl';have q:=congrArg List.getLast? hl';rw [last_app,last_app] at q;exact(Option.some.inj q).symm
        subst hxx;have hek:s1.e k=sa.e k:=by
          rw [e];show Ec.upI (Ec.upI sa.e a (-1)) x' (a:Int) k=_;rw [Ec.upI_ne hne,Ec.upI_ne (by omega)]
        have hlt:sa.e k<a:=by
          rcases (inv_of a sa hsa).e k (by omega) with q | ⟨-,q,-⟩ <;> omega
        rcases (frz_at hs1 B.hs (by omega)).e k (by omega) with q | ⟨-,q⟩ <;> omega
      · omega
    subst hkx;have hl1:s1.l=sa.l:=by
      rcases stp_inv hst with ⟨h1,-⟩ | ⟨-,h1,-⟩ | ⟨-,r',x',hl',-,-,e⟩ | ⟨h1,-⟩
      · rw [opn_iff] at h1;omega
      · exact absurd q3 h1
      · rw [e]
      · omega
    have hka:k∈sa.l:=(by rw [hl];simp);obtain⟨i,hi⟩:∃ i,a=k+1+i:=⟨a-(k+1),by omega⟩;obtain⟨r2,hr2⟩:=pre_stack hsk ho i sa (by rw [← hi];exact hsa) hka;have hr:r2=[]:=by
      cases hq:r2.getLast? with
      | none=>simpa using hq
      | some z =>
        have e1:=last_split hq;rw [hl,e1] at hr2;have e2:z=k:=by
          have q:=congrArg List.getLast? hr2;rw [← List.append_assoc,last_app,last_app] at q;exact(Option.some.inj q).symm
        have I:=(inv_of a sa hsa).inc;rw [hl,hr2,← List.append_assoc] at I;have:=(List.pairwise_append.1 I).2.2 k (by simp) z (by simp);omega
    rw [hr,List.append_nil] at hr2;exact⟨by omega,by omega,q3,sa,s1,hsa,hr2,hs1,by rw [hl1,hr2],hox,h2⟩
structure Seg (c:Nat→Int) (k j:Nat) (b:List Nat):Prop where
  st:∃ sk,shp c k=some sk∧sk.l=b
  fn:∃ sj,shp c j=some sj∧sj.l=b
  md:∀ i si,k≤i→i<j→shp c i=some si→(c i=34→si.l≠b)∧(c i=35→si.l≠b)
theorem tree_of (B:Bal c n s):∀ (m k j:Nat) (b:List Nat),j-k≤m→k≤j→j≤n→Seg c k j b→∃ R,Fl.Is ⟨c,s.e,s.d,s.o⟩ R k j:=by
  intro m;induction m with
  | zero=>intro k j b h1 h2 h3 _;exact⟨.nil,by show k=j;omega⟩
  | succ m ih =>
    intro k j b h1 h2 h3 G;by_cases hkj:k=j
    · exact⟨.nil,hkj⟩
    obtain⟨sk,hsk,hb⟩:=G.st;obtain⟨sj,hsj,hbj⟩:=G.fn;have hkn:k<n:=(by omega);obtain⟨s1,hs1⟩:=shp_ex B (k:=k+1) (by omega);obtain⟨sk',e1,hst⟩:=shp_succ hs1;rw [hsk] at e1;cases e1;by_cases ho:opn (c k)=true
    ·
      obtain⟨E,sE,sE1,hdE,hkE,hEn,hcE,hsE,hlE,hsE1,hlE1,hoE,htry⟩:=end_of B hkn ho hsk;have hknb:k ∉ sj.l:=fun q=>by
        rw [hbj,← hb] at q;have:=(inv_of k sk hsk).lt k q;omega
      have hEj:E<j:=by
        apply Classical.byContradiction;intro q;exact hknb ((mem_stack B h3 hsj k).2 ⟨by omega,ho,by omega⟩)
      have mid:∀ i si,k+1≤i→i<E→shp c i=some si→(c i=34→si.l=sk.l++[k]→s.e k=(i:Int))∧(c i=35→si.l≠sk.l++[k]):=fun i si g1 g2 g3=>by
        constructor
        · intro g4 g5
          obtain⟨r,x,q1,q2,-⟩:=else_at B (by omega) g4 g3;have:x=k:=by
            rw [g5] at q1;have q:=congrArg List.getLast? q1;rw [last_app,last_app] at q;exact(Option.some.inj q).symm
          rw [← this];exact q2
        · intro g4 g5
          obtain⟨r,x,s9,q1,-,-,q2,-⟩:=end_at B (by omega) g4 g3;have:x=k:=by
            rw [g5] at q1;have q:=congrArg List.getLast? q1;rw [last_app,last_app] at q;exact(Option.some.inj q).symm
          rw [this] at q2;omega
      obtain⟨R2,hR2⟩:=ih (E+1) j b (by omega) (by omega) h3 ⟨⟨sE1,hsE1,by rw [hlE1,hb]⟩,⟨sj,hsj,hbj⟩,fun i si g1 g2 g3=>G.md i si (by omega) g2 g3⟩;have hos1:s1.l=sk.l++[k]:=by
        have:=shp_open hsk ho;rw [hs1] at this;cases this;rfl
      have hop:=opn_iff.1 ho;rcases (inv_of n s B.hs).e k hkn with he | ⟨he1,he2,he3⟩
      ·
        obtain⟨Rb,hRb⟩:=ih (k+1) E (sk.l++[k]) (by omega) (by omega) (by omega) ⟨⟨s1,hs1,hos1⟩,⟨sE,hsE,hlE⟩,fun i si g1 g2 g3=>⟨fun g4 g5=>by
          have:=(mid i si g1 g2 g3).1 g4 g5;omega,(mid i si g1 g2 g3).2⟩⟩
        have h33:c k≠33:=fun q=>htry ⟨q,by
          rcases (frz_at hsE B.hs (by omega)).e k (by omega) with q2 | ⟨q2,-⟩
          · rw [← q2,he];decide
          · exact q2⟩
        exact⟨.plain k E Rb R2,rfl,⟨hop.1,by show c k≤32;have:=hop.2;omega⟩,he,hdE,hoE,hcE,hRb,hR2⟩
      · obtain ⟨a, ha⟩ : ∃ a : Nat, s.e k = (a : Int) := ⟨(s.e k).toNat, by omega⟩
        obtain⟨q1,q2,q3,sa,sa1,q4,q5,q6,q7,q8,q9⟩:=else_of B hkn ho hsk ha;have hkst:k∈sa.l:=(by rw [q5];simp);have haE:a<E:=by
          have:=(mem_stack B (by omega) q4 k).1 hkst;have h5:a≠E:=fun e=>by rw [e] at q3;omega
          omega
        obtain⟨Ra,hRa⟩:=ih (k+1) a (sk.l++[k]) (by omega) (by omega) (by omega) ⟨⟨s1,hs1,hos1⟩,⟨sa,q4,q5⟩,fun i si g1 g2 g3=>⟨fun g4 g5=>by
          have:=(mid i si g1 (by omega) g3).1 g4 g5;omega,(mid i si g1 (by omega) g3).2⟩⟩
        obtain⟨Rb,hRb⟩:=ih (a+1) E (sk.l++[k]) (by omega) (by omega) (by omega) ⟨⟨sa1,q6,q7⟩,⟨sE,hsE,hlE⟩,fun i si g1 g2 g3=>⟨fun g4 g5=>by
          have:=(mid i si (by omega) g2 g3).1 g4 g5;omega,(mid i si (by omega) g2 g3).2⟩⟩
        exact⟨.alt k a E Ra Rb R2,rfl,q9,ha,hdE,q8,hoE,q3,hcE,hRa,hRb,hR2⟩
    · have ho' : opn (c k) = false := by simpa using ho
      have m9:=G.md k sk (Nat.le_refl _) (by omega) hsk;rcases stp_inv hst with ⟨h5,-⟩ | ⟨-,h4,h5,e⟩ | ⟨h5,r,x,hl,-⟩ | ⟨h5,r,x,hl,-⟩
      · exact absurd h5 ho
      · obtain ⟨R, hR⟩ := ih (k + 1) j b (by omega) (by omega) h3 ⟨⟨s1, hs1, by rw [e]; exact hb⟩, ⟨sj, hsj, hbj⟩, fun i si g1 g2 g3 => G.md i si (by omega) g2 g3⟩
        have h9:=opn_no.1 ho';exact⟨.one k R,rfl,fun q=>by have q1:=q.1;have q2:=q.2;simp only [] at q1 q2;omega,hR⟩
      · exact absurd hb (m9.1 h5)
      · exact absurd hb (m9.2 h5)
theorem is_tree {A B:Nat→Int} (h:chk c A B false n=0):∃ R,Fl.Is (cdOf c n) R 0 n:=by
  have Bb:=chk_bal h;refine tree_of Bb n 0 n [] (by omega) (Nat.zero_le _) (Nat.le_refl _) ⟨⟨_,rfl,rfl⟩,⟨_,Bb.hs,Bb.hl⟩,fun i si g1 g2 g3=>⟨fun g4 g5=>?_,fun g4 g5=>?_⟩⟩
  · obtain ⟨r, x, hl, -⟩ := else_at Bb g2 g4 g3
    rw [g5] at hl;simp at hl
  · obtain ⟨r, x, s9, hl, -⟩ := end_at Bb g2 g4 g3
    rw [g5] at hl;simp at hl
end
end Ca
end Go.Proofs.YtmjnakhpekbenaaGreat
namespace Go.Proofs.YtmjnakhpekbenaaGreat
open Fw
namespace Ca
section
variable (C : Fl.Cd) (A p : Nat → Int)
def mxI (x y:Int):Int:=if y > x then y else x
def cst:Fl.Tr→Int
  | .nil=>0
  | .one i r=>p i+cst r
  | .plain i E b r=>p i+(if C.c i=30 then A i*(cst b+p E) else cst b+p E)+cst r
  | .alt i a E b1 b2 r=>p i+(if C.c i=29 then mxI (cst b1+p a) (cst b2+p E) else cst b1+mxI (p a) (cst b2+p E))+cst r
end
section
variable {C : Fl.Cd} {A p : Nat → Int} {n : Nat} (hp : ∀ i, 0 ≤ p i ∧ p i ≤ 100) (hA : ∀ i, i < n → C.c i = 30 → 0 ≤ A i ∧ A i ≤ 50)
include hp hA
end
section
open Ec
variable {c : Nat → Int} {n : Nat} {s : Sh}
end
end Ca
end Go.Proofs.YtmjnakhpekbenaaGreat
namespace Go.Proofs.YtmjnakhpekbenaaGreat
open Fw
namespace Ca
section
variable (C : Fl.Cd) (A p : Nat → Int)
def rem:Fl.Tr→Nat→(Nat→Int)→Int
  | .nil,v,r=>0
  | .one i R,v,r=>if v=i then p i+cst C A p R else rem R v r
  | .plain i E b R,v,r=>if v=i then cst C A p (.plain i E b R) else if v≤E then rem b v r+p E+(if C.c i=30 then (r i-1)*(cst C A p b+p E) else 0)+cst C A p R else rem R v r
  | .alt i a E b1 b2 R,v,r=>if v=i then cst C A p (.alt i a E b1 b2 R) else if v≤a then rem b1 v r+(if C.c i=29 then p a else mxI (p a) (cst C A p b2+p E))+cst C A p R else if v≤E then rem b2 v r+p E+cst C A p R else rem R v r
end
section
variable {C : Fl.Cd} {A p : Nat → Int}
variable {n : Nat} (hp : ∀ i, 0 ≤ p i ∧ p i ≤ 100) (hA : ∀ i, i < n → C.c i = 30 → 0 ≤ A i ∧ A i ≤ 50)
end
end Ca
end Go.Proofs.YtmjnakhpekbenaaGreat
namespace Go.Proofs.YtmjnakhpekbenaaGreat
open Go.RowKit Fw
namespace Ca
theorem rMatch_at {p:Option Addr} {n cap:Nat} {c A B:Nat→Int} {i:Nat} {x z:Int} (h1:Ec.maA c A B n (i:Int)=x) (h2:Ec.maE c A B n (i:Int)=z) (w:World) (hIn:Ec.InC w p n c A B) (hn:n≤400) (hi:i<n) :
    Calls Tryz.prog 29 #[.slice p n cap,vI (i:Int)] w fun e w'=>e=.returned (.tuple #[vI x,vI z,vI (Ec.maF c A B n (i:Int))])∧Below w.heap.size w w':=by
  have:=Ec.rMatch2_any p n cap c A B (i:Int) w hIn hn (by omega) (by omega);unfold Ec.MaV at this;rw [h1,h2] at this;exact this
end Ca
end Go.Proofs.YtmjnakhpekbenaaGreat
namespace Go.Proofs.YtmjnakhpekbenaaGreat
set_option maxRecDepth 20000
set_option maxHeartbeats 4000000
open Go.RowKit Fw
namespace Ca
def toT (p:Nat × Nat):T2:=((p.1:Int),(p.2:Int))
def wLs (c:Nat→Int) (n i:Nat):List T2:=((List.range i).flatMap (Fl.ways (cdOf c n))).map toT
theorem wLs_succ (c:Nat→Int) (n i:Nat):wLs c n (i+1)=wLs c n i++(Fl.ways (cdOf c n) i).map toT:=by unfold wLs;rw [List.range_succ,List.flatMap_append,List.map_append];simp
theorem tL_push2 (t:List T2) (a b c d:Int):tL t++[vI a,vI b,vI c,vI d]=tL (t++[(a,b),(c,d)]):=by simp [tL]
theorem len2 (A:List T2) (x z:T2):(A++[x,z]).length=A.length+2:=by simp
section
open Ec
variable {c A B : Nat → Int} {n : Nat}
theorem op_of {i x:Nat} (hc:chk c A B false n=0) (hi:i<n) (ho:(shD c n).o i=(x:Int)):opO c A B n (i:Int)=(x:Int):=by
  have h1:idE c A B n (i:Int)=0:=idE_in hc ⟨by omega,by omega⟩;have h2:opF c A B n (i:Int)=0:=(by unfold opF;rw [h1,Int.toNat_natCast,ho];simp);unfold opO;rw [if_pos h2,Int.toNat_natCast,ho]
theorem at34 {i:Nat} (hc:chk c A B false n=0) (hi:i<n) (h:c i=34):∃ x E:Nat,x<n∧opO c A B n (i:Int)=(x:Int)∧maA c A B n (x:Int)=(i:Int)∧maE c A B n (x:Int)=(E:Int)∧E<n∧Fl.ways (cdOf c n) i=[(i,E+1)]:=by
  have Bb:=chk_bal hc;obtain⟨si,hsi⟩:=shp_ex Bb (k:=i) (by omega);obtain⟨r,x,hl,he,ho,hx⟩:=else_at Bb hi h hsi;have hxi:x<i:=(inv_of i si hsi).lt x (by rw [hl];simp);have hop:opn (c x)=true:=opn_iff.2 (by omega);obtain⟨h1,h2,h3⟩:=d_range Bb (show x<n by omega) hop;obtain⟨m1,m2⟩:=ma_of hc (show x<n by omega) hop;obtain⟨E,hE⟩:∃ E:Nat,(shD c n).d x=(E:Int):=⟨((shD c n).d x).toNat,by omega⟩;exact⟨x,E,by omega,op_of hc hi ho,m1.trans he,m2.trans hE,by omega,Fl.ways_else (C:=cdOf c n) (k:=x) h ho hE⟩
theorem at35 {i:Nat} (hc:chk c A B false n=0) (hi:i<n) (h:c i=35):∃ x:Nat,x<n∧opO c A B n (i:Int)=(x:Int)∧Fl.ways (cdOf c n) i=(if c x=30 then [(i,x+1)] else [])++[(i,i+1)]:=by
  have Bb:=chk_bal hc;obtain⟨si,hsi⟩:=shp_ex Bb (k:=i) (by omega);obtain⟨r,x,s1,hl,-,-,hd,ho,-⟩:=end_at Bb hi h hsi;have hxi:x<i:=(inv_of i si hsi).lt x (by rw [hl];simp);exact⟨x,by omega,op_of hc hi ho,Fl.ways_end (C:=cdOf c n) h ho⟩
theorem at_op {i:Nat} (hc:chk c A B false n=0) (hi:i<n) (h:opn (c i)=true):∃ E:Nat,i<E∧E<n∧maE c A B n (i:Int)=(E:Int)∧(shD c n).d i=(E:Int) ∧
    ((maA c A B n (i:Int)=-1∧(shD c n).e i=-1∧c i≠33)∨∃ a:Nat,i<a∧a<n∧maA c A B n (i:Int)=(a:Int)∧(shD c n).e i=(a:Int)∧(c i=29∨c i=33)):=by
  have Bb:=chk_bal hc;obtain⟨si,hsi⟩:=shp_ex Bb (k:=i) (by omega);obtain⟨E,sE,s1,hd,h1,h2,h3,hsE,-,-,-,-,htry⟩:=end_of Bb hi h hsi;obtain⟨m1,m2⟩:=ma_of hc hi h;refine⟨E,h1,h2,m2.trans hd,hd,?_⟩;rcases (inv_of n _ Bb.hs).e i hi with q | ⟨q1,q2,q3⟩
  · refine .inl ⟨m1.trans q, q, fun q9 => htry ⟨q9, ?_⟩⟩
    rcases (frz_at hsE Bb.hs (by omega)).e i (by omega) with q2 | ⟨q2,-⟩
    · rw [← q2,q];decide
    · exact q2
  · obtain ⟨a, ha⟩ : ∃ a : Nat, (shD c n).e i = (a : Int) := ⟨((shD c n).e i).toNat, by omega⟩
    obtain⟨g1,g2,-,-,-,-,-,-,-,-,g3⟩:=else_of Bb hi h hsi ha;exact .inr ⟨a,g1,g2,m1.trans ha,ha,g3⟩
theorem at_df {i:Nat} (h1:c i≠34) (h2:c i≠35) (h3:c i≠29) (h4:c i≠30) (h5:c i≠33):Fl.ways (cdOf c n) i=[(i,i+1)]:=by
  unfold Fl.ways;show (if c i=34 then _ else if c i=35 then _ else if c i=29 then _ else if c i=30 then _ else if c i=33 then _ else _)=_;rw [if_neg h1,if_neg h2,if_neg h3,if_neg h4,if_neg h5]
end
theorem rOpener_at {p:Option Addr} {n cap:Nat} {c A B:Nat→Int} {i:Nat} {x:Int} (h1:Ec.opO c A B n (i:Int)=x) (w:World) (hIn:Ec.InC w p n c A B) (hn:n≤400) (hi:i<n) :
    Calls Tryz.prog 50 #[.slice p n cap,vI (i:Int)] w fun e w'=>e=.returned (.tuple #[vI x,vI (Ec.opF c A B n (i:Int))])∧Below w.heap.size w w':=h1 ▸ Ec.rOpener_any p n cap c A B (i:Int) w hIn hn (by omega) (by omega)
theorem rWays_any (p:Option Addr) (n cap:Nat) (c A0 B:Nat→Int) (w:World) (hIn:Ec.InC w p n c A0 B) (hc:Ec.chk c A0 B false n=0) :
  Calls Tryz.prog 68 #[.slice p n cap] w fun e w'=>∃ pv cp',e=.returned (.slice pv (wLs c n n).length cp')∧HP Tr w w' [rowT pv (wLs c n n).length cp' (wLs c n n)]∧(wLs c n n).length≤n*125:=by
 have hn9:=(Ec.chk_ok hc).1;refine calls_of Tryz.func68 rfl (m:=180) rfl [(0,.slice p n cap)] (Fr_enter [.slice p n cap] 180 (Nat.le_of_ble_eq_true rfl)) ?_;have hH1:HP Tr w w []:=HP.refl w;refine WC.seq fun K2 hK2=>WC.region (WL.z (.slice none 0 0) 2 (WL.k hK2 (WC.seq fun K3 hK3=>WC.region (WL.z (.slice none 0 0) 3 (WL.k hK3 ?_)))));refine WC.seq fun K4 hK4=>WC.seq fun K5 hK5=>WC.region (WL.z (vI 0) 4 (WL.k hK5 (WC.block ?_)));refine WC.loop (fun kk0 ll0 ww0=>∃ (i:Nat) (A1:List T2) (pv:Option Addr) (cp3:Nat),ll0=[(0,.slice p n cap),(3,.slice pv A1.length cp3),(4,vI (i:Int))]∧kk0=n-i∧(i≤n)∧(A1=wLs c n i)∧(A1.length≤i*125)∧HP Tr w ww0 [rowT pv A1.length cp3 A1]) (n) [(0,.slice p n cap),(3,.slice none 0 0),(4,vI 0)] ⟨rfl,rfl,rfl,trivial⟩ ⟨0,[],none,0,rfl,rfl,Nat.zero_le _,rfl,Nat.zero_le _,HP.ownNil hH1 67 2⟩ ?_;rintro kk l w7 ⟨i,A1,pv,cp3,rfl,hkk,hi,hA,hAl,hH8⟩ K6 hK6;refine WC.seq fun K9 hK9=>WC.seq fun K10 hK10=>WC.region (WL.z (vI (i:Int)) 22 (WL.z (.slice p n cap) 23 (WL.z (vI (n:Int)) 24 ?_)));by_cases hlt:(i:Int)<(n:Int)
 ·
  refine WL.y (.bool true) 25 (x_lss rfl rfl rfl (dT (hlt))) (WL.k hK10 ?_);refine WC.yes rfl ?_;refine WC.skip (WQ.then (hK9 _ _ _ (WC.seq fun K11 hK11=>WC.block (WC.seq fun K12 hK12=>?_))));obtain⟨bb,oo,rfl,hrow⟩:=hIn (by omega);refine WC.region (WL.z (.slice (some ⟨bb,oo,none⟩) n cap) 28 (WL.z (vI (i:Int)) 29 (WL.y (vP bb (oo+i*3)) 30 (x_ix (i) (oo+i*3) Tryz.underlying24 sz51) (WL.z (vP bb (oo+i*3)) 31 (WL.y (vI (c i)) 32 (x_load rfl rfl Tryz.underlying3 rfl ((HP.oldRange hH8 trivial (hrow i (by omega))) 0 _ rfl)) (WL.k hK12 (WC.sb [(0,.slice (some ⟨bb,oo,none⟩) n cap),(3,.slice pv A1.length cp3),(4,vI (i:Int)),(25,.bool true),(32,vI (c i))] (WC.block (WC.seq fun K13 hK13=>?_)))))))));refine WC.region ?_;by_cases h34:c i=34
  ·
   obtain⟨x,E,hx,hox,hmx,hme,hEn,hw⟩:=at34 hc (show i<n by omega) h34;refine WL.y (.bool true) 41 (x_eql rfl rfl rfl (dT (h34))) (WL.z (.bool true) 40 (WL.k hK13 ?_));refine WC.yes rfl ?_;refine WC.seq fun K14 hK14=>WC.region (WL.z (.slice (some ⟨bb,oo,none⟩) n cap) 43 (WL.z (vI (i:Int)) 44 ?_));refine WL.c 50 #[.slice (some ⟨bb,oo,none⟩) n cap,vI (i:Int)] 45 ?_;refine(rOpener_at hox _ (hIn.below (HP.below hH8)) (by omega) (by omega)).mono ?_;rintro e w15 ⟨rfl,hb16⟩;refine⟨_,rfl,?_⟩;have hH17:=HP.call hH8 hb16;refine WL.z (.tuple #[vI (x:Int),vI (Ec.opF c A0 B n (i:Int))]) 42 (WL.z (vI (x:Int)) 46 (WL.z (vI (Ec.opF c A0 B n (i:Int))) 47 (WL.z (vI (x:Int)) 5 (WL.z (vI (Ec.opF c A0 B n (i:Int))) 6 (WL.k hK14 (WC.sb [(0,.slice (some ⟨bb,oo,none⟩) n cap),(3,.slice pv A1.length cp3),(4,vI (i:Int)),(5,vI (x:Int)),(25,.bool true),(32,vI (c i)),(40,.bool true)] (WC.seq fun K18 hK18=>WC.region (WL.z (.slice (some ⟨bb,oo,none⟩) n cap) 49 ?_))))))));refine WL.z (vI (x:Int)) 50 ?_;refine WL.c 29 #[.slice (some ⟨bb,oo,none⟩) n cap,vI (x:Int)] 51 ?_;refine(rMatch_at hmx hme _ (hIn.below (HP.below hH17)) (by omega) (by omega)).mono ?_;rintro e w19 ⟨rfl,hb20⟩;refine⟨_,rfl,?_⟩;have hH21:=HP.call hH17 hb20;refine WL.z (.tuple #[vI (i:Int),vI (E:Int),vI (Ec.maF c A0 B n (x:Int))]) 48 (WL.z (vI (i:Int)) 52 (WL.z (vI (E:Int)) 53 (WL.z (vI (Ec.maF c A0 B n (x:Int))) 54 (WL.z (vI (i:Int)) 7 (WL.z (vI (E:Int)) 8 (WL.z (vI (Ec.maF c A0 B n (x:Int))) 9 (WL.k hK18 (WC.sb [(0,.slice (some ⟨bb,oo,none⟩) n cap),(3,.slice pv A1.length cp3),(4,vI (i:Int)),(5,vI (x:Int)),(8,vI (E:Int)),(25,.bool true),(32,vI (c i)),(40,.bool true)] (WC.region ?_)))))))));refine WL.z (.slice pv A1.length cp3) 55 (WL.z (vI (i:Int)) 56 (WL.z (vI (E:Int)) 57 (WL.y (vI ((E+1:Nat):Int)) 58 (x_ad (((E+1:Nat):Int))) (WL.z (.agg #[vI (i:Int),vI ((E+1:Nat):Int)]) 59 ?_))))
   refine WL.alloc (c:=#[vI (i:Int),vI ((E+1:Nat):Int)]) (T:=67) hH21 60 rfl (by decide) rfl rfl (fun b22=>vS b22 1 1) (by kernel_rfl) (fun b22 w23 hw23=>?_);have hH24:HP Tr w w23 [rowT pv A1.length cp3 A1,.cel b22 #[vI (i:Int),vI ((E+1:Nat):Int)] 67]:=hw23.2;have nb22:=hw23.1;clear hw23;obtain⟨i0,hi0,hz0,hz1,hz2⟩:=infoT;refine WL.append (news:=[vI (i:Int),vI ((E+1:Nat):Int)]) 0 1 hH24 61 rfl (by decide) rfl rfl rfl rfl Tryz.underlying63 hi0 hz0 hz1 hz2 rfl (by decide) rfl rfl rfl rfl (by simp [Value.oneCell']) (by unfold maxLen;omega) (by omega) ?_;rintro v725 w725-hA725;obtain⟨pv725,cp725,rfl⟩:=own_row (HP.get hA725 0 rfl);have e725:A1.length+1=(A1++[((i:Int),((E+1:Nat):Int))]).length:=(len1 _ _).symm;rw [tL_push,e725] at hA725;rw [e725];have hH26:HP Tr w _ [rowT pv725 (A1++[((i:Int),((E+1:Nat):Int))]).length cp725 (A1++[((i:Int),((E+1:Nat):Int))]),.cel b22 #[vI (i:Int),vI ((E+1:Nat):Int)] 67]:=hA725;have hl725:(A1++[((i:Int),((E+1:Nat):Int))]).length=A1.length+1:=e725.symm;refine WL.z (.slice pv725 ((A1++[((i:Int),((E+1:Nat):Int))]).length) cp725) 3 (WL.nil (WQ.inNormal (WQ.inNormal (WQ.then (hK11 _ _ _ (WC.sb [(0,.slice (some ⟨bb,oo,none⟩) n cap),(3,.slice pv725 ((A1++[((i:Int),((E+1:Nat):Int))]).length) cp725),(4,vI (i:Int)),(5,vI (x:Int)),(8,vI (E:Int)),(25,.bool true),(32,vI (c i)),(40,.bool true)] (WC.region (WL.z (vI (i:Int)) 26 (WL.y (vI ((i+1:Nat):Int)) 27 (x_ad (((i+1:Nat):Int))) (WL.z (vI ((i+1:Nat):Int)) 4 (WL.nil ?_)))))))))));refine WQ.sb [(0,.slice (some ⟨bb,oo,none⟩) n cap),(3,.slice pv725 ((A1++[((i:Int),((E+1:Nat):Int))]).length) cp725),(4,vI ((i+1:Nat):Int))] ?_;refine WQ.then (hK6 _ _ _ (by omega) ⟨i+1,(A1++[((i:Int),((E+1:Nat):Int))]),pv725,cp725,rfl,rfl,by omega,by rw [wLs_succ,← hA,hw];simp [toT],by omega,(HP.drop hH26 1)⟩)
  ·
   refine WL.y (.bool false) 41 (x_eql rfl rfl rfl (dF (h34))) (WL.z (.bool false) 40 (WL.k hK13 ?_));refine WC.no rfl ?_;refine WC.seq fun K27 hK27=>WC.region ?_;by_cases h35:c i=35
   ·
    obtain⟨x,hx,hox,hw⟩:=at35 hc (show i<n by omega) h35;refine WL.y (.bool true) 63 (x_eql rfl rfl rfl (dT (h35))) (WL.z (.bool true) 62 (WL.k hK27 ?_));refine WC.yes rfl ?_;refine WC.seq fun K28 hK28=>WC.region (WL.z (.slice (some ⟨bb,oo,none⟩) n cap) 65 (WL.z (vI (i:Int)) 66 ?_));refine WL.c 50 #[.slice (some ⟨bb,oo,none⟩) n cap,vI (i:Int)] 67 ?_;refine(rOpener_at hox _ (hIn.below (HP.below hH8)) (by omega) (by omega)).mono ?_;rintro e w29 ⟨rfl,hb30⟩;refine⟨_,rfl,?_⟩;have hH31:=HP.call hH8 hb30;refine WL.z (.tuple #[vI (x:Int),vI (Ec.opF c A0 B n (i:Int))]) 64 (WL.z (vI (x:Int)) 68 (WL.z (vI (Ec.opF c A0 B n (i:Int))) 69 (WL.z (vI (x:Int)) 10 (WL.z (vI (Ec.opF c A0 B n (i:Int))) 11 (WL.k hK28 (WC.sb [(0,.slice (some ⟨bb,oo,none⟩) n cap),(3,.slice pv A1.length cp3),(4,vI (i:Int)),(10,vI (x:Int)),(25,.bool true),(32,vI (c i)),(40,.bool false),(62,.bool true)] (WC.seq fun K32 hK32=>WC.seq fun K33 hK33=>WC.region ?_)))))));refine WL.z (.slice (some ⟨bb,oo,none⟩) n cap) 70 (WL.z (vI (x:Int)) 71 (WL.y (vP bb (oo+x*3)) 72 (x_ix (x) (oo+x*3) Tryz.underlying24 sz51) (WL.z (vP bb (oo+x*3)) 73 (WL.y (vI (c x)) 74 (x_load rfl rfl Tryz.underlying3 rfl ((HP.oldRange hH31 trivial (hrow x (by omega))) 0 _ rfl)) ?_))));by_cases h30x:c x=30
    ·
     rw [if_pos h30x] at hw;refine WL.y (.bool true) 75 (x_eql rfl rfl rfl (dT (h30x))) (WL.k hK33 ?_);refine WC.yes rfl ?_;refine WC.region (WL.z (.slice pv A1.length cp3) 76 (WL.z (vI (i:Int)) 77 (WL.z (vI (x:Int)) 78 (WL.y (vI ((x+1:Nat):Int)) 79 (x_ad (((x+1:Nat):Int))) (WL.z (.agg #[vI (i:Int),vI ((x+1:Nat):Int)]) 80 ?_)))));refine WL.alloc (c:=#[vI (i:Int),vI ((x+1:Nat):Int)]) (T:=67) hH31 81 rfl (by decide) rfl rfl (fun b34=>vS b34 1 1) (by kernel_rfl) (fun b34 w35 hw35=>?_);have hH36:HP Tr w w35 [rowT pv A1.length cp3 A1,.cel b34 #[vI (i:Int),vI ((x+1:Nat):Int)] 67]:=hw35.2;have nb34:=hw35.1;clear hw35;obtain⟨i0,hi0,hz0,hz1,hz2⟩:=infoT;refine WL.append (news:=[vI (i:Int),vI ((x+1:Nat):Int)]) 0 1 hH36 82 rfl (by decide) rfl rfl rfl rfl Tryz.underlying63 hi0 hz0 hz1 hz2 rfl (by decide) rfl rfl rfl rfl (by simp [Value.oneCell']) (by unfold maxLen;omega) (by omega) ?_;rintro v737 w737-hA737;obtain⟨pv737,cp737,rfl⟩:=own_row (HP.get hA737 0 rfl);have e737:A1.length+1=(A1++[((i:Int),((x+1:Nat):Int))]).length:=(len1 _ _).symm;rw [tL_push,e737] at hA737;rw [e737];have hH38:HP Tr w _ [rowT pv737 (A1++[((i:Int),((x+1:Nat):Int))]).length cp737 (A1++[((i:Int),((x+1:Nat):Int))]),.cel b34 #[vI (i:Int),vI ((x+1:Nat):Int)] 67]:=hA737;have hl737:(A1++[((i:Int),((x+1:Nat):Int))]).length=A1.length+1:=e737.symm;refine WL.z (.slice pv737 ((A1++[((i:Int),((x+1:Nat):Int))]).length) cp737) 3 (WL.k hK32 (WC.sb [(0,.slice (some ⟨bb,oo,none⟩) n cap),(3,.slice pv737 ((A1++[((i:Int),((x+1:Nat):Int))]).length) cp737),(4,vI (i:Int)),(10,vI (x:Int)),(25,.bool true),(32,vI (c i)),(40,.bool false),(62,.bool true),(75,.bool true)] (WC.region (WL.z (.slice pv737 ((A1++[((i:Int),((x+1:Nat):Int))]).length) cp737) 83 (WL.z (vI (i:Int)) 84 (WL.z (vI (i:Int)) 85 (WL.y (vI ((i+1:Nat):Int)) 86 (x_ad (((i+1:Nat):Int))) (WL.z (.agg #[vI (i:Int),vI ((i+1:Nat):Int)]) 87 ?_))))))))
     refine WL.alloc (c:=#[vI (i:Int),vI ((i+1:Nat):Int)]) (T:=67) hH38 88 rfl (by decide) rfl rfl (fun b39=>vS b39 1 1) (by kernel_rfl) (fun b39 w40 hw40=>?_);have hH41:HP Tr w w40 [rowT pv737 (A1++[((i:Int),((x+1:Nat):Int))]).length cp737 (A1++[((i:Int),((x+1:Nat):Int))]),.cel b34 #[vI (i:Int),vI ((x+1:Nat):Int)] 67,.cel b39 #[vI (i:Int),vI ((i+1:Nat):Int)] 67]:=hw40.2;have nb39:=hw40.1;clear hw40;obtain⟨i0,hi0,hz0,hz1,hz2⟩:=infoT;refine WL.append (news:=[vI (i:Int),vI ((i+1:Nat):Int)]) 0 2 hH41 89 rfl (by decide) rfl rfl rfl rfl Tryz.underlying63 hi0 hz0 hz1 hz2 rfl (by decide) rfl rfl rfl rfl (by simp [Value.oneCell']) (by unfold maxLen;omega) (by omega) ?_;rintro v742 w742-hA742;obtain⟨pv742,cp742,rfl⟩:=own_row (HP.get hA742 0 rfl);have e742:(A1++[((i:Int),((x+1:Nat):Int))]).length+1=((A1++[((i:Int),((x+1:Nat):Int))])++[((i:Int),((i+1:Nat):Int))]).length:=(len1 _ _).symm;rw [tL_push,e742] at hA742;rw [e742];have hH43:HP Tr w _ [rowT pv742 ((A1++[((i:Int),((x+1:Nat):Int))])++[((i:Int),((i+1:Nat):Int))]).length cp742 ((A1++[((i:Int),((x+1:Nat):Int))])++[((i:Int),((i+1:Nat):Int))]),.cel b34 #[vI (i:Int),vI ((x+1:Nat):Int)] 67,.cel b39 #[vI (i:Int),vI ((i+1:Nat):Int)] 67]:=hA742;have hl742:((A1++[((i:Int),((x+1:Nat):Int))])++[((i:Int),((i+1:Nat):Int))]).length=(A1++[((i:Int),((x+1:Nat):Int))]).length+1:=e742.symm;refine WL.z (.slice pv742 (((A1++[((i:Int),((x+1:Nat):Int))])++[((i:Int),((i+1:Nat):Int))]).length) cp742) 3 (WL.nil (WQ.inNormal (WQ.inNormal (WQ.then (hK11 _ _ _ (WC.sb [(0,.slice (some ⟨bb,oo,none⟩) n cap),(3,.slice pv742 (((A1++[((i:Int),((x+1:Nat):Int))])++[((i:Int),((i+1:Nat):Int))]).length) cp742),(4,vI (i:Int)),(10,vI (x:Int)),(25,.bool true),(32,vI (c i)),(40,.bool false),(62,.bool true),(75,.bool true)] (WC.region (WL.z (vI (i:Int)) 26 (WL.y (vI ((i+1:Nat):Int)) 27 (x_ad (((i+1:Nat):Int))) (WL.z (vI ((i+1:Nat):Int)) 4 (WL.nil ?_)))))))))))
     refine WQ.sb [(0,.slice (some ⟨bb,oo,none⟩) n cap),(3,.slice pv742 (((A1++[((i:Int),((x+1:Nat):Int))])++[((i:Int),((i+1:Nat):Int))]).length) cp742),(4,vI ((i+1:Nat):Int))] ?_;refine WQ.then (hK6 _ _ _ (by omega) ⟨i+1,((A1++[((i:Int),((x+1:Nat):Int))])++[((i:Int),((i+1:Nat):Int))]),pv742,cp742,rfl,rfl,by omega,by rw [wLs_succ,← hA,hw];simp [toT],by omega,(HP.drop (HP.drop hH43 2) 1)⟩)
    ·
     rw [if_neg h30x] at hw;refine WL.y (.bool false) 75 (x_eql rfl rfl rfl (dF (h30x))) (WL.k hK33 ?_);refine WC.no rfl ?_;refine WC.skip (WQ.then (hK32 _ _ _ (WC.region (WL.z (.slice pv A1.length cp3) 83 (WL.z (vI (i:Int)) 84 (WL.z (vI (i:Int)) 85 (WL.y (vI ((i+1:Nat):Int)) 86 (x_ad (((i+1:Nat):Int))) (WL.z (.agg #[vI (i:Int),vI ((i+1:Nat):Int)]) 87 ?_))))))));refine WL.alloc (c:=#[vI (i:Int),vI ((i+1:Nat):Int)]) (T:=67) hH31 88 rfl (by decide) rfl rfl (fun b44=>vS b44 1 1) (by kernel_rfl) (fun b44 w45 hw45=>?_);have hH46:HP Tr w w45 [rowT pv A1.length cp3 A1,.cel b44 #[vI (i:Int),vI ((i+1:Nat):Int)] 67]:=hw45.2;have nb44:=hw45.1;clear hw45;obtain⟨i0,hi0,hz0,hz1,hz2⟩:=infoT;refine WL.append (news:=[vI (i:Int),vI ((i+1:Nat):Int)]) 0 1 hH46 89 rfl (by decide) rfl rfl rfl rfl Tryz.underlying63 hi0 hz0 hz1 hz2 rfl (by decide) rfl rfl rfl rfl (by simp [Value.oneCell']) (by unfold maxLen;omega) (by omega) ?_;rintro v747 w747-hA747;obtain⟨pv747,cp747,rfl⟩:=own_row (HP.get hA747 0 rfl);have e747:A1.length+1=(A1++[((i:Int),((i+1:Nat):Int))]).length:=(len1 _ _).symm;rw [tL_push,e747] at hA747;rw [e747];have hH48:HP Tr w _ [rowT pv747 (A1++[((i:Int),((i+1:Nat):Int))]).length cp747 (A1++[((i:Int),((i+1:Nat):Int))]),.cel b44 #[vI (i:Int),vI ((i+1:Nat):Int)] 67]:=hA747;have hl747:(A1++[((i:Int),((i+1:Nat):Int))]).length=A1.length+1:=e747.symm;refine WL.z (.slice pv747 ((A1++[((i:Int),((i+1:Nat):Int))]).length) cp747) 3 (WL.nil (WQ.inNormal (WQ.inNormal (WQ.then (hK11 _ _ _ (WC.sb [(0,.slice (some ⟨bb,oo,none⟩) n cap),(3,.slice pv747 ((A1++[((i:Int),((i+1:Nat):Int))]).length) cp747),(4,vI (i:Int)),(10,vI (x:Int)),(25,.bool true),(32,vI (c i)),(40,.bool false),(62,.bool true),(75,.bool false)] (WC.region (WL.z (vI (i:Int)) 26 (WL.y (vI ((i+1:Nat):Int)) 27 (x_ad (((i+1:Nat):Int))) (WL.z (vI ((i+1:Nat):Int)) 4 (WL.nil ?_)))))))))))
     refine WQ.sb [(0,.slice (some ⟨bb,oo,none⟩) n cap),(3,.slice pv747 ((A1++[((i:Int),((i+1:Nat):Int))]).length) cp747),(4,vI ((i+1:Nat):Int))] ?_;refine WQ.then (hK6 _ _ _ (by omega) ⟨i+1,(A1++[((i:Int),((i+1:Nat):Int))]),pv747,cp747,rfl,rfl,by omega,by rw [wLs_succ,← hA,hw];simp [toT],by omega,(HP.drop hH48 1)⟩)
   ·
    refine WL.y (.bool false) 63 (x_eql rfl rfl rfl (dF (h35))) (WL.z (.bool false) 62 (WL.k hK27 ?_));refine WC.no rfl ?_;refine WC.seq fun K49 hK49=>WC.region ?_;by_cases h29:c i=29
    ·
     obtain⟨E,hiE,hEn,hme,hdE,hcase⟩:=at_op hc (show i<n by omega) (Ec.opn_iff.2 (show 29≤c i∧c i≤33 by omega));refine WL.y (.bool true) 91 (x_eql rfl rfl rfl (dT (h29))) (WL.z (.bool true) 90 (WL.k hK49 ?_));refine WC.yes rfl ?_;refine WC.seq fun K50 hK50=>?_;rcases hcase with ⟨hm1,he,h9⟩ | ⟨a,hia,han,hm1,he,h9⟩
     ·
      have hw:Fl.ways (cdOf c n) i=(i,i+1)::(if E≠i+1 then [(i,E)] else []):=by
             rw [Fl.ways_plain (C:=cdOf c n) (k:=i) ⟨show 29≤c i by omega,show c i≤32 by omega⟩ he hdE,if_pos (show (cdOf c n).c i=29 from h29)]
      refine WC.region (WL.z (.slice (some ⟨bb,oo,none⟩) n cap) 93 (WL.z (vI (i:Int)) 94 ?_));refine WL.c 29 #[.slice (some ⟨bb,oo,none⟩) n cap,vI (i:Int)] 95 ?_;refine(rMatch_at hm1 hme _ (hIn.below (HP.below hH8)) (by omega) (by omega)).mono ?_;rintro e w51 ⟨rfl,hb52⟩;refine⟨_,rfl,?_⟩;have hH53:=HP.call hH8 hb52;refine WL.z (.tuple #[vI (-1),vI (E:Int),vI (Ec.maF c A0 B n (i:Int))]) 92 (WL.z (vI (-1)) 96 (WL.z (vI (E:Int)) 97 (WL.z (vI (Ec.maF c A0 B n (i:Int))) 98 (WL.z (vI (-1)) 12 (WL.z (vI (E:Int)) 13 (WL.z (vI (Ec.maF c A0 B n (i:Int))) 14 (WL.k hK50 (WC.sb [(0,.slice (some ⟨bb,oo,none⟩) n cap),(3,.slice pv A1.length cp3),(4,vI (i:Int)),(12,vI (-1)),(13,vI (E:Int)),(25,.bool true),(32,vI (c i)),(40,.bool false),(62,.bool false),(90,.bool true)] (WC.seq fun K54 hK54=>?_)))))))));refine WC.region (WL.z (.slice pv A1.length cp3) 99 (WL.z (vI (i:Int)) 100 (WL.z (vI (i:Int)) 101 (WL.y (vI ((i+1:Nat):Int)) 102 (x_ad (((i+1:Nat):Int))) (WL.z (.agg #[vI (i:Int),vI ((i+1:Nat):Int)]) 103 ?_)))));refine WL.alloc (c:=#[vI (i:Int),vI ((i+1:Nat):Int)]) (T:=67) hH53 104 rfl (by decide) rfl rfl (fun b55=>vS b55 1 1) (by kernel_rfl) (fun b55 w56 hw56=>?_);have hH57:HP Tr w w56 [rowT pv A1.length cp3 A1,.cel b55 #[vI (i:Int),vI ((i+1:Nat):Int)] 67]:=hw56.2;have nb55:=hw56.1;clear hw56;obtain⟨i0,hi0,hz0,hz1,hz2⟩:=infoT;refine WL.append (news:=[vI (i:Int),vI ((i+1:Nat):Int)]) 0 1 hH57 105 rfl (by decide) rfl rfl rfl rfl Tryz.underlying63 hi0 hz0 hz1 hz2 rfl (by decide) rfl rfl rfl rfl (by simp [Value.oneCell']) (by unfold maxLen;omega) (by omega) ?_;rintro v758 w758-hA758;obtain⟨pv758,cp758,rfl⟩:=own_row (HP.get hA758 0 rfl);have e758:A1.length+1=(A1++[((i:Int),((i+1:Nat):Int))]).length:=(len1 _ _).symm;rw [tL_push,e758] at hA758;rw [e758];have hH59:HP Tr w _ [rowT pv758 (A1++[((i:Int),((i+1:Nat):Int))]).length cp758 (A1++[((i:Int),((i+1:Nat):Int))]),.cel b55 #[vI (i:Int),vI ((i+1:Nat):Int)] 67]:=hA758
      have hl758:(A1++[((i:Int),((i+1:Nat):Int))]).length=A1.length+1:=e758.symm;refine WL.z (.slice pv758 ((A1++[((i:Int),((i+1:Nat):Int))]).length) cp758) 3 (WL.k hK54 (WC.sb [(0,.slice (some ⟨bb,oo,none⟩) n cap),(3,.slice pv758 ((A1++[((i:Int),((i+1:Nat):Int))]).length) cp758),(4,vI (i:Int)),(12,vI (-1)),(13,vI (E:Int)),(25,.bool true),(32,vI (c i)),(40,.bool false),(62,.bool false),(90,.bool true)] (WC.seq fun K60 hK60=>WC.region (WL.z (vI (-1)) 106 (WL.y (.bool false) 107 (x_geq rfl rfl rfl (by decide)) (WL.k hK60 ?_))))));refine WC.no rfl ?_;refine WC.seq fun K61 hK61=>WC.region (WL.z (vI (E:Int)) 115 (WL.z (vI (i:Int)) 116 (WL.y (vI ((i+1:Nat):Int)) 117 (x_ad (((i+1:Nat):Int))) ?_)));by_cases hne:(E:Int)≠((i+1:Nat):Int)
      ·
       rw [if_pos (by omega)] at hw;refine WL.y (.bool true) 118 (x_neq rfl rfl rfl (dT (hne))) (WL.k hK61 ?_);refine WC.yes rfl ?_;refine WC.region (WL.z (.slice pv758 ((A1++[((i:Int),((i+1:Nat):Int))]).length) cp758) 119 (WL.z (vI (i:Int)) 120 (WL.z (vI (E:Int)) 121 (WL.z (.agg #[vI (i:Int),vI (E:Int)]) 122 ?_))));refine WL.alloc (c:=#[vI (i:Int),vI (E:Int)]) (T:=67) hH59 123 rfl (by decide) rfl rfl (fun b62=>vS b62 1 1) (by kernel_rfl) (fun b62 w63 hw63=>?_);have hH64:HP Tr w w63 [rowT pv758 (A1++[((i:Int),((i+1:Nat):Int))]).length cp758 (A1++[((i:Int),((i+1:Nat):Int))]),.cel b55 #[vI (i:Int),vI ((i+1:Nat):Int)] 67,.cel b62 #[vI (i:Int),vI (E:Int)] 67]:=hw63.2;have nb62:=hw63.1;clear hw63;obtain⟨i0,hi0,hz0,hz1,hz2⟩:=infoT;refine WL.append (news:=[vI (i:Int),vI (E:Int)]) 0 2 hH64 124 rfl (by decide) rfl rfl rfl rfl Tryz.underlying63 hi0 hz0 hz1 hz2 rfl (by decide) rfl rfl rfl rfl (by simp [Value.oneCell']) (by unfold maxLen;omega) (by omega) ?_;rintro v765 w765-hA765;obtain⟨pv765,cp765,rfl⟩:=own_row (HP.get hA765 0 rfl);have e765:(A1++[((i:Int),((i+1:Nat):Int))]).length+1=((A1++[((i:Int),((i+1:Nat):Int))])++[((i:Int),(E:Int))]).length:=(len1 _ _).symm;rw [tL_push,e765] at hA765;rw [e765];have hH66:HP Tr w _ [rowT pv765 ((A1++[((i:Int),((i+1:Nat):Int))])++[((i:Int),(E:Int))]).length cp765 ((A1++[((i:Int),((i+1:Nat):Int))])++[((i:Int),(E:Int))]),.cel b55 #[vI (i:Int),vI ((i+1:Nat):Int)] 67,.cel b62 #[vI (i:Int),vI (E:Int)] 67]:=hA765;have hl765:((A1++[((i:Int),((i+1:Nat):Int))])++[((i:Int),(E:Int))]).length=(A1++[((i:Int),((i+1:Nat):Int))]).length+1:=e765.symm;refine WL.z (.slice pv765 (((A1++[((i:Int),((i+1:Nat):Int))])++[((i:Int),(E:Int))]).length) cp765) 3 (WL.nil (WQ.inNormal (WQ.inNormal (WQ.then (hK11 _ _ _ (WC.sb [(0,.slice (some ⟨bb,oo,none⟩) n cap),(3,.slice pv765 (((A1++[((i:Int),((i+1:Nat):Int))])++[((i:Int),(E:Int))]).length) cp765),(4,vI (i:Int)),(12,vI (-1)),(13,vI (E:Int)),(25,.bool true),(32,vI (c i)),(40,.bool false),(62,.bool false),(90,.bool true),(107,.bool false),(118,.bool true)] (WC.region (WL.z (vI (i:Int)) 26 (WL.y (vI ((i+1:Nat):Int)) 27 (x_ad (((i+1:Nat):Int))) (WL.z (vI ((i+1:Nat):Int)) 4 (WL.nil ?_)))))))))))
       refine WQ.sb [(0,.slice (some ⟨bb,oo,none⟩) n cap),(3,.slice pv765 (((A1++[((i:Int),((i+1:Nat):Int))])++[((i:Int),(E:Int))]).length) cp765),(4,vI ((i+1:Nat):Int))] ?_;refine WQ.then (hK6 _ _ _ (by omega) ⟨i+1,((A1++[((i:Int),((i+1:Nat):Int))])++[((i:Int),(E:Int))]),pv765,cp765,rfl,rfl,by omega,by rw [wLs_succ,← hA,hw];simp [toT],by omega,(HP.drop (HP.drop hH66 2) 1)⟩)
      ·
       rw [if_neg (by omega)] at hw;refine WL.y (.bool false) 118 (x_neq rfl rfl rfl (dF (hne))) (WL.k hK61 ?_);refine WC.no rfl ?_;refine WC.skip (WQ.inNormal (WQ.inNormal (WQ.then (hK11 _ _ _ (WC.region (WL.z (vI (i:Int)) 26 (WL.y (vI ((i+1:Nat):Int)) 27 (x_ad (((i+1:Nat):Int))) (WL.z (vI ((i+1:Nat):Int)) 4 (WL.nil (WQ.sb [(0,.slice (some ⟨bb,oo,none⟩) n cap),(3,.slice pv758 ((A1++[((i:Int),((i+1:Nat):Int))]).length) cp758),(4,vI ((i+1:Nat):Int))] ?_))))))))));refine WQ.then (hK6 _ _ _ (by omega) ⟨i+1,(A1++[((i:Int),((i+1:Nat):Int))]),pv758,cp758,rfl,rfl,by omega,by rw [wLs_succ,← hA,hw];simp [toT],by omega,(HP.drop hH59 1)⟩)
     ·
      have hw:Fl.ways (cdOf c n) i=[(i,i+1),(i,a+1)]:=by
             rw [Fl.ways_alt (C:=cdOf c n) (k:=i) (.inl h29) he,if_neg (show ¬ (cdOf c n).c i=33 by show ¬ c i=33;omega)];rfl
      refine WC.region (WL.z (.slice (some ⟨bb,oo,none⟩) n cap) 93 (WL.z (vI (i:Int)) 94 ?_));refine WL.c 29 #[.slice (some ⟨bb,oo,none⟩) n cap,vI (i:Int)] 95 ?_;refine(rMatch_at hm1 hme _ (hIn.below (HP.below hH8)) (by omega) (by omega)).mono ?_;rintro e w67 ⟨rfl,hb68⟩;refine⟨_,rfl,?_⟩;have hH69:=HP.call hH8 hb68;refine WL.z (.tuple #[vI (a:Int),vI (E:Int),vI (Ec.maF c A0 B n (i:Int))]) 92 (WL.z (vI (a:Int)) 96 (WL.z (vI (E:Int)) 97 (WL.z (vI (Ec.maF c A0 B n (i:Int))) 98 (WL.z (vI (a:Int)) 12 (WL.z (vI (E:Int)) 13 (WL.z (vI (Ec.maF c A0 B n (i:Int))) 14 (WL.k hK50 (WC.sb [(0,.slice (some ⟨bb,oo,none⟩) n cap),(3,.slice pv A1.length cp3),(4,vI (i:Int)),(12,vI (a:Int)),(13,vI (E:Int)),(25,.bool true),(32,vI (c i)),(40,.bool false),(62,.bool false),(90,.bool true)] (WC.seq fun K70 hK70=>?_)))))))));refine WC.region (WL.z (.slice pv A1.length cp3) 99 (WL.z (vI (i:Int)) 100 (WL.z (vI (i:Int)) 101 (WL.y (vI ((i+1:Nat):Int)) 102 (x_ad (((i+1:Nat):Int))) (WL.z (.agg #[vI (i:Int),vI ((i+1:Nat):Int)]) 103 ?_)))));refine WL.alloc (c:=#[vI (i:Int),vI ((i+1:Nat):Int)]) (T:=67) hH69 104 rfl (by decide) rfl rfl (fun b71=>vS b71 1 1) (by kernel_rfl) (fun b71 w72 hw72=>?_);have hH73:HP Tr w w72 [rowT pv A1.length cp3 A1,.cel b71 #[vI (i:Int),vI ((i+1:Nat):Int)] 67]:=hw72.2;have nb71:=hw72.1;clear hw72;obtain⟨i0,hi0,hz0,hz1,hz2⟩:=infoT;refine WL.append (news:=[vI (i:Int),vI ((i+1:Nat):Int)]) 0 1 hH73 105 rfl (by decide) rfl rfl rfl rfl Tryz.underlying63 hi0 hz0 hz1 hz2 rfl (by decide) rfl rfl rfl rfl (by simp [Value.oneCell']) (by unfold maxLen;omega) (by omega) ?_;rintro v774 w774-hA774;obtain⟨pv774,cp774,rfl⟩:=own_row (HP.get hA774 0 rfl);have e774:A1.length+1=(A1++[((i:Int),((i+1:Nat):Int))]).length:=(len1 _ _).symm;rw [tL_push,e774] at hA774;rw [e774];have hH75:HP Tr w _ [rowT pv774 (A1++[((i:Int),((i+1:Nat):Int))]).length cp774 (A1++[((i:Int),((i+1:Nat):Int))]),.cel b71 #[vI (i:Int),vI ((i+1:Nat):Int)] 67]:=hA774
      have hl774:(A1++[((i:Int),((i+1:Nat):Int))]).length=A1.length+1:=e774.symm;refine WL.z (.slice pv774 ((A1++[((i:Int),((i+1:Nat):Int))]).length) cp774) 3 (WL.k hK70 (WC.sb [(0,.slice (some ⟨bb,oo,none⟩) n cap),(3,.slice pv774 ((A1++[((i:Int),((i+1:Nat):Int))]).length) cp774),(4,vI (i:Int)),(12,vI (a:Int)),(13,vI (E:Int)),(25,.bool true),(32,vI (c i)),(40,.bool false),(62,.bool false),(90,.bool true)] (WC.seq fun K76 hK76=>WC.region (WL.z (vI (a:Int)) 106 (WL.y (.bool true) 107 (x_geq rfl rfl rfl (dT (by omega))) (WL.k hK76 ?_))))));refine WC.yes rfl ?_;refine WC.region (WL.z (.slice pv774 ((A1++[((i:Int),((i+1:Nat):Int))]).length) cp774) 108 (WL.z (vI (i:Int)) 109 (WL.z (vI (a:Int)) 110 (WL.y (vI ((a+1:Nat):Int)) 111 (x_ad (((a+1:Nat):Int))) (WL.z (.agg #[vI (i:Int),vI ((a+1:Nat):Int)]) 112 ?_)))));refine WL.alloc (c:=#[vI (i:Int),vI ((a+1:Nat):Int)]) (T:=67) hH75 113 rfl (by decide) rfl rfl (fun b77=>vS b77 1 1) (by kernel_rfl) (fun b77 w78 hw78=>?_);have hH79:HP Tr w w78 [rowT pv774 (A1++[((i:Int),((i+1:Nat):Int))]).length cp774 (A1++[((i:Int),((i+1:Nat):Int))]),.cel b71 #[vI (i:Int),vI ((i+1:Nat):Int)] 67,.cel b77 #[vI (i:Int),vI ((a+1:Nat):Int)] 67]:=hw78.2;have nb77:=hw78.1;clear hw78;obtain⟨i0,hi0,hz0,hz1,hz2⟩:=infoT;refine WL.append (news:=[vI (i:Int),vI ((a+1:Nat):Int)]) 0 2 hH79 114 rfl (by decide) rfl rfl rfl rfl Tryz.underlying63 hi0 hz0 hz1 hz2 rfl (by decide) rfl rfl rfl rfl (by simp [Value.oneCell']) (by unfold maxLen;omega) (by omega) ?_;rintro v780 w780-hA780;obtain⟨pv780,cp780,rfl⟩:=own_row (HP.get hA780 0 rfl);have e780:(A1++[((i:Int),((i+1:Nat):Int))]).length+1=((A1++[((i:Int),((i+1:Nat):Int))])++[((i:Int),((a+1:Nat):Int))]).length:=(len1 _ _).symm;rw [tL_push,e780] at hA780;rw [e780];have hH81:HP Tr w _ [rowT pv780 ((A1++[((i:Int),((i+1:Nat):Int))])++[((i:Int),((a+1:Nat):Int))]).length cp780 ((A1++[((i:Int),((i+1:Nat):Int))])++[((i:Int),((a+1:Nat):Int))]),.cel b71 #[vI (i:Int),vI ((i+1:Nat):Int)] 67,.cel b77 #[vI (i:Int),vI ((a+1:Nat):Int)] 67]:=hA780
      have hl780:((A1++[((i:Int),((i+1:Nat):Int))])++[((i:Int),((a+1:Nat):Int))]).length=(A1++[((i:Int),((i+1:Nat):Int))]).length+1:=e780.symm;refine WL.z (.slice pv780 (((A1++[((i:Int),((i+1:Nat):Int))])++[((i:Int),((a+1:Nat):Int))]).length) cp780) 3 (WL.nil (WQ.inNormal (WQ.inNormal (WQ.then (hK11 _ _ _ (WC.sb [(0,.slice (some ⟨bb,oo,none⟩) n cap),(3,.slice pv780 (((A1++[((i:Int),((i+1:Nat):Int))])++[((i:Int),((a+1:Nat):Int))]).length) cp780),(4,vI (i:Int)),(12,vI (a:Int)),(13,vI (E:Int)),(25,.bool true),(32,vI (c i)),(40,.bool false),(62,.bool false),(90,.bool true),(107,.bool true)] (WC.region (WL.z (vI (i:Int)) 26 (WL.y (vI ((i+1:Nat):Int)) 27 (x_ad (((i+1:Nat):Int))) (WL.z (vI ((i+1:Nat):Int)) 4 (WL.nil ?_)))))))))));refine WQ.sb [(0,.slice (some ⟨bb,oo,none⟩) n cap),(3,.slice pv780 (((A1++[((i:Int),((i+1:Nat):Int))])++[((i:Int),((a+1:Nat):Int))]).length) cp780),(4,vI ((i+1:Nat):Int))] ?_;refine WQ.then (hK6 _ _ _ (by omega) ⟨i+1,((A1++[((i:Int),((i+1:Nat):Int))])++[((i:Int),((a+1:Nat):Int))]),pv780,cp780,rfl,rfl,by omega,by rw [wLs_succ,← hA,hw];simp [toT],by omega,(HP.drop (HP.drop hH81 2) 1)⟩)
    ·
     refine WL.y (.bool false) 91 (x_eql rfl rfl rfl (dF (h29))) (WL.z (.bool false) 90 (WL.k hK49 ?_));refine WC.no rfl ?_;refine WC.seq fun K82 hK82=>WC.region ?_;by_cases h30:c i=30
     ·
      obtain⟨E,hiE,hEn,hme,hdE,hcase⟩:=at_op hc (show i<n by omega) (Ec.opn_iff.2 (show 29≤c i∧c i≤33 by omega));refine WL.y (.bool true) 126 (x_eql rfl rfl rfl (dT (h30))) (WL.z (.bool true) 125 (WL.k hK82 ?_));refine WC.yes rfl ?_;refine WC.seq fun K83 hK83=>?_;obtain⟨hm1,he⟩:Ec.maA c A0 B n (i:Int)=-1∧(Ec.shD c n).e i=-1:=by
             rcases hcase with ⟨hm1,he,h9⟩ | ⟨a,hia,han,hm1,he,h9⟩
             · exact⟨hm1,he⟩
             · omega
      have hw:Fl.ways (cdOf c n) i=[(i,i+1),(i,E+1)]:=by
             rw [Fl.ways_plain (C:=cdOf c n) (k:=i) ⟨show 29≤c i by omega,show c i≤32 by omega⟩ he hdE,if_neg (show ¬ (cdOf c n).c i=29 by show ¬ c i=29;omega),if_pos (show (cdOf c n).c i=30 from h30)]
      refine WC.region (WL.z (.slice (some ⟨bb,oo,none⟩) n cap) 128 (WL.z (vI (i:Int)) 129 ?_));refine WL.c 29 #[.slice (some ⟨bb,oo,none⟩) n cap,vI (i:Int)] 130 ?_;refine(rMatch_at hm1 hme _ (hIn.below (HP.below hH8)) (by omega) (by omega)).mono ?_;rintro e w84 ⟨rfl,hb85⟩;refine⟨_,rfl,?_⟩;have hH86:=HP.call hH8 hb85;refine WL.z (.tuple #[vI (-1),vI (E:Int),vI (Ec.maF c A0 B n (i:Int))]) 127 (WL.z (vI (-1)) 131 (WL.z (vI (E:Int)) 132 (WL.z (vI (Ec.maF c A0 B n (i:Int))) 133 (WL.z (vI (-1)) 15 (WL.z (vI (E:Int)) 16 (WL.z (vI (Ec.maF c A0 B n (i:Int))) 17 (WL.k hK83 (WC.sb [(0,.slice (some ⟨bb,oo,none⟩) n cap),(3,.slice pv A1.length cp3),(4,vI (i:Int)),(16,vI (E:Int)),(25,.bool true),(32,vI (c i)),(40,.bool false),(62,.bool false),(90,.bool false),(125,.bool true)] (WC.region ?_)))))))));refine WL.z (.slice pv A1.length cp3) 134 (WL.z (vI (i:Int)) 135 (WL.z (vI (i:Int)) 136 (WL.y (vI ((i+1:Nat):Int)) 137 (x_ad (((i+1:Nat):Int))) (WL.z (.agg #[vI (i:Int),vI ((i+1:Nat):Int)]) 138 (WL.z (vI (i:Int)) 139 (WL.z (vI (E:Int)) 140 (WL.y (vI ((E+1:Nat):Int)) 141 (x_ad (((E+1:Nat):Int))) (WL.z (.agg #[vI (i:Int),vI ((E+1:Nat):Int)]) 142 ?_))))))));refine WL.alloc (c:=#[vI (i:Int),vI ((i+1:Nat):Int),vI (i:Int),vI ((E+1:Nat):Int)]) (T:=67) hH86 143 rfl (by decide) rfl rfl (fun b87=>vS b87 2 2) (by kernel_rfl) (fun b87 w88 hw88=>?_);have hH89:HP Tr w w88 [rowT pv A1.length cp3 A1,.cel b87 #[vI (i:Int),vI ((i+1:Nat):Int),vI (i:Int),vI ((E+1:Nat):Int)] 67]:=hw88.2;have nb87:=hw88.1;clear hw88;obtain⟨i0,hi0,hz0,hz1,hz2⟩:=infoT;refine WL.append (news:=[vI (i:Int),vI ((i+1:Nat):Int),vI (i:Int),vI ((E+1:Nat):Int)]) 0 1 hH89 144 rfl (by decide) rfl rfl rfl rfl Tryz.underlying63 hi0 hz0 hz1 hz2 rfl (by decide) rfl rfl rfl rfl (by simp [Value.oneCell']) (by unfold maxLen;omega) (by omega) ?_;rintro v790 w790-hA790
      obtain⟨pv790,cp790,rfl⟩:=own_row (HP.get hA790 0 rfl);have e790:A1.length+2=(A1++[((i:Int),((i+1:Nat):Int)),((i:Int),((E+1:Nat):Int))]).length:=(len2 _ _ _).symm;rw [tL_push2,e790] at hA790;rw [e790];have hH91:HP Tr w _ [rowT pv790 (A1++[((i:Int),((i+1:Nat):Int)),((i:Int),((E+1:Nat):Int))]).length cp790 (A1++[((i:Int),((i+1:Nat):Int)),((i:Int),((E+1:Nat):Int))]),.cel b87 #[vI (i:Int),vI ((i+1:Nat):Int),vI (i:Int),vI ((E+1:Nat):Int)] 67]:=hA790;have hl790:(A1++[((i:Int),((i+1:Nat):Int)),((i:Int),((E+1:Nat):Int))]).length=A1.length+2:=e790.symm;refine WL.z (.slice pv790 ((A1++[((i:Int),((i+1:Nat):Int)),((i:Int),((E+1:Nat):Int))]).length) cp790) 3 (WL.nil (WQ.inNormal (WQ.inNormal (WQ.then (hK11 _ _ _ (WC.sb [(0,.slice (some ⟨bb,oo,none⟩) n cap),(3,.slice pv790 ((A1++[((i:Int),((i+1:Nat):Int)),((i:Int),((E+1:Nat):Int))]).length) cp790),(4,vI (i:Int)),(16,vI (E:Int)),(25,.bool true),(32,vI (c i)),(40,.bool false),(62,.bool false),(90,.bool false),(125,.bool true)] (WC.region (WL.z (vI (i:Int)) 26 (WL.y (vI ((i+1:Nat):Int)) 27 (x_ad (((i+1:Nat):Int))) (WL.z (vI ((i+1:Nat):Int)) 4 (WL.nil ?_)))))))))));refine WQ.sb [(0,.slice (some ⟨bb,oo,none⟩) n cap),(3,.slice pv790 ((A1++[((i:Int),((i+1:Nat):Int)),((i:Int),((E+1:Nat):Int))]).length) cp790),(4,vI ((i+1:Nat):Int))] ?_;refine WQ.then (hK6 _ _ _ (by omega) ⟨i+1,(A1++[((i:Int),((i+1:Nat):Int)),((i:Int),((E+1:Nat):Int))]),pv790,cp790,rfl,rfl,by omega,by rw [wLs_succ,← hA,hw];simp [toT],by omega,(HP.drop hH91 1)⟩)
     ·
      refine WL.y (.bool false) 126 (x_eql rfl rfl rfl (dF (h30))) (WL.z (.bool false) 125 (WL.k hK82 ?_));refine WC.no rfl ?_;refine WC.seq fun K92 hK92=>WC.region ?_;by_cases h33:c i=33
      ·
       obtain⟨E,hiE,hEn,hme,hdE,hcase⟩:=at_op hc (show i<n by omega) (Ec.opn_iff.2 (show 29≤c i∧c i≤33 by omega));refine WL.y (.bool true) 146 (x_eql rfl rfl rfl (dT (h33))) (WL.z (.bool true) 145 (WL.k hK92 ?_));refine WC.yes rfl ?_;refine WC.seq fun K93 hK93=>?_;obtain⟨a,hia,han,hm1,he⟩:∃ a:Nat,i<a∧a<n∧Ec.maA c A0 B n (i:Int)=(a:Int)∧(Ec.shD c n).e i=(a:Int):=by
               rcases hcase with ⟨hm1,he,h9⟩ | ⟨a,hia,han,hm1,he,h9⟩
               · omega
               · exact⟨a,hia,han,hm1,he⟩
       have hw:Fl.ways (cdOf c n) i=[(i,i+1),(i,a+1)]++(List.range (a-(i+1))).map fun v=>(i+1+v,a+1):=by
               rw [Fl.ways_alt (C:=cdOf c n) (k:=i) (.inr h33) he,if_pos (show (cdOf c n).c i=33 from h33)]
       refine WC.region (WL.z (.slice (some ⟨bb,oo,none⟩) n cap) 148 (WL.z (vI (i:Int)) 149 ?_));refine WL.c 29 #[.slice (some ⟨bb,oo,none⟩) n cap,vI (i:Int)] 150 ?_;refine(rMatch_at hm1 hme _ (hIn.below (HP.below hH8)) (by omega) (by omega)).mono ?_;rintro e w94 ⟨rfl,hb95⟩;refine⟨_,rfl,?_⟩;have hH96:=HP.call hH8 hb95;refine WL.z (.tuple #[vI (a:Int),vI (E:Int),vI (Ec.maF c A0 B n (i:Int))]) 147 (WL.z (vI (a:Int)) 151 (WL.z (vI (E:Int)) 152 (WL.z (vI (Ec.maF c A0 B n (i:Int))) 153 (WL.z (vI (a:Int)) 18 (WL.z (vI (E:Int)) 19 (WL.z (vI (Ec.maF c A0 B n (i:Int))) 20 (WL.k hK93 (WC.sb [(0,.slice (some ⟨bb,oo,none⟩) n cap),(3,.slice pv A1.length cp3),(4,vI (i:Int)),(18,vI (a:Int)),(25,.bool true),(32,vI (c i)),(40,.bool false),(62,.bool false),(90,.bool false),(125,.bool false),(145,.bool true)] (WC.seq fun K97 hK97=>?_)))))))));refine WC.region (WL.z (.slice pv A1.length cp3) 154 (WL.z (vI (i:Int)) 155 (WL.z (vI (i:Int)) 156 (WL.y (vI ((i+1:Nat):Int)) 157 (x_ad (((i+1:Nat):Int))) (WL.z (.agg #[vI (i:Int),vI ((i+1:Nat):Int)]) 158 (WL.z (vI (i:Int)) 159 (WL.z (vI (a:Int)) 160 (WL.y (vI ((a+1:Nat):Int)) 161 (x_ad (((a+1:Nat):Int))) (WL.z (.agg #[vI (i:Int),vI ((a+1:Nat):Int)]) 162 ?_)))))))));refine WL.alloc (c:=#[vI (i:Int),vI ((i+1:Nat):Int),vI (i:Int),vI ((a+1:Nat):Int)]) (T:=67) hH96 163 rfl (by decide) rfl rfl (fun b98=>vS b98 2 2) (by kernel_rfl) (fun b98 w99 hw99=>?_);have hH100:HP Tr w w99 [rowT pv A1.length cp3 A1,.cel b98 #[vI (i:Int),vI ((i+1:Nat):Int),vI (i:Int),vI ((a+1:Nat):Int)] 67]:=hw99.2;have nb98:=hw99.1;clear hw99;obtain⟨i0,hi0,hz0,hz1,hz2⟩:=infoT;refine WL.append (news:=[vI (i:Int),vI ((i+1:Nat):Int),vI (i:Int),vI ((a+1:Nat):Int)]) 0 1 hH100 164 rfl (by decide) rfl rfl rfl rfl Tryz.underlying63 hi0 hz0 hz1 hz2 rfl (by decide) rfl rfl rfl rfl (by simp [Value.oneCell']) (by unfold maxLen;omega) (by omega) ?_
       rintro v7101 w7101-hA7101;obtain⟨pv7101,cp7101,rfl⟩:=own_row (HP.get hA7101 0 rfl);have e7101:A1.length+2=(A1++[((i:Int),((i+1:Nat):Int)),((i:Int),((a+1:Nat):Int))]).length:=(len2 _ _ _).symm;rw [tL_push2,e7101] at hA7101;rw [e7101];have hH102:HP Tr w _ [rowT pv7101 (A1++[((i:Int),((i+1:Nat):Int)),((i:Int),((a+1:Nat):Int))]).length cp7101 (A1++[((i:Int),((i+1:Nat):Int)),((i:Int),((a+1:Nat):Int))]),.cel b98 #[vI (i:Int),vI ((i+1:Nat):Int),vI (i:Int),vI ((a+1:Nat):Int)] 67]:=hA7101;have hl7101:(A1++[((i:Int),((i+1:Nat):Int)),((i:Int),((a+1:Nat):Int))]).length=A1.length+2:=e7101.symm;refine WL.z (.slice pv7101 ((A1++[((i:Int),((i+1:Nat):Int)),((i:Int),((a+1:Nat):Int))]).length) cp7101) 3 (WL.k hK97 (WC.sb [(0,.slice (some ⟨bb,oo,none⟩) n cap),(3,.slice pv7101 ((A1++[((i:Int),((i+1:Nat):Int)),((i:Int),((a+1:Nat):Int))]).length) cp7101),(4,vI (i:Int)),(18,vI (a:Int)),(25,.bool true),(32,vI (c i)),(40,.bool false),(62,.bool false),(90,.bool false),(125,.bool false),(145,.bool true)] (WC.seq fun K103 hK103=>WC.region (WL.z (vI (i:Int)) 165 (WL.y (vI ((i+1:Nat):Int)) 166 (x_ad (((i+1:Nat):Int))) (WL.z (vI ((i+1:Nat):Int)) 21 (WL.nil (WQ.then ?_))))))));refine hK103 _ _ _ (WC.block ?_);refine WC.loop (fun kk0 ll0 ww0=>∃ (kk:Nat) (A2:List T2) (pv2:Option Addr) (cp4:Nat),ll0=[(0,.slice (some ⟨bb,oo,none⟩) n cap),(3,.slice pv2 A2.length cp4),(4,vI (i:Int)),(18,vI (a:Int)),(21,vI (kk:Int))]∧kk0=a-kk∧(i+1≤kk)∧(kk≤a)∧(A2=(A1++[((i:Int),((i+1:Nat):Int)),((i:Int),((a+1:Nat):Int))])++(List.range (kk-(i+1))).map (fun v=>toT (i+1+v,a+1)))∧(A2.length≤A1.length+2+(kk-(i+1)))∧HP Tr w ww0 [rowT pv2 A2.length cp4 A2]) (a-(i+1)) [(0,.slice (some ⟨bb,oo,none⟩) n cap),(3,.slice pv7101 ((A1++[((i:Int),((i+1:Nat):Int)),((i:Int),((a+1:Nat):Int))]).length) cp7101),(4,vI (i:Int)),(18,vI (a:Int)),(21,vI ((i+1:Nat):Int))] ⟨rfl,rfl,rfl,rfl,rfl,trivial⟩ ⟨i+1,(A1++[((i:Int),((i+1:Nat):Int)),((i:Int),((a+1:Nat):Int))]),pv7101,cp7101,rfl,rfl,Nat.le_refl _,by omega,by simp,by omega,(HP.drop hH102 1)⟩ ?_
       rintro kk l w105 ⟨kk,A2,pv2,cp4,rfl,hkk,hk1,hk2,hA2,hAl2,hH106⟩ K104 hK104;refine WC.seq fun K107 hK107=>WC.seq fun K108 hK108=>WC.region (WL.z (vI (kk:Int)) 167 (WL.z (vI (a:Int)) 168 ?_));by_cases hlk:(kk:Int)<(a:Int)
       ·
        refine WL.y (.bool true) 169 (x_lss rfl rfl rfl (dT (hlk))) (WL.k hK108 ?_);refine WC.yes rfl ?_;refine WC.skip (WQ.then (hK107 _ _ _ (WC.seq fun K109 hK109=>WC.block (WC.region (WL.z (.slice pv2 A2.length cp4) 172 (WL.z (vI (kk:Int)) 173 (WL.z (vI (a:Int)) 174 (WL.y (vI ((a+1:Nat):Int)) 175 (x_ad (((a+1:Nat):Int))) (WL.z (.agg #[vI (kk:Int),vI ((a+1:Nat):Int)]) 176 ?_)))))))));refine WL.alloc (c:=#[vI (kk:Int),vI ((a+1:Nat):Int)]) (T:=67) hH106 177 rfl (by decide) rfl rfl (fun b110=>vS b110 1 1) (by kernel_rfl) (fun b110 w111 hw111=>?_);have hH112:HP Tr w w111 [rowT pv2 A2.length cp4 A2,.cel b110 #[vI (kk:Int),vI ((a+1:Nat):Int)] 67]:=hw111.2;have nb110:=hw111.1;clear hw111;obtain⟨i0,hi0,hz0,hz1,hz2⟩:=infoT;refine WL.append (news:=[vI (kk:Int),vI ((a+1:Nat):Int)]) 0 1 hH112 178 rfl (by decide) rfl rfl rfl rfl Tryz.underlying63 hi0 hz0 hz1 hz2 rfl (by decide) rfl rfl rfl rfl (by simp [Value.oneCell']) (by unfold maxLen;omega) (by omega) ?_;rintro v7113 w7113-hA7113;obtain⟨pv7113,cp7113,rfl⟩:=own_row (HP.get hA7113 0 rfl);have e7113:A2.length+1=(A2++[((kk:Int),((a+1:Nat):Int))]).length:=(len1 _ _).symm;rw [tL_push,e7113] at hA7113;rw [e7113];have hH114:HP Tr w _ [rowT pv7113 (A2++[((kk:Int),((a+1:Nat):Int))]).length cp7113 (A2++[((kk:Int),((a+1:Nat):Int))]),.cel b110 #[vI (kk:Int),vI ((a+1:Nat):Int)] 67]:=hA7113;have hl7113:(A2++[((kk:Int),((a+1:Nat):Int))]).length=A2.length+1:=e7113.symm;refine WL.z (.slice pv7113 ((A2++[((kk:Int),((a+1:Nat):Int))]).length) cp7113) 3 (WL.nil (WQ.inNormal (WQ.then (hK109 _ _ _ (WC.sb [(0,.slice (some ⟨bb,oo,none⟩) n cap),(3,.slice pv7113 ((A2++[((kk:Int),((a+1:Nat):Int))]).length) cp7113),(4,vI (i:Int)),(18,vI (a:Int)),(21,vI (kk:Int)),(169,.bool true)] (WC.region (WL.z (vI (kk:Int)) 170 (WL.y (vI ((kk+1:Nat):Int)) 171 (x_ad (((kk+1:Nat):Int))) (WL.z (vI ((kk+1:Nat):Int)) 21 (WL.nil (WQ.sb [(0,.slice (some ⟨bb,oo,none⟩) n cap),(3,.slice pv7113 ((A2++[((kk:Int),((a+1:Nat):Int))]).length) cp7113),(4,vI (i:Int)),(18,vI (a:Int)),(21,vI ((kk+1:Nat):Int))] ?_)))))))))))
        refine WQ.then (hK104 _ _ _ (by omega) ⟨kk+1,(A2++[((kk:Int),((a+1:Nat):Int))]),pv7113,cp7113,rfl,rfl,by omega,by omega,by rw [hA2,show kk+1-(i+1)=kk-(i+1)+1 by omega,List.range_succ,List.map_append];simp [toT];omega,by omega,(HP.drop hH114 1)⟩)
       ·
        refine WL.y (.bool false) 169 (x_lss rfl rfl rfl (dF (hlk))) (WL.k hK108 ?_);refine WC.no rfl ?_;refine WC.exit (WQ.thenExit (WQ.thenExit (WQ.inExit (WQ.inNormal (WQ.inNormal (WQ.then (hK11 _ _ _ (WC.region (WL.z (vI (i:Int)) 26 (WL.y (vI ((i+1:Nat):Int)) 27 (x_ad (((i+1:Nat):Int))) (WL.z (vI ((i+1:Nat):Int)) 4 ?_)))))))))));refine WL.nil (WQ.sb [(0,.slice (some ⟨bb,oo,none⟩) n cap),(3,.slice pv2 A2.length cp4),(4,vI ((i+1:Nat):Int))] ?_);refine WQ.then (hK6 _ _ _ (by omega) ⟨i+1,A2,pv2,cp4,rfl,rfl,by omega,by rw [wLs_succ,← hA,hw,hA2,show kk=a by omega];simp [toT,Function.comp_def],by omega,hH106⟩)
      ·
       refine WL.y (.bool false) 146 (x_eql rfl rfl rfl (dF (h33))) (WL.z (.bool false) 145 (WL.k hK92 ?_));refine WC.no rfl ?_;have hw:Fl.ways (cdOf c n) i=[(i,i+1)]:=at_df h34 h35 h29 h30 h33;refine WC.region (WL.z (.slice pv A1.length cp3) 33 (WL.z (vI (i:Int)) 34 (WL.z (vI (i:Int)) 35 (WL.y (vI ((i+1:Nat):Int)) 36 (x_ad (((i+1:Nat):Int))) (WL.z (.agg #[vI (i:Int),vI ((i+1:Nat):Int)]) 37 ?_)))));refine WL.alloc (c:=#[vI (i:Int),vI ((i+1:Nat):Int)]) (T:=67) hH8 38 rfl (by decide) rfl rfl (fun b115=>vS b115 1 1) (by kernel_rfl) (fun b115 w116 hw116=>?_);have hH117:HP Tr w w116 [rowT pv A1.length cp3 A1,.cel b115 #[vI (i:Int),vI ((i+1:Nat):Int)] 67]:=hw116.2;have nb115:=hw116.1;clear hw116;obtain⟨i0,hi0,hz0,hz1,hz2⟩:=infoT;refine WL.append (news:=[vI (i:Int),vI ((i+1:Nat):Int)]) 0 1 hH117 39 rfl (by decide) rfl rfl rfl rfl Tryz.underlying63 hi0 hz0 hz1 hz2 rfl (by decide) rfl rfl rfl rfl (by simp [Value.oneCell']) (by unfold maxLen;omega) (by omega) ?_;rintro v7118 w7118-hA7118;obtain⟨pv7118,cp7118,rfl⟩:=own_row (HP.get hA7118 0 rfl);have e7118:A1.length+1=(A1++[((i:Int),((i+1:Nat):Int))]).length:=(len1 _ _).symm;rw [tL_push,e7118] at hA7118;rw [e7118];have hH119:HP Tr w _ [rowT pv7118 (A1++[((i:Int),((i+1:Nat):Int))]).length cp7118 (A1++[((i:Int),((i+1:Nat):Int))]),.cel b115 #[vI (i:Int),vI ((i+1:Nat):Int)] 67]:=hA7118;have hl7118:(A1++[((i:Int),((i+1:Nat):Int))]).length=A1.length+1:=e7118.symm;refine WL.z (.slice pv7118 ((A1++[((i:Int),((i+1:Nat):Int))]).length) cp7118) 3 (WL.nil (WQ.inNormal (WQ.inNormal (WQ.then (hK11 _ _ _ (WC.sb [(0,.slice (some ⟨bb,oo,none⟩) n cap),(3,.slice pv7118 ((A1++[((i:Int),((i+1:Nat):Int))]).length) cp7118),(4,vI (i:Int)),(25,.bool true),(32,vI (c i)),(40,.bool false),(62,.bool false),(90,.bool false),(125,.bool false),(145,.bool false)] (WC.region (WL.z (vI (i:Int)) 26 (WL.y (vI ((i+1:Nat):Int)) 27 (x_ad (((i+1:Nat):Int))) (WL.z (vI ((i+1:Nat):Int)) 4 (WL.nil ?_)))))))))))
       refine WQ.sb [(0,.slice (some ⟨bb,oo,none⟩) n cap),(3,.slice pv7118 ((A1++[((i:Int),((i+1:Nat):Int))]).length) cp7118),(4,vI ((i+1:Nat):Int))] ?_;refine WQ.then (hK6 _ _ _ (by omega) ⟨i+1,(A1++[((i:Int),((i+1:Nat):Int))]),pv7118,cp7118,rfl,rfl,by omega,by rw [wLs_succ,← hA,hw];simp [toT],by omega,(HP.drop hH119 1)⟩)
 ·
  refine WL.y (.bool false) 25 (x_lss rfl rfl rfl (dF (hlt))) (WL.k hK10 ?_);refine WC.no rfl ?_;refine WC.exit (WQ.thenExit (WQ.thenExit (WQ.inExit (WQ.then (hK4 _ _ _ (WC.seq fun K120 hK120=>WC.region (WL.z (.slice pv A1.length cp3) 179 (WL.z (.slice pv A1.length cp3) 2 (WL.nil (WQ.then ?_))))))))));refine hK120 _ _ _ (WC.ret ?_);refine WQ.ret1 2 rfl rfl ?_;obtain rfl:i=n:=(by omega);exact⟨pv,cp3,by rw [hA],by rw [← hA];exact hH8,by rw [← hA];exact hAl⟩
end Ca
end Go.Proofs.YtmjnakhpekbenaaGreat
namespace Go.Proofs.YtmjnakhpekbenaaGreat
open Go.RowKit
namespace Fw
section
variable {P : Program} {ops : Array Oper} {Q : Exit → Act → World → Prop} {rest : List Oper} {n : Nat} {l : List (Nat × Value)} {w w0 : World} {S : Nat → Prop} {H H2 : List Ent}
theorem x_sliceAny {t e s m cap:Nat} {a:Option Addr} {I:Int} (i:Nat) (w:World) (hu:P.underlying t=some (.slice e)) (hs:(P.info? e).map (·.size)=some s) (hI:I=(i:Int)) (hle:i≤m) (hmc:m≤cap) :
    ∃ v,∀ {ρ:Operand→Value} {o:Oper} {x lo:Operand},o.op=.slice t x (some lo) none none→ρ x=.slice a m cap→ρ lo=.int .i64 I→(execOp ρ o).run P w=.ok (.value v) w:=by
  subst hI;obtain⟨inf,hi,rfl⟩:=Option.map_eq_some_iff.1 hs;have hz:(sizeOf e).run P w=.ok inf.size w:=(by simp [sizeOf,typeInfo,hi]);refine⟨.slice (if cap=i then a else a.map (·.add (i*inf.size))) (m-i) (cap-i),fun ho hx hy=>?_⟩;unfold execOp;rw [ho];simp [hx,hy,Instr.sliceAt,Instr.slice,run_underlying hu,Instr.sliceBounds,Instr.sliceBound,asIntOf,hle,hz,hmc]
theorem run_copy_rows (w:World) (dT sT ty elem sz:Nat) (g o dLen dCap:Nat) (a:Addr) (sLen sCap:Nat) (cur:Array Value) (t:TypeId) (cs:List Value)
    (hu:P.underlying dT=some (.slice elem)) (hs:(P.info? elem).map (·.size)=some sz)
    (hg:w.heap[g]?=some (.cells cur t (0,0))) (hn:cs.length=Nat.min sLen dLen*sz)
    (hsrc:∀ j v,cs[j]?=some v→w.cell? (a.add j)=some v) (hfit:o+cs.length≤cur.size) (h1:∀ v∈cs,v.oneCell'=true) :
    (Builtin.copy_ #[dT,sT] ty #[.slice (some ⟨g,o,none⟩) dLen dCap,.slice (some a) sLen sCap]).run P w =
      .ok (goInt (Nat.min sLen dLen)) (w.setRow g (cur.toList.take o++cs++cur.toList.drop (o+cs.length)).toArray):=by
  have hl:=run_loadCells_list (P:=P) w a cs hsrc;have hst:=run_storeCells_at P g o t cs 0 cur w hg (by simpa using hfit) h1;obtain⟨i,hq,rfl⟩:=Option.map_eq_some_iff.1 hs;simp [Builtin.copy_,run_underlying hu,Builtin.lenOf,Builtin.firstCells,sizeOf,typeInfo,hq,← hn,hl,hst]
theorem WL.copyCel {o:Oper} {t t2 e sz:Nat} {x y:Operand} {g off m cp ms cps:Nat} {a:Addr} {cur:Array Value} {T:TypeId} (i:Nat) (hH:HP S w0 w H) (cs:List Value) (d:Nat) (hd:o.dst=some d) (hn:d<n) (hw:wants ops l o=some true)
    (ho:o.op=.call { callee:=.builtin .copy,args:=#[x,y],argTypes:=#[t,t2] }) (hx:ev l x=some (.slice (some ⟨g,off,none⟩) m cp)) (hy:ev l y=some (.slice (some a) ms cps))
    (ht:P.underlying t=some (.slice e)) (hs:(P.info? e).map (·.size)=some sz) (hi:H[i]?=some (.cel g cur T)) (hcs:cs.length=Nat.min ms m*sz)
    (hsrc:∀ j v,cs[j]?=some v→w.cell? (a.add j)=some v) (hfit:off+cs.length≤cur.size) (h1:∀ v∈cs,v.oneCell'=true)
    (h:∀ w2,HP S w0 w2 (H.set i (.cel g (cur.toList.take off++cs++cur.toList.drop (off+cs.length)).toArray T))→WL P ops Q rest n ((d,goInt (Nat.min ms m))::l) w2):WL P ops Q (o::rest) n l w:=by
  intro b hb;refine wpList_step fun K hK=>?_;rw [if_pos (wants_spec hb hw)];unfold Oper.wp;have hr:=run_copy_rows (P:=P) w t t2 o.type e sz g off m cp a ms cps cur T cs ht hs (hH.get i hi) hcs hsrc hfit h1;have hx2:(execOp b.eval o).run P w=.ok (.value (goInt (Nat.min ms m))) (w.setRow g (cur.toList.take off++cs++cur.toList.drop (off+cs.length)).toArray):=by
    unfold execOp;rw [ho];simp [resolve,invoke,builtin,hb.ev hx,hb.ev hy,hr]
  rw [hx2,Oper.upon_value,hd];refine hK _ _ (h _ ?_ _ (hb.put hn _));exact hH.change i hi rfl rfl rfl (by simp) (fun k _ hne=>setRow_other w g k _ fun q=>hne (by rw [q];rfl)) (setRow_heap w g cur _ T (0,0) (hH.get i hi)) (fun b' hb'=>.inl hb')
theorem WL.growZeros {o:Oper} {t tn e:TypeId} {inf:TypeInfo} {z:Value} {sz by':Nat} {x y:Operand} {g i k cap:Nat} {K:Int} {cur:Array Value} (j:Nat) (hH:HP S w0 w H) (d:Nat) (hd:o.dst=some d) (hn:d<n) (hw:wants ops l o=some true)
    (ho:o.op=.call { callee:=.builtin .append,args:=#[x,y],argTypes:=#[t,tn] }) (hx:ev l x=some (.slice (some ⟨g,0,none⟩) i cap)) (hy:ev l y=some (.int .i64 K)) (hK:K=(k:Int))
    (ht:P.underlying t=some (.slice e)) (htn:P.underlying tn=some (.int .i64)) (hi':P.info? e=some inf) (hz:inf.zero=some z) (hsz:inf.size=sz) (hby:inf.bytes=by') (hzs:z.cells.size=sz) (h0:0<sz)
    (hj:H[j]?=some (.cel g cur e)) (hfit:i*sz≤cur.size) (hk:0<k) (hg:cap<i+k) (h63:i+k≤9223372036854775807) (hb:(i+k)*by'≤140737488355328)
    (h:∀ (g' c':Nat) (cur':Array Value) w2,HP S w0 w2 (H++[.cel g' cur' e])→cur'.size=c'*sz→i+k≤c'→c'≤maxLen→cur'.toList.take (i*sz)=cur.toList.take (i*sz)→WL P ops Q rest n ((d,.slice (some ⟨g',0,none⟩) (i+k) c')::l) w2):WL P ops Q (o::rest) n l w:=by
  intro b hfr;refine wpList_step fun K' hK'=>?_;rw [if_pos (wants_spec hfr hw)];unfold Oper.wp;subst hK;have hold:(Builtin.firstCells inf.size i (.slice (some ⟨g,0,none⟩) i cap)).run P w.drew=.ok (cur.toList.take (i*sz)).toArray w.drew:=by
    rw [hsz];refine run_firstCells_some w.drew sz i ⟨g,0,none⟩ i cap (cur.toList.take (i*sz)) (by rw [List.length_take];simp;omega) (fun q v hq=>?_);have hq2:cur[q]?=some v:=by
      rw [List.getElem?_take] at hq;split at hq
      · simpa using hq
      · cases hq
    rw [Addr.add_lit,Nat.zero_add];exact HP.cell hH.drew j hj hq2
  have hik:i*by'+k*by'=(i+k)*by':=(Nat.add_mul _ _ _).symm;have hr:=Lib.run_append_grow_zeros (P:=P) w t tn o.type e inf z .i64 .i64 ht htn hi' hz (some ⟨g,0,none⟩) i cap (cur.toList.take (i*sz)) hold k hk (by omega) hg (by omega) (by rw [hby];omega) (by rw [hby];exact growslice_fits hg hb);have hx2:(execOp b.eval o).run P w=.ok (.value (.slice (some ⟨w.heap.size,0,none⟩) (i+k) (grownCap w (i+k) cap e))) (w.drew.alloc (.cells ((cur.toList.take (i*sz)).toArray++Builtin.zeroCells z.cells k++Builtin.zeroCells z.cells (grownCap w (i+k) cap e-(i+k))) e)):=by
    unfold execOp;rw [ho];simp [resolve,invoke,builtin,hfr.ev hx,hfr.ev hy,hr]
  rw [hx2,Oper.upon_value,hd];have hge:=grownCap_ge w (i+k) cap e;have htl:(cur.toList.take (i*sz)).length=i*sz:=(by rw [List.length_take];simp;omega);have hsize:((cur.toList.take (i*sz)).toArray++Builtin.zeroCells z.cells k++Builtin.zeroCells z.cells (grownCap w (i+k) cap e-(i+k))).size=grownCap w (i+k) cap e*sz:=by
    simp only [Array.size_append,List.size_toArray,htl,size_zeroCells,hzs];rw [← Nat.add_mul,← Nat.add_mul]
    congr 1;omega
  have q:=HP.alloc hH.drew ((cur.toList.take (i*sz)).toArray++Builtin.zeroCells z.cells k++Builtin.zeroCells z.cells (grownCap w (i+k) cap e-(i+k))) e;refine hK' _ _ (h w.heap.size (grownCap w (i+k) cap e) _ _ q hsize hge (grownCap_le_maxLen w _ _ _ (by unfold maxLen;omega)) ?_ _ (hfr.put hn _));simp only [Array.toList_append,List.append_assoc];rw [List.take_append_of_le_length (by simp;omega),List.take_of_length_le (by simp;omega)]
theorem append_args {t t2 e e2 ty:TypeId} (ht:P.underlying t=some (.slice e)) (ht2:P.underlying t2=some (.slice e2)) (b:Option Addr) (k c:Nat) (b2:Option Addr) (k2 c2:Nat) (w:World):(Builtin.append_ #[t,t2] ty #[.slice b k c,.slice b2 k2 c2]).run P w=(Builtin.append_ #[t,t] ty #[.slice b k c,.slice b2 k2 c2]).run P w:=by
  simp [Builtin.append_,run_underlying ht,run_underlying ht2]
theorem WL.append2 {o:Oper} {t t2 e e2:TypeId} {inf:TypeInfo} {z:Value} {sz by':Nat} {x y:Operand} {v:Value} {k m:Nat} {xs news:List Value} {bn cp:Nat} {cn:Array Value} (i j:Nat) (hH:HP S w0 w H) (d:Nat) (hd:o.dst=some d) (hn:d<n) (hw:wants ops l o=some true)
    (ho:o.op=.call { callee:=.builtin .append,args:=#[x,y],argTypes:=#[t,t2] }) (hx:ev l x=some v) (hy:ev l y=some (.slice (some ⟨bn,0,none⟩) m cp))
    (ht:P.underlying t=some (.slice e)) (ht2:P.underlying t2=some (.slice e2)) (hi':P.info? e=some inf) (hz:inf.zero=some z) (hsz:inf.size=sz) (hby:inf.bytes=by') (hzs:z.cells.size=sz) (h0:0<sz)
    (hi:H[i]?=some (.own v k xs e sz)) (hj:H[j]?=some (.cel bn cn e)) (hnews:cn.toList.take news.length=news) (hl:news.length=m*sz) (h1:∀ u∈news,u.oneCell'=true) (h63:k+m≤maxLen) (hb:(k+m)*by'≤140737488355328)
    (h:∀ v' w2,(v'=.slice none 0 0↔v=.slice none 0 0∧m=0)→HP S w0 w2 (H.set i (.own v' (k+m) (xs++news) e sz))→WL P ops Q rest n ((d,v')::l) w2):WL P ops Q (o::rest) n l w:=by
  intro a ha;refine wpList_step fun K hK=>?_;rw [if_pos (wants_spec ha hw)];unfold Oper.wp;obtain⟨v',w2,hr,g1,g2,g3,g4⟩:=append_ent (P:=P) w t o.type e inf z sz by' ht hi' hz hsz hby hzs h0 v k xs (hH.get i hi) ⟨bn,0,none⟩ m cp news hl (fun q u hu=>by
    rw [Addr.add_mid];exact hH.range j hj (by simpa using hnews) q u hu) h1 h63 hb
  obtain⟨pv,kk,cc,rfl⟩:∃ pv kk cc,v=.slice pv kk cc:=by
    have h2:w.ownsRow 0 e sz v k xs:=hH.get i hi;rcases h2.2 with ⟨h3,h1⟩ | ⟨g,cap,cur,hv,_⟩
    · exact⟨_,_,_,h3⟩
    · exact⟨_,_,_,hv⟩
  have hx2:(execOp a.eval o).run P w=.ok (.value v') w2:=by
    unfold execOp;rw [ho];simp [resolve,invoke,builtin,ha.ev hx,ha.ev hy,append_args ht ht2,hr]
  rw [hx2,Oper.upon_value,hd];refine hK _ _ (h v' w2 g3 ?_ _ (ha.put hn v'));exact hH.change i hi g2.os g2.tape g2.output g2.size (fun q hq hne=>g2.block q hq fun e=>hne e.symm) ⟨g1.1,g1.2⟩ g4
theorem own_le {w:World} {pv:Option Addr} {n cp e s:Nat} {xs:List Value} (h:Ent.holds w (.own (.slice pv n cp) n xs e s)):n≤cp∧cp≤maxLen∧(n=0∨∃ g,pv=some ⟨g,0,none⟩):=by
  have h2:w.ownsRow 0 e s (.slice pv n cp) n xs:=h;rcases h2.2 with ⟨h3,h1⟩ | ⟨g,cap,cur,hv,_,_,hc,hm,_⟩
  · cases h3;exact⟨Nat.le_refl _,by decide,.inl rfl⟩
  · cases hv;exact⟨hc,hm,.inr ⟨g,rfl⟩⟩
theorem x_overlaps {o:Oper} {ρ:Operand→Value} {fn:Func} {f tS tR e sz b b2 o1 o2 l1 c1 l2 c2:Nat} {x y:Operand} {A B:Array Value} {T T2':TypeId} (i j:Nat) (hH:HP S w0 w H) (ho:o.op=.call { callee:=.value (.func f),args:=#[x,y],argTypes:=#[tS,tS] })
    (hf' : ρ (.func f) = .func (.func f) #[] #[]) (hx : ρ x = .slice (some ⟨b, o1, none⟩) l1 c1) (hy : ρ y = .slice (some ⟨b2, o2, none⟩) l2 c2) (hf : P.funcs[f]? = some fn) (hname : (fn.name == "runtime.NumGoroutine") = false)
    (hbd:fn.body.isNone=true) (hnx:Extern.findNext fn=none) (he:Extern.find fn=some (Extern.SlicesOverlaps.overlaps #[tS,tS] #[tR])) (ht:P.underlying tS=some (.slice e)) (hs:(P.info? e).map (·.size)=some sz)
    (hi:H[i]?=some (.cel b A T)) (hj:H[j]?=some (.cel b2 B T2')) (hne:b≠b2) (hB:B.size≠0) :
    (execOp ρ o).run P w=.ok (.value (.bool false)) w:=by
  obtain⟨inf,hq,rfl⟩:=Option.map_eq_some_iff.1 hs;have hz:∀ w,(sizeOf e).run P w=.ok inf.size w:=fun w=>by simp [sizeOf,typeInfo,hq]
  have g1:w.heap[b]?=some (.cells A T (0,0)):=hH.get i hi;have g2:w.heap[b2]?=some (.cells B T2' (0,0)):=hH.get j hj;have hr:(callFunc f #[.slice (some ⟨b,o1,none⟩) l1 c1,.slice (some ⟨b2,o2,none⟩) l2 c2]).run P w=.ok (.value (.bool false)) w:=by
    rw [run_callFunc_extern hf hname hbd hnx he,Lib.run_overlaps_apart w tS tR e ht inf.size hz ⟨b,o1,none⟩ ⟨b2,o2,none⟩ l1 c1 l2 c2 hne T T2' A.size B.size
      (by simp [World.shape?,g1]) (by simp [World.shape?,g2]) hB (by simp [World.frozen?,g1]) (by simp [World.frozen?,g1])]
    rfl
  unfold execOp;rw [ho];simp [resolve,invoke,Deferred.ofValue,hx,hy,hf',hr,go_sem]
end
end Fw
end Go.Proofs.YtmjnakhpekbenaaGreat
namespace Go.Proofs.YtmjnakhpekbenaaGreat
set_option maxRecDepth 20000
set_option maxHeartbeats 4000000
open Go.RowKit Fw
namespace Ca
theorem HP.monoS {S S':Nat→Prop} {w0 w:World} {H:List Ent} (h:HP S w0 w H) (hk:∀ b,S' b→S b):HP S' w0 w H:=⟨h.os,h.tape,h.output,h.size,fun k hl hS=>h.keep k hl (hk k hS),h.hold,fun e he b hb hl hS=>h.fresh e he b hb hl (hk b hS),h.apart⟩
theorem ins_grow {C X cs:List Value} {a k:Nat} (hX:X.length=2) (ha:a≤C.length) :
    ((C.take a++X++C.drop (a+X.length)).take (a+2)++cs++(C.take a++X++C.drop (a+X.length)).drop k).take (a+2+cs.length)=C.take a++X++cs:=by
  have e1:(C.take a++X++C.drop (a+X.length)).take (a+2)=C.take a++X:=by
    rw [List.take_append_of_le_length (by simp;omega),List.take_of_length_le (by simp;omega)]
  rw [e1,List.take_append_of_le_length (by simp;omega),List.take_of_length_le (by simp;omega)]
theorem ins_room {C X cs:List Value} {a k:Nat} (hX:X.length=2) (ha:a+2≤C.length) :
    ((C.take (a+2)++cs++C.drop k).take a++X++(C.take (a+2)++cs++C.drop k).drop (a+X.length)).take (a+2+cs.length)=C.take a++X++cs:=by
  have e1:(C.take (a+2)++cs++C.drop k).take a=C.take a:=by
    rw [List.append_assoc,List.take_append_of_le_length (by simp;omega),List.take_take,Nat.min_eq_left (by omega)]
  have e2:(C.take (a+2)++cs++C.drop k).drop (a+X.length)=cs++C.drop k:=by
    rw [hX,List.append_assoc,List.drop_left' (by simp;omega)]
  rw [e1,e2,← List.append_assoc,List.take_append_of_le_length (by simp;omega),List.take_of_length_le (by simp;omega)]
theorem toL_size {l:List Value}:l.toArray.size=l.length:=by simp
theorem app_len {C X:List Value} {a:Nat} (h:a+X.length≤C.length):(C.take a++X++C.drop (a+X.length)).length=C.length:=by simp;omega
theorem cs_mem {C:List Value} {i n:Nat} {v:Value} (hi:i<n) (h:v∈(C.drop (i*2)).take ((n-i)*2)):v∈C.take (n*2):=by
  have e:(C.drop (i*2)).take ((n-i)*2)=(C.take (n*2)).drop (i*2):=(by rw [List.drop_take];congr 1;omega);rw [e] at h;exact List.mem_of_mem_drop h
theorem cs_at {C:Array Value} {a k j:Nat} {v:Value} (h:((C.toList.drop a).take k)[j]?=some v):C[a+j]?=some v:=by
  rw [List.getElem?_take] at h;split at h
  · rw [List.getElem?_drop] at h;simpa using h
  · cases h
theorem insC_any (g gb n c i:Nat) (cur:Array Value) (x:T2) (w:World) (hB:OwnB w [Go.Proofs.YtmjnakhpekbenaaGreat.Fw.Ent.cel g cur 67,Go.Proofs.YtmjnakhpekbenaaGreat.Fw.Ent.cel gb #[vI x.1,vI x.2] 67]) (hs:cur.size=c*2) (hone:∀ v∈cur.toList.take (n*2),v.oneCell'=true) (hne:gb≠g) (hnc:n≤c) (hm:c≤maxLen) (hi:i<n) (hn:n≤1000000) :
  Calls Tryz.prog 43 #[vS g n c,vI (i:Int),vS gb 1 1] w fun e w'=>∃ g' c' cur',e=.returned (vS g' (n+1) c')∧HP (Out [Go.Proofs.YtmjnakhpekbenaaGreat.Fw.Ent.cel g cur 67,Go.Proofs.YtmjnakhpekbenaaGreat.Fw.Ent.cel gb #[vI x.1,vI x.2] 67]) w w' [.cel g' cur' 67]∧cur'.size=c'*2∧n+1≤c'∧c'≤maxLen∧cur'.toList.take ((n+1)*2)=cur.toList.take (i*2)++[vI x.1,vI x.2]++(cur.toList.drop (i*2)).take ((n-i)*2):=by
 refine calls_of Tryz.func43 rfl (m:=95) rfl [(0,vS g n c),(1,vI (i:Int)),(2,vS gb 1 1)] (Fr_enter [vS g n c,vI (i:Int),vS gb 1 1] 95 (Nat.le_of_ble_eq_true rfl)) ?_;refine WC.seq fun K1 hK1=>WC.region (WL.z (.slice none 0 0) 6 (WL.k hK1 (WC.seq fun K2 hK2=>WC.region (WL.z (vS g n c) 10 (WL.z (vI (i:Int)) 11 (WL.y (.slice (some ⟨g,i*2,none⟩) (n-i) (c-i)) 12 (x_sliceL (i) rfl rfl rfl Tryz.underlying64 (by omega) (by omega) (by omega) sz67 (by omega) rfl rfl (by omega)) (WL.nil ?_)))))));refine WQ.then (hK2 _ _ _ (WC.seq fun K3 hK3=>WC.region (WL.z (vS gb 1 1) 13 (WL.z (vI 1) 14 (WL.z (vI 1) 7 (WL.k hK3 (WC.seq fun K4 hK4=>WC.seq fun K5 hK5=>?_)))))));refine WC.region (WL.z (vI 1) 15 (WL.y (.bool false) 16 (x_eql rfl rfl rfl (by decide)) (WL.k hK5 (WC.sb [(0,vS g n c),(1,vI (i:Int)),(2,vS gb 1 1),(6,.slice none 0 0),(7,vI 1),(16,.bool false)] ?_))));refine WC.no rfl ?_;refine WC.skip (WQ.then (hK4 _ _ _ (WC.seq fun K6 hK6=>WC.region (WL.z (vS g n c) 18 (WL.z (vI (n:Int)) 19 (WL.z (vI (n:Int)) 8 (WL.k hK6 (WC.seq fun K7 hK7=>?_))))))));refine WC.seq fun K8 hK8=>WC.region (WL.z (vI (i:Int)) 20 (WL.z (vI (n:Int)) 21 (WL.y (.bool false) 22 (x_eql rfl rfl rfl (dF (by omega))) (WL.k hK8 ?_))));refine WC.no rfl ?_;refine WC.skip (WQ.then (hK7 _ _ _ (WC.seq fun K9 hK9=>WC.seq fun K10 hK10=>WC.region (WL.z (vI (n:Int)) 26 (WL.z (vI 1) 27 (WL.y (vI ((n+1:Nat):Int)) 28 (x_ad (((n+1:Nat):Int))) (WL.z (vS g n c) 29 (WL.z (vI (c:Int)) 30 ?_))))))));by_cases hgr:(c:Int)<((n+1:Nat):Int)
 ·
  refine WL.y (.bool true) 31 (x_gtr rfl rfl rfl (dT (hgr))) (WL.k hK10 (WC.sb [(0,vS g n c),(1,vI (i:Int)),(2,vS gb 1 1),(6,.slice none 0 0),(7,vI 1),(8,vI (n:Int)),(16,.bool false),(22,.bool false),(31,.bool true)] ?_));refine WC.yes rfl ?_;refine WC.seq fun K11 hK11=>WC.region (WL.z (vS g n c) 32 (WL.z (vI (i:Int)) 33 (WL.y (vS g i c) 34 (x_sliceH (i) rfl rfl rfl Tryz.underlying64 (by omega) (by omega) sz67) (WL.z (vI (n:Int)) 35 (WL.z (vI 1) 36 (WL.y (vI ((n+1:Nat):Int)) 37 (x_ad (((n+1:Nat):Int))) (WL.z (vI (i:Int)) 38 (WL.y (vI ((n+1-i:Nat):Int)) 39 (x_sub (Z:=((n+1-i:Nat):Int)) rfl rfl rfl (by omega) (by omega) (by omega)) ?_))))))));obtain⟨i0,hi0,hz0,hz1,hz2⟩:=infoT;refine WL.growZeros (k:=n+1-i) 0 (HP.startB hB) 40 rfl (by decide) rfl rfl rfl rfl rfl Tryz.underlying64 Tryz.underlying3 hi0 hz0 hz1 hz2 rfl (by decide) rfl (by omega) (by omega) (by omega) (by omega) (by omega) ?_;intro g2 c2 cur2 w5 hA5 hs5 hc5 hm5 ht5;have e5:i+(n+1-i)=n+1:=(by omega);rw [e5] at hc5 ⊢;have hH12:HP (Out [Go.Proofs.YtmjnakhpekbenaaGreat.Fw.Ent.cel g cur 67,Go.Proofs.YtmjnakhpekbenaaGreat.Fw.Ent.cel gb #[vI x.1,vI x.2] 67]) w _ [.cel g cur 67,.cel gb #[vI x.1,vI x.2] 67,.cel g2 cur2 67]:=hA5;refine WL.z (vS g2 (n+1) c2) 9 (WL.k hK11 (WC.sb [(0,vS g n c),(1,vI (i:Int)),(2,vS gb 1 1),(6,.slice none 0 0),(7,vI 1),(8,vI (n:Int)),(9,vS g2 (n+1) c2),(16,.bool false),(22,.bool false),(31,.bool true)] (WC.seq fun K13 hK13=>WC.region (WL.z (vS g2 (n+1) c2) 41 (WL.z (vI (i:Int)) 42 (WL.y (.slice (some ⟨g2,i*2,none⟩) (n+1-i) (c2-i)) 43 (x_sliceL (i) rfl rfl rfl Tryz.underlying64 (by omega) (by omega) (by omega) sz67 (by omega) rfl rfl (by omega)) (WL.z (vS gb 1 1) 44 ?_)))))));refine WL.copyCel 2 hH12 [vI x.1,vI x.2] 45 rfl (by decide) rfl rfl rfl rfl Tryz.underlying64 sz67 rfl (by rw [show Nat.min 1 (n+1-i)=1 from Nat.min_eq_left (by omega)];rfl) (fun j v hj=>by rw [Addr.add_lit];exact HP.range hH12 1 rfl rfl j v hj) (by simp only [List.length_cons,List.length_nil];omega) (by simp [Value.oneCell']) ?_
  intro w14 hCw14;generalize ecur4:(cur2.toList.take (i*2)++[vI x.1,vI x.2]++cur2.toList.drop (i*2+[vI x.1,vI x.2].length)).toArray=cur4 at hCw14;have scur4:cur4.size=cur2.size:=(by rw [← ecur4,toL_size,app_len (by simp only [List.length_cons,List.length_nil,Array.length_toList];omega),Array.length_toList]);have hH15:HP (Out [Go.Proofs.YtmjnakhpekbenaaGreat.Fw.Ent.cel g cur 67,Go.Proofs.YtmjnakhpekbenaaGreat.Fw.Ent.cel gb #[vI x.1,vI x.2] 67]) w _ [.cel g cur 67,.cel gb #[vI x.1,vI x.2] 67,.cel g2 cur4 67]:=hCw14;refine WL.k hK13 (WC.seq fun K16 hK16=>?_);refine WC.stillTail 8 (by kernel_rfl) (by kernel_rfl) ?_;have hH17:=HP.drew hH15;refine WS.z (vS g2 (n+1) c2) 46 (WS.z (vI (i:Int)) 47 (WS.z (vI 1) 48 (WS.y (vI ((i+1:Nat):Int)) 49 (x_ad (((i+1:Nat):Int))) (WS.y (.slice (some ⟨g2,(i+1)*2,none⟩) (n+1-(i+1)) (c2-(i+1))) 50 (x_sliceL (i+1) rfl rfl rfl Tryz.underlying64 (by omega) (by omega) (by omega) sz67 (by omega) rfl rfl (by omega)) (WS.z (vS g n c) 51 (WS.z (vI (i:Int)) 52 (WS.y (.slice (some ⟨g,i*2,none⟩) (n-i) (c-i)) 53 (x_sliceL (i) rfl rfl rfl Tryz.underlying64 (by omega) (by omega) (by omega) sz67 (by omega) rfl rfl (by omega)) ?_)))))));refine WS.nilL ?_;have hcs:((cur.toList.drop (i*2)).take ((n-i)*2)).length=(n-i)*2:=(by rw [List.length_take,List.length_drop,Array.length_toList];omega);have hmn:Nat.min (n-i) (n+1-(i+1))=n-i:=(by simp only [Nat.min_def];split <;> omega);refine WL.copyCel 2 hH17 ((cur.toList.drop (i*2)).take ((n-i)*2)) 54 rfl (by decide) rfl rfl rfl rfl Tryz.underlying64 sz67 rfl (by rw [hmn,hcs]) (fun j v hj=>by rw [Addr.add_lit];exact HP.cell hH17 0 rfl (cs_at hj)) (by rw [hcs];omega) (fun v hv=>hone v (cs_mem hi hv)) ?_;intro w18 hCw18;generalize ecur5:(cur4.toList.take ((i+1)*2)++((cur.toList.drop (i*2)).take ((n-i)*2))++cur4.toList.drop ((i+1)*2+((cur.toList.drop (i*2)).take ((n-i)*2)).length)).toArray=cur5 at hCw18
  have scur5:cur5.size=cur4.size:=(by rw [← ecur5,toL_size,app_len (by rw [hcs,Array.length_toList];omega),Array.length_toList]);have hH19:HP (Out [Go.Proofs.YtmjnakhpekbenaaGreat.Fw.Ent.cel g cur 67,Go.Proofs.YtmjnakhpekbenaaGreat.Fw.Ent.cel gb #[vI x.1,vI x.2] 67]) w _ [.cel g cur 67,.cel gb #[vI x.1,vI x.2] 67,.cel g2 cur5 67]:=hCw18;refine WL.k hK16 (WC.sb [(0,vS g n c),(1,vI (i:Int)),(2,vS gb 1 1),(6,.slice none 0 0),(7,vI 1),(8,vI (n:Int)),(9,vS g2 (n+1) c2),(16,.bool false),(22,.bool false),(31,.bool true)] (WC.seq fun K20 hK20=>WC.region (WL.z (vS g2 (n+1) c2) 55 (WL.z (vS g2 (n+1) c2) 6 (WL.k hK20 (WC.ret ?_))))));refine WQ.thenRet ?_;refine WQ.ret1 6 rfl rfl ?_;refine⟨g2,c2,cur5,rfl,HP.drop (HP.drop hH19 0) 0,by omega,hc5,hm5,?_⟩;rw [← ecur5,← ecur4,← ht5];rw [show (i+1)*2=i*2+2 by omega,show (n+1)*2=i*2+2+((cur.toList.drop (i*2)).take ((n-i)*2)).length by rw [hcs];omega];exact ins_grow rfl (by rw [Array.length_toList];omega)
 ·
  refine WL.y (.bool false) 31 (x_gtr rfl rfl rfl (dF (hgr))) (WL.k hK10 (WC.sb [(0,vS g n c),(1,vI (i:Int)),(2,vS gb 1 1),(6,.slice none 0 0),(7,vI 1),(8,vI (n:Int)),(16,.bool false),(22,.bool false),(31,.bool false)] ?_));refine WC.no rfl ?_;refine WC.skip (WQ.then (hK9 _ _ _ (WC.seq fun K21 hK21=>WC.region (WL.z (vS g n c) 56 (WL.z (vI (n:Int)) 57 (WL.z (vI 1) 58 (WL.y (vI ((n+1:Nat):Int)) 59 (x_ad (((n+1:Nat):Int))) (WL.y (vS g (n+1) c) 60 (x_sliceH (n+1) rfl rfl rfl Tryz.underlying64 (by omega) (by omega) sz67) (WL.z (vS g (n+1) c) 0 (WL.nil ?_))))))))));refine WQ.then (hK21 _ _ _ (WC.sb [(0,vS g (n+1) c),(1,vI (i:Int)),(2,vS gb 1 1),(6,.slice none 0 0),(7,vI 1),(8,vI (n:Int)),(16,.bool false),(22,.bool false),(31,.bool false)] (WC.seq fun K22 hK22=>WC.seq fun K23 hK23=>WC.region (WL.z (vS gb 1 1) 61 (WL.z (vS g (n+1) c) 62 (WL.z (vI (i:Int)) 63 (WL.z (vI 1) 64 (WL.y (vI ((i+1:Nat):Int)) 65 (x_ad (((i+1:Nat):Int))) (WL.y (.slice (some ⟨g,(i+1)*2,none⟩) (n+1-(i+1)) (c-(i+1))) 66 (x_sliceL (i+1) rfl rfl rfl Tryz.underlying64 (by omega) (by omega) (by omega) sz67 (by omega) rfl rfl (by omega)) ?_)))))))));refine WL.y (.bool false) 67 (x_overlaps (tR:=4) 1 0 (HP.startB hB) rfl rfl rfl rfl Tryz.func72 (by kernel_rfl) (by kernel_rfl) (by kernel_rfl) (by kernel_rfl) Tryz.underlying63 sz67 rfl rfl hne (by omega)) (WL.z (.bool true) 68 (WL.k hK23 (WC.sb [(0,vS g (n+1) c),(1,vI (i:Int)),(2,vS gb 1 1),(6,.slice none 0 0),(7,vI 1),(8,vI (n:Int)),(16,.bool false),(22,.bool false),(31,.bool false),(68,.bool true)] ?_)));refine WC.yes rfl ?_;refine WC.seq fun K24 hK24=>?_;refine WC.stillTail 8 (by kernel_rfl) (by kernel_rfl) ?_;have hH25:HP (Out [Go.Proofs.YtmjnakhpekbenaaGreat.Fw.Ent.cel g cur 67,Go.Proofs.YtmjnakhpekbenaaGreat.Fw.Ent.cel gb #[vI x.1,vI x.2] 67]) w _ [.cel g cur 67,.cel gb #[vI x.1,vI x.2] 67]:=HP.drew (HP.startB hB)
  refine WS.z (vS g (n+1) c) 69 (WS.z (vI (i:Int)) 70 (WS.z (vI 1) 71 (WS.y (vI ((i+1:Nat):Int)) 72 (x_ad (((i+1:Nat):Int))) (WS.y (.slice (some ⟨g,(i+1)*2,none⟩) (n+1-(i+1)) (c-(i+1))) 73 (x_sliceL (i+1) rfl rfl rfl Tryz.underlying64 (by omega) (by omega) (by omega) sz67 (by omega) rfl rfl (by omega)) (WS.z (vS g (n+1) c) 74 (WS.z (vI (i:Int)) 75 (WS.y (.slice (some ⟨g,i*2,none⟩) (n+1-i) (c-i)) 76 (x_sliceL (i) rfl rfl rfl Tryz.underlying64 (by omega) (by omega) (by omega) sz67 (by omega) rfl rfl (by omega)) ?_)))))));refine WS.nilL ?_;have hcs:((cur.toList.drop (i*2)).take ((n-i)*2)).length=(n-i)*2:=(by rw [List.length_take,List.length_drop,Array.length_toList];omega);have hmn:Nat.min (n+1-i) (n+1-(i+1))=n-i:=(by simp only [Nat.min_def];split <;> omega);refine WL.copyCel 0 hH25 ((cur.toList.drop (i*2)).take ((n-i)*2)) 77 rfl (by decide) rfl rfl rfl rfl Tryz.underlying64 sz67 rfl (by rw [hmn,hcs]) (fun j v hj=>by rw [Addr.add_lit];exact HP.cell hH25 0 rfl (cs_at hj)) (by rw [hcs];omega) (fun v hv=>hone v (cs_mem hi hv)) ?_;intro w26 hCw26;generalize ecur6:(cur.toList.take ((i+1)*2)++((cur.toList.drop (i*2)).take ((n-i)*2))++cur.toList.drop ((i+1)*2+((cur.toList.drop (i*2)).take ((n-i)*2)).length)).toArray=cur6 at hCw26;have scur6:cur6.size=cur.size:=(by rw [← ecur6,toL_size,app_len (by rw [hcs,Array.length_toList];omega),Array.length_toList]);have hH27:HP (Out [Go.Proofs.YtmjnakhpekbenaaGreat.Fw.Ent.cel g cur 67,Go.Proofs.YtmjnakhpekbenaaGreat.Fw.Ent.cel gb #[vI x.1,vI x.2] 67]) w _ [.cel g cur6 67,.cel gb #[vI x.1,vI x.2] 67]:=hCw26;refine WL.k hK24 (WC.sb [(0,vS g (n+1) c),(1,vI (i:Int)),(2,vS gb 1 1),(6,.slice none 0 0),(7,vI 1),(8,vI (n:Int)),(16,.bool false),(22,.bool false),(31,.bool false),(68,.bool true)] (WC.seq fun K28 hK28=>WC.region (WL.z (vS g (n+1) c) 78 (WL.z (vI (i:Int)) 79 (WL.y (.slice (some ⟨g,i*2,none⟩) (n+1-i) (c-i)) 80 (x_sliceL (i) rfl rfl rfl Tryz.underlying64 (by omega) (by omega) (by omega) sz67 (by omega) rfl rfl (by omega)) (WL.z (vS gb 1 1) 81 ?_))))))
  refine WL.copyCel 0 hH27 [vI x.1,vI x.2] 82 rfl (by decide) rfl rfl rfl rfl Tryz.underlying64 sz67 rfl (by rw [show Nat.min 1 (n+1-i)=1 from Nat.min_eq_left (by omega)];rfl) (fun j v hj=>by rw [Addr.add_lit];exact HP.range hH27 1 rfl rfl j v hj) (by simp only [List.length_cons,List.length_nil];omega) (by simp [Value.oneCell']) ?_;intro w29 hCw29;generalize ecur7:(cur6.toList.take (i*2)++[vI x.1,vI x.2]++cur6.toList.drop (i*2+[vI x.1,vI x.2].length)).toArray=cur7 at hCw29;have scur7:cur7.size=cur6.size:=(by rw [← ecur7,toL_size,app_len (by simp only [List.length_cons,List.length_nil,Array.length_toList];omega),Array.length_toList]);have hH30:HP (Out [Go.Proofs.YtmjnakhpekbenaaGreat.Fw.Ent.cel g cur 67,Go.Proofs.YtmjnakhpekbenaaGreat.Fw.Ent.cel gb #[vI x.1,vI x.2] 67]) w _ [.cel g cur7 67,.cel gb #[vI x.1,vI x.2] 67]:=hCw29;refine WL.k hK28 (WC.seq fun K31 hK31=>WC.region (WL.z (vS g (n+1) c) 83 (WL.z (vS g (n+1) c) 6 (WL.k hK31 (WC.sb [(0,vS g (n+1) c),(1,vI (i:Int)),(2,vS gb 1 1),(6,vS g (n+1) c),(7,vI 1),(8,vI (n:Int)),(16,.bool false),(22,.bool false),(31,.bool false),(68,.bool true)] (WC.ret ?_))))));refine WQ.thenRet ?_;refine WQ.ret1 6 rfl rfl ?_;refine⟨g,c,cur7,rfl,HP.drop hH30 1,by omega,by omega,hm,?_⟩;rw [← ecur7,← ecur6];rw [show (i+1)*2=i*2+2 by omega,show (n+1)*2=i*2+2+((cur.toList.drop (i*2)).take ((n-i)*2)).length by rw [hcs];omega];exact ins_room rfl (by rw [Array.length_toList];omega)
theorem insE_any (pv:Option Addr) (cp gb:Nat) (t:List T2) (x:T2) (w:World) (hB:OwnB w [rowT pv t.length cp t,Go.Proofs.YtmjnakhpekbenaaGreat.Fw.Ent.cel gb #[vI x.1,vI x.2] 67]) (hn:t.length≤1000000) :
    Calls Tryz.prog 43 #[.slice pv t.length cp,vI (t.length:Int),vS gb 1 1] w fun e w'=>∃ pv' cp',e=.returned (.slice pv' (t.length+1) cp')∧HP (Out [rowT pv t.length cp t,Go.Proofs.YtmjnakhpekbenaaGreat.Fw.Ent.cel gb #[vI x.1,vI x.2] 67]) w w' [.own (.slice pv' (t.length+1) cp') (t.length+1) (tL (t++[(x.1,x.2)])) 67 2]:=by
  refine calls_of Tryz.func43 rfl (m:=95) rfl [(0,.slice pv t.length cp),(1,vI (t.length:Int)),(2,vS gb 1 1)] (Fr_enter [.slice pv t.length cp,vI (t.length:Int),vS gb 1 1] 95 (Nat.le_of_ble_eq_true rfl)) ?_;refine WC.seq fun K1 hK1=>WC.region (WL.z (.slice none 0 0) 6 (WL.k hK1 (WC.seq fun K2 hK2=>WC.region (WL.z (.slice pv t.length cp) 10 (WL.z (vI (t.length:Int)) 11 ?_)))));obtain⟨hle,hcm,-⟩:=own_le (HP.get (HP.startB hB) 0 rfl);obtain⟨v12,hv12⟩:=x_sliceAny (P:=Tryz.prog) (s:=2) (a:=pv) t.length w Tryz.underlying64 sz67 rfl (Nat.le_refl _) hle;refine WL.y v12 12 (hv12 rfl rfl rfl) (WL.k hK2 (WC.seq fun K3 hK3=>WC.region (WL.z (vS gb 1 1) 13 (WL.z (vI 1) 14 (WL.z (vI 1) 7 (WL.k hK3 ?_))))));refine WC.seq fun K4 hK4=>WC.seq fun K5 hK5=>WC.region (WL.z (vI 1) 15 (WL.y (.bool false) 16 (x_eql rfl rfl rfl (by decide)) (WL.k hK5 (WC.sb [(0,.slice pv t.length cp),(1,vI (t.length:Int)),(2,vS gb 1 1),(6,.slice none 0 0),(7,vI 1),(16,.bool false)] ?_))));refine WC.no rfl ?_;refine WC.skip (WQ.then (hK4 _ _ _ (WC.seq fun K6 hK6=>WC.region (WL.z (.slice pv t.length cp) 18 (WL.z (vI (t.length:Int)) 19 (WL.z (vI (t.length:Int)) 8 (WL.k hK6 (WC.seq fun K7 hK7=>?_))))))));refine WC.seq fun K8 hK8=>WC.region (WL.z (vI (t.length:Int)) 20 (WL.z (vI (t.length:Int)) 21 (WL.y (.bool true) 22 (x_eql rfl rfl rfl (dT (rfl))) (WL.k hK8 ?_))));refine WC.yes rfl ?_;refine WC.seq fun K9 hK9=>WC.region (WL.z (.slice pv t.length cp) 23 (WL.z (vS gb 1 1) 24 ?_));obtain⟨i0,hi0,hz0,hz1,hz2⟩:=infoT;refine WL.append2 (news:=[vI x.1,vI x.2]) 0 1 (HP.startB hB) 25 rfl (by decide) rfl rfl rfl rfl Tryz.underlying64 Tryz.underlying63 hi0 hz0 hz1 hz2 rfl (by decide) rfl rfl rfl rfl (by simp [Value.oneCell']) (by unfold maxLen;omega) (by omega) ?_;rintro v7 w7-hA7;obtain⟨pv7,cp7,rfl⟩:=own_row (HP.get hA7 0 rfl);have e7:t.length+1=(t++[(x.1,x.2)]).length:=(len1 _ _).symm
  rw [tL_push] at hA7;have hH10:HP (Out [rowT pv t.length cp t,Go.Proofs.YtmjnakhpekbenaaGreat.Fw.Ent.cel gb #[vI x.1,vI x.2] 67]) w _ [.own (.slice pv7 (t.length+1) cp7) (t.length+1) (tL (t++[(x.1,x.2)])) 67 2,.cel gb #[vI x.1,vI x.2] 67]:=hA7;refine WL.z (.slice pv7 (t.length+1) cp7) 6 (WL.k hK9 (WC.sb [(0,.slice pv t.length cp),(1,vI (t.length:Int)),(2,vS gb 1 1),(6,.slice pv7 (t.length+1) cp7),(7,vI 1),(8,vI (t.length:Int)),(16,.bool false),(22,.bool true)] (WC.ret ?_)));refine WQ.thenRet ?_;refine WQ.ret1 6 rfl rfl ?_;exact⟨pv7,cp7,rfl,HP.drop hH10 1⟩
theorem tL_take:∀ (t:List T2) (i:Nat),(tL t).take (i*2)=tL (t.take i)
  | [],i=>by simp [tL]
  | p::r,0=>by simp [tL]
  | p::r,i+1=>by
    have h:=tL_take r i;rw [List.take_succ_cons,show (i+1)*2=i*2+1+1 by omega];show (vI p.1::vI p.2::tL r).take (i*2+1+1)=vI p.1::vI p.2::tL (r.take i);rw [List.take_succ_cons,List.take_succ_cons,h]
theorem tL_drop:∀ (t:List T2) (i:Nat),(tL t).drop (i*2)=tL (t.drop i)
  | [],i=>by simp [tL]
  | p::r,0=>by simp [tL]
  | p::r,i+1=>by
    have h:=tL_drop r i;rw [List.drop_succ_cons,show (i+1)*2=i*2+1+1 by omega];show (vI p.1::vI p.2::tL r).drop (i*2+1+1)=tL (r.drop i);rw [List.drop_succ_cons,List.drop_succ_cons,h]
theorem tL_app (a c:List T2):tL (a++c)=tL a++tL c:=by simp [tL]
theorem insT_end (t:List T2) (x:T2):insT t t.length x=t++[(x.1,x.2)]:=by simp [insT]
theorem Insert_any (pv:Option Addr) (cp gb i:Nat) (t:List T2) (x:T2) (w:World) (hB:OwnB w [rowT pv t.length cp t,Go.Proofs.YtmjnakhpekbenaaGreat.Fw.Ent.cel gb #[vI x.1,vI x.2] 67]) (hi:i≤t.length) (hn:t.length≤1000000) :
    Calls Tryz.prog 43 #[.slice pv t.length cp,vI (i:Int),vS gb 1 1] w fun e w'=>∃ pv' cp',e=.returned (.slice pv' (insT t i x).length cp')∧HP (Out [rowT pv t.length cp t,Go.Proofs.YtmjnakhpekbenaaGreat.Fw.Ent.cel gb #[vI x.1,vI x.2] 67]) w w' [rowT pv' (insT t i x).length cp' (insT t i x)]:=by
  rw [insT_len hi];by_cases he:i=t.length
  · subst he
    rw [insT_end];exact insE_any pv cp gb t x w hB hn
  · have h0 := HP.startB hB
    obtain⟨hle,hcm,hpv⟩:=own_le (HP.get h0 0 rfl);obtain⟨g,rfl⟩:∃ g,pv=some ⟨g,0,none⟩:=(by rcases hpv with h | h;omega;exact h);obtain⟨cur,hC,hnc,hcm,hcs,htk⟩:=HP.ownToCel h0 0 rfl;have hne:gb≠g:=fun e=>(List.pairwise_cons.1 hB.2).1 (.cel gb #[vI x.1,vI x.2] 67) (by simp) g rfl (by rw [e];rfl);have hB2:OwnB w [Go.Proofs.YtmjnakhpekbenaaGreat.Fw.Ent.cel g cur 67,Go.Proofs.YtmjnakhpekbenaaGreat.Fw.Ent.cel gb #[vI x.1,vI x.2] 67]:=HP.ownB (A:=[]) hC;refine(insC_any g gb t.length cp i cur x w hB2 hcs (fun v hv=>?_) hne hnc hcm (by omega) hn).mono fun e w' h=>?_
    · rw [htk] at hv;exact tL_one t v hv
    · obtain ⟨g', c', cur', rfl, h1, h2, h3, h4, h5⟩ := h
      refine⟨_,_,rfl,?_⟩;have e5:cur'.toList.take ((t.length+1)*2)=tL (insT t i x):=by
        rw [h5];have e1:cur.toList.take (i*2)=tL (t.take i):=by
          rw [← tL_take,← htk,List.take_take,Nat.min_eq_left (by omega)]
        have e2:(cur.toList.drop (i*2)).take ((t.length-i)*2)=tL (t.drop i):=by
          rw [← tL_drop,← htk,List.drop_take]
          congr 1;omega
        rw [e1,e2];unfold insT;rw [tL_app];simp [tL]
      have h6:=HP.celToOwn h1 0 (k:=t.length+1) (cap:=c') (s:=2) rfl h3 h4 h2;rw [e5] at h6;refine HP.monoS h6 fun b hb e he'=>?_;rcases List.mem_cons.1 he' with rfl | he'
      · exact hb (rowT (some ⟨g,0,none⟩) t.length cp t) (by simp)
      · exact hb e (List.mem_cons_of_mem _ he')
theorem src_T {w:World} {a:Addr} {t:List T2} (h:InT w (some a) t):∀ q u,(tL t)[q]?=some u→w.cell? (a.add q)=some u:=fun q u hq=>by
  have hlt:=(List.getElem?_eq_some_iff.1 hq).1;rw [tL_len] at hlt;obtain⟨g,o,e,hr⟩:=h (by omega);cases e;rw [hadd];have h2:=tL_at (t:=t) (i:=q/2) (by omega);have h3:=hr (q/2) (by omega);rcases Nat.mod_two_eq_zero_or_one q with h | h
  · have e : q / 2 * 2 = q := by omega
    rw [e] at h2 h3;rw [h2.1] at hq;exact h3 0 u (by simpa using hq)
  · have e : q / 2 * 2 + 1 = q := by omega
    rw [e] at h2;rw [h2.2] at hq;have h4:=h3 1 u (by simpa using hq)
    rwa [show o+q/2*2+1=o+q by omega] at h4
theorem CloneT_any (p:Option Addr) (t:List T2) (cp:Nat) (w:World) (hT:InT w p t) (hn:t.length≤100000) :
  Calls Tryz.prog 42 #[.slice p t.length cp] w fun e w'=>∃ pv cp',e=.returned (.slice pv t.length cp')∧HP Tr w w' [rowT pv t.length cp' t]:=by
 refine calls_of Tryz.func42 rfl (m:=8) rfl [(0,.slice p t.length cp)] (Fr_enter [.slice p t.length cp] 8 (Nat.le_of_ble_eq_true rfl)) ?_;have hH1:HP Tr w w []:=HP.refl w;cases p with
 | none =>
  refine WC.seq fun K2 hK2=>WC.region (WL.z (.slice none 0 0) 2 (WL.k hK2 (WC.seq fun K3 hK3=>WC.seq fun K4 hK4=>WC.region (WL.z (.slice none t.length cp) 3 (WL.y (.bool true) 4 (x_eqlNil rfl rfl rfl Tryz.underlying64 (by kernel_rfl) rfl) (WL.nil ?_))))));refine WQ.then (hK4 _ _ _ (WC.yes rfl ?_));refine WC.seq fun K5 hK5=>WC.region (WL.z (.slice none 0 0) 2 (WL.k hK5 (WC.ret ?_)));refine WQ.thenRet ?_;refine WQ.ret1 2 rfl rfl ?_;obtain rfl:t=[]:=(by cases t with | nil=>rfl | cons q r=>obtain⟨g,o,e,_⟩:=hT (by simp);cases e);exact⟨none,0,rfl,HP.ownNil hH1 67 2⟩
 | some a =>
  refine WC.seq fun K6 hK6=>WC.region (WL.z (.slice none 0 0) 2 (WL.k hK6 (WC.seq fun K7 hK7=>WC.seq fun K8 hK8=>WC.region (WL.z (.slice (some a) t.length cp) 3 (WL.y (.bool false) 4 (x_eqlNil rfl rfl rfl Tryz.underlying64 (by kernel_rfl) rfl) (WL.nil ?_))))));refine WQ.then (hK8 _ _ _ (WC.no rfl ?_));refine WC.skip (WQ.then (hK7 _ _ _ (WC.seq fun K9 hK9=>WC.region ?_)));refine WL.alloc (c:=#[]) (T:=67) hH1 5 rfl (by decide) rfl rfl (fun b5=>vS b5 0 0) (by kernel_rfl) (fun b5 w10 hw10=>?_);have hH11:HP Tr w w10 [.cel b5 #[] 67]:=hw10.2;have nb5:=hw10.1;clear hw10;refine WL.z (.slice (some a) t.length cp) 6 ?_;have hO9:=HP.celToOwn hH11 0 (k:=0) (cap:=0) (s:=2) rfl (Nat.le_refl _) (by decide) rfl;have hH12:HP Tr w _ [rowT (some ⟨b5,0,none⟩) ([]:List T2).length 0 ([]:List T2)]:=HP.eq hO9 rfl;obtain⟨i0,hi0,hz0,hz1,hz2⟩:=infoT;refine WL.appendSrc (tL t) 0 hH12 7 rfl (by decide) rfl rfl rfl rfl Tryz.underlying64 hi0 hz0 hz1 hz2 rfl (by decide) rfl (.inl ⟨a,rfl,src_T (hT.below (HP.below hH12))⟩) (tL_len t) (tL_one t) (by unfold maxLen;simp only [List.length_nil];omega) (by simp only [List.length_nil];omega) ?_;rintro v7 w7-hA7;obtain⟨pv7,cp7,rfl⟩:=own_row (HP.get hA7 0 rfl);rw [show ([]:List T2).length+t.length=t.length from Nat.zero_add _,show tL ([]:List T2)++tL t=tL t from rfl] at hA7;rw [show ([]:List T2).length+t.length=t.length from Nat.zero_add _];have hH13:HP Tr w _ [rowT pv7 t.length cp7 t]:=hA7;refine WL.z (.slice pv7 t.length cp7) 2 (WL.k hK9 (WC.ret ?_));refine WQ.ret1 2 rfl rfl ?_;exact⟨pv7,cp7,rfl,hH13⟩
end Ca
end Go.Proofs.YtmjnakhpekbenaaGreat
namespace Go.Proofs.YtmjnakhpekbenaaGreat
set_option maxRecDepth 20000
set_option maxHeartbeats 4000000
open Go.RowKit Fw
namespace Ca
theorem rJ_nil:∀ t:List T2,rJ true t []=t
  | []=>by rw [rJ]
  | p::r=>by rw [rJ,rJ_nil r];rfl
theorem take_snoc {u:List T2} {i:Nat} (h:i<u.length):u.take (i+1)=u.take i++[(lnT u i,agT u i)]:=by
  rw [List.take_succ_eq_append_getElem h,lnT_get h,agT_get h]
theorem sT_take {u:List T2} (h:sT u) (i:Nat):sT (u.take i):=List.Pairwise.sublist (List.take_sublist i u) h
theorem rJ_len:∀ (may:Bool) (t u:List T2),(rJ may t u).length≤t.length+u.length
  | may,[],[]=>by rw [rJ];simp
  | may,p::r,[]=>by
    have:=rJ_len may r [];rw [rJ];cases may <;> simp at this ⊢ <;> omega
  | may,[],q::v=>by
    have:=rJ_len may [] v;rw [rJ];cases may <;> simp at this ⊢ <;> omega
  | may,p::r,q::v=>by
    have h1:=rJ_len may r (q::v);have h2:=rJ_len may (p::r) v;have h3:=rJ_len may r v;rw [rJ];split
    · cases may <;> simp at h1 ⊢ <;> omega
    · split
      · cases may <;> simp at h2 ⊢ <;> omega
      · simp at h3 ⊢;omega
termination_by _ t u=>t.length+u.length
theorem cur_at {cur:Array Value} {t:List T2} {k:Nat} (h:cur.toList.take (t.length*2)=tL t) (hk:k<t.length):cur[k*2+1]?=some (vI (agT t k)):=by
  have h2:=(tL_at hk).2;rw [← h,List.getElem?_take] at h2;split at h2
  · rw [← Array.getElem?_toList];exact h2
  · cases h2
theorem cur_set {cur:Array Value} {t:List T2} {k:Nat} {v:Int} (h:cur.toList.take (t.length*2)=tL t) (hk:k<t.length):(cur.setIfInBounds (k*2+1) (vI v)).toList.take (t.length*2)=tL (t.set k (lnT t k,v)):=by
  have e1:tL (t.set k (lnT t k,v))=(tL t).set (k*2+1) (vI v):=by
    refine List.ext_getElem? fun j=>?_;by_cases hj:j/2<t.length
    · have g1 := tL_at (t := t) (i := j / 2) hj
      have g2:=tL_at (t:=t.set k (lnT t k,v)) (i:=j/2) (by simpa using hj);rw [List.getElem?_set];have hl:k*2+1<(tL t).length:=(by rw [tL_len];omega);rcases Nat.mod_two_eq_zero_or_one j with h | h
      · have e : j / 2 * 2 = j := by omega
        rw [e] at g1 g2;rw [g2.1,if_neg (by omega),g1.1]
        congr 2
        simp only [List.getD_eq_getElem?_getD,List.getElem?_set];split
        · rename_i q;subst q;simp [hj,lnT,List.getD_eq_getElem?_getD]
        · rfl
      · have e : j / 2 * 2 + 1 = j := by omega
        rw [e] at g1 g2;rw [g2.2];by_cases q:k=j/2
        · rw [if_pos (by omega), if_pos (by omega)]
          congr 2
          simp only [List.getD_eq_getElem?_getD,List.getElem?_set];rw [if_pos q,if_pos (by omega)];rfl
        · rw [if_neg (by omega), g1.2]
          congr 2
          simp only [List.getD_eq_getElem?_getD,List.getElem?_set];rw [if_neg q]
    · rw [List.getElem?_eq_none (by rw [tL_len,List.length_set];omega),List.getElem?_eq_none (by rw [List.length_set,tL_len];omega)]
  rw [e1,← h,Array.toList_setIfInBounds,List.take_set]
theorem joinMay_any (p p2:Option Addr) (t u:List T2) (cp cp2:Nat) (w:World) (hT:InT w p t) (hU:InT w p2 u) (hn:t.length≤100000) (hn2:u.length≤100000) (hs:sT t) (hs2:sT u) :
  Calls Tryz.prog 24 #[.slice p t.length cp,.slice p2 u.length cp2] w fun e w'=>∃ pv cp',e=.returned (.slice pv (rJ true t u).length cp')∧HP Tr w w' [rowT pv (rJ true t u).length cp' (rJ true t u)]:=by
 refine calls_of Tryz.func24 rfl (m:=45) rfl [(0,.slice p t.length cp),(1,.slice p2 u.length cp2)] (Fr_enter [.slice p t.length cp,.slice p2 u.length cp2] 45 (Nat.le_of_ble_eq_true rfl)) ?_;have hH1:HP Tr w w []:=HP.refl w;refine WC.seq fun K2 hK2=>WC.region (WL.z (.slice none 0 0) 4 (WL.k hK2 (WC.seq fun K3 hK3=>WC.region (WL.z (.slice p t.length cp) 10 ?_))));refine WL.c 42 #[.slice p t.length cp] 11 ?_;refine(CloneT_any p t cp _ (hT.below (HP.below hH1)) hn).mono ?_;rintro e w3 ⟨pv0,cp0,rfl,hb⟩;refine⟨_,rfl,?_⟩;have hH4:HP Tr w _ [rowT pv0 t.length cp0 t]:=HP.trans hH1 hb;refine WL.z (.slice pv0 t.length cp0) 5 (WL.k hK3 (WC.seq fun K5 hK5=>WC.seq fun K6 hK6=>WC.region (WL.z (.slice p2 u.length cp2) 12 (WL.z (vI (u.length:Int)) 13 (WL.z (vI 0) 14 (WL.nil (WQ.then ?_)))))));refine hK6 _ _ _ (WC.block ?_);refine WC.loop (fun kk0 ll0 ww0=>∃ (i:Nat) (A:List T2) (pv:Option Addr) (cp3:Nat),ll0=[(0,.slice p t.length cp),(1,.slice p2 u.length cp2),(5,.slice pv A.length cp3),(12,.slice p2 u.length cp2),(13,vI (u.length:Int)),(14,vI (i:Int))]∧kk0=u.length-i∧(i≤u.length)∧(A=rJ true t (u.take i))∧HP Tr w ww0 [rowT pv A.length cp3 A]) (u.length) [(0,.slice p t.length cp),(1,.slice p2 u.length cp2),(5,.slice pv0 t.length cp0),(12,.slice p2 u.length cp2),(13,vI (u.length:Int)),(14,vI 0)] ⟨rfl,rfl,rfl,rfl,rfl,rfl,trivial⟩ ⟨0,t,pv0,cp0,rfl,rfl,Nat.zero_le _,by rw [List.take_zero,rJ_nil],hH4⟩ ?_;rintro kk l w8 ⟨i,A,pv,cp3,rfl,hkk,hi,hA,hH9⟩ K7 hK7;refine WC.seq fun K10 hK10=>WC.region ?_;by_cases h15:(i:Int)<(u.length:Int)
 ·
  refine WL.y (.bool true) 15 (x_lss rfl rfl rfl (dT (h15))) (WL.k hK10 (WC.seq fun K11 hK11=>?_));refine WC.yes rfl ?_;refine WC.skip (WQ.then (hK11 _ _ _ (WC.seq fun K12 hK12=>WC.block (WC.seq fun K13 hK13=>?_))));obtain⟨g2,o2,rfl,hrow2⟩:=hU (by omega);refine WC.region (WL.y (vP g2 (o2+i*2)) 16 (x_ix (i) (o2+i*2) Tryz.underlying64 sz67) (WL.y (.agg #[vI (lnT u i),vI (agT u i)]) 17 (x_loadS (cs:=[vI (lnT u i),vI (agT u i)]) rfl rfl Tryz.underlying67 rfl sz67 (HP.oldRange hH9 trivial (hrow2 i (by omega)))) ?_));refine WL.alloc (c:=#[vI 0,vI 0]) (T:=67) hH9 7 rfl (by decide) rfl rfl (fun b7=>vP b7 0) (by kernel_rfl) (fun b7 w14 hw14=>?_);have hH15:HP Tr w w14 [rowT pv A.length cp3 A,.cel b7 #[vI 0,vI 0] 67]:=hw14.2;have nb7:=hw14.1;clear hw14;refine WL.storeS (H2:=[rowT pv A.length cp3 A,.cel b7 #[vI (lnT u i),vI (agT u i)] 67]) 1 hH15 rfl rfl rfl rfl rfl rfl sz67 rfl (Nat.le_of_ble_eq_true rfl) rfl rfl ?_;intro w16 hH17;refine WL.k hK13 (WC.seq fun K18 hK18=>WC.region (WL.z (.slice pv A.length cp3) 19 (WL.y (vP b7 0) 20 (x_idxArr (0) (0) rfl rfl rfl Tryz.underlying67 sz3 (by omega) (by omega) (by omega)) (WL.y (vI (lnT u i)) 21 (x_load rfl rfl Tryz.underlying3 rfl (HP.cell hH17 1 rfl rfl)) ?_))));have hAs:sT A:=(by rw [hA];exact sT_rJ hs (sT_take hs2 i));have hA9:=rJ_len true t (u.take i);rw [← hA,List.length_take] at hA9;refine WL.c 37 #[.slice pv A.length cp3,vI (lnT u i)] 22 ?_;refine(find_any _ A _ _ (InT.own (HP.get hH17 0 rfl)) (lnT u i) (by omega)).mono ?_;rintro e w19 ⟨k,fb,rfl,hk1,hk2,hk3,hfb,hb20⟩;refine⟨_,rfl,?_⟩;have hH21:=HP.call hH17 hb20;refine WL.z (.tuple #[vI (k:Int),.bool fb]) 18 (WL.z (vI (k:Int)) 23 (WL.z (.bool fb) 24 (WL.z (vI (k:Int)) 8 (WL.z (.bool fb) 9 (WL.k hK18 (WC.sb [(0,.slice p t.length cp),(1,.slice (some ⟨g2,o2,none⟩) u.length cp2),(5,.slice pv A.length cp3),(7,vP b7 0),(8,vI (k:Int)),(9,.bool fb),(12,.slice (some ⟨g2,o2,none⟩) u.length cp2),(13,vI (u.length:Int)),(14,vI (i:Int)),(15,.bool true)] (WC.seq fun K22 hK22=>WC.seq fun K23 hK23=>WC.region ?_)))))))
  refine WL.z (.bool fb) 25 (WL.k hK23 ?_);rcases Bool.eq_false_or_eq_true (fb) with c_fb | c_fb
  ·
   rw [c_fb] at hfb;obtain⟨hk4,hk5⟩:=of_decide_eq_true hfb.symm;obtain⟨-,-,hpv⟩:=own_le (HP.get hH21 0 rfl);obtain⟨ga,rfl⟩:∃ g,pv=some ⟨g,0,none⟩:=(by rcases hpv with h | h;omega;exact h);obtain⟨cur,hC9,hnc,hcm,hcs,htk⟩:=HP.ownToCel hH21 0 rfl;have hcell:=cur_at htk hk4;have hH24:HP Tr w _ [.cel ga cur 67,.cel b7 #[vI (lnT u i),vI (agT u i)] 67]:=hC9;refine WC.yes (congrArg (fun b=>some (Value.bool b)) c_fb) ?_;refine WC.seq fun K25 hK25=>?_;refine WC.confG (γ:=Unit) [(25,.bool fb),(0,.slice p t.length cp),(1,.slice (some ⟨g2,o2,none⟩) u.length cp2),(5,vS ga A.length cp3),(7,vP b7 0),(8,vI (k:Int)),(9,.bool fb),(12,.slice (some ⟨g2,o2,none⟩) u.length cp2),(13,vI (u.length:Int)),(14,vI (i:Int)),(15,.bool true)] (fun gy=>[vS ga A.length cp3,vI (k:Int),vS ga A.length cp3,vI (k:Int),vP ga (k*2),vP ga (k*2+1),vI (agT A k),vP b7 1,vI (agT u i),vI (min (agT A k) (agT u i)),vP ga (k*2),vP ga (k*2+1),undef]) (fun gy D wz=>HP Tr w wz [(bif D 12 then Ent.cel ga (cur.setIfInBounds (k*2+1) (vI (min (agT A k) (agT u i)))) 67 else Ent.cel ga cur 67),.cel b7 #[vI (lnT u i),vI (agT u i)] 67]) () (by kernel_rfl) ⟨rfl,rfl,rfl,rfl,rfl,rfl,rfl,rfl,rfl,rfl,rfl,trivial⟩ (by kernel_rfl) (by kernel_rfl) (by kernel_rfl) (fun _=>rfl) (by kernel_rfl) (HP.drew hH24) ?_ ?_
   ·
    refine AllOk.cons ?o0 (AllOk.cons ?o1 (AllOk.cons ?o2 (AllOk.cons ?o3 (AllOk.cons ?o4 (AllOk.cons ?o5 (AllOk.cons ?o6 (AllOk.cons ?o7 (AllOk.cons ?o8 (AllOk.cons ?o9 (AllOk.cons ?o10 (AllOk.cons ?o11 (AllOk.cons ?o12 (AllOk.nil _)))))))))))))
    case o0 =>
     intro gy D wz hDi hdep hclo hW;exact cfv gy wz (by kernel_rfl) hW
    case o1 =>
     intro gy D wz hDi hdep hclo hW;exact cfv gy wz (by kernel_rfl) hW
    case o2 =>
     intro gy D wz hDi hdep hclo hW;exact cfv gy wz (by kernel_rfl) hW
    case o3 =>
     intro gy D wz hDi hdep hclo hW;exact cfv gy wz (by kernel_rfl) hW
    case o4 =>
     intro gy D wz hDi hdep hclo hW;exact cfv gy wz (x_idx (k) (k*2) rfl rfl rfl Tryz.underlying64 sz67 (by omega) (hk4) (by omega)) hW
    case o5 =>
     intro gy D wz hDi hdep hclo hW;exact cfv gy wz (x_idxArr (1) (k*2+1) rfl rfl rfl Tryz.underlying67 sz3 (by omega) (by omega) (by omega)) hW
    case o6 =>
     intro gy D wz hDi hdep hclo hW;have d12:D 12=false:=by
      cases h:D 12 with
      | false=>rfl
      | true=>exact absurd (hclo 12 _ rfl h ⟨6,.phase⟩ (by simp) rfl) (by rw [hDi];exact Bool.false_ne_true)
     have hW2:=hW;simp only [d12,cond_false] at hW2;exact cfv gy wz (x_load rfl rfl Tryz.underlying3 rfl (HP.cell hW2 0 rfl hcell)) hW
    case o7 =>
     intro gy D wz hDi hdep hclo hW;exact cfv gy wz (x_idxArr (1) (1) rfl rfl rfl Tryz.underlying67 sz3 (by omega) (by omega) (by omega)) hW
    case o8 =>
     intro gy D wz hDi hdep hclo hW;exact cfv gy wz (x_load rfl rfl Tryz.underlying3 rfl (HP.cell hW 1 rfl rfl)) hW
    case o9 =>
     intro gy D wz hDi hdep hclo hW;exact cfv gy wz (x_min (Z:=min (agT A k) (agT u i)) (t:=0) rfl rfl rfl (by simp only [Int.min_def];split <;> split <;> omega)) hW
    case o10 =>
     intro gy D wz hDi hdep hclo hW;exact cfv gy wz (x_idx (k) (k*2) rfl rfl rfl Tryz.underlying64 sz67 (by omega) (hk4) (by omega)) hW
    case o11 =>
     intro gy D wz hDi hdep hclo hW;exact cfv gy wz (x_idxArr (1) (k*2+1) rfl rfl rfl Tryz.underlying67 sz3 (by omega) (by omega) (by omega)) hW
    case o12 =>
     intro gy D wz hDi hdep hclo hW;have hW9:=hW;simp only [hDi,cond_false] at hW9;have h4:=HP.set (off:=k*2+1) (v:=vI (min (agT A k) (agT u i))) hW9 0 rfl;exact .inl ⟨rfl,rfl,.inr (.inl ⟨_,x_store rfl rfl rfl sz3 rfl (HP.cell hW9 0 rfl hcell) (HP.free hW9 0 rfl),rfl,h4⟩)⟩
   rintro gy D w26 hall hH27;simp only [hall 12 (by kernel_rfl),cond_true,List.append_nil,List.nil_append,List.cons_append] at hH27;clear hall;refine WQ.sb [(0,.slice p t.length cp),(1,.slice (some ⟨g2,o2,none⟩) u.length cp2),(5,vS ga A.length cp3),(7,vP b7 0),(8,vI (k:Int)),(9,.bool fb),(12,.slice (some ⟨g2,o2,none⟩) u.length cp2),(13,vI (u.length:Int)),(14,vI (i:Int)),(15,.bool true),(25,.bool fb)] (WQ.then (hK25 _ _ _ (WC.exit (WQ.thenExit (WQ.inExit (WQ.then (hK12 _ _ _ (WC.region (WL.y (vI ((i+1:Nat):Int)) 43 (x_ad (((i+1:Nat):Int))) (WL.z (vI ((i+1:Nat):Int)) 14 (WL.nil ?_)))))))))));have hO9:=HP.celToOwn (HP.drop hH27 1) 0 (k:=A.length) (cap:=cp3) (s:=2) rfl hnc hcm (by simp;exact hcs);rw [cur_set htk hk4] at hO9;have hl9:A.length=(A.set k (lnT A k,min (agT A k) (agT u i))).length:=(by rw [List.length_set]);rw [show vS ga A.length cp3=vS ga (A.set k (lnT A k,min (agT A k) (agT u i))).length cp3 by rw [List.length_set]];refine WQ.sb [(0,.slice p t.length cp),(1,.slice (some ⟨g2,o2,none⟩) u.length cp2),(5,.slice (some ⟨ga,0,none⟩) ((A.set k (lnT A k,min (agT A k) (agT u i))).length) cp3),(12,.slice (some ⟨g2,o2,none⟩) u.length cp2),(13,vI (u.length:Int)),(14,vI ((i+1:Nat):Int))] ?_;refine WQ.then (hK7 _ _ _ (by omega) ⟨i+1,(A.set k (lnT A k,min (agT A k) (agT u i))),(some ⟨ga,0,none⟩),cp3,rfl,rfl,by omega,by rw [take_snoc (by omega),rJ_snoc hs (by rw [← take_snoc (by omega)];exact sT_take hs2 _),← hA];have h9:=set_rJ (x:=(lnT u i,agT u i)) hAs hk4 hk5;rw [hk5];exact h9,(HP.eq hO9 (by rw [List.length_set];rfl))⟩)
  ·
   rw [c_fb] at hfb;have hno:=of_decide_eq_false hfb.symm;have hlt9:k<A.length→lnT u i<lnT A k:=fun h9=>by have h8:=hk3 h9;by_cases e:lnT A k=lnT u i;exact absurd ⟨h9,e⟩ hno;omega
   refine WC.no (congrArg (fun b=>some (Value.bool b)) c_fb) ?_;refine WC.skip (WQ.then (hK22 _ _ _ (WC.region (WL.z (.slice pv A.length cp3) 38 (WL.z (vI (k:Int)) 39 (WL.y (.agg #[vI (lnT u i),vI (agT u i)]) 40 (x_loadS (cs:=[vI (lnT u i),vI (agT u i)]) rfl rfl Tryz.underlying67 rfl sz67 (HP.range hH21 1 rfl rfl)) ?_))))));refine WL.alloc (c:=#[vI (lnT u i),vI (agT u i)]) (T:=67) hH21 41 rfl (by decide) rfl rfl (fun b41=>vS b41 1 1) (by kernel_rfl) (fun b41 w28 hw28=>?_);have hH29:HP Tr w w28 [rowT pv A.length cp3 A,.cel b7 #[vI (lnT u i),vI (agT u i)] 67,.cel b41 #[vI (lnT u i),vI (agT u i)] 67]:=hw28.2;have nb41:=hw28.1;clear hw28;have hP9:=HP.perm hH29 (List.Perm.cons _ (List.Perm.swap _ _ _));refine WL.c 43 #[.slice pv A.length cp3,vI (k:Int),vS b41 1 1] 42 ?_;refine(Insert_any pv cp3 b41 k A (lnT u i,agT u i) _ (HP.ownF (A:=[rowT pv A.length cp3 A,Go.Proofs.YtmjnakhpekbenaaGreat.Fw.Ent.cel b41 #[vI (lnT u i),vI (agT u i)] 67]) (B:=[Go.Proofs.YtmjnakhpekbenaaGreat.Fw.Ent.cel b7 #[vI (lnT u i),vI (agT u i)] 67]) hP9) hk1 (by omega)).mono ?_;rintro e w6 ⟨pv6,cp6,rfl,hb6⟩;refine⟨_,rfl,?_⟩;have hH30:HP Tr w _ [rowT pv6 (insT A k (lnT u i,agT u i)).length cp6 (insT A k (lnT u i,agT u i))]:=HP.sub (HP.exchF (A:=[rowT pv A.length cp3 A,Go.Proofs.YtmjnakhpekbenaaGreat.Fw.Ent.cel b41 #[vI (lnT u i),vI (agT u i)] 67]) (B:=[Go.Proofs.YtmjnakhpekbenaaGreat.Fw.Ent.cel b7 #[vI (lnT u i),vI (agT u i)] 67]) hP9 hb6) (List.Sublist.cons_cons _ (List.nil_sublist _));refine WL.z (.slice pv6 ((insT A k (lnT u i,agT u i)).length) cp6) 5 (WL.nil (WQ.inNormal (WQ.then (hK12 _ _ _ (WC.sb [(0,.slice p t.length cp),(1,.slice (some ⟨g2,o2,none⟩) u.length cp2),(5,.slice pv6 ((insT A k (lnT u i,agT u i)).length) cp6),(7,vP b7 0),(8,vI (k:Int)),(9,.bool fb),(12,.slice (some ⟨g2,o2,none⟩) u.length cp2),(13,vI (u.length:Int)),(14,vI (i:Int)),(15,.bool true),(25,.bool fb)] (WC.region (WL.y (vI ((i+1:Nat):Int)) 43 (x_ad (((i+1:Nat):Int))) (WL.z (vI ((i+1:Nat):Int)) 14 (WL.nil (WQ.sb [(0,.slice p t.length cp),(1,.slice (some ⟨g2,o2,none⟩) u.length cp2),(5,.slice pv6 ((insT A k (lnT u i,agT u i)).length) cp6),(12,.slice (some ⟨g2,o2,none⟩) u.length cp2),(13,vI (u.length:Int)),(14,vI ((i+1:Nat):Int))] ?_))))))))))
   refine WQ.then (hK7 _ _ _ (by omega) ⟨i+1,(insT A k (lnT u i,agT u i)),pv6,cp6,rfl,rfl,by omega,by rw [take_snoc (by omega),rJ_snoc hs (by rw [← take_snoc (by omega)];exact sT_take hs2 _),← hA];exact ins_rJ (x:=(lnT u i,agT u i)) hAs hk1 hk2 hlt9,hH30⟩)
 ·
  refine WL.y (.bool false) 15 (x_lss rfl rfl rfl (dF (h15))) (WL.k hK10 (WC.seq fun K31 hK31=>?_));refine WC.no rfl ?_;refine WC.exit (WQ.thenExit (WQ.thenExit (WQ.inExit (WQ.then (hK5 _ _ _ (WC.seq fun K32 hK32=>?_))))));have hR:rJ true t u=A:=(by rw [hA,List.take_of_length_le (by omega)]);refine WC.region (WL.z (.slice pv A.length cp3) 44 (WL.z (.slice pv A.length cp3) 4 (WL.k hK32 (WC.ret ?_))));refine WQ.ret1 4 rfl rfl ?_;exact⟨pv,cp3,by rw [hR],by rw [hR];exact HP.eq hH9 rfl⟩
end Ca
end Go.Proofs.YtmjnakhpekbenaaGreat
namespace Go.Proofs.YtmjnakhpekbenaaGreat
set_option maxRecDepth 20000
set_option maxHeartbeats 4000000
open Go.RowKit Fw
namespace Ca
def jK (K:Bool):List T2→List T2→List T2:=bif K then rJ true else jM
def kK (K:Bool):Int:=bif K then 1 else 0
def muK (K:Bool) (y:Int):List T2→Nat:=bif K then muN y else muM y
def leK (K:Bool):List T2→List T2→Prop:=bif K then leN else leM
def opsK (K:Bool) (s y l:Int):Fl.Ops (List T2):=⟨jK K,fun i t=>tcH s y ((i:Int)/l) (kK K) t,muK K y⟩
def fhK (K:Bool):Nat:=bif K then 23 else 19
def fjK (K:Bool):Nat:=bif K then 24 else 20
theorem touchK_any (K:Bool) (p:Option Addr) (t:List T2) (cp:Nat) (s y l m x:Int) (w:World) (hT:InT w p t) (hV:VT s y l m t) :
    Calls Tryz.prog (fhK K) #[.agg #[vI s,vI y,vI l,vI m],.slice p t.length cp,vI x] w (TcR s y x (kK K) t w):=by
  cases K
  · exact touch0_any p t cp s y l m x w hT hV
  · exact touch1_any p t cp s y l m x w hT hV
theorem joinK_any (K:Bool) (p p2:Option Addr) (t u:List T2) (cp cp2:Nat) (w:World) (hT:InT w p t) (hU:InT w p2 u) (hn:t.length≤100000) (hn2:u.length≤100000) (hs:sT t) (hs2:sT u) :
    Calls Tryz.prog (fjK K) #[.slice p t.length cp,.slice p2 u.length cp2] w fun e w'=>∃ pv cp',e=.returned (.slice pv (jK K t u).length cp')∧HP Tr w w' [rowT pv (jK K t u).length cp' (jK K t u)]:=by
  cases K
  · exact joinMust_any p p2 t u cp cp2 w hT hU hn hn2 hs2
  · exact joinMay_any p p2 t u cp cp2 w hT hU hn hn2 hs hs2
theorem VT_jK (K:Bool) {s y l m:Int} {t u:List T2} (ht:VT s y l m t) (hu:VT s y l m u):VT s y l m (jK K t u):=by
  cases K
  · exact VT_jM ht hu
  · exact VT_rJ ht hu
theorem jK_left (K:Bool) {a b:List T2} (ha:sT a) (hb:sT b):leK K a (jK K a b):=by
  cases K
  · exact jM_left ha
  · exact rJ_left ha hb
theorem mu_ltK (K:Bool) {s y l m:Int} (a b:List T2) (ha:VT s y l m a) (hb:VT s y l m b) (h:leK K a b) (hne:a≠b):(opsK K s y l).mu b<(opsK K s y l).mu a:=by
  cases K
  · have h1 := muM_lt ha hb (show leM a b from h) hne
    dsimp only [opsK,muK,cond_false];exact h1
  · have h1 := muN_lt ha hb (show leN a b from h) hne
    dsimp only [opsK,muK,cond_true];exact h1
theorem doK_any (K:Bool) (s y l m:Int) (i:Nat) (q:Option Addr) (t:List T2) (cp b6 b4:Nat) (w:World) (h6:w.cell? ⟨b6,0,none⟩=some (.func (.func (fhK K)) #[] #[])) (h4:w.rangeAt b4 0 [vI s,vI y,vI l,vI m]) (hT:InT w q t) (hV:VT s y l m t) (hi:i≤999) :
  Calls Tryz.prog 33 #[vI (i:Int),.slice q t.length cp,vP b6 0,vP b4 0] w (TcR s y ((i:Int)/l) (kK K) t w):=by
 have hl9:=hV.l1;have hl8:=hV.l2;have hx9:=line_of ⟨hl9,hl8⟩ hi;refine calls_of Tryz.func33 rfl (m:=15) rfl [(0,vI (i:Int)),(1,.slice q t.length cp),(2,vP b6 0),(3,vP b4 0)] (Fr_enter [vI (i:Int),.slice q t.length cp,vP b6 0,vP b4 0] 15 (Nat.le_of_ble_eq_true rfl)) ?_;have hH1:HP Tr w w []:=HP.refl w;refine WC.seq fun K2 hK2=>WC.region (WL.z (.slice none 0 0) 6 (WL.k hK2 (WC.seq fun K3 hK3=>?_)));refine WC.confG (γ:=Option Addr × Nat × Unit) [(0,vI (i:Int)),(1,.slice q t.length cp),(2,vP b6 0),(3,vP b4 0)] (fun gy=>[.func (.func (fhK K)) #[] #[],.agg #[vI s,vI y,vI l,vI m],.slice q t.length cp,vI (i:Int),vP b4 2,vI l,vI ((i:Int)/l),.slice gy.1 ((tcH s y ((i:Int)/l) (kK K) t).length) gy.2.1,.slice gy.1 ((tcH s y ((i:Int)/l) (kK K) t).length) gy.2.1]) (fun gy D wz=>HP Tr w wz ([]++((bif D 7 then [rowT gy.1 (tcH s y ((i:Int)/l) (kK K) t).length gy.2.1 (tcH s y ((i:Int)/l) (kK K) t)] else [])++[]))) (none,0,()) (by kernel_rfl) ⟨rfl,rfl,rfl,rfl,trivial⟩ (by kernel_rfl) (by kernel_rfl) (by kernel_rfl) (fun _=>rfl) (by kernel_rfl) (HP.drew hH1) ?_ ?_
 ·
  refine AllOk.cons ?o0 (AllOk.cons ?o1 (AllOk.cons ?o2 (AllOk.cons ?o3 (AllOk.cons ?o4 (AllOk.cons ?o5 (AllOk.cons ?o6 (AllOk.cons ?o7 (AllOk.cons ?o8 (AllOk.nil _)))))))))
  case o0 =>
   intro gy D wz hDi hdep hclo hW;exact cfv gy wz (x_load rfl rfl Tryz.underlying44 rfl (HP.old hW trivial h6)) hW
  case o1 =>
   intro gy D wz hDi hdep hclo hW;exact cfv gy wz (x_loadS (cs:=[vI s,vI y,vI l,vI m]) rfl rfl Tryz.underlying23 rfl sz23 (HP.oldRange hW trivial h4)) hW
  case o2 =>
   intro gy D wz hDi hdep hclo hW;exact cfv gy wz (by kernel_rfl) hW
  case o3 =>
   intro gy D wz hDi hdep hclo hW;exact cfv gy wz (by kernel_rfl) hW
  case o4 =>
   intro gy D wz hDi hdep hclo hW;exact cfv gy wz (by kernel_rfl) hW
  case o5 =>
   intro gy D wz hDi hdep hclo hW;exact cfv gy wz (x_load rfl rfl Tryz.underlying3 rfl ((HP.oldRange hW trivial h4) 2 _ rfl)) hW
  case o6 =>
   intro gy D wz hDi hdep hclo hW;exact cfv gy wz (x_quo rfl rfl rfl (by omega) (tdiv_pos (by omega) (by omega)) (by have:=hx9;omega) (by have:=hx9;omega)) hW
  case o7 =>
   intro gy D wz hDi hdep hclo hW;have d8:D 8=false:=by
    cases h:D 8 with
    | false=>rfl
    | true=>exact absurd (hclo 8 _ rfl h ⟨7,.data⟩ (by simp) rfl) (by rw [hDi];exact Bool.false_ne_true)
   have hW2:=hW
   try simp only [hDi,cond_true,cond_false,List.append_nil,List.nil_append,List.cons_append] at hW2
   refine .inl ⟨rfl,rfl,.inr (.inr ⟨(fhK K),#[.agg #[vI s,vI y,vI l,vI m],.slice q t.length cp,vI ((i:Int)/l)],by cases K <;> kernel_rfl,(touchK_any K q t cp s y l m ((i:Int)/l) _ (hT.below (HP.below hW2)) hV).mono ?_⟩)⟩;rintro e w3 ⟨pv,cp9,rfl,hb9⟩;have hA:=HP.trans hW2 hb9;refine⟨⟨pv,cp9,()⟩,fun j hj=>?_,rfl,?_⟩
   ·
    match j,hj with
    | 0,hj=>rfl
    | 1,hj=>rfl
    | 2,hj=>rfl
    | 3,hj=>rfl
    | 4,hj=>rfl
    | 5,hj=>rfl
    | 6,hj=>rfl
    | 7,hj=>rw [hDi] at hj;cases hj
    | 8,hj=>exact absurd hj (by rw [d8];exact Bool.false_ne_true)
    | j+9,_=>rfl
   ·
    show HP Tr w w3 ([]++([rowT pv (tcH s y ((i:Int)/l) (kK K) t).length cp9 (tcH s y ((i:Int)/l) (kK K) t)]++[]))
    try simp only [cond_true,cond_false,List.append_nil,List.nil_append,List.cons_append]
    exact hA
  case o8 =>
   intro gy D wz hDi hdep hclo hW;exact cfv gy wz (by kernel_rfl) hW
 rintro ⟨pv,cp9,gu⟩ D w4 hall hH5;simp only [hall 7 (by kernel_rfl),cond_true,List.append_nil,List.nil_append,List.cons_append] at hH5;clear hall;refine WQ.sb [(0,vI (i:Int)),(1,.slice q t.length cp),(6,.slice pv ((tcH s y ((i:Int)/l) (kK K) t).length) cp9)] (WQ.then (hK3 _ _ _ (WC.ret ?_)));refine WQ.ret1 6 rfl rfl ?_;exact⟨pv,cp9,rfl,hH5⟩
def BrPK (K:Bool) (s y l m:Int) (pb:Nat) (cq:Option Addr) (n cap b6 b4 ga:Nat) (c A B:Nat→Int) (i E:Nat) (Rb:Fl.Tr):Prop:=∀ (w:World) (T:Nat→TbI) (r:TbI),Env s y l m pb cq n cap b6 b4 (fhK K) (fjK K) ga c A B w T→TbOk s y l m w r→(∀ i,TbOk s y l m w (T i))→Calls Tryz.prog 88 #[vP pb 0,vI (i:Int),vI (-1),vI (E:Int),tbV r] w (TabR s y l m pb cq n cap b6 b4 (fjK K) ga T (brkP (opsK K s y l) (cdOf c n) i E (Fl.sol (opsK K s y l) (cdOf c n) Rb) r.t (tabs T)) w)
def BrAK (K:Bool) (s y l m:Int) (pb:Nat) (cq:Option Addr) (n cap b6 b4 ga:Nat) (c A B:Nat→Int) (i a E:Nat) (Ra Rb:Fl.Tr):Prop:=∀ (w:World) (T:Nat→TbI) (r:TbI),Env s y l m pb cq n cap b6 b4 (fhK K) (fjK K) ga c A B w T→TbOk s y l m w r→(∀ i,TbOk s y l m w (T i))→Calls Tryz.prog 88 #[vP pb 0,vI (i:Int),vI (a:Int),vI (E:Int),tbV r] w (TabR s y l m pb cq n cap b6 b4 (fjK K) ga T (brkA (opsK K s y l) (cdOf c n) i a E (Fl.sol (opsK K s y l) (cdOf c n) Ra) (Fl.sol (opsK K s y l) (cdOf c n) Rb) r.t (tabs T)) w)
theorem listK_any (K:Bool) (s y l m:Int) (pb:Nat) (cq:Option Addr) (n cap b6 b4 ga:Nat) (c A B:Nat→Int) (hg0:vG s y l m=true) (hc:Ec.chk c A B false n=0) (R:Fl.Tr) (k j:Nat) (hIs0:Fl.Is (cdOf c n) R k j) (hjn:j≤n) (hbr0:BrAll (BrPK K s y l m pb cq n cap b6 b4 ga c A B) (BrAK K s y l m pb cq n cap b6 b4 ga c A B) R) (w:World) (T:Nat→TbI) (r:TbI) (hE:Env s y l m pb cq n cap b6 b4 (fhK K) (fjK K) ga c A B w T) (hr:TbOk s y l m w r) (hT:∀ i,TbOk s y l m w (T i)) :
  Calls Tryz.prog 61 #[vP pb 0,vI (k:Int),vI (j:Int),.slice r.q r.t.length r.c] w (TabR s y l m pb cq n cap b6 b4 (fjK K) ga T (Fl.sol (opsK K s y l) (cdOf c n) R r.t (tabs T)) w):=by
 have hg:=vG_iff.1 hg0;have hn9:=(Ec.chk_ok hc).1;have hkj:=hIs0.le;refine calls_of Tryz.func61 rfl (m:=68) rfl [(0,vP pb 0),(1,vI (k:Int)),(2,vI (j:Int)),(3,.slice r.q r.t.length r.c)] (Fr_enter [vP pb 0,vI (k:Int),vI (j:Int),.slice r.q r.t.length r.c] 68 (Nat.le_of_ble_eq_true rfl)) ?_;refine WC.seq fun K1 hK1=>WC.region (WL.z (.slice none 0 0) 8 (WL.k hK1 (WC.seq fun K2 hK2=>WC.seq fun K3 hK3=>?_)));have hM0:HP (Out [pE pb cq n cap b6 b4 (fjK K) ga,aE ga n T]) w w [pE pb cq n cap b6 b4 (fjK K) ga,aE ga n T]:=HP.startB hE.own;refine WC.region (WL.z (vI (k:Int)) 13 (WL.z (vI (k:Int)) 9 (WL.k hK3 (WC.block ?_))));refine WC.loop (fun kk0 ll0 ww0=>∃ (i:Nat) (R1:Fl.Tr) (r1:TbI) (T1:Nat→TbI),ll0=[(0,vP pb 0),(2,vI (j:Int)),(3,.slice r1.q r1.t.length r1.c),(9,vI (i:Int))]∧kk0=j-i∧(i≤j)∧(Fl.Is (cdOf c n) R1 i j)∧(Fl.sol (opsK K s y l) (cdOf c n) R1 r1.t (tabs T1)=Fl.sol (opsK K s y l) (cdOf c n) R r.t (tabs T))∧(BrAll (BrPK K s y l m pb cq n cap b6 b4 ga c A B) (BrAK K s y l m pb cq n cap b6 b4 ga c A B) R1)∧(TbOk s y l m ww0 r1)∧(∀ i,TbOk s y l m ww0 (T1 i))∧(HP (Out [pE pb cq n cap b6 b4 (fjK K) ga,aE ga n T]) w ww0 [pE pb cq n cap b6 b4 (fjK K) ga,aE ga n T1])∧HP Tr ww0 ww0 []) (j-k) [(0,vP pb 0),(2,vI (j:Int)),(3,.slice r.q r.t.length r.c),(9,vI (k:Int))] ⟨rfl,rfl,rfl,rfl,trivial⟩ ⟨k,R,r,T,rfl,rfl,hkj,hIs0,rfl,hbr0,hr,hT,hM0,HP.refl _⟩ ?_;rintro kk l w5 ⟨i,R1,r1,T1,rfl,hkk,hi,hIs,hsol,hbr,hr1,hT1,hM,hH6⟩ K4 hK4;have hE1:=hE.keep hM;have hH7:=HP.startB hE1.own;refine WC.seq fun K8 hK8=>WC.seq fun K9 hK9=>WC.region (WL.z (vI (i:Int)) 14 (WL.z (vI (j:Int)) 15 ?_));by_cases hlt:(i:Int)<(j:Int)
 ·
  refine WL.y (.bool true) 16 (x_lss rfl rfl rfl (dT (hlt))) (WL.k hK9 ?_);refine WC.yes rfl ?_;refine WC.skip (WQ.then (hK8 _ _ _ (WC.block (WC.seq fun K10 hK10=>?_))));cases R1 with
  | nil=>have e9:i=j:=hIs;omega
  | one i1 R2 =>
   obtain⟨rfl,hno,hIs2⟩:=hIs;have hopn:Ec.opn (c i1)=false:=Ec.opn_no.2 (fun q=>hno ⟨q.1,by have q9:c i1≤33:=q.2;show c i1≤35;omega⟩);have hEj:=hIs2.le;refine WC.region (WL.z (vP pb 0) 17 (WL.z (vP pb 0) 18 (WL.z (vP pb 5) 19 (WL.y (vS ga n n) 20 (x_load rfl rfl Tryz.underlying69 rfl (HP.cell hH7 0 rfl rfl)) (WL.z (vI (i1:Int)) 21 (WL.z (.slice r1.q r1.t.length r1.c) 22 (WL.y (vP ga i1) 23 (x_ix (i1) (i1) Tryz.underlying69 sz64) ?_)))))));refine WL.store (c':=aR n (upA T1 i1 r1)) (H2:=_) 1 hH7 rfl rfl rfl rfl rfl rfl sz64 rfl (by rw [aR_size];omega) (aR_set n i1 T1 r1) rfl ?_;intro w8 hB8;have hB8:HP (Out [pE pb cq n cap b6 b4 (fjK K) ga,aE ga n T1]) w5 w8 [pE pb cq n cap b6 b4 (fjK K) ga,aE ga n (upA T1 i1 r1)]:=hB8;have hE2:=hE1.keep hB8;have hr2:=hE1.tab hr1 hB8;have hT2:∀ i9,TbOk s y l m w8 (upA T1 i1 r1 i9):=fun i9=>by unfold upA;split;exact hr2;exact hE1.tab (hT1 i9) hB8
   have hH11:=HP.startB hE2.own;refine WL.k hK10 (WC.sb [(0,vP pb 0),(2,vI (j:Int)),(3,.slice r1.q r1.t.length r1.c),(9,vI (i1:Int)),(16,.bool true)] (WC.seq fun K12 hK12=>WC.seq fun K13 hK13=>?_));obtain⟨gc,oc,hqc,hrowc⟩:=hE2.code (by omega);have hgc9:=out_int hE2.own (hrowc i1 (by omega) 0 _ rfl);refine WC.region (WL.z (vP pb 0) 24 (WL.z (vP pb 0) 25 (WL.z (vP pb 0) 26 (WL.y (.slice cq n cap) 27 (x_load rfl rfl Tryz.underlying24 rfl (HP.cell hH11 0 rfl rfl)) (WL.z (vI (i1:Int)) 28 (WL.y (vP gc (oc+i1*3)) 29 (x_idx (b:=gc) (off:=oc) i1 (oc+i1*3) rfl (by rw [← hqc];rfl) rfl Tryz.underlying24 sz51 (by omega) (by omega) (by omega)) (WL.z (vP gc (oc+i1*3)) 30 (WL.y (vI (c i1)) 31 (x_load rfl rfl Tryz.underlying3 rfl ((HP.oldRange hH11 hgc9 (hrowc i1 (by omega))) 0 _ rfl)) ?_))))))));refine WL.c 46 #[vI (c i1)] 32 ?_;refine(Opens_at hopn _).mono ?_;rintro e w14 ⟨rfl,rfl⟩;refine⟨_,rfl,?_⟩;refine WL.z (.bool true) 33 (WL.k hK13 (WC.sb [(0,vP pb 0),(2,vI (j:Int)),(3,.slice r1.q r1.t.length r1.c),(9,vI (i1:Int)),(16,.bool true),(33,.bool true)] ?_));refine WC.yes rfl ?_;refine WC.seq fun K15 hK15=>WC.region (WL.z (vP pb 0) 34 (WL.z (vP pb 0) 35 (WL.z (vP pb 1) 36 (WL.y (.func (.func 33) #[] #[vP b6 0,vP b4 0]) 37 (x_load rfl rfl Tryz.underlying65 rfl (HP.cell hH11 0 rfl rfl)) (WL.z (vI (i1:Int)) 38 (WL.z (.slice r1.q r1.t.length r1.c) 39 ?_))))));have hE4:=hE2.keep hH11;refine WL.c 33 #[vI (i1:Int),.slice r1.q r1.t.length r1.c,vP b6 0,vP b4 0] 40 ?_;refine(doK_any K s y l m i1 r1.q r1.t r1.c b6 b4 _ hE4.how hE4.geo (hE2.tab hr2 hH11).inn hr2.ok (by omega)).mono ?_;rintro e w16 ⟨pv9,cp9,rfl,hb17⟩;refine⟨_,rfl,?_⟩;have hH18:HP (Out [pE pb cq n cap b6 b4 (fjK K) ga,aE ga n (upA T1 i1 r1)]) w8 _ [.cel pb #[.slice cq n cap,.func (.func 33) #[] #[vP b6 0,vP b4 0],.func (.func (fjK K)) #[] #[],.func (.func 34) #[] #[],.func (.func 35) #[] #[],vS ga n n] 71,.cel ga (aR n (upA T1 i1 r1)) 64,rowT pv9 (tcH s y ((i1:Int)/l) (kK K) r1.t).length cp9 (tcH s y ((i1:Int)/l) (kK K) r1.t)]:=HP.trans hH11 hb17
   have hr4:TbOk s y l m _ (⟨pv9,(tcH s y ((i1:Int)/l) (kK K) r1.t),cp9⟩:TbI):=⟨InT.own (HP.get hH18 2 rfl),VT_tc hr2.ok (line_of hg.2.2.1 (by omega))⟩;refine WL.z (.slice pv9 ((tcH s y ((i1:Int)/l) (kK K) r1.t).length) cp9) 3 (WL.k hK15 (WC.sb [(0,vP pb 0),(2,vI (j:Int)),(3,.slice pv9 ((tcH s y ((i1:Int)/l) (kK K) r1.t).length) cp9),(9,vI (i1:Int)),(16,.bool true),(33,.bool true)] (WC.seq fun K19 hK19=>WC.region (WL.z (vI (i1:Int)) 41 (WL.y (vI ((i1+1:Nat):Int)) 42 (x_ad (((i1+1:Nat):Int))) (WL.z (vI ((i1+1:Nat):Int)) 9 (WL.nil (WQ.then ?_))))))));refine hK19 _ _ _ (WC.exit (WQ.thenExit (WQ.inExit ?_)));have hF9:HP (Out [pE pb cq n cap b6 b4 (fjK K) ga,aE ga n (upA T1 i1 r1)]) w8 _ [pE pb cq n cap b6 b4 (fjK K) ga,aE ga n (upA T1 i1 r1)]:=HP.drop hH18 2;refine WQ.sb [(0,vP pb 0),(2,vI (j:Int)),(3,.slice pv9 ((tcH s y ((i1:Int)/l) (kK K) r1.t).length) cp9),(9,vI ((i1+1:Nat):Int))] ?_;refine WQ.then (hK4 _ _ _ (by omega) ⟨i1+1,R2,(⟨pv9,(tcH s y ((i1:Int)/l) (kK K) r1.t),cp9⟩:TbI),(upA T1 i1 r1),rfl,rfl,by omega,hIs2,by rw [tabs_up];exact hsol,hbr,hr4,(fun i9=>hE2.tab (hT2 i9) hF9),HP.exch (A:=[]) hM (HP.exch (A:=[]) hB8 hF9),HP.refl _⟩)
  | plain i1 E Rb R2 =>
   obtain⟨rfl,hop,he1,hd1,ho1,h35,hIb,hIs2⟩:=hIs;have hopn:Ec.opn (c i1)=true:=Ec.opn_iff.2 ⟨hop.1,by have q9:c i1≤32:=hop.2;omega⟩;have hEj:=hIs2.le;have hEb:=hIb.le;obtain⟨hm1,hm2⟩:=ma_of hc (show i1<n by omega) hopn;have hm1:Ec.maA c A B n (i1:Int)=-1:=hm1.trans he1;have hm2:Ec.maE c A B n (i1:Int)=(E:Int):=hm2.trans hd1;refine WC.region (WL.z (vP pb 0) 17 (WL.z (vP pb 0) 18 (WL.z (vP pb 5) 19 (WL.y (vS ga n n) 20 (x_load rfl rfl Tryz.underlying69 rfl (HP.cell hH7 0 rfl rfl)) (WL.z (vI (i1:Int)) 21 (WL.z (.slice r1.q r1.t.length r1.c) 22 (WL.y (vP ga i1) 23 (x_ix (i1) (i1) Tryz.underlying69 sz64) ?_)))))));refine WL.store (c':=aR n (upA T1 i1 r1)) (H2:=_) 1 hH7 rfl rfl rfl rfl rfl rfl sz64 rfl (by rw [aR_size];omega) (aR_set n i1 T1 r1) rfl ?_;intro w8 hB8;have hB8:HP (Out [pE pb cq n cap b6 b4 (fjK K) ga,aE ga n T1]) w5 w8 [pE pb cq n cap b6 b4 (fjK K) ga,aE ga n (upA T1 i1 r1)]:=hB8;have hE2:=hE1.keep hB8;have hr2:=hE1.tab hr1 hB8;have hT2:∀ i9,TbOk s y l m w8 (upA T1 i1 r1 i9):=fun i9=>by unfold upA;split;exact hr2;exact hE1.tab (hT1 i9) hB8
   have hH20:=HP.startB hE2.own;refine WL.k hK10 (WC.sb [(0,vP pb 0),(2,vI (j:Int)),(3,.slice r1.q r1.t.length r1.c),(9,vI (i1:Int)),(16,.bool true)] (WC.seq fun K21 hK21=>WC.seq fun K22 hK22=>?_));obtain⟨gc,oc,hqc,hrowc⟩:=hE2.code (by omega);have hgc9:=out_int hE2.own (hrowc i1 (by omega) 0 _ rfl);refine WC.region (WL.z (vP pb 0) 24 (WL.z (vP pb 0) 25 (WL.z (vP pb 0) 26 (WL.y (.slice cq n cap) 27 (x_load rfl rfl Tryz.underlying24 rfl (HP.cell hH20 0 rfl rfl)) (WL.z (vI (i1:Int)) 28 (WL.y (vP gc (oc+i1*3)) 29 (x_idx (b:=gc) (off:=oc) i1 (oc+i1*3) rfl (by rw [← hqc];rfl) rfl Tryz.underlying24 sz51 (by omega) (by omega) (by omega)) (WL.z (vP gc (oc+i1*3)) 30 (WL.y (vI (c i1)) 31 (x_load rfl rfl Tryz.underlying3 rfl ((HP.oldRange hH20 hgc9 (hrowc i1 (by omega))) 0 _ rfl)) ?_))))))));refine WL.c 46 #[vI (c i1)] 32 ?_;refine(Opens_at hopn _).mono ?_;rintro e w23 ⟨rfl,rfl⟩;refine⟨_,rfl,?_⟩;refine WL.z (.bool false) 33 (WL.k hK22 (WC.sb [(0,vP pb 0),(2,vI (j:Int)),(3,.slice r1.q r1.t.length r1.c),(9,vI (i1:Int)),(16,.bool true),(33,.bool false)] ?_));refine WC.no rfl ?_;refine WC.skip (WQ.then (hK21 _ _ _ (WC.seq fun K24 hK24=>WC.region (WL.z (vP pb 0) 44 (WL.z (vP pb 0) 45 (WL.z (vP pb 0) 46 (WL.y (.slice cq n cap) 47 (x_load rfl rfl Tryz.underlying24 rfl (HP.cell hH20 0 rfl rfl)) (WL.z (vI (i1:Int)) 48 ?_))))))));refine WL.c 47 #[.slice cq n cap,vI (i1:Int)] 49 ?_;refine(Match_at hm1 hm2 _ (hE2.keep hH20).code (by omega) (by omega)).mono ?_;rintro e w25 ⟨rfl,hb26⟩;refine⟨_,rfl,?_⟩;have hH27:=HP.call hH20 hb26;refine WL.z (.tuple #[vI (-1),vI (E:Int),vI (Ec.maF c A B n (i1:Int))]) 43 (WL.z (vI (-1)) 50 (WL.z (vI (E:Int)) 51 (WL.z (vI (Ec.maF c A B n (i1:Int))) 52 (WL.z (vI (-1)) 10 (WL.z (vI (E:Int)) 11 (WL.z (vI (Ec.maF c A B n (i1:Int))) 12 (WL.k hK24 (WC.sb [(0,vP pb 0),(2,vI (j:Int)),(3,.slice r1.q r1.t.length r1.c),(9,vI (i1:Int)),(10,vI (-1)),(11,vI (E:Int)),(16,.bool true),(33,.bool false)] (WC.seq fun K28 hK28=>?_)))))))))
   refine WC.region (WL.z (vP pb 0) 53 (WL.z (vI (i1:Int)) 54 (WL.z (vI (-1)) 55 (WL.z (vI (E:Int)) 56 (WL.z (vP pb 0) 57 (WL.z (vP pb 0) 58 (WL.z (vP pb 1) 59 (WL.y (.func (.func 33) #[] #[vP b6 0,vP b4 0]) 60 (x_load rfl rfl Tryz.underlying65 rfl (HP.cell hH27 0 rfl rfl)) (WL.z (vI (i1:Int)) 61 (WL.z (.slice r1.q r1.t.length r1.c) 62 ?_))))))))));have hE4:=hE2.keep hH27;refine WL.c 33 #[vI (i1:Int),.slice r1.q r1.t.length r1.c,vP b6 0,vP b4 0] 63 ?_;refine(doK_any K s y l m i1 r1.q r1.t r1.c b6 b4 _ hE4.how hE4.geo (hE2.tab hr2 hH27).inn hr2.ok (by omega)).mono ?_;rintro e w29 ⟨pv9,cp9,rfl,hb30⟩;refine⟨_,rfl,?_⟩;have hH31:HP (Out [pE pb cq n cap b6 b4 (fjK K) ga,aE ga n (upA T1 i1 r1)]) w8 _ [.cel pb #[.slice cq n cap,.func (.func 33) #[] #[vP b6 0,vP b4 0],.func (.func (fjK K)) #[] #[],.func (.func 34) #[] #[],.func (.func 35) #[] #[],vS ga n n] 71,.cel ga (aR n (upA T1 i1 r1)) 64,rowT pv9 (tcH s y ((i1:Int)/l) (kK K) r1.t).length cp9 (tcH s y ((i1:Int)/l) (kK K) r1.t)]:=HP.trans hH27 hb30;have hr4:TbOk s y l m _ (⟨pv9,(tcH s y ((i1:Int)/l) (kK K) r1.t),cp9⟩:TbI):=⟨InT.own (HP.get hH31 2 rfl),VT_tc hr2.ok (line_of hg.2.2.1 (by omega))⟩;have hE5:=hE2.keep hH31;have hT5:=fun i9=>hE2.tab (hT2 i9) hH31;refine WL.c 88 #[vP pb 0,vI (i1:Int),vI (-1),vI (E:Int),.slice pv9 ((tcH s y ((i1:Int)/l) (kK K) r1.t).length) cp9] 64 ?_;refine(hbr.1 _ _ (⟨pv9,(tcH s y ((i1:Int)/l) (kK K) r1.t),cp9⟩:TbI) hE5 hr4 hT5).mono ?_;rintro e w9 ⟨r9,T9,rfl,hb9,hr9,hT9,hX9⟩;refine⟨_,rfl,?_⟩;have hH32:HP (Out [pE pb cq n cap b6 b4 (fjK K) ga,aE ga n (upA T1 i1 r1)]) w8 _ [.cel pb #[.slice cq n cap,.func (.func 33) #[] #[vP b6 0,vP b4 0],.func (.func (fjK K)) #[] #[],.func (.func 34) #[] #[],.func (.func 35) #[] #[],vS ga n n] 71,.cel ga (aR n T9) 64,rowT pv9 (tcH s y ((i1:Int)/l) (kK K) r1.t).length cp9 (tcH s y ((i1:Int)/l) (kK K) r1.t)]:=HP.exchF (A:=[pE pb cq n cap b6 b4 (fjK K) ga,aE ga n (upA T1 i1 r1)]) (B:=[rowT pv9 (tcH s y ((i1:Int)/l) (kK K) r1.t).length cp9 (tcH s y ((i1:Int)/l) (kK K) r1.t)]) hH31 hb9
   rw [tabs_up] at hX9;refine WL.z (.slice r9.q r9.t.length r9.c) 3 (WL.k hK28 (WC.sb [(0,vP pb 0),(2,vI (j:Int)),(3,.slice r9.q r9.t.length r9.c),(9,vI (i1:Int)),(10,vI (-1)),(11,vI (E:Int)),(16,.bool true),(33,.bool false)] (WC.region (WL.z (vI (E:Int)) 65 (WL.y (vI ((E+1:Nat):Int)) 66 (x_ad (((E+1:Nat):Int))) (WL.z (vI ((E+1:Nat):Int)) 9 (WL.nil (WQ.inNormal ?_))))))));have hF9:HP (Out [pE pb cq n cap b6 b4 (fjK K) ga,aE ga n (upA T1 i1 r1)]) w8 _ [pE pb cq n cap b6 b4 (fjK K) ga,aE ga n T9]:=HP.drop hH32 2;refine WQ.sb [(0,vP pb 0),(2,vI (j:Int)),(3,.slice r9.q r9.t.length r9.c),(9,vI ((E+1:Nat):Int))] ?_;refine WQ.then (hK4 _ _ _ (by omega) ⟨E+1,R2,r9,T9,rfl,rfl,by omega,hIs2,((congrArg (fun X:List T2 × (Nat→List T2)=>Fl.sol (opsK K s y l) (cdOf c n) R2 X.1 X.2) hX9).trans ((sol_plain (opsK K s y l) (cdOf c n) i1 E Rb R2 r1.t (tabs T1)).symm.trans hsol)),hbr.2,hr9,hT9,HP.exch (A:=[]) hM (HP.exch (A:=[]) hB8 hF9),HP.refl _⟩)
  | alt i1 a1 E Ra Rb R2 =>
   obtain⟨rfl,hop,he1,hd1,hoa,ho1,h34,h35,hIa,hIb,hIs2⟩:=hIs;have hopn:Ec.opn (c i1)=true:=Ec.opn_iff.2 (by rcases hop with q | q <;> (have q:c i1=_:=q) <;> omega);have hEj:=hIs2.le;have hEb:=hIb.le;have hEa:=hIa.le;obtain⟨hm1,hm2⟩:=ma_of hc (show i1<n by omega) hopn;have hm1:Ec.maA c A B n (i1:Int)=(a1:Int):=hm1.trans he1;have hm2:Ec.maE c A B n (i1:Int)=(E:Int):=hm2.trans hd1;refine WC.region (WL.z (vP pb 0) 17 (WL.z (vP pb 0) 18 (WL.z (vP pb 5) 19 (WL.y (vS ga n n) 20 (x_load rfl rfl Tryz.underlying69 rfl (HP.cell hH7 0 rfl rfl)) (WL.z (vI (i1:Int)) 21 (WL.z (.slice r1.q r1.t.length r1.c) 22 (WL.y (vP ga i1) 23 (x_ix (i1) (i1) Tryz.underlying69 sz64) ?_)))))));refine WL.store (c':=aR n (upA T1 i1 r1)) (H2:=_) 1 hH7 rfl rfl rfl rfl rfl rfl sz64 rfl (by rw [aR_size];omega) (aR_set n i1 T1 r1) rfl ?_;intro w8 hB8;have hB8:HP (Out [pE pb cq n cap b6 b4 (fjK K) ga,aE ga n T1]) w5 w8 [pE pb cq n cap b6 b4 (fjK K) ga,aE ga n (upA T1 i1 r1)]:=hB8;have hE2:=hE1.keep hB8;have hr2:=hE1.tab hr1 hB8;have hT2:∀ i9,TbOk s y l m w8 (upA T1 i1 r1 i9):=fun i9=>by unfold upA;split;exact hr2;exact hE1.tab (hT1 i9) hB8
   have hH33:=HP.startB hE2.own;refine WL.k hK10 (WC.sb [(0,vP pb 0),(2,vI (j:Int)),(3,.slice r1.q r1.t.length r1.c),(9,vI (i1:Int)),(16,.bool true)] (WC.seq fun K34 hK34=>WC.seq fun K35 hK35=>?_));obtain⟨gc,oc,hqc,hrowc⟩:=hE2.code (by omega);have hgc9:=out_int hE2.own (hrowc i1 (by omega) 0 _ rfl);refine WC.region (WL.z (vP pb 0) 24 (WL.z (vP pb 0) 25 (WL.z (vP pb 0) 26 (WL.y (.slice cq n cap) 27 (x_load rfl rfl Tryz.underlying24 rfl (HP.cell hH33 0 rfl rfl)) (WL.z (vI (i1:Int)) 28 (WL.y (vP gc (oc+i1*3)) 29 (x_idx (b:=gc) (off:=oc) i1 (oc+i1*3) rfl (by rw [← hqc];rfl) rfl Tryz.underlying24 sz51 (by omega) (by omega) (by omega)) (WL.z (vP gc (oc+i1*3)) 30 (WL.y (vI (c i1)) 31 (x_load rfl rfl Tryz.underlying3 rfl ((HP.oldRange hH33 hgc9 (hrowc i1 (by omega))) 0 _ rfl)) ?_))))))));refine WL.c 46 #[vI (c i1)] 32 ?_;refine(Opens_at hopn _).mono ?_;rintro e w36 ⟨rfl,rfl⟩;refine⟨_,rfl,?_⟩;refine WL.z (.bool false) 33 (WL.k hK35 (WC.sb [(0,vP pb 0),(2,vI (j:Int)),(3,.slice r1.q r1.t.length r1.c),(9,vI (i1:Int)),(16,.bool true),(33,.bool false)] ?_));refine WC.no rfl ?_;refine WC.skip (WQ.then (hK34 _ _ _ (WC.seq fun K37 hK37=>WC.region (WL.z (vP pb 0) 44 (WL.z (vP pb 0) 45 (WL.z (vP pb 0) 46 (WL.y (.slice cq n cap) 47 (x_load rfl rfl Tryz.underlying24 rfl (HP.cell hH33 0 rfl rfl)) (WL.z (vI (i1:Int)) 48 ?_))))))));refine WL.c 47 #[.slice cq n cap,vI (i1:Int)] 49 ?_;refine(Match_at hm1 hm2 _ (hE2.keep hH33).code (by omega) (by omega)).mono ?_;rintro e w38 ⟨rfl,hb39⟩;refine⟨_,rfl,?_⟩;have hH40:=HP.call hH33 hb39;refine WL.z (.tuple #[vI (a1:Int),vI (E:Int),vI (Ec.maF c A B n (i1:Int))]) 43 (WL.z (vI (a1:Int)) 50 (WL.z (vI (E:Int)) 51 (WL.z (vI (Ec.maF c A B n (i1:Int))) 52 (WL.z (vI (a1:Int)) 10 (WL.z (vI (E:Int)) 11 (WL.z (vI (Ec.maF c A B n (i1:Int))) 12 (WL.k hK37 (WC.sb [(0,vP pb 0),(2,vI (j:Int)),(3,.slice r1.q r1.t.length r1.c),(9,vI (i1:Int)),(10,vI (a1:Int)),(11,vI (E:Int)),(16,.bool true),(33,.bool false)] (WC.seq fun K41 hK41=>?_)))))))))
   refine WC.region (WL.z (vP pb 0) 53 (WL.z (vI (i1:Int)) 54 (WL.z (vI (a1:Int)) 55 (WL.z (vI (E:Int)) 56 (WL.z (vP pb 0) 57 (WL.z (vP pb 0) 58 (WL.z (vP pb 1) 59 (WL.y (.func (.func 33) #[] #[vP b6 0,vP b4 0]) 60 (x_load rfl rfl Tryz.underlying65 rfl (HP.cell hH40 0 rfl rfl)) (WL.z (vI (i1:Int)) 61 (WL.z (.slice r1.q r1.t.length r1.c) 62 ?_))))))))));have hE4:=hE2.keep hH40;refine WL.c 33 #[vI (i1:Int),.slice r1.q r1.t.length r1.c,vP b6 0,vP b4 0] 63 ?_;refine(doK_any K s y l m i1 r1.q r1.t r1.c b6 b4 _ hE4.how hE4.geo (hE2.tab hr2 hH40).inn hr2.ok (by omega)).mono ?_;rintro e w42 ⟨pv9,cp9,rfl,hb43⟩;refine⟨_,rfl,?_⟩;have hH44:HP (Out [pE pb cq n cap b6 b4 (fjK K) ga,aE ga n (upA T1 i1 r1)]) w8 _ [.cel pb #[.slice cq n cap,.func (.func 33) #[] #[vP b6 0,vP b4 0],.func (.func (fjK K)) #[] #[],.func (.func 34) #[] #[],.func (.func 35) #[] #[],vS ga n n] 71,.cel ga (aR n (upA T1 i1 r1)) 64,rowT pv9 (tcH s y ((i1:Int)/l) (kK K) r1.t).length cp9 (tcH s y ((i1:Int)/l) (kK K) r1.t)]:=HP.trans hH40 hb43;have hr4:TbOk s y l m _ (⟨pv9,(tcH s y ((i1:Int)/l) (kK K) r1.t),cp9⟩:TbI):=⟨InT.own (HP.get hH44 2 rfl),VT_tc hr2.ok (line_of hg.2.2.1 (by omega))⟩;have hE5:=hE2.keep hH44;have hT5:=fun i9=>hE2.tab (hT2 i9) hH44;refine WL.c 88 #[vP pb 0,vI (i1:Int),vI (a1:Int),vI (E:Int),.slice pv9 ((tcH s y ((i1:Int)/l) (kK K) r1.t).length) cp9] 64 ?_;refine(hbr.1 _ _ (⟨pv9,(tcH s y ((i1:Int)/l) (kK K) r1.t),cp9⟩:TbI) hE5 hr4 hT5).mono ?_;rintro e w9 ⟨r9,T9,rfl,hb9,hr9,hT9,hX9⟩;refine⟨_,rfl,?_⟩;have hH45:HP (Out [pE pb cq n cap b6 b4 (fjK K) ga,aE ga n (upA T1 i1 r1)]) w8 _ [.cel pb #[.slice cq n cap,.func (.func 33) #[] #[vP b6 0,vP b4 0],.func (.func (fjK K)) #[] #[],.func (.func 34) #[] #[],.func (.func 35) #[] #[],vS ga n n] 71,.cel ga (aR n T9) 64,rowT pv9 (tcH s y ((i1:Int)/l) (kK K) r1.t).length cp9 (tcH s y ((i1:Int)/l) (kK K) r1.t)]:=HP.exchF (A:=[pE pb cq n cap b6 b4 (fjK K) ga,aE ga n (upA T1 i1 r1)]) (B:=[rowT pv9 (tcH s y ((i1:Int)/l) (kK K) r1.t).length cp9 (tcH s y ((i1:Int)/l) (kK K) r1.t)]) hH44 hb9
   rw [tabs_up] at hX9;refine WL.z (.slice r9.q r9.t.length r9.c) 3 (WL.k hK41 (WC.sb [(0,vP pb 0),(2,vI (j:Int)),(3,.slice r9.q r9.t.length r9.c),(9,vI (i1:Int)),(10,vI (a1:Int)),(11,vI (E:Int)),(16,.bool true),(33,.bool false)] (WC.region (WL.z (vI (E:Int)) 65 (WL.y (vI ((E+1:Nat):Int)) 66 (x_ad (((E+1:Nat):Int))) (WL.z (vI ((E+1:Nat):Int)) 9 (WL.nil (WQ.inNormal ?_))))))));have hF9:HP (Out [pE pb cq n cap b6 b4 (fjK K) ga,aE ga n (upA T1 i1 r1)]) w8 _ [pE pb cq n cap b6 b4 (fjK K) ga,aE ga n T9]:=HP.drop hH45 2;refine WQ.sb [(0,vP pb 0),(2,vI (j:Int)),(3,.slice r9.q r9.t.length r9.c),(9,vI ((E+1:Nat):Int))] ?_;refine WQ.then (hK4 _ _ _ (by omega) ⟨E+1,R2,r9,T9,rfl,rfl,by omega,hIs2,((congrArg (fun X:List T2 × (Nat→List T2)=>Fl.sol (opsK K s y l) (cdOf c n) R2 X.1 X.2) hX9).trans ((sol_alt (opsK K s y l) (cdOf c n) i1 a1 E Ra Rb R2 r1.t (tabs T1)).symm.trans hsol)),hbr.2,hr9,hT9,HP.exch (A:=[]) hM (HP.exch (A:=[]) hB8 hF9),HP.refl _⟩)
 ·
  refine WL.y (.bool false) 16 (x_lss rfl rfl rfl (dF (hlt))) (WL.k hK9 ?_);refine WC.no rfl ?_;refine WC.exit (WQ.thenExit (WQ.thenExit (WQ.inExit (WQ.then (hK2 _ _ _ (WC.seq fun K46 hK46=>WC.region (WL.z (.slice r1.q r1.t.length r1.c) 67 (WL.z (.slice r1.q r1.t.length r1.c) 8 (WL.nil (WQ.then ?_))))))))));refine hK46 _ _ _ (WC.ret ?_);refine WQ.ret1 8 rfl rfl ?_;cases R1 with
  | nil=>exact⟨r1,T1,rfl,hM,hr1,hT1,hsol⟩
  | one i1 R2=>have q9:=hIs.2.2.le;have q8:=hIs.1;omega
  | plain i1 E Rb R2=>have q9:=hIs.2.2.2.2.2.2.2.le;have q7:=hIs.2.2.2.2.2.2.1.le;have q8:=hIs.1;omega
  | alt i1 a1 E Ra Rb R2=>have q9:=hIs.2.2.2.2.2.2.2.2.2.2.le;have q7:=hIs.2.2.2.2.2.2.2.2.2.1.le;have q6:=hIs.2.2.2.2.2.2.2.2.1.le;have q8:=hIs.1;omega
abbrev BrP0 (s y l m:Int) (pb:Nat) (cq:Option Addr) (n cap b6 b4 ga:Nat) (c A B:Nat→Int) (i E:Nat) (Rb:Fl.Tr):Prop:=BrPK false s y l m pb cq n cap b6 b4 ga c A B i E Rb
abbrev BrA0 (s y l m:Int) (pb:Nat) (cq:Option Addr) (n cap b6 b4 ga:Nat) (c A B:Nat→Int) (i a E:Nat) (Ra Rb:Fl.Tr):Prop:=BrAK false s y l m pb cq n cap b6 b4 ga c A B i a E Ra Rb
abbrev BrP1 (s y l m:Int) (pb:Nat) (cq:Option Addr) (n cap b6 b4 ga:Nat) (c A B:Nat→Int) (i E:Nat) (Rb:Fl.Tr):Prop:=BrPK true s y l m pb cq n cap b6 b4 ga c A B i E Rb
abbrev BrA1 (s y l m:Int) (pb:Nat) (cq:Option Addr) (n cap b6 b4 ga:Nat) (c A B:Nat→Int) (i a E:Nat) (Ra Rb:Fl.Tr):Prop:=BrAK true s y l m pb cq n cap b6 b4 ga c A B i a E Ra Rb
end Ca
end Go.Proofs.YtmjnakhpekbenaaGreat
